/- A machine that carries out code on values that are known, and the proof that the model's runs agree with it: one part. -/
import Derived.Test.YtghlchpignpibaaGreatAbsApp3
import Derived.Laws.BytesString
import Derived.Laws.EntriesVeiled
noncomputable section
namespace Go.Abs
variable {P : Program} {φ : Ren} {H H' : AH} {bar base : Nat} {w : World}

theorem VRs.arr_get {cs as : Array Value} (h : VRs φ cs.toList as.toList) {i : Nat} {a : Value} (ha : as[i]? = some a) : ∃ v, cs[i]? = some v ∧ VR φ v a := by
  obtain ⟨v, h1, h2⟩ := h.get i a (by simpa using ha)
  exact ⟨v, by simpa using h1, h2⟩

theorem snd_copy (hs : Sim φ H bar base w) {ts : Array TypeId} {ty : TypeId} {args' args : Array Value} {a : Value} (hargs : VRs φ args'.toList args.toList)
    (h : aCopy P bar H ts args = some (.val a H')) : SemOk P φ H bar base w (Builtin.copy_ ts ty args') a H' := by
  unfold aCopy at h
  split at h
  · rename_i dt d s hdt hd hsv
    obtain ⟨d', hd', hdr⟩ := hargs.arr_get hd
    obtain ⟨s', hs', hsr⟩ := hargs.arr_get hsv
    split at h
    · rename_i elem hu
      rw [Option.bind_eq_some_iff] at h; obtain ⟨size, hz, h⟩ := h
      rw [Option.bind_eq_some_iff] at h; obtain ⟨dl, hdl, h⟩ := h
      rw [Option.bind_eq_some_iff] at h; obtain ⟨sl, hsl, h⟩ := h
      rw [Option.bind_eq_some_iff] at h; obtain ⟨cells, hc, h⟩ := h
      obtain ⟨vs, hvs, hrun⟩ := firstCells_rel (P := P) hs hsr hc (fun m hm => by rw [hsl] at hm; cases hm; exact Nat.min_le_left _ _)
      have hl := lenOf_rel (P := P) hsr hsl w
      have hfr := hrun w rfl
      split at h
      · cases hdr with
        | sliceNil =>
          injection h with h; injection h with h1 h2
          subst h1; subst h2
          have : dl = 0 := by simpa [aLen] using hdl.symm
          subst this
          refine SemOk.same hs (v := goInt (Nat.min sl 0)) ?_ (.int _ _)
          simp [Builtin.copy_, hdt, hd', hs', run_underlying hu, hl, run_sizeOf' hz]
          simp at hfr
          simp [hfr]
      · rename_i b o len cap
        rw [Option.map_eq_some_iff] at h; obtain ⟨H₁, hw, h⟩ := h
        injection h with h1 h2
        subst h1; subst h2
        have hdl' : len = dl := aLen_slice hdl
        subst hdl'
        have hso := slice_some hdr
        obtain ⟨rb, x, cap', hφ, rfl, hcase⟩ := hso
        rcases hcase with ⟨hle, rfl, hcc⟩ | ⟨rfl, rfl, hcc⟩
        · obtain ⟨w', f1, f2⟩ := run_aWrite P hs hφ hvs hw
          refine ⟨goInt (Nat.min sl len), w', φ, ?_, .int _ _, f2⟩
          simp only [Builtin.copy_, hdt, hd', hs', Sem.run_bind, run_underlying hu, Result.andThen_ok, hl, run_sizeOf' hz, hfr, f1, Sem.run_pure]
        · have h0 : Nat.min sl 0 = 0 := by simp
          rw [h0] at hfr hc
          have hcz : cells = [] := by
            unfold aFirst at hc
            split at hc
            · simpa using hc.symm
            · simpa using hc.symm
            · simpa using hc.symm
            · cases hc
          subst hcz
          have hvz : vs = [] := by cases hvs; rfl
          subst hvz
          have hH : H = H₁ := by simpa [aWrite] using hw
          subst hH
          refine SemOk.same hs (v := goInt (Nat.min sl 0)) ?_ (.int _ _)
          simp only [Builtin.copy_, hdt, hd', hs', Sem.run_bind, run_underlying hu, Result.andThen_ok, hl, run_sizeOf' hz, h0, hfr, Sem.run_pure, storeCells]
      · cases h
    · cases h
  · cases h

theorem run_getObjM {r : Nat} {es : Array MapEntry} {ck : Nat} (h : w.heap[r]? = some (.map es ck)) : (getObj r).run P w = .ok (.map es ck) w := by
  simp [getObj, Sem.run, h]

theorem EntR.length {es as : List MapEntry} (h : EntR φ es as) : es.length = as.length := by
  induction h with
  | nil => rfl
  | cons _ _ _ _ ih => simp [ih]

theorem snd_lenB (hs : Sim φ H bar base w) {ts : Array TypeId} {ty : TypeId} {args' args : Array Value} {a : Value} (hargs : VRs φ args'.toList args.toList)
    (h : aLenB P H ts args = some a) : ∃ v, (Builtin.len_ ts ty args').run P w = .ok v w ∧ VR φ v a := by
  unfold aLenB at h
  split at h
  · rename_i t x ht hx
    obtain ⟨x', hx', hxr⟩ := hargs.arr_get hx
    split at h
    · rename_i s hu
      cases h; cases hxr with
      | string => exact ⟨_, by simp [Builtin.len_, ht, hx', run_underlying hu]; rfl, .int _ _⟩
    · rename_i n e hu
      cases h
      exact ⟨_, by simp [Builtin.len_, ht, hx', run_underlying hu]; rfl, .int _ _⟩
    · rename_i e hu
      cases h; cases hxr with
      | sliceNil => exact ⟨_, by simp [Builtin.len_, ht, hx', run_underlying hu]; rfl, .int _ _⟩
    · rename_i e p n c hu
      cases h; cases hxr with
      | slice => exact ⟨_, by simp [Builtin.len_, ht, hx', run_underlying hu]; rfl, .int _ _⟩
      | sliceE => exact ⟨_, by simp [Builtin.len_, ht, hx', run_underlying hu]; rfl, .int _ _⟩
    · rename_i k e hu
      cases h; cases hxr with
      | mapNil => exact ⟨_, by simp [Builtin.len_, ht, hx', run_underlying hu]; rfl, .int _ _⟩
    · rename_i k e r hu
      split at h
      · rename_i es ck hg
        cases h; cases hxr with
        | map hφ =>
          obtain ⟨es', h1, h2⟩ := hs.obj _ _ _ hφ hg
          have hl := h2.length
          refine ⟨goInt es.length, ?_, .int _ _⟩
          simp [Builtin.len_, ht, hx', run_underlying hu, run_getObjM h1, ← hl]
      · cases h
    · cases h
  · cases h

theorem snd_capB {ts : Array TypeId} {ty : TypeId} {args' args : Array Value} {a : Value} (hargs : VRs φ args'.toList args.toList)
    (h : aCapB P ts args = some a) (w : World) : ∃ v, (Builtin.cap_ ts ty args').run P w = .ok v w ∧ VR φ v a := by
  unfold aCapB at h
  split at h
  · rename_i t x ht hx
    obtain ⟨x', hx', hxr⟩ := hargs.arr_get hx
    split at h
    · rename_i n e hu
      cases h
      exact ⟨_, by simp [Builtin.cap_, ht, hx', run_underlying hu]; rfl, .int _ _⟩
    · rename_i e hu
      cases h; cases hxr with
      | sliceNil => exact ⟨_, by simp [Builtin.cap_, ht, hx', run_underlying hu]; rfl, .int _ _⟩
    · rename_i e p n c hu
      split at h
      · cases h
      · rename_i hc
        cases h; cases hxr with
        | slice hφ hl hcc =>
          rcases hcc with hcc | hcc
          · rw [hcc.1]
            exact ⟨_, by simp [Builtin.cap_, ht, hx', run_underlying hu]; rfl, .int _ _⟩
          · exact absurd hcc.1 hc
        | sliceE hφ ha =>
          rw [ha.resolve_right (fun h => hc h.1)]
          exact ⟨_, by simp [Builtin.cap_, ht, hx', run_underlying hu]; rfl, .int _ _⟩
    · cases h
  · cases h

theorem snd_clear (hs : Sim φ H bar base w) {ts : Array TypeId} {ty : TypeId} {args' args : Array Value} (hargs : VRs φ args'.toList args.toList)
    (h : aClear P bar H ts args = some H') : SemOk P φ H bar base w (Builtin.clear_ ts ty args') (.tuple #[]) H' := by
  unfold aClear at h
  split at h
  · rename_i t x ht hx
    obtain ⟨x', hx', hxr⟩ := hargs.arr_get hx
    split at h
    · rename_i e hu
      cases h; cases hxr with
      | sliceNil => exact SemOk.same hs (v := .tuple #[]) (by simp [Builtin.clear_, ht, hx', run_underlying hu]) (.tuple .nil)
    · rename_i elem b o n c hu
      split at h
      · rename_i h0
        subst h0
        cases h
        obtain ⟨rb, x, cap', hφ, rfl, hcase⟩ := slice_some hxr
        exact SemOk.same hs (v := .tuple #[]) (by simp [Builtin.clear_, ht, hx', run_underlying hu]) (.tuple .nil)
      · rename_i h0
        rw [Option.bind_eq_some_iff] at h; obtain ⟨zv, hz, h⟩ := h
        split at h
        · rename_i hp
          obtain ⟨rb, x, cap', hφ, rfl, hcase⟩ := slice_some hxr
          rcases hcase with ⟨hle, rfl, hcc⟩ | ⟨rfl, rfl, hcc⟩
          · obtain ⟨w', f1, f2⟩ := run_aWrite P hs hφ (plains_refl φ _ (zerosOf_all hp n)) h
            refine ⟨.tuple #[], w', φ, ?_, .tuple .nil, f2⟩
            have hzc := zeroCells_eq zv.cells n
            rw [← hzc] at f1
            obtain ⟨m, rfl⟩ : ∃ m, n = m + 1 := ⟨n - 1, by omega⟩
            simp [Builtin.clear_, ht, hx', run_underlying hu, run_zeroValue' hz, f1]
          · exact absurd rfl h0
        · cases h
    · cases h
  · cases h

theorem snd_makeSlice (hs : Sim φ H bar base w) {t : Nat} {v1 v2 x1 x2 a : Value} (h1 : VR φ v1 x1) (h2 : VR φ v2 x2) (h : aMakeSlice P H t x1 x2 = some (.val a H')) :
    SemOk P φ H bar base w (Instr.makeSlice t v1 v2) a H' := by
  unfold aMakeSlice at h
  split at h
  · rename_i elem k1 l k2 c hu
    cases h1 with
    | int =>
      cases h2 with
      | int =>
        rw [Option.bind_eq_some_iff] at h; obtain ⟨i, hi, h⟩ := h
        rw [Option.bind_eq_some_iff] at h; obtain ⟨zv, hzv, h⟩ := h
        dsimp only at h
        split at h
        · rename_i hc
          obtain ⟨c1, c2, c3, c4, c5, c6⟩ := hc
          rw [Option.map_eq_some_iff] at h; obtain ⟨p, hr, h⟩ := h
          obtain ⟨b, H₁⟩ := p
          injection h with e1 e2
          subst e1; subst e2
          have hzero : i.zero = some zv := by
            unfold zeroT at hzv
            rw [hi] at hzv
            simpa using hzv
          obtain ⟨φ', w', q1, q2, q3⟩ := run_newRow' P hs (plains_refl φ _ (zerosOf_all c6 c.toNat)) hr
          have hwl : IntKind.i64.wrap l = l := by simp [IntKind.wrap, IntKind.bits, IntKind.signed]; omega
          have hwc : IntKind.i64.wrap c = c := by simp [IntKind.wrap, IntKind.bits, IntKind.signed]; omega
          have n1 : ¬ (c < 0) := by omega
          have n2 : ¬ (281474976710656 < (i.bytes : Int) * c) := by omega
          have n3 : ¬ (l < 0) := by omega
          have n4 : ¬ (c < l) := by omega
          have c5' : zv.cells.size = i.size := by simpa using c5
          refine ⟨.slice (some ⟨w.heap.size, 0, none⟩) l.toNat c.toNat, w', φ', ?_, ?_, q2⟩
          · by_cases h0 : c.toNat * i.size = 0
            · have hz0 : zerosOf zv.cells.toList c.toNat = [] := by
                apply List.eq_nil_of_length_eq_zero
                rw [zerosOf_length, c5, h0]
              rw [hz0] at q1
              simp [Instr.makeSlice, run_underlying hu, asInt, asIntOf, typeInfo, hi, Go.sizeOf, hwl, hwc, n1, n2, n3, n4, h0]
              rw [show (Array.map (fun (_ : Nat) => (default : Value)) (Array.range 0)) = #[] from by simp]
              have q1' : (newRow elem #[]).run P w = .ok ⟨w.heap.size, 0, none⟩ w' := by simpa using q1
              rw [q1']
              rfl
            · have hz1 : (Array.range (c.toNat * i.size)).map (fun j => zv.cells[j % zv.cells.size]!) = (zerosOf zv.cells.toList c.toNat).toArray := by
                apply Array.toList_inj.1
                have := zeroCells_eq zv.cells c.toNat
                simp only [Builtin.zeroCells, c5'] at this
                rw [c5', this]
              simp [Instr.makeSlice, run_underlying hu, asInt, asIntOf, typeInfo, zeroValue, hi, hzero, Go.sizeOf, hwl, hwc, n1, n2, n3, n4, h0, hz1, q1]
          · have hv := VR.slice (φ := φ') (o := 0) (len := l.toNat) (cap := c.toNat) (acap := c.toNat) q3 (by omega) (.inl ⟨rfl, by unfold capU; omega⟩)
            simpa using hv
        · cases h
  · cases h

theorem snd_makeMap (hs : Sim φ H bar base w) {t : Nat} {v x : Option Value} {a : Value} (h1 : OptR φ v x) (h : aMakeMap P H t x = some (.val a H')) :
    SemOk P φ H bar base w (Instr.makeMap t v) a H' := by
  have core : ∀ H₁, H.alloc (.map [] 0) = some H₁ → SemOk P φ H bar base w (do pure (.map (some (← newObj (.map #[] 0))))) (.map (some H.next)) H₁ := by
    intro H₁ ha
    have hst := hs.alloc (o := .map #[] 0) ha ⟨w.heap.size, 0, 0, 0, 0⟩ rfl ⟨#[], by show (w.heap.push _)[w.heap.size]? = _; simp, .nil⟩
    refine ⟨.map (some w.heap.size), _, _, ?_, ?_, hst⟩
    · rw [Sem.run_bind]
      rfl
    · have := VR.map (upd_self φ H.next ⟨w.heap.size, 0, 0, 0, 0⟩)
      exact this
  unfold aMakeMap at h
  rw [Option.bind_eq_some_iff] at h; obtain ⟨u, hu, h⟩ := h
  rw [Option.map_eq_some_iff] at h; obtain ⟨H₁, ha, h⟩ := h
  injection h with e1 e2
  subst e1; subst e2
  have hc := core H₁ ha
  cases h1 with
  | none => exact hc
  | some hv =>
    rename_i v x
    split at hu
    · rename_i hq; cases hq
    · rename_i k n hq
      cases hq
      cases hv with
      | int =>
        split at hu
        · rename_i kk ee hm
          obtain ⟨v', w', φ', e1, e2, e3⟩ := hc
          refine ⟨v', w', φ', ?_, e2, e3⟩
          rw [← e1]
          simp [Instr.makeMap, run_underlying hm, asInt, asIntOf]
        · cases hu
    · cases hu

end Go.Abs

noncomputable section
namespace Go.Abs
variable {P : Program} {φ : Ren} {H H' : AH} {bar base : Nat} {w : World}

theorem pureRun_bind {α β : Type} (x : Sem α) (f : α → Sem β) : pureRun P (x >>= f) = (pureRun P x).bind fun a => pureRun P (f a) := by
  show pureRun P (x.bind f) = _
  induction x with
  | pure a => rfl
  | program k ih => exact ih P
  | mark m k ih => exact ih
  | _ => rfl

def FR (φ : Ren) : Option (Nat × Value) → Option (Nat × Value) → Prop
  | none, none => True
  | some (i, v), some (j, a) => i = j ∧ VR φ v a
  | _, _ => False

theorem findNow_rel {d : TypeDesc} {k : Value} : ∀ {es es' : List MapEntry} (i : Nat), EntR φ es' es → keysPlain es = true →
    match Instr.findNow d k es i with
    | none => Instr.findNow d k es' i = none
    | some f => ∃ f', Instr.findNow d k es' i = some f' ∧ FR φ f' f
  | _, _, i, .nil, _ => ⟨none, rfl, trivial⟩
  | _, _, i, .cons (e := e) (a := a) (es := es') (as := es) hk hv hb t, hp => by
    unfold keysPlain at hp
    simp only [List.all_cons, Bool.and_eq_true] at hp
    have he := plain_eq hk hp.1
    have ih := findNow_rel (d := d) (k := k) (i + 1) t hp.2
    simp only [Instr.findNow, he]
    cases hsn : Instr.sameNow d k a.key with
    | none => rfl
    | some b =>
      cases b
      · exact ih
      · exact ⟨_, rfl, rfl, hv⟩

theorem findAsking_rel {kt : TypeId} {k : Value} : ∀ {es es' : List MapEntry} (i : Nat) {f : Option (Nat × Value)}, EntR φ es' es → keysPlain es = true → pureRun P (Instr.findAsking kt k es i) = some f →
    ∃ f', (Instr.findAsking kt k es' i).run P w = .ok f' w ∧ FR φ f' f
  | _, _, i, f, .nil, _, h => by
    simp only [Instr.findAsking] at h
    have : f = none := by
      have : pureRun P (pure none : Sem (Option (Nat × Value))) = some none := rfl
      rw [this] at h
      cases h; rfl
    subst this
    exact ⟨none, rfl, trivial⟩
  | _, _, i, f, .cons (e := e) (a := a) (es := es') (as := es) hk hv hb t, hp, h => by
    unfold keysPlain at hp
    simp only [List.all_cons, Bool.and_eq_true] at hp
    have he := plain_eq hk hp.1
    simp only [Instr.findAsking] at h ⊢
    rw [pureRun_bind, Option.bind_eq_some_iff] at h
    obtain ⟨b, hb1, hb2⟩ := h
    have hr := pureRun_sound P _ _ hb1 w
    rw [Sem.run_bind, he, hr]
    cases b
    · exact findAsking_rel (i + 1) t hp.2 hb2
    · have : f = some (i, a.val) := by
        have e : pureRun P (pure (some (i, a.val)) : Sem (Option (Nat × Value))) = some (some (i, a.val)) := rfl
        simp only [if_true] at hb2
        rw [e] at hb2
        cases hb2; rfl
      subst this
      exact ⟨some (i, e.val), rfl, rfl, hv⟩

theorem find_rel {kt : TypeId} {k : Value} {es es' : List MapEntry} {f : Option (Nat × Value)} (he : EntR φ es' es) (hp : keysPlain es = true) (h : aFind P kt k es = some f) :
    ∃ f', (Instr.findKey kt k es').run P w = .ok f' w ∧ FR φ f' f := by
  unfold aFind Instr.findKey at h
  rw [pureRun_bind, Option.bind_eq_some_iff] at h
  obtain ⟨d, hd, h⟩ := h
  have hu := pureRun_sound P _ _ hd w
  unfold Instr.findKey
  rw [Sem.run_bind, hu]
  simp only [Result.andThen_ok]
  have hn := findNow_rel (d := d) (k := k) 0 he hp
  cases hf : Instr.findNow d k es 0 with
  | none =>
    rw [hf] at hn h
    simp only at hn h
    rw [hn]
    exact findAsking_rel 0 he hp h
  | some g =>
    rw [hf] at hn h
    simp only at hn h
    obtain ⟨f', e1, e2⟩ := hn
    rw [e1]
    have : g = f := by
      have e : pureRun P (pure g : Sem (Option (Nat × Value))) = some g := rfl
      rw [e] at h
      cases h; rfl
    subst this
    exact ⟨f', rfl, e2⟩

theorem EntR.get {es es' : List MapEntry} (h : EntR φ es' es) : ∀ (i : Nat) (e : MapEntry), es[i]? = some e → ∃ e', es'[i]? = some e' ∧ VR φ e'.key e.key ∧ VR φ e'.val e.val ∧ e'.born = e.born := by
  induction h with
  | nil => intro i e h; simp at h
  | cons hk hv hb _ ih =>
    intro i e h
    cases i with
    | zero => simp at h; subst h; exact ⟨_, by simp, hk, hv, hb⟩
    | succ i => simp at h; obtain ⟨e', h1, h2⟩ := ih i e h; exact ⟨e', by simpa using h1, h2⟩

theorem EntR.append {es es' fs fs' : List MapEntry} (h : EntR φ es' es) (k : EntR φ fs' fs) : EntR φ (es' ++ fs') (es ++ fs) := by
  induction h with
  | nil => exact k
  | cons hk hv hb _ ih => exact .cons hk hv hb ih

theorem EntR.eraseIdx {es es' : List MapEntry} (h : EntR φ es' es) : ∀ i, EntR φ (es'.eraseIdx i) (es.eraseIdx i) := by
  induction h with
  | nil => intro i; simpa using .nil
  | cons hk hv hb t ih =>
    intro i
    cases i with
    | zero => simpa using t
    | succ i => simpa using .cons hk hv hb (ih i)

theorem EntR.modify {es es' : List MapEntry} {k v a : Value} (hk : VR φ k k) (hv : VR φ v a) (h : EntR φ es' es) : ∀ i, EntR φ (es'.modify i fun e => { e with key := k, val := v }) (es.modify i fun e => { e with key := k, val := a }) := by
  induction h with
  | nil => intro i; simpa using .nil
  | cons hk' hv' hb t ih =>
    intro i
    cases i with
    | zero => simpa using .cons hk hv hb t
    | succ i => simpa using .cons hk' hv' hb (ih i)

theorem run_setObjM {r : Nat} {es : Array MapEntry} {ck : Nat} (o : Obj) (h : w.heap[r]? = some (.map es ck)) :
    (setObj r o).run P w = .ok () { w with heap := w.heap.setIfInBounds r o } := by
  simp [setObj, Sem.run, h]

theorem Only.setObj (w : World) (r : Nat) (o : Obj) : Only r w { w with heap := w.heap.setIfInBounds r o } :=
  ⟨rfl, rfl, rfl, by simp, fun k hk => by simp only [Array.getElem?_setIfInBounds]; rw [if_neg (by omega)]⟩

theorem map_set (hs : Sim φ H bar base w) {r : Nat} {rb : RB} (hφ : φ r = some rb) (hb : bar ≤ r) {es : List MapEntry} {ck : Nat} (hg : H.get r = some (.map es ck))
    {es' : Array MapEntry} (_h1 : w.heap[rb.c]? = some (.map es' ck)) {fs : List MapEntry} {fs' : Array MapEntry} {ck' : Nat} (hf : EntR φ fs'.toList fs) :
    Step φ H bar base w φ (H.put r (.map fs ck')) { w with heap := w.heap.setIfInBounds rb.c (.map fs' ck') } := by
  refine hs.update hφ hb ⟨_, hg, by simp⟩ (Only.setObj w rb.c _) ⟨fs', ?_, hf⟩
  have hlt : rb.c < w.heap.size := hs.cur _ _ hφ
  show (w.heap.setIfInBounds rb.c _)[rb.c]? = _
  rw [Array.getElem?_setIfInBounds_self_of_lt hlt]

theorem snd_mapUpdate (hs : Sim φ H bar base w) {t : Nat} {m k v m' k' v' : Value} (hm : VR φ m' m) (hk : VR φ k' k) (hv : VR φ v' v) (h : aMapUpdate P bar H t m k v = some H') :
    ∃ w', (Instr.mapUpdate t m' k' v').run P w = .ok () w' ∧ Step φ H bar base w φ H' w' := by
  unfold aMapUpdate at h
  split at h
  · rename_i kt et r hu
    cases hm with
    | map hφ =>
      rename_i rb
      split at h
      · rename_i hc
        simp only [Bool.and_eq_true, decide_eq_true_eq] at hc
        have hkk := plain_eq hk hc.1
        subst hkk
        split at h
        · rename_i es ck hg
          split at h
          · rename_i hp
            rw [Option.bind_eq_some_iff] at h; obtain ⟨u, hck, h⟩ := h
            rw [Option.bind_eq_some_iff] at h; obtain ⟨f, hf, h⟩ := h
            obtain ⟨es', g1, g2⟩ := hs.obj _ _ _ hφ hg
            have hckr := pureRun_sound P _ _ hck w
            obtain ⟨f', hfr, hFR⟩ := find_rel (P := P) (w := w) g2 hp hf
            split at h
            · rename_i i a
              split at h
              · rename_i e he
                split at h
                · rename_i hsb
                  cases h
                  cases f' with
                  | none => exact hFR.elim
                  | some q =>
                    obtain ⟨j, v''⟩ := q
                    obtain ⟨rfl, _⟩ := hFR
                    obtain ⟨e', he', hke, _, _⟩ := g2.get j e he
                    have hpk : plain e.key = true := by
                      unfold keysPlain at hp
                      exact (List.all_eq_true.1 hp) e (List.mem_of_getElem? he)
                    have hkey := plain_eq hke hpk
                    have he'' : es'[j]? = some e' := by simpa using he'
                    refine ⟨_, ?_, map_set hs hφ hc.2 hg g1 (fs' := es'.modify j fun e => { e with key := k', val := v' }) (by simpa using g2.modify hk hv j)⟩
                    simp only [Instr.mapUpdate, Sem.run_bind, run_underlying hu, Result.andThen_ok, run_getObjM g1, hckr, hfr, he'', Option.map_some, Option.getD_some, hkey, Instr.keyThatStays, hsb, if_true, Sem.run_pure, run_setObjM _ g1]
                · cases h
              · cases h
            · cases h
              cases f' with
              | some q => exact hFR.elim
              | none =>
                refine ⟨_, ?_, map_set hs hφ hc.2 hg g1 (fs' := es'.push { key := k', val := v', born := ck }) (by simpa using g2.append (EntR.cons (e := { key := k', val := v', born := ck }) (a := { key := k', val := v, born := ck }) hk hv rfl .nil))⟩
                simp only [Instr.mapUpdate, Sem.run_bind, run_underlying hu, Result.andThen_ok, run_getObjM g1, hckr, hfr, run_setObjM _ g1]
          · cases h
        · cases h
      · cases h
  · cases h

theorem EntR.isEmpty {es' : Array MapEntry} {es : List MapEntry} (h : EntR φ es'.toList es) : es'.isEmpty = es.isEmpty := by
  have := h.length
  cases es with
  | nil => simp at this; simp [this]
  | cons e es =>
    simp at this
    have : es'.size ≠ 0 := by omega
    simp [Array.isEmpty, this]

theorem snd_delete (hs : Sim φ H bar base w) {ts : Array TypeId} {ty : TypeId} {args' args : Array Value} (hargs : VRs φ args'.toList args.toList)
    (h : aDelete P bar H ts args = some H') : SemOk P φ H bar base w (Builtin.delete_ ts ty args') (.tuple #[]) H' := by
  unfold aDelete at h
  split at h
  · rename_i t m k ht hm hk
    obtain ⟨m', hm', hmr⟩ := hargs.arr_get hm
    obtain ⟨k', hk', hkr⟩ := hargs.arr_get hk
    split at h
    · rename_i kt et r hu
      cases hmr with
      | map hφ =>
        rename_i rb
        split at h
        · rename_i hc
          simp only [Bool.and_eq_true, decide_eq_true_eq] at hc
          have hkk := plain_eq hkr hc.1
          subst hkk
          split at h
          · rename_i es ck hg
            split at h
            · rename_i hp
              rw [Option.bind_eq_some_iff] at h; obtain ⟨u, hck, h⟩ := h
              rw [Option.map_eq_some_iff] at h; obtain ⟨f, hf, h⟩ := h
              obtain ⟨es', g1, g2⟩ := hs.obj _ _ _ hφ hg
              rw [← g2.isEmpty] at hck
              have hckr := pureRun_sound P _ _ hck w
              obtain ⟨f', hfr, hFR⟩ := find_rel (P := P) (w := w) g2 hp hf
              split at h
              · rename_i i a
                subst h
                cases f' with
                | none => exact hFR.elim
                | some q =>
                  obtain ⟨j, v''⟩ := q
                  obtain ⟨rfl, _⟩ := hFR
                  refine ⟨.tuple #[], _, _, ?_, .tuple .nil, map_set hs hφ hc.2 hg g1 (fs' := es'.eraseIdxIfInBounds j) (ck' := ck) ?_⟩
                  · simp only [Builtin.delete_, ht, hm', hk', Sem.run_bind, run_underlying hu, Result.andThen_ok, run_getObjM g1, hckr, hfr, run_setObjM _ g1, Sem.run_pure]
                  · have : (es'.eraseIdxIfInBounds j).toList = es'.toList.eraseIdx j := by simp
                    rw [this]
                    exact g2.eraseIdx j
              · subst h
                cases f' with
                | some q => exact hFR.elim
                | none =>
                  refine ⟨.tuple #[], _, _, ?_, .tuple .nil, map_set hs hφ hc.2 hg g1 (fs' := es') (ck' := ck) g2⟩
                  simp only [Builtin.delete_, ht, hm', hk', Sem.run_bind, run_underlying hu, Result.andThen_ok, run_getObjM g1, hckr, hfr, run_setObjM _ g1, Sem.run_pure]
            · cases h
          · cases h
        · cases h
    · cases h
  · cases h

theorem snd_lookup (hs : Sim φ H bar base w) {t : Nat} {m k m' k' a : Value} {ok : Bool} (hm : VR φ m' m) (hk : VR φ k' k) (h : aLookup P H t m k ok = some a) :
    ∃ v, (Instr.lookup t m' k' ok).run P w = .ok v w ∧ VR φ v a := by
  unfold aLookup at h
  split at h
  · rename_i kt et hu
    rw [Option.bind_eq_some_iff] at h; obtain ⟨z, hz, h⟩ := h
    split at h
    · rename_i hc
      simp only [Bool.and_eq_true] at hc
      have hkk := plain_eq hk hc.1
      subst hkk
      rw [Option.bind_eq_some_iff] at h; obtain ⟨es, hes, h⟩ := h
      rw [Option.bind_eq_some_iff] at h; obtain ⟨u, hck, h⟩ := h
      split at h
      · rename_i hp
        rw [Option.map_eq_some_iff] at h; obtain ⟨f, hf, h⟩ := h
        have fin : ∀ es' : Array MapEntry, EntR φ es'.toList es → (∀ f', (Instr.findKey kt k' es'.toList).run P w = .ok f' w → (Instr.checkKey es'.isEmpty 10000 kt k').run P w = .ok () w →
            (Instr.lookup t m' k' ok).run P w = (match f' with
              | some p => .ok (if ok then .tuple #[p.2, .bool true] else p.2) w
              | none => .ok (if ok then .tuple #[z, .bool false] else z) w)) → ∃ v, (Instr.lookup t m' k' ok).run P w = .ok v w ∧ VR φ v a := by
          intro es' g2 hl
          rw [← g2.isEmpty] at hck
          have hckr := pureRun_sound P _ _ hck w
          obtain ⟨f', hfr, hFR⟩ := find_rel (P := P) (w := w) g2 hp hf
          have e := hl f' hfr hckr
          cases f' with
          | none =>
            cases f with
            | some q => exact hFR.elim
            | none =>
              refine ⟨_, e, ?_⟩
              subst h
              cases ok
              · exact plain_refl φ _ hc.2
              · exact .tuple (.cons (plain_refl φ _ hc.2) (.cons (.bool _) .nil))
          | some q' =>
            cases f with
            | none => exact hFR.elim
            | some q =>
              obtain ⟨j, v'⟩ := q'
              obtain ⟨j2, v⟩ := q
              obtain ⟨rfl, hv⟩ := hFR
              refine ⟨_, e, ?_⟩
              subst h
              cases ok
              · exact hv
              · exact .tuple (.cons hv (.cons (.bool _) .nil))
        cases hm with
        | mapNil =>
          cases hes
          refine fin #[] .nil fun f' hfr hckr => ?_
          have hfr : (Instr.findKey kt k' []).run P w = .ok f' w := hfr
          have hckr : (Instr.checkKey true 10000 kt k').run P w = .ok () w := hckr
          unfold Instr.lookup
          cases f' with
          | none => cases ok <;> simp [run_underlying hu, hckr, hfr, run_zeroValue' hz]
          | some q => cases ok <;> simp [run_underlying hu, hckr, hfr]
        | map hφ =>
          simp only at hes
          split at hes
          · rename_i es2 ck hg
            cases hes
            obtain ⟨es', g1, g2⟩ := hs.obj _ _ _ hφ hg
            refine fin es' g2 fun f' hfr hckr => ?_
            unfold Instr.lookup
            cases f' with
            | none => cases ok <;> simp [run_underlying hu, hckr, hfr, run_zeroValue' hz, run_getObjM g1]
            | some q => cases ok <;> simp [run_underlying hu, hckr, hfr, run_getObjM g1]
          · cases hes
        | _ => cases hes
      · cases h
    · cases h
  · cases h

end Go.Abs

noncomputable section
namespace Go.Abs
variable {P : Program} {φ : Ren} {H H' : AH} {bar base : Nat} {w : World}

theorem bytesOf_ints : ∀ {l : List Value} {bs : List UInt8}, bytesOf l = some bs → ∃ ns : List Int, l = ns.map (Value.int .u8) ∧ bs = ns.map fun n => UInt8.ofNat n.toNat
  | [], bs, h => by cases h; exact ⟨[], rfl, rfl⟩
  | v :: l, bs, h => by
    unfold bytesOf at h
    split at h
    · rename_i hq; cases hq
    · rename_i n r hq
      cases hq
      rw [Option.map_eq_some_iff] at h; obtain ⟨b, hb, h⟩ := h
      obtain ⟨ns, h1, h2⟩ := bytesOf_ints hb
      exact ⟨n :: ns, by simp [h1], by simp [← h, h2]⟩
    · cases h

theorem foldl_push : ∀ (ns : List Int) (s : ByteArray), (ns.foldl (fun r n => r.push (UInt8.ofNat n.toNat)) s) = ⟨s.data ++ (ns.map fun n => UInt8.ofNat n.toNat).toArray⟩
  | [], s => by simp
  | n :: ns, s => by
    simp only [List.foldl_cons, foldl_push ns, List.map_cons]
    congr 1
    show (s.data.push _) ++ _ = _
    apply Array.ext'
    simp

theorem new_row' {φ : Ren} {H H' : AH} {bar base : Nat} {w : World} (hs : Sim φ H bar base w) {as : List Value} {t : TypeId} {z : Nat} (ha : H.alloc (.row as t z) = some H') {arr : Array Value} {fz : Nat × Nat}
    (hfz : Unfrozen arr.size fz) (hsz : as.length ≤ arr.size) (hv : ∀ (i : Nat) (a : Value), as[i]? = some a → ∃ v, arr[i]? = some v ∧ VR φ v a) :
    Step φ H bar base w (upd φ H.next ⟨w.heap.size, 0, arr.size, z, as.length⟩) H' (w.alloc (.cells arr t fz)) := by
  refine hs.alloc ha _ rfl ⟨arr, fz, ?_, rfl, ⟨rfl, rfl⟩, by simpa using hsz, fun i a hi => ?_, hfz⟩
  · show (w.heap.push _)[w.heap.size]? = _
    simp
  · obtain ⟨v, h1, h2⟩ := hv i a hi
    exact ⟨v, by simpa using h1, h2.mono (upd_le hs _)⟩

theorem freeze_alloc (w : World) (arr : Array Value) (t : TypeId) : (w.alloc (.cells arr t)).freeze ⟨w.heap.size, arr.size, none⟩ 1 = w.alloc (.cells arr t (arr.size, arr.size + 1)) := by
  unfold World.freeze
  rw [if_neg (by omega)]
  show ({ w with heap := _ } : World) = { w with heap := _ }
  congr 1
  apply Array.ext'
  show ((w.heap.push _).modify w.heap.size _).toList = (w.heap.push _).toList
  apply List.ext_getElem?
  intro i
  simp only [Array.getElem?_toList, Array.getElem?_modify, Array.getElem?_push]
  by_cases hi : w.heap.size = i
  · subst hi; simp
  · rw [if_neg hi]
    rw [if_neg (fun e => hi e.symm), if_neg (fun e => hi e.symm)]

theorem run_markS (u : World) (arr : Array Value) (e : TypeId) : (markStringish ⟨u.heap.size, 0, none⟩).run P (u.alloc (.cells arr e)) = .ok () ((u.alloc (.cells arr e)).freeze ⟨u.heap.size, arr.size, none⟩ 1) := by
  have hg : (u.alloc (.cells arr e)).heap[u.heap.size]? = some (.cells arr e) := by
    show (u.heap.push _)[u.heap.size]? = _
    simp
  have hsh : (u.alloc (.cells arr e)).shape? u.heap.size = some (e, arr.size) := by
    unfold World.shape?
    rw [hg]
  simp only [markStringish, Sem.run_bind, run_shape, hsh, Result.andThen_ok, run_freeze]

/-- The array behind a string's bytes. -/
def strRow (s : ByteArray) (cap : Nat) : Array Value := s.data.map (fun (b : UInt8) => Value.int .u8 b.toNat) ++ Array.replicate (cap - s.size) (Value.int .u8 0)

theorem run_stringToBytes (e : TypeId) (s : ByteArray) : ∃ cap : Nat, s.size ≤ cap ∧ (Conv.stringToBytes e s).run P w = .ok (.slice (some ⟨w.heap.size, 0, none⟩) s.size cap)
    (w.drew.alloc (.cells (strRow s cap) e ((strRow s cap).size, (strRow s cap).size + 1))) := by
  refine ⟨grownCap w s.size 0 e, grownCap_ge _ _ _ _, ?_⟩
  rw [← freeze_alloc]
  unfold Conv.stringToBytes
  have h1 : (choose (.appendCap s.size 0 e)).run P w = .ok (grownCap w s.size 0 e) w.drew := by
    simp [Question.forced, grownCap]
  rw [Sem.run_bind, h1]
  simp only [Result.andThen_ok, Sem.run_bind, run_newRow]
  have h2 := fun arr => run_markS (P := P) w.drew arr e
  unfold strRow
  rw [h2]
  rfl

theorem snd_convert (hs : Sim φ H bar base w) {s d : Nat} {v x a : Value} (hv : VR φ v x) (h : aConvert P H s d x = some (.val a H')) :
    SemOk P φ H bar base w (convert s d v) a H' := by
  unfold aConvert at h
  split at h
  · rename_i ds k k' n hsrc hdst
    injection h with h; injection h with h1 h2
    subst h1; subst h2
    cases hv with
    | int => exact SemOk.same hs (by simp [convert, run_underlying hsrc, run_underlying hdst, Conv.intToInt]) (.int _ _)
  · rename_i e st hsrc hdst
    split at h
    · rename_i he
      rw [Option.map_eq_some_iff] at h; obtain ⟨p, hr, h⟩ := h
      obtain ⟨b, H₁⟩ := p
      injection h with h1 h2
      subst h1; subst h2
      obtain ⟨rfl, hal⟩ := aNewRow_eq hr
      cases hv with
      | string =>
        obtain ⟨cap, hcap, hrun⟩ := run_stringToBytes (P := P) (w := w) e st
        generalize harr : strRow st cap = arr at hrun
        unfold strRow at harr
        have hssz : st.data.size = st.size := rfl
        have hsize : arr.size = cap := by
          rw [← harr]
          simp only [Array.size_append, Array.size_map, Array.size_replicate, hssz]
          omega
        have hst := new_row' hs.drew hal (arr := arr) (fz := (arr.size, arr.size + 1)) (fun i h1 h2 => by simp at h2; omega) (by simp [hssz]; omega) (fun i a hi => by
          have hlt : i < st.size := by have := (List.getElem?_eq_some_iff.1 hi).1; simpa using this
          refine ⟨a, ?_, ?_⟩
          · rw [← harr, Array.getElem?_append_left (by simpa [hssz] using hlt)]
            simpa using hi
          · simp only [List.getElem?_map, Option.map_eq_some_iff] at hi
            obtain ⟨b, _, rfl⟩ := hi
            exact .int _ _)
        refine ⟨.slice (some ⟨w.heap.size, 0, none⟩) st.size cap, _, _, ?_, ?_, (Step.drew hs).trans hst⟩
        · rw [← hrun]
          simp [convert, run_underlying hsrc, run_underlying hdst, run_underlying he]
        · have hφ := upd_self φ H.next ⟨w.drew.heap.size, 0, arr.size, 1, (st.data.toList.map fun b => Value.int .u8 b.toNat).length⟩
          have := VR.slice (φ := upd φ H.next _) (o := 0) (len := st.size) (cap := cap) (acap := capU) hφ hcap (.inr ⟨rfl, by simp only [hsize]; omega, by simp [hssz]; omega⟩)
          simpa using this
    · cases h
  · rename_i e hsrc hdst
    split at h
    · rename_i he
      injection h with h; injection h with h1 h2
      subst h1; subst h2
      cases hv with
      | sliceNil => exact SemOk.same hs (v := .string .empty) (by rw [run_convert_bytes_string w s d e _ _ _ hsrc he hdst]; rfl) (.string _)
    · cases h
  · rename_i e b o len cap hsrc hdst
    split at h
    · rename_i he
      rw [Option.map_eq_some_iff] at h; obtain ⟨l, hl, h⟩ := h
      injection h with h1 h2
      subst h1; subst h2
      rw [Option.bind_eq_some_iff] at hl; obtain ⟨vs, hvs, hl⟩ := hl
      obtain ⟨ns, e1, e2⟩ := bytesOf_ints hl
      have hload : ∃ (r : RB) (x cap' : Nat), v = .slice (some ⟨r.c, x, none⟩) len cap' ∧ (loadCells ⟨r.c, x, none⟩ len).run P w = .ok (ns.map (Value.int .u8)).toArray w := by
        obtain ⟨rb, x, cap', hφ, rfl, hcase⟩ := slice_some hv
        refine ⟨rb, x, cap', rfl, ?_⟩
        by_cases h0 : len = 0
        · rw [if_pos h0] at hvs
          cases hvs
          have : ns = [] := by simpa using e1.symm
          subst this
          simp [h0, loadCells, loadCellsFrom]
        · rw [if_neg h0] at hvs
          rcases hcase with ⟨_, rfl, _⟩ | ⟨hz, _⟩
          · unfold rowCells at hvs
            split at hvs
            · rename_i c t z hg
              obtain ⟨us, f1, f2⟩ := load_row P hs hφ hg hvs
              have hus : us = vs := by
                refine plains_eq f1 ?_
                rw [e1, List.all_eq_true]
                intro q hq
                simp only [List.mem_map] at hq
                obtain ⟨n, _, rfl⟩ := hq
                rfl
              rw [f2, hus, e1]
            · cases hvs
          · exact absurd hz h0
      obtain ⟨r, x, cap', rfl, hload⟩ := hload
      have hr := run_bytesToString w ⟨r.c, x, none⟩ len cap' ns hload
      refine SemOk.same hs (v := .string ⟨l.toArray⟩) ?_ (.string _)
      rw [run_convert_bytes_string w s d e _ _ _ hsrc he hdst, hr, foldl_push, e2]
      congr 2
      simp
    · cases h
  · rename_i st hsrc hdst
    injection h with h; injection h with h1 h2
    subst h1; subst h2
    cases hv with
    | string => exact SemOk.same hs (by simp [convert, run_underlying hsrc, run_underlying hdst]) (.string _)
  · cases h

theorem snd_pure1 {s : Value → Sem Value} {v x a : Value} (hv : VR φ v x) (hp : plain1 x = true) (h : (pureRun P (s x)).bind (fun r => if plain1 r then some r else none) = some a) (w : World) :
    ∃ u, (s v).run P w = .ok u w ∧ VR φ u a := by
  have := plain1_eq hv hp
  subst this
  rw [Option.bind_eq_some_iff] at h
  obtain ⟨r, h1, h2⟩ := h
  split at h2
  · rename_i hpr
    cases h2
    exact ⟨a, pureRun_sound P _ _ h1 w, plain1_refl φ _ hpr⟩
  · cases h2

theorem snd_pures {s : Array Value → Sem Value} {vs xs : Array Value} {a : Value} (hv : VRs φ vs.toList xs.toList) (hp : xs.toList.all plain1 = true) (h : (pureRun P (s xs)).bind (fun r => if plain1 r then some r else none) = some a) (w : World) :
    ∃ u, (s vs).run P w = .ok u w ∧ VR φ u a := by
  have := plains_eq hv hp
  have : vs = xs := Array.toList_inj.1 this
  subst this
  rw [Option.bind_eq_some_iff] at h
  obtain ⟨r, h1, h2⟩ := h
  split at h2
  · rename_i hpr
    cases h2
    exact ⟨a, pureRun_sound P _ _ h1 w, plain1_refl φ _ hpr⟩
  · cases h2

end Go.Abs
