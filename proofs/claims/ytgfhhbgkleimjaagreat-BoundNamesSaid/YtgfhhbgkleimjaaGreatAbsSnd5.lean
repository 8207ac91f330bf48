/- A machine that carries out code on values that are known, and the proof that the model's runs agree with it: one part. -/
import Derived.Test.YtgfhhbgkleimjaaGreatAbsSnd4
noncomputable section
namespace Go.Abs
variable {P : Program} {φ : Ren} {H H' : AH} {bar base : Nat} {w : World}

theorem pureRun_bind {α β : Type} (x : Sem α) (f : α → Sem β) : pureRun P (x >>= f) = (pureRun P x).bind fun a => pureRun P (f a) := by
  show pureRun P (x.bind f) = _
  induction x with
  | pure a => rfl
  | program k ih => exact ih P
  | mark m k ih => exact ih
  | _ => rfl

def FR (φ : Ren) : Option (Nat × Value) → Option (Nat × Value) → Prop
  | none, none => True
  | some (i, v), some (j, a) => i = j ∧ VR φ v a
  | _, _ => False

theorem findNow_rel {d : TypeDesc} {k : Value} : ∀ {es es' : List MapEntry} (i : Nat), EntR φ es' es → keysPlain es = true →
    match Instr.findNow d k es i with
    | none => Instr.findNow d k es' i = none
    | some f => ∃ f', Instr.findNow d k es' i = some f' ∧ FR φ f' f
  | _, _, i, .nil, _ => ⟨none, rfl, trivial⟩
  | _, _, i, .cons (e := e) (a := a) (es := es') (as := es) hk hv hb t, hp => by
    unfold keysPlain at hp
    simp only [List.all_cons, Bool.and_eq_true] at hp
    have he := plain_eq hk hp.1
    have ih := findNow_rel (d := d) (k := k) (i + 1) t hp.2
    simp only [Instr.findNow, he]
    cases hsn : Instr.sameNow d k a.key with
    | none => rfl
    | some b =>
      cases b
      · exact ih
      · exact ⟨_, rfl, rfl, hv⟩

theorem findAsking_rel {kt : TypeId} {k : Value} : ∀ {es es' : List MapEntry} (i : Nat) {f : Option (Nat × Value)}, EntR φ es' es → keysPlain es = true → pureRun P (Instr.findAsking kt k es i) = some f →
    ∃ f', (Instr.findAsking kt k es' i).run P w = .ok f' w ∧ FR φ f' f
  | _, _, i, f, .nil, _, h => by
    simp only [Instr.findAsking] at h
    have : f = none := by
      have : pureRun P (pure none : Sem (Option (Nat × Value))) = some none := rfl
      rw [this] at h
      cases h; rfl
    subst this
    exact ⟨none, rfl, trivial⟩
  | _, _, i, f, .cons (e := e) (a := a) (es := es') (as := es) hk hv hb t, hp, h => by
    unfold keysPlain at hp
    simp only [List.all_cons, Bool.and_eq_true] at hp
    have he := plain_eq hk hp.1
    simp only [Instr.findAsking] at h ⊢
    rw [pureRun_bind, Option.bind_eq_some_iff] at h
    obtain ⟨b, hb1, hb2⟩ := h
    have hr := pureRun_sound P _ _ hb1 w
    rw [Sem.run_bind, he, hr]
    cases b
    · exact findAsking_rel (i + 1) t hp.2 hb2
    · have : f = some (i, a.val) := by
        have e : pureRun P (pure (some (i, a.val)) : Sem (Option (Nat × Value))) = some (some (i, a.val)) := rfl
        simp only [if_true] at hb2
        rw [e] at hb2
        cases hb2; rfl
      subst this
      exact ⟨some (i, e.val), rfl, rfl, hv⟩

theorem find_rel {kt : TypeId} {k : Value} {es es' : List MapEntry} {f : Option (Nat × Value)} (he : EntR φ es' es) (hp : keysPlain es = true) (h : aFind P kt k es = some f) :
    ∃ f', (Instr.findKey kt k es').run P w = .ok f' w ∧ FR φ f' f := by
  unfold aFind Instr.findKey at h
  rw [pureRun_bind, Option.bind_eq_some_iff] at h
  obtain ⟨d, hd, h⟩ := h
  have hu := pureRun_sound P _ _ hd w
  unfold Instr.findKey
  rw [Sem.run_bind, hu]
  simp only [Result.andThen_ok]
  have hn := findNow_rel (d := d) (k := k) 0 he hp
  cases hf : Instr.findNow d k es 0 with
  | none =>
    rw [hf] at hn h
    simp only at hn h
    rw [hn]
    exact findAsking_rel 0 he hp h
  | some g =>
    rw [hf] at hn h
    simp only at hn h
    obtain ⟨f', e1, e2⟩ := hn
    rw [e1]
    have : g = f := by
      have e : pureRun P (pure g : Sem (Option (Nat × Value))) = some g := rfl
      rw [e] at h
      cases h; rfl
    subst this
    exact ⟨f', rfl, e2⟩

theorem EntR.get {es es' : List MapEntry} (h : EntR φ es' es) : ∀ (i : Nat) (e : MapEntry), es[i]? = some e → ∃ e', es'[i]? = some e' ∧ VR φ e'.key e.key ∧ VR φ e'.val e.val ∧ e'.born = e.born := by
  induction h with
  | nil => intro i e h; simp at h
  | cons hk hv hb _ ih =>
    intro i e h
    cases i with
    | zero => simp at h; subst h; exact ⟨_, by simp, hk, hv, hb⟩
    | succ i => simp at h; obtain ⟨e', h1, h2⟩ := ih i e h; exact ⟨e', by simpa using h1, h2⟩

theorem EntR.append {es es' fs fs' : List MapEntry} (h : EntR φ es' es) (k : EntR φ fs' fs) : EntR φ (es' ++ fs') (es ++ fs) := by
  induction h with
  | nil => exact k
  | cons hk hv hb _ ih => exact .cons hk hv hb ih

theorem EntR.eraseIdx {es es' : List MapEntry} (h : EntR φ es' es) : ∀ i, EntR φ (es'.eraseIdx i) (es.eraseIdx i) := by
  induction h with
  | nil => intro i; simpa using .nil
  | cons hk hv hb t ih =>
    intro i
    cases i with
    | zero => simpa using t
    | succ i => simpa using .cons hk hv hb (ih i)

theorem EntR.modify {es es' : List MapEntry} {k v a : Value} (hk : VR φ k k) (hv : VR φ v a) (h : EntR φ es' es) : ∀ i, EntR φ (es'.modify i fun e => { e with key := k, val := v }) (es.modify i fun e => { e with key := k, val := a }) := by
  induction h with
  | nil => intro i; simpa using .nil
  | cons hk' hv' hb t ih =>
    intro i
    cases i with
    | zero => simpa using .cons hk hv hb t
    | succ i => simpa using .cons hk' hv' hb (ih i)

theorem run_setObjM {r : Nat} {es : Array MapEntry} {ck : Nat} (o : Obj) (h : w.heap[r]? = some (.map es ck)) :
    (setObj r o).run P w = .ok () { w with heap := w.heap.setIfInBounds r o } := by
  simp [setObj, Sem.run, h]

theorem Only.setObj (w : World) (r : Nat) (o : Obj) : Only r w { w with heap := w.heap.setIfInBounds r o } :=
  ⟨rfl, rfl, rfl, by simp, fun k hk => by simp only [Array.getElem?_setIfInBounds]; rw [if_neg (by omega)]⟩

theorem map_set (hs : Sim φ H bar base w) {r : Nat} {rb : RB} (hφ : φ r = some rb) (hb : bar ≤ r) {es : List MapEntry} {ck : Nat} (hg : H.get r = some (.map es ck))
    {es' : Array MapEntry} (_h1 : w.heap[rb.c]? = some (.map es' ck)) {fs : List MapEntry} {fs' : Array MapEntry} {ck' : Nat} (hf : EntR φ fs'.toList fs) :
    Step φ H bar base w φ (H.put r (.map fs ck')) { w with heap := w.heap.setIfInBounds rb.c (.map fs' ck') } := by
  refine hs.update hφ hb ⟨_, hg, by simp⟩ (Only.setObj w rb.c _) ⟨fs', ?_, hf⟩
  have hlt : rb.c < w.heap.size := hs.cur _ _ hφ
  show (w.heap.setIfInBounds rb.c _)[rb.c]? = _
  rw [Array.getElem?_setIfInBounds_self_of_lt hlt]

theorem snd_mapUpdate (hs : Sim φ H bar base w) {t : Nat} {m k v m' k' v' : Value} (hm : VR φ m' m) (hk : VR φ k' k) (hv : VR φ v' v) (h : aMapUpdate P bar H t m k v = some H') :
    ∃ w', (Instr.mapUpdate t m' k' v').run P w = .ok () w' ∧ Step φ H bar base w φ H' w' := by
  unfold aMapUpdate at h
  split at h
  · rename_i kt et r hu
    cases hm with
    | map hφ =>
      rename_i rb
      split at h
      · rename_i hc
        simp only [Bool.and_eq_true, decide_eq_true_eq] at hc
        have hkk := plain_eq hk hc.1
        subst hkk
        split at h
        · rename_i es ck hg
          split at h
          · rename_i hp
            rw [Option.bind_eq_some_iff] at h; obtain ⟨u, hck, h⟩ := h
            rw [Option.bind_eq_some_iff] at h; obtain ⟨f, hf, h⟩ := h
            obtain ⟨es', g1, g2⟩ := hs.obj _ _ _ hφ hg
            have hckr := pureRun_sound P _ _ hck w
            obtain ⟨f', hfr, hFR⟩ := find_rel (P := P) (w := w) g2 hp hf
            split at h
            · rename_i i a
              split at h
              · rename_i e he
                split at h
                · rename_i hsb
                  cases h
                  cases f' with
                  | none => exact hFR.elim
                  | some q =>
                    obtain ⟨j, v''⟩ := q
                    obtain ⟨rfl, _⟩ := hFR
                    obtain ⟨e', he', hke, _, _⟩ := g2.get j e he
                    have hpk : plain e.key = true := by
                      unfold keysPlain at hp
                      exact (List.all_eq_true.1 hp) e (List.mem_of_getElem? he)
                    have hkey := plain_eq hke hpk
                    have he'' : es'[j]? = some e' := by simpa using he'
                    refine ⟨_, ?_, map_set hs hφ hc.2 hg g1 (fs' := es'.modify j fun e => { e with key := k', val := v' }) (by simpa using g2.modify hk hv j)⟩
                    simp only [Instr.mapUpdate, Sem.run_bind, run_underlying hu, Result.andThen_ok, run_getObjM g1, hckr, hfr, he'', Option.map_some, Option.getD_some, hkey, Instr.keyThatStays, hsb, if_true, Sem.run_pure, run_setObjM _ g1]
                · cases h
              · cases h
            · cases h
              cases f' with
              | some q => exact hFR.elim
              | none =>
                refine ⟨_, ?_, map_set hs hφ hc.2 hg g1 (fs' := es'.push { key := k', val := v', born := ck }) (by simpa using g2.append (EntR.cons (e := { key := k', val := v', born := ck }) (a := { key := k', val := v, born := ck }) hk hv rfl .nil))⟩
                simp only [Instr.mapUpdate, Sem.run_bind, run_underlying hu, Result.andThen_ok, run_getObjM g1, hckr, hfr, run_setObjM _ g1]
          · cases h
        · cases h
      · cases h
  · cases h

theorem EntR.isEmpty {es' : Array MapEntry} {es : List MapEntry} (h : EntR φ es'.toList es) : es'.isEmpty = es.isEmpty := by
  have := h.length
  cases es with
  | nil => simp at this; simp [this]
  | cons e es =>
    simp at this
    have : es'.size ≠ 0 := by omega
    simp [Array.isEmpty, this]

theorem snd_delete (hs : Sim φ H bar base w) {ts : Array TypeId} {ty : TypeId} {args' args : Array Value} (hargs : VRs φ args'.toList args.toList)
    (h : aDelete P bar H ts args = some H') : SemOk P φ H bar base w (Builtin.delete_ ts ty args') (.tuple #[]) H' := by
  unfold aDelete at h
  split at h
  · rename_i t m k ht hm hk
    obtain ⟨m', hm', hmr⟩ := hargs.arr_get hm
    obtain ⟨k', hk', hkr⟩ := hargs.arr_get hk
    split at h
    · rename_i kt et r hu
      cases hmr with
      | map hφ =>
        rename_i rb
        split at h
        · rename_i hc
          simp only [Bool.and_eq_true, decide_eq_true_eq] at hc
          have hkk := plain_eq hkr hc.1
          subst hkk
          split at h
          · rename_i es ck hg
            split at h
            · rename_i hp
              rw [Option.bind_eq_some_iff] at h; obtain ⟨u, hck, h⟩ := h
              rw [Option.map_eq_some_iff] at h; obtain ⟨f, hf, h⟩ := h
              obtain ⟨es', g1, g2⟩ := hs.obj _ _ _ hφ hg
              rw [← g2.isEmpty] at hck
              have hckr := pureRun_sound P _ _ hck w
              obtain ⟨f', hfr, hFR⟩ := find_rel (P := P) (w := w) g2 hp hf
              split at h
              · rename_i i a
                subst h
                cases f' with
                | none => exact hFR.elim
                | some q =>
                  obtain ⟨j, v''⟩ := q
                  obtain ⟨rfl, _⟩ := hFR
                  refine ⟨.tuple #[], _, _, ?_, .tuple .nil, map_set hs hφ hc.2 hg g1 (fs' := es'.eraseIdxIfInBounds j) (ck' := ck) ?_⟩
                  · simp only [Builtin.delete_, ht, hm', hk', Sem.run_bind, run_underlying hu, Result.andThen_ok, run_getObjM g1, hckr, hfr, run_setObjM _ g1, Sem.run_pure]
                  · have : (es'.eraseIdxIfInBounds j).toList = es'.toList.eraseIdx j := by simp
                    rw [this]
                    exact g2.eraseIdx j
              · subst h
                cases f' with
                | some q => exact hFR.elim
                | none =>
                  refine ⟨.tuple #[], _, _, ?_, .tuple .nil, map_set hs hφ hc.2 hg g1 (fs' := es') (ck' := ck) g2⟩
                  simp only [Builtin.delete_, ht, hm', hk', Sem.run_bind, run_underlying hu, Result.andThen_ok, run_getObjM g1, hckr, hfr, run_setObjM _ g1, Sem.run_pure]
            · cases h
          · cases h
        · cases h
    · cases h
  · cases h

theorem snd_lookup (hs : Sim φ H bar base w) {t : Nat} {m k m' k' a : Value} {ok : Bool} (hm : VR φ m' m) (hk : VR φ k' k) (h : aLookup P H t m k ok = some a) :
    ∃ v, (Instr.lookup t m' k' ok).run P w = .ok v w ∧ VR φ v a := by
  unfold aLookup at h
  split at h
  · rename_i kt et hu
    rw [Option.bind_eq_some_iff] at h; obtain ⟨z, hz, h⟩ := h
    split at h
    · rename_i hc
      simp only [Bool.and_eq_true] at hc
      have hkk := plain_eq hk hc.1
      subst hkk
      rw [Option.bind_eq_some_iff] at h; obtain ⟨es, hes, h⟩ := h
      rw [Option.bind_eq_some_iff] at h; obtain ⟨u, hck, h⟩ := h
      split at h
      · rename_i hp
        rw [Option.map_eq_some_iff] at h; obtain ⟨f, hf, h⟩ := h
        have fin : ∀ es' : Array MapEntry, EntR φ es'.toList es → (∀ f', (Instr.findKey kt k' es'.toList).run P w = .ok f' w → (Instr.checkKey es'.isEmpty 10000 kt k').run P w = .ok () w →
            (Instr.lookup t m' k' ok).run P w = (match f' with
              | some p => .ok (if ok then .tuple #[p.2, .bool true] else p.2) w
              | none => .ok (if ok then .tuple #[z, .bool false] else z) w)) → ∃ v, (Instr.lookup t m' k' ok).run P w = .ok v w ∧ VR φ v a := by
          intro es' g2 hl
          rw [← g2.isEmpty] at hck
          have hckr := pureRun_sound P _ _ hck w
          obtain ⟨f', hfr, hFR⟩ := find_rel (P := P) (w := w) g2 hp hf
          have e := hl f' hfr hckr
          cases f' with
          | none =>
            cases f with
            | some q => exact hFR.elim
            | none =>
              refine ⟨_, e, ?_⟩
              subst h
              cases ok
              · exact plain_refl φ _ hc.2
              · exact .tuple (.cons (plain_refl φ _ hc.2) (.cons (.bool _) .nil))
          | some q' =>
            cases f with
            | none => exact hFR.elim
            | some q =>
              obtain ⟨j, v'⟩ := q'
              obtain ⟨j2, v⟩ := q
              obtain ⟨rfl, hv⟩ := hFR
              refine ⟨_, e, ?_⟩
              subst h
              cases ok
              · exact hv
              · exact .tuple (.cons hv (.cons (.bool _) .nil))
        cases hm with
        | mapNil =>
          cases hes
          refine fin #[] .nil fun f' hfr hckr => ?_
          have hfr : (Instr.findKey kt k' []).run P w = .ok f' w := hfr
          have hckr : (Instr.checkKey true 10000 kt k').run P w = .ok () w := hckr
          unfold Instr.lookup
          cases f' with
          | none => cases ok <;> simp [run_underlying hu, hckr, hfr, run_zeroValue' hz]
          | some q => cases ok <;> simp [run_underlying hu, hckr, hfr]
        | map hφ =>
          simp only at hes
          split at hes
          · rename_i es2 ck hg
            cases hes
            obtain ⟨es', g1, g2⟩ := hs.obj _ _ _ hφ hg
            refine fin es' g2 fun f' hfr hckr => ?_
            unfold Instr.lookup
            cases f' with
            | none => cases ok <;> simp [run_underlying hu, hckr, hfr, run_zeroValue' hz, run_getObjM g1]
            | some q => cases ok <;> simp [run_underlying hu, hckr, hfr, run_getObjM g1]
          · cases hes
        | _ => cases hes
      · cases h
    · cases h
  · cases h

end Go.Abs
