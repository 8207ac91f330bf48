/- A machine that carries out code on values that are known, and the proof that the model's runs agree with it: one part. -/
import Derived.Test.YtgfhhbgkleimjaaGreatAbsApp3
import Derived.Laws.BytesString
import Derived.Laws.EntriesVeiled
noncomputable section
namespace Go.Abs
variable {P : Program} {φ : Ren} {H H' : AH} {bar base : Nat} {w : World}

theorem VRs.arr_get {cs as : Array Value} (h : VRs φ cs.toList as.toList) {i : Nat} {a : Value} (ha : as[i]? = some a) : ∃ v, cs[i]? = some v ∧ VR φ v a := by
  obtain ⟨v, h1, h2⟩ := h.get i a (by simpa using ha)
  exact ⟨v, by simpa using h1, h2⟩

theorem snd_copy (hs : Sim φ H bar base w) {ts : Array TypeId} {ty : TypeId} {args' args : Array Value} {a : Value} (hargs : VRs φ args'.toList args.toList)
    (h : aCopy P bar H ts args = some (.val a H')) : SemOk P φ H bar base w (Builtin.copy_ ts ty args') a H' := by
  unfold aCopy at h
  split at h
  · rename_i dt d s hdt hd hsv
    obtain ⟨d', hd', hdr⟩ := hargs.arr_get hd
    obtain ⟨s', hs', hsr⟩ := hargs.arr_get hsv
    split at h
    · rename_i elem hu
      rw [Option.bind_eq_some_iff] at h; obtain ⟨size, hz, h⟩ := h
      rw [Option.bind_eq_some_iff] at h; obtain ⟨dl, hdl, h⟩ := h
      rw [Option.bind_eq_some_iff] at h; obtain ⟨sl, hsl, h⟩ := h
      rw [Option.bind_eq_some_iff] at h; obtain ⟨cells, hc, h⟩ := h
      obtain ⟨vs, hvs, hrun⟩ := firstCells_rel (P := P) hs hsr hc (fun m hm => by rw [hsl] at hm; cases hm; exact Nat.min_le_left _ _)
      have hl := lenOf_rel (P := P) hsr hsl w
      have hfr := hrun w rfl
      split at h
      · cases hdr with
        | sliceNil =>
          injection h with h; injection h with h1 h2
          subst h1; subst h2
          have : dl = 0 := by simpa [aLen] using hdl.symm
          subst this
          refine SemOk.same hs (v := goInt (Nat.min sl 0)) ?_ (.int _ _)
          simp [Builtin.copy_, hdt, hd', hs', run_underlying hu, hl, run_sizeOf' hz]
          simp at hfr
          simp [hfr]
      · rename_i b o len cap
        rw [Option.map_eq_some_iff] at h; obtain ⟨H₁, hw, h⟩ := h
        injection h with h1 h2
        subst h1; subst h2
        have hdl' : len = dl := aLen_slice hdl
        subst hdl'
        have hso := slice_some hdr
        obtain ⟨rb, x, cap', hφ, rfl, hcase⟩ := hso
        rcases hcase with ⟨hle, rfl, hcc⟩ | ⟨rfl, rfl, hcc⟩
        · obtain ⟨w', f1, f2⟩ := run_aWrite P hs hφ hvs hw
          refine ⟨goInt (Nat.min sl len), w', φ, ?_, .int _ _, f2⟩
          simp only [Builtin.copy_, hdt, hd', hs', Sem.run_bind, run_underlying hu, Result.andThen_ok, hl, run_sizeOf' hz, hfr, f1, Sem.run_pure]
        · have h0 : Nat.min sl 0 = 0 := by simp
          rw [h0] at hfr hc
          have hcz : cells = [] := by
            unfold aFirst at hc
            split at hc
            · simpa using hc.symm
            · simpa using hc.symm
            · simpa using hc.symm
            · cases hc
          subst hcz
          have hvz : vs = [] := by cases hvs; rfl
          subst hvz
          have hH : H = H₁ := by simpa [aWrite] using hw
          subst hH
          refine SemOk.same hs (v := goInt (Nat.min sl 0)) ?_ (.int _ _)
          simp only [Builtin.copy_, hdt, hd', hs', Sem.run_bind, run_underlying hu, Result.andThen_ok, hl, run_sizeOf' hz, h0, hfr, Sem.run_pure, storeCells]
      · cases h
    · cases h
  · cases h

theorem run_getObjM {r : Nat} {es : Array MapEntry} {ck : Nat} (h : w.heap[r]? = some (.map es ck)) : (getObj r).run P w = .ok (.map es ck) w := by
  simp [getObj, Sem.run, h]

theorem EntR.length {es as : List MapEntry} (h : EntR φ es as) : es.length = as.length := by
  induction h with
  | nil => rfl
  | cons _ _ _ _ ih => simp [ih]

theorem snd_lenB (hs : Sim φ H bar base w) {ts : Array TypeId} {ty : TypeId} {args' args : Array Value} {a : Value} (hargs : VRs φ args'.toList args.toList)
    (h : aLenB P H ts args = some a) : ∃ v, (Builtin.len_ ts ty args').run P w = .ok v w ∧ VR φ v a := by
  unfold aLenB at h
  split at h
  · rename_i t x ht hx
    obtain ⟨x', hx', hxr⟩ := hargs.arr_get hx
    split at h
    · rename_i s hu
      cases h; cases hxr with
      | string => exact ⟨_, by simp [Builtin.len_, ht, hx', run_underlying hu]; rfl, .int _ _⟩
    · rename_i n e hu
      cases h
      exact ⟨_, by simp [Builtin.len_, ht, hx', run_underlying hu]; rfl, .int _ _⟩
    · rename_i e hu
      cases h; cases hxr with
      | sliceNil => exact ⟨_, by simp [Builtin.len_, ht, hx', run_underlying hu]; rfl, .int _ _⟩
    · rename_i e p n c hu
      cases h; cases hxr with
      | slice => exact ⟨_, by simp [Builtin.len_, ht, hx', run_underlying hu]; rfl, .int _ _⟩
      | sliceE => exact ⟨_, by simp [Builtin.len_, ht, hx', run_underlying hu]; rfl, .int _ _⟩
    · rename_i k e hu
      cases h; cases hxr with
      | mapNil => exact ⟨_, by simp [Builtin.len_, ht, hx', run_underlying hu]; rfl, .int _ _⟩
    · rename_i k e r hu
      split at h
      · rename_i es ck hg
        cases h; cases hxr with
        | map hφ =>
          obtain ⟨es', h1, h2⟩ := hs.obj _ _ _ hφ hg
          have hl := h2.length
          refine ⟨goInt es.length, ?_, .int _ _⟩
          simp [Builtin.len_, ht, hx', run_underlying hu, run_getObjM h1, ← hl]
      · cases h
    · cases h
  · cases h

theorem snd_capB {ts : Array TypeId} {ty : TypeId} {args' args : Array Value} {a : Value} (hargs : VRs φ args'.toList args.toList)
    (h : aCapB P ts args = some a) (w : World) : ∃ v, (Builtin.cap_ ts ty args').run P w = .ok v w ∧ VR φ v a := by
  unfold aCapB at h
  split at h
  · rename_i t x ht hx
    obtain ⟨x', hx', hxr⟩ := hargs.arr_get hx
    split at h
    · rename_i n e hu
      cases h
      exact ⟨_, by simp [Builtin.cap_, ht, hx', run_underlying hu]; rfl, .int _ _⟩
    · rename_i e hu
      cases h; cases hxr with
      | sliceNil => exact ⟨_, by simp [Builtin.cap_, ht, hx', run_underlying hu]; rfl, .int _ _⟩
    · rename_i e p n c hu
      split at h
      · cases h
      · rename_i hc
        cases h; cases hxr with
        | slice hφ hl hcc =>
          rcases hcc with hcc | hcc
          · rw [hcc.1]
            exact ⟨_, by simp [Builtin.cap_, ht, hx', run_underlying hu]; rfl, .int _ _⟩
          · exact absurd hcc.1 hc
        | sliceE hφ ha =>
          rw [ha.resolve_right (fun h => hc h.1)]
          exact ⟨_, by simp [Builtin.cap_, ht, hx', run_underlying hu]; rfl, .int _ _⟩
    · cases h
  · cases h

theorem snd_clear (hs : Sim φ H bar base w) {ts : Array TypeId} {ty : TypeId} {args' args : Array Value} (hargs : VRs φ args'.toList args.toList)
    (h : aClear P bar H ts args = some H') : SemOk P φ H bar base w (Builtin.clear_ ts ty args') (.tuple #[]) H' := by
  unfold aClear at h
  split at h
  · rename_i t x ht hx
    obtain ⟨x', hx', hxr⟩ := hargs.arr_get hx
    split at h
    · rename_i e hu
      cases h; cases hxr with
      | sliceNil => exact SemOk.same hs (v := .tuple #[]) (by simp [Builtin.clear_, ht, hx', run_underlying hu]) (.tuple .nil)
    · rename_i elem b o n c hu
      split at h
      · rename_i h0
        subst h0
        cases h
        obtain ⟨rb, x, cap', hφ, rfl, hcase⟩ := slice_some hxr
        exact SemOk.same hs (v := .tuple #[]) (by simp [Builtin.clear_, ht, hx', run_underlying hu]) (.tuple .nil)
      · rename_i h0
        rw [Option.bind_eq_some_iff] at h; obtain ⟨zv, hz, h⟩ := h
        split at h
        · rename_i hp
          obtain ⟨rb, x, cap', hφ, rfl, hcase⟩ := slice_some hxr
          rcases hcase with ⟨hle, rfl, hcc⟩ | ⟨rfl, rfl, hcc⟩
          · obtain ⟨w', f1, f2⟩ := run_aWrite P hs hφ (plains_refl φ _ (zerosOf_all hp n)) h
            refine ⟨.tuple #[], w', φ, ?_, .tuple .nil, f2⟩
            have hzc := zeroCells_eq zv.cells n
            rw [← hzc] at f1
            obtain ⟨m, rfl⟩ : ∃ m, n = m + 1 := ⟨n - 1, by omega⟩
            simp [Builtin.clear_, ht, hx', run_underlying hu, run_zeroValue' hz, f1]
          · exact absurd rfl h0
        · cases h
    · cases h
  · cases h

theorem snd_makeSlice (hs : Sim φ H bar base w) {t : Nat} {v1 v2 x1 x2 a : Value} (h1 : VR φ v1 x1) (h2 : VR φ v2 x2) (h : aMakeSlice P H t x1 x2 = some (.val a H')) :
    SemOk P φ H bar base w (Instr.makeSlice t v1 v2) a H' := by
  unfold aMakeSlice at h
  split at h
  · rename_i elem k1 l k2 c hu
    cases h1 with
    | int =>
      cases h2 with
      | int =>
        rw [Option.bind_eq_some_iff] at h; obtain ⟨i, hi, h⟩ := h
        rw [Option.bind_eq_some_iff] at h; obtain ⟨zv, hzv, h⟩ := h
        dsimp only at h
        split at h
        · rename_i hc
          obtain ⟨c1, c2, c3, c4, c5, c6⟩ := hc
          rw [Option.map_eq_some_iff] at h; obtain ⟨p, hr, h⟩ := h
          obtain ⟨b, H₁⟩ := p
          injection h with e1 e2
          subst e1; subst e2
          have hzero : i.zero = some zv := by
            unfold zeroT at hzv
            rw [hi] at hzv
            simpa using hzv
          obtain ⟨φ', w', q1, q2, q3⟩ := run_newRow' P hs (plains_refl φ _ (zerosOf_all c6 c.toNat)) hr
          have hwl : IntKind.i64.wrap l = l := by simp [IntKind.wrap, IntKind.bits, IntKind.signed]; omega
          have hwc : IntKind.i64.wrap c = c := by simp [IntKind.wrap, IntKind.bits, IntKind.signed]; omega
          have n1 : ¬ (c < 0) := by omega
          have n2 : ¬ (281474976710656 < (i.bytes : Int) * c) := by omega
          have n3 : ¬ (l < 0) := by omega
          have n4 : ¬ (c < l) := by omega
          have c5' : zv.cells.size = i.size := by simpa using c5
          refine ⟨.slice (some ⟨w.heap.size, 0, none⟩) l.toNat c.toNat, w', φ', ?_, ?_, q2⟩
          · by_cases h0 : c.toNat * i.size = 0
            · have hz0 : zerosOf zv.cells.toList c.toNat = [] := by
                apply List.eq_nil_of_length_eq_zero
                rw [zerosOf_length, c5, h0]
              rw [hz0] at q1
              simp [Instr.makeSlice, run_underlying hu, asInt, asIntOf, typeInfo, hi, Go.sizeOf, hwl, hwc, n1, n2, n3, n4, h0]
              rw [show (Array.map (fun (_ : Nat) => (default : Value)) (Array.range 0)) = #[] from by simp]
              have q1' : (newRow elem #[]).run P w = .ok ⟨w.heap.size, 0, none⟩ w' := by simpa using q1
              rw [q1']
              rfl
            · have hz1 : (Array.range (c.toNat * i.size)).map (fun j => zv.cells[j % zv.cells.size]!) = (zerosOf zv.cells.toList c.toNat).toArray := by
                apply Array.toList_inj.1
                have := zeroCells_eq zv.cells c.toNat
                simp only [Builtin.zeroCells, c5'] at this
                rw [c5', this]
              simp [Instr.makeSlice, run_underlying hu, asInt, asIntOf, typeInfo, zeroValue, hi, hzero, Go.sizeOf, hwl, hwc, n1, n2, n3, n4, h0, hz1, q1]
          · have hv := VR.slice (φ := φ') (o := 0) (len := l.toNat) (cap := c.toNat) (acap := c.toNat) q3 (by omega) (.inl ⟨rfl, by unfold capU; omega⟩)
            simpa using hv
        · cases h
  · cases h

theorem snd_makeMap (hs : Sim φ H bar base w) {t : Nat} {v x : Option Value} {a : Value} (h1 : OptR φ v x) (h : aMakeMap P H t x = some (.val a H')) :
    SemOk P φ H bar base w (Instr.makeMap t v) a H' := by
  have core : ∀ H₁, H.alloc (.map [] 0) = some H₁ → SemOk P φ H bar base w (do pure (.map (some (← newObj (.map #[] 0))))) (.map (some H.next)) H₁ := by
    intro H₁ ha
    have hst := hs.alloc (o := .map #[] 0) ha ⟨w.heap.size, 0, 0, 0, 0⟩ rfl ⟨#[], by show (w.heap.push _)[w.heap.size]? = _; simp, .nil⟩
    refine ⟨.map (some w.heap.size), _, _, ?_, ?_, hst⟩
    · rw [Sem.run_bind]
      rfl
    · have := VR.map (upd_self φ H.next ⟨w.heap.size, 0, 0, 0, 0⟩)
      exact this
  unfold aMakeMap at h
  rw [Option.bind_eq_some_iff] at h; obtain ⟨u, hu, h⟩ := h
  rw [Option.map_eq_some_iff] at h; obtain ⟨H₁, ha, h⟩ := h
  injection h with e1 e2
  subst e1; subst e2
  have hc := core H₁ ha
  cases h1 with
  | none => exact hc
  | some hv =>
    rename_i v x
    split at hu
    · rename_i hq; cases hq
    · rename_i k n hq
      cases hq
      cases hv with
      | int =>
        split at hu
        · rename_i kk ee hm
          obtain ⟨v', w', φ', e1, e2, e3⟩ := hc
          refine ⟨v', w', φ', ?_, e2, e3⟩
          rw [← e1]
          simp [Instr.makeMap, run_underlying hm, asInt, asIntOf]
        · cases hu
    · cases hu

end Go.Abs
