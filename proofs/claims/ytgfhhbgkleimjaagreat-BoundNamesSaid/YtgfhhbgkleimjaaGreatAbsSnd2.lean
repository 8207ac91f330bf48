/- A machine that carries out code on values that are known, and the proof that the model's runs agree with it: one part. -/
import Derived.Test.YtgfhhbgkleimjaaGreatAbsSnd1
noncomputable section
namespace Go.Abs
variable {P : Program} {φ : Ren} {H H' : AH} {bar base : Nat} {w : World}

theorem VRs.set {φ : Ren} : ∀ {vs as : List Value} (i : Nat) {v a : Value}, VRs φ vs as → VR φ v a → VRs φ (vs.set i v) (as.set i a)
  | _, _, _, _, _, .nil, _ => .nil
  | _, _, 0, _, _, .cons _ t, hv => .cons hv t
  | _, _, i + 1, _, _, .cons h t, hv => .cons h (t.set i hv)

theorem fill_step {off : Nat} : ∀ {l l' : List Value} (n : Nat) {cs as : Array Value}, VRs φ l l' → VRs φ cs.toList as.toList →
    VRs φ ((l.zipIdx n).foldl (fun cs (p : Value × Nat) => cs.setIfInBounds (off + p.2) p.1) cs).toList ((l'.zipIdx n).foldl (fun cs (p : Value × Nat) => cs.setIfInBounds (off + p.2) p.1) as).toList
  | _, _, _, _, _, .nil, h => h
  | _, _, n, cs, as, .cons hv t, h => by
    simp only [List.zipIdx_cons, List.foldl_cons]
    refine fill_step (n + 1) t ?_
    simp only [Array.toList_setIfInBounds]
    exact h.set _ hv

inductive PairsR (φ : Ren) : List (Nat × Value) → List (Nat × Value) → Prop
  | nil : PairsR φ [] []
  | cons {i : Nat} {v a : Value} {ps qs : List (Nat × Value)} (h : VR φ v a) (t : PairsR φ ps qs) : PairsR φ ((i, v) :: ps) ((i, a) :: qs)

theorem fill_rel (pl : Nat → Option (Nat × Nat)) : ∀ {ps qs : List (Nat × Value)} {cs as r : Array Value}, PairsR φ ps qs → VRs φ cs.toList as.toList → Instr.fill pl as qs = some r →
    ∃ r', Instr.fill pl cs ps = some r' ∧ VRs φ r'.toList r.toList
  | _, _, cs, as, r, .nil, h, e => by
    simp only [Instr.fill] at e
    cases e
    exact ⟨cs, by simp [Instr.fill], h⟩
  | _, _, cs, as, r, .cons (i := i) (v := v) (a := a) hv t, h, e => by
    have hc := cells_rel hv
    have hlen : v.cells.size = a.cells.size := by simpa using hc.length
    have hlen2 : cs.size = as.size := by simpa using h.length
    simp only [Instr.fill] at e ⊢
    cases hp : pl i with
    | none => simp [hp] at e
    | some os =>
      obtain ⟨off, size⟩ := os
      simp only [hp, hlen, hlen2] at e ⊢
      split at e
      · cases e
      · rename_i hb
        rw [if_neg hb]
        refine fill_rel pl t ?_ e
        rw [← Array.foldl_toList, ← Array.foldl_toList, Array.toList_zipIdx, Array.toList_zipIdx]
        exact fill_step 0 hc h

theorem szT_mapM {fields : Array Field} (h : fields.toList.all (fun f => (szT P f.type).isSome) = true) (w : World) :
    (fields.mapM fun f => do pure (f.offset, ← sizeOf f.type) : Sem (Array (Nat × Nat))).run P w = .ok (fields.map fun f => (f.offset, (szT P f.type).getD 0)) w := by
  have key : ∀ (l : List Field), l.all (fun f => (szT P f.type).isSome) = true → (l.mapM fun f => do pure (f.offset, ← sizeOf f.type) : Sem (List (Nat × Nat))).run P w = .ok (l.map fun f => (f.offset, (szT P f.type).getD 0)) w := by
    intro l
    induction l with
    | nil => intro _; simp
    | cons f l ih =>
      intro hl
      simp only [List.all_cons, Bool.and_eq_true] at hl
      obtain ⟨n, hn⟩ := Option.isSome_iff_exists.1 hl.1
      simp only [List.mapM_cons, Sem.run_bind, run_sizeOf' hn, Result.andThen_ok, Sem.run_pure, ih hl.2, List.map_cons, hn, Option.getD_some]
  have e : fields.mapM (fun f => do pure (f.offset, ← sizeOf f.type) : Field → Sem (Nat × Nat)) = (do pure (← fields.toList.mapM fun f => do pure (f.offset, ← sizeOf f.type)).toArray) := by
    rw [Array.mapM_eq_mapM_toList]
    rfl
  rw [e, Sem.run_bind, key _ h]
  simp only [Result.andThen_ok, Sem.run_pure]
  congr 1
  apply Array.toList_inj.1
  simp

theorem snd_build {t : Nat} {ps qs : List (Nat × Value)} {a : Value} (hps : PairsR φ ps qs) (h : aBuild P t qs = some a) (w : World) : ∃ v, (Instr.build t ps.toArray).run P w = .ok v w ∧ VR φ v a := by
  unfold aBuild at h
  cases hz : zeroT P t with
  | none => simp [hz] at h
  | some z =>
    simp only [hz, Option.bind_some] at h
    split at h
    · rename_i hp
      unfold aPlaces at h
      split at h
      · rename_i fields hu
        split at h
        · rename_i hall
          simp only [Option.bind_some] at h
          cases hf : Instr.fill (fun i => (fields[i]?).map fun f => (f.offset, (szT P f.type).getD 0)) z.cells qs with
          | none => simp [hf] at h
          | some r =>
            simp [hf] at h
            subst h
            obtain ⟨r', h1, h2⟩ := fill_rel _ hps (plains_refl φ _ hp) hf
            refine ⟨.agg r', ?_, .agg h2⟩
            have hm := szT_mapM hall w
            have hfun : (fun (i : Nat) => (fields.map fun (f : Field) => (f.offset, (szT P f.type).getD 0))[i]?) = fun i => (fields[i]?).map fun f => (f.offset, (szT P f.type).getD 0) := by
              funext i; simp
            simp only [Instr.build, Sem.run_bind, run_zeroValue' hz, run_underlying hu, Result.andThen_ok, hm]
            simp only [hfun, h1]
            rfl
        · simp at h
      · rename_i n elem hu
        cases hs : szT P elem with
        | none => simp [hs] at h
        | some size =>
          simp only [hs, Option.map_some, Option.bind_some] at h
          cases hf : Instr.fill (fun i => some (i * size, size)) z.cells qs with
          | none => simp [hf] at h
          | some r =>
            simp [hf] at h
            subst h
            obtain ⟨r', h1, h2⟩ := fill_rel _ hps (plains_refl φ _ hp) hf
            refine ⟨.agg r', ?_, .agg h2⟩
            simp only [Instr.build, Sem.run_bind, run_zeroValue' hz, run_underlying hu, Result.andThen_ok, run_sizeOf' hs]
            simp only [h1]
            rfl
      · simp at h
    · cases h

theorem snd_buildSlice (hs : Sim φ H bar base w) {t n : Nat} {ps qs : List (Nat × Value)} {a : Value} (hps : PairsR φ ps qs) (h : aBuildSlice P H t n qs = some (.val a H')) : SemOk P φ H bar base w (Instr.buildSlice t n ps.toArray) a H' := by
  unfold aBuildSlice at h
  split at h
  · rename_i elem hu
    cases hz : szT P elem with
    | none => simp [hz] at h
    | some size =>
      simp only [hz, Option.bind_some] at h
      split at h
      · cases h
      · rename_i hbig
        cases hzz : zeroT P elem with
        | none => simp [hzz] at h
        | some z =>
          simp only [hzz, Option.bind_some] at h
          split at h
          · rename_i hc
            simp only [Bool.and_eq_true, beq_iff_eq, decide_eq_true_eq] at hc
            obtain ⟨⟨hp, hsz⟩, hpos⟩ := hc
            generalize hinit : (if n * size = 0 then #[] else (Array.range (n * size)).map (z.cells[· % z.cells.size]!)) = init at h
            have hinitp : init.toList.all plain1 = true := by
              subst hinit
              split
              · rfl
              · rw [List.all_eq_true] at hp ⊢
                intro x hx
                simp only [Array.toList_map, List.mem_map] at hx
                obtain ⟨j, _, rfl⟩ := hx
                have hlt : j % z.cells.size < z.cells.size := Nat.mod_lt _ (by omega)
                rw [getElem!_pos z.cells _ hlt]
                exact hp _ (by simp)
            cases hf : Instr.fill (fun i => some (i * size, size)) init qs with
            | none => simp [hf] at h
            | some r =>
              simp only [hf, Option.bind_some] at h
              cases hr : aNewRow H r.toList elem size with
              | none => simp [hr] at h
              | some p =>
                obtain ⟨b, H₁⟩ := p
                simp [hr] at h
                obtain ⟨ha, hH⟩ := h
                subst ha; subst hH
                obtain ⟨r', h1, h2⟩ := fill_rel _ hps (plains_refl φ _ hinitp) hf
                obtain ⟨φ', w', k1, k2, k3⟩ := run_newRow' P hs h2 hr
                refine ⟨.slice (some ⟨w.heap.size, 0, none⟩) n n, w', φ', ?_, ?_, k2⟩
                · have k1' : (newRow elem r').run P w = .ok ⟨w.heap.size, 0, none⟩ w' := by simpa using k1
                  have hbig' : ¬ n * size > 2 ^ 24 := by simpa using hbig
                  by_cases h0 : n * size = 0
                  · have hi0 : init = #[] := by rw [← hinit, if_pos h0]
                    subst hi0
                    simp only [Instr.buildSlice, Sem.run_bind, run_underlying hu, Result.andThen_ok, run_sizeOf' hz, if_neg hbig', Sem.run_pure, Sem.run_ite, if_pos h0]
                    simp only [h0]
                    have hr0 : (Array.range 0).map (fun x => (#[] : Array Value)[x % (#[] : Array Value).size]!) = #[] := by simp
                    rw [hr0]
                    simp only [h1, Sem.run_bind, k1', Result.andThen_ok, Sem.run_pure]
                  · rw [if_neg h0] at hinit
                    simp only [Instr.buildSlice, Sem.run_bind, run_underlying hu, Result.andThen_ok, run_sizeOf' hz, if_neg hbig', Sem.run_pure, Sem.run_ite, if_neg h0, run_zeroValue' hzz]
                    simp only [hinit, h1, Sem.run_bind, k1', Result.andThen_ok, Sem.run_pure]
                · have hr' : r'.size ≤ 16777216 := by
                    have h3 := h2.length
                    have : r'.size = init.size := by
                      have : ∀ (ps : List (Nat × Value)) (a b : Array Value), Instr.fill (fun i => some (i * size, size)) a ps = some b → b.size = a.size := by
                        intro ps
                        induction ps with
                        | nil => intro a b h; simp [Instr.fill] at h; rw [h]
                        | cons p ps ih =>
                          intro a b h
                          obtain ⟨i, v⟩ := p
                          simp only [Instr.fill] at h
                          split at h
                          · cases h
                          · rw [ih _ _ h, ← Array.foldl_toList]
                            generalize v.cells.zipIdx.toList = l
                            rename_i hcond
                            clear h hcond
                            induction l generalizing a with
                            | nil => rfl
                            | cons x l ih2 => simp only [List.foldl_cons]; rw [ih2]; simp
                      exact this _ _ _ h1
                    rw [this, ← hinit]
                    split
                    · simp
                    · simp; omega
                  have hn16 : n ≤ 16777216 := by
                    have : n * 1 ≤ n * size := Nat.mul_le_mul_left n hpos
                    omega
                  have hv := VR.slice (φ := φ') (o := 0) (len := n) (cap := n) (acap := n) k3 (Nat.le_refl _) (.inl ⟨rfl, by unfold capU; omega⟩)
                  simpa using hv
          · cases h
  · cases h

theorem snd_extract {v x a : Value} {i : Nat} (hv : VR φ v x) (h : aExtract x i = some a) (w : World) : ∃ u, (Instr.extract v i).run P w = .ok u w ∧ VR φ u a := by
  unfold aExtract at h
  split at h
  · rename_i vs
    cases hv with
    | tuple hcs =>
      rename_i cs
      obtain ⟨u, h1, h2⟩ := hcs.get i a (by simpa using h)
      have h1' : cs[i]? = some u := by simpa using h1
      exact ⟨u, by simp [Instr.extract, h1'], h2⟩
  · cases h

theorem snd_makeIface {t : Nat} {v x a : Value} (hv : VR φ v x) (h : aMakeIface P t x = some a) (w : World) : ∃ u, (Instr.makeInterface t v).run P w = .ok u w ∧ VR φ u a := by
  unfold aMakeIface at h
  split at h
  · cases h
  · rename_i d hd hu
    cases h
    refine ⟨.iface t v, ?_, .iface hv⟩
    unfold Instr.makeInterface
    rw [Sem.run_bind, run_underlying hu]
    cases d <;> first | rfl | exact absurd rfl (hd _)
  · cases h

end Go.Abs
