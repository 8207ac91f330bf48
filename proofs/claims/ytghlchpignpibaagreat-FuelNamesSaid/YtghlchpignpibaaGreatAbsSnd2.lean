/- A machine that carries out code on values that are known, and the proof that the model's runs agree with it: one part. -/
import Derived.Test.YtghlchpignpibaaGreatAbsEval2
noncomputable section
namespace Go.Abs

/-- What the model does at an operation that the abstract machine carries out to value a and heap H'. -/
def SemOk (P : Program) (φ : Ren) (H : AH) (bar base : Nat) (w : World) (s : Sem Value) (a : Value) (H' : AH) : Prop :=
  ∃ v w' φ', s.run P w = .ok v w' ∧ VR φ' v a ∧ Step φ H bar base w φ' H' w'

variable {P : Program} {φ : Ren} {H H' : AH} {bar base : Nat} {w : World}

theorem SemOk.same (hs : Sim φ H bar base w) {s : Sem Value} {v a : Value} (hr : s.run P w = .ok v w) (hv : VR φ v a) : SemOk P φ H bar base w s a H :=
  ⟨v, w, φ, hr, hv, Step.refl hs⟩

theorem info_of_sz {t n : Nat} (h : szT P t = some n) : ∃ i, P.info? t = some i ∧ i.size = n := by
  unfold szT at h
  cases hi : P.info? t with
  | none => simp [hi] at h
  | some i => exact ⟨i, rfl, by simpa [hi] using h⟩

theorem run_sizeOf' {t n : Nat} (h : szT P t = some n) (w : World) : (sizeOf t).run P w = .ok n w := by
  obtain ⟨i, hi, hn⟩ := info_of_sz h
  simp [Go.sizeOf, typeInfo, hi, hn]

theorem run_zeroValue' {t : Nat} {z : Value} (h : zeroT P t = some z) (w : World) : (zeroValue t).run P w = .ok z w := by
  unfold zeroT at h
  cases hi : P.info? t with
  | none => simp [hi] at h
  | some i =>
    have hz : i.zero = some z := by simpa [hi] using h
    simp [zeroValue, typeInfo, hi, hz]

theorem run_isAgg' {t : Nat} {b : Bool} (h : isAggT P t = some b) (w : World) : (isAgg t).run P w = .ok b w := by
  unfold isAggT at h
  cases hu : P.underlying t with
  | none => simp [hu] at h
  | some d =>
    have hd : aggD d = b := by simpa [hu] using h
    unfold isAgg
    rw [Sem.run_bind, run_underlying hu w]
    subst hd
    cases d <;> rfl

theorem run_part' {t : Nat} {cs as : Array Value} {off : Nat} {a : Value} (h : aPart P t as off = some a) (hv : VRs φ cs.toList as.toList) (w : World) :
    ∃ v, (part t cs off).run P w = .ok v w ∧ VR φ v a := by
  unfold aPart at h
  split at h
  · rename_i hagg
    cases hz : szT P t with
    | none => simp [hz] at h
    | some n =>
      simp [hz] at h
      subst h
      refine ⟨.agg (cs.extract off (off + n)), by simp [part, run_isAgg' hagg, run_sizeOf' hz], .agg ?_⟩
      simp only [Array.toList_extract, List.extract_eq_take_drop]
      exact (hv.drop _).take _
  · rename_i hagg
    have h' : as.toList[off]? = some a := by simpa using h
    obtain ⟨v, h1, h2⟩ := hv.get off a h'
    have h1' : cs[off]? = some v := by simpa using h1
    exact ⟨v, by simp [part, run_isAgg' hagg, h1'], h2⟩
  · cases h

theorem run_loadVar' (hs : Sim φ H bar base w) {t b o : Nat} {a : Value} {r : RB} (hφ : φ b = some r) (h : aLoad P H t b o = some a) :
    ∃ v, (loadVar t ⟨r.c, r.s + o, none⟩).run P w = .ok v w ∧ VR φ v a := by
  unfold aLoad at h
  split at h
  · rename_i hagg
    cases hz : szT P t with
    | none => simp [hz] at h
    | some n =>
      simp only [hz, Option.bind_some] at h
      unfold rowCells at h
      split at h
      · rename_i c tt z hg
        cases hl : cellsAt c o n with
        | none => simp [hl] at h
        | some l =>
          simp [hl] at h
          subst h
          obtain ⟨vs, h1, h2⟩ := load_row P hs hφ hg hl
          exact ⟨.agg vs.toArray, by simp [loadVar, run_isAgg' hagg, run_sizeOf' hz, h2], .agg (by simpa using h1)⟩
      · simp at h
  · rename_i hagg
    split at h
    · rename_i v' hr
      cases h
      unfold rowCells at hr
      split at hr
      · rename_i c tt z hg
        obtain ⟨vs, h1, h2⟩ := load_row P hs hφ hg hr
        cases h1 with
        | cons hv ht =>
          cases ht with
          | nil =>
            rename_i v
            refine ⟨v, ?_, hv⟩
            have : (load ⟨r.c, r.s + o, none⟩).run P w = .ok v w := by
              obtain ⟨arr, fz, g1, g2, g3, g4, g5, g6⟩ := hs.obj b r _ hφ hg
              obtain ⟨hn, hget⟩ := cellsAt_get hr
              obtain ⟨v2, k1, k2⟩ := g5 o a (by have := hget 0 (by omega); simpa using this.symm)
              have hc : w.cell? ⟨r.c, r.s + o, none⟩ = some v2 := by simp only [World.cell?, g1]; simpa using k1
              have e : (loadCells ⟨r.c, r.s + o, none⟩ 1).run P w = .ok #[v2] w := by
                simp [loadCells, loadCellsFrom, Addr.add, hc]
              rw [h2] at e
              injection e with e1 e2
              have : v = v2 := by simpa using e1
              simp [hc, this]
            unfold loadVar
            rw [Sem.run_bind, run_isAgg' hagg]
            exact this
      · cases hr
    · cases h
  · cases h

theorem run_aWrite (P : Program) (hs : Sim φ H bar base w) {b o : Nat} {r : RB} (hφ : φ b = some r) {vs as : List Value} (hv : VRs φ vs as) (h : aWrite bar H b o as = some H') :
    ∃ w', (storeCells ⟨r.c, r.s + o, none⟩ vs).run P w = .ok () w' ∧ Step φ H bar base w φ H' w' := by
  unfold aWrite at h
  split at h
  · cases h
    cases hv
    exact ⟨w, by simp [storeCells], Step.refl hs⟩
  · rename_i hne
    split at h
    · rename_i hc
      split at h
      · rename_i c t z hg
        cases hw : wr c o as with
        | none => simp [hw] at h
        | some c' =>
          simp [hw] at h
          subst h
          exact store_row P hs hφ hc.1 hg hw hv hc.2 (fun e => hne e)
      · cases h
    · cases h

theorem run_storeVar' (hs : Sim φ H bar base w) {t b o : Nat} {v a : Value} {r : RB} (hφ : φ b = some r) (hv : VR φ v a) (h : aStore P bar H t b o a = some H') :
    ∃ w', (storeVar t ⟨r.c, r.s + o, none⟩ v).run P w = .ok () w' ∧ Step φ H bar base w φ H' w' := by
  unfold aStore at h
  split at h
  · rename_i hz
    have hcs : VRs φ v.cells.toList a.cells.toList := by
      cases hv with
      | agg h' => exact h'
      | _ => exact .cons (by first | (constructor <;> assumption) | constructor) .nil
    have hlen := hcs.length
    simp only [Array.length_toList] at hlen
    obtain ⟨w', h1, h2⟩ := run_aWrite P hs hφ hcs h
    exact ⟨w', by simp [storeVar, run_sizeOf' hz, hlen, h1], h2⟩
  · cases h

theorem aNewRow_eq {vs : List Value} {t z b : Nat} (h : aNewRow H vs t z = some (b, H')) : b = H.next ∧ H.alloc (.row vs t z) = some H' := by
  unfold aNewRow at h
  cases ha : H.alloc (.row vs t z) with
  | none => simp [ha] at h
  | some H'' =>
    simp [ha] at h
    exact ⟨h.1.symm, by rw [h.2]⟩

/-- A new row of just these cells. -/
theorem run_newRow' (P : Program) (hs : Sim φ H bar base w) {vs as : List Value} (hv : VRs φ vs as) {t z b : Nat} (h : aNewRow H as t z = some (b, H')) :
    ∃ φ' w', (newRow t vs.toArray).run P w = .ok ⟨w.heap.size, 0, none⟩ w' ∧ Step φ H bar base w φ' H' w' ∧ φ' b = some ⟨w.heap.size, 0, vs.length, z, vs.length⟩ := by
  obtain ⟨rfl, ha⟩ := aNewRow_eq h
  refine ⟨_, _, run_newRow P w t vs.toArray, new_row hs ha (by simp [hv.length]) (fun i a hi => ?_), by simp [upd_self, hv.length]⟩
  obtain ⟨v, h1, h2⟩ := hv.get i a hi
  exact ⟨v, by simpa using h1, h2⟩

theorem cells_rel {v a : Value} (hv : VR φ v a) : VRs φ v.cells.toList a.cells.toList := by
  cases hv with
  | agg h => exact h
  | _ => exact .cons (by first | (constructor <;> assumption) | constructor) .nil

theorem snd_alloc (hs : Sim φ H bar base w) {t : Nat} {a : Value} (h : aAlloc P H t = some (.val a H')) : SemOk P φ H bar base w (Instr.alloc t true (.tuple #[])) a H' := by
  unfold aAlloc at h
  cases hz : zeroT P t with
  | none => simp [hz] at h
  | some z =>
    cases hn : szT P t with
    | none => simp [hz, hn] at h
    | some n =>
      simp only [hz, hn, Option.bind_some] at h
      cases hr : aNewRow H z.cells.toList t n with
      | none => simp [hr] at h
      | some p =>
        obtain ⟨b, H₁⟩ := p
        simp only [hr, Option.bind_some] at h
        split at h
        · rename_i hp
          cases h
          obtain ⟨φ', w', h1, h2, h3⟩ := run_newRow' P hs (plains_refl φ _ hp) hr
          refine ⟨.pointer (some ⟨w.heap.size, 0, none⟩), w', φ', ?_, ?_, h2⟩
          · have h1' : (newRow t z.cells).run P w = .ok ⟨w.heap.size, 0, none⟩ w' := by simpa using h1
            simp [Instr.alloc, run_zeroValue' hz, newVar, h1']
          · have := VR.ptr (o := 0) h3
            simpa using this
        · cases h

theorem snd_box (hs : Sim φ H bar base w) {t : Nat} {v x a : Value} (hv : VR φ v x) (h : aBox P H t x = some (.val a H')) : SemOk P φ H bar base w (Instr.box t v) a H' := by
  unfold aBox at h
  cases hn : szT P t with
  | none => simp [hn] at h
  | some n =>
    simp only [hn, Option.bind_some] at h
    cases hr : aNewRow H x.cells.toList t n with
    | none => simp [hr] at h
    | some p =>
      obtain ⟨b, H₁⟩ := p
      simp only [hr, Option.map_some] at h
      cases h
      obtain ⟨φ', w', h1, h2, h3⟩ := run_newRow' P hs (cells_rel hv) hr
      refine ⟨.pointer (some ⟨w.heap.size, 0, none⟩), w', φ', ?_, ?_, h2⟩
      · have h1' : (newRow t v.cells).run P w = .ok ⟨w.heap.size, 0, none⟩ w' := by simpa using h1
        simp [Instr.box, newVar, h1']
      · have := VR.ptr (o := 0) h3
        simpa using this

theorem snd_field {t i : Nat} {v x a : Value} (hv : VR φ v x) (h : aField P t x i = some a) (w : World) : ∃ u, (Instr.field t v i).run P w = .ok u w ∧ VR φ u a := by
  unfold aField at h
  split at h
  · rename_i fields cs hu
    cases hv with
    | agg hcs =>
      cases hf : fields[i]? with
      | none => simp [hf] at h
      | some f =>
        simp only [hf, Option.bind_some] at h
        obtain ⟨u, h1, h2⟩ := run_part' h hcs w
        exact ⟨u, by simp [Instr.field, run_underlying hu, hf, asAgg, h1], h2⟩
  · cases h

theorem snd_index {t : Nat} {v x j i a : Value} (hv : VR φ v x) (hi : VR φ j i) (h : aIndex P t x i = some a) (w : World) : ∃ u, (Instr.index t v j).run P w = .ok u w ∧ VR φ u a := by
  unfold aIndex at h
  split at h
  · rename_i len elem cs k n hu
    cases hi with
    | int =>
      cases hv with
      | agg hcs =>
        split at h
        · rename_i hb
          cases hz : szT P elem with
          | none => simp [hz] at h
          | some m =>
            simp only [hz, Option.bind_some] at h
            obtain ⟨u, h1, h2⟩ := run_part' h hcs w
            refine ⟨u, ?_, h2⟩
            simp [Instr.index, asIntOf, run_underlying hu, hb, run_sizeOf' hz, h1]
        · cases h
  · rename_i s k n hu
    cases hi with
    | int =>
      cases hv with
      | string =>
        split at h
        · rename_i hb
          cases hs : s[n.toNat]? with
          | none => simp [hs] at h
          | some c =>
            simp [hs] at h
            subst h
            exact ⟨.int .u8 c.toNat, by simp [Instr.index, asIntOf, run_underlying hu, hb, hs], .int _ _⟩
        · cases h
  · cases h

theorem snd_indexAddr {t : Nat} {v x j i a : Value} (hv : VR φ v x) (hi : VR φ j i) (h : aIndexAddr P t x i = some a) (w : World) : ∃ u, (Instr.indexAt t v j).run P w = .ok u w ∧ VR φ u a := by
  unfold aIndexAddr at h
  split at h
  · rename_i len elem b o k n hu
    cases hi with
    | int =>
      cases hv with
      | ptr hφ =>
        rename_i r
        split at h
        · rename_i hb
          cases hz : szT P elem with
          | none => simp [hz] at h
          | some m =>
            simp [hz] at h
            subst h
            refine ⟨.pointer (some ⟨r.c, r.s + (o + n.toNat * m), none⟩), ?_, .ptr hφ⟩
            simp [Instr.indexAt, asIntOf, run_underlying hu, hb, run_sizeOf' hz, Instr.sureAddr, add_plain, Nat.add_assoc]
        · cases h
  · rename_i elem b o len cap k n hu
    cases hi with
    | int =>
      split at h
      · rename_i hb
        cases hz : szT P elem with
        | none => simp [hz] at h
        | some m =>
          simp [hz] at h
          subst h
          cases hv with
          | slice hφ hl hc =>
            rename_i cap' r
            refine ⟨.pointer (some ⟨r.c, r.s + (o + n.toNat * m), none⟩), ?_, .ptr hφ⟩
            simp [Instr.indexAt, asIntOf, run_underlying hu, hb, run_sizeOf' hz, add_plain, Nat.add_assoc]
          | sliceE hφ ha => simp at hb; omega
      · cases h
  · cases h

theorem snd_fieldAddr {t i : Nat} {v x a : Value} (hv : VR φ v x) (h : aFieldAddr P t x i = some a) (w : World) : ∃ u, (Instr.fieldAt t v i).run P w = .ok u w ∧ VR φ u a := by
  unfold aFieldAddr at h
  split at h
  · rename_i fields b o hu
    cases hv with
    | ptr hφ =>
      rename_i r
      cases hf : fields[i]? with
      | none => simp [hf] at h
      | some f =>
        simp only [hf, Option.bind_some] at h
        split at h
        · rename_i m hz
          cases h
          refine ⟨.pointer (some ⟨r.c, r.s + (o + f.offset), none⟩), ?_, .ptr hφ⟩
          simp [Instr.fieldAt, run_underlying hu, hf, Instr.sureAddr, fieldPlace, run_sizeOf' hz, add_plain, Nat.add_assoc]
        · cases h
  · cases h

end Go.Abs

noncomputable section
namespace Go.Abs
variable {P : Program} {φ : Ren} {H H' : AH} {bar base : Nat} {w : World}

theorem VRs.set {φ : Ren} : ∀ {vs as : List Value} (i : Nat) {v a : Value}, VRs φ vs as → VR φ v a → VRs φ (vs.set i v) (as.set i a)
  | _, _, _, _, _, .nil, _ => .nil
  | _, _, 0, _, _, .cons _ t, hv => .cons hv t
  | _, _, i + 1, _, _, .cons h t, hv => .cons h (t.set i hv)

theorem fill_step {off : Nat} : ∀ {l l' : List Value} (n : Nat) {cs as : Array Value}, VRs φ l l' → VRs φ cs.toList as.toList →
    VRs φ ((l.zipIdx n).foldl (fun cs (p : Value × Nat) => cs.setIfInBounds (off + p.2) p.1) cs).toList ((l'.zipIdx n).foldl (fun cs (p : Value × Nat) => cs.setIfInBounds (off + p.2) p.1) as).toList
  | _, _, _, _, _, .nil, h => h
  | _, _, n, cs, as, .cons hv t, h => by
    simp only [List.zipIdx_cons, List.foldl_cons]
    refine fill_step (n + 1) t ?_
    simp only [Array.toList_setIfInBounds]
    exact h.set _ hv

inductive PairsR (φ : Ren) : List (Nat × Value) → List (Nat × Value) → Prop
  | nil : PairsR φ [] []
  | cons {i : Nat} {v a : Value} {ps qs : List (Nat × Value)} (h : VR φ v a) (t : PairsR φ ps qs) : PairsR φ ((i, v) :: ps) ((i, a) :: qs)

theorem fill_rel (pl : Nat → Option (Nat × Nat)) : ∀ {ps qs : List (Nat × Value)} {cs as r : Array Value}, PairsR φ ps qs → VRs φ cs.toList as.toList → Instr.fill pl as qs = some r →
    ∃ r', Instr.fill pl cs ps = some r' ∧ VRs φ r'.toList r.toList
  | _, _, cs, as, r, .nil, h, e => by
    simp only [Instr.fill] at e
    cases e
    exact ⟨cs, by simp [Instr.fill], h⟩
  | _, _, cs, as, r, .cons (i := i) (v := v) (a := a) hv t, h, e => by
    have hc := cells_rel hv
    have hlen : v.cells.size = a.cells.size := by simpa using hc.length
    have hlen2 : cs.size = as.size := by simpa using h.length
    simp only [Instr.fill] at e ⊢
    cases hp : pl i with
    | none => simp [hp] at e
    | some os =>
      obtain ⟨off, size⟩ := os
      simp only [hp, hlen, hlen2] at e ⊢
      split at e
      · cases e
      · rename_i hb
        rw [if_neg hb]
        refine fill_rel pl t ?_ e
        rw [← Array.foldl_toList, ← Array.foldl_toList, Array.toList_zipIdx, Array.toList_zipIdx]
        exact fill_step 0 hc h

theorem szT_mapM {fields : Array Field} (h : fields.toList.all (fun f => (szT P f.type).isSome) = true) (w : World) :
    (fields.mapM fun f => do pure (f.offset, ← sizeOf f.type) : Sem (Array (Nat × Nat))).run P w = .ok (fields.map fun f => (f.offset, (szT P f.type).getD 0)) w := by
  have key : ∀ (l : List Field), l.all (fun f => (szT P f.type).isSome) = true → (l.mapM fun f => do pure (f.offset, ← sizeOf f.type) : Sem (List (Nat × Nat))).run P w = .ok (l.map fun f => (f.offset, (szT P f.type).getD 0)) w := by
    intro l
    induction l with
    | nil => intro _; simp
    | cons f l ih =>
      intro hl
      simp only [List.all_cons, Bool.and_eq_true] at hl
      obtain ⟨n, hn⟩ := Option.isSome_iff_exists.1 hl.1
      simp only [List.mapM_cons, Sem.run_bind, run_sizeOf' hn, Result.andThen_ok, Sem.run_pure, ih hl.2, List.map_cons, hn, Option.getD_some]
  have e : fields.mapM (fun f => do pure (f.offset, ← sizeOf f.type) : Field → Sem (Nat × Nat)) = (do pure (← fields.toList.mapM fun f => do pure (f.offset, ← sizeOf f.type)).toArray) := by
    rw [Array.mapM_eq_mapM_toList]
    rfl
  rw [e, Sem.run_bind, key _ h]
  simp only [Result.andThen_ok, Sem.run_pure]
  congr 1
  apply Array.toList_inj.1
  simp

theorem snd_build {t : Nat} {ps qs : List (Nat × Value)} {a : Value} (hps : PairsR φ ps qs) (h : aBuild P t qs = some a) (w : World) : ∃ v, (Instr.build t ps.toArray).run P w = .ok v w ∧ VR φ v a := by
  unfold aBuild at h
  cases hz : zeroT P t with
  | none => simp [hz] at h
  | some z =>
    simp only [hz, Option.bind_some] at h
    split at h
    · rename_i hp
      unfold aPlaces at h
      split at h
      · rename_i fields hu
        split at h
        · rename_i hall
          simp only [Option.bind_some] at h
          cases hf : Instr.fill (fun i => (fields[i]?).map fun f => (f.offset, (szT P f.type).getD 0)) z.cells qs with
          | none => simp [hf] at h
          | some r =>
            simp [hf] at h
            subst h
            obtain ⟨r', h1, h2⟩ := fill_rel _ hps (plains_refl φ _ hp) hf
            refine ⟨.agg r', ?_, .agg h2⟩
            have hm := szT_mapM hall w
            have hfun : (fun (i : Nat) => (fields.map fun (f : Field) => (f.offset, (szT P f.type).getD 0))[i]?) = fun i => (fields[i]?).map fun f => (f.offset, (szT P f.type).getD 0) := by
              funext i; simp
            simp only [Instr.build, Sem.run_bind, run_zeroValue' hz, run_underlying hu, Result.andThen_ok, hm]
            simp only [hfun, h1]
            rfl
        · simp at h
      · rename_i n elem hu
        cases hs : szT P elem with
        | none => simp [hs] at h
        | some size =>
          simp only [hs, Option.map_some, Option.bind_some] at h
          cases hf : Instr.fill (fun i => some (i * size, size)) z.cells qs with
          | none => simp [hf] at h
          | some r =>
            simp [hf] at h
            subst h
            obtain ⟨r', h1, h2⟩ := fill_rel _ hps (plains_refl φ _ hp) hf
            refine ⟨.agg r', ?_, .agg h2⟩
            simp only [Instr.build, Sem.run_bind, run_zeroValue' hz, run_underlying hu, Result.andThen_ok, run_sizeOf' hs]
            simp only [h1]
            rfl
      · simp at h
    · cases h

theorem snd_buildSlice (hs : Sim φ H bar base w) {t n : Nat} {ps qs : List (Nat × Value)} {a : Value} (hps : PairsR φ ps qs) (h : aBuildSlice P H t n qs = some (.val a H')) : SemOk P φ H bar base w (Instr.buildSlice t n ps.toArray) a H' := by
  unfold aBuildSlice at h
  split at h
  · rename_i elem hu
    cases hz : szT P elem with
    | none => simp [hz] at h
    | some size =>
      simp only [hz, Option.bind_some] at h
      split at h
      · cases h
      · rename_i hbig
        cases hzz : zeroT P elem with
        | none => simp [hzz] at h
        | some z =>
          simp only [hzz, Option.bind_some] at h
          split at h
          · rename_i hc
            simp only [Bool.and_eq_true, beq_iff_eq, decide_eq_true_eq] at hc
            obtain ⟨⟨hp, hsz⟩, hpos⟩ := hc
            generalize hinit : (if n * size = 0 then #[] else (Array.range (n * size)).map (z.cells[· % z.cells.size]!)) = init at h
            have hinitp : init.toList.all plain1 = true := by
              subst hinit
              split
              · rfl
              · rw [List.all_eq_true] at hp ⊢
                intro x hx
                simp only [Array.toList_map, List.mem_map] at hx
                obtain ⟨j, _, rfl⟩ := hx
                have hlt : j % z.cells.size < z.cells.size := Nat.mod_lt _ (by omega)
                rw [getElem!_pos z.cells _ hlt]
                exact hp _ (by simp)
            cases hf : Instr.fill (fun i => some (i * size, size)) init qs with
            | none => simp [hf] at h
            | some r =>
              simp only [hf, Option.bind_some] at h
              cases hr : aNewRow H r.toList elem size with
              | none => simp [hr] at h
              | some p =>
                obtain ⟨b, H₁⟩ := p
                simp [hr] at h
                obtain ⟨ha, hH⟩ := h
                subst ha; subst hH
                obtain ⟨r', h1, h2⟩ := fill_rel _ hps (plains_refl φ _ hinitp) hf
                obtain ⟨φ', w', k1, k2, k3⟩ := run_newRow' P hs h2 hr
                refine ⟨.slice (some ⟨w.heap.size, 0, none⟩) n n, w', φ', ?_, ?_, k2⟩
                · have k1' : (newRow elem r').run P w = .ok ⟨w.heap.size, 0, none⟩ w' := by simpa using k1
                  have hbig' : ¬ n * size > 2 ^ 24 := by simpa using hbig
                  by_cases h0 : n * size = 0
                  · have hi0 : init = #[] := by rw [← hinit, if_pos h0]
                    subst hi0
                    simp only [Instr.buildSlice, Sem.run_bind, run_underlying hu, Result.andThen_ok, run_sizeOf' hz, if_neg hbig', Sem.run_pure, Sem.run_ite, if_pos h0]
                    simp only [h0]
                    have hr0 : (Array.range 0).map (fun x => (#[] : Array Value)[x % (#[] : Array Value).size]!) = #[] := by simp
                    rw [hr0]
                    simp only [h1, Sem.run_bind, k1', Result.andThen_ok, Sem.run_pure]
                  · rw [if_neg h0] at hinit
                    simp only [Instr.buildSlice, Sem.run_bind, run_underlying hu, Result.andThen_ok, run_sizeOf' hz, if_neg hbig', Sem.run_pure, Sem.run_ite, if_neg h0, run_zeroValue' hzz]
                    simp only [hinit, h1, Sem.run_bind, k1', Result.andThen_ok, Sem.run_pure]
                · have hr' : r'.size ≤ 16777216 := by
                    have h3 := h2.length
                    have : r'.size = init.size := by
                      have : ∀ (ps : List (Nat × Value)) (a b : Array Value), Instr.fill (fun i => some (i * size, size)) a ps = some b → b.size = a.size := by
                        intro ps
                        induction ps with
                        | nil => intro a b h; simp [Instr.fill] at h; rw [h]
                        | cons p ps ih =>
                          intro a b h
                          obtain ⟨i, v⟩ := p
                          simp only [Instr.fill] at h
                          split at h
                          · cases h
                          · rw [ih _ _ h, ← Array.foldl_toList]
                            generalize v.cells.zipIdx.toList = l
                            rename_i hcond
                            clear h hcond
                            induction l generalizing a with
                            | nil => rfl
                            | cons x l ih2 => simp only [List.foldl_cons]; rw [ih2]; simp
                      exact this _ _ _ h1
                    rw [this, ← hinit]
                    split
                    · simp
                    · simp; omega
                  have hn16 : n ≤ 16777216 := by
                    have : n * 1 ≤ n * size := Nat.mul_le_mul_left n hpos
                    omega
                  have hv := VR.slice (φ := φ') (o := 0) (len := n) (cap := n) (acap := n) k3 (Nat.le_refl _) (.inl ⟨rfl, by unfold capU; omega⟩)
                  simpa using hv
          · cases h
  · cases h

theorem snd_extract {v x a : Value} {i : Nat} (hv : VR φ v x) (h : aExtract x i = some a) (w : World) : ∃ u, (Instr.extract v i).run P w = .ok u w ∧ VR φ u a := by
  unfold aExtract at h
  split at h
  · rename_i vs
    cases hv with
    | tuple hcs =>
      rename_i cs
      obtain ⟨u, h1, h2⟩ := hcs.get i a (by simpa using h)
      have h1' : cs[i]? = some u := by simpa using h1
      exact ⟨u, by simp [Instr.extract, h1'], h2⟩
  · cases h

theorem snd_makeIface {t : Nat} {v x a : Value} (hv : VR φ v x) (h : aMakeIface P t x = some a) (w : World) : ∃ u, (Instr.makeInterface t v).run P w = .ok u w ∧ VR φ u a := by
  unfold aMakeIface at h
  split at h
  · cases h
  · rename_i d hd hu
    cases h
    refine ⟨.iface t v, ?_, .iface hv⟩
    unfold Instr.makeInterface
    rw [Sem.run_bind, run_underlying hu]
    cases d <;> first | rfl | exact absurd rfl (hd _)
  · cases h

end Go.Abs
