/- A machine that carries out code on values that are known, and the proof that the model's runs agree with it: one part. -/
import Derived.Test.YtgfhhbgkleimjaaGreatAbsMem
noncomputable section
namespace Go.Abs

/-- w' is w but for block c. -/
structure Only (c : Nat) (w w' : World) : Prop where
  os : w'.os = w.os
  tape : w'.tape = w.tape
  output : w'.output = w.output
  size : w'.heap.size = w.heap.size
  block : ∀ k, k ≠ c → w'.heap[k]? = w.heap[k]?

theorem Only.refl (c : Nat) (w : World) : Only c w w := ⟨rfl, rfl, rfl, rfl, fun _ _ => rfl⟩
theorem Only.trans {c : Nat} {u v w : World} (h : Only c u v) (k : Only c v w) : Only c u w :=
  ⟨k.os.trans h.os, k.tape.trans h.tape, k.output.trans h.output, k.size.trans h.size, fun i hi => (k.block i hi).trans (h.block i hi)⟩

theorem Only.setCell (w : World) (a : Addr) (v : Value) : Only a.block w (w.setCell a v) :=
  ⟨rfl, rfl, rfl, by simp [World.setCell], fun k hk => RowKit.Below.heap_setCell w a v k hk⟩

theorem Only.below {c base : Nat} {w w' : World} (h : Only c w w') (hc : base ≤ c) : RowKit.Below base w w' :=
  ⟨h.os, h.tape, h.output, Nat.le_of_eq h.size.symm, fun k hk => h.block k (by omega)⟩

/-- One block is written. -/
theorem Sim.update {φ : Ren} {H : AH} {bar base : Nat} {w w' : World} (hs : Sim φ H bar base w) {b : Nat} {r : RB} (hφ : φ b = some r) (hb : bar ≤ b) (hl : H.live b)
    (hw : Only r.c w w') {ao : AObj} (ho : ObjR φ r w' ao) : Step φ H bar base w φ (H.put b ao) w' := by
  have hsm := hs.small
  have hlt := hs.lt b r hφ
  have hget : ∀ b', b' < 262144 → (H.put b ao).get b' = if b' = b then some ao else H.get b' := fun b' h => AH.get_put H ao (by omega) h
  have hlive : ∀ b', b' < 262144 → (H.put b ao).live b' → H.live b' := by
    intro b' h ⟨o', h1, h2⟩
    rw [hget b' h] at h1
    split at h1
    · rename_i e; rw [e]; exact hl
    · exact ⟨o', h1, h2⟩
  refine ⟨Ren.le_refl _, ⟨hs.bn, hsm, hs.lt, ?_, ?_, hs.own, ?_, ?_⟩, fun _ _ h => .inl h, hw.below (hs.own b r hφ hb), Nat.le_refl _, ?_⟩
  · intro b' r' o' h hg
    have h' := hs.lt b' r' h
    rw [hget b' (by omega)] at hg
    split at hg
    · rename_i e; subst e
      rw [hφ] at h; cases h; cases hg
      exact ho
    · rename_i e
      by_cases hd : o' = .dead
      · subst hd; trivial
      · refine (hs.obj b' r' o' h hg).frame (Ren.le_refl _) (hw.block _ ?_)
        intro ec
        exact e (hs.inj b b' r r' hφ h hl ⟨o', hg, hd⟩ hb ec.symm).symm
  · intro b₁ b₂ r₁ r₂ h1 h2 l1 l2 hbb hc
    have q1 := hs.lt b₁ r₁ h1
    have q2 := hs.lt b₂ r₂ h2
    exact hs.inj b₁ b₂ r₁ r₂ h1 h2 (hlive _ (by omega) l1) (hlive _ (by omega) l2) hbb hc
  · rw [hw.size]; exact hs.hb
  · intro b' r' h; rw [hw.size]; exact hs.cur b' r' h
  · intro b' h h'
    rw [hget b' (by omega), if_neg (by omega)]

/-- One block is written, and has a new number from now on. -/
theorem Sim.rekey {φ : Ren} {H H' : AH} {bar base : Nat} {w w' : World} (hs : Sim φ H bar base w) {b : Nat} {r r' : RB} (hφ : φ b = some r) (hb : bar ≤ b) (hl : H.live b)
    (hw : Only r.c w w') (hc : r'.c = r.c) {ao : AObj} (ha : (H.put b .dead).alloc ao = some H') (ho : ObjR (upd φ H.next r') r' w' ao) : Step φ H bar base w (upd φ H.next r') H' w' := by
  have hsm := hs.small
  have hlt := hs.lt b r hφ
  obtain ⟨hlt', hnx, hget'⟩ := AH.alloc_eq ha
  have hn : (H.put b .dead).next = H.next := rfl
  rw [hn] at hlt' hnx hget'
  have hget : ∀ b', b' < 262144 → H'.get b' = if b' = H.next then some ao else if b' = b then some .dead else H.get b' := by
    intro b' h
    rw [hget' b' h, AH.get_put H .dead (by omega) h]
  have hle := upd_le hs r'
  have hbn := hs.bn
  have part : ∀ b₁ r₁, upd φ H.next r' b₁ = some r₁ → (b₁ = H.next ∧ r₁ = r') ∨ (b₁ ≠ H.next ∧ φ b₁ = some r₁) := by
    intro b₁ r₁ h
    unfold upd at h
    split at h
    · rename_i e; cases h; exact .inl ⟨e, rfl⟩
    · rename_i e; exact .inr ⟨e, h⟩
  have hlive : ∀ b', b' ≠ H.next → b' < 262144 → H'.live b' → H.live b' ∧ b' ≠ b := by
    intro b' h1 h ⟨o', h2, h3⟩
    rw [hget b' h, if_neg h1] at h2
    split at h2
    · cases h2; exact absurd rfl h3
    · rename_i e; exact ⟨⟨o', h2, h3⟩, e⟩
  refine ⟨hle, ⟨?_, ?_, ?_, ?_, ?_, ?_, ?_, ?_⟩, ?_, hw.below (hs.own b r hφ hb), ?_, ?_⟩
  · omega
  · omega
  · intro b₁ r₁ h
    rcases part b₁ r₁ h with ⟨rfl, _⟩ | ⟨_, h⟩
    · omega
    · have := hs.lt b₁ r₁ h; omega
  · intro b₁ r₁ o₁ h hg
    rcases part b₁ r₁ h with ⟨rfl, rfl⟩ | ⟨hne, h⟩
    · rw [hget _ hlt', if_pos rfl] at hg
      cases hg
      exact ho
    · have h' := hs.lt b₁ r₁ h
      rw [hget b₁ (by omega), if_neg hne] at hg
      split at hg
      · cases hg; trivial
      · rename_i e
        by_cases hd : o₁ = .dead
        · subst hd; trivial
        · refine (hs.obj b₁ r₁ o₁ h hg).frame hle (hw.block _ ?_)
          intro ec
          exact e (hs.inj b b₁ r r₁ hφ h hl ⟨o₁, hg, hd⟩ hb ec.symm).symm
  · intro b₁ b₂ r₁ r₂ h1 h2 l1 l2 hbb hcc
    rcases part b₁ r₁ h1 with ⟨e1, e2⟩ | ⟨n1, h1⟩ <;> rcases part b₂ r₂ h2 with ⟨e3, e4⟩ | ⟨n2, h2⟩
    · rw [e1, e3]
    · exfalso
      have q2 := hs.lt b₂ r₂ h2
      obtain ⟨l2, n2'⟩ := hlive b₂ n2 (by omega) l2
      exact n2' (hs.inj b b₂ r r₂ hφ h2 hl l2 hb (by rw [← hcc, e2, hc])).symm
    · exfalso
      have q1 := hs.lt b₁ r₁ h1
      obtain ⟨l1, n1'⟩ := hlive b₁ n1 (by omega) l1
      exact n1' (hs.inj b b₁ r r₁ hφ h1 hl l1 hb (by rw [hcc, e4, hc])).symm
    · have q1 := hs.lt b₁ r₁ h1
      have q2 := hs.lt b₂ r₂ h2
      exact hs.inj b₁ b₂ r₁ r₂ h1 h2 (hlive _ n1 (by omega) l1).1 (hlive _ n2 (by omega) l2).1 hbb hcc
  · intro b₁ r₁ h hb₁
    rcases part b₁ r₁ h with ⟨rfl, rfl⟩ | ⟨_, h⟩
    · rw [hc]; exact hs.own b r hφ hb
    · exact hs.own b₁ r₁ h hb₁
  · rw [hw.size]; exact hs.hb
  · intro b₁ r₁ h
    rw [hw.size]
    rcases part b₁ r₁ h with ⟨rfl, rfl⟩ | ⟨_, h⟩
    · rw [hc]; exact hs.cur b r hφ
    · exact hs.cur b₁ r₁ h
  · intro b₁ r₁ h
    rcases part b₁ r₁ h with ⟨rfl, _⟩ | ⟨_, h⟩
    · exact .inr (Nat.le_refl _)
    · exact .inl h
  · omega
  · intro b₁ h1 h2
    rw [hget b₁ (by omega), if_neg (by omega), if_neg (by omega)]

/-- The part of a list between two places is overwritten. -/
def wr (c : List Value) : Nat → List Value → Option (List Value) :=
  List.rec (motive := fun _ => Nat → List Value → Option (List Value))
    (fun _ vs => List.rec (some []) (fun _ _ _ => none) vs)
    (fun x t ih i vs => List.rec (some (x :: t)) (fun a as _ => Bool.rec (Option.rec none (fun l => some (x :: l)) (ih (Nat.pred i) (a :: as))) (Option.rec none (fun l => some (a :: l)) (ih 0 as)) (Nat.beq i 0)) vs) c

theorem wr_nil (c : List Value) (i : Nat) : wr c i [] = some c := by cases c <;> rfl
theorem wr_none (i : Nat) (a : Value) (as : List Value) : wr [] i (a :: as) = none := rfl
theorem wr_zero (x : Value) (c : List Value) (a : Value) (as : List Value) : wr (x :: c) 0 (a :: as) = match wr c 0 as with | some l => some (a :: l) | none => none := by
  have h : wr (x :: c) 0 (a :: as) = Option.rec none (fun l => some (a :: l)) (wr c 0 as) := rfl
  rw [h]
  cases wr c 0 as <;> rfl
theorem wr_succ (x : Value) (c : List Value) (i : Nat) (a : Value) (as : List Value) : wr (x :: c) (i + 1) (a :: as) = match wr c i (a :: as) with | some l => some (x :: l) | none => none := by
  have h : wr (x :: c) (i + 1) (a :: as) = Option.rec none (fun l => some (x :: l)) (wr c i (a :: as)) := rfl
  rw [h]
  cases wr c i (a :: as) <;> rfl

theorem wr_spec : ∀ (c : List Value) (i : Nat) (as c' : List Value), wr c i as = some c' →
    c'.length = c.length ∧ (as = [] ∨ i + as.length ≤ c.length) ∧ ∀ j, c'[j]? = if i ≤ j ∧ j < i + as.length then as[j - i]? else c[j]?
  | c, i, [], c', h => by
    rw [wr_nil] at h
    cases h
    refine ⟨rfl, .inl rfl, fun j => ?_⟩
    rw [if_neg (by simp <;> omega)]
  | [], i, a :: as, c', h => by simp [wr_none] at h
  | x :: c, 0, a :: as, c', h => by
    rw [wr_zero] at h
    split at h
    · rename_i l hl
      cases h
      obtain ⟨h1, h2, h3⟩ := wr_spec c 0 as l hl
      refine ⟨by simp [h1], .inr ?_, fun j => ?_⟩
      · rcases h2 with rfl | h2
        · simp
        · simp only [List.length_cons]; omega
      · cases j with
        | zero => simp
        | succ j =>
          simp only [List.getElem?_cons_succ, h3 j, List.length_cons]
          by_cases hj : j < 0 + as.length
          · rw [if_pos ⟨by omega, hj⟩, if_pos ⟨by omega, by omega⟩]
            simp
          · rw [if_neg (by omega), if_neg (by omega)]
    · cases h
  | x :: c, i + 1, a :: as, c', h => by
    rw [wr_succ] at h
    split at h
    · rename_i l hl
      cases h
      obtain ⟨h1, h2, h3⟩ := wr_spec c i (a :: as) l hl
      refine ⟨by simp [h1], .inr ?_, fun j => ?_⟩
      · rcases h2 with h2 | h2
        · cases h2
        · simp only [List.length_cons] at h2 ⊢; omega
      · cases j with
        | zero => simp
        | succ j =>
          simp only [List.getElem?_cons_succ, h3 j]
          by_cases hj : i ≤ j ∧ j < i + (a :: as).length
          · rw [if_pos hj, if_pos ⟨by omega, by omega⟩, Nat.add_sub_add_right]
          · rw [if_neg hj, if_neg (by omega)]
    · cases h

/-- A value of one cell. -/
def one : Value → Bool
  | .agg _ | .tuple _ => false
  | _ => true

theorem add_plain (g o i : Nat) : (⟨g, o, none⟩ : Addr).add i = ⟨g, o + i, none⟩ := by
  unfold Addr.add
  split
  · rename_i h; rw [h]; rfl
  · rfl

theorem run_storeCells (P : Program) (g o : Nat) (t : TypeId) (fz : Nat × Nat) : ∀ (vs : List Value) (i : Nat) (w : World) (arr : Array Value), w.heap[g]? = some (.cells arr t fz) → Unfrozen arr.size fz →
    o + i + vs.length ≤ arr.size → (∀ v ∈ vs, one v = true) → ∃ w' arr', (storeCells ⟨g, o, none⟩ vs i).run P w = .ok () w' ∧ Only g w w' ∧ w'.heap[g]? = some (.cells arr' t fz) ∧ arr'.size = arr.size ∧
      ∀ j, arr'[j]? = if o + i ≤ j ∧ j < o + i + vs.length then vs[j - (o + i)]? else arr[j]?
  | [], i, w, arr, h1, h2, h3, h4 => ⟨w, arr, by simp [storeCells], Only.refl _ _, h1, rfl, fun j => by rw [if_neg (by simp <;> omega)]⟩
  | v :: vs, i, w, arr, h1, h2, h3, h4 => by
    simp only [List.length_cons] at h3
    have hv : one v = true := h4 v (by simp)
    have hcell : w.cell? ⟨g, o + i, none⟩ = some arr[o + i] := by
      simp only [World.cell?, h1]
      simp
    have hfz : w.frozen? ⟨g, o + i, none⟩ = false := by
      simp only [World.frozen?, h1]
      have := h2 (o + i) (by omega)
      simp only [Bool.and_eq_false_iff, decide_eq_false_iff_not]
      by_cases hh : fz.1 ≤ o + i
      · right; intro hh'; exact this ⟨hh, hh'⟩
      · left; exact hh
    have hset : (w.setCell ⟨g, o + i, none⟩ v).heap[g]? = some (.cells (arr.setIfInBounds (o + i) v) t fz) := by
      simp only [World.setCell, Array.getElem?_modify, if_true, h1]
      simp
    obtain ⟨w', arr', e1, e2, e3, e4, e5⟩ := run_storeCells P g o t fz vs (i + 1) (w.setCell ⟨g, o + i, none⟩ v) _ hset (by simpa using h2) (by simp; omega) (fun u hu => h4 u (by simp [hu]))
    refine ⟨w', arr', ?_, (Only.setCell w ⟨g, o + i, none⟩ v).trans e2, e3, by simpa using e4, ?_⟩
    · simp only [storeCells, add_plain]
      have : (store ⟨g, o + i, none⟩ v).run P w = .ok () (w.setCell ⟨g, o + i, none⟩ v) := by
        unfold store
        cases v <;> first | (simp [one] at hv; done) | simp [Sem.run, hcell, hfz]
      rw [Sem.run_bind, this]
      exact e1
    · intro j
      rw [e5 j]
      by_cases hj : o + (i + 1) ≤ j ∧ j < o + (i + 1) + vs.length
      · rw [if_pos hj, if_pos (by simp only [List.length_cons]; omega)]
        have : j - (o + i) = (j - (o + (i + 1))) + 1 := by omega
        rw [this, List.getElem?_cons_succ]
      · rw [if_neg hj]
        by_cases hj' : j = o + i
        · subst hj'
          rw [if_pos (by simp only [List.length_cons]; omega)]
          simp
          rw [Array.getElem?_setIfInBounds_self_of_lt (by omega)]
        · rw [if_neg (by simp only [List.length_cons]; omega), Array.getElem?_setIfInBounds_ne (by omega)]

end Go.Abs
