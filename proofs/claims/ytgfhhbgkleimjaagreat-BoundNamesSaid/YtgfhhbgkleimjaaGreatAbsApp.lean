/- A machine that carries out code on values that are known, and the proof that the model's runs agree with it: one part. -/
import Derived.Test.YtgfhhbgkleimjaaGreatAbsSnd3
import Derived.Laws.Append
noncomputable section
namespace Go.Abs
variable {P : Program} {φ : Ren} {H H' : AH} {bar base : Nat} {w : World}

theorem zerosOf_length (z : List Value) : ∀ n, (zerosOf z n).length = n * z.length
  | 0 => by simp [zerosOf]
  | n + 1 => by simp [zerosOf, zerosOf_length z n, Nat.add_mul]; omega

theorem zerosOf_all {z : List Value} {p : Value → Bool} (h : z.all p = true) : ∀ n, (zerosOf z n).all p = true
  | 0 => rfl
  | n + 1 => by simp only [zerosOf, List.all_append, h, zerosOf_all h n, Bool.and_self]

theorem zeroCells_eq (z : Array Value) : ∀ n, (Builtin.zeroCells z n).toList = zerosOf z.toList n
  | 0 => by simp [Builtin.zeroCells, zerosOf]
  | n + 1 => by
    have ih := zeroCells_eq z n
    simp only [Builtin.zeroCells, Array.toList_map, Array.toList_range] at ih ⊢
    rw [Nat.add_mul, Nat.one_mul, Nat.add_comm, List.range_add, List.map_append]
    simp only [zerosOf]
    congr 1
    · apply List.ext_getElem
      · simp
      · intro i h1 h2
        simp at h1
        simp [Nat.mod_eq_of_lt h1, h1]
    · rw [← ih]
      simp [Function.comp_def]

theorem lenOf_rel {v x : Value} {n : Nat} (hv : VR φ v x) (h : aLen x = some n) (w : World) : (Builtin.lenOf v).run P w = .ok n w := by
  unfold aLen at h
  split at h
  · cases h; cases hv with | sliceNil => rfl
  · cases h
    cases hv with
    | slice => rfl
    | sliceE => rfl
  · cases h; cases hv with | string => rfl
  · cases h

theorem Sim.drew (hs : Sim φ H bar base w) : Sim φ H bar base w.drew :=
  ⟨hs.bn, hs.small, hs.lt, fun b r o h hg => (hs.obj b r o h hg).frame (Ren.le_refl _) rfl, hs.inj, hs.own, hs.hb, hs.cur⟩

theorem Step.drew (hs : Sim φ H bar base w) : Step φ H bar base w φ H w.drew :=
  ⟨Ren.le_refl _, hs.drew, fun _ _ h => .inl h, (RowKit.Below.refl _ _).drew, Nat.le_refl _, fun _ _ _ => rfl⟩

theorem firstCells_rel (hs : Sim φ H bar base w) {size n : Nat} {v x : Value} {l : List Value} (hv : VR φ v x) (h : aFirst H size n x = some l) (hn : ∀ m, aLen x = some m → n ≤ m) :
    ∃ vs, VRs φ vs l ∧ ∀ w' : World, w'.heap = w.heap → (Builtin.firstCells size n v).run P w' = .ok vs.toArray w' := by
  unfold aFirst at h
  split at h
  · cases hv with
    | sliceNil =>
      split at h
      · cases h; exact ⟨[], .nil, fun w' _ => by simp [Builtin.firstCells]⟩
      · cases h
  · rename_i b o len cap
    split at h
    · rename_i h0
      cases h
      refine ⟨[], .nil, fun w' _ => ?_⟩
      cases hv with
      | slice hφ => simp [Builtin.firstCells, h0, loadCells, loadCellsFrom]
      | sliceE hφ => simp [Builtin.firstCells, h0, loadCells, loadCellsFrom]
    · rename_i h0
      cases hv with
      | slice hφ hl hc =>
        rename_i cap' r
        unfold rowCells at h
        split at h
        · rename_i c t z hg
          obtain ⟨arr, fz, g1, g2, g3, g4, g5, g6⟩ := hs.obj b r _ hφ hg
          obtain ⟨vs, e1, e2⟩ := load_row P hs hφ hg h
          refine ⟨vs, e1, fun w' hw' => ?_⟩
          have hs' : Sim φ H bar base { w' with heap := w.heap } := by
            rw [← hw']
            exact ⟨hs.bn, hs.small, hs.lt, fun b r o h hg => (hs.obj b r o h hg).frame (Ren.le_refl _) (by rw [hw']), hs.inj, hs.own, by rw [hw']; exact hs.hb, by rw [hw']; exact hs.cur⟩
          have he : ({ w' with heap := w.heap } : World) = w' := by rw [← hw']
          rw [he] at hs'
          obtain ⟨vs2, e3, e4⟩ := load_row P hs' hφ hg h
          have : vs2 = vs := by
            have q1 := e1.length
            have q2 := e3.length
            obtain ⟨hll, _⟩ := cellsAt_get h
            have hlist : ∀ (us : List Value) (x : World), x.heap = w.heap → us.length = n * size → (loadCells ⟨r.c, r.s + o, none⟩ (n * size)).run P x = .ok us.toArray x → us = (List.range (n * size)).map fun i => arr[r.s + o + i]?.getD undef := by
              intro us x hx hul hrun
              have hb : ∀ i, i < n * size → r.s + o + i < arr.size := by
                intro i hi
                have : o + (n * size) ≤ c.length := by
                  have h2 := h
                  rw [cellsAt_eq] at h2
                  split at h2
                  · rename_i hq; simp at hq; omega
                  · cases h2
                omega
              have hr2 := run_loadCells_list (P := P) x ⟨r.c, r.s + o, none⟩ ((List.range (n * size)).map fun i => arr[r.s + o + i]?.getD undef) (fun j v hv => by
                simp only [List.getElem?_map, Option.map_eq_some_iff] at hv
                obtain ⟨k, hk, rfl⟩ := hv
                have hj : j < n * size := by have := (List.getElem?_eq_some_iff.1 hk).1; simpa using this
                have : k = j := by have := (List.getElem?_eq_some_iff.1 hk).2; simpa using this.symm
                subst this
                rw [add_plain]
                simp only [World.cell?, hx, g1]
                simp [Array.getElem?_eq_getElem (hb k hj)])
              simp only [List.length_map, List.length_range] at hr2
              rw [hr2] at hrun
              injection hrun with e1 e2
              have := congrArg Array.toList e1
              simpa using this.symm
            rw [hlist vs w rfl (by omega) e2, hlist vs2 w' hw' (by omega) e4]
          rw [← this]
          exact e4
        · cases h
      | sliceE hφ ha =>
        have hn' := hn 0 rfl
        have : n = 0 := by omega
        subst this
        simp at h0
  · rename_i s
    cases h
    cases hv with
    | string =>
      refine ⟨_, plains_refl φ _ (by rw [List.all_eq_true]; intro x hx; simp only [List.mem_map] at hx; obtain ⟨b, _, rfl⟩ := hx; rfl), fun w' _ => ?_⟩
      simp only [Builtin.firstCells, Sem.run_pure]
      congr 1
      apply Array.ext'
      simp [List.map_take]
  · cases h

theorem aLen_slice {a : Option Addr} {l c n : Nat} (h : aLen (.slice a l c) = some n) : l = n := by
  unfold aLen at h
  split at h <;> simp_all

/-- What is appended. -/
inductive App (P : Program) (xt size bytes : Nat) (z : Array Value) (n : Nat) (vs : List Value) (h : Array Obj) : Value → Prop
  | slice {e : Nat} {a : Option Addr} {l c : Nat} (ht : P.underlying xt = some (.slice e)) (hl : l = n) (hf : ∀ w' : World, w'.heap = h → (Builtin.firstCells size n (.slice a l c)).run P w' = .ok vs.toArray w') : App P xt size bytes z n vs h (.slice a l c)
  | string {s : ByteArray} (ht : P.underlying xt = some .string) (hl : s.size = n) (hf : ∀ w' : World, w'.heap = h → (Builtin.firstCells size n (.string s)).run P w' = .ok vs.toArray w') : App P xt size bytes z n vs h (.string s)
  | zeros {k : IntKind} (ht : P.underlying xt = some (.int k)) (h63 : n < 9223372036854775808) (hb : n * bytes ≤ 281474976710656) (hv : vs = zerosOf z.toList n) : App P xt size bytes z n vs h (.int .i64 n)

theorem appended_rel (hs : Sim φ H bar base w) {xt size bytes n : Nat} {z : Array Value} {v x : Value} {l : List Value} (hv : VR φ v x) (hzp : z.toList.all plain1 = true) (hzl : z.toList.length = size)
    (h : aAppended P H xt size bytes z.toList x = some (n, l)) : ∃ vs, VRs φ vs l ∧ l.length = n * size ∧ App P xt size bytes z n vs w.heap v := by
  unfold aAppended at h
  split at h
  · rename_i k ht
    split at h
    · rename_i m
      split at h
      · rename_i hb
        cases h
        cases hv with
        | int =>
          have hm : (m.toNat : Int) = m := by omega
          refine ⟨zerosOf z.toList m.toNat, plains_refl φ _ (zerosOf_all hzp _), by rw [zerosOf_length, hzl], ?_⟩
          have := App.zeros (P := P) (xt := xt) (size := size) (bytes := bytes) (z := z) (n := m.toNat) (vs := zerosOf z.toList m.toNat) (h := w.heap) ht (by omega) (by
            have h2 := hb.2.1
            rw [← hm, ← Int.natCast_mul] at h2
            exact Int.ofNat_le.1 h2) rfl
          rw [hm] at this
          exact this
      · cases h
    · cases h
  · rename_i e ht
    split at h
    · rename_i a ln cp
      obtain ⟨n', h1, h⟩ := Option.bind_eq_some_iff.1 h
      obtain ⟨l', h2, h⟩ := Option.bind_eq_some_iff.1 h
      split at h
      · rename_i hl
        cases h
        obtain ⟨vs, e1, e2⟩ := firstCells_rel (P := P) hs hv h2 (fun m hm => by rw [h1] at hm; cases hm; exact Nat.le_refl _)
        refine ⟨vs, e1, hl, ?_⟩
        have hlen : ln = n := aLen_slice h1
        cases hv with
        | sliceNil => exact .slice ht hlen e2
        | slice => exact .slice ht hlen e2
        | sliceE => exact .slice ht hlen e2
      · cases h
    · cases h
  · rename_i ht
    split at h
    · rename_i s
      obtain ⟨n', h1, h⟩ := Option.bind_eq_some_iff.1 h
      obtain ⟨l', h2, h⟩ := Option.bind_eq_some_iff.1 h
      split at h
      · rename_i hl
        cases h
        obtain ⟨vs, e1, e2⟩ := firstCells_rel (P := P) hs hv h2 (fun m hm => by rw [h1] at hm; cases hm; exact Nat.le_refl _)
        have hlen : s.size = n := by simpa [aLen] using h1
        cases hv with
        | string => exact ⟨vs, e1, hl, .string ht hlen e2⟩
      · cases h
    · cases h
  · cases h

end Go.Abs
