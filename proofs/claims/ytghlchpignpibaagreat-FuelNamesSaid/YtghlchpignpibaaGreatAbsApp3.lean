/- A machine that carries out code on values that are known, and the proof that the model's runs agree with it: one part. -/
import Derived.Test.YtghlchpignpibaaGreatAbsSnd3
import Derived.Laws.Append
noncomputable section
namespace Go.Abs
variable {P : Program} {φ : Ren} {H H' : AH} {bar base : Nat} {w : World}

theorem zerosOf_length (z : List Value) : ∀ n, (zerosOf z n).length = n * z.length
  | 0 => by simp [zerosOf]
  | n + 1 => by simp [zerosOf, zerosOf_length z n, Nat.add_mul]; omega

theorem zerosOf_all {z : List Value} {p : Value → Bool} (h : z.all p = true) : ∀ n, (zerosOf z n).all p = true
  | 0 => rfl
  | n + 1 => by simp only [zerosOf, List.all_append, h, zerosOf_all h n, Bool.and_self]

theorem zeroCells_eq (z : Array Value) : ∀ n, (Builtin.zeroCells z n).toList = zerosOf z.toList n
  | 0 => by simp [Builtin.zeroCells, zerosOf]
  | n + 1 => by
    have ih := zeroCells_eq z n
    simp only [Builtin.zeroCells, Array.toList_map, Array.toList_range] at ih ⊢
    rw [Nat.add_mul, Nat.one_mul, Nat.add_comm, List.range_add, List.map_append]
    simp only [zerosOf]
    congr 1
    · apply List.ext_getElem
      · simp
      · intro i h1 h2
        simp at h1
        simp [Nat.mod_eq_of_lt h1, h1]
    · rw [← ih]
      simp [Function.comp_def]

theorem lenOf_rel {v x : Value} {n : Nat} (hv : VR φ v x) (h : aLen x = some n) (w : World) : (Builtin.lenOf v).run P w = .ok n w := by
  unfold aLen at h
  split at h
  · cases h; cases hv with | sliceNil => rfl
  · cases h
    cases hv with
    | slice => rfl
    | sliceE => rfl
  · cases h; cases hv with | string => rfl
  · cases h

theorem Sim.drew (hs : Sim φ H bar base w) : Sim φ H bar base w.drew :=
  ⟨hs.bn, hs.small, hs.lt, fun b r o h hg => (hs.obj b r o h hg).frame (Ren.le_refl _) rfl, hs.inj, hs.own, hs.hb, hs.cur⟩

theorem Step.drew (hs : Sim φ H bar base w) : Step φ H bar base w φ H w.drew :=
  ⟨Ren.le_refl _, hs.drew, fun _ _ h => .inl h, (RowKit.Below.refl _ _).drew, Nat.le_refl _, fun _ _ _ => rfl⟩

theorem firstCells_rel (hs : Sim φ H bar base w) {size n : Nat} {v x : Value} {l : List Value} (hv : VR φ v x) (h : aFirst H size n x = some l) (hn : ∀ m, aLen x = some m → n ≤ m) :
    ∃ vs, VRs φ vs l ∧ ∀ w' : World, w'.heap = w.heap → (Builtin.firstCells size n v).run P w' = .ok vs.toArray w' := by
  unfold aFirst at h
  split at h
  · cases hv with
    | sliceNil =>
      split at h
      · cases h; exact ⟨[], .nil, fun w' _ => by simp [Builtin.firstCells]⟩
      · cases h
  · rename_i b o len cap
    split at h
    · rename_i h0
      cases h
      refine ⟨[], .nil, fun w' _ => ?_⟩
      cases hv with
      | slice hφ => simp [Builtin.firstCells, h0, loadCells, loadCellsFrom]
      | sliceE hφ => simp [Builtin.firstCells, h0, loadCells, loadCellsFrom]
    · rename_i h0
      cases hv with
      | slice hφ hl hc =>
        rename_i cap' r
        unfold rowCells at h
        split at h
        · rename_i c t z hg
          obtain ⟨arr, fz, g1, g2, g3, g4, g5, g6⟩ := hs.obj b r _ hφ hg
          obtain ⟨vs, e1, e2⟩ := load_row P hs hφ hg h
          refine ⟨vs, e1, fun w' hw' => ?_⟩
          have hs' : Sim φ H bar base { w' with heap := w.heap } := by
            rw [← hw']
            exact ⟨hs.bn, hs.small, hs.lt, fun b r o h hg => (hs.obj b r o h hg).frame (Ren.le_refl _) (by rw [hw']), hs.inj, hs.own, by rw [hw']; exact hs.hb, by rw [hw']; exact hs.cur⟩
          have he : ({ w' with heap := w.heap } : World) = w' := by rw [← hw']
          rw [he] at hs'
          obtain ⟨vs2, e3, e4⟩ := load_row P hs' hφ hg h
          have : vs2 = vs := by
            have q1 := e1.length
            have q2 := e3.length
            obtain ⟨hll, _⟩ := cellsAt_get h
            have hlist : ∀ (us : List Value) (x : World), x.heap = w.heap → us.length = n * size → (loadCells ⟨r.c, r.s + o, none⟩ (n * size)).run P x = .ok us.toArray x → us = (List.range (n * size)).map fun i => arr[r.s + o + i]?.getD undef := by
              intro us x hx hul hrun
              have hb : ∀ i, i < n * size → r.s + o + i < arr.size := by
                intro i hi
                have : o + (n * size) ≤ c.length := by
                  have h2 := h
                  rw [cellsAt_eq] at h2
                  split at h2
                  · rename_i hq; simp at hq; omega
                  · cases h2
                omega
              have hr2 := run_loadCells_list (P := P) x ⟨r.c, r.s + o, none⟩ ((List.range (n * size)).map fun i => arr[r.s + o + i]?.getD undef) (fun j v hv => by
                simp only [List.getElem?_map, Option.map_eq_some_iff] at hv
                obtain ⟨k, hk, rfl⟩ := hv
                have hj : j < n * size := by have := (List.getElem?_eq_some_iff.1 hk).1; simpa using this
                have : k = j := by have := (List.getElem?_eq_some_iff.1 hk).2; simpa using this.symm
                subst this
                rw [add_plain]
                simp only [World.cell?, hx, g1]
                simp [Array.getElem?_eq_getElem (hb k hj)])
              simp only [List.length_map, List.length_range] at hr2
              rw [hr2] at hrun
              injection hrun with e1 e2
              have := congrArg Array.toList e1
              simpa using this.symm
            rw [hlist vs w rfl (by omega) e2, hlist vs2 w' hw' (by omega) e4]
          rw [← this]
          exact e4
        · cases h
      | sliceE hφ ha =>
        have hn' := hn 0 rfl
        have : n = 0 := by omega
        subst this
        simp at h0
  · rename_i s
    cases h
    cases hv with
    | string =>
      refine ⟨_, plains_refl φ _ (by rw [List.all_eq_true]; intro x hx; simp only [List.mem_map] at hx; obtain ⟨b, _, rfl⟩ := hx; rfl), fun w' _ => ?_⟩
      simp only [Builtin.firstCells, Sem.run_pure]
      congr 1
      apply Array.ext'
      simp [List.map_take]
  · cases h

theorem aLen_slice {a : Option Addr} {l c n : Nat} (h : aLen (.slice a l c) = some n) : l = n := by
  unfold aLen at h
  split at h <;> simp_all

/-- What is appended. -/
inductive App (P : Program) (xt size bytes : Nat) (z : Array Value) (n : Nat) (vs : List Value) (h : Array Obj) : Value → Prop
  | slice {e : Nat} {a : Option Addr} {l c : Nat} (ht : P.underlying xt = some (.slice e)) (hl : l = n) (hf : ∀ w' : World, w'.heap = h → (Builtin.firstCells size n (.slice a l c)).run P w' = .ok vs.toArray w') : App P xt size bytes z n vs h (.slice a l c)
  | string {s : ByteArray} (ht : P.underlying xt = some .string) (hl : s.size = n) (hf : ∀ w' : World, w'.heap = h → (Builtin.firstCells size n (.string s)).run P w' = .ok vs.toArray w') : App P xt size bytes z n vs h (.string s)
  | zeros {k : IntKind} (ht : P.underlying xt = some (.int k)) (h63 : n < 9223372036854775808) (hb : n * bytes ≤ 281474976710656) (hv : vs = zerosOf z.toList n) : App P xt size bytes z n vs h (.int .i64 n)

theorem appended_rel (hs : Sim φ H bar base w) {xt size bytes n : Nat} {z : Array Value} {v x : Value} {l : List Value} (hv : VR φ v x) (hzp : z.toList.all plain1 = true) (hzl : z.toList.length = size)
    (h : aAppended P H xt size bytes z.toList x = some (n, l)) : ∃ vs, VRs φ vs l ∧ l.length = n * size ∧ App P xt size bytes z n vs w.heap v := by
  unfold aAppended at h
  split at h
  · rename_i k ht
    split at h
    · rename_i m
      split at h
      · rename_i hb
        cases h
        cases hv with
        | int =>
          have hm : (m.toNat : Int) = m := by omega
          refine ⟨zerosOf z.toList m.toNat, plains_refl φ _ (zerosOf_all hzp _), by rw [zerosOf_length, hzl], ?_⟩
          have := App.zeros (P := P) (xt := xt) (size := size) (bytes := bytes) (z := z) (n := m.toNat) (vs := zerosOf z.toList m.toNat) (h := w.heap) ht (by omega) (by
            have h2 := hb.2.1
            rw [← hm, ← Int.natCast_mul] at h2
            exact Int.ofNat_le.1 h2) rfl
          rw [hm] at this
          exact this
      · cases h
    · cases h
  · rename_i e ht
    split at h
    · rename_i a ln cp
      obtain ⟨n', h1, h⟩ := Option.bind_eq_some_iff.1 h
      obtain ⟨l', h2, h⟩ := Option.bind_eq_some_iff.1 h
      split at h
      · rename_i hl
        cases h
        obtain ⟨vs, e1, e2⟩ := firstCells_rel (P := P) hs hv h2 (fun m hm => by rw [h1] at hm; cases hm; exact Nat.le_refl _)
        refine ⟨vs, e1, hl, ?_⟩
        have hlen : ln = n := aLen_slice h1
        cases hv with
        | sliceNil => exact .slice ht hlen e2
        | slice => exact .slice ht hlen e2
        | sliceE => exact .slice ht hlen e2
      · cases h
    · cases h
  · rename_i ht
    split at h
    · rename_i s
      obtain ⟨n', h1, h⟩ := Option.bind_eq_some_iff.1 h
      obtain ⟨l', h2, h⟩ := Option.bind_eq_some_iff.1 h
      split at h
      · rename_i hl
        cases h
        obtain ⟨vs, e1, e2⟩ := firstCells_rel (P := P) hs hv h2 (fun m hm => by rw [h1] at hm; cases hm; exact Nat.le_refl _)
        have hlen : s.size = n := by simpa [aLen] using h1
        cases hv with
        | string => exact ⟨vs, e1, hl, .string ht hlen e2⟩
      · cases h
    · cases h
  · cases h

end Go.Abs

noncomputable section
namespace Go.Abs
variable {P : Program} {φ : Ren} {H H' : AH} {bar base : Nat} {w : World}

/-- Append within the capacity. -/
theorem run_app_in {st xt ty elem : Nat} {i : TypeInfo} {zv : Value} (hu : P.underlying st = some (.slice elem)) (hi : P.info? elem = some i) (hz : i.zero = some zv) (hzs : zv.cells.size = i.size)
    {u : Value} {n : Nat} {vs : List Value} (ha : App P xt i.size i.bytes zv.cells n vs w.heap u) (g o len cap : Nat) (hroom : len + n ≤ cap) {w' : World}
    (hst : (storeCells ⟨g, o + len * i.size, none⟩ vs).run P w = .ok () w') :
    (Builtin.append_ #[st, xt] ty #[.slice (some ⟨g, o, none⟩) len cap, u]).run P w = .ok (.slice (some ⟨g, o, none⟩) (len + n) cap) w' := by
  cases ha with
  | slice ht hl hf =>
    subst hl
    simp [Builtin.append_, run_underlying hu, run_underlying ht, Go.sizeOf, typeInfo, hi, Builtin.lenOf, hroom, hf w rfl, add_plain, hst]
  | string ht hl hf =>
    simp [Builtin.append_, run_underlying hu, run_underlying ht, Go.sizeOf, typeInfo, hi, Builtin.lenOf, hl, hroom, hf w rfl, add_plain, hst]
  | zeros ht h63 hb hv =>
    have hw : IntKind.i64.wrap (n : Int) = n := by simp [IntKind.wrap, IntKind.bits, IntKind.signed]; omega
    have h1 : ¬ ((n : Int) < 0) := by omega
    have h2 : ¬ (281474976710656 < (n : Int) * i.bytes) := by rw [← Int.natCast_mul]; omega
    by_cases h0 : n * i.size = 0
    · have hvs : vs = [] := by
        apply List.eq_nil_of_length_eq_zero
        rw [hv, zerosOf_length, Array.length_toList, hzs, h0]
      subst hvs
      simp [Builtin.append_, run_underlying hu, run_underlying ht, Go.sizeOf, typeInfo, hi, asInt, asIntOf, hw, h1, h2, hroom, h0, add_plain, hst]
    · have hzc : (Builtin.zeroCells zv.cells n).toList = vs := by rw [zeroCells_eq, hv]
      simp [Builtin.append_, run_underlying hu, run_underlying ht, Go.sizeOf, typeInfo, zeroValue, hi, hz, asInt, asIntOf, hw, h1, h2, hroom, h0, add_plain, hzc, hst]

theorem run_app_none {st xt ty elem : Nat} {i : TypeInfo} {zv : Value} (hu : P.underlying st = some (.slice elem)) (hi : P.info? elem = some i) (_hz : i.zero = some zv)
    {u : Value} {vs : List Value} (ha : App P xt i.size i.bytes zv.cells 0 vs w.heap u) :
    (Builtin.append_ #[st, xt] ty #[.slice none 0 0, u]).run P w = .ok (.slice none 0 0) w := by
  cases ha with
  | slice ht hl hf =>
    subst hl
    simp [Builtin.append_, run_underlying hu, run_underlying ht, Go.sizeOf, typeInfo, hi, Builtin.lenOf, hf w rfl]
  | string ht hl hf =>
    simp [Builtin.append_, run_underlying hu, run_underlying ht, Go.sizeOf, typeInfo, hi, Builtin.lenOf, hl, hf w rfl]
  | zeros ht h63 hb hv =>
    have hw : IntKind.i64.wrap 0 = 0 := rfl
    simp [Builtin.append_, run_underlying hu, run_underlying ht, Go.sizeOf, typeInfo, hi, asInt, asIntOf, hw]

/-- Append into a new array. -/
theorem run_app_grow {st xt ty elem : Nat} {i : TypeInfo} {zv : Value} (hu : P.underlying st = some (.slice elem)) (hi : P.info? elem = some i) (hz : i.zero = some zv) (hzs : zv.cells.size = i.size)
    {u : Value} {n : Nat} {vs : List Value} (ha : App P xt i.size i.bytes zv.cells n vs w.heap u) (a : Option Addr) (len cap : Nat) (hroom : cap < len + n) (hb : (len + n) * i.bytes ≤ 140737488355328)
    (hbp : 0 < i.bytes) {olds : List Value} (hold : ∀ w' : World, w'.heap = w.heap → (Builtin.firstCells i.size len (.slice a len cap)).run P w' = .ok olds.toArray w') :
    (Builtin.append_ #[st, xt] ty #[.slice a len cap, u]).run P w =
      .ok (.slice (some ⟨w.heap.size, 0, none⟩) (len + n) (grownCap w (len + n) cap elem)) (w.drew.alloc (.cells (olds.toArray ++ vs.toArray ++ Builtin.zeroCells zv.cells (grownCap w (len + n) cap elem - (len + n))) elem)) := by
  have hfit := growslice_fits hroom hb
  have hn : ¬ (len + n ≤ cap) := by omega
  have hle : (len + n) * 1 ≤ (len + n) * i.bytes := Nat.mul_le_mul_left _ hbp
  have h63' : ¬ (9223372036854775807 < ((len : Int) + (n : Int))) := by omega
  have h48' : ¬ (281474976710656 < Builtin.nextslicecap (len + n) cap * i.bytes) := by omega
  have ho := hold w.drew rfl
  cases ha with
  | slice ht hl hf =>
    subst hl
    simp [Builtin.append_, run_underlying hu, run_underlying ht, Go.sizeOf, typeInfo, zeroValue, hi, hz, Builtin.lenOf, hn, h63', h48', Question.forced, hf w.drew rfl, ho, newRow, grownCap]
    congr 2
    apply Array.ext'
    simp [List.append_assoc]
  | string ht hl hf =>
    simp [Builtin.append_, run_underlying hu, run_underlying ht, Go.sizeOf, typeInfo, zeroValue, hi, hz, Builtin.lenOf, hl, hn, h63', h48', Question.forced, hf w.drew rfl, ho, newRow, grownCap]
    congr 2
    apply Array.ext'
    simp [List.append_assoc]
  | zeros ht h63 hb hv =>
    have hw : IntKind.i64.wrap (n : Int) = n := by simp [IntKind.wrap, IntKind.bits, IntKind.signed]; omega
    have h1 : ¬ ((n : Int) < 0) := by omega
    have h2 : ¬ (281474976710656 < (n : Int) * i.bytes) := by rw [← Int.natCast_mul]; omega
    by_cases h0 : n * i.size = 0
    · have hvs : vs = [] := by
        apply List.eq_nil_of_length_eq_zero
        rw [hv, zerosOf_length, Array.length_toList, hzs, h0]
      subst hvs
      simp [Builtin.append_, run_underlying hu, run_underlying ht, Go.sizeOf, typeInfo, zeroValue, hi, hz, asInt, asIntOf, hw, h1, h2, hn, h63', h48', h0, Question.forced, ho, newRow, grownCap]
    · have hzc : Builtin.zeroCells zv.cells n = vs.toArray := by
        apply Array.toList_inj.1
        rw [zeroCells_eq, hv]
      simp [Builtin.append_, run_underlying hu, run_underlying ht, Go.sizeOf, typeInfo, zeroValue, hi, hz, asInt, asIntOf, hw, h1, h2, hn, h63', h48', h0, Question.forced, ho, newRow, grownCap, hzc]
      congr 2
      apply Array.ext'
      simp [List.append_assoc]

theorem grownCap_ge (w : World) (need old elem : Nat) : need ≤ grownCap w need old elem := by
  unfold grownCap
  simp only [Question.cut]
  omega

end Go.Abs

noncomputable section
namespace Go.Abs
variable {P : Program} {φ : Ren} {H H' : AH} {bar base : Nat} {w : World}

theorem arr_of_list {α : Type} {a : Array α} {l : List α} (h : a.toList = l) : a = l.toArray := by
  apply Array.toList_inj.1
  rw [h]

theorem len_of_cells {c l : List Value} {o n : Nat} (h : cellsAt c o n = some l) : l.length = n := (cellsAt_get h).1

theorem cellsAt_len {c l : List Value} {o n : Nat} (h : cellsAt c o n = some l) (hn : n ≠ 0) : o + n ≤ c.length := by
  rw [cellsAt_eq] at h
  split at h
  · rename_i hq; simp at hq; omega
  · cases h

/-- The grown row, however long it is. -/
theorem snd_grow (hs : Sim φ H bar base w) {st xt ty elem : Nat} {i : TypeInfo} {zv : Value} (hu : P.underlying st = some (.slice elem)) (hi : P.info? elem = some i) (hz : i.zero = some zv) (hzs : zv.cells.size = i.size)
    {u : Value} {n : Nat} {vs new : List Value} (ha : App P xt i.size i.bytes zv.cells n vs w.heap u) (hv : VRs φ vs new) (hnl : new.length = n * i.size)
    {a : Option Addr} {len cap : Nat} (hroom : cap < len + n) (hb : (len + n) * i.bytes ≤ 140737488355328) (hbp : 0 < i.bytes)
    {olds old : List Value} (hold : ∀ w' : World, w'.heap = w.heap → (Builtin.firstCells i.size len (.slice a len cap)).run P w' = .ok olds.toArray w') (hov : VRs φ olds old) (hol : old.length = len * i.size)
    (hal : H.alloc (.row (old ++ new) elem i.size) = some H') :
    SemOk P φ H bar base w (Builtin.append_ #[st, xt] ty #[.slice a len cap, u]) (.slice (some ⟨H.next, 0, none⟩) (len + n) capU) H' := by
  have hrun := run_app_grow hu hi hz hzs ha a len cap hroom hb hbp hold (w := w) (ty := ty)
  have hge := grownCap_ge w (len + n) cap elem
  have hsz : (olds.toArray ++ vs.toArray ++ Builtin.zeroCells zv.cells (grownCap w (len + n) cap elem - (len + n))).size = grownCap w (len + n) cap elem * i.size := by
    simp only [Array.size_append, List.size_toArray, size_zeroCells, hov.length, hv.length, hol, hnl, hzs]
    rw [← Nat.add_mul, ← Nat.add_mul]
    congr 1
    omega
  have hnew := new_row (hs.drew) hal (arr := olds.toArray ++ vs.toArray ++ Builtin.zeroCells zv.cells (grownCap w (len + n) cap elem - (len + n))) (t := elem) (z := i.size)
    (by simp only [Array.size_append, List.size_toArray, List.length_append, hov.length, hv.length]; omega)
    (fun j b hj => by
      obtain ⟨v, h1, h2⟩ := (hov.append hv).get j b hj
      refine ⟨v, ?_, h2⟩
      have hlt : j < (olds ++ vs).length := (List.getElem?_eq_some_iff.1 h1).1
      have : (olds.toArray ++ vs.toArray) = (olds ++ vs).toArray := by simp
      rw [this, Array.getElem?_append_left (by simpa using hlt)]
      simpa using h1)
  refine ⟨_, _, _, hrun, ?_, (Step.drew hs).trans hnew⟩
  have hφ := upd_self φ H.next ⟨w.drew.heap.size, 0, (olds.toArray ++ vs.toArray ++ Builtin.zeroCells zv.cells (grownCap w (len + n) cap elem - (len + n))).size, i.size, (old ++ new).length⟩
  have := VR.slice (φ := upd φ H.next _) (o := 0) (len := len + n) (cap := grownCap w (len + n) cap elem) (acap := capU) hφ hge (.inr ⟨rfl, by simp only [hsz]; omega, by simp only [List.length_append, hol, hnl]; rw [← Nat.add_mul]; have := Nat.mul_le_mul_right i.size hge; omega⟩)
  simpa using this

theorem snd_aGrow (hs : Sim φ H bar base w) {st xt ty elem : Nat} {i : TypeInfo} {zv : Value} (hu : P.underlying st = some (.slice elem)) (hi : P.info? elem = some i) (hz : i.zero = some zv) (hzs : zv.cells.size = i.size)
    {u : Value} {n : Nat} {vs new : List Value} (ha : App P xt i.size i.bytes zv.cells n vs w.heap u) (hv : VRs φ vs new) (hnl : new.length = n * i.size)
    {a : Option Addr} {len cap : Nat} (hroom : cap < len + n) (hbp : 0 < i.bytes)
    {olds old : List Value} (hold : ∀ w' : World, w'.heap = w.heap → (Builtin.firstCells i.size len (.slice a len cap)).run P w' = .ok olds.toArray w') (hov : VRs φ olds old) (hol : old.length = len * i.size)
    {r : Value} (h : aGrow H elem i.size i.bytes len n old new = some (.val r H')) :
    SemOk P φ H bar base w (Builtin.append_ #[st, xt] ty #[.slice a len cap, u]) r H' := by
  unfold aGrow at h
  split at h
  · rename_i hb
    obtain ⟨p, hr, h⟩ := Option.map_eq_some_iff.1 h
    obtain ⟨b', H₁⟩ := p
    obtain ⟨rfl, hal⟩ := aNewRow_eq hr
    injection h with h1 h2
    subst h1; subst h2
    exact snd_grow hs hu hi hz hzs ha hv hnl hroom hb hbp hold hov hol hal
  · cases h

/-- The old cells. -/
theorem old_rel (hs : Sim φ H bar base w) {size b o len cap : Nat} {s' : Value} {old : List Value} (hs' : VR φ s' (.slice (some ⟨b, o, none⟩) len cap)) (h : aOld H size b o len = some old) (c1 : size ≠ 0) :
    old.length = len * size ∧ ∃ olds, VRs φ olds old ∧ ∀ w' : World, w'.heap = w.heap → (Builtin.firstCells size len s').run P w' = .ok olds.toArray w' := by
  have hfc : aFirst H size len (.slice (some ⟨b, o, none⟩) len cap) = some old := by
    unfold aFirst
    unfold aOld at h
    by_cases hl0 : len = 0
    · rw [if_pos hl0] at h
      simp only [hl0, Nat.zero_mul, if_true]
      exact h
    · rw [if_neg hl0] at h
      have : ¬ (len * size = 0) := Nat.mul_ne_zero hl0 c1
      simp only [if_neg this]
      exact h
  refine ⟨?_, ?_⟩
  · unfold aOld at h
    by_cases hl0 : len = 0
    · rw [if_pos hl0] at h; cases h; simp [hl0]
    · rw [if_neg hl0] at h
      unfold rowCells at h
      split at h
      · exact len_of_cells h
      · cases h
  · exact firstCells_rel (P := P) hs hs' hfc (fun m hm => by rw [← aLen_slice hm]; exact Nat.le_refl _)

theorem slice_some {s' : Value} {b o len cap : Nat} (hs' : VR φ s' (.slice (some ⟨b, o, none⟩) len cap)) : ∃ r x cap', φ b = some r ∧ s' = .slice (some ⟨r.c, x, none⟩) len cap' ∧
    ((len ≤ cap' ∧ x = r.s + o ∧ ((cap = cap' ∧ cap ≠ capU) ∨ (cap = capU ∧ r.s + o + cap' * r.z ≤ r.lim ∧ r.n ≤ o + cap' * r.z))) ∨ (len = 0 ∧ cap' = 0 ∧ (cap = 0 ∨ (cap = capU ∧ r.n ≤ o)))) := by
  cases hs' with
  | slice hφ hl hc => exact ⟨_, _, _, hφ, rfl, .inl ⟨hl, rfl, hc⟩⟩
  | sliceE hφ ha => exact ⟨_, _, _, hφ, rfl, .inr ⟨rfl, rfl, ha⟩⟩

theorem snd_appX (hs : Sim φ H bar base w) {st xt ty elem : Nat} {i : TypeInfo} {zv : Value} (hu : P.underlying st = some (.slice elem)) (hi : P.info? elem = some i) (hz : i.zero = some zv) (hzs : zv.cells.size = i.size)
    {u : Value} {n : Nat} {vs new : List Value} (ha : App P xt i.size i.bytes zv.cells n vs w.heap u) (hv : VRs φ vs new) (hnl : new.length = n * i.size) (hbp : 0 < i.bytes) (c1 : i.size ≠ 0) (hn : n ≠ 0)
    {s' : Value} {b o len cap : Nat} (hs' : VR φ s' (.slice (some ⟨b, o, none⟩) len cap)) (hcap : cap ≠ capU) {r : Value} (h : aAppX bar H elem i.size i.bytes n new b o len cap = some (.val r H')) :
    SemOk P φ H bar base w (Builtin.append_ #[st, xt] ty #[s', u]) r H' := by
  have hso := slice_some hs'
  unfold aAppX at h
  split at h
  · rename_i hroom
    obtain ⟨H₁, hw, h⟩ := Option.map_eq_some_iff.1 h
    injection h with h1 h2
    subst h1; subst h2
    obtain ⟨rb, x, cap', hφ, rfl, hcase⟩ := hso
    rcases hcase with ⟨hl, rfl, hc⟩ | ⟨rfl, rfl, hc⟩
    · have hc : cap = cap' := by
        rcases hc with hc | hc
        · exact hc.1
        · exact absurd hc.1 hcap
      subst hc
      obtain ⟨w', f1, f2⟩ := run_aWrite P hs hφ hv hw
      rw [← Nat.add_assoc] at f1
      exact ⟨_, w', φ, run_app_in hu hi hz hzs ha _ _ len _ hroom f1, .slice hφ hroom (.inl ⟨rfl, hcap⟩), f2⟩
    · have := hc.resolve_right (fun h => hcap h.1)
      omega
  · rename_i hroom
    obtain ⟨old, hold, h⟩ := Option.bind_eq_some_iff.1 h
    obtain ⟨hol, olds, hov, q2⟩ := old_rel (P := P) hs hs' hold c1
    obtain ⟨rb, x, cap', hφ, rfl, hcase⟩ := hso
    have hrm : cap' < len + n := by
      rcases hcase with ⟨hl, rfl, hc⟩ | ⟨rfl, rfl, hc⟩
      · have hc : cap = cap' := by
          rcases hc with hc | hc
          · exact hc.1
          · exact absurd hc.1 hcap
        omega
      · omega
    exact snd_aGrow hs hu hi hz hzs ha hv hnl hrm hbp q2 hov hol h

theorem snd_appU (hs : Sim φ H bar base w) {st xt ty elem : Nat} {i : TypeInfo} {zv : Value} (hu : P.underlying st = some (.slice elem)) (hi : P.info? elem = some i) (hz : i.zero = some zv) (hzs : zv.cells.size = i.size)
    {u : Value} {n : Nat} {vs new : List Value} (ha : App P xt i.size i.bytes zv.cells n vs w.heap u) (hv : VRs φ vs new) (hnl : new.length = n * i.size) (hbp : 0 < i.bytes) (c1 : i.size ≠ 0) (hn : n ≠ 0)
    {s' : Value} {b o len : Nat} (hs' : VR φ s' (.slice (some ⟨b, o, none⟩) len capU)) {r : Value} (h : aAppU bar H elem i.size i.bytes n new b o len = some (.val r H')) :
    SemOk P φ H bar base w (Builtin.append_ #[st, xt] ty #[s', u]) r H' := by
  have hso := slice_some hs'
  unfold aAppU at h
  split at h
  · rename_i hcond
    obtain ⟨hbar, hb, hone⟩ := hcond
    split at h
    · rename_i c t zz hg
      split at h
      · rename_i htz
        obtain ⟨rfl, rfl⟩ := htz
        obtain ⟨old, hold, h⟩ := Option.bind_eq_some_iff.1 h
        obtain ⟨H₁, hal, h⟩ := Option.map_eq_some_iff.1 h
        injection h with h1 h2
        subst h1; subst h2
        obtain ⟨hol, olds, hov, q2⟩ := old_rel (P := P) hs hs' hold c1
        have hlive : H.live b := ⟨_, hg, by simp⟩
        obtain ⟨rb, x, cap', hφ, rfl, hcase⟩ := hso
        have hgrow : cap' < len + n → SemOk P φ H bar base w (Builtin.append_ #[st, xt] ty #[.slice (some ⟨rb.c, x, none⟩) len cap', u]) (.slice (some ⟨H.next, 0, none⟩) (len + n) capU) H₁ := by
          intro hroom
          have hk := hs.update hφ hbar hlive (Only.refl rb.c w) (ao := .dead) trivial
          obtain ⟨v, w', φ', e1, e2, e3⟩ := snd_grow hk.sim hu hi hz hzs ha hv hnl hroom hb hbp q2 hov hol hal (ty := ty)
          exact ⟨v, w', φ', e1, e2, hk.trans e3⟩
        by_cases hroom : len + n ≤ cap'
        · rcases hcase with ⟨hl, rfl, hc⟩ | ⟨rfl, rfl, hc⟩
          · have hc := hc.resolve_left (fun e => e.2 rfl)
            obtain ⟨arr, fz, g1, g2, g3, g4, g5, g6⟩ := hs.obj b rb _ hφ hg
            have hmul : (len + n) * i.size ≤ cap' * i.size := Nat.mul_le_mul_right _ hroom
            rw [Nat.add_mul] at hmul
            have hlim := hc.2.1
            rw [g3.1] at hlim
            obtain ⟨w', arr', f1, f2, f3, f4, f5⟩ := run_storeCells P rb.c (rb.s + o + len * i.size) t fz vs 0 w arr g1 g6 (by rw [hv.length, hnl]; omega) (ones_rel hv hone)
            refine ⟨_, w', upd φ H.next ⟨rb.c, rb.s + o, rb.lim, rb.z, (old ++ new).length⟩, run_app_in hu hi hz hzs ha _ _ len _ hroom f1, ?_, ?_⟩
            · have hφn := upd_self φ H.next ⟨rb.c, rb.s + o, rb.lim, rb.z, (old ++ new).length⟩
              have := VR.slice (φ := upd φ H.next ⟨rb.c, rb.s + o, rb.lim, rb.z, (old ++ new).length⟩) (o := 0) (len := len + n) (cap := cap') (acap := capU) hφn hroom (.inr ⟨rfl, by simp only [Nat.add_zero]; rw [g3.1]; omega, by simp only [List.length_append, hol, hnl]; rw [g3.1]; omega⟩)
              simpa using this
            · refine hs.rekey hφ hbar hlive f2 rfl hal ⟨arr', fz, f3, by rw [f4]; exact g2, ⟨g3.1, rfl⟩, ?_, fun j b' hj => ?_, by rw [f4]; exact g6⟩
              · simp only [List.length_append, hol, hnl]; omega
              · have hvl := hv.length
                by_cases hjl : j < old.length
                · rw [List.getElem?_append_left hjl] at hj
                  have hl0 : len ≠ 0 := by
                    intro hl0
                    rw [hol, hl0] at hjl
                    omega
                  unfold aOld at hold
                  rw [if_neg hl0] at hold
                  unfold rowCells at hold
                  rw [hg] at hold
                  obtain ⟨_, hget⟩ := cellsAt_get hold
                  rw [hol] at hjl
                  rw [hget j hjl] at hj
                  obtain ⟨v, k1, k2⟩ := g5 (o + j) b' hj
                  refine ⟨v, ?_, k2.mono (upd_le hs _)⟩
                  show arr'[rb.s + o + j]? = some v
                  rw [f5, if_neg (by omega)]
                  rw [← Nat.add_assoc] at k1
                  exact k1
                · rw [List.getElem?_append_right (by omega)] at hj
                  obtain ⟨v, k1, k2⟩ := hv.get _ b' hj
                  refine ⟨v, ?_, k2.mono (upd_le hs _)⟩
                  have hlt := (List.getElem?_eq_some_iff.1 k1).1
                  show arr'[rb.s + o + j]? = some v
                  rw [f5, if_pos (by omega)]
                  have : rb.s + o + j - (rb.s + o + len * i.size + 0) = j - old.length := by omega
                  rw [this]; exact k1
          · omega
        · exact hgrow (by omega)
      · cases h
    · cases h
  · cases h

theorem snd_appV (hs : Sim φ H bar base w) {st xt ty elem : Nat} {i : TypeInfo} {zv : Value} (hu : P.underlying st = some (.slice elem)) (hi : P.info? elem = some i) (hz : i.zero = some zv) (hzs : zv.cells.size = i.size)
    {u : Value} {n : Nat} {vs new : List Value} (ha : App P xt i.size i.bytes zv.cells n vs w.heap u) (hv : VRs φ vs new) (hnl : new.length = n * i.size) (hbp : 0 < i.bytes) (c1 : i.size ≠ 0) (hn : n ≠ 0)
    {s' : Value} {b o len : Nat} (hs' : VR φ s' (.slice (some ⟨b, o, none⟩) len capU)) {r : Value} (h : aAppV bar H elem i.size i.bytes n new b o len = some (.val r H')) :
    SemOk P φ H bar base w (Builtin.append_ #[st, xt] ty #[s', u]) r H' := by
  unfold aAppV at h
  split at h
  · rename_i c t zz hg
    split at h
    · rename_i hin
      obtain ⟨rfl, hin⟩ := hin
      obtain ⟨H₁, hw, h⟩ := Option.map_eq_some_iff.1 h
      injection h with h1 h2
      subst h1; subst h2
      obtain ⟨rb, x, cap', hφ, rfl, hcase⟩ := slice_some hs'
      obtain ⟨arr, fz, g1, g2, g3, g4, g5, g6⟩ := hs.obj b rb _ hφ hg
      have hpos : 0 < i.size := by omega
      rcases hcase with ⟨hl, rfl, hc⟩ | ⟨rfl, rfl, hc⟩
      · have hc := hc.resolve_left (fun e => e.2 rfl)
        have hroom : len + n ≤ cap' := by
          have h3 := hc.2.2
          rw [g3.1, g3.2] at h3
          have : (len + n) * i.size ≤ cap' * i.size := by omega
          exact Nat.le_of_mul_le_mul_right this hpos
        obtain ⟨w', f1, f2⟩ := run_aWrite P hs hφ hv hw
        rw [← Nat.add_assoc] at f1
        exact ⟨_, w', φ, run_app_in hu hi hz hzs ha _ _ len _ hroom f1, .slice hφ hroom (.inr hc), f2⟩
      · exfalso
        have h3 := (hc.resolve_left (by unfold capU; omega)).2
        rw [g3.2] at h3
        have : 0 < (0 + n) * i.size := Nat.mul_pos (by omega) hpos
        omega
    · exact snd_appU hs hu hi hz hzs ha hv hnl hbp c1 hn hs' h
  · cases h

theorem snd_appS (hs : Sim φ H bar base w) {st xt ty elem : Nat} {i : TypeInfo} {zv : Value} (hu : P.underlying st = some (.slice elem)) (hi : P.info? elem = some i) (hz : i.zero = some zv) (hzs : zv.cells.size = i.size)
    {u : Value} {n : Nat} {vs new : List Value} (ha : App P xt i.size i.bytes zv.cells n vs w.heap u) (hv : VRs φ vs new) (hnl : new.length = n * i.size) (hbp : 0 < i.bytes) (c1 : i.size ≠ 0)
    {s' s : Value} (hs' : VR φ s' s) {r : Value} (h : aAppS bar H elem i.size i.bytes n new s = some (.val r H')) :
    SemOk P φ H bar base w (Builtin.append_ #[st, xt] ty #[s', u]) r H' := by
  unfold aAppS at h
  split at h
  · cases hs' with
    | sliceNil =>
      split at h
      · rename_i h0
        subst h0
        injection h with h
        injection h with h1 h2
        subst h1; subst h2
        exact ⟨_, _, _, run_app_none hu hi hz ha, .sliceNil, Step.refl hs⟩
      · rename_i h0
        exact snd_aGrow hs hu hi hz hzs ha hv hnl (by omega) hbp (olds := []) (fun w' _ => by simp [Builtin.firstCells]) .nil (by simp) h
  · rename_i b o len cap
    split at h
    · rename_i h0
      subst h0
      injection h with h
      injection h with h1 h2
      subst h1; subst h2
      have hvs0 : vs = [] := List.eq_nil_of_length_eq_zero (by rw [hv.length, hnl]; omega)
      subst hvs0
      have hso := slice_some hs'
      obtain ⟨rb, x, cap', hφ, rfl, hcase⟩ := hso
      exact ⟨_, w, φ, run_app_in hu hi hz hzs ha _ _ len _ (by rcases hcase with hq | hq <;> omega) (by simp [storeCells]), by simpa using hs', Step.refl hs⟩
    · rename_i h0
      split at h
      · rename_i hcap
        subst hcap
        exact snd_appV hs hu hi hz hzs ha hv hnl hbp c1 h0 hs' h
      · rename_i hcap
        exact snd_appX hs hu hi hz hzs ha hv hnl hbp c1 h0 hs' hcap h
  · cases h

theorem snd_append (hs : Sim φ H bar base w) {ts : Array TypeId} {ty : TypeId} {args' args : Array Value} {a : Value} (hargs : VRs φ args'.toList args.toList)
    (h : aAppend P bar H ts args = some (.val a H')) : SemOk P φ H bar base w (Builtin.append_ ts ty args') a H' := by
  unfold aAppend at h
  split at h
  · rename_i st xt s x hts hag
    have e1 := arr_of_list hts
    subst e1
    rw [hag] at hargs
    obtain ⟨s', x', hs', hx', rfl⟩ : ∃ s' x', VR φ s' s ∧ VR φ x' x ∧ args' = #[s', x'] := by
      generalize hl : args'.toList = l at hargs
      cases hargs with
      | cons h1 t =>
        cases t with
        | cons h2 t =>
          cases t with
          | nil => exact ⟨_, _, h1, h2, arr_of_list hl⟩
    split at h
    · rename_i elem hu
      obtain ⟨size, hz, h⟩ := Option.bind_eq_some_iff.1 h
      obtain ⟨i, hi, h⟩ := Option.bind_eq_some_iff.1 h
      obtain ⟨zv, hzv, h⟩ := Option.bind_eq_some_iff.1 h
      have hsz : i.size = size := by
        unfold szT at hz
        rw [hi] at hz
        simpa using hz
      subst hsz
      have hzero : i.zero = some zv := by
        unfold zeroT at hzv
        rw [hi] at hzv
        simpa using hzv
      split at h
      · cases h
      · rename_i hc
        simp only [not_or] at hc
        obtain ⟨c1, c2, c3, c4⟩ := hc
        have c2 : zv.cells.toList.length = i.size := by simpa using c2
        have c2' : zv.cells.size = i.size := by simpa using c2
        have c3 : zv.cells.toList.all plain1 = true := by simpa using c3
        obtain ⟨p, happ, h⟩ := Option.bind_eq_some_iff.1 h
        obtain ⟨n, new⟩ := p
        obtain ⟨vs, hvs, hnl, hA⟩ := appended_rel hs hx' c3 c2 happ
        have hbp : 0 < i.bytes := by omega
        exact snd_appS hs hu hi hzero c2' hA hvs hnl hbp c1 hs' h
    · cases h
  · cases h

end Go.Abs
