/- A machine that carries out code on values that are known, and the proof that the model's runs agree with it: one part. -/
import Derived.Test.YtgfhhbgkleimjaaGreatAbsApp
noncomputable section
namespace Go.Abs
variable {P : Program} {φ : Ren} {H H' : AH} {bar base : Nat} {w : World}

/-- Append within the capacity. -/
theorem run_app_in {st xt ty elem : Nat} {i : TypeInfo} {zv : Value} (hu : P.underlying st = some (.slice elem)) (hi : P.info? elem = some i) (hz : i.zero = some zv) (hzs : zv.cells.size = i.size)
    {u : Value} {n : Nat} {vs : List Value} (ha : App P xt i.size i.bytes zv.cells n vs w.heap u) (g o len cap : Nat) (hroom : len + n ≤ cap) {w' : World}
    (hst : (storeCells ⟨g, o + len * i.size, none⟩ vs).run P w = .ok () w') :
    (Builtin.append_ #[st, xt] ty #[.slice (some ⟨g, o, none⟩) len cap, u]).run P w = .ok (.slice (some ⟨g, o, none⟩) (len + n) cap) w' := by
  cases ha with
  | slice ht hl hf =>
    subst hl
    simp [Builtin.append_, run_underlying hu, run_underlying ht, Go.sizeOf, typeInfo, hi, Builtin.lenOf, hroom, hf w rfl, add_plain, hst]
  | string ht hl hf =>
    simp [Builtin.append_, run_underlying hu, run_underlying ht, Go.sizeOf, typeInfo, hi, Builtin.lenOf, hl, hroom, hf w rfl, add_plain, hst]
  | zeros ht h63 hb hv =>
    have hw : IntKind.i64.wrap (n : Int) = n := by simp [IntKind.wrap, IntKind.bits, IntKind.signed]; omega
    have h1 : ¬ ((n : Int) < 0) := by omega
    have h2 : ¬ (281474976710656 < (n : Int) * i.bytes) := by rw [← Int.natCast_mul]; omega
    by_cases h0 : n * i.size = 0
    · have hvs : vs = [] := by
        apply List.eq_nil_of_length_eq_zero
        rw [hv, zerosOf_length, Array.length_toList, hzs, h0]
      subst hvs
      simp [Builtin.append_, run_underlying hu, run_underlying ht, Go.sizeOf, typeInfo, hi, asInt, asIntOf, hw, h1, h2, hroom, h0, add_plain, hst]
    · have hzc : (Builtin.zeroCells zv.cells n).toList = vs := by rw [zeroCells_eq, hv]
      simp [Builtin.append_, run_underlying hu, run_underlying ht, Go.sizeOf, typeInfo, zeroValue, hi, hz, asInt, asIntOf, hw, h1, h2, hroom, h0, add_plain, hzc, hst]

theorem run_app_none {st xt ty elem : Nat} {i : TypeInfo} {zv : Value} (hu : P.underlying st = some (.slice elem)) (hi : P.info? elem = some i) (_hz : i.zero = some zv)
    {u : Value} {vs : List Value} (ha : App P xt i.size i.bytes zv.cells 0 vs w.heap u) :
    (Builtin.append_ #[st, xt] ty #[.slice none 0 0, u]).run P w = .ok (.slice none 0 0) w := by
  cases ha with
  | slice ht hl hf =>
    subst hl
    simp [Builtin.append_, run_underlying hu, run_underlying ht, Go.sizeOf, typeInfo, hi, Builtin.lenOf, hf w rfl]
  | string ht hl hf =>
    simp [Builtin.append_, run_underlying hu, run_underlying ht, Go.sizeOf, typeInfo, hi, Builtin.lenOf, hl, hf w rfl]
  | zeros ht h63 hb hv =>
    have hw : IntKind.i64.wrap 0 = 0 := rfl
    simp [Builtin.append_, run_underlying hu, run_underlying ht, Go.sizeOf, typeInfo, hi, asInt, asIntOf, hw]

/-- Append into a new array. -/
theorem run_app_grow {st xt ty elem : Nat} {i : TypeInfo} {zv : Value} (hu : P.underlying st = some (.slice elem)) (hi : P.info? elem = some i) (hz : i.zero = some zv) (hzs : zv.cells.size = i.size)
    {u : Value} {n : Nat} {vs : List Value} (ha : App P xt i.size i.bytes zv.cells n vs w.heap u) (a : Option Addr) (len cap : Nat) (hroom : cap < len + n) (hb : (len + n) * i.bytes ≤ 140737488355328)
    (hbp : 0 < i.bytes) {olds : List Value} (hold : ∀ w' : World, w'.heap = w.heap → (Builtin.firstCells i.size len (.slice a len cap)).run P w' = .ok olds.toArray w') :
    (Builtin.append_ #[st, xt] ty #[.slice a len cap, u]).run P w =
      .ok (.slice (some ⟨w.heap.size, 0, none⟩) (len + n) (grownCap w (len + n) cap elem)) (w.drew.alloc (.cells (olds.toArray ++ vs.toArray ++ Builtin.zeroCells zv.cells (grownCap w (len + n) cap elem - (len + n))) elem)) := by
  have hfit := growslice_fits hroom hb
  have hn : ¬ (len + n ≤ cap) := by omega
  have hle : (len + n) * 1 ≤ (len + n) * i.bytes := Nat.mul_le_mul_left _ hbp
  have h63' : ¬ (9223372036854775807 < ((len : Int) + (n : Int))) := by omega
  have h48' : ¬ (281474976710656 < Builtin.nextslicecap (len + n) cap * i.bytes) := by omega
  have ho := hold w.drew rfl
  cases ha with
  | slice ht hl hf =>
    subst hl
    simp [Builtin.append_, run_underlying hu, run_underlying ht, Go.sizeOf, typeInfo, zeroValue, hi, hz, Builtin.lenOf, hn, h63', h48', Question.forced, hf w.drew rfl, ho, newRow, grownCap]
    congr 2
    apply Array.ext'
    simp [List.append_assoc]
  | string ht hl hf =>
    simp [Builtin.append_, run_underlying hu, run_underlying ht, Go.sizeOf, typeInfo, zeroValue, hi, hz, Builtin.lenOf, hl, hn, h63', h48', Question.forced, hf w.drew rfl, ho, newRow, grownCap]
    congr 2
    apply Array.ext'
    simp [List.append_assoc]
  | zeros ht h63 hb hv =>
    have hw : IntKind.i64.wrap (n : Int) = n := by simp [IntKind.wrap, IntKind.bits, IntKind.signed]; omega
    have h1 : ¬ ((n : Int) < 0) := by omega
    have h2 : ¬ (281474976710656 < (n : Int) * i.bytes) := by rw [← Int.natCast_mul]; omega
    by_cases h0 : n * i.size = 0
    · have hvs : vs = [] := by
        apply List.eq_nil_of_length_eq_zero
        rw [hv, zerosOf_length, Array.length_toList, hzs, h0]
      subst hvs
      simp [Builtin.append_, run_underlying hu, run_underlying ht, Go.sizeOf, typeInfo, zeroValue, hi, hz, asInt, asIntOf, hw, h1, h2, hn, h63', h48', h0, Question.forced, ho, newRow, grownCap]
    · have hzc : Builtin.zeroCells zv.cells n = vs.toArray := by
        apply Array.toList_inj.1
        rw [zeroCells_eq, hv]
      simp [Builtin.append_, run_underlying hu, run_underlying ht, Go.sizeOf, typeInfo, zeroValue, hi, hz, asInt, asIntOf, hw, h1, h2, hn, h63', h48', h0, Question.forced, ho, newRow, grownCap, hzc]
      congr 2
      apply Array.ext'
      simp [List.append_assoc]

theorem grownCap_ge (w : World) (need old elem : Nat) : need ≤ grownCap w need old elem := by
  unfold grownCap
  simp only [Question.cut]
  omega

end Go.Abs
