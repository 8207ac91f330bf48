import Derived.Test.YtfghdmmapmdcgaaGreatCA
import Derived.Test.YtfghdmmapmdcgaaGreatBL2
set_option linter.unusedVariables false
set_option linter.unusedSimpArgs false
set_option linter.defProp false
noncomputable section
namespace Go.Proofs.YtfghdmmapmdcgaaGreat
open Go.Sym Bnd
set_option maxRecDepth 100000
def sgn (n : Int) : Int := if n < 0 then -1 else if 0 < n then 1 else 0
theorem uw {n : Int} {m : Nat} (h : n % 18446744073709551616 = (m : Int)) : PV.v (.int .u64 (IntKind.u64.wrap n)) = U m := by rw [w_u64, h]; rfl
theorem wu {n : Nat} (h : n < 18446744073709551616) : IntKind.u64.wrap (n : Int) = (n : Int) := by rw [w_u64]; omega
theorem shr32 (n : Nat) : intB .shr .u64 (n : Int) .u64 32 = some (.v (.int .u64 ((n / 4294967296 : Nat) : Int))) := by
 rw [i_shr, if_neg (by decide), show min (32 : Int).toNat IntKind.u64.bits = 32 from rfl, Int.fdiv_eq_ediv_of_nonneg _ (by decide)]
 rfl
theorem and32 {n : Nat} (h : n < 18446744073709551616) : intB .and .u64 (n : Int) .u64 4294967295 = some (.v (.int .u64 ((n % 4294967296 : Nat) : Int))) := by
 rw [i_and];show some (PV.v (.int .u64 (IntKind.u64.wrap (((BitVec.ofInt 64 (n : Int) &&& BitVec.ofInt 64 4294967295).toNat : Nat) : Int)))) = _
 rw [bv_and_mask h, wu (by omega)]
theorem addU {a b : Nat} (h : a + b < 18446744073709551616) : intB .add .u64 (a : Int) .u64 (b : Int) = some (.v (.int .u64 ((a + b : Nat) : Int))) := by
 rw [i_add, ← Int.natCast_add, wu h]
theorem mulU {a b : Nat} (h : a * b < 18446744073709551616) : intB .mul .u64 (a : Int) .u64 (b : Int) = some (.v (.int .u64 ((a * b : Nat) : Int))) := by
 rw [i_mul, ← Int.natCast_mul, wu h]
theorem c289 {x y : Nat} (hx : x < 18446744073709551616) (hy : y < 18446744073709551616) : Ans D 289 [U x, U y] [U (x * y / 18446744073709551616), U (x * y % 18446744073709551616)] := by
 refine ans_of k289_ok s289 rfl ⟨1, ?_⟩;have b0 := mul_bd (a := x % 4294967296) (b := y % 4294967296) (by omega) (by omega);have b1 := mul_bd (a := x / 4294967296) (b := y % 4294967296) (by omega) (by omega);have b2 := mul_bd (a := x % 4294967296) (b := y / 4294967296) (by omega) (by omega);have b3 := mul_bd (a := x / 4294967296) (b := y / 4294967296) (by omega) (by omega);have hh := mul_hi hx hy;have hl : x * y / 18446744073709551616 < 18446744073709551616 := by
  have : x * y ≤ 18446744073709551615 * 18446744073709551615 := Nat.mul_le_mul (by omega) (by omega);omega
 have s1 : (x / 4294967296) * (y / 4294967296) + ((x / 4294967296) * (y % 4294967296) + (x % 4294967296) * (y % 4294967296) / 4294967296) / 4294967296 < 18446744073709551616 := by omega
 unfold k289 U;simp only [EV, and32 hx, and32 hy, shr32, f_bin, mulU (show x % 4294967296 * (y % 4294967296) < 18446744073709551616 by omega), mulU (show x / 4294967296 * (y % 4294967296) < 18446744073709551616 by omega),
  mulU (show x % 4294967296 * (y / 4294967296) < 18446744073709551616 by omega), mulU (show x / 4294967296 * (y / 4294967296) < 18446744073709551616 by omega),
  addU (show x / 4294967296 * (y % 4294967296) + x % 4294967296 * (y % 4294967296) / 4294967296 < 18446744073709551616 by omega),
  and32 (show x / 4294967296 * (y % 4294967296) + x % 4294967296 * (y % 4294967296) / 4294967296 < 18446744073709551616 by omega),
  addU (show (x / 4294967296 * (y % 4294967296) + x % 4294967296 * (y % 4294967296) / 4294967296) % 4294967296 + x % 4294967296 * (y / 4294967296) < 18446744073709551616 by omega),
  addU s1, addU (show _ < 18446744073709551616 from hh ▸ hl)]
 rw [hh, ← Int.natCast_mul, w_u64];rfl
def W (neg : Bool) (m : Nat) : PV := .agg [.bool neg, U (m / 18446744073709551616), U (m % 18446744073709551616)]
theorem abs_lt {a : Int} (h : I64 a) : a.natAbs ≤ 9223372036854775808 := by obtain ⟨h1, h2⟩ := h; omega
theorem mulabs {a b : Int} (h : I64 a) (k : I64 b) : a.natAbs * b.natAbs ≤ 85070591730234615865843651857942052864 := Nat.mul_le_mul (abs_lt h) (abs_lt k)
theorem c213 {a b : Int} (h : I64 a) (k : I64 b) : Ans D 213 [.i64 a, .i64 b] [W (decide (a < 0) != decide (b < 0)) (a.natAbs * b.natAbs)] := by
 refine ans_of k213_ok s213 rfl ⟨1, ?_⟩;have h1 := abs_lt h;have h2 := abs_lt k;unfold k213;simp only [EV, phi (c116 h), phi (c116 k), phi (c289 (show a.natAbs < 18446744073709551616 by omega) (show b.natAbs < 18446744073709551616 by omega))]
 rfl
theorem c287 (a : Int) : Ans D 287 [.i64 a] [.bool false] := by
 refine ans_of k287_ok s287 rfl ⟨1, ?_⟩;unfold k287;simp only [EV, decide_true, Bool.not_true]
theorem c395 (a : Int) : Ans D 395 [.i64 a] [.bool false] := by
 refine ans_of k395_ok s395 rfl ⟨1, ?_⟩;unfold k395;simp only [EV, decide_true, Bool.not_true]
theorem sgn_cases (a b : Int) : sgn (a - b) = if a < b then -1 else if b < a then 1 else 0 := by
 unfold sgn;by_cases h : a < b
 ·rw [if_pos (by omega), if_pos h]
 ·rw [if_neg (by omega), if_neg h];by_cases k : b < a
  ·rw [if_pos (by omega), if_pos k]
  ·rw [if_neg (by omega), if_neg k]
theorem c211 (a b : Int) : Ans D 211 [.i64 a, .i64 b] [.i64 (sgn (a - b))] := by
 refine ans_of k211_ok s211 rfl ⟨1, ?_⟩;unfold k211;simp only [EV, phi (c287 _), Bool.false_eq_true, if_false, decide_eq_true_eq, sgn_cases]
 repeat' split
 all_goals rfl
theorem c354 (a b : Int) : Ans D 354 [.i64 a, .i64 b] [.i64 (sgn (a - b))] := by
 refine ans_of k354_ok s354 rfl ⟨1, ?_⟩;unfold k354;simp only [EV, phi (c395 _), Bool.false_eq_true, if_false, decide_eq_true_eq, sgn_cases]
 repeat' split
 all_goals rfl
end Go.Proofs.YtfghdmmapmdcgaaGreat
