import Derived.Test.YtfghdmmapmdcgaaGreatCB
set_option linter.unusedVariables false
set_option linter.unusedSimpArgs false
set_option linter.defProp false
noncomputable section
namespace Go.Proofs.YtfghdmmapmdcgaaGreat
open Go.Sym Bnd
set_option maxRecDepth 100000
theorem c359 (a : Nat) : Ans D 359 [U a] [.bool false] := by
 refine ans_of k359_ok s359 rfl ⟨1, ?_⟩;unfold k359 U;simp only [EV, decide_true, Bool.not_true]
theorem c288 (a b : Nat) : Ans D 288 [U a, U b] [.i64 (sgn ((a : Int) - b))] := by
 have h := fun a => phi (c359 a);refine ans_of k288_ok s288 rfl ⟨1, ?_⟩;unfold k288;unfold U at h ⊢;simp only [EV, h, Bool.false_eq_true, if_false, decide_eq_true_eq, sgn_cases]
 repeat' split
 all_goals rfl
theorem c212 {n k : Bool} (a b : Nat) : Ans D 212 [W n a, W k b] [.i64 (sgn ((a : Int) - b))] := by
 refine ans_of k212_ok s212 rfl ⟨1, ?_⟩;unfold k212 W;simp only [EV, if_true, Nat.zero_add, Nat.reduceAdd, phi (c288 _ _), sgn_cases, Bool.not_eq_true', decide_eq_false_iff_not];generalize hp : ((a / 18446744073709551616 : Nat) : Int) = p;generalize hq : ((b / 18446744073709551616 : Nat) : Int) = q;generalize hr : ((a % 18446744073709551616 : Nat) : Int) = r;generalize hs : ((b % 18446744073709551616 : Nat) : Int) = s;by_cases h1 : p < q
 ·simp only [if_pos h1, if_pos (show (a : Int) < b by omega), Int.reduceNeg, Int.reduceEq, not_false_eq_true, if_true]
 ·by_cases h2 : q < p
  ·simp only [if_neg h1, if_pos h2, if_neg (show ¬ (a : Int) < b by omega), if_pos (show (b : Int) < a by omega), Int.reduceEq, not_false_eq_true, if_true]
  ·simp only [if_neg h1, if_neg h2, not_true_eq_false, if_false];by_cases h3 : r < s
   ·rw [if_pos h3, if_pos (show (a : Int) < b by omega)]
   ·rw [if_neg h3, if_neg (show ¬ (a : Int) < b by omega)]
    by_cases h4 : s < r
    ·rw [if_pos h4, if_pos (show (b : Int) < a by omega)]
    ·rw [if_neg h4, if_neg (show ¬ (b : Int) < a by omega)]
theorem okE_max (a b : Bool) : max (okE a) (okE b) = okE (a && b) := by cases a <;> cases b <;> rfl
theorem mm2 (a b : Int) : RF.ev (.mm true) [.i64 a, .i64 b] = some (.i64 (max a b)) := rfl
theorem shapeR (r : Rt) : RF.ev (.shape 2) [R r] = some (R r) := rfl
theorem cellR0 (r : Rt) : RF.ev (.cell 0) [R r] = some (.i64 r.num) := rfl
theorem cellR1 (r : Rt) : RF.ev (.cell 1) [R r] = some (.i64 r.den) := rfl
theorem c210 {r s : Rt} (h : In64 r) (k : In64 s) : Ans D 210 [R r, R s] [.i64 (okE (rok r && rok s))] := by
 refine ans_of k210_ok s210 rfl ⟨1, ?_⟩;unfold k210;simp only [den_lt, shapeR, EV, phi (c43 h), phi (c43 k), mm2, okE_max]
def crs (r s : Rt) : Int := r.num * s.den - s.num * r.den
theorem okE_ne {b : Bool} {α : Type} {x y : α} : (if (!decide (okE b = 0)) = true then x else y) = if b = true then y else x := by cases b <;> rfl
theorem rok_den {r : Rt} (h : rok r = true) : 1 ≤ r.den := by
 unfold rok at h;simp only [Bool.and_eq_true, decide_eq_true_eq] at h;exact h.1.1
theorem natAbs_mul_cast (a b : Int) : ((a.natAbs * b.natAbs : Nat) : Int) = if 0 ≤ a * b then a * b else -(a * b) := by
 rw [← Int.natAbs_mul];split <;> omega
theorem sgn_neg (n : Int) : sgn (-n) = - sgn n := by unfold sgn; repeat' split; all_goals omega
theorem sgn_big (n : Int) : -1 ≤ sgn n ∧ sgn n ≤ 1 := by unfold sgn; repeat' split; all_goals omega
theorem c117 {r s : Rt} (h : In64 r) (k : In64 s) : Ans D 117 [R r, R s] (if (rok r && rok s) = true then [.i64 (sgn (crs r s)), .i64 0] else [.i64 0, .i64 8]) := by
 refine ans_of k117_ok s117 rfl ⟨1, ?_⟩;unfold k117;simp only [den_lt, shapeR, cellR0, cellR1, EV, phi (c210 h k), okE_ne, phi (c211 _ _), phi (c213 h.1 k.2), phi (c213 k.1 h.2), phi (c212 _ _)];cases hok : rok r && rok s with
 | false => rfl
 | true =>
  simp only [Bool.and_eq_true] at hok;have d1 := rok_den hok.1;have d2 := rok_den hok.2;simp only [if_true, k117_1, EV];have p1 : (0 ≤ r.num * s.den) ↔ 0 ≤ r.num := by
   constructor
   ·intro h;rcases Int.lt_or_le r.num 0 with g | g
    ·have := Int.mul_neg_of_neg_of_pos g (show 0 < s.den by omega); omega
    ·exact g
   ·intro h; exact Int.mul_nonneg h (by omega)
  have p2 : (0 ≤ s.num * r.den) ↔ 0 ≤ s.num := by
   constructor
   ·intro h;rcases Int.lt_or_le s.num 0 with g | g
    ·have := Int.mul_neg_of_neg_of_pos g (show 0 < r.den by omega); omega
    ·exact g
   ·intro h; exact Int.mul_nonneg h (by omega)
  by_cases h1 : r.num < 0 <;> by_cases h2 : s.num < 0
  ·rw [decide_eq_true h1, decide_eq_true h2];simp only [bne_self_eq_false, Bool.false_eq_true, if_false, if_true];rw [natAbs_mul_cast, natAbs_mul_cast, if_neg (show ¬ 0 ≤ r.num * s.den by omega), if_neg (show ¬ 0 ≤ s.num * r.den by omega)]
   unfold crs;rw [show -(r.num * s.den) - -(s.num * r.den) = -(r.num * s.den - s.num * r.den) by omega, sgn_neg]
   have := sgn_big (r.num * s.den - s.num * r.den);rw [show (0 : Int) - -sgn (r.num * s.den - s.num * r.den) = sgn (r.num * s.den - s.num * r.den) by omega, w_i64 (by omega) (by omega)]
   rfl
  ·rw [decide_eq_true h1, decide_eq_false h2];have e1 : sgn (r.num - s.num) = -1 := by unfold sgn; rw [if_pos (by omega)]
   have e2 : sgn (crs r s) = -1 := by unfold sgn crs; rw [if_pos (by omega)]
   rw [e1, e2]; rfl
  ·rw [decide_eq_false h1, decide_eq_true h2];have e1 : sgn (r.num - s.num) = 1 := by unfold sgn; rw [if_neg (by omega), if_pos (by omega)]
   have e2 : sgn (crs r s) = 1 := by unfold sgn crs; rw [if_neg (by omega), if_pos (by omega)]
   rw [e1, e2]; rfl
  ·rw [decide_eq_false h1, decide_eq_false h2];simp only [bne_self_eq_false, Bool.false_eq_true, if_false];rw [natAbs_mul_cast, natAbs_mul_cast, if_pos (show 0 ≤ r.num * s.den by omega), if_pos (show 0 ≤ s.num * r.den by omega)]
   rfl
theorem c368 {x y : Nat} (hx : x < 18446744073709551616) (hy : y < 18446744073709551616) : Ans D 368 [U x, U y] [W false (x * y)] := by
 refine ans_of k368_ok s368 rfl ⟨1, ?_⟩;have b0 := mul_bd (a := x % 4294967296) (b := y % 4294967296) (by omega) (by omega);have b1 := mul_bd (a := x / 4294967296) (b := y % 4294967296) (by omega) (by omega);have b2 := mul_bd (a := x % 4294967296) (b := y / 4294967296) (by omega) (by omega);have b3 := mul_bd (a := x / 4294967296) (b := y / 4294967296) (by omega) (by omega);have sp := mul_split (x := x) (y := y);have q32 : ∀ n : Nat, n < 18446744073709551616 → intB .quo .u64 (n : Int) .u64 4294967296 = some (.v (.int .u64 ((n / 4294967296 : Nat) : Int))) := fun n h => by
  rw [i_quo, if_neg (by decide), Int.tdiv_eq_ediv_of_nonneg (by omega), w_u64]
  congr 3
  omega
 have r32 : ∀ n : Nat, intB .rem .u64 (n : Int) .u64 4294967296 = some (.v (.int .u64 ((n % 4294967296 : Nat) : Int))) := fun n => by
  rw [i_rem, if_neg (by decide), Int.tmod_eq_emod_of_nonneg (by omega)];rfl
 generalize hA : x / 4294967296 * (y / 4294967296) = A at *;generalize hB : x / 4294967296 * (y % 4294967296) = B at *;generalize hC : x % 4294967296 * (y / 4294967296) = C at *;generalize hE : x % 4294967296 * (y % 4294967296) = E at *;have m32 : intB .mul .u64 (((C + (B + E / 4294967296) % 4294967296) % 4294967296 : Nat) : Int) .u64 4294967296 = some (.v (.int .u64 (((C + (B + E / 4294967296) % 4294967296) % 4294967296 * 4294967296 : Nat) : Int))) := mulU (b := 4294967296) (by omega);have mA : intB .mul .u64 ((x / 4294967296 : Nat) : Int) .u64 ((y / 4294967296 : Nat) : Int) = some (.v (.int .u64 (A : Int))) := by rw [mulU (by omega), hA]
 have mB : intB .mul .u64 ((x / 4294967296 : Nat) : Int) .u64 ((y % 4294967296 : Nat) : Int) = some (.v (.int .u64 (B : Int))) := by rw [mulU (by omega), hB]
 have mC : intB .mul .u64 ((x % 4294967296 : Nat) : Int) .u64 ((y / 4294967296 : Nat) : Int) = some (.v (.int .u64 (C : Int))) := by rw [mulU (by omega), hC]
 have mE : intB .mul .u64 ((x % 4294967296 : Nat) : Int) .u64 ((y % 4294967296 : Nat) : Int) = some (.v (.int .u64 (E : Int))) := by rw [mulU (by omega), hE]
 unfold k368 U;simp only [f_bin, EV, q32 x hx, q32 y hy, r32, mA, mB, mC, mE, q32 E (by omega), addU (show B + E / 4294967296 < 18446744073709551616 by omega), addU (show C + (B + E / 4294967296) % 4294967296 < 18446744073709551616 by omega),
  q32 (B + E / 4294967296) (by omega), q32 (C + (B + E / 4294967296) % 4294967296) (by omega), addU (show A + (B + E / 4294967296) / 4294967296 < 18446744073709551616 by omega),
  addU (show A + (B + E / 4294967296) / 4294967296 + (C + (B + E / 4294967296) % 4294967296) / 4294967296 < 18446744073709551616 by omega), m32, addU (show (C + (B + E / 4294967296) % 4294967296) % 4294967296 * 4294967296 + E % 4294967296 < 18446744073709551616 by omega)]
 unfold W U;rw [show x * y / 18446744073709551616 = A + (B + E / 4294967296) / 4294967296 + (C + (B + E / 4294967296) % 4294967296) / 4294967296 by omega, show x * y % 18446744073709551616 = (C + (B + E / 4294967296) % 4294967296) % 4294967296 * 4294967296 + E % 4294967296 by omega]
 rfl
def pneg (a b : Int) : Bool := (decide (a < 0) != decide (b < 0)) && (!decide (a = 0) && !decide (b = 0))
theorem shapeW (n : Bool) (m : Nat) : RF.ev (.shape 3) [W n m] = some (W n m) := rfl
theorem cellW0 (n : Bool) (m : Nat) : RF.ev (.cell 0) [W n m] = some (.bool n) := rfl
theorem cellW1 (n : Bool) (m : Nat) : RF.ev (.cell 1) [W n m] = some (.v (.int .u64 ((m / 18446744073709551616 : Nat) : Int))) := rfl
theorem cellW2 (n : Bool) (m : Nat) : RF.ev (.cell 2) [W n m] = some (.v (.int .u64 ((m % 18446744073709551616 : Nat) : Int))) := rfl
theorem partW0 (n : Bool) (m : Nat) : RF.ev (.part 0 3) [W n m] = some (W n m) := rfl
theorem partW (n : Bool) (m : Nat) : RF.ev (.part 1 2) [W n m] = some (.agg [U (m / 18446744073709551616), U (m % 18446744073709551616)]) := rfl
theorem aggW (n : Bool) (m : Nat) : RF.ev .agg [.bool n, .agg [U (m / 18446744073709551616), U (m % 18446744073709551616)]] = some (W n m) := rfl
theorem flatW (n : Bool) (m : Nat) : RF.ev .flat [W n m] = some (W n m) := rfl
theorem c304 {a b : Int} (h : I64 a) (k : I64 b) : Ans D 304 [.i64 a, .i64 b] [W (pneg a b) (a.natAbs * b.natAbs)] := by
 refine ans_of k304_ok s304 rfl ⟨1, ?_⟩;have h1 := abs_lt h;have h2 := abs_lt k;unfold k304;simp only [shapeW, partW, aggW, flatW, EV, phi (c223 h), phi (c223 k), phi (c368 (show a.natAbs < 18446744073709551616 by omega) (show b.natAbs < 18446744073709551616 by omega)), k304_1]
 unfold pneg;cases decide (a < 0) <;> cases decide (b < 0) <;> cases decide (a = 0) <;> rfl
def bigV (n : Bool) (m : Nat) : Int := if n then -(m : Int) else m
theorem pneg_val (a b : Int) : bigV (pneg a b) (a.natAbs * b.natAbs) = a * b := by
 unfold bigV pneg;rw [natAbs_mul_cast];rcases Int.lt_trichotomy a 0 with h | h | h <;> rcases Int.lt_trichotomy b 0 with k | k | k
 ·have := Int.mul_pos_of_neg_of_neg h k;simp [h, k]; omega
 ·subst k; simp
 ·have := Int.mul_neg_of_neg_of_pos h k;simp [h, show ¬ b < 0 by omega, show a ≠ 0 by omega, show b ≠ 0 by omega]; omega
 ·subst h; simp
 ·subst h; simp
 ·subst h; simp
 ·have := Int.mul_neg_of_pos_of_neg h k;simp [k, show ¬ a < 0 by omega, show a ≠ 0 by omega, show b ≠ 0 by omega]; omega
 ·subst k; simp
 ·have := Int.mul_pos h k;simp [show ¬ a < 0 by omega, show ¬ b < 0 by omega]; omega
theorem c305 (n : Bool) (m : Nat) : Ans D 305 [W n m] [.i64 (sgn (bigV n m))] := by
 refine ans_of k305_ok s305 rfl ⟨1, ?_⟩;unfold k305;simp only [den_lt, shapeW, cellW1, cellW2, EV, decide_eq_true_eq];have fin : ∀ (e : Bool) (v : PV), (e = true ↔ m = 0) → den (PhiS D) 1 k305_1 [] [v, W n m, .bool e] = some [.i64 (sgn (bigV n m))] := fun e v he => by
  unfold k305_1 bigV;simp only [cellW0, EV];cases e with
  | true => have := he.1 rfl; subst this; cases n <;> rfl
  | false =>
   have : m ≠ 0 := fun h => by have := he.2 h; cases this
   simp only [Bool.false_eq_true, if_false];unfold sgn;cases n with
   | true => simp only [if_true]; rw [if_pos (by omega)]
   | false => simp only [Bool.false_eq_true, if_false]; rw [if_neg (by omega), if_pos (by omega)]
 by_cases h : ((m / 18446744073709551616 : Nat) : Int) = 0
 ·rw [if_pos h];exact fin _ _ (by rw [decide_eq_true_eq]; omega)
 ·rw [if_neg h];exact fin _ _ ⟨fun h => (by cases h), fun h' => (by subst h'; exact absurd rfl h)⟩
theorem c306 {n k : Bool} (a b : Nat) : Ans D 306 [W n a, W k b] [.i64 (sgn ((a : Int) - b))] := by
 refine ans_of k306_ok s306 rfl ⟨1, ?_⟩;unfold k306;simp only [den_lt, shapeW, cellW1, cellW2, EV, decide_eq_true_eq, sgn_cases, Bool.not_eq_true', decide_eq_false_iff_not];by_cases h1 : a / 18446744073709551616 = b / 18446744073709551616
 ·rw [if_neg (by omega)];by_cases h2 : a % 18446744073709551616 = b % 18446744073709551616
  ·rw [if_neg (by omega), if_neg (by omega), if_neg (by omega)]
  ·rw [if_pos (by omega)];by_cases h3 : a < b
   ·rw [if_pos (by omega), if_pos (by omega)]
   ·rw [if_neg (by omega), if_neg (by omega), if_pos (by omega)]
 ·rw [if_pos (by omega)];by_cases h3 : a < b
  ·rw [if_pos (by omega), if_pos (by omega)]
  ·rw [if_neg (by omega), if_neg (by omega), if_pos (by omega)]
theorem c224 {r s : Rt} (h : In64 r) (k : In64 s) : Ans D 224 [R r, R s] [.i64 (sgn (crs r s))] := by
 refine ans_of k224_ok s224 rfl ⟨1, ?_⟩;unfold k224;simp only [den_lt, shapeR, cellR0, cellR1, shapeW, partW0, EV, phi (c304 h.1 k.2), phi (c304 k.1 h.2), phi (c305 _ _), phi (c306 _ _), pneg_val, decide_eq_true_eq, Bool.not_eq_true', decide_eq_false_iff_not];have e1 := pneg_val r.num s.den;have e2 := pneg_val s.num r.den;unfold bigV at e1 e2;unfold crs;generalize r.num * s.den = x at *;generalize s.num * r.den = y at *;generalize r.num.natAbs * s.den.natAbs = a at *;generalize s.num.natAbs * r.den.natAbs = b at *;have hx : sgn x = if x < 0 then -1 else if 0 < x then 1 else 0 := rfl
 have hy : sgn y = if y < 0 then -1 else if 0 < y then 1 else 0 := rfl
 by_cases hne : sgn x = sgn y
 ·rw [if_neg (by omega)];by_cases hn : sgn x < 0
  ·rw [if_pos hn];have : (b : Int) - a = x - y := by
    revert e1 e2
    split <;> split <;> intros <;> (repeat' split at hx) <;> (repeat' split at hy) <;> omega
   rw [this]
  ·rw [if_neg hn];have : (a : Int) - b = x - y := by
    revert e1 e2
    split <;> split <;> intros <;> (repeat' split at hx) <;> (repeat' split at hy) <;> omega
   rw [this]
 ·rw [if_pos hne];rw [sgn_cases x y];by_cases hl : sgn x < sgn y
  ·rw [if_pos hl, if_pos (show x < y by repeat' split at hx; all_goals (repeat' split at hy) <;> omega)]
  ·rw [if_neg hl, if_neg (show ¬ x < y by repeat' split at hx; all_goals (repeat' split at hy) <;> omega), if_pos (show y < x by repeat' split at hx; all_goals (repeat' split at hy) <;> omega)]
end Go.Proofs.YtfghdmmapmdcgaaGreat
