import Derived.Test.YtfghdmmapmdcgaaGreatCF
set_option linter.unusedVariables false
set_option linter.unusedSimpArgs false
set_option linter.defProp false
noncomputable section
namespace Go.Proofs.YtfghdmmapmdcgaaGreat
open Go.Sym Bnd
set_option maxRecDepth 100000
theorem aggW3 (n : Bool) (a b : Int) : RF.ev .agg [.bool n, .v (.int .u64 a), .v (.int .u64 b)] = some (.agg [.bool n, .v (.int .u64 a), .v (.int .u64 b)]) := rfl
theorem mkW {n : Bool} {h l : Int} {m : Nat} (h1 : h = ((m / 18446744073709551616 : Nat) : Int)) (h2 : l = ((m % 18446744073709551616 : Nat) : Int)) : PV.agg [.bool n, .v (.int .u64 h), .v (.int .u64 l)] = W n m := by rw [h1, h2]; rfl
theorem c423 {n k : Bool} {a b : Nat} (ha : a < 170141183460469231731687303715884105728) (h : b ≤ a) : Ans D 423 [W n a, W k b] [W false (a - b)] := by
 refine ans_of k423_ok s423 rfl ⟨1, ?_⟩;unfold k423;simp only [den_lt, shapeW, cellW1, cellW2, EV, decide_eq_true_eq, k423_1, aggW3, w_u64];by_cases c : ((a % 18446744073709551616 : Nat) : Int) < ((b % 18446744073709551616 : Nat) : Int)
 ·rw [if_pos c, mkW (m := a - b) (by omega) (by omega)]
 ·rw [if_neg c, mkW (m := a - b) (by omega) (by omega)]
theorem c414 {n k : Bool} {a b : Nat} (ha : a < 85070591730234615865843651857942052865) (hb : b < 85070591730234615865843651857942052865) : ∃ s m, Ans D 414 [W n a, W k b] [W s m] ∧ bigV s m = bigV n a + bigV k b := by
 have l1 : a % 18446744073709551616 < 18446744073709551616 := by omega
 by_cases hs : n = k
 ·subst hs;refine ⟨n, a + b, ?_, by unfold bigV; split <;> omega⟩;refine ans_of k414_ok s414 rfl ⟨1, ?_⟩;unfold k414;simp only [den_lt, shapeW, cellW0, cellW1, cellW2, EV, decide_eq_true_eq, k414_1, aggW3, w_u64, beq_self_eq_true, if_true];by_cases c : (((a % 18446744073709551616 : Nat) : Int) + ((b % 18446744073709551616 : Nat) : Int)) % 18446744073709551616 < ((a % 18446744073709551616 : Nat) : Int)
  ·rw [if_pos c, mkW (m := a + b) (by omega) (by omega)]
  ·rw [if_neg c, mkW (m := a + b) (by omega) (by omega)]
 ·have hbe : (n == k) = false := by cases n <;> cases k <;> simp_all
  by_cases hle : b ≤ a
  ·refine ⟨n && decide (0 < a - b), a - b, ?_, by unfold bigV; cases n <;> cases k <;> simp_all <;> (repeat' split) <;> omega⟩
   have g : sgn ((a : Int) - b) ≥ 0 := by unfold sgn; repeat' split; all_goals omega
   refine ans_of k414_ok s414 rfl ⟨1, ?_⟩;unfold k414;simp only [den_lt, shapeW, cellW0, cellW1, cellW2, EV, decide_eq_true_eq, hbe, Bool.false_eq_true, if_false, phi (c306 _ _), phi (c423 (n := n) (k := k) (show a < 170141183460469231731687303715884105728 by omega) hle)]
   rw [if_pos g];have fin : ∀ (v : Bool) (es : List PV), den (PhiS D) 1 k414_2 [] (.bool v :: es) = den (PhiS D) 1 k414_2 [] (.bool v :: es) := fun _ _ => rfl;cases n with
   | false =>
    simp only [Bool.false_eq_true, if_false, den_lt, partW, aggW, flatW, k414_2, EV, Bool.false_and]
   | true =>
    simp only [if_true, den_lt, cellW1, cellW2, EV, decide_eq_true_eq, Bool.true_and];by_cases c : (0 : Int) < ((((a - b) / 18446744073709551616 : Nat) : Int))
    ·rw [if_pos c, decide_eq_true (show 0 < a - b by omega)]
     simp only [den_lt, partW, aggW, flatW, k414_2, EV]
    ·rw [if_neg c];simp only [den_lt, partW, aggW, flatW, k414_2, EV];rw [show decide ((0 : Int) < (((a - b) % 18446744073709551616 : Nat) : Int)) = decide (0 < a - b) from decide_eq_decide.2 (by omega)]
  ·refine ⟨k, b - a, ?_, by unfold bigV; cases n <;> cases k <;> simp_all <;> omega⟩;have g : ¬ sgn ((a : Int) - b) ≥ 0 := by unfold sgn; rw [if_pos (by omega)]; decide
   refine ans_of k414_ok s414 rfl ⟨1, ?_⟩;unfold k414;simp only [den_lt, shapeW, cellW0, cellW1, cellW2, EV, decide_eq_true_eq, hbe, Bool.false_eq_true, if_false, phi (c306 _ _), phi (c423 (n := k) (k := n) (a := b) (b := a) (show b < 170141183460469231731687303715884105728 by omega) (by omega))]
   rw [if_neg g];simp only [den_lt, partW, aggW, flatW, cellW0, EV]
theorem c384 {p q : Pt} {t : Rt} (hp : p.ok = true) (hq : q.ok = true) (ht : In64 t) : Ans D 384 [PP p, PP q, R t] [.i64 (sgn (far t p q))] := by
 have bp := Pt.bnd hp;have bq := Pt.bnd hq;obtain ⟨i1, i2⟩ := I64s bp.2.1 bq.2.1;obtain ⟨i3, i4⟩ := I64s bp.2.2 bq.2.2;obtain ⟨s, m, h1, h2⟩ := c414 (n := pneg (p.a - q.a) t.den) (k := pneg (p.b - q.b) t.num) (Nat.lt_succ_of_le (mulabs i1 ht.2)) (Nat.lt_succ_of_le (mulabs i3 ht.1));rw [pneg_val, pneg_val] at h2;refine ans_of k384_ok s384 rfl ⟨1, ?_⟩;unfold k384;simp only [den_lt, shapeP, shapeR, cellP1, cellP2, cellR0, cellR1, EV, i2, i4, phi (c304 i1 ht.2), phi (c304 i3 ht.1), phi h1, phi (c305 _ _)];rw [h2];rfl
theorem sgn_zero {n : Int} : sgn n = 0 ↔ n = 0 := by unfold sgn; repeat' split; all_goals omega
theorem sgn_pos {n : Int} : 0 < sgn n ↔ 0 < n := by unfold sgn; repeat' split; all_goals omega
theorem c323 {p q : Pt} {t : Rt} (hp : p.ok = true) (hq : q.ok = true) (ht : In64 t) : Ans D 323 [PP p, PP q, R t] [.bool (leads t p q)] := by
 refine ans_of k323_ok s323 rfl ⟨1, ?_⟩;unfold k323 leads;simp only [den_lt, shapeP, shapeR, cellP0, cellP2, EV, phi (c384 hp hq ht), decide_eq_true_eq, Bool.not_eq_true', decide_eq_false_iff_not, sgn_zero, sgn_pos];by_cases h : far t p q = 0
 ·simp only [h, not_true_eq_false, if_false, ne_eq];by_cases k : p.b = q.b
  ·simp only [k, not_true_eq_false, if_false]
  ·simp only [k, not_false_eq_true, if_true]
 ·simp only [h, not_false_eq_true, if_true, ne_eq]
theorem c425 {n : Bool} {a b : Nat} (ha : a ≤ 4194304) (hb : b ≤ 4194304) : Ans D 425 [.bool n, WB false 0 a, WB false 0 b] [R ⟨if n = true then -(a : Int) else a, b⟩, .i64 0] := by
 refine ans_of k425_ok s425 rfl ⟨1, ?_⟩;unfold k425;simp only [den_lt, shWB, cB0, cB1, cB2, aggR, flatRt, EV, decide_eq_true_eq, Int.natCast_zero, Int.reduceLT, decide_false, Bool.false_eq_true, if_false, w_i64 (show -9223372036854775808 ≤ (a : Int) by omega) (by omega), w_i64 (show -9223372036854775808 ≤ (b : Int) by omega) (by omega), w_i64 (show -9223372036854775808 ≤ 0 - (a : Int) by omega) (by omega)]
 rw [if_neg (by omega), if_neg (by omega)];cases n
 ·rfl
 ·simp only [if_true];rw [show (0 : Int) - a = -a by omega]
theorem c419 {n d : Int} (hn : Sm n) (hd : Sm d) (h0 : d ≠ 0) : Ans D 419 [.i64 n, .i64 d] [R (mkR n d), .i64 0] := by
 obtain ⟨n1, n2⟩ := hn;obtain ⟨d1, d2⟩ := hd;have hg : 0 < Nat.gcd n.natAbs d.natAbs := Nat.gcd_pos_of_pos_right _ (by omega);have l1 : n.natAbs / Nat.gcd n.natAbs d.natAbs ≤ n.natAbs := Nat.div_le_self ..;have l2 : d.natAbs / Nat.gcd n.natAbs d.natAbs ≤ d.natAbs := Nat.div_le_self ..;have hc := phi (c222 n.natAbs d.natAbs);rw [Nat.gcd_comm] at hc;have hm := fun s => phi (c425 (n := s) (show n.natAbs / Nat.gcd n.natAbs d.natAbs ≤ 4194304 by omega) (show d.natAbs / Nat.gcd n.natAbs d.natAbs ≤ 4194304 by omega))
 refine ans_of k419_ok s419 rfl ⟨1, ?_⟩;unfold k419;simp only [den_lt, quoU hg (show n.natAbs < 18446744073709551616 by omega), quoU hg (show d.natAbs < 18446744073709551616 by omega), U0, aggB, shapeR, cellR0, cellR1, aggR, flatRt, k419_1, EV, phi (c223 (I64m ⟨n1, n2⟩)), phi (c223 (I64m ⟨d1, d2⟩)), hc, hm, decide_eq_true_eq]
 rw [if_neg h0];unfold mkR;by_cases hs : (decide (n < 0) != decide (d < 0)) = true
 ·rw [if_pos (show (!(decide (n < 0) == decide (d < 0))) = true from hs), if_pos hs]
  by_cases hz : n = 0
  ·subst hz; simp
  ·simp [hz]
 ·rw [if_neg (show ¬ (!(decide (n < 0) == decide (d < 0))) = true from hs), if_neg hs]
  simp
theorem c396 {p q : Pt} (hp : p.ok = true) (hq : q.ok = true) (hb : p.b ≠ q.b) : Ans D 396 [PP p, PP q] [R (mkR (p.a - q.a) (q.b - p.b))] := by
 have bp := Pt.bnd hp;have bq := Pt.bnd hq;have i2 := (I64s bp.2.1 bq.2.1).2;have i4 := (I64s bq.2.2 bp.2.2).2;refine ans_of k396_ok s396 rfl ⟨1, ?_⟩;unfold k396;simp only [den_lt, shapeP, shapeR, cellP1, cellP2, flatRt, EV, i2, i4, phi (c419 (n := p.a - q.a) (d := q.b - p.b) ⟨by omega, by omega⟩ ⟨by omega, by omega⟩ (by omega))]
theorem c348 {p q : Pt} {t : Rt} (hp : p.ok = true) (hq : q.ok = true) (ht : In64 t) : Ans D 348 [PP p, PP q, R t] [R (failT t p q).1, .bool (failT t p q).2] := by
 refine ans_of k348_ok s348 rfl ⟨1, ?_⟩;unfold k348 failT;simp only [den_lt, shapeP, shapeR, cellP2, aggR, flatRt, EV, phi (c323 hq hp ht), decide_eq_true_eq];cases leads t q p with
 | true => rfl
 | false =>
  simp only [Bool.false_eq_true, if_false];by_cases hb : p.b < q.b
  ·rw [if_pos hb, if_pos hb];simp only [den_lt, shapeR, flatRt, EV, phi (c396 hp hq (show p.b ≠ q.b by omega))]
  ·rw [if_neg hb, if_neg hb]
end Go.Proofs.YtfghdmmapmdcgaaGreat
