import Derived.Test.YtfghdmmapmdcgaaGreatCE
set_option linter.unusedVariables false
set_option linter.unusedSimpArgs false
set_option linter.defProp false
noncomputable section
namespace Go.Proofs.YtfghdmmapmdcgaaGreat
open Go.Sym Bnd
set_option maxRecDepth 100000
def twoE (p q : Pt) (t : Rt) : Int := if (p.ok && (q.ok && rok t)) = true then (if p.id = q.id then 2 else 0) else 8
theorem c328 {p q : Pt} {t : Rt} (ht : In64 t) : Ans D 328 [PP p, PP q, R t] [.i64 (twoE p q t)] := by
 refine ans_of k328_ok s328 rfl ⟨1, ?_⟩;unfold k328 twoE;simp only [den_lt, shapeP, shapeR, cellP0, mm2, EV, phi (c270 _), phi (c43 ht), okE_max, Bool.and_assoc, okE_ne, decide_eq_true_eq];cases (p.ok && (q.ok && rok t)) with
 | false => rfl
 | true =>
  simp only [if_true];by_cases h : p.id = q.id
  ·rw [if_pos h, if_pos h]
  ·rw [if_neg h, if_neg h]
theorem twoE_ok {p q : Pt} {t : Rt} (h : twoE p q t = 0) : p.ok = true ∧ q.ok = true ∧ rok t = true ∧ p.id ≠ q.id := by
 unfold twoE at h;split at h
 ·rename_i h1;simp only [Bool.and_eq_true] at h1;split at h
  ·cases h
  ·rename_i h2; exact ⟨h1.1, h1.2.1, h1.2.2, h2⟩
 ·cases h
theorem twoE_zero {p q : Pt} {t : Rt} (h1 : p.ok = true) (h2 : q.ok = true) (h3 : rok t = true) (h4 : p.id ≠ q.id) : twoE p q t = 0 := by
 unfold twoE;rw [h1, h2, h3];simp [h4]
theorem c249 {p q : Pt} {t : Rt} (ht : In64 t) : Ans D 249 [PP p, PP q, R t] (if twoE p q t = 0 then [.bool (leads t p q), .i64 0] else [.bool false, .i64 (twoE p q t)]) := by
 refine ans_of k249_ok s249 rfl ⟨1, ?_⟩;unfold k249;simp only [den_lt, shapeP, shapeR, EV, phi (c328 ht), Bool.not_eq_true', decide_eq_false_iff_not];by_cases h : twoE p q t = 0
 ·obtain ⟨h1, h2, _, _⟩ := twoE_ok h;rw [if_neg (by simp [h]), if_pos h];simp only [EV, phi (c329 h1 h2 ht), cmpP_pos]
 ·rw [if_pos h, if_neg h]
def mkR (n d : Int) : Rt := ⟨(if (decide (n < 0) != decide (d < 0)) = true then -((n.natAbs / Nat.gcd n.natAbs d.natAbs : Nat) : Int) else ((n.natAbs / Nat.gcd n.natAbs d.natAbs : Nat) : Int)), ((d.natAbs / Nat.gcd n.natAbs d.natAbs : Nat) : Int)⟩
def Sm (n : Int) : Prop := -4194304 ≤ n ∧ n ≤ 4194304
theorem quoU {a b : Nat} (hb : 0 < b) (ha : a < 18446744073709551616) : RF.ev (.bin .quo) [U a, U b] = some (U (a / b)) := by
 show intB .quo .u64 (a : Int) .u64 (b : Int) = _
 have : a / b ≤ a := Nat.div_le_self a b;rw [i_quo, if_neg (by omega), Int.tdiv_eq_ediv_of_nonneg (by omega), ← Int.natCast_ediv, wu (by omega)];rfl
def WB (n : Bool) (h l : Nat) : PV := .agg [.bool n, U h, U l]
theorem aggB (n : Bool) (h l : Nat) : RF.ev .agg [.bool n, U h, U l] = some (WB n h l) := rfl
theorem shWB (n : Bool) (h l : Nat) : RF.ev (.shape 3) [WB n h l] = some (WB n h l) := rfl
theorem cB0 (n : Bool) (h l : Nat) : RF.ev (.cell 0) [WB n h l] = some (.bool n) := rfl
theorem cB1 (n : Bool) (h l : Nat) : RF.ev (.cell 1) [WB n h l] = some (.v (.int .u64 (h : Int))) := rfl
theorem cB2 (n : Bool) (h l : Nat) : RF.ev (.cell 2) [WB n h l] = some (.v (.int .u64 (l : Int))) := rfl
theorem aggR (a b : Int) : RF.ev .agg [.i64 a, .i64 b] = some (R ⟨a, b⟩) := rfl
theorem flatRt (r : Rt) : RF.ev .flat [R r] = some (R r) := rfl
theorem partR (r : Rt) : RF.ev (.part 0 2) [R r] = some (R r) := rfl
theorem U0 : PV.v (.int .u64 0) = U 0 := rfl
theorem c424 {n : Bool} {a b : Nat} (ha : a ≤ 4194304) (hb : b ≤ 4194304) : Ans D 424 [WB n 0 a, U 0, U b] [R ⟨if n = true then -(a : Int) else a, b⟩, .i64 0] := by
 refine ans_of k424_ok s424 rfl ⟨1, ?_⟩;have e : RF.ev (.bin .gtr) [U 0, U 0] = some (.bool false) := rfl;have e2 : RF.ev (.bin .gtr) [U b, .v (.int .u64 9223372036854775807)] = some (.bool (decide ((9223372036854775807 : Int) < b))) := rfl;unfold k424;simp only [den_lt, shWB, cB0, U0, cB1, cB2, aggR, flatRt, e, e2, convU, EV, decide_eq_true_eq, k424_1, Int.natCast_zero, Int.reduceLT, decide_false, Bool.false_eq_true, if_false, w_i64 (show -9223372036854775808 ≤ (a : Int) by omega) (by omega), w_i64 (show -9223372036854775808 ≤ (b : Int) by omega) (by omega), w_i64 (show -9223372036854775808 ≤ 0 - (a : Int) by omega) (by omega)]
 rw [if_neg (by omega), if_neg (by omega)];cases n
 ·rfl
 ·simp only [if_true];rw [show (0 : Int) - a = -a by omega]
theorem I64m {n : Int} (h : Sm n) : I64 n := by obtain ⟨h1, h2⟩ := h; exact ⟨by omega, by omega⟩
theorem c416 {n d : Int} (hn : Sm n) (hd : Sm d) (h0 : d ≠ 0) : Ans D 416 [.i64 n, .i64 d] [R (mkR n d), .i64 0] := by
 obtain ⟨n1, n2⟩ := hn;obtain ⟨d1, d2⟩ := hd;have hg : 0 < Nat.gcd n.natAbs d.natAbs := Nat.gcd_pos_of_pos_right _ (by omega);have l1 : n.natAbs / Nat.gcd n.natAbs d.natAbs ≤ n.natAbs := Nat.div_le_self ..;have l2 : d.natAbs / Nat.gcd n.natAbs d.natAbs ≤ d.natAbs := Nat.div_le_self ..;have hc := phi (c115 n.natAbs d.natAbs);rw [Nat.gcd_comm] at hc;refine ans_of k416_ok s416 rfl ⟨1, ?_⟩;unfold k416;simp only [den_lt, quoU hg (show n.natAbs < 18446744073709551616 by omega), quoU hg (show d.natAbs < 18446744073709551616 by omega), U0, aggB, shapeR, flatRt, EV, phi (c116 (I64m ⟨n1, n2⟩)), phi (c116 (I64m ⟨d1, d2⟩)), hc, phi (c424 (show n.natAbs / Nat.gcd n.natAbs d.natAbs ≤ 4194304 by omega) (show d.natAbs / Nat.gcd n.natAbs d.natAbs ≤ 4194304 by omega)), decide_eq_true_eq]
 rw [if_neg h0];rfl
theorem c388 {p q : Pt} (hp : p.ok = true) (hq : q.ok = true) (hi : p.id ≠ q.id) (hb : p.b ≠ q.b) : Ans D 388 [PP p, PP q] [R (mkR (p.a - q.a) (q.b - p.b)), .i64 0] := by
 have bp := Pt.bnd hp;have bq := Pt.bnd hq;have ht : In64 ⟨0, 1⟩ := ⟨⟨by decide, by decide⟩, ⟨by decide, by decide⟩⟩;have i2 := (I64s bp.2.1 bq.2.1).2;have i4 := (I64s bq.2.2 bp.2.2).2;have h1 := phi (c328 (p := p) (q := q) ht);rw [twoE_zero hp hq (by decide) hi] at h1;refine ans_of k388_ok s388 rfl ⟨1, ?_⟩;unfold k388;simp only [den_lt, shapeP, shapeR, cellP0, cellP1, cellP2, aggR, flatRt, EV, h1, i2, i4, decide_true, Bool.not_true, Bool.false_eq_true, if_false, decide_eq_true_eq, phi (c416 (n := p.a - q.a) (d := q.b - p.b) ⟨by omega, by omega⟩ ⟨by omega, by omega⟩ (by omega))];rw [if_neg (by omega)]
def failT (t : Rt) (hi lo : Pt) : Rt × Bool := if leads t lo hi = true then (t, true) else if hi.b < lo.b then (mkR (hi.a - lo.a) (lo.b - hi.b), true) else (⟨0, 0⟩, false)
theorem c327 {p q : Pt} {t : Rt} (ht : In64 t) : Ans D 327 [PP p, PP q, R t] (if twoE p q t = 0 then [R (failT t p q).1, .bool (failT t p q).2, .i64 0] else [R ⟨0, 0⟩, .bool false, .i64 (twoE p q t)]) := by
 refine ans_of k327_ok s327 rfl ⟨1, ?_⟩;unfold k327;simp only [den_lt, shapeP, shapeR, cellP2, aggR, flatRt, EV, phi (c328 ht), Bool.not_eq_true', decide_eq_false_iff_not];by_cases h : twoE p q t = 0
 ·obtain ⟨h1, h2, _, h3⟩ := twoE_ok h;rw [if_neg (by simp [h]), if_pos h];simp only [den_lt, shapeR, flatRt, cellP2, aggR, EV, phi (c329 h2 h1 ht), cmpP_pos, decide_eq_true_eq];unfold failT;cases leads t q p with
  | true => rfl
  | false =>
   simp only [Bool.false_eq_true, if_false];by_cases hb : q.b ≤ p.b
   ·rw [if_pos hb, if_neg (by omega)]
   ·rw [if_neg hb, if_pos (by omega)];simp only [den_lt, shapeR, flatRt, EV, phi (c388 h1 h2 h3 (by omega)), decide_true]
 ·rw [if_pos h, if_neg h]
end Go.Proofs.YtfghdmmapmdcgaaGreat
