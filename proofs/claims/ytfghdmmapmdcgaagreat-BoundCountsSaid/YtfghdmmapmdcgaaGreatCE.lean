import Derived.Test.YtfghdmmapmdcgaaGreatCD
set_option linter.unusedVariables false
set_option linter.unusedSimpArgs false
set_option linter.defProp false
noncomputable section
namespace Go.Proofs.YtfghdmmapmdcgaaGreat
open Go.Sym Bnd
set_option maxRecDepth 100000
theorem wrapTo {x t : Int} (h : (x - t) % 18446744073709551616 = 0) (ht : I64 t) : IntKind.i64.wrap x = t := by
 obtain ⟨h1, h2⟩ := ht;simp only [IntKind.wrap, IntKind.bits, IntKind.signed]; simp; split <;> omega
theorem wr (x : Int) : ∃ k : Int, IntKind.i64.wrap x = x + 18446744073709551616 * k := by
 simp only [IntKind.wrap, IntKind.bits, IntKind.signed]; simp; split
 ·exact ⟨-(x / 18446744073709551616) - 1, by omega⟩
 ·exact ⟨-(x / 18446744073709551616), by omega⟩
theorem wr_eq {x y : Int} (h : (x - y) % 18446744073709551616 = 0) : IntKind.i64.wrap x = IntKind.i64.wrap y := by
 simp only [IntKind.wrap, IntKind.bits, IntKind.signed]; simp; rw [show x % 18446744073709551616 = y % 18446744073709551616 by omega]
theorem wrA (x y : Int) : IntKind.i64.wrap (IntKind.i64.wrap x + y) = IntKind.i64.wrap (x + y) := by obtain ⟨k, h⟩ := wr x; rw [h]; exact wr_eq (by omega)
theorem wrB (x y : Int) : IntKind.i64.wrap (y + IntKind.i64.wrap x) = IntKind.i64.wrap (y + x) := by obtain ⟨k, h⟩ := wr x; rw [h]; exact wr_eq (by omega)
theorem wrC (x y : Int) : IntKind.i64.wrap (IntKind.i64.wrap x - y) = IntKind.i64.wrap (x - y) := by obtain ⟨k, h⟩ := wr x; rw [h]; exact wr_eq (by omega)
theorem convU (k : IntKind) (n : Nat) : RF.ev (.conv k) [U n] = some (.v (.int k (k.wrap n))) := rfl
abbrev oA2 : RF := .bin .add
def hiL (v : Int) : PV := .i64 (v / 18446744073709551616)
def loL (v : Int) : PV := .v (.int .u64 (v % 18446744073709551616))
def Mid (v : Int) : Prop := -154742504910672534362390528 ≤ v ∧ v ≤ 154742504910672534362390528
theorem sum_nat {a b p : Int} (ha : I64 a) (hb : I64 b) (hp : a * b = p) : ∃ x y : Nat, (a % 18446744073709551616 = (x : Int) ∧ x < 18446744073709551616) ∧ (b % 18446744073709551616 = (y : Int) ∧ y < 18446744073709551616) ∧
  ((x * y : Nat) : Int) = p + 18446744073709551616 * ((if a < 0 then b else 0) + (if b < 0 then a else 0)) + 340282366920938463463374607431768211456 * (if a < 0 ∧ b < 0 then 1 else 0) := by
 obtain ⟨a1, a2⟩ := ha;obtain ⟨b1, b2⟩ := hb;refine ⟨(a % 18446744073709551616).toNat, (b % 18446744073709551616).toNat, ⟨by omega, by omega⟩, ⟨by omega, by omega⟩, ?_⟩;have e1 : (((a % 18446744073709551616).toNat : Nat) : Int) = if a < 0 then a + 18446744073709551616 else a := by split <;> omega
 have e2 : (((b % 18446744073709551616).toNat : Nat) : Int) = if b < 0 then b + 18446744073709551616 else b := by split <;> omega
 rw [Int.natCast_mul, e1, e2];by_cases h1 : a < 0 <;> by_cases h2 : b < 0 <;> simp only [h1, h2, if_true, if_false, and_true, and_false, and_self, Int.add_mul, Int.mul_add, hp] <;> omega
theorem sum_step {Φ' : PhT} {N : Nat} {f self : JT} {e0 w : PV} {a b v : Int} {i : Nat} (hΦ : Φ' = PhiS D) (hw : RF.ev (.aix 2 2 2) [w, .i64 (i : Int)] = some (.agg [.i64 a, .i64 b])) (hi : i < 2) (ha : I64 a) (hb : I64 b) (hm : Mid (a * b)) (hv : Mid v) :
  den Φ' N k389_4 [f, self] [e0, w, hiL v, loL v, .i64 (i : Int)] = self [hiL (v + a * b), loL (v + a * b), .i64 ((i + 1 : Nat) : Int)] := by
 subst hΦ;obtain ⟨m1, m2⟩ := hm;obtain ⟨v1, v2⟩ := hv;generalize hp : a * b = p at *;obtain ⟨x, y, ⟨x1, x2⟩, ⟨y1, y2⟩, hxy⟩ := sum_nat ha hb hp;have ha' := ha;have hb' := hb;obtain ⟨a1, a2⟩ := ha;obtain ⟨b1, b2⟩ := hb;have bd : x * y ≤ 18446744073709551615 * 18446744073709551615 := Nat.mul_le_mul (by omega) (by omega);have u1 : PV.v (.int .u64 (IntKind.u64.wrap a)) = U x := uw x1;have u2 : PV.v (.int .u64 (IntKind.u64.wrap b)) = U y := uw y1;have q1 := phi (c289 x2 y2);have lo0 : loL v = U (v % 18446744073709551616).toNat := by unfold loL U; congr 2; omega
 have q2 := add64 (v % 18446744073709551616).toNat (x * y % 18446744073709551616);rw [← lo0] at q2;have w1 : IntKind.i64.wrap ((i : Int) + 1) = ((i + 1 : Nat) : Int) := up1 (by omega);unfold k389_4;simp only [den_lt, hw, EV, decide_eq_true_eq, u1, u2, q1, if_pos (show (i : Int) < 2 by omega), convU, k389_3]
 have lo2 : U (((v % 18446744073709551616).toNat + x * y % 18446744073709551616) % 18446744073709551616) = loL (v + p) := by
  unfold loL U
  congr 2
  split at hxy <;> split at hxy <;> split at hxy <;> omega
 rw [lo2] at q2;have q3 : ∀ h : Int, RF.ev oA2 [hiL v, .v (.int .i64 h)] = some (.i64 (IntKind.i64.wrap (v / 18446744073709551616 + h))) := fun h => rfl;have U0 : PV.v (.int .u64 0) = U 0 := rfl;by_cases a0 : a < 0 <;> by_cases b0 : b < 0 <;> simp only [a0, b0, if_true, if_false, den_lt, q3, EV, decide_true, decide_false, Bool.false_eq_true, k389_2, U0, q2, convU, wrA, wrB, wrC, w1, true_and, and_true, false_and, and_false, and_self] at hxy ⊢
 all_goals
  rw [wrapTo (t := (v + p) / 18446744073709551616) (by omega) ⟨by omega, by omega⟩];rfl
theorem c389 {a b c d : Int} (ha : I64 a) (hb : I64 b) (hc : I64 c) (hd : I64 d) (h1 : Mid (a * b)) (h2 : Mid (c * d)) : Ans D 389 [.agg [.i64 a, .i64 b, .i64 c, .i64 d]] [.agg [hiL (a * b + c * d), loL (a * b + c * d)]] := by
 refine ans_of k389_ok s389 rfl ⟨3, ?_⟩;unfold k389;have s0 := fun self => sum_step (N := 3) (f := denJ (PhiS D) 3 k389_1 [] [.agg [.i64 a, .i64 b, .i64 c, .i64 d], .agg [.i64 a, .i64 b, .i64 c, .i64 d]]) (self := self) (e0 := .agg [.i64 a, .i64 b, .i64 c, .i64 d]) (w := .agg [.i64 a, .i64 b, .i64 c, .i64 d]) (i := 0) (v := 0) rfl rfl (by decide) ha hb h1 ⟨by decide, by decide⟩;have s1 := fun self => sum_step (N := 3) (f := denJ (PhiS D) 3 k389_1 [] [.agg [.i64 a, .i64 b, .i64 c, .i64 d], .agg [.i64 a, .i64 b, .i64 c, .i64 d]]) (self := self) (e0 := .agg [.i64 a, .i64 b, .i64 c, .i64 d]) (w := .agg [.i64 a, .i64 b, .i64 c, .i64 d]) (i := 1) (v := a * b) rfl rfl (by decide) hc hd h2 h1;rw [Int.zero_add] at s0;have z1 : PV.i64 0 = hiL 0 := rfl;have z2 : PV.v (.int .u64 0) = loL 0 := rfl;have z3 : PV.i64 0 = .i64 ((0 : Nat) : Int) := rfl;simp only [EV, if_true, Nat.zero_add, Nat.reduceAdd, denW_succ];refine (s0 _).trans ?_;simp only [denW_succ, l_cons, l_nil, j_cons, j_nil];refine (s1 _).trans ?_;simp only [denW_succ, EV];unfold k389_4;simp only [EV, k389_1];rfl
theorem Pt.bnd {p : Pt} (h : p.ok = true) : (0 ≤ p.id ∧ p.id ≤ 65535) ∧ (-1048576 ≤ p.a ∧ p.a ≤ 1048576) ∧ (-1048576 ≤ p.b ∧ p.b ≤ 1048576) := by
 unfold Pt.ok near at h;simp only [Bool.and_eq_true, decide_eq_true_eq] at h;omega
theorem mid_mul {a b : Int} (h : -2097152 ≤ a ∧ a ≤ 2097152) (k : I64 b) : Mid (a * b) := by
 obtain ⟨k1, k2⟩ := k;have e := Int.natAbs_mul a b;have : a.natAbs * b.natAbs ≤ 2097152 * 9223372036854775808 := Nat.mul_le_mul (by omega) (by omega);constructor <;> omega
theorem hi_neg (v : Int) : (v / 18446744073709551616 < 0) ↔ v < 0 := by omega
theorem orr (a b : Int) : Ans D 387 [.sl [[.i64 a], [.i64 b]]] [.i64 (if a = 0 then b else a)] := by
 refine ans_of k387_ok s387 rfl ⟨3, ?_⟩;unfold k387;have w0 : IntKind.i64.wrap (0 + 1) = 1 := by decide
 have w1 : IntKind.i64.wrap (1 + 1) = 2 := by decide
 have e0 : RF.ev (.tix 1) [.sl [[.i64 a], [.i64 b]], .v (.int .i64 0)] = some (.i64 0) := rfl;have e1 : RF.ev (.tix 1) [.sl [[.i64 a], [.i64 b]], .v (.int .i64 1)] = some (.i64 1) := rfl;have g0 : RF.ev (.elt 0 0) [.sl [[.i64 a], [.i64 b]], .v (.int .i64 0)] = some (.i64 a) := rfl;have g1 : RF.ev (.elt 0 0) [.sl [[.i64 a], [.i64 b]], .v (.int .i64 1)] = some (.i64 b) := rfl;have h2 : ([[PV.i64 a], [PV.i64 b]].length : Int) = 2 := rfl;simp only [EV, denW_succ, k387_1, k387_2, h2, e0, e1, g0, g1, w0, w1, decide_eq_true_eq, Bool.not_eq_true', decide_eq_false_iff_not, Int.reduceLT, if_true, if_false];by_cases ha : a = 0
 ·rw [if_neg (by simp [ha]), if_pos ha];by_cases hb : b = 0
  ·rw [if_neg (by simp [hb]), hb]
  ·rw [if_pos hb]
 ·rw [if_pos ha, if_neg ha]
def cmpP (t : Rt) (p q : Pt) : Int := if far t p q = 0 then (if sgn (p.b - q.b) = 0 then sgn (q.id - p.id) else sgn (p.b - q.b)) else sgn (far t p q)
theorem cmpP_pos {t : Rt} {p q : Pt} : decide (0 < cmpP t p q) = leads t p q := by
 rw [Bool.eq_iff_iff, decide_eq_true_eq, leads_iff];unfold cmpP sgn
 repeat' split
 all_goals omega
theorem shapeP (p : Pt) : RF.ev (.shape 3) [PP p] = some (PP p) := rfl
theorem cellP0 (p : Pt) : RF.ev (.cell 0) [PP p] = some (.i64 p.id) := rfl
theorem cellP1 (p : Pt) : RF.ev (.cell 1) [PP p] = some (.i64 p.a) := rfl
theorem cellP2 (p : Pt) : RF.ev (.cell 2) [PP p] = some (.i64 p.b) := rfl
theorem far_mid {t : Rt} {p q : Pt} (hp : p.ok = true) (hq : q.ok = true) (ht : In64 t) : Mid ((p.a - q.a) * t.den) ∧ Mid ((p.b - q.b) * t.num) := by
 have := Pt.bnd hp;have := Pt.bnd hq;exact ⟨mid_mul ⟨by omega, by omega⟩ ht.2, mid_mul ⟨by omega, by omega⟩ ht.1⟩
theorem I64s {a b : Int} (ha : -1048576 ≤ a ∧ a ≤ 1048576) (hb : -1048576 ≤ b ∧ b ≤ 1048576) : I64 (a - b) ∧ IntKind.i64.wrap (a - b) = a - b := ⟨⟨by omega, by omega⟩, w_i64 (by omega) (by omega)⟩
theorem c329 {p q : Pt} {t : Rt} (hp : p.ok = true) (hq : q.ok = true) (ht : In64 t) : Ans D 329 [PP p, PP q, R t] [.i64 (cmpP t p q)] := by
 have bp := Pt.bnd hp;have bq := Pt.bnd hq;obtain ⟨f1, f2⟩ := far_mid hp hq ht;obtain ⟨i1, i2⟩ := I64s bp.2.1 bq.2.1;obtain ⟨i3, i4⟩ := I64s bp.2.2 bq.2.2;have h1 := phi (c389 i1 ht.2 i3 ht.1 f1 f2);rw [show (p.a - q.a) * t.den + (p.b - q.b) * t.num = far t p q from rfl] at h1
 have a1 : ∀ a b c d : Int, RF.ev .agg [.i64 a, .i64 b, .i64 c, .i64 d] = some (.agg [.i64 a, .i64 b, .i64 c, .i64 d]) := fun _ _ _ _ => rfl;have a2 : ∀ v : Int, RF.ev (.shape 2) [.agg [hiL v, loL v]] = some (.agg [hiL v, loL v]) := fun _ => rfl;have a3 : ∀ v : Int, RF.ev (.cell 0) [.agg [hiL v, loL v]] = some (.i64 (v / 18446744073709551616)) := fun _ => rfl;have a4 : RF.ev .agg [.i64 0, .v (.int .u64 0)] = some (.agg [.i64 0, .v (.int .u64 0)]) := rfl;have a5 : ∀ v : Int, RF.ev (.eqv [.i, .i]) [.agg [hiL v, loL v], .agg [.i64 0, .v (.int .u64 0)]] = some (.bool (decide (v = 0))) := fun v => by
  have : RF.ev (.eqv [.i, .i]) [.agg [hiL v, loL v], .agg [.i64 0, .v (.int .u64 0)]] = some (.bool (decide (v / 18446744073709551616 = 0) && (decide (v % 18446744073709551616 = 0) && true))) := rfl;rw [this]
  congr 3
  rw [Bool.eq_iff_iff];simp only [Bool.and_true, Bool.and_eq_true, decide_eq_true_eq];omega
 have a6 : ∀ x y : Int, RF.ev (.bs 2 [KP.z] [0, 1]) [.i64 x, .i64 y] = some (.sl [[.i64 x], [.i64 y]]) := fun x y => rfl;have a7 : ∀ x y : Int, RF.ev .sub [.sl [[.i64 x], [.i64 y]], .v (.int .i64 0), .v (.int .i64 2)] = some (.sl [[.i64 x], [.i64 y]]) := fun x y => rfl;refine ans_of k329_ok s329 rfl ⟨1, ?_⟩;unfold k329;simp only [den_lt, shapeP, shapeR, cellP0, cellP1, cellP2, cellR0, cellR1, a1, a2, a3, a4, a5, a6, a7, EV, i2, i4, h1, Bool.not_eq_true', decide_eq_false_iff_not, decide_eq_true_eq, hi_neg, phi (c211 _ _), phi (c354 _ _), phi (orr _ _)];unfold cmpP;by_cases hz : far t p q = 0
 ·rw [if_neg (by simp [hz]), if_pos hz]
 ·rw [if_pos hz, if_neg hz];unfold sgn;by_cases hn : far t p q < 0
  ·rw [if_pos hn, if_pos hn]
  ·rw [if_neg hn, if_neg hn, if_pos (by omega)]
end Go.Proofs.YtfghdmmapmdcgaaGreat
