import Derived.Test.YthaokoopmhgfiaaSnpO
set_option linter.unusedVariables false
set_option linter.unusedSimpArgs false
set_option linter.defProp false
noncomputable section
namespace Go.Proofs.Ythaokoopmhgfiaa
open Go.Sym Go.Abu Go.Pev
set_option maxRecDepth 100000
def ratOf (c : List Int) : Rat := ⟨val (c.take 4) 0 - 1073741824, val ((c.drop 4).take 2) 0⟩
theorem val_at {l : List Int} (at' w : Nat) (hl : at' + w ≤ l.length) (hw : w ≤ 5) (hb : Bytes l) (hlen : l.length ≤ 1000) : PhiS D 49 [.sl (B l), .i64 (at' : Int), .i64 (w : Int)] = some [.v (.int .u64 (val ((l.drop at').take w) 0))] := phi (c49 hl hw hb hlen)
theorem c42p {c : List Int} (hc : c.length = 8) (hb : Bytes c) : Ans D 42 [.sl (B (1 :: c))] [.agg (askP (ptOf c))] := by
 refine ans_of k42_ok s42 rfl ⟨1, ?_⟩;have hb1 : Bytes (1 :: c) := fun d hd => by
  rcases List.mem_cons.1 hd with rfl | hd
  ·decide
  ·exact hb d hd
 have t0 : RF.ev (.tix 1) [.sl (B (1 :: c)), .v (.int .i64 0)] = some (.i64 0) := btix (i := 0) rfl;have u0 : RF.ev (.elt 0 0) [.sl (B (1 :: c)), .v (.int .i64 0)] = some (.v (.int .u8 1)) := belt (i := 0) rfl;have g1 : PhiS D 49 [.sl (B (1 :: c)), .v (.int .i64 1), .v (.int .i64 2)] = some [.v (.int .u64 (val (c.take 2) 0))] := val_at (l := 1 :: c) 1 2 (by simp; omega) (by omega) hb1 (by simp; omega);have g2 : PhiS D 49 [.sl (B (1 :: c)), .v (.int .i64 3), .v (.int .i64 3)] = some [.v (.int .u64 (val ((c.drop 2).take 3) 0))] := val_at (l := 1 :: c) 3 3 (by simp; omega) (by omega) hb1 (by simp; omega);have g3 : PhiS D 49 [.sl (B (1 :: c)), .v (.int .i64 6), .v (.int .i64 3)] = some [.v (.int .u64 (val (((c.drop 2).drop 3).take 3) 0))] := (val_at (l := 1 :: c) 6 3 (by simp; omega) (by omega) hb1 (by simp; omega)).trans (by rw [List.drop_drop]; rfl);have v1 := val2 hb;have v2 := val3 (hb.drop 2);have v3 := val3 ((hb.drop 2).drop 3);have w1 : IntKind.i64.wrap (val (c.take 2) 0) = val (c.take 2) 0 := w_i64 (by omega) (by omega);have w2 : IntKind.i64.wrap (val ((c.drop 2).take 3) 0) = val ((c.drop 2).take 3) 0 := w_i64 (by omega) (by omega);have w3 : IntKind.i64.wrap (val (((c.drop 2).drop 3).take 3) 0) = val (((c.drop 2).drop 3).take 3) 0 := w_i64 (by omega) (by omega);have w4 : IntKind.i64.wrap (val ((c.drop 2).take 3) 0 - 1048576) = val ((c.drop 2).take 3) 0 - 1048576 := w_i64 (by omega) (by omega);have w5 : IntKind.i64.wrap (val (((c.drop 2).drop 3).take 3) 0 - 1048576) = val (((c.drop 2).drop 3).take 3) 0 - 1048576 := w_i64 (by omega) (by omega);have ag : ∀ a b d : Int, RF.ev .agg [.v (.int .u8 1), .v (.int .i64 a), .v (.int .i64 b), .v (.int .i64 d), .v (.int .i64 0), .v (.int .i64 0), .v (.int .i64 0)] = some (.agg (askP ⟨a, b, d⟩)) := fun _ _ _ => rfl;have fl : ∀ p : Pt, RF.ev .flat [.agg (askP p)] = some (.agg (askP p)) := fun _ => rfl;simp only [EV, k42, k42_4, k42_3, t0, u0, g1, g2, g3, w1, w2, w3, w4, w5, ag, fl, decide_true, if_true];rfl
theorem c42m {c : List Int} (hc : c.length = 6) (hb : Bytes c) : Ans D 42 [.sl (B (4 :: c))] [.agg (askM (ratOf c))] := by
 refine ans_of k42_ok s42 rfl ⟨1, ?_⟩;have hb1 : Bytes (4 :: c) := fun d hd => by
  rcases List.mem_cons.1 hd with rfl | hd
  ·decide
  ·exact hb d hd
 have t0 : RF.ev (.tix 1) [.sl (B (4 :: c)), .v (.int .i64 0)] = some (.i64 0) := btix (i := 0) rfl;have u0 : RF.ev (.elt 0 0) [.sl (B (4 :: c)), .v (.int .i64 0)] = some (.v (.int .u8 4)) := belt (i := 0) rfl;have g1 : PhiS D 49 [.sl (B (4 :: c)), .v (.int .i64 1), .v (.int .i64 4)] = some [.v (.int .u64 (val (c.take 4) 0))] := val_at (l := 4 :: c) 1 4 (by simp; omega) (by omega) hb1 (by simp; omega);have g2 : PhiS D 49 [.sl (B (4 :: c)), .v (.int .i64 5), .v (.int .i64 2)] = some [.v (.int .u64 (val ((c.drop 4).take 2) 0))] := val_at (l := 4 :: c) 5 2 (by simp; omega) (by omega) hb1 (by simp; omega);have v1 := val4 hb;have v2 := val2 (hb.drop 4);have w1 : IntKind.i64.wrap (val (c.take 4) 0) = val (c.take 4) 0 := w_i64 (by omega) (by omega);have w2 : IntKind.i64.wrap (val ((c.drop 4).take 2) 0) = val ((c.drop 4).take 2) 0 := w_i64 (by omega) (by omega);have w4 : IntKind.i64.wrap (val (c.take 4) 0 - 1073741824) = val (c.take 4) 0 - 1073741824 := w_i64 (by omega) (by omega);have ag : ∀ a b : Int, RF.ev .agg [.v (.int .u8 4), .v (.int .i64 0), .v (.int .i64 0), .v (.int .i64 0), .v (.int .i64 0), .v (.int .i64 a), .v (.int .i64 b)] = some (.agg (askM ⟨a, b⟩)) := fun _ _ => rfl;have fl : ∀ p : Rat, RF.ev .flat [.agg (askM p)] = some (.agg (askM p)) := fun _ => rfl;simp only [EV, k42, k42_4, k42_3, k42_2, k42_1, t0, u0, g1, g2, w1, w2, w4, ag, fl, decide_true, Int.reduceEq, decide_false, Bool.false_eq_true, if_false, if_true];rfl
theorem eqv7 {a b c d e f g : Int} : RF.ev (.eqv [.i, .i, .i, .i, .i, .i, .i]) [.agg [.v (.int .u8 a), .v (.int .i64 b), .v (.int .i64 c), .v (.int .i64 d), .v (.int .i64 e), .v (.int .i64 f), .v (.int .i64 g)],
  .agg [.v (.int .u8 a), .v (.int .i64 b), .v (.int .i64 c), .v (.int .i64 d), .v (.int .i64 e), .v (.int .i64 f), .v (.int .i64 g)]] = some (.v (.bool true)) := by
 have : RF.ev (.eqv [.i, .i, .i, .i, .i, .i, .i]) [.agg [.v (.int .u8 a), .v (.int .i64 b), .v (.int .i64 c), .v (.int .i64 d), .v (.int .i64 e), .v (.int .i64 f), .v (.int .i64 g)],
  .agg [.v (.int .u8 a), .v (.int .i64 b), .v (.int .i64 c), .v (.int .i64 d), .v (.int .i64 e), .v (.int .i64 f), .v (.int .i64 g)]] =
  some (.v (.bool (decide (a = a) && (decide (b = b) && (decide (c = c) && (decide (d = d) && (decide (e = e) && (decide (f = f) && (decide (g = g) && true))))))))) := rfl
 rw [this];simp
theorem c43p (p : Pt) : Ans D 43 [.agg (askP p)] [.i64 (okE p.ok)] := by
 refine ans_of k43_ok s43 rfl ⟨1, ?_⟩;have p0 : RF.ev (.shape 7) [.agg (askP p)] = some (.agg (askP p)) := rfl;have p1 : RF.ev (.cell 0) [.agg (askP p)] = some (.v (.int .u8 1)) := rfl;have p2 : RF.ev (.part 1 3) [.agg (askP p)] = some (.agg p.row) := rfl;have q0 : RF.ev (.cell 0) [.agg p.row] = some (.i64 p.id) := rfl;have q1 : RF.ev (.cell 1) [.agg p.row] = some (.i64 p.a) := rfl;have q2 : RF.ev (.cell 2) [.agg p.row] = some (.i64 p.b) := rfl;have ag : RF.ev .agg [.v (.int .u8 1), .v (.int .i64 p.id), .v (.int .i64 p.a), .v (.int .i64 p.b), .v (.int .i64 0), .v (.int .i64 0), .v (.int .i64 0)] = some (.agg (askP p)) := rfl;have eq : RF.ev (.eqv [.i, .i, .i, .i, .i, .i, .i]) [.agg (askP p), .agg (askP p)] = some (.v (.bool true)) := eqv7;cases hok : p.ok with
 | true =>
  have c := phi (c40 p);rw [hok] at c;simp only [okE, if_true] at c;simp only [EV, k43, k43_5, k43_4, p0, p1, p2, q0, q1, q2, ag, eq, c, decide_true, Bool.not_true, Bool.false_eq_true, if_false, if_true];rfl
 | false =>
  have c := phi (c40 p);rw [hok] at c;simp only [okE, Bool.false_eq_true, if_false] at c;simp only [EV, k43, k43_5, k43_4, p0, p1, p2, c, decide_true, Int.reduceEq, decide_false, Bool.not_false, if_true];rfl
theorem c43m {r : Rat} (h : r.in64) : Ans D 43 [.agg (askM r)] [.i64 (okE (decide (r.asked = 0)))] := by
 refine ans_of k43_ok s43 rfl ⟨1, ?_⟩;have p0 : RF.ev (.shape 7) [.agg (askM r)] = some (.agg (askM r)) := rfl;have p1 : RF.ev (.cell 0) [.agg (askM r)] = some (.v (.int .u8 4)) := rfl;have p2 : RF.ev (.part 5 2) [.agg (askM r)] = some (R r) := rfl;have q0 : RF.ev (.cell 0) [R r] = some (.i64 r.num) := rfl;have q1 : RF.ev (.cell 1) [R r] = some (.i64 r.den) := rfl;have ag : RF.ev .agg [.v (.int .u8 4), .v (.int .i64 0), .v (.int .i64 0), .v (.int .i64 0), .v (.int .i64 0), .v (.int .i64 r.num), .v (.int .i64 r.den)] = some (.agg (askM r)) := rfl;have eq : RF.ev (.eqv [.i, .i, .i, .i, .i, .i, .i]) [.agg (askM r), .agg (askM r)] = some (.v (.bool true)) := eqv7;have c1 := phi (c39 h);have c2 := phi (c29 h);cases hok : r.ok with
 | false =>
  have e : r.asked = 8 := by unfold Rat.asked; rw [hok]; rfl
  rw [hok] at c1;simp only [okE, Bool.false_eq_true, if_false] at c1;simp only [EV, k43, k43_5, k43_4, k43_3, p0, p1, p2, c1, e, decide_true, Int.reduceEq, decide_false, Bool.not_false, Bool.false_eq_true, if_false, if_true];rfl
 | true =>
  rw [hok] at c1;simp only [okE, if_true] at c1;by_cases ha : r.asked = 0
  ·rw [ha] at c2 ⊢;simp only [EV, k43, k43_5, k43_4, k43_3, k43_2, p0, p1, p2, q0, q1, ag, eq, c1, c2, decide_true, Int.reduceEq, decide_false, Bool.not_true, Bool.false_eq_true, if_false, if_true];rfl
  ·simp only [EV, k43, k43_5, k43_4, k43_3, p0, p1, p2, c1, c2, decide_true, Int.reduceEq, decide_false, decide_eq_false ha, Bool.not_true, Bool.not_false, Bool.false_eq_true, if_false, if_true];rfl
def askZ : List PV := [.v (.int .u8 0), .i64 0, .i64 0, .i64 0, .i64 0, .i64 0, .i64 0]
theorem zero_ask : RF.ev .agg [.v (.int .u8 0), .v (.int .i64 0), .v (.int .i64 0), .v (.int .i64 0), .v (.int .i64 0), .v (.int .i64 0), .v (.int .i64 0)] = some (.agg askZ) := rfl
theorem flat_ask : RF.ev .flat [.agg askZ] = some (.agg askZ) := rfl
theorem flat_askP (p : Pt) : RF.ev .flat [.agg (askP p)] = some (.agg (askP p)) := rfl
theorem flat_askM (r : Rat) : RF.ev .flat [.agg (askM r)] = some (.agg (askM r)) := rfl
theorem shape_askP (p : Pt) : RF.ev (.shape 7) [.agg (askP p)] = some (.agg (askP p)) := rfl
theorem shape_askM (r : Rat) : RF.ev (.shape 7) [.agg (askM r)] = some (.agg (askM r)) := rfl
theorem shape_askZ : RF.ev (.shape 7) [.agg askZ] = some (.agg askZ) := rfl
theorem lenP (p : Pt) : (askP p).length = 7 := rfl
theorem lenM (p : Rat) : (askM p).length = 7 := rfl
theorem lenZ : askZ.length = 7 := rfl
theorem c35p {c : List Int} (hc : c.length = 8) (hb : Bytes c) : Ans D 35 [.sl (B (1 :: c))] (if (ptOf c).ok then [.agg (askP (ptOf c)), .i64 9] else [.agg askZ, .i64 0]) := by
 refine ans_of k35_ok s35 rfl ⟨1, ?_⟩;have c1 := phi (c42p hc hb);have c2 := phi (c43p (ptOf c));have l9 : (((1 : Int) :: c).length : Int) = 9 := by rw [List.length_cons, hc]; rfl
 unfold k35;cases hok : (ptOf c).ok with
 | true =>
  rw [hok] at c2;simp only [okE, if_true] at c2;have l9' : (((1 : Int) :: ptB (ptOf c)).length : Int) = 9 := by rw [List.length_cons, ptB_len]; rfl
  simp only [EV, lenP, lenM, lenZ, eq_self, B_len, l9, l9', c1, c2, phi (c33p hok), shape_askP, flat_askP, Int.reduceEq, Int.reduceLT, decide_false, decide_true, Bool.not_true, Bool.false_eq_true, if_false, if_true]
 | false =>
  rw [hok] at c2;simp only [okE, Bool.false_eq_true, if_false] at c2;simp only [EV, lenP, lenM, lenZ, eq_self, B_len, l9, c1, c2, shape_askP, zero_ask, flat_ask, Int.reduceEq, decide_false, Bool.not_false, Bool.false_eq_true, if_false, if_true]
theorem ratOf_in {c : List Int} (hb : Bytes c) : (ratOf c).in64 := by
 have v1 := val4 hb;have v2 := val2 (hb.drop 4);exact ⟨⟨by show -9223372036854775808 ≤ val (c.take 4) 0 - 1073741824; omega, by show val (c.take 4) 0 - 1073741824 ≤ 9223372036854775807; omega⟩, by show -9223372036854775808 ≤ val ((c.drop 4).take 2) 0; omega, by show val ((c.drop 4).take 2) 0 ≤ 9223372036854775807; omega⟩
theorem asked_good {r : Rat} (h : r.asked = 0) : r.good := by
 unfold Rat.asked at h;cases hk : r.ok <;> rw [hk] at h
 ·simp at h
 ·cases hq : r.small <;> rw [hq] at h
  ·simp at h
  ·have := Rat.ok_den hk;unfold Rat.small at hq;simp only [Bool.and_eq_true, decide_eq_true_eq] at hq;exact ⟨by omega, by omega⟩
theorem c35m {c : List Int} (hc : c.length = 6) (hb : Bytes c) : Ans D 35 [.sl (B (4 :: c))] (if (ratOf c).asked = 0 then [.agg (askM (ratOf c)), .i64 7] else [.agg askZ, .i64 0]) := by
 refine ans_of k35_ok s35 rfl ⟨1, ?_⟩;have c1 := phi (c42m hc hb);have c2 := phi (c43m (ratOf_in hb));have l7 : (((4 : Int) :: c).length : Int) = 7 := by rw [List.length_cons, hc]; rfl
 unfold k35;by_cases ha : (ratOf c).asked = 0
 ·rw [decide_eq_true ha] at c2;simp only [okE, if_true] at c2;have l7' : (((4 : Int) :: movB (ratOf c)).length : Int) = 7 := by rw [List.length_cons, movB_len]; rfl
  simp only [EV, lenP, lenM, lenZ, eq_self, B_len, l7, l7', c1, c2, phi (c33m (asked_good ha)), shape_askM, flat_askM, Int.reduceEq, Int.reduceLT, decide_false, decide_true, Bool.not_true, Bool.false_eq_true, if_false, if_true];rw [if_pos ha]
 ·rw [decide_eq_false ha] at c2;simp only [okE, Bool.false_eq_true, if_false] at c2;simp only [EV, lenP, lenM, lenZ, eq_self, B_len, l7, c1, c2, shape_askM, zero_ask, flat_ask, Int.reduceEq, decide_false, Bool.not_false, Bool.false_eq_true, if_false, if_true];rw [if_neg ha]
theorem c27p {c : List Int} (hc : c.length = 8) (hb : Bytes c) : Ans D 27 [.sl (B (1 :: c))] (if (ptOf c).ok then [.agg (askP (ptOf c)), .i64 9, .i64 0] else [.agg askZ, .i64 0, .i64 12]) := by
 refine ans_of k27_ok s27 rfl ⟨1, ?_⟩;have c1 := phi (c35p hc hb);have l9 : (((1 : Int) :: c).length : Int) = 9 := by rw [List.length_cons, hc]; rfl
 unfold k27;cases hok : (ptOf c).ok with
 | true =>
  rw [hok] at c1;simp only [if_true] at c1;simp only [EV, lenP, lenM, lenZ, eq_self, B_len, l9, c1, shape_askP, flat_askP, Int.reduceEq, Int.reduceLT, decide_false, Bool.false_eq_true, if_false, if_true]
 | false =>
  rw [hok] at c1;simp only [Bool.false_eq_true, if_false] at c1;simp only [EV, lenP, lenM, lenZ, eq_self, B_len, l9, c1, shape_askZ, zero_ask, flat_ask, Int.reduceEq, Int.reduceLT, decide_false, decide_true, Bool.false_eq_true, if_false, if_true]
theorem c27m {c : List Int} (hc : c.length = 6) (hb : Bytes c) : Ans D 27 [.sl (B (4 :: c))] (if (ratOf c).asked = 0 then [.agg (askM (ratOf c)), .i64 7, .i64 0] else [.agg askZ, .i64 0, .i64 12]) := by
 refine ans_of k27_ok s27 rfl ⟨1, ?_⟩;have c1 := phi (c35m hc hb);have l7 : (((4 : Int) :: c).length : Int) = 7 := by rw [List.length_cons, hc]; rfl
 unfold k27;by_cases ha : (ratOf c).asked = 0
 ·rw [if_pos ha] at c1;simp only [EV, lenP, lenM, lenZ, eq_self, B_len, l7, c1, shape_askM, flat_askM, Int.reduceEq, Int.reduceLT, decide_false, Bool.false_eq_true, if_false, if_true];rw [if_pos ha]
 ·rw [if_neg ha] at c1;simp only [EV, lenP, lenM, lenZ, eq_self, B_len, l7, c1, shape_askZ, zero_ask, flat_ask, Int.reduceEq, Int.reduceLT, decide_false, decide_true, Bool.false_eq_true, if_false, if_true];rw [if_neg ha]
end Go.Proofs.Ythaokoopmhgfiaa
