import Derived.Test.YthaokoopmhgfiaaSnpY
set_option linter.unusedVariables false
set_option linter.unusedSimpArgs false
set_option linter.defProp false
noncomputable section
namespace Go.Proofs.Ythaokoopmhgfiaa
open Go.Sym Go.Abu Go.Pev
set_option maxRecDepth 100000
theorem okE_zero (b : Bool) : decide (okE b = 0) = b := by cases b <;> rfl
theorem back_end {N : Nat} {e0 e2 e4 e5 e6 e7 e8 e9 e10 e11 e12 e13 e14 e15 e16 e17 : PV} {b : List Int} (hb : Bytes b) (hl : b.length ≤ 522) : den (PhiS D) (VS D) N k5_4 [] [e0, .sl (B b), e2, .v (.bool true), e4, e5, e6, e7, e8, e9, e10, e11, e12, e13, e14, e15, e16, e17] = some [.v (.bool true)] := by
 unfold k5_4;have p0 : ∀ m : Snap, RF.ev (.shape 4) [.agg m.cells] = some (.agg m.cells) := fun _ => rfl;have l0 : ∀ m : Snap, m.cells.length = 4 := fun _ => rfl;have a3 := phi (c13 hb);rcases readS_code hl with h | h
 ·obtain ⟨h1, h2, h3⟩ := readS_ok hb h;rw [h] at a3;have a1 := phi (c8 h2);have a7 := phi (c17 h2);rw [h1] at a1 a7;simp only [if_true, okE, h3] at a1 a7;simp only [p0, EV, k5_2, a3, l0, eq_self, if_true, decide_true, Bool.not_true, Bool.false_eq_true, if_false, a1, a7, b2s_B, str_self, beq_self_eq_true]
 ·rw [h] at a3;simp only [p0, EV, k5_3, a3, l0, eq_self, if_true, Int.reduceEq, decide_false, decide_true, Bool.not_false]
theorem size_of {n : Nat} (h : n ≤ 64) : PhiS D 15 [.i64 (n : Int)] = some [.i64 (10 + 8 * (n : Int)), .i64 0] := by
 rw [phi (c15 (n : Int))];unfold sizeE;rw [if_pos (by omega)]
theorem snapBack {s : Snap} {b : List Int} (hs : s.in64) (hb : Bytes b) : Ans D 5 [.agg s.cells, .sl (B b)] [.v (.bool true)] := by
 refine ans_of k5_ok s5 rfl ⟨1, ?_⟩;unfold k5;have p0 : ∀ m : Snap, RF.ev (.shape 4) [.agg m.cells] = some (.agg m.cells) := fun _ => rfl;have p1 : ∀ m : Snap, RF.ev (.part 3 1) [.agg m.cells] = some (.agg [.sl (rows m.m.pts)]) := fun _ => rfl;have p2 : ∀ m : Snap, RF.ev (.cell 3) [.agg m.cells] = some (.sl (rows m.m.pts)) := fun _ => rfl;have l0 : ∀ m : Snap, m.cells.length = 4 := fun _ => rfl;simp only [p0, p1, EV, l0, eq_self, if_true, phi alive_ok, phi (c7 _)];cases hg : great s.m.pts with
 | true => rfl
 | false =>
  simp only [Bool.false_eq_true, if_false, B_len, decide_eq_true_eq];by_cases h6 : 522 < b.length
  ·rw [if_pos (by omega)]
  ·rw [if_neg (by omega)];have a1 := phi (c8 hs);have a7 := phi (c17 hs);have a8 := phi (c9 hs);cases hok : s.ok with
   | false =>
    rw [hok] at a1 a7 a8;simp only [Bool.false_eq_true, if_false, okE] at a1 a7 a8;simp only [EV, a1, a7, a8, Bool.not_true, Bool.false_eq_true, if_false, eq_self, decide_true, Int.reduceEq, decide_false, beq_self_eq_true];exact back_end hb (by omega)
   | true =>
    rw [hok] at a1 a7 a8;simp only [if_true, okE] at a1 a7 a8;obtain ⟨_, _, _, hl, _, _⟩ := Snap.ok_in hok;have hi := image_bytes hs;have a3 := phi (c13 hi);rw [read_image hok] at a3;have a9 := phi (c10 (s := s) (t := s) (by omega));rw [decide_eq_true rfl] at a9;have il := image_len s;have w1 : IntKind.i64.wrap (((imageB s).length : Int) - 1) = (((imageB s).length - 1 : Nat) : Int) := by rw [w_i64 (by omega) (by omega)]; omega
    have b1 : RF.ev .bnd [.v (.int .i64 (((imageB s).length - 1 : Nat) : Int)), .v (.int .i64 ((imageB s).length : Int))] = some (.i64 (((imageB s).length - 1 : Nat) : Int)) := bnd_ok (by omega);have b2 : RF.ev (.tsub 1) [.sl (B (imageB s)), .v (.int .i64 0), .v (.int .i64 (((imageB s).length - 1 : Nat) : Int))] = some (.sl (B ((imageB s).take ((imageB s).length - 1)))) := (btsub (a := 0) (Nat.zero_le _) (by omega)).trans (by rw [List.drop_zero, Nat.sub_zero]);have a4 := phi (c13 (hi.take ((imageB s).length - 1)));rw [read_short (by rw [List.length_take]; omega) (by rw [List.length_take]; omega)] at a4;have hj : Bytes (imageB s ++ [0]) := fun d hd => by
     rcases List.mem_append.1 hd with hd | hd
     ·exact hi d hd
     ·simp only [List.mem_singleton] at hd;subst hd;decide
    have a5 := phi (c13 hj);have b3 := app1 (l := imageB s) (k := [0]) (by rw [il]; simp; omega);have cp := copyB (l := imageB s) (by omega);simp only [p2, EV, a1, a7, a8, Bool.not_true, Bool.false_eq_true, if_false, eq_self, decide_true, if_true, beq_self_eq_true, rows_len, size_of hl, a3, l0, B_len, a9, w1, b1, b2, a4, cp, bs1, sub1, b3, sub_all, a5, Int.reduceEq];rw [show (10 + 8 * (s.m.pts.length : Int)) = ((imageB s).length : Int) by omega]
    simp only [decide_true, Bool.not_true, Bool.false_eq_true, if_false, decide_eq_true_eq];rw [if_neg (by omega)];by_cases hlong : 522 < (imageB s ++ [0]).length
    ·rw [read_long hlong] at a5 ⊢;have h522 : ((imageB s).length : Int) = 522 := by rw [List.length_append] at hlong; simp at hlong; omega
     simp only [Int.reduceEq, decide_false, Bool.not_false, if_true, decide_true, Bool.not_true, Bool.false_eq_true, if_false, k5_1, EV, h522];exact back_end hb (by omega)
    ·rw [read_short (l := imageB s ++ [0]) (by omega) (by rw [List.length_append]; simp; omega)];simp only [Int.reduceEq, decide_true, Bool.not_true, Bool.false_eq_true, if_false, k5_1, EV];exact back_end hb (by omega)
end Go.Proofs.Ythaokoopmhgfiaa
