import Derived.Test.YthaokoopmhgfiaaSnpJ
set_option linter.unusedVariables false
set_option linter.unusedSimpArgs false
set_option linter.defProp false
noncomputable section
namespace Go.Proofs.Ythaokoopmhgfiaa
open Go.Sym Go.Abu Go.Pev
set_option maxRecDepth 100000
def zeroS : Snap := ⟨0, ⟨⟨0, 0⟩, []⟩⟩
def body (l : List Int) : List Int := (((l.drop 3).drop 4).drop 2).drop 1
def parse (l : List Int) (t x9 : Int) : Snap := ⟨t, ⟨⟨val ((l.drop 3).take 4) 0 - 1073741824, val (((l.drop 3).drop 4).take 2) 0⟩, ptsFrom (body l) 0 x9.toNat⟩⟩
def formed (l : List Int) (x0 x1 x9 : Int) : Bool := decide (x0 = 80) && decide (x1 = 75) && decide ((l.length : Int) = 10 + 8 * x9)
def readS (l : List Int) : Snap × Int :=
 if 522 < l.length then (zeroS, 4) else match l[0]?, l[1]?, l[2]?, l[9]? with
  | some x0, some x1, some t, some x9 => if formed l x0 x1 x9 = true then (if (parse l t x9).ok = true then (parse l t x9, 0) else (zeroS, 12)) else (zeroS, 12)
  | _, _, _, _ => (zeroS, 12)
theorem zero_agg : RF.ev .agg [.v (.int .u8 0), .v (.int .i64 0), .v (.int .i64 0), .sl []] = some (.agg zeroS.cells) := rfl
theorem tree_snap (s : Snap) : RF.ev .tree [.agg s.cells] = some (.agg s.cells) := rfl
theorem snap_agg (t n d : Int) (p : List Pt) : RF.ev .agg [.v (.int .u8 t), .v (.int .i64 n), .v (.int .i64 d), .sl (rows p)] = some (.agg (Snap.cells ⟨t, ⟨⟨n, d⟩, p⟩⟩)) := rfl
theorem parse_in {l : List Int} {t x9 : Int} (hb : Bytes l) (ht : 0 ≤ t ∧ t < 256) : (parse l t x9).in64 := by
 have v1 := val4 (hb.drop 3);have v2 := val2 ((hb.drop 3).drop 4);exact ⟨⟨by show 0 ≤ t; omega, by show t ≤ 255; omega⟩, ⟨by show -9223372036854775808 ≤ val ((l.drop 3).take 4) 0 - 1073741824; omega, by show val ((l.drop 3).take 4) 0 - 1073741824 ≤ 9223372036854775807; omega⟩,
  by show -9223372036854775808 ≤ val (((l.drop 3).drop 4).take 2) 0; omega, by show val (((l.drop 3).drop 4).take 2) 0 ≤ 9223372036854775807; omega⟩
theorem c13 {l : List Int} (hb : Bytes l) : Ans D 13 [.sl (B l)] [.agg (readS l).1.cells, .i64 (readS l).2] := by
 refine ans_of k13_ok s13 rfl ⟨66, ?_⟩;unfold k13;by_cases h1 : 522 < l.length
 ·have e : readS l = (zeroS, 4) := by unfold readS; rw [if_pos h1]
  rw [e];simp only [EV, B_len, decide_eq_true_eq, if_pos (show (522 : Int) < (l.length : Int) by omega), zero_agg, tree_snap]
 ·by_cases h2 : l.length < 10
  ·have e : readS l = (zeroS, 12) := by
    unfold readS;rw [if_neg h1, List.getElem?_eq_none (i := 9) (by omega)];split
    ·rename_i h; cases h
    ·rfl
   rw [e];simp only [EV, B_len, decide_eq_true_eq, if_neg (show ¬ (522 : Int) < (l.length : Int) by omega), if_pos (show (l.length : Int) < 10 by omega), zero_agg, tree_snap]
  ·obtain ⟨x0, h0⟩ : ∃ x, l[0]? = some x := ⟨l[0]'(by omega), List.getElem?_eq_getElem _⟩;obtain ⟨x1, g1⟩ : ∃ x, l[1]? = some x := ⟨l[1]'(by omega), List.getElem?_eq_getElem _⟩;obtain ⟨t, g2⟩ : ∃ x, l[2]? = some x := ⟨l[2]'(by omega), List.getElem?_eq_getElem _⟩;obtain ⟨x9, g9⟩ : ∃ x, l[9]? = some x := ⟨l[9]'(by omega), List.getElem?_eq_getElem _⟩;have e : readS l = if formed l x0 x1 x9 = true then (if (parse l t x9).ok = true then (parse l t x9, 0) else (zeroS, 12)) else (zeroS, 12) := by
    unfold readS;rw [if_neg h1, h0, g1, g2, g9]
   have b9 := hb x9 (List.mem_of_getElem? g9);have bt := hb t (List.mem_of_getElem? g2);have t0 : RF.ev (.tix 1) [.sl (B l), .v (.int .i64 0)] = some (.i64 0) := btix (i := 0) h0;have t1 : RF.ev (.tix 1) [.sl (B l), .v (.int .i64 1)] = some (.i64 1) := btix (i := 1) g1;have t2 : RF.ev (.tix 1) [.sl (B l), .v (.int .i64 2)] = some (.i64 2) := btix (i := 2) g2;have t9 : RF.ev (.tix 1) [.sl (B l), .v (.int .i64 9)] = some (.i64 9) := btix (i := 9) g9;have u0 : RF.ev (.elt 0 0) [.sl (B l), .v (.int .i64 0)] = some (.v (.int .u8 x0)) := belt (i := 0) h0;have u1 : RF.ev (.elt 0 0) [.sl (B l), .v (.int .i64 1)] = some (.v (.int .u8 x1)) := belt (i := 1) g1;have u2 : RF.ev (.elt 0 0) [.sl (B l), .v (.int .i64 2)] = some (.v (.int .u8 t)) := belt (i := 2) g2;have u9 : RF.ev (.elt 0 0) [.sl (B l), .v (.int .i64 9)] = some (.v (.int .u8 x9)) := belt (i := 9) g9;have w1 : IntKind.i64.wrap x9 = x9 := w_i64 (by omega) (by omega);have w2 : IntKind.i64.wrap (8 * x9) = 8 * x9 := w_i64 (by omega) (by omega);have w3 : IntKind.i64.wrap (10 + 8 * x9) = 10 + 8 * x9 := w_i64 (by omega) (by omega);rw [e];unfold formed;simp only [EV, B_len, decide_eq_true_eq, if_neg (show ¬ (522 : Int) < (l.length : Int) by omega), if_neg (show ¬ (l.length : Int) < 10 by omega), t0, u0, Bool.not_eq_true', decide_eq_false_iff_not]
   by_cases f0 : x0 = 80
   ·rw [if_neg (by simp [f0]), decide_eq_true f0, Bool.true_and];simp only [EV, t1, u1, Bool.not_eq_true', decide_eq_false_iff_not];by_cases f1 : x1 = 75
    ·rw [if_neg (by simp [f1]), decide_eq_true f1, Bool.true_and];simp only [EV, B_len, t9, u9, w1, w2, w3, Bool.not_eq_true', decide_eq_false_iff_not];by_cases f9 : (l.length : Int) = 10 + 8 * x9
     ·rw [if_neg (by simp [f9]), decide_eq_true f9];have s1 : RF.ev .bnd [.v (.int .i64 3), .v (.int .i64 (l.length : Int))] = some (.i64 3) := bnd_ok (a := 3) (by omega);have s2 : RF.ev (.tsub 1) [.sl (B l), .v (.int .i64 3), .v (.int .i64 (l.length : Int))] = some (.sl (B (l.drop 3))) := (btsub (a := 3) (by omega) (Nat.le_refl _)).trans (by rw [List.take_of_length_le (by simp)]);have c1 := n4 (l := l.drop 3) (by rw [List.length_drop]; omega) (hb.drop 3);have c2 := n2 (l := (l.drop 3).drop 4) (by rw [List.length_drop, List.length_drop]; omega) ((hb.drop 3).drop 4);have v1 := val4 (hb.drop 3);have w4 : IntKind.i64.wrap (val ((l.drop 3).take 4) 0 - 1073741824) = val ((l.drop 3).take 4) 0 - 1073741824 := w_i64 (by omega) (by omega);have s3 : RF.ev .bnd [.v (.int .i64 1), .v (.int .i64 ((((l.drop 3).drop 4).drop 2).length : Int))] = some (.i64 1) := bnd_ok (a := 1) (by simp only [List.length_drop]; omega);have s4 : RF.ev (.tsub 1) [.sl (B (((l.drop 3).drop 4).drop 2)), .v (.int .i64 1), .v (.int .i64 ((((l.drop 3).drop 4).drop 2).length : Int))] = some (.sl (B (body l))) := (btsub (a := 1) (by simp only [List.length_drop]; omega) (Nat.le_refl _)).trans (by rw [List.take_of_length_le (by simp only [List.length_drop]; omega)]; rfl);have hbl : (body l).length = 8 * x9.toNat := by unfold body; simp only [List.length_drop]; omega
      simp only [EV, B_len, t2, u2, s1, s2, s3, s4, c1, c2, w4, Int.reduceLT, decide_false, Bool.false_eq_true, if_false];refine (read_loop hbl (by omega) ((((hb.drop 3).drop 4).drop 2).drop 1) x9.toNat 66 0 [] (by omega) (by omega) (by simp; omega)).trans ?_;unfold k13_2;simp only [EV, List.nil_append];unfold k13_3;have hc := phi (c17 (parse_in (x9 := x9) hb bt));have ag := snap_agg t (val ((l.drop 3).take 4) 0 - 1073741824) (val (((l.drop 3).drop 4).take 2) 0) (ptsFrom (body l) 0 x9.toNat);simp only [EV, subAllP, ag];rw [show Snap.mk t ⟨⟨val ((l.drop 3).take 4) 0 - 1073741824, val (((l.drop 3).drop 4).take 2) 0⟩, ptsFrom (body l) 0 x9.toNat⟩ = parse l t x9 from rfl, hc]
      simp only [EV, tree_snap, zero_agg, Bool.not_eq_true', decide_eq_false_iff_not, if_true];cases (parse l t x9).ok with
      | true =>
       simp only [okE, if_true, not_true_eq_false, if_false];simp only [EV, subAllP, ag, tree_snap];rfl
      | false =>
       simp only [okE, Bool.false_eq_true, if_false, Int.reduceEq, not_false_eq_true, if_true, EV, zero_agg, tree_snap]
     ·rw [if_pos f9, decide_eq_false f9];simp only [EV, zero_agg, tree_snap, Bool.false_eq_true, if_false]
    ·rw [if_pos f1, decide_eq_false f1];simp only [EV, zero_agg, tree_snap, Bool.false_and, Bool.false_eq_true, if_false]
   ·rw [if_pos f0, decide_eq_false f0];simp only [EV, zero_agg, tree_snap, Bool.false_and, Bool.false_eq_true, if_false]
end Go.Proofs.Ythaokoopmhgfiaa
