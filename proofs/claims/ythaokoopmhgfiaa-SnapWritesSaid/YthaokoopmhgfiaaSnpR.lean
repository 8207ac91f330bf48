import Derived.Test.YthaokoopmhgfiaaSnpQ
set_option linter.unusedVariables false
set_option linter.unusedSimpArgs false
set_option linter.defProp false
noncomputable section
namespace Go.Proofs.Ythaokoopmhgfiaa
open Go.Sym Go.Abu Go.Pev
set_option maxRecDepth 100000
theorem body_eq (l : List Int) : body l = l.drop 10 := by unfold body; simp only [List.drop_drop]
theorem agg_pt (p : Pt) : RF.ev (.part 1 3) [.agg (askP p)] = some (.agg p.row) := rfl
theorem bs_pt (p : Pt) : RF.ev (.bs 1 [(.v (.int .i64 0)), (.v (.int .i64 0)), (.v (.int .i64 0))] [0]) [.agg p.row] = some (.sl (rows [p])) := rfl
theorem rread_loop {V : FuncId → Bool} {N : Nat} {f : JT} {e1 e2 e3 e4 e5 e6 e7 e8 e9 e10 e11 e12 e13 e14 e15 e16 e17 e18 e19 e20 e21 e22 e23 e24 e25 e26 e27 e28 e29 e30 e31 e32 e33 : PV} {l : List Int} {k : Nat} (hl : l.length = 10 + 8 * k) (hk : k ≤ 64) (hb : Bytes l) (m : Nat) : ∀ (n i : Nat) (acc : List Pt), i + m = k → m < n → acc.length + m ≤ 100 →
  denW (PhiS D) V N k14_1 [f] [.sl (B l), e1, e2, e3, e4, e5, e6, e7, e8, e9, e10, e11, e12, e13, e14, e15, e16, e17, e18, e19, e20, e21, e22, e23, e24, e25, e26, e27, e28, e29, e30, e31, e32, e33] n [.sl (rows acc), .i64 (acc.length : Int), .i64 ((10 + 8 * i : Nat) : Int)] =
   if goodAll (ptsFrom (body l) i m) = true then f [.sl (rows (acc ++ ptsFrom (body l) i m)), .i64 ((acc ++ ptsFrom (body l) i m).length : Int)] else some [.agg zeroS.cells, .i64 12] := by
 induction m with
 | zero =>
  intro n i acc h hn ha;obtain ⟨n, rfl⟩ : ∃ n', n = n' + 1 := ⟨n - 1, by omega⟩;rw [denW_succ];unfold k14_1;simp only [EV, B_len, decide_eq_true_eq];rw [if_neg (by omega)];simp only [ptsFrom, List.append_nil];rfl
 | succ m ih =>
  intro n i acc h hn ha;obtain ⟨n, rfl⟩ : ∃ n', n = n' + 1 := ⟨n - 1, by omega⟩;have ec : ((body l).drop (8 * i)).take 8 = (l.drop (10 + 8 * i)).take 8 := by rw [body_eq, List.drop_drop]
  have hc : Bytes (((body l).drop (8 * i)).take 8) := by rw [ec]; exact (hb.drop _).take _
  have hcl : (((body l).drop (8 * i)).take 8).length = 8 := by rw [ec, List.length_take, List.length_drop]; omega
  have ih := ih n (i + 1) (acc ++ [ptOf (((body l).drop (8 * i)).take 8)]) (by omega) (by omega) (by simp; omega);rw [denW_succ];generalize hkk : k14_1 = kk at ih;subst hkk;unfold k14_1;have w1 : IntKind.i64.wrap (((10 + 8 * i : Nat) : Int) + 8) = ((10 + 8 * (i + 1) : Nat) : Int) := by rw [w_i64 (by omega) (by omega)]; omega
  have b1 : RF.ev .bnd [.v (.int .i64 ((10 + 8 * (i + 1) : Nat) : Int)), .v (.int .i64 (l.length : Int))] = some (.i64 ((10 + 8 * (i + 1) : Nat) : Int)) := bnd_ok (by omega);have b2 : RF.ev .bnd [.v (.int .i64 ((10 + 8 * i : Nat) : Int)), .v (.int .i64 ((10 + 8 * (i + 1) : Nat) : Int))] = some (.i64 ((10 + 8 * i : Nat) : Int)) := bnd_ok (by omega);have b3 : RF.ev (.tsub 1) [.sl (B l), .v (.int .i64 ((10 + 8 * i : Nat) : Int)), .v (.int .i64 ((10 + 8 * (i + 1) : Nat) : Int))] = some (.sl (B (((body l).drop (8 * i)).take 8))) :=
   (btsub (by omega) (by omega)).trans (by rw [ec, show 10 + 8 * (i + 1) - (10 + 8 * i) = 8 by omega])
  have a1 := app_one (k := ((body l).drop (8 * i)).take 8) (by omega) 1;have c1 := phi (c27p hcl hc);have q3 := appP (l := acc) (k := [ptOf (((body l).drop (8 * i)).take 8)]) (by simp; omega);have hgood : goodAll (ptsFrom (body l) i (m + 1)) = ((ptOf (((body l).drop (8 * i)).take 8)).ok && goodAll (ptsFrom (body l) (i + 1) m)) := rfl;have hpts : acc ++ ptsFrom (body l) i (m + 1) = (acc ++ [ptOf (((body l).drop (8 * i)).take 8)]) ++ ptsFrom (body l) (i + 1) m := by simp [ptsFrom]
  rw [hgood, hpts];cases hok : (ptOf (((body l).drop (8 * i)).take 8)).ok with
  | false =>
   rw [hok] at c1;simp only [Bool.false_eq_true, if_false] at c1;simp only [EV, B_len, decide_eq_true_eq, if_pos (show ((10 + 8 * i : Nat) : Int) < (l.length : Int) by omega), bs1, w1, b1, b2, b3, a1, sub_all, c1, lenZ, eq_self, if_true, zero_agg, tree_snap, Int.reduceEq, decide_false, Bool.not_false, Bool.false_and, Bool.false_eq_true, if_false]
  | true =>
   rw [hok] at c1;simp only [if_true] at c1;simp only [EV, B_len, decide_eq_true_eq, if_pos (show ((10 + 8 * i : Nat) : Int) < (l.length : Int) by omega), bs1, w1, b1, b2, b3, a1, sub_all, c1, lenP, eq_self, if_true, agg_pt, bs_pt, subP, q3, rows_len, decide_true, Bool.not_true, Bool.true_and, Bool.false_eq_true, if_false]
   exact ih
theorem ptsFrom_len (l : List Int) : ∀ (m i : Nat), (ptsFrom l i m).length = m
 | 0, _ => rfl
 | m + 1, i => by simp [ptsFrom, ptsFrom_len l m]
theorem now_eq {l : List Int} (t x9 : Int) : ratOf ((l.drop 3).take 6) = (parse l t x9).m.now := by
 unfold ratOf parse;rw [List.take_take, List.drop_take, List.take_take];rfl
theorem parse_bad {l : List Int} {t x9 : Int} (h : (parse l t x9).m.now.asked ≠ 0) : (parse l t x9).ok = false := by
 unfold Snap.ok Mod.ok;rw [decide_eq_false h, Bool.false_and, Bool.and_false]
theorem parse_bad2 {l : List Int} {t x9 : Int} (h : goodAll (ptsFrom (body l) 0 x9.toNat) = false) : (parse l t x9).ok = false := by
 unfold Snap.ok Mod.ok;have : fieldE (parse l t x9).m.pts ≠ 0 := by
  unfold fieldE;show (if 64 < (ptsFrom (body l) 0 x9.toNat).length then (4 : Int) else if goodAll (ptsFrom (body l) 0 x9.toNat) = true then _ else 8) ≠ 0
  rw [h];split <;> simp
 rw [decide_eq_false this, Bool.and_false, Bool.and_false]
theorem c14 {l : List Int} (hb : Bytes l) : Ans D 14 [.sl (B l)] [.agg (readS l).1.cells, .i64 (readS l).2] := by
 refine ans_of k14_ok s14 rfl ⟨66, ?_⟩;unfold k14;by_cases h1 : 522 < l.length
 ·have e : readS l = (zeroS, 4) := by unfold readS; rw [if_pos h1]
  rw [e];simp only [EV, B_len, decide_eq_true_eq, if_pos (show (522 : Int) < (l.length : Int) by omega), zero_agg, tree_snap]
 ·by_cases h2 : l.length < 10
  ·have e : readS l = (zeroS, 12) := by
    unfold readS;rw [if_neg h1, List.getElem?_eq_none (i := 9) (by omega)];split
    ·rename_i h; cases h
    ·rfl
   rw [e];simp only [EV, B_len, decide_eq_true_eq, if_neg (show ¬ (522 : Int) < (l.length : Int) by omega), if_pos (show (l.length : Int) < 10 by omega), zero_agg, tree_snap]
  ·obtain ⟨x0, h0⟩ : ∃ x, l[0]? = some x := ⟨l[0]'(by omega), List.getElem?_eq_getElem _⟩;obtain ⟨x1, g1⟩ : ∃ x, l[1]? = some x := ⟨l[1]'(by omega), List.getElem?_eq_getElem _⟩;obtain ⟨t, g2⟩ : ∃ x, l[2]? = some x := ⟨l[2]'(by omega), List.getElem?_eq_getElem _⟩;obtain ⟨x9, g9⟩ : ∃ x, l[9]? = some x := ⟨l[9]'(by omega), List.getElem?_eq_getElem _⟩;have e : readS l = if formed l x0 x1 x9 = true then (if (parse l t x9).ok = true then (parse l t x9, 0) else (zeroS, 12)) else (zeroS, 12) := by
    unfold readS;rw [if_neg h1, h0, g1, g2, g9]
   have b9 := hb x9 (List.mem_of_getElem? g9);have bt := hb t (List.mem_of_getElem? g2);have t0 : RF.ev (.tix 1) [.sl (B l), .v (.int .i64 0)] = some (.i64 0) := btix (i := 0) h0;have t1 : RF.ev (.tix 1) [.sl (B l), .v (.int .i64 1)] = some (.i64 1) := btix (i := 1) g1;have t2 : RF.ev (.tix 1) [.sl (B l), .v (.int .i64 2)] = some (.i64 2) := btix (i := 2) g2;have t9 : RF.ev (.tix 1) [.sl (B l), .v (.int .i64 9)] = some (.i64 9) := btix (i := 9) g9;have u0 : RF.ev (.elt 0 0) [.sl (B l), .v (.int .i64 0)] = some (.v (.int .u8 x0)) := belt (i := 0) h0;have u1 : RF.ev (.elt 0 0) [.sl (B l), .v (.int .i64 1)] = some (.v (.int .u8 x1)) := belt (i := 1) g1;have u2 : RF.ev (.elt 0 0) [.sl (B l), .v (.int .i64 2)] = some (.v (.int .u8 t)) := belt (i := 2) g2;have u9 : RF.ev (.elt 0 0) [.sl (B l), .v (.int .i64 9)] = some (.v (.int .u8 x9)) := belt (i := 9) g9;have w1 : IntKind.i64.wrap x9 = x9 := w_i64 (by omega) (by omega);have w2 : IntKind.i64.wrap (8 * x9) = 8 * x9 := w_i64 (by omega) (by omega);have w3 : IntKind.i64.wrap (10 + 8 * x9) = 10 + 8 * x9 := w_i64 (by omega) (by omega);rw [e];unfold formed;simp only [EV, B_len, decide_eq_true_eq, if_neg (show ¬ (522 : Int) < (l.length : Int) by omega), if_neg (show ¬ (l.length : Int) < 10 by omega), t0, u0, Bool.not_eq_true', decide_eq_false_iff_not]
   by_cases f0 : x0 = 80
   ·rw [if_neg (by simp [f0]), decide_eq_true f0, Bool.true_and];simp only [EV, t1, u1, Bool.not_eq_true', decide_eq_false_iff_not];by_cases f1 : x1 = 75
    ·rw [if_neg (by simp [f1]), decide_eq_true f1, Bool.true_and];simp only [EV, B_len, t9, u9, w1, w2, w3, Bool.not_eq_true', decide_eq_false_iff_not];by_cases f9 : (l.length : Int) = 10 + 8 * x9
     ·rw [if_neg (by simp [f9]), decide_eq_true f9];have s1 : RF.ev .bnd [.v (.int .i64 9), .v (.int .i64 (l.length : Int))] = some (.i64 9) := bnd_ok (a := 9) (by omega);have s2 : RF.ev .bnd [.v (.int .i64 3), .v (.int .i64 9)] = some (.i64 3) := rfl;have s3 : RF.ev (.tsub 1) [.sl (B l), .v (.int .i64 3), .v (.int .i64 9)] = some (.sl (B ((l.drop 3).take 6))) := btsub (a := 3) (b := 9) (by omega) (by omega);have hcl : ((l.drop 3).take 6).length = 6 := by rw [List.length_take, List.length_drop]; omega
      have a1 := app_one (k := (l.drop 3).take 6) (by omega) 4;have c1 := phi (c27m hcl ((hb.drop 3).take 6));rw [now_eq t x9] at c1;by_cases ha : (parse l t x9).m.now.asked = 0
      ·rw [if_pos ha] at c1;have p5 : RF.ev (.part 5 2) [.agg (askM (parse l t x9).m.now)] = some (R (parse l t x9).m.now) := rfl;have hll : l.length = 10 + 8 * x9.toNat := by omega
       simp only [EV, B_len, s1, s2, s3, bs1, a1, sub_all, c1, lenM, eq_self, if_true, decide_true, Bool.not_true, Bool.false_eq_true, if_false, t2, u2, p5];refine (rread_loop hll (by omega) hb x9.toNat 66 0 [] (by omega) (by omega) (by simp; omega)).trans ?_;cases hg : goodAll (ptsFrom (body l) 0 x9.toNat) with
       | false =>
        rw [parse_bad2 hg];rfl
       | true =>
        simp only [if_true, List.nil_append];unfold k14_2;have hc := phi (c9 (parse_in (x9 := x9) hb bt));have p0 : RF.ev (.part 0 2) [R (parse l t x9).m.now] = some (R (parse l t x9).m.now) := rfl;have ag : RF.ev .agg [.v (.int .u8 t), R (parse l t x9).m.now, .sl (rows (ptsFrom (body l) 0 x9.toNat))] = some (.agg (parse l t x9).cells) := rfl;simp only [p0, EV, subAllP, ag, hc, Bool.not_eq_true', decide_eq_false_iff_not];cases (parse l t x9).ok with
        | true =>
         simp only [okE, if_true, not_true_eq_false, if_false];simp only [p0, EV, subAllP, ag, tree_snap]
        | false =>
         simp only [okE, Bool.false_eq_true, if_false, Int.reduceEq, not_false_eq_true, if_true, EV, zero_agg, tree_snap]
      ·rw [if_neg ha] at c1;rw [parse_bad ha];simp only [EV, B_len, s1, s2, s3, bs1, a1, sub_all, c1, lenZ, eq_self, if_true, Int.reduceEq, decide_false, Bool.not_false, Bool.false_eq_true, if_false, zero_agg, tree_snap]
     ·rw [if_pos f9, decide_eq_false f9];simp only [EV, zero_agg, tree_snap, Bool.false_eq_true, if_false]
    ·rw [if_pos f1, decide_eq_false f1];simp only [EV, zero_agg, tree_snap, Bool.false_and, Bool.false_eq_true, if_false]
   ·rw [if_pos f0, decide_eq_false f0];simp only [EV, zero_agg, tree_snap, Bool.false_and, Bool.false_eq_true, if_false]
end Go.Proofs.Ythaokoopmhgfiaa
