import Derived.Test.YthaokoopmhgfiaaSnpR
set_option linter.unusedVariables false
set_option linter.unusedSimpArgs false
set_option linter.defProp false
noncomputable section
namespace Go.Proofs.Ythaokoopmhgfiaa
open Go.Sym Go.Abu Go.Pev
set_option maxRecDepth 100000
theorem readS_len {l : List Int} (hb : Bytes l) : (readS l).1.m.pts.length ≤ 1000 := by
 unfold readS;split
 ·exact Nat.zero_le _
 ·split
  ·rename_i x0 x1 t x9 _ _ _ g9;have b9 := hb x9 (List.mem_of_getElem? g9);split
   ·split
    ·show (ptsFrom (body l) 0 x9.toNat).length ≤ 1000
     rw [ptsFrom_len];omega
    ·exact Nat.zero_le _
   ·exact Nat.zero_le _
  ·exact Nat.zero_le _
theorem b2s_nil : RF.ev .b2s [.sl []] = some (.v (.string (str []))) := b2s_B []
theorem str_self (b : ByteArray) : strB .eql b b = some (.v (.bool true)) := by rw [s_eql, beq_self_eq_true]
theorem copyB {l : List Int} (h : l.length ≤ 1000) : RF.ev (.app 1 1) [.sl [], .v (.int .i64 0), .sl (B l)] = some (.sl (B l)) := (app1 (l := []) (k := l) (by simp; omega)).trans (by simp)
theorem snapWrites {s : Snap} {b : List Int} {n : Int} (hs : s.in64) (hb : Bytes b) : Ans D 4 [.agg s.cells, .sl (B b), .i64 n] [.v (.bool true)] := by
 refine ans_of k4_ok s4 rfl ⟨1, ?_⟩;unfold k4;have p0 : ∀ m : Snap, RF.ev (.shape 4) [.agg m.cells] = some (.agg m.cells) := fun _ => rfl;have p1 : ∀ m : Snap, RF.ev (.part 3 1) [.agg m.cells] = some (.agg [.sl (rows m.m.pts)]) := fun _ => rfl;have l0 : ∀ m : Snap, m.cells.length = 4 := fun _ => rfl;simp only [p0, p1, EV, l0, eq_self, if_true, phi (c7 _)];cases hg : great s.m.pts with
 | true => rfl
 | false =>
  simp only [Bool.false_eq_true, if_false, B_len, decide_eq_true_eq];by_cases h6 : 600 < b.length
  ·rw [if_pos (by omega)]
  ·rw [if_neg (by omega)];have hl : s.m.pts.length ≤ 1000 := by
    unfold great at hg;simp only [Bool.or_eq_false_iff, decide_eq_false_iff_not] at hg;omega
   have a1 := phi (c8 hs);have a2 := phi (c12 hs);have a3 := phi (c13 hb);have a4 := phi (c14 hb);have a5 := phi (c15 n);have a6 := phi (c16 n);have a7 := phi (c17 hs);have a8 := phi (c9 hs);have a9 := phi (c10 (s := (readS b).1) (t := (readS b).1) (readS_len hb));have a10 := phi (c10 (s := s) (t := s) hl);rw [decide_eq_true rfl] at a9 a10;have hsz : ∃ x y : Int, sizeE n = [.i64 x, .i64 y] := by
    unfold sizeE;split
    ·exact ⟨_, _, rfl⟩
    ·exact ⟨_, _, rfl⟩
   obtain ⟨x, y, hxy⟩ := hsz;rw [hxy] at a5 a6;simp only [EV, phi (c11 hl), copyB (show b.length ≤ 1000 by omega), B_len, l0, eq_self, if_true]
   cases hok : s.ok with
   | true =>
    rw [hok] at a1 a2;simp only [if_true] at a1 a2;simp only [EV, k4_1, a1, a2, a3, a4, a5, a6, a7, a8, a9, a10, l0, eq_self, if_true, b2s_B, str_self, decide_true, sub_all, beq_self_eq_true]
   | false =>
    rw [hok] at a1 a2;simp only [Bool.false_eq_true, if_false] at a1 a2;simp only [EV, k4_1, a1, a2, a3, a4, a5, a6, a7, a8, a9, a10, l0, eq_self, if_true, b2s_B, b2s_nil, str_self, decide_true, sub_all, beq_self_eq_true]
end Go.Proofs.Ythaokoopmhgfiaa
