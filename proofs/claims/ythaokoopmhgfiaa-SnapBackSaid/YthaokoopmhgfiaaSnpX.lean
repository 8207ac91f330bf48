import Derived.Test.YthaokoopmhgfiaaSnpL
set_option linter.unusedVariables false
set_option linter.unusedSimpArgs false
set_option linter.defProp false
noncomputable section
namespace Go.Proofs.Ythaokoopmhgfiaa
open Go.Sym Go.Abu Go.Pev
set_option maxRecDepth 100000
theorem digs_nil (n : Int) : digs n 0 = [] := rfl
theorem vd2 {x : Int} (h : 0 ≤ x ∧ x < 65536) : val (digs x 2) 0 = x := by
 simp only [digs_step, digs_nil, val, Nat.reduceMul];omega
theorem vd3 {x : Int} (h : 0 ≤ x ∧ x < 16777216) : val (digs x 3) 0 = x := by
 simp only [digs_step, digs_nil, val, Nat.reduceMul];omega
theorem vd4 {x : Int} (h : 0 ≤ x ∧ x < 4294967296) : val (digs x 4) 0 = x := by
 simp only [digs_step, digs_nil, val, Nat.reduceMul];omega
theorem dv2 {l : List Int} (hl : l.length = 2) (hb : Bytes l) : digs (val l 0) 2 = l := by
 match l, hl, hb with
 | [a, b], _, hb =>
  have ha := hb a (by simp);have hb' := hb b (by simp);simp only [digs_step, digs_nil, val, Nat.reduceMul, List.cons.injEq, and_true];omega
theorem dv3 {l : List Int} (hl : l.length = 3) (hb : Bytes l) : digs (val l 0) 3 = l := by
 match l, hl, hb with
 | [a, b, c], _, hb =>
  have ha := hb a (by simp);have hb' := hb b (by simp);have hc := hb c (by simp);simp only [digs_step, digs_nil, val, Nat.reduceMul, List.cons.injEq, and_true];omega
theorem dv4 {l : List Int} (hl : l.length = 4) (hb : Bytes l) : digs (val l 0) 4 = l := by
 match l, hl, hb with
 | [a, b, c, d], _, hb =>
  have ha := hb a (by simp);have hb' := hb b (by simp);have hc := hb c (by simp);have hd := hb d (by simp);simp only [digs_step, digs_nil, val, Nat.reduceMul, List.cons.injEq, and_true];omega
theorem ptOf_ptB {p : Pt} (h : p.ok = true) : ptOf (ptB p) = p := by
 obtain ⟨i1, a1, b1⟩ := Pt.ok_in h;unfold ptOf ptB;have e1 : (digs p.id 2 ++ (digs (p.a + 1048576) 3 ++ digs (p.b + 1048576) 3)).take 2 = digs p.id 2 := by rw [List.take_append_of_le_length (by rw [digs_len]; decide), List.take_of_length_le (by rw [digs_len]; decide)]
 have e2 : (digs p.id 2 ++ (digs (p.a + 1048576) 3 ++ digs (p.b + 1048576) 3)).drop 2 = digs (p.a + 1048576) 3 ++ digs (p.b + 1048576) 3 := by
  rw [List.drop_append_of_le_length (by rw [digs_len]; decide), List.drop_eq_nil_of_le (by rw [digs_len]; decide)]; rfl
 have e3 : (digs (p.a + 1048576) 3 ++ digs (p.b + 1048576) 3).take 3 = digs (p.a + 1048576) 3 := by rw [List.take_append_of_le_length (by rw [digs_len]; decide), List.take_of_length_le (by rw [digs_len]; decide)]
 have e4 : (digs (p.a + 1048576) 3 ++ digs (p.b + 1048576) 3).drop 3 = digs (p.b + 1048576) 3 := by
  rw [List.drop_append_of_le_length (by rw [digs_len]; decide), List.drop_eq_nil_of_le (by rw [digs_len]; decide)]; rfl
 rw [e1, e2, e3, e4, List.take_of_length_le (by rw [digs_len]; decide), vd2 (by omega), vd3 (by omega), vd3 (by omega)];cases p;simp only [Pt.mk.injEq, true_and];constructor <;> simp
theorem ptB_ptOf {c : List Int} (hl : c.length = 8) (hb : Bytes c) : ptB (ptOf c) = c := by
 unfold ptB ptOf;simp only [Int.sub_add_cancel];rw [dv2 (by rw [List.length_take]; omega) (hb.take 2), dv3 (by rw [List.length_take, List.length_drop]; omega) ((hb.drop 2).take 3), dv3 (by rw [List.length_take, List.length_drop, List.length_drop]; omega) (((hb.drop 2).drop 3).take 3)];rw [List.take_of_length_le (l := (c.drop 2).drop 3) (by rw [List.length_drop, List.length_drop]; omega), List.take_append_drop, List.take_append_drop]
theorem pts_image : ∀ (q p : List Pt), goodAll q = true → ptsFrom ((p ++ q).flatMap ptB) p.length q.length = q
 | [], p, _ => rfl
 | a :: q, p, h => by
  unfold goodAll at h;simp only [List.all_cons, Bool.and_eq_true] at h;have e1 : (((p ++ a :: q).flatMap ptB).drop (8 * p.length)).take 8 = ptB a := by
   rw [List.flatMap_append, List.drop_append_of_le_length (by rw [flat8]; omega), List.drop_eq_nil_of_le (by rw [flat8]; omega), List.nil_append, List.flatMap_cons, List.take_append_of_le_length (by rw [ptB_len]; omega), List.take_of_length_le (by rw [ptB_len]; omega)]
  have ih := pts_image q (p ++ [a]) h.2;rw [List.append_assoc, List.length_append] at ih;show ptOf ((((p ++ a :: q).flatMap ptB).drop (8 * p.length)).take 8) :: ptsFrom ((p ++ a :: q).flatMap ptB) (p.length + 1) q.length = _
  rw [e1, ptOf_ptB h.1]
  congr 1
theorem image_pts {l : List Int} (hb : Bytes l) : ∀ (m i : Nat), l.length = 8 * (i + m) → (ptsFrom l i m).flatMap ptB = l.drop (8 * i)
 | 0, i, h => by rw [List.drop_eq_nil_of_le (by omega)]; rfl
 | m + 1, i, h => by
  have ih := image_pts hb m (i + 1) (by omega);have hc : ((l.drop (8 * i)).take 8).length = 8 := by rw [List.length_take, List.length_drop]; omega
  show (ptOf ((l.drop (8 * i)).take 8) :: ptsFrom l (i + 1) m).flatMap ptB = _
  rw [List.flatMap_cons, ptB_ptOf hc ((hb.drop _).take _), ih, show 8 * (i + 1) = 8 * i + 8 by omega, ← List.drop_drop, List.take_append_drop]
end Go.Proofs.Ythaokoopmhgfiaa
