import Derived.Test.YthaokoopmhgfiaaSnpX
set_option linter.unusedVariables false
set_option linter.unusedSimpArgs false
set_option linter.defProp false
noncomputable section
namespace Go.Proofs.Ythaokoopmhgfiaa
open Go.Sym Go.Abu Go.Pev
set_option maxRecDepth 100000
theorem image_len (s : Snap) : (imageB s).length = 10 + 8 * s.m.pts.length := by
 unfold imageB;rw [List.length_append, headB_len, flat8]
theorem readS_eq {l : List Int} {x0 x1 t x9 : Int} (h : l.length ≤ 522) (h0 : l[0]? = some x0) (h1 : l[1]? = some x1) (h2 : l[2]? = some t) (h9 : l[9]? = some x9) :
  readS l = if formed l x0 x1 x9 = true then (if (parse l t x9).ok = true then (parse l t x9, 0) else (zeroS, 12)) else (zeroS, 12) := by
 unfold readS;rw [if_neg (by omega), h0, h1, h2, h9]
theorem parse_image {s : Snap} (h : s.ok = true) : parse (imageB s) s.tag ((s.m.pts.length : Int) % 256) = s := by
 obtain ⟨t1, h2, ⟨n1, n2⟩, hl, hg, _⟩ := Snap.ok_in h;have hd := Rat.ok_den h2;have e1 : ((imageB s).drop 3).take 4 = digs (s.m.now.num + 1073741824) 4 := rfl;have e2 : (((imageB s).drop 3).drop 4).take 2 = digs s.m.now.den 2 := rfl;have e3 : body (imageB s) = s.m.pts.flatMap ptB := rfl;have e4 : ((s.m.pts.length : Int) % 256).toNat = s.m.pts.length := by omega
 unfold parse;rw [e1, e2, e3, e4, vd4 (by omega), vd2 (by omega)];have := pts_image s.m.pts [] hg;rw [List.nil_append] at this;rw [show ptsFrom (s.m.pts.flatMap ptB) 0 s.m.pts.length = s.m.pts from this]
 obtain ⟨g, ⟨n, d⟩, l⟩ := s;rw [Snap.mk.injEq, Mod.mk.injEq, Rat.mk.injEq];exact ⟨rfl, ⟨by show n + 1073741824 - 1073741824 = n; omega, rfl⟩, rfl⟩
theorem read_image {s : Snap} (h : s.ok = true) : readS (imageB s) = (s, 0) := by
 obtain ⟨_, _, _, hl, _, _⟩ := Snap.ok_in h;rw [readS_eq (x0 := 80) (x1 := 75) (t := s.tag) (x9 := (s.m.pts.length : Int) % 256) (by rw [image_len]; omega) rfl rfl rfl rfl, parse_image h, h];have : formed (imageB s) 80 75 ((s.m.pts.length : Int) % 256) = true := by
  unfold formed;rw [decide_eq_true rfl, decide_eq_true rfl, decide_eq_true (by rw [image_len]; omega)];rfl
 rw [this];rfl
theorem read_short {l : List Int} (h : l.length ≤ 522) (h8 : l.length % 8 ≠ 2) : readS l = (zeroS, 12) := by
 cases h0 : l[0]? with
 | none => unfold readS; rw [if_neg (by omega), h0]
 | some x0 => cases h1 : l[1]? with
  | none => unfold readS; rw [if_neg (by omega), h0, h1]
  | some x1 => cases h2 : l[2]? with
   | none => unfold readS; rw [if_neg (by omega), h0, h1, h2]
   | some t => cases h9 : l[9]? with
    | none => unfold readS; rw [if_neg (by omega), h0, h1, h2, h9]
    | some x9 =>
     rw [readS_eq h h0 h1 h2 h9];have : formed l x0 x1 x9 = false := by
      unfold formed;rw [decide_eq_false (show ¬ (l.length : Int) = 10 + 8 * x9 by omega), Bool.and_false]
     rw [this];rfl
theorem read_long {l : List Int} (h : 522 < l.length) : readS l = (zeroS, 4) := by unfold readS; rw [if_pos h]
theorem image_parse {l : List Int} {t x9 : Int} (hb : Bytes l) (h0 : l[0]? = some 80) (h1 : l[1]? = some 75) (h2 : l[2]? = some t) (h9 : l[9]? = some x9) (hl : (l.length : Int) = 10 + 8 * x9) : imageB (parse l t x9) = l := by
 have b9 := hb x9 (List.mem_of_getElem? h9);have e1 : l.drop 9 = [x9] ++ body l := by
  have := drop_get h9;rw [this, body_eq];rfl
 have e0 : l = 80 :: 75 :: t :: l.drop 3 := by
  have a0 := drop_get h0;have a1 := drop_get h1;have a2 := drop_get h2;rw [List.drop_zero] at a0;rw [a1, a2] at a0;exact a0
 have hbl : (body l).length = 8 * (0 + x9.toNat) := by rw [body_eq, List.length_drop]; omega
 have e3 := image_pts (l := body l) (by rw [body_eq]; exact hb.drop 10) x9.toNat 0 hbl;have e4 : l.drop 3 = (l.drop 3).take 4 ++ (((l.drop 3).drop 4).take 2 ++ l.drop 9) := by
  rw [show l.drop 9 = ((l.drop 3).drop 4).drop 2 by rw [List.drop_drop, List.drop_drop], List.take_append_drop, List.take_append_drop]
 have f1 : imageB (parse l t x9) = ([80, 75, t] ++ (digs (val ((l.drop 3).take 4) 0 - 1073741824 + 1073741824) 4 ++ (digs (val (((l.drop 3).drop 4).take 2) 0) 2 ++ [((ptsFrom (body l) 0 x9.toNat).length : Int) % 256]))) ++ (ptsFrom (body l) 0 x9.toNat).flatMap ptB := rfl;have hn : x9.toNat % 256 = x9.toNat := by omega
 rw [f1, Int.sub_add_cancel, dv4 (by rw [List.length_take, List.length_drop]; omega) ((hb.drop 3).take 4), dv2 (by rw [List.length_take, List.length_drop, List.length_drop]; omega) (((hb.drop 3).drop 4).take 2), e3, ptsFrom_len];rw [show ((x9.toNat : Nat) : Int) % 256 = x9 by omega]
 conv => rhs; rw [e0, e4, e1]
 simp
theorem readS_ok {l : List Int} (hb : Bytes l) (h : (readS l).2 = 0) : (readS l).1.ok = true ∧ (readS l).1.in64 ∧ imageB (readS l).1 = l := by
 unfold readS at h ⊢;split
 ·rename_i hl; rw [if_pos hl] at h; cases h
 ·rename_i hl;rw [if_neg hl] at h;split
  ·rename_i x0 x1 t x9 h0 h1 h2 h9;rw [h0, h1, h2, h9] at h;simp only at h;split
   ·rename_i hf;rw [if_pos hf] at h;split
    ·rename_i hok;unfold formed at hf;simp only [Bool.and_eq_true, decide_eq_true_eq] at hf;obtain ⟨⟨f0, f1⟩, f9⟩ := hf;subst f0; subst f1;exact ⟨hok, parse_in hb (hb t (List.mem_of_getElem? h2)), image_parse hb h0 h1 h2 h9 f9⟩
    ·rename_i hok;rw [if_neg hok] at h;cases h
   ·rename_i hf;rw [if_neg hf] at h;cases h
  ·rename_i hx;split at h
   ·rename_i h0 h1 h2 h9;exact absurd h9 (hx _ _ _ _ h0 h1 h2)
   ·cases h
theorem readS_code {l : List Int} (h : l.length ≤ 522) : (readS l).2 = 0 ∨ (readS l).2 = 12 := by
 unfold readS;rw [if_neg (by omega)];split
 ·split
  ·split
   ·exact .inl rfl
   ·exact .inr rfl
  ·exact .inr rfl
 ·exact .inr rfl
end Go.Proofs.Ythaokoopmhgfiaa
