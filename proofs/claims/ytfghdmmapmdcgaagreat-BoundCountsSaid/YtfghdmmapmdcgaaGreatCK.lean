import Derived.Test.YtfghdmmapmdcgaaGreatCJ
set_option linter.unusedVariables false
set_option linter.unusedSimpArgs false
set_option linter.defProp false
noncomputable section
namespace Go.Proofs.YtfghdmmapmdcgaaGreat
open Go.Sym Bnd
set_option maxRecDepth 100000
theorem c229 {s t : Certs} (h : s.list.length ≤ 1000) : Ans D 229 [CS s, CS t] [.bool (decide (s = t))] := by
 refine ans_of k229_ok s229 rfl ⟨1001, ?_⟩;unfold k229;obtain ⟨a, b⟩ := s;obtain ⟨x, y⟩ := t;simp only at h;simp only [den_lt, shCS, cCS0, cCS1, EV, List.length_map, Bool.not_eq_true', decide_eq_false_iff_not];by_cases h1 : a = x
 ·subst h1;simp only [not_true_eq_false, if_false];by_cases h3 : b.length = y.length
  ·rw [if_neg (by omega)];refine (sameR (l := b) (k := y) h3 (run_list (l := b.zip y) (st := fun i => [.i64 (i : Int)]) (fun i x self hx _ => ?_) (fun _ self => ?_) (by rw [zip_len h3]; omega))).trans ?_
   ·obtain ⟨hp, hq⟩ := zip_get hx;unfold k229_2;simp only [den_lt, cCS1, tixM hp (lenH _), eltM hp, tixM hq (lenH _), eltM hq, rowH, eqvH, EV, List.length_map, decide_eq_true_eq, Bool.not_eq_true', decide_eq_false_iff_not, if_lt (get_lt hp), up1 (show i < 1000000000 by have := get_lt hp; omega)]
    by_cases e : x.1 = x.2 <;> simp [e]
   ·rw [zip_len h3];unfold k229_2;simp only [den_lt, cCS1, EV, List.length_map, decide_eq_true_eq, if_ge, k229_1]
   ·simp [Certs.mk.injEq]
  ·rw [if_pos (by omega), decide_eq_false (fun e => h3 (by cases e; rfl))]
 ·rw [if_pos h1, decide_eq_false (fun e => h1 (by cases e; rfl))]
theorem c134 {s t : Clock} (h : gCl s = false) : Ans D 134 [CL s, CL t] [.bool (decide (s = t))] := by
 unfold gCl gF at h;simp only [Bool.or_eq_false_iff, decide_eq_false_iff_not, Bool.and_eq_false_iff] at h;obtain ⟨⟨⟨h1, h2⟩, h3, h3'⟩, h4⟩ := h;obtain ⟨a, b, c, d, e⟩ := s;obtain ⟨x, y, z, u, v⟩ := t;simp only at h1 h2 h3 h3' h4;refine ans_of k134_ok s134 rfl ⟨1001, ?_⟩;unfold k134;simp only [den_lt, shCL, pCL0, pCL2, pCL3, pCL5, cCL10, eqvR, EV, List.length_map, Bool.not_eq_true', decide_eq_false_iff_not, phi (c28 (l := b) (k := y) (by omega)), phi (c229 (s := c) (t := z) (by omega)), phi (c230 (t := u) h4)];by_cases e1 : a = x
 ·by_cases e2 : b = y
  ·by_cases e3 : c = z
   ·by_cases e4 : d = u
    ·subst e1; subst e2; subst e3; subst e4;simp only [not_true_eq_false, if_false];by_cases e5 : e.length = v.length
     ·rw [if_neg (by omega)];refine (sameR (l := e) (k := v) e5 (run_list (l := e.zip v) (st := fun i => [.i64 (i : Int)]) (fun i x self hx _ => ?_) (fun _ self => ?_) (by rw [zip_len e5]; omega))).trans ?_
      ·obtain ⟨hp, hq⟩ := zip_get hx;unfold k134_2;simp only [den_lt, cCL10, tixM hp (lenD _), eltM hp, tixM hq (lenD _), eltM hq, rowD, eqvD, EV, List.length_map, decide_eq_true_eq, Bool.not_eq_true', decide_eq_false_iff_not, if_lt (get_lt hp), up1 (show i < 1000000000 by have := get_lt hp; omega)]
       by_cases e : x.1 = x.2 <;> simp [e]
      ·rw [zip_len e5];unfold k134_2;simp only [den_lt, cCL10, EV, List.length_map, decide_eq_true_eq, if_ge, k134_1]
      ·simp [Clock.mk.injEq]
     ·rw [if_pos (by omega), decide_eq_false (fun h => e5 (by cases h; rfl))]
    ·rw [if_neg (by simp [e1]), if_neg (by simp [e2]), if_neg (by simp [e3]), if_pos e4, decide_eq_false (fun h => e4 (by cases h; rfl))]
   ·rw [if_neg (by simp [e1]), if_neg (by simp [e2]), if_pos e3, decide_eq_false (fun h => e3 (by cases h; rfl))]
  ·rw [if_neg (by simp [e1]), if_pos e2, decide_eq_false (fun h => e2 (by cases h; rfl))]
 ·rw [if_pos e1, decide_eq_false (fun h => e1 (by cases h; rfl))]
theorem c136 {s t : Brk} (h : s.places.length ≤ 1000) (k : s.wins.length ≤ 1000) : Ans D 136 [BR s, BR t] [.bool (decide (s = t))] := by
 refine ans_of k136_ok s136 rfl ⟨1, ?_⟩;unfold k136;obtain ⟨a, b⟩ := s;obtain ⟨x, y⟩ := t;simp only [den_lt, shBR, cBR0, cBR1, EV, k136_1, phi (c135 (l := a) (k := x) h), phi (c135 (l := b) (k := y) k), decide_eq_true_eq];by_cases e1 : a = x <;> by_cases e2 : b = y <;> simp [e1, e2]
theorem c137 {s t : Tree} (h : s.nodes.length ≤ 1000) : Ans D 137 [TR s, TR t] [.bool (decide (s = t))] := by
 refine ans_of k137_ok s137 rfl ⟨1001, ?_⟩;unfold k137;obtain ⟨a, b⟩ := s;obtain ⟨x, y⟩ := t;simp only at h;simp only [den_lt, shTR, cTR0, cTR1, EV, List.length_map, Bool.not_eq_true', decide_eq_false_iff_not];by_cases h1 : a = x
 ·subst h1;simp only [not_true_eq_false, if_false];by_cases h3 : b.length = y.length
  ·rw [if_neg (by omega)];refine (sameR (l := b) (k := y) h3 (run_list (l := b.zip y) (st := fun i => [.i64 (i : Int)]) (fun i x self hx _ => ?_) (fun _ self => ?_) (by rw [zip_len h3]; omega))).trans ?_
   ·obtain ⟨hp, hq⟩ := zip_get hx;unfold k137_2;simp only [den_lt, cTR1, tixM hp (lenN _), eltM hp, tixM hq (lenN _), eltM hq, rowN, eqvN, EV, List.length_map, decide_eq_true_eq, Bool.not_eq_true', decide_eq_false_iff_not, if_lt (get_lt hp), up1 (show i < 1000000000 by have := get_lt hp; omega)]
    by_cases e : x.1 = x.2 <;> simp [e]
   ·rw [zip_len h3];unfold k137_2;simp only [den_lt, cTR1, EV, List.length_map, decide_eq_true_eq, if_ge, k137_1]
   ·simp [Tree.mk.injEq]
  ·rw [if_pos (by omega), decide_eq_false (fun e => h3 (by cases e; rfl))]
 ·rw [if_pos h1, decide_eq_false (fun e => h1 (by cases e; rfl))]
theorem d51 {s t : KHeap} (h : gKh s = false) : ∃ N, den (PhiS D) N k51 [] [KH s, KH t] = some [.bool (decide (s = t))] := by
 unfold gKh at h;simp only [Bool.or_eq_false_iff, decide_eq_false_iff_not] at h;refine ⟨1, ?_⟩;unfold k51;obtain ⟨a, b⟩ := s;obtain ⟨x, y⟩ := t;simp only at h;simp only [den_lt, shKH, pKH, cKH, EV, k51_1, phi (c134 (t := x) h.1), phi (c135 (l := b) (k := y) (by omega)), decide_eq_true_eq];by_cases e1 : a = x <;> by_cases e2 : b = y <;> simp [e1, e2]
theorem c51 {s t : KHeap} (h : gKh s = false) : Ans D 51 [KH s, KH t] [.bool (decide (s = t))] := ans_of k51_ok s51 rfl (d51 h)
theorem c54 {s t : KHeap} (h : gKh s = false) : Ans D 54 [KH s, KH t] [.bool (decide (s = t))] := ans_of k54_ok s54 rfl (d51 h)
theorem c52 {s t : KTourn} (h : gKt s = false) : Ans D 52 [KT s, KT t] [.bool (decide (s = t))] := by
 unfold gKt at h;simp only [Bool.or_eq_false_iff, decide_eq_false_iff_not] at h;refine ans_of k52_ok s52 rfl ⟨1, ?_⟩;unfold k52;obtain ⟨a, b⟩ := s;obtain ⟨x, y⟩ := t;simp only at h;simp only [den_lt, shKT, pKT, pKTb, EV, k52_1, phi (c134 (t := x) h.1), phi (c136 (s := b) (t := y) (by omega) (by omega)), decide_eq_true_eq];by_cases e1 : a = x <;> by_cases e2 : b = y <;> simp [e1, e2]
theorem c53 {s t : Heater} (h : gHt s = false) : Ans D 53 [HT s, HT t] [.bool (decide (s = t))] := by
 unfold gHt at h;simp only [Bool.or_eq_false_iff, decide_eq_false_iff_not] at h;refine ans_of k53_ok s53 rfl ⟨1, ?_⟩;unfold k53;obtain ⟨a, b⟩ := s;obtain ⟨x, y⟩ := t;simp only at h;simp only [den_lt, shHT, pHT, pHTt, EV, k53_1, phi (c134 (t := x) h.1), phi (c137 (s := b) (t := y) (by omega)), decide_eq_true_eq];by_cases e1 : a = x <;> by_cases e2 : b = y <;> simp [e1, e2]
end Go.Proofs.YtfghdmmapmdcgaaGreat
