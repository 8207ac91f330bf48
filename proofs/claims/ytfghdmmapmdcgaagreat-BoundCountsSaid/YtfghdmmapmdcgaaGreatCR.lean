import Derived.Test.YtfghdmmapmdcgaaGreatCQ
set_option linter.unusedVariables false
set_option linter.unusedSimpArgs false
set_option linter.defProp false
noncomputable section
namespace Go.Proofs.YtfghdmmapmdcgaaGreat
open Go.Sym Bnd
set_option maxRecDepth 100000
theorem c151 {l : List Int} (v : Int) (hl : l.length ≤ 1000) : Ans D 151 [sl I1 l, .i64 v] [.i64 (ixOf (fun y => decide (v = y)) l)] := by
 refine ans_of k151_ok s151 rfl ⟨1001, ?_⟩;unfold k151;simp only [EV, List.length_map];refine (run_find (m := 1001) (l := l) (p := fun y => decide (v = y)) (st := fun i => [.i64 (i : Int)]) (ret := fun i => some [.i64 (i : Int)]) (fin := some [.i64 (-1)]) (fun i a self ha => ?_) (fun self => ?_) (by omega)).trans elimI
 ·unfold k151_2;simp only [tixM ha (lenI _), eltM ha, rowI, EV, decide_eq_true_eq, if_lt (get_lt ha), up1 (show i < 1000000000 by have := get_lt ha; omega)]
 ·unfold k151_2;simp only [EV, decide_eq_true_eq, if_ge, k151_1]
theorem c154 {l : List Int} (v : Int) (hl : l.length ≤ 1000) : Ans D 154 [sl I1 l, .i64 v] [.bool (decide (v ∈ l))] := by
 refine ans_of k154_ok s154 rfl ⟨1, ?_⟩;unfold k154;simp only [EV, phi (c151 v hl), ge_iff_le, ixOf_dec, any_mem]
theorem c247 {l : List Crt} (v : Crt) (hl : l.length ≤ 1000) : Ans D 247 [sl crow l, CP v] [.i64 (ixOf (fun y => decide (v = y)) l)] := by
 refine ans_of k247_ok s247 rfl ⟨1001, ?_⟩;unfold k247;simp only [den_lt, shCP, EV, List.length_map];refine (run_find (m := 1001) (l := l) (p := fun y => decide (v = y)) (st := fun i => [.i64 (i : Int)]) (ret := fun i => some [.i64 (i : Int)]) (fin := some [.i64 (-1)]) (fun i a self ha => ?_) (fun self => ?_) (by omega)).trans elimI
 ·unfold k247_2;simp only [tixM ha (lenC _), eltM ha, rowC, eqvC, EV, decide_eq_true_eq, if_lt (get_lt ha), up1 (show i < 1000000000 by have := get_lt ha; omega)]
 ·unfold k247_2;simp only [EV, decide_eq_true_eq, if_ge, k247_1]
theorem c155 {l : List Crt} (v : Crt) (hl : l.length ≤ 1000) : Ans D 155 [sl crow l, CP v] [.bool (decide (v ∈ l))] := by
 refine ans_of k155_ok s155 rfl ⟨1, ?_⟩;unfold k155;simp only [den_lt, shCP, EV, phi (c247 v hl), ge_iff_le, ixOf_dec, any_mem]
def JustP (c : Clock) (edges : List Crt) : Prop := edges.length = c.certs.list.length ∧ ∀ h ∈ c.certs.list, h.cert ∈ edges
theorem c163 {l k : List Int} (hl : l.length ≤ 1000) : Ans D 163 [sl I1 l, sl I1 k] [.bool (decide (l = k))] := by
 refine ans_of k163_ok s163 rfl ⟨1001, ?_⟩;unfold k163;simp only [EV, List.length_map, Bool.not_eq_true', decide_eq_false_iff_not];by_cases h : l.length = k.length
 ·rw [if_neg (by omega)];refine sameR h (run_list (l := l.zip k) (st := fun i => [.i64 (i : Int)]) (fun i x self hx _ => ?_) (fun _ self => ?_) (by rw [zip_len h]; omega))
  ·obtain ⟨hp, hq⟩ := zip_get hx;unfold k163_2;simp only [tixM hp (lenI _), eltM hp, tixM hq (lenI _), eltM hq, rowI, EV, decide_eq_true_eq, Bool.not_eq_true', decide_eq_false_iff_not, if_lt (get_lt hp), up1 (show i < 1000000000 by have := get_lt hp; omega)]
   by_cases e : x.1 = x.2 <;> simp [e]
  ·rw [zip_len h];unfold k163_2;simp only [EV, decide_eq_true_eq, if_ge, k163_1]
 ·rw [if_pos (by omega), decide_eq_false (fun e => h (by rw [e]))]
theorem c165 {l k : List Nod} (hl : l.length ≤ 1000) : Ans D 165 [sl nrow l, sl nrow k] [.bool (decide (l = k))] := by
 refine ans_of k165_ok s165 rfl ⟨1001, ?_⟩;unfold k165;simp only [EV, List.length_map, Bool.not_eq_true', decide_eq_false_iff_not];by_cases h : l.length = k.length
 ·rw [if_neg (by omega)];refine sameR h (run_list (l := l.zip k) (st := fun i => [.i64 (i : Int)]) (fun i x self hx _ => ?_) (fun _ self => ?_) (by rw [zip_len h]; omega))
  ·obtain ⟨hp, hq⟩ := zip_get hx;unfold k165_2;simp only [tixM hp (lenN _), eltM hp, tixM hq (lenN _), eltM hq, rowN, eqvN, EV, decide_eq_true_eq, Bool.not_eq_true', decide_eq_false_iff_not, if_lt (get_lt hp), up1 (show i < 1000000000 by have := get_lt hp; omega)]
   by_cases e : x.1 = x.2 <;> simp [e]
  ·rw [zip_len h];unfold k165_2;simp only [EV, decide_eq_true_eq, if_ge, k165_1]
 ·rw [if_pos (by omega), decide_eq_false (fun e => h (by rw [e]))]
end Go.Proofs.YtfghdmmapmdcgaaGreat
