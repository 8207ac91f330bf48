import Derived.Test.YtfghdmmapmdcgaaGreatCT
import Derived.Test.YtfghdmmapmdcgaaGreatP1
set_option linter.unusedVariables false
set_option linter.unusedSimpArgs false
set_option linter.defProp false
noncomputable section
namespace Go.Proofs.YtfghdmmapmdcgaaGreat
open Go.Sym Bnd
set_option maxRecDepth 100000
theorem fold_count {α : Type} (p : α → Bool) : ∀ (l : List α) (n : Nat), l.foldl (fun n q => if p q = true then n + 1 else n) n = n + (l.filter p).length
 | [], n => rfl
 | a :: l, n => by
  rw [List.foldl_cons, fold_count p l, List.filter_cons];cases p a
  ·rfl
  ·simp only [if_true, List.length_cons]; omega
theorem c243 {l : List Pt} {t : Rt} (h : okF l) (ht : In64 t) {i : Nat} {p : Pt} (hp : l[i]? = some p) : Ans D 243 [F l, PP p, R t] [.i64 (rank t l p : Nat)] := by
 have hl := h.1;refine ans_of k243_ok s243 rfl ⟨1001, ?_⟩;unfold k243;simp only [den_lt, shapeF, shapeP, shapeR, EV];have e0 : ([PV.v (.int .i64 0), .v (.int .i64 0)] : List PV) = [.i64 ((0 : Nat) : Int), .i64 ((0 : Nat) : Int)] := rfl;rw [e0];refine (run_fold (m := 1001) (l := l) (g := fun n q => if (decide (q.id ≠ p.id) && leads t q p) = true then n + 1 else n) (I := fun i n => n ≤ i) (S := fun n i => [.i64 ((n : Nat) : Int), .i64 (i : Int)]) (fin := fun n => some [.i64 ((n : Nat) : Int)]) (x := 0) (Nat.le_refl _) (fun i a acc _ h => by split <;> omega) (fun i q acc self hq hI => ?_) (fun acc self _ => ?_) (by omega)).1.trans ?_
 ·unfold k243_4;have hi := get_lt hq;simp only [den_lt, cellF, cellP0, tixM hq (row_len _), eltM hq, rowP, rowP0, EV, List.length_map, decide_eq_true_eq, if_lt hi, Bool.not_eq_true', decide_eq_false_iff_not, k243_3, phi (c323 (okF_pt h hq) (okF_pt h hp) ht)];by_cases c1 : q.id = p.id
  ·rw [if_neg (by simp [c1])];simp only [Bool.false_eq_true, if_false, EV, k243_2, up1 (show i < 1000000000 by omega)]
   simp [c1]
  ·rw [if_pos c1];cases leads t q p with
   | true => simp only [if_true, EV, k243_2, up1 (show i < 1000000000 by omega), up1 (show acc < 1000000000 by omega)]; simp [c1]
   | false => simp only [Bool.false_eq_true, if_false, EV, k243_2, up1 (show i < 1000000000 by omega)]; simp
 ·unfold k243_4;simp only [den_lt, cellF, EV, List.length_map, decide_eq_true_eq, if_ge, k243_1]
 ·rw [fold_count (fun q => decide (q.id ≠ p.id) && leads t q p), Nat.zero_add];rfl
theorem ordered_fold (t : Rt) (l : List Pt) : ∀ (ps : List Pt) (out : List Int), Bnd.ordered t l ps out = ps.foldl (fun out p => out.set (rank t l p) p.id) out
 | [], out => rfl
 | p :: ps, out => by unfold Bnd.ordered; rw [ordered_fold t l ps, List.foldl_cons]
theorem rank_lt {t : Rt} {l : List Pt} {p : Pt} (h : p ∈ l) : rank t l p < l.length := by
 unfold rank;rw [List.length_filter_lt_length_iff_exists];exact ⟨p, h, by simp⟩
theorem repI {n : Nat} (h : n ≤ 1000) : RF.ev (.rep [KP.z] 8) [.v (.int .i64 (n : Int)), .v (.int .i64 (n : Int))] = some (sl I1 (List.replicate n 0)) := by
 rw [f_rep, if_pos ⟨by omega, by omega, by omega, by omega⟩, Int.toNat_natCast];show _ = some (PV.sl ((List.replicate n 0).map I1))
 rw [List.map_replicate];rfl
theorem setI {l : List Int} {i : Nat} (h : i < l.length) (x : Int) : RF.ev (.set 0) [sl I1 l, .v (.int .i64 (i : Int)), .v (.int .i64 x)] = some (sl I1 (l.set i x)) := by
 rw [f_set, if_pos (by omega), Int.toNat_natCast, List.getElem?_map, List.getElem?_eq_getElem h];have e : (I1 l[i]).length = 1 := rfl;simp only [Option.map_some, e, show (PV.v (.int .i64 x)).cells = [.v (.int .i64 x)] from rfl, List.length_singleton, Nat.zero_add, Nat.le_refl, if_true]
 exact congrArg (fun x => some (PV.sl x)) (List.map_set (f := I1) (l := l) (i := i) (a := x)).symm
theorem c152 {l : List Pt} {t : Rt} (h : okF l) (ht : In64 t) : Ans D 152 [F l, R t] [sl I1 ((sortP t l).map Pt.id)] := by
 have hl := h.1;refine ans_of k152_ok s152 rfl ⟨1001, ?_⟩;unfold k152;simp only [den_lt, shapeF, shapeR, cellF, repI (show l.length ≤ 1000 by omega), EV, List.length_map, List.length_replicate]
 refine (run_fold (m := 1001) (l := l) (g := fun out p => out.set (rank t l p) p.id) (I := fun _ out => out.length = l.length) (S := fun out i => [sl I1 out, .i64 (i : Int)]) (fin := fun out => some [sl I1 out]) (x := List.replicate l.length 0) (by simp) (fun i a acc _ h => by simpa using h) (fun i p acc self hp hI => ?_) (fun acc self hI => ?_) (by omega)).1.trans ?_
 ·unfold k152_2;simp only [den_lt, cellF, tixM hp (row_len _), eltM hp, rowP, rowP0, EV, List.length_map, decide_eq_true_eq, if_lt (get_lt hp), phi (c243 h ht hp), ixM (rank_lt (List.mem_of_getElem? hp)), setI (show rank t l p < acc.length by rw [hI]; exact rank_lt (List.mem_of_getElem? hp)), up1 (show i < 1000000000 by have := get_lt hp; omega)]
 ·unfold k152_2;have := subM (f := I1) (l := acc);rw [hI] at this;simp only [den_lt, cellF, EV, List.length_map, decide_eq_true_eq, if_ge, k152_1, this]
 ·rw [← ordered_fold, ordered_eq (risen_ids h.2.2) (by simp)]
end Go.Proofs.YtfghdmmapmdcgaaGreat
