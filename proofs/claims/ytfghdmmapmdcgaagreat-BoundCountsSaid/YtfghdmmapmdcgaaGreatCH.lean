import Derived.Test.YtfghdmmapmdcgaaGreatCG
set_option linter.unusedVariables false
set_option linter.unusedSimpArgs false
set_option linter.defProp false
noncomputable section
namespace Go.Proofs.YtfghdmmapmdcgaaGreat
open Go.Sym Bnd
set_option maxRecDepth 100000
abbrev sl {α : Type} (f : α → List PV) (l : List α) : PV := .sl (l.map f)
def F (l : List Pt) : PV := .agg [sl row l]
theorem shapeF (l : List Pt) : RF.ev (.shape 1) [F l] = some (F l) := rfl
theorem cellF (l : List Pt) : RF.ev (.cell 0) [F l] = some (sl row l) := rfl
theorem rowP (p : Pt) : rowPart 0 3 (row p) = some (PP p) := rfl
theorem rowP0 (p : Pt) : rowPart 0 0 (row p) = some (.i64 p.id) := rfl
theorem row_len (p : Pt) : (row p).length = 3 := rfl
def I1 (n : Int) : List PV := [.i64 n]
theorem rowI (n : Int) : rowPart 0 0 (I1 n) = some (.i64 n) := rfl
def B1 (b : Bool) : List PV := [.bool b]
theorem rowB (b : Bool) : rowPart 0 0 (B1 b) = some (.bool b) := rfl
def goodAll (l : List Pt) : Bool := l.all Pt.ok
def risen (l : List Pt) : Prop := ∀ (i : Nat) (p q : Pt), l[i]? = some p → l[i + 1]? = some q → p.id < q.id
open Classical in
def fieldE (l : List Pt) : Int := if 64 < l.length then 4 else if goodAll l = true then (if risen l then 0 else 32) else 8
theorem okE_eq {b : Bool} : okE b = 0 ↔ b = true := by cases b <;> simp [okE]
theorem okE_not {b : Bool} {α : Type} {x y : α} : (if ¬ okE b = 0 then x else y) = if b = true then y else x := by cases b <;> rfl
open Classical in
theorem c231 (l : List Pt) : Ans D 231 [F l] [.i64 (fieldE l)] := by
 refine ans_of k231_ok s231 rfl ⟨65, ?_⟩;unfold k231 fieldE;simp only [den_lt, shapeF, cellF, EV, List.length_map, decide_eq_true_eq];by_cases h : 64 < l.length
 ·rw [if_pos (by omega), if_pos h]
 ·rw [if_neg (by omega), if_neg h];refine (run_list (l := l) (p := Pt.ok) (st := fun i => [.i64 (i : Int)]) (r := some [.i64 8]) (fin := some [.i64 (if risen l then 0 else 32)]) (fun i p self hp _ => ?_) (fun hg self => ?_) (by omega)).trans ?_
  ·unfold k231_5;simp only [den_lt, shapeF, cellF, tixM hp (row_len p), eltM hp, rowP, EV, decide_eq_true_eq, if_lt (get_lt hp), up1 (show i < 1000000000 by have := get_lt hp; omega), phi (c270 _), okE_ne]
   cases p.ok <;> rfl
  ·unfold k231_5;simp only [EV, decide_eq_true_eq, if_ge, k231_4, cellF, den_lt, List.length_map];refine (run_if (n := l.length) (P := fun i => ∀ p q, l[i]? = some q → (0 < i → l[i - 1]? = some p → p.id < q.id)) (st := fun i => [.i64 (i : Int)]) (r := some [.i64 32]) (fin := some [.i64 0]) (fun i self hi _ => ?_) (fun _ self => ?_) (by omega)).trans ?_
   ·obtain ⟨q, hq⟩ : ∃ q, l[i]? = some q := ⟨l[i], List.getElem?_eq_getElem _⟩;unfold k231_3;simp only [den_lt, cellF, tixM hq (row_len q), eltM hq, rowP, EV, decide_eq_true_eq, if_lt hi];cases i with
    | zero =>
     rw [if_neg (by omega), if_pos (fun p q _ h => by omega)];unfold k231_2;simp only [EV, Bool.false_eq_true, if_false]
     try rfl
    | succ j =>
     obtain ⟨p, hp⟩ : ∃ p, l[j]? = some p := ⟨l[j], List.getElem?_eq_getElem _⟩;rw [if_pos (by omega)];simp only [den_lt, cellF, cellP0, down1 (show j < 1000000000 by omega), tixM hp (row_len p), eltM hp, rowP0, EV]
     unfold k231_2;simp only [EV, decide_eq_true_eq, up1 (show j + 1 < 1000000000 by omega)]
     by_cases hc : q.id ≤ p.id
     ·rw [if_pos hc, if_neg (fun h => by have := h p q hq (by omega) (by simpa using hp); omega)]
     ·rw [if_neg hc, if_pos (fun p' q' h1 _ h2 => by
       rw [hq] at h1; cases h1;rw [show j + 1 - 1 = j by omega, hp] at h2; cases h2
       omega)]
   ·unfold k231_3;simp only [EV, decide_eq_true_eq, if_ge, k231_1]
   ·have : (∀ j, j < l.length → ∀ p q, l[j]? = some q → (0 < j → l[j - 1]? = some p → p.id < q.id)) ↔ risen l := by
     constructor
     ·intro h i p q hp hq;exact h (i + 1) (get_lt hq) p q hq (by omega) (by simpa using hp)
     ·intro h j hj p q hq h0 hp;exact h (j - 1) p q hp (by rw [show j - 1 + 1 = j by omega]; exact hq)
    by_cases hr : risen l
    ·rw [if_pos (this.2 hr), if_pos hr]
    ·rw [if_neg (fun h => hr (this.1 h)), if_neg hr]
  ·unfold goodAll;cases l.all Pt.ok <;> rfl
open Classical in
theorem c143 (l : List Pt) : Ans D 143 [F l] [.i64 (fieldE l)] := by
 refine ans_of k143_ok s143 rfl ⟨65, ?_⟩;unfold k143 fieldE;simp only [den_lt, shapeF, cellF, EV, List.length_map, decide_eq_true_eq];by_cases h : 64 < l.length
 ·rw [if_pos (by omega), if_pos h]
 ·rw [if_neg (by omega), if_neg h];refine (run_list (l := l) (p := Pt.ok) (st := fun i => [.i64 (i : Int)]) (r := some [.i64 8]) (fin := some [.i64 (if risen l then 0 else 32)]) (fun i p self hp _ => ?_) (fun hg self => ?_) (by omega)).trans ?_
  ·unfold k143_4;simp only [den_lt, cellF, tixM hp (row_len p), eltM hp, rowP, EV, List.length_map, decide_eq_true_eq, if_lt (get_lt hp), up1 (show i < 1000000000 by have := get_lt hp; omega), phi (c239 _), okE_ne]
  ·unfold k143_4;simp only [den_lt, cellF, EV, List.length_map, decide_eq_true_eq, if_ge, k143_3];refine (run_if (n := l.length - 1) (P := fun i => ∀ p q, l[i]? = some p → l[i + 1]? = some q → p.id < q.id) (st := fun i => [.i64 ((i + 1 : Nat) : Int)]) (r := some [.i64 32]) (fin := some [.i64 0]) (fun i self hi _ => ?_) (fun _ self => ?_) (by omega)).trans ?_
   ·obtain ⟨p, hp⟩ : ∃ p, l[i]? = some p := ⟨l[i], List.getElem?_eq_getElem _⟩;obtain ⟨q, hq⟩ : ∃ q, l[i + 1]? = some q := ⟨l[i + 1], List.getElem?_eq_getElem _⟩;unfold k143_2;simp only [den_lt, cellF, down1 (show i < 1000000000 by omega), tixM hp (row_len p), eltM hp, tixM hq (row_len q), eltM hq, rowP0, EV, List.length_map, decide_eq_true_eq, if_lt (get_lt hq), up1 (show i + 1 < 1000000000 by omega)]
    by_cases hc : q.id ≤ p.id
    ·rw [if_pos hc, if_neg (fun h => by have := h p q hp hq; omega)]
    ·rw [if_neg hc, if_pos (fun p' q' h1 h2 => by
      rw [hp] at h1; cases h1;rw [hq] at h2; cases h2;omega)]
   ·unfold k143_2;simp only [den_lt, cellF, EV, List.length_map, decide_eq_true_eq, k143_1];rw [if_neg (by omega)]
   ·have : (∀ j, j < l.length - 1 → ∀ p q, l[j]? = some p → l[j + 1]? = some q → p.id < q.id) ↔ risen l :=
     ⟨fun h i p q hp hq => h i (by have := get_lt hq; omega) p q hp hq, fun h j _ p q hp hq => h j p q hp hq⟩
    by_cases hr : risen l
    ·rw [if_pos (this.2 hr), if_pos hr]
    ·rw [if_neg (fun h => hr (this.1 h)), if_neg hr]
  ·unfold goodAll;cases l.all Pt.ok <;> rfl
def pos (l : List Pt) (id : Int) : Int := ixOf (fun p => decide (p.id = id)) l
theorem elimI {o : Option Nat} : o.elim (some [PV.i64 (-1)]) (fun i => some [.i64 (i : Int)]) = some [.i64 (o.elim (-1) fun i => (i : Int))] := by cases o <;> rfl
theorem lenI (n : Int) : (I1 n).length = 1 := rfl
theorem lenB (b : Bool) : (B1 b).length = 1 := rfl
theorem c168 {l : List Pt} (hl : l.length ≤ 1000) (id : Int) : Ans D 168 [F l, .i64 id] [.i64 (pos l id)] := by
 refine ans_of k168_ok s168 rfl ⟨1001, ?_⟩;unfold k168;simp only [den_lt, shapeF, EV];refine (run_find (l := l) (p := fun p => decide (p.id = id)) (st := fun i => [.i64 (i : Int)]) (ret := fun i => some [.i64 (i : Int)]) (fin := some [.i64 (-1)]) (fun i p self hp => ?_) (fun self => ?_) (by omega)).trans elimI
 ·unfold k168_2;simp only [den_lt, cellF, tixM hp (row_len p), eltM hp, rowP0, EV, List.length_map, decide_eq_true_eq, if_lt (get_lt hp), up1 (show i < 1000000000 by have := get_lt hp; omega)]
 ·unfold k168_2;simp only [den_lt, cellF, EV, List.length_map, decide_eq_true_eq, if_ge, k168_1]
theorem all2 {α : Type} [DecidableEq α] {l k : List α} (h : l.length = k.length) : (l.zip k).all (fun p => decide (p.1 = p.2)) = decide (l = k) := by
 induction l generalizing k with
 | nil => cases k with
  | nil => rfl
  | cons => simp at h
 | cons a l ih => cases k with
  | nil => simp at h
  | cons b k =>
   rw [List.zip_cons_cons, List.all_cons, ih (by simpa using h)]
   by_cases e : a = b
   ·subst e; simp
   ·simp [e]
theorem zip_get {α β : Type} {l : List α} {k : List β} {i : Nat} {x : α × β} (h : (l.zip k)[i]? = some x) : l[i]? = some x.1 ∧ k[i]? = some x.2 := by
 rw [List.getElem?_zip_eq_some] at h; exact h
theorem zip_len {α β : Type} {l : List α} {k : List β} (h : l.length = k.length) : (l.zip k).length = l.length := by rw [List.length_zip]; omega
theorem sameR {α : Type} [DecidableEq α] {l k : List α} {x : Option (List PV)} (h : l.length = k.length) (hx : x = if (l.zip k).all (fun p => decide (p.1 = p.2)) = true then some [.bool true] else some [.bool false]) : x = some [.bool (decide (l = k))] := by
 rw [hx, all2 h];cases decide (l = k) <;> rfl
theorem eqvP (p q : Pt) : RF.ev (.eqv [.i, .i, .i]) [PP p, PP q] = some (.bool (decide (p = q))) := by
 obtain ⟨a, b, c⟩ := p;obtain ⟨x, y, z⟩ := q;have : RF.ev (.eqv [.i, .i, .i]) [PP ⟨a, b, c⟩, PP ⟨x, y, z⟩] = some (.bool (decide (a = x) && (decide (b = y) && (decide (c = z) && true)))) := rfl;rw [this]
 congr 2
 simp [Pt.mk.injEq, Bool.decide_and]
theorem c28 {l k : List Pt} (hl : l.length ≤ 1000) : Ans D 28 [F l, F k] [.bool (decide (l = k))] := by
 refine ans_of k28_ok s28 rfl ⟨1001, ?_⟩;unfold k28;simp only [den_lt, shapeF, cellF, EV, List.length_map, Bool.not_eq_true', decide_eq_false_iff_not];by_cases h : l.length = k.length
 ·rw [if_neg (by omega)];refine sameR h (run_list (l := l.zip k) (st := fun i => [.i64 (i : Int)]) (fun i x self hx _ => ?_) (fun _ self => ?_) (by rw [zip_len h]; omega))
  ·obtain ⟨hp, hq⟩ := zip_get hx;unfold k28_2;simp only [den_lt, cellF, tixM hp (row_len _), eltM hp, tixM hq (row_len _), eltM hq, rowP, eqvP, EV, List.length_map, decide_eq_true_eq, Bool.not_eq_true', decide_eq_false_iff_not, if_lt (get_lt hp), up1 (show i < 1000000000 by have := get_lt hp; omega)]
   by_cases e : x.1 = x.2 <;> simp [e]
  ·rw [zip_len h];unfold k28_2;simp only [den_lt, cellF, EV, List.length_map, decide_eq_true_eq, if_ge, k28_1]
 ·rw [if_pos (by omega), decide_eq_false (fun e => h (by rw [e]))]
theorem d135 {l k : List Int} (hl : l.length ≤ 1000) : ∃ N, den (PhiS D) N k135 [] [sl I1 l, sl I1 k] = some [.bool (decide (l = k))] := by
 refine ⟨1001, ?_⟩;unfold k135;simp only [EV, List.length_map, Bool.not_eq_true', decide_eq_false_iff_not];by_cases h : l.length = k.length
 ·rw [if_neg (by omega)];refine sameR h (run_list (l := l.zip k) (st := fun i => [.i64 (i : Int)]) (fun i x self hx _ => ?_) (fun _ self => ?_) (by rw [zip_len h]; omega))
  ·obtain ⟨hp, hq⟩ := zip_get hx;unfold k135_2;simp only [tixM hp (lenI _), eltM hp, tixM hq (lenI _), eltM hq, rowI, EV, List.length_map, decide_eq_true_eq, Bool.not_eq_true', decide_eq_false_iff_not, if_lt (get_lt hp), up1 (show i < 1000000000 by have := get_lt hp; omega)]
   by_cases e : x.1 = x.2 <;> simp [e]
  ·rw [zip_len h];unfold k135_2;simp only [EV, List.length_map, decide_eq_true_eq, if_ge, k135_1]
 ·rw [if_pos (by omega), decide_eq_false (fun e => h (by rw [e]))]
theorem c135 {l k : List Int} (hl : l.length ≤ 1000) : Ans D 135 [sl I1 l, sl I1 k] [.bool (decide (l = k))] := ans_of k135_ok s135 rfl (d135 hl)
theorem c313 {l k : List Int} (hl : l.length ≤ 1000) : Ans D 313 [sl I1 l, sl I1 k] [.bool (decide (l = k))] := ans_of k313_ok s313 rfl (d135 hl)
theorem c376 {l k : List Bool} (hl : l.length ≤ 1000) : Ans D 376 [sl B1 l, sl B1 k] [.bool (decide (l = k))] := by
 refine ans_of k376_ok s376 rfl ⟨1001, ?_⟩;unfold k376;simp only [EV, List.length_map, Bool.not_eq_true', decide_eq_false_iff_not];by_cases h : l.length = k.length
 ·rw [if_neg (by omega)];refine sameR h (run_list (l := l.zip k) (st := fun i => [.i64 (i : Int)]) (fun i x self hx _ => ?_) (fun _ self => ?_) (by rw [zip_len h]; omega))
  ·obtain ⟨hp, hq⟩ := zip_get hx;unfold k376_2;simp only [tixM hp (lenB _), eltM hp, tixM hq (lenB _), eltM hq, rowB, EV, List.length_map, decide_eq_true_eq, if_lt (get_lt hp), up1 (show i < 1000000000 by have := get_lt hp; omega)]
   obtain ⟨a, b⟩ := x;cases a <;> cases b <;> rfl
  ·rw [zip_len h];unfold k376_2;simp only [EV, List.length_map, decide_eq_true_eq, if_ge, k376_1]
 ·rw [if_pos (by omega), decide_eq_false (fun e => h (by rw [e]))]
end Go.Proofs.YtfghdmmapmdcgaaGreat
