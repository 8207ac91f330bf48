import Derived.Test.YtfghdmmapmdcgaaGreatCZ
import Derived.Test.YtfghdmmapmdcgaaGreatP1
set_option linter.unusedVariables false
set_option linter.unusedSimpArgs false
set_option linter.defProp false
noncomputable section
namespace Go.Proofs.YtfghdmmapmdcgaaGreat
open Go.Sym Bnd
set_option maxRecDepth 100000
theorem mmX (a b : Int) : RF.ev (.mm true) [.v (.int .i64 a), .v (.int .i64 b)] = some (.v (.int .i64 (max a b))) := rfl
theorem mmN (a b : Int) : RF.ev (.mm false) [.v (.int .i64 a), .v (.int .i64 b)] = some (.v (.int .i64 (min a b))) := rfl
theorem dbl {i : Nat} (h : i < 100000000) : IntKind.i64.wrap (2 * (i : Int)) = ((2 * i : Nat) : Int) := by rw [w_i64 (by omega) (by omega)]; omega
theorem up2 {i : Nat} (h : i < 1000000000) : IntKind.i64.wrap ((i : Int) + 2) = ((i + 2 : Nat) : Int) := by rw [w_i64 (by omega) (by omega)]; rfl
theorem sub2 {i j : Nat} (h : j ≤ i) (k : i < 1000000000) : IntKind.i64.wrap ((i : Int) - (j : Int)) = ((i - j : Nat) : Int) := by rw [w_i64 (by omega) (by omega)]; omega
theorem c242 {b : Brk} {i : Nat} (hi : i < b.wins.length + b.places.length) (hb : b.wins.length + b.places.length ≤ 1000) : Ans D 242 [BR b, .i64 (i : Int)] [.i64 (nodeV b.wins b.places i)] := by
 refine ans_of k242_ok s242 rfl ⟨1, ?_⟩;unfold k242;by_cases h : i < b.wins.length
 ·obtain ⟨x, hx⟩ : ∃ x, b.wins[i]? = some x := ⟨_, List.getElem?_eq_getElem h⟩;have w : IntKind.i64.wrap ((i : Int) - (b.wins.length : Int)) = (i : Int) - (b.wins.length : Int) := w_i64 (by omega) (by omega);simp only [den_lt, shBR, cBR1, cBR0, EV, List.length_map, w, decide_eq_true_eq, ge_iff_le, if_neg (show ¬ (0 : Int) ≤ (i : Int) - (b.wins.length : Int) by omega), tixM hx (lenI _), eltM hx, rowI, nodeV_w hx]
 ·obtain ⟨x, hx⟩ : ∃ x, b.places[i - b.wins.length]? = some x := ⟨_, List.getElem?_eq_getElem (by omega)⟩;simp only [den_lt, shBR, cBR1, cBR0, EV, List.length_map, sub2 (show b.wins.length ≤ i by omega) (by omega), decide_eq_true_eq, ge_iff_le, if_pos (show (0 : Int) ≤ ((i - b.wins.length : Nat) : Int) by omega), tixM hx (lenI _), eltM hx, rowI, nodeV_p h hx]
theorem c266 {b : Brk} {i : Nat} (hi : i < b.wins.length + b.places.length) (hb : b.wins.length + b.places.length ≤ 1000) : Ans D 266 [BR b, .i64 (i : Int)] [.i64 (nodeV b.wins b.places i)] := by
 refine ans_of k266_ok s266 rfl ⟨1, ?_⟩;unfold k266;by_cases h : i < b.wins.length
 ·obtain ⟨x, hx⟩ : ∃ x, b.wins[i]? = some x := ⟨_, List.getElem?_eq_getElem h⟩;simp only [den_lt, shBR, cBR1, cBR0, EV, List.length_map, decide_eq_true_eq, if_lt h, tixM hx (lenI _), eltM hx, rowI, nodeV_w hx]
 ·obtain ⟨x, hx⟩ : ∃ x, b.places[i - b.wins.length]? = some x := ⟨_, List.getElem?_eq_getElem (by omega)⟩;simp only [den_lt, shBR, cBR1, cBR0, EV, List.length_map, sub2 (show b.wins.length ≤ i by omega) (by omega), decide_eq_true_eq, if_neg (show ¬ (i : Int) < (b.wins.length : Int) by omega), tixM hx (lenI _), eltM hx, rowI, nodeV_p h hx]
open Classical in
theorem c265 {l : List Int} (hl : l.length ≤ 1000) : Ans D 265 [sl I1 l] [.bool (decide (¬ onceP l))] := by
 refine ans_of k265_ok s265 rfl ⟨1001, ?_⟩;unfold k265;simp only [EV];refine (run_if (m := 1001) (n := l.length) (P := fun i => ∀ x, l[i]? = some x → 0 ≤ x → ∀ j, j < i → l[j]? ≠ some x) (st := fun i => [.i64 (i : Int)]) (r := some [.bool true]) (fin := some [.bool false]) (fun i self hi _ => ?_) (fun hall self => ?_) (by omega)).trans ?_
 ·have hx := nthI_some hi;generalize nthI l i = x at hx;have hP : (∀ x', l[i]? = some x' → 0 ≤ x' → ∀ j, j < i → l[j]? ≠ some x') ↔ (0 ≤ x → ∀ j, j < i → l[j]? ≠ some x) :=
   ⟨fun h => h x hx, fun h x' e => by rw [hx] at e; cases e; exact h⟩
  unfold k265_5;simp only [hP, EV, List.length_map, decide_eq_true_eq, if_lt hi];refine (run_if (m := 1001) (n := i) (P := fun j => 0 ≤ x → l[j]? ≠ some x) (st := fun i => [.i64 (i : Int)]) (r := some [.bool true]) (fin := self [.i64 ((i + 1 : Nat) : Int)]) (fun j self' hj _ => ?_) (fun _ self' => ?_) (by omega)).trans ?_
  ·have hy := nthI_some (l := l) (i := j) (by omega);generalize nthI l j = y at hy;unfold k265_4;simp only [tixM hx (lenI _), eltM hx, tixM hy (lenI _), eltM hy, rowI, EV, decide_eq_true_eq, if_lt hj, ge_iff_le, k265_3, up1 (show j < 1000000000 by omega), hy, ne_eq, Option.some.injEq]
   by_cases c0 : 0 ≤ x
   ·by_cases c1 : y = x
    ·simp [c0, c1]
    ·simp [c0, c1, Ne.symm c1]
   ·simp [c0]
  ·unfold k265_4;simp only [EV, decide_eq_true_eq, if_ge, k265_2, up1 (show i < 1000000000 by omega)]
  ·by_cases hq : 0 ≤ x → ∀ j, j < i → l[j]? ≠ some x
   ·rw [if_pos hq, if_pos (fun j hj h0 => hq h0 j hj)]
   ·rw [if_neg hq, if_neg (fun h => hq fun h0 j hj => h j hj h0)]
 ·unfold k265_5;simp only [EV, List.length_map, decide_eq_true_eq, if_ge, k265_1]
 ·by_cases h : onceP l
  ·rw [if_pos (show ∀ i, i < l.length → _ from h), decide_eq_false (by simpa using h)]
  ·rw [if_neg (show ¬ ∀ i, i < l.length → _ from h), decide_eq_true h]
def Bm (m : List (Int × Bool)) : PV := .sl (m.map fun p => [.i64 p.1] ++ [.bool p.2])
def bget : List (Int × Bool) → Int → Bool
 | [], _ => false
 | p :: m, k => if p.1 = k then p.2 else bget m k
def bset : List (Int × Bool) → Int → Bool → List (Int × Bool)
 | [], k, v => [(k, v)]
 | p :: m, k, v => if p.1 = k then (p.1, v) :: m else p :: bset m k v
theorem bget_set (k j : Int) (v : Bool) : ∀ m, bget (bset m k v) j = if j = k then v else bget m j
 | [] => by simp only [bset, bget]; by_cases h : k = j <;> simp [h, eq_comm]
 | p :: m => by
  unfold bset;by_cases h : p.1 = k
  ·rw [if_pos h];unfold bget;by_cases h2 : j = k
   ·rw [if_pos h2, if_pos (by rw [h, h2])]
   ·rw [if_neg h2, if_neg (by rw [h]; exact fun e => h2 e.symm), if_neg (by rw [h]; exact fun e => h2 e.symm)]
  ·rw [if_neg h];unfold bget;rw [bget_set k j v m];by_cases h2 : p.1 = j
   ·rw [if_pos h2, if_pos h2, if_neg (by rw [← h2]; exact h)]
   ·rw [if_neg h2, if_neg h2]
theorem mapGet_b (k : Int) : ∀ m : List (Int × Bool), (mapGet [.i] [.i64 k] (m.map fun p => [.i64 p.1] ++ [.bool p.2])).map (fun o => o.getD [.bool false]) = some [.bool (bget m k)]
 | [] => by simp [mapGet, bget, eqN]
 | p :: m => by
  simp only [List.map_cons, mapGet];rw [show List.take [Ck.i].length ([PV.i64 p.fst] ++ [PV.bool p.snd]) = [PV.i64 p.fst] from rfl, show List.drop [Ck.i].length ([PV.i64 p.fst] ++ [PV.bool p.snd]) = [PV.bool p.snd] from rfl, eqN]
  unfold bget;by_cases e : p.1 = k
  ·rw [decide_eq_true e, if_pos e]; rfl
  ·rw [decide_eq_false e, if_neg e];exact mapGet_b k m
theorem mapSet_b (k : Int) (v : Bool) : ∀ m : List (Int × Bool), mapSet [.i] [.i64 k] [.bool v] (m.map fun p => [.i64 p.1] ++ [.bool p.2]) = some ((bset m k v).map fun p => [.i64 p.1] ++ [.bool p.2])
 | [] => by simp [mapSet, bset, eqN]
 | p :: m => by
  simp only [List.map_cons, mapSet];rw [show List.take [Ck.i].length ([PV.i64 p.fst] ++ [PV.bool p.snd]) = [PV.i64 p.fst] from rfl, eqN]
  unfold bset;by_cases e : p.1 = k
  ·rw [decide_eq_true e, if_pos e];simp [e]
  ·rw [decide_eq_false e, if_neg e];simp only;rw [mapSet_b k v m];rfl
theorem getBm (m : List (Int × Bool)) (k : Int) : RF.ev (.mget [.i] [.v (.bool false)]) [Bm m, .v (.int .i64 k)] = some (.bool (bget m k)) := by
 have h := mapGet_b k m;unfold Bm;simp only [RF.ev, show (PV.v (.int .i64 k)).cells = [.i64 k] from rfl]
 cases hg : mapGet [.i] [.i64 k] (m.map fun p => [.i64 p.1] ++ [.bool p.2]) with
 | none => rw [hg] at h; cases h
 | some o =>
  rw [hg] at h;simp only [Option.map_some, Option.some.injEq] at h;cases o with
  | none => simp only [Option.getD_none] at h; simp only [h]; rfl
  | some r => simp only [Option.getD_some] at h; subst h; rfl
theorem setBm (m : List (Int × Bool)) (k : Int) (v : Bool) : RF.ev (.mset [.i] 1) [Bm m, .v (.int .i64 k), .v (.bool v)] = some (Bm (bset m k v)) := by
 have h := mapSet_b k v m;unfold Bm;simp only [RF.ev, show (PV.v (.int .i64 k)).cells = [.i64 k] from rfl, show (PV.v (.bool v)).cells = [.bool v] from rfl, h]
 rfl
def mAt (l : List Int) (i : Nat) : List (Int × Bool) := (l.take i).foldl (fun m x => bset m x (decide (0 ≤ x))) [(-1, false)]
theorem bget_fold : ∀ (l : List Int) (m : List (Int × Bool)) (k : Int), bget (l.foldl (fun m x => bset m x (decide (0 ≤ x))) m) k = if k ∈ l then decide (0 ≤ k) else bget m k
 | [], m, k => by simp
 | x :: l, m, k => by
  rw [List.foldl_cons, bget_fold l, bget_set];by_cases h : k ∈ l
  ·simp [h]
  ·by_cases e : k = x
   ·subst e; simp [h]
   ·simp [h, e]
theorem bget_at {l : List Int} {i : Nat} {x : Int} (hx : l[i]? = some x) : bget (mAt l i) x = decide (¬ ∀ y, l[i]? = some y → 0 ≤ y → ∀ j, j < i → l[j]? ≠ some y) := by
 unfold mAt;rw [bget_fold];have e1 : (¬ ∀ y, l[i]? = some y → 0 ≤ y → ∀ j, j < i → l[j]? ≠ some y) ↔ (x ∈ l.take i ∧ 0 ≤ x) := by
  constructor
  ·intro h;simp only [Classical.not_forall, Classical.not_not, not_imp] at h;obtain ⟨y, h1, h2, j, h3, h4⟩ := h;rw [hx] at h1; cases h1;exact ⟨List.mem_iff_getElem?.2 ⟨j, by rw [List.getElem?_take, if_pos h3]; exact h4⟩, h2⟩
  ·rintro ⟨h1, h2⟩ h;obtain ⟨j, hj⟩ := List.mem_iff_getElem?.1 h1;rw [List.getElem?_take] at hj;split at hj
   ·rename_i h3;exact h x hx h2 j h3 hj
   ·cases hj
 rw [show decide (¬ ∀ y, l[i]? = some y → 0 ≤ y → ∀ j, j < i → l[j]? ≠ some y) = decide (x ∈ l.take i ∧ 0 ≤ x) from decide_eq_decide.2 e1]
 by_cases h : x ∈ l.take i
 ·simp [h]
 ·rw [if_neg h, decide_eq_false (fun e => h e.1)];unfold bget bget;split <;> rfl
theorem mAt_succ {l : List Int} {i : Nat} {x : Int} (hx : l[i]? = some x) : bset (mAt l i) x (decide (0 ≤ x)) = mAt l (i + 1) := by
 unfold mAt;rw [List.take_add_one, hx];simp [List.foldl_append]
open Classical in
theorem c250 {l : List Int} (hl : l.length ≤ 1000) : Ans D 250 [sl I1 l] [.bool (decide (onceP l))] := by
 refine ans_of k250_ok s250 rfl ⟨1001, ?_⟩;unfold k250;have e0 : RF.ev (.mset [.i] 1) [.sl [], .v (.int .i64 (-1)), .v (.bool false)] = some (Bm (mAt l 0)) := setBm [] (-1) false;simp only [e0, EV, List.length_map];refine (run_if (m := 1001) (n := l.length) (P := fun i => ∀ x, l[i]? = some x → 0 ≤ x → ∀ j, j < i → l[j]? ≠ some x) (st := fun i => [Bm (mAt l i), .i64 (i : Int)]) (r := some [.bool false]) (fin := some [.bool true]) (fun i self hi _ => ?_) (fun hall self => ?_) (by omega)).trans ?_
 ·have hx := nthI_some hi;generalize nthI l i = x at hx;unfold k250_2;simp only [tixM hx (lenI _), eltM hx, rowI, EV, decide_eq_true_eq, if_lt hi, getBm, bget_at hx, ge_iff_le, setBm, mAt_succ hx, up1 (show i < 1000000000 by omega)]
  by_cases hq : ∀ y, l[i]? = some y → 0 ≤ y → ∀ j, j < i → l[j]? ≠ some y
  ·rw [decide_eq_false (not_not_intro hq), if_pos hq];simp only [EV, Bool.not_false, Bool.not_true, Bool.false_eq_true, if_false]
  ·rw [decide_eq_true hq, if_neg hq];simp only [EV, Bool.not_false, Bool.not_true, if_true];rw [decide_eq_true (show (0 : Int) ≤ (i : Int) by omega)]
   rfl
 ·unfold k250_2 k250_1;simp only [EV, decide_eq_true_eq, if_ge];rfl
 ·by_cases h : onceP l
  ·rw [if_pos (show ∀ i, i < l.length → _ from h), decide_eq_true h]
  ·rw [if_neg (show ¬ ∀ i, i < l.length → _ from h), decide_eq_false h]
theorem wn {b : Brk} {i : Nat} (hi : i < b.wins.length) : b.wins[i]? = some (nodeV b.wins b.places i) := by
 obtain ⟨x, hx⟩ : ∃ x, b.wins[i]? = some x := ⟨_, List.getElem?_eq_getElem hi⟩;rw [hx, nodeV_w hx]
open Classical in
theorem c157 {b : Brk} (h1 : b.places.length ≤ 70) (h2 : b.wins.length ≤ 70) : Ans D 157 [BR b] [.i64 (okE (decide (BrkP b.wins b.places)))] := by
 have no : ∀ h : ¬ BrkP b.wins b.places, (some [PV.v (.int .i64 8)] : Option (List PV)) = some [.i64 (okE (decide (BrkP b.wins b.places)))] := fun h => by rw [decide_eq_false h]; rfl
 refine ans_of k157_ok s157 rfl ⟨1001, ?_⟩;unfold k157;have wp : IntKind.i64.wrap ((b.places.length : Int) - 1) = (b.places.length : Int) - 1 := w_i64 (by omega) (by omega);simp only [den_lt, shBR, cBR0, cBR1, EV, List.length_map, wp, phi (c250 (l := b.places) (by omega)), decide_eq_true_eq, Bool.not_eq_true', decide_eq_false_iff_not];by_cases a1 : b.places.length < 1
 ·rw [if_pos (by omega)];exact no (fun h => by have := h.1.1.1; omega)
 rw [if_neg (by omega)];by_cases a2 : 64 < b.places.length
 ·rw [if_pos (by omega)];exact no (fun h => by have := h.1.1.2.1; omega)
 rw [if_neg (by omega)];by_cases a3 : b.places.length = b.wins.length + 1
 rotate_left
 ·rw [if_pos (by omega)];exact no (fun h => a3 h.1.1.2.2)
 rw [if_neg (by omega)];by_cases a4 : onceP b.places
 rotate_left
 ·rw [if_pos (by simpa using a4)]
  exact no (fun h => a4 h.1.2.1)
 rw [if_neg (by simpa using a4)]
 refine (run_list (m := 1001) (l := b.places) (p := fun x => decide (-1 ≤ x) && decide (x ≤ 65535)) (st := fun i => [.i64 (i : Int)]) (r := some [.i64 8]) (fin := some [.i64 (okE (decide (BrkP b.wins b.places)))]) (fun i x self hx _ => ?_) (fun hall self => ?_) (by omega)).trans ?_
 ·unfold k157_9;simp only [den_lt, cBR0, EV, decide_eq_true_eq, if_lt (get_lt hx), tixM hx (lenI _), eltM hx, rowI];have u1 := up1 (show i < 1000000000 by have := get_lt hx; omega)
  have g0 : decide ((i : Int) ≥ 0) = true := decide_eq_true (by omega);by_cases c1 : -1 ≤ x
  ·rw [if_pos (by omega)];by_cases c2 : x ≤ 65535
   ·simp only [k157_8, EV, c1, c2, decide_true, Bool.not_true, Bool.false_eq_true, if_false, u1, Bool.and_self, if_true]
   ·simp only [k157_8, EV, c1, c2, decide_true, decide_false, Bool.not_true, Bool.not_false, Bool.false_eq_true, if_false, if_true, g0, Bool.and_false]
  ·rw [if_neg (by omega)];simp only [k157_8, EV, c1, decide_false, Bool.not_false, Bool.not_true, if_true, g0, Bool.false_and, Bool.false_eq_true, if_false]
 ·have hbase : BrkBase b.wins b.places := ⟨⟨by omega, by omega, a3⟩, a4, fun x hx => by have := List.all_eq_true.1 hall x hx; simp at this; omega⟩;unfold k157_9;simp only [den_lt, cBR1, EV, List.length_map, decide_eq_true_eq, if_ge, k157_4, Bool.not_true, Bool.not_false, Bool.false_eq_true, if_false, show decide ((-1 : Int) ≥ 0) = false from rfl]
  refine (run_if (m := 1001) (n := b.wins.length) (P := fun i => pickA b.wins b.places i ∧ ¬ (nodeV b.wins b.places i < 0 ∧ 0 ≤ max (nodeV b.wins b.places (2 * i + 1)) (nodeV b.wins b.places (2 * i + 2)))) (st := fun i => [.i64 (i : Int)]) (r := some [.i64 8]) (fin := some [.i64 0]) (fun i self hi _ => ?_) (fun _ self => ?_) (by omega)).trans ?_
  ·have hx := wn hi;unfold k157_3 pickA;simp only [den_lt, cBR1, EV, decide_eq_true_eq, if_lt hi, tixM hx (lenI _), eltM hx, rowI, dbl (show i < 100000000 by omega), up1 (show 2 * i < 1000000000 by omega), up2 (show 2 * i < 1000000000 by omega), phi (c242 (b := b) (i := 2 * i + 1) (by omega) (by omega)), phi (c242 (b := b) (i := 2 * i + 2) (by omega) (by omega)), mmX, ge_iff_le, k157_2, up1 (show i < 1000000000 by omega), Bool.not_eq_true', decide_eq_false_iff_not]
   generalize nodeV b.wins b.places i = w;generalize nodeV b.wins b.places (2 * i + 1) = p;generalize nodeV b.wins b.places (2 * i + 2) = q;by_cases c1 : w = p
   ·by_cases c3 : w < 0
    ·by_cases c4 : 0 ≤ max p q <;> simp [c1, c3, c4]
     all_goals (subst c1; simp [c3, c4] <;> intro h <;> omega)
    ·simp [c1, c3];subst c1; simp [c3]
   ·by_cases c2 : w = q
    ·by_cases c3 : w < 0
     ·by_cases c4 : 0 ≤ max p q <;> simp [c1, c2, c3, c4]
      all_goals (subst c2; simp [c1, c3, c4] <;> intro h <;> omega)
     ·simp [c1, c2, c3];subst c2; simp [c1, c3]
    ·simp [c1, c2]
  ·unfold k157_3;simp only [EV, decide_eq_true_eq, if_ge, k157_1]
  ·by_cases hr : BrkP b.wins b.places
   ·rw [if_pos hr.2, decide_eq_true hr]; rfl
   ·rw [if_neg (fun h => hr ⟨hbase, h⟩), decide_eq_false hr]; rfl
 ·by_cases hr : BrkP b.wins b.places
  ·rw [if_pos (by rw [List.all_eq_true]; intro x hx; have := hr.1.2.2 x hx; simp; omega)]
  ·split
   ·rfl
   ·exact no hr
open Classical in
theorem c171 {b : Brk} (h1 : b.places.length ≤ 70) (h2 : b.wins.length ≤ 70) : Ans D 171 [BR b] [.i64 (okE (decide (BrkP b.wins b.places)))] := by
 rw [show decide (BrkP b.wins b.places) = decide (BrkR b.wins b.places) from decide_eq_decide.2 brk_same]
 have no : ∀ h : ¬ BrkR b.wins b.places, (some [PV.v (.int .i64 8)] : Option (List PV)) = some [.i64 (okE (decide (BrkR b.wins b.places)))] := fun h => by rw [decide_eq_false h]; rfl
 refine ans_of k171_ok s171 rfl ⟨1001, ?_⟩;unfold k171;have wp : IntKind.i64.wrap ((b.places.length : Int) - 1) = (b.places.length : Int) - 1 := w_i64 (by omega) (by omega);simp only [den_lt, shBR, cBR0, cBR1, EV, List.length_map, wp, phi (c265 (l := b.places) (by omega)), decide_eq_true_eq, Bool.not_eq_true', decide_eq_false_iff_not];by_cases a1 : b.places.length < 1
 ·rw [if_pos (by omega)];exact no (fun h => by have := h.1.1.1; omega)
 rw [if_neg (by omega)];by_cases a2 : 64 < b.places.length
 ·rw [if_pos (by omega)];exact no (fun h => by have := h.1.1.2.1; omega)
 rw [if_neg (by omega)];by_cases a3 : b.places.length = b.wins.length + 1
 rotate_left
 ·rw [if_pos (by omega)];exact no (fun h => a3 h.1.1.2.2)
 rw [if_neg (by omega)];by_cases a4 : onceP b.places
 rotate_left
 ·rw [if_pos a4];exact no (fun h => a4 h.1.2.1)
 rw [if_neg (by simpa using a4)]
 refine (run_list (m := 1001) (l := b.places) (p := fun x => decide (-1 ≤ x) && decide (x ≤ 65535)) (st := fun i => [.i64 (i : Int)]) (r := some [.i64 8]) (fin := some [.i64 (okE (decide (BrkR b.wins b.places)))]) (fun i x self hx _ => ?_) (fun hall self => ?_) (by omega)).trans ?_
 ·unfold k171_5;simp only [den_lt, cBR0, EV, decide_eq_true_eq, if_lt (get_lt hx), tixM hx (lenI _), eltM hx, rowI, up1 (show i < 1000000000 by have := get_lt hx; omega)]
  by_cases c1 : x < -1
  ·rw [if_pos c1, if_neg (by simp; omega)]
  ·rw [if_neg c1];by_cases c2 : 65535 < x
   ·rw [if_pos c2, if_neg (by simp; omega)]
   ·rw [if_neg c2, if_pos (by simp; omega)]
 ·have hbase : BrkBase b.wins b.places := ⟨⟨by omega, by omega, a3⟩, a4, fun x hx => by have := List.all_eq_true.1 hall x hx; simp at this; omega⟩;unfold k171_5;simp only [EV, decide_eq_true_eq, if_ge, k171_4];refine (run_if (m := 1001) (n := b.wins.length) (P := fun i => pickA b.wins b.places i ∧ ¬ (nodeV b.wins b.places i = -1 ∧ (nodeV b.wins b.places (2 * i + 1) ≠ -1 ∨ nodeV b.wins b.places (2 * i + 2) ≠ -1))) (st := fun i => [.i64 (i : Int)]) (r := some [.i64 8]) (fin := some [.i64 0]) (fun i self hi _ => ?_) (fun _ self => ?_) (by omega)).trans ?_
  ·have hx := wn hi;unfold k171_3 pickA;simp only [den_lt, cBR1, EV, List.length_map, decide_eq_true_eq, if_lt hi, tixM hx (lenI _), eltM hx, rowI, dbl (show i < 100000000 by omega), up1 (show 2 * i < 1000000000 by omega), up2 (show 2 * i < 1000000000 by omega), phi (c266 (b := b) (i := 2 * i + 1) (by omega) (by omega)), phi (c266 (b := b) (i := 2 * i + 2) (by omega) (by omega)), k171_2, up1 (show i < 1000000000 by omega), Bool.not_eq_true', decide_eq_false_iff_not]
   generalize nodeV b.wins b.places i = w;generalize nodeV b.wins b.places (2 * i + 1) = p;generalize nodeV b.wins b.places (2 * i + 2) = q;by_cases c1 : w = p
   ·by_cases c3 : w = -1
    ·by_cases c4 : p = -1
     ·by_cases c5 : q = -1 <;> simp [c1, c3, c4, c5]
     ·omega
    ·simp only [c1, c3];subst c1;simp [c3]
   ·by_cases c2 : w = q
    ·by_cases c3 : w = -1
     ·subst c3; subst c2;simp [c1, Ne.symm c1]
     ·subst c2;simp [c1, c3]
    ·simp [c1, c2]
  ·unfold k171_3;simp only [den_lt, cBR1, EV, List.length_map, decide_eq_true_eq, if_ge, k171_1]
  ·by_cases hr : BrkR b.wins b.places
   ·rw [if_pos hr.2, decide_eq_true hr]; rfl
   ·rw [if_neg (fun h => hr ⟨hbase, h⟩), decide_eq_false hr]; rfl
 ·by_cases hr : BrkR b.wins b.places
  ·rw [if_pos (by rw [List.all_eq_true]; intro x hx; have := hr.1.2.2 x hx; simp; omega)]
  ·split
   ·rfl
   ·exact no hr
end Go.Proofs.YtfghdmmapmdcgaaGreat
