import Derived.Test.YtfghdmmapmdcgaaGreatDB
set_option linter.unusedVariables false
set_option linter.unusedSimpArgs false
set_option linter.defProp false
noncomputable section
namespace Go.Proofs.YtfghdmmapmdcgaaGreat
open Go.Sym Bnd
set_option maxRecDepth 100000
def edB (w p : List Int) (i : Nat) : List Crt := if 0 ≤ nodeV w p (2 * i + 1) ∧ 0 ≤ nodeV w p (2 * i + 2) then [⟨nodeV w p (2 * i + 1) + nodeV w p (2 * i + 2) - nodeV w p i, nodeV w p i⟩] else []
def edsB (w p : List Int) (n : Nat) : List Crt := (List.range n).flatMap (edB w p)
theorem edsB_succ (w p : List Int) (n : Nat) : edsB w p (n + 1) = edsB w p n ++ edB w p n := by
 unfold edsB; rw [List.range_succ, List.flatMap_append]; simp
theorem edsB_len (w p : List Int) : ∀ n, (edsB w p n).length ≤ n
 | 0 => by simp [edsB]
 | n + 1 => by
  have := edsB_len w p n;rw [edsB_succ, List.length_append];unfold edB;split <;> simp <;> omega
theorem valK_bnd {l : List Pt} (h : okF l) {x : Int} (hv : valK l x) : -1 ≤ x ∧ x ≤ 65535 := by
 rcases valK_in h hv with e | ⟨i, p, p1, p2, _⟩
 ·omega
 ·have := ids_nonneg h p (List.mem_of_getElem? p1); omega
theorem nodeV_two {w p : List Int} {j : Nat} (hj : j < w.length + p.length) : (j < w.length → w[j]? = some (nodeV w p j)) ∧ (¬ j < w.length → p[j - w.length]? = some (nodeV w p j)) := by
 constructor
 ·intro h;obtain ⟨x, hx⟩ : ∃ x, w[j]? = some x := ⟨_, List.getElem?_eq_getElem h⟩;rw [hx, nodeV_w hx]
 ·intro h;obtain ⟨x, hx⟩ : ∃ x, p[j - w.length]? = some x := ⟨_, List.getElem?_eq_getElem (by omega)⟩;rw [hx, nodeV_p h hx]
open Classical in
theorem c123 {l : List Pt} {t : Rt} {pl : List Int} (h : okF l) (ht : In64 t) (hr : rok t = true) (h1 : 1 ≤ pl.length) (h2 : pl.length ≤ 64) (hv : ∀ x ∈ pl, valK l x) (ho : onceP pl) {w : List Int} (hw : w = playD (wonI t l) pl (pl.length - 1) (pl.length - 1)) : Ans D 123 [F l, R t, sl I1 pl] [BR ⟨pl, w⟩, sl crow (edsB w pl w.length)] := by
 have hlen : w.length = pl.length - 1 := by rw [hw, playD_len]
 have hP : ∀ j, valK l (nodeV w pl j) := fun j => by rw [hw]; exact playD_P (P := valK l) (.inl rfl) (won := wonI t l) (fun a b => wonI_val a b) hv _ (Nat.le_refl _) j (by omega)
 have e218 := phi (c218 h ht hr h1 h2 hv ho);rw [← hw] at e218;refine ans_of k123_ok s123 rfl ⟨1001, ?_⟩;unfold k123;simp only [den_lt, shapeF, shapeR, EV, e218, shBR, cBR1, List.length_map];have e0 : ([PV.sl [], .v (.int .i64 0), .v (.int .i64 0)] : List PV) = [sl crow (edsB w pl 0), .i64 ((edsB w pl 0).length : Int), .i64 ((0 : Nat) : Int)] := rfl;rw [e0];refine (run_up (m := 1001) (n := w.length) (st := fun i => [sl crow (edsB w pl i), .i64 ((edsB w pl i).length : Int), .i64 (i : Int)]) (fun i self hi => ?_) (fun self => ?_) (by omega))
 ·have hx := wn (b := ⟨pl, w⟩) (i := i) hi;have hel := edsB_len w pl i;have b0 := valK_bnd h (hP i);have b1 := valK_bnd h (hP (2 * i + 1));have b2 := valK_bnd h (hP (2 * i + 2));have c1' : (2 * i + 1 < w.length → w[2 * i + 1]? = some (nodeV w pl (2 * i + 1))) ∧ (¬ 2 * i + 1 < w.length → pl[2 * i + 1 - w.length]? = some (nodeV w pl (2 * i + 1))) := nodeV_two (by omega);have c2' : (2 * i + 2 < w.length → w[2 * i + 2]? = some (nodeV w pl (2 * i + 2))) ∧ (¬ 2 * i + 2 < w.length → pl[2 * i + 2 - w.length]? = some (nodeV w pl (2 * i + 2))) := nodeV_two (by omega);simp only at hx;rw [edsB_succ];unfold edB;generalize nodeV w pl i = v at hx b0;generalize nodeV w pl (2 * i + 1) = a at b1 c1';generalize nodeV w pl (2 * i + 2) = b at b2 c2';have w1 : IntKind.i64.wrap (a + b) = a + b := w_i64 (by omega) (by omega);have w2 : IntKind.i64.wrap (a + b - v) = a + b - v := w_i64 (by omega) (by omega);have ap := appM (f := crow) (l := edsB w pl i) (k := [⟨a + b - v, v⟩]) (bytes := 16) (z := 2) (by simp; omega) lenC;have u1 := up1 (show i < 1000000000 by omega)
  unfold k123_11;by_cases q1 : 2 * i + 1 < w.length
  ·have r1 := c1'.1 q1;by_cases q2 : 2 * i + 2 < w.length
   ·have r2 := c2'.1 q2;simp only [den_lt, cBR1, cBR0, EV, List.length_map, decide_eq_true_eq, if_lt hi, tixM hx (lenI _), eltM hx, rowI, dbl (show i < 100000000 by omega), up1 (show 2 * i < 1000000000 by omega), up2 (show 2 * i < 1000000000 by omega), if_lt q1, if_lt q2, tixM r1 (lenI _), eltM r1, tixM r2 (lenI _), eltM r2, ge_iff_le, k123_4, k123_3, k123_2, u1, w1, w2, aggC, bsC, subC1]
    by_cases g1 : 0 ≤ a
    ·by_cases g2 : 0 ≤ b
     ·simp only [g1, g2, if_true, decide_true, and_self, ap, denF_some, den_lt, EV, List.length_map, u1]
     ·simp only [g1, g2, if_true, decide_false, and_false, if_false, Bool.false_eq_true, List.append_nil]
    ·simp only [g1, if_false, false_and, Bool.false_eq_true, List.append_nil]
   ·have r2 := c2'.2 q2;simp only [den_lt, cBR1, cBR0, EV, List.length_map, decide_eq_true_eq, if_lt hi, tixM hx (lenI _), eltM hx, rowI, dbl (show i < 100000000 by omega), up1 (show 2 * i < 1000000000 by omega), up2 (show 2 * i < 1000000000 by omega), if_lt q1, if_neg (show ¬ ((2 * i + 2 : Nat) : Int) < (w.length : Int) by omega), sub2 (show w.length ≤ 2 * i + 2 by omega) (by omega), tixM r1 (lenI _), eltM r1, tixM r2 (lenI _), eltM r2, ge_iff_le, k123_6, k123_5, k123_2, u1, w1, w2, aggC, bsC, subC1]
    by_cases g1 : 0 ≤ a
    ·by_cases g2 : 0 ≤ b
     ·simp only [g1, g2, if_true, decide_true, and_self, ap, denF_some, den_lt, EV, List.length_map, u1]
     ·simp only [g1, g2, if_true, decide_false, and_false, if_false, Bool.false_eq_true, List.append_nil]
    ·simp only [g1, if_false, false_and, Bool.false_eq_true, List.append_nil]
  ·have r1 := c1'.2 q1;have q2 : ¬ 2 * i + 2 < w.length := by omega
   have r2 := c2'.2 q2;simp only [den_lt, cBR1, cBR0, EV, List.length_map, decide_eq_true_eq, if_lt hi, tixM hx (lenI _), eltM hx, rowI, dbl (show i < 100000000 by omega), up1 (show 2 * i < 1000000000 by omega), up2 (show 2 * i < 1000000000 by omega), if_neg (show ¬ ((2 * i + 1 : Nat) : Int) < (w.length : Int) by omega), if_neg (show ¬ ((2 * i + 2 : Nat) : Int) < (w.length : Int) by omega), sub2 (show w.length ≤ 2 * i + 1 by omega) (by omega), sub2 (show w.length ≤ 2 * i + 2 by omega) (by omega), tixM r1 (lenI _), eltM r1, tixM r2 (lenI _), eltM r2, ge_iff_le, k123_10, k123_9, k123_2, u1, w1, w2, aggC, bsC, subC1]
   by_cases g1 : 0 ≤ a
   ·by_cases g2 : 0 ≤ b
    ·simp only [g1, g2, if_true, decide_true, and_self, ap, denF_some, den_lt, EV, List.length_map, u1]
    ·simp only [g1, g2, if_true, decide_false, and_false, if_false, Bool.false_eq_true, List.append_nil]
   ·simp only [g1, if_false, false_and, Bool.false_eq_true, List.append_nil]
 ·unfold k123_11;simp only [EV, decide_eq_true_eq, if_ge, k123_1, subM, den_lt]
theorem c176 {b : Brk} (h1 : b.places.length = b.wins.length + 1) (h2 : b.places.length ≤ 70) (hk : ∀ i, i < b.wins.length → pickA b.wins b.places i) (hb : ∀ j, -1 ≤ nodeV b.wins b.places j ∧ nodeV b.wins b.places j ≤ 65535) : Ans D 176 [BR b] [sl crow (edsB b.wins b.places b.wins.length)] := by
 refine ans_of k176_ok s176 rfl ⟨1001, ?_⟩;unfold k176;simp only [den_lt, shBR, EV];have e0 : ([PV.sl [], .v (.int .i64 0), .v (.int .i64 0)] : List PV) = [sl crow (edsB b.wins b.places 0), .i64 ((edsB b.wins b.places 0).length : Int), .i64 ((0 : Nat) : Int)] := rfl;rw [e0];refine (run_up (m := 1001) (n := b.wins.length) (st := fun i => [sl crow (edsB b.wins b.places i), .i64 ((edsB b.wins b.places i).length : Int), .i64 (i : Int)]) (fun i self hi => ?_) (fun self => ?_) (by omega))
 ·have hx := wn (b := b) (i := i) hi;have hel := edsB_len b.wins b.places i;have hpk := hk i hi;have b0 := hb i;have b1 := hb (2 * i + 1);have b2 := hb (2 * i + 2);have c1' := phi (c266 (b := b) (i := 2 * i + 1) (by omega) (by omega));have c2' := phi (c266 (b := b) (i := 2 * i + 2) (by omega) (by omega));rw [edsB_succ];unfold edB;unfold pickA at hpk;generalize nodeV b.wins b.places i = v at hx b0 hpk;generalize nodeV b.wins b.places (2 * i + 1) = p at b1 c1' hpk;generalize nodeV b.wins b.places (2 * i + 2) = q at b2 c2' hpk;have ap := fun c => appM (f := crow) (l := edsB b.wins b.places i) (k := [c]) (bytes := 16) (z := 2) (by simp; omega) lenC;unfold k176_4;simp only [den_lt, cBR1, EV, List.length_map, decide_eq_true_eq, if_lt hi, dbl (show i < 100000000 by omega), up1 (show 2 * i < 1000000000 by omega), up2 (show 2 * i < 1000000000 by omega), c1', c2', k176_2, up1 (show i < 1000000000 by omega), tixM hx (lenI _), eltM hx, rowI, k176_3, aggC, bsC, subC1, ap]
  by_cases g1 : p < 0
  ·rw [if_pos g1, if_neg (by omega), List.append_nil]
  by_cases g2 : q < 0
  ·rw [if_neg g1, if_pos g2, if_neg (by omega), List.append_nil]
  rw [if_neg g1, if_neg g2, if_pos (show 0 ≤ p ∧ 0 ≤ q by omega)]
  by_cases g3 : v = p
  ·rw [if_pos g3, g3, show p + q - p = q by omega]
  ·rw [if_neg g3, show v = q by omega, show p + q - q = p by omega]
 ·unfold k176_4;simp only [den_lt, cBR1, EV, List.length_map, decide_eq_true_eq, if_ge, k176_1, subM]
open Classical in
theorem c175 {b : Brk} {l : List Pt} {t : Rt} (h : okF l) (ht : In64 t) (h1 : b.places.length = b.wins.length + 1) (h2 : b.places.length ≤ 70) (hv : ∀ j, valK l (nodeV b.wins b.places j)) : Ans D 175 [BR b, F l, R t] [.bool (decide (FineW (wonI t l) b.wins b.places))] := by
 refine ans_of k175_ok s175 rfl ⟨1001, ?_⟩;unfold k175;simp only [den_lt, shBR, shapeF, shapeR, EV];refine (run_if (m := 1001) (n := b.wins.length) (P := fun i => nodeV b.wins b.places i = wonI t l (nodeV b.wins b.places (2 * i + 1)) (nodeV b.wins b.places (2 * i + 2))) (st := fun i => [.i64 (i : Int)]) (r := some [.bool false]) (fin := some [.bool true]) (fun i self hi _ => ?_) (fun _ self => ?_) (by omega)).trans ?_
 ·have hx := wn (b := b) (i := i) hi;unfold k175_2;simp only [den_lt, cBR1, EV, List.length_map, decide_eq_true_eq, if_lt hi, dbl (show i < 100000000 by omega), up1 (show 2 * i < 1000000000 by omega), up2 (show 2 * i < 1000000000 by omega), phi (c266 (b := b) (i := 2 * i + 1) (by omega) (by omega)), phi (c266 (b := b) (i := 2 * i + 2) (by omega) (by omega)), phi (c267 h ht (hv (2 * i + 1)) (hv (2 * i + 2))), up1 (show i < 1000000000 by omega), tixM hx (lenI _), eltM hx, rowI, Bool.not_eq_true', decide_eq_false_iff_not]
  by_cases g : nodeV b.wins b.places i = wonI t l (nodeV b.wins b.places (2 * i + 1)) (nodeV b.wins b.places (2 * i + 2))
  ·rw [if_neg (by simpa using g), if_pos g]
  ·rw [if_pos g, if_neg g]
 ·unfold k175_2;simp only [den_lt, cBR1, EV, List.length_map, decide_eq_true_eq, if_ge, k175_1]
 ·by_cases h : FineW (wonI t l) b.wins b.places
  ·rw [if_pos (show ∀ i, i < b.wins.length → _ from h), decide_eq_true h]
  ·rw [if_neg (show ¬ ∀ i, i < b.wins.length → _ from h), decide_eq_false h]
def szd (n : Nat) : Bool := decide (n ∈ [1, 2, 4, 8, 16, 32, 64])
theorem szd_and : ∀ n : Nat, n < 65 → 1 ≤ n → ((BitVec.ofInt 64 (n : Int) &&& BitVec.ofInt 64 ((n : Int) - 1)).toNat = 0 ↔ szd n = true) := by decide
theorem c172 {n : Nat} (h : n ≤ 1000) : Ans D 172 [.i64 (n : Int)] [.bool (szd n)] := by
 have wr : ∀ m : Nat, m ≤ 1000 → IntKind.i64.wrap ((m : Int) * 2) = ((m * 2 : Nat) : Int) := fun m hm => by rw [w_i64 (by omega) (by omega)]; omega
 refine ans_of k172_ok s172 rfl ⟨1001, ?_⟩;unfold k172;simp only [EV];refine (run_find (m := 1001) (l := [1, 2, 4, 8, 16, 32, 64]) (p := fun a : Nat => decide (n = a)) (st := fun i => [.i64 ((2 ^ i : Nat) : Int)]) (ret := fun _ => some [.bool true]) (fin := some [.bool false]) (fun i a self ha => ?_) (fun self => ?_) (by decide)).trans ?_
 ·have hi := get_lt ha;have ha2 : a = 2 ^ i := by
   match i, hi with
   | 0, _ => simpa using ha.symm
   | 1, _ => simpa using ha.symm
   | 2, _ => simpa using ha.symm
   | 3, _ => simpa using ha.symm
   | 4, _ => simpa using ha.symm
   | 5, _ => simpa using ha.symm
   | 6, _ => simpa using ha.symm
  have h64 : 2 ^ i ≤ 64 := by
   have : i ≤ 6 := by simp at hi; omega
   exact Nat.le_trans (Nat.pow_le_pow_right (by omega) this) (by decide)
  have hnx : 2 ^ (i + 1) = 2 ^ i * 2 := Nat.pow_succ ..;rw [hnx];subst ha2;generalize 2 ^ i = m at h64;unfold k172_2;simp only [EV, decide_eq_true_eq, if_pos (show (m : Int) ≤ 64 by omega), wr m (by omega)]
  by_cases c : n = m
  ·rw [if_pos (by omega), if_pos c]
  ·rw [if_neg (by omega), if_neg c]
 ·unfold k172_2;simp only [EV, List.length_cons, List.length_nil, show decide ((((2 : Nat) ^ (0 + 1 + 1 + 1 + 1 + 1 + 1 + 1) : Nat) : Int) ≤ 64) = false from rfl, Bool.false_eq_true, if_false, k172_1]
 ·cases e : List.findIdx? (fun a : Nat => decide (n = a)) [1, 2, 4, 8, 16, 32, 64] with
  | none =>
   rw [List.findIdx?_eq_none_iff] at e;have : szd n = false := decide_eq_false (fun h => by have := e n h; simp at this);rw [this]; rfl
  | some i =>
   obtain ⟨hi, h2, _⟩ := List.findIdx?_eq_some_iff_getElem.1 e;have : szd n = true := decide_eq_true (by rw [of_decide_eq_true h2]; exact List.getElem_mem hi);rw [this]; rfl
theorem c174 {l : List Int} (hl : l.length ≤ 1000) : Ans D 174 [sl I1 l] [sl I1 (l.filter fun x => decide (0 ≤ x))] := by
 refine ans_of k174_ok s174 rfl ⟨1001, ?_⟩;unfold k174;simp only [EV];have e0 : ([PV.sl [], .v (.int .i64 0), .v (.int .i64 0)] : List PV) = [sl I1 [], .i64 (([] : List Int).length : Int), .i64 ((0 : Nat) : Int)] := rfl;rw [e0];refine (run_fold (m := 1001) (l := l) (g := fun acc x => if 0 ≤ x then acc ++ [x] else acc) (I := fun k acc => acc.length ≤ k) (S := fun acc k => [sl I1 acc, .i64 (acc.length : Int), .i64 (k : Int)]) (fin := fun acc => some [sl I1 acc]) (x := []) (by simp) (fun k a acc _ h => by
   split
   ·rw [List.length_append, List.length_singleton]; omega
   ·omega) (fun k x acc self hx hI => ?_) (fun acc self hI => ?_) (by omega)).1.trans ?_
 ·have hk := get_lt hx;have ap := appM (f := I1) (l := acc) (k := [x]) (bytes := 8) (z := 1) (by simp; omega) lenI;unfold k174_3;simp only [den_lt, EV, List.length_map, decide_eq_true_eq, if_lt hk, tixM hx (lenI _), eltM hx, rowI, ge_iff_le, k174_2, up1 (show k < 1000000000 by omega), bsI, subI1, ap]
  by_cases c : 0 ≤ x
  ·simp only [c, if_true]
  ·simp only [c, if_false]
 ·unfold k174_3;simp only [EV, List.length_map, decide_eq_true_eq, if_ge, k174_1, subM]
 ·have : ∀ (l acc : List Int), l.foldl (fun acc x => if 0 ≤ x then acc ++ [x] else acc) acc = acc ++ l.filter fun x => decide (0 ≤ x) := by
   intro l;induction l with
   | nil => simp
   | cons a l ih =>
    intro acc;rw [List.foldl_cons, ih, List.filter_cons];by_cases c : 0 ≤ a <;> simp [c]
  rw [this, List.nil_append]
end Go.Proofs.YtfghdmmapmdcgaaGreat
