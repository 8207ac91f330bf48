import Derived.Test.YtfghdmmapmdcgaaGreatDA
import Derived.Test.YtfghdmmapmdcgaaGreatP1
set_option linter.unusedVariables false
set_option linter.unusedSimpArgs false
set_option linter.defProp false
noncomputable section
namespace Go.Proofs.YtfghdmmapmdcgaaGreat
open Go.Sym Bnd
set_option maxRecDepth 100000
def valK (l : List Pt) (x : Int) : Prop := x = -1 ∨ inF l x = true
def wonI (t : Rt) (l : List Pt) (a b : Int) : Int := if a < 0 then b else if b < 0 then a else if leads t (ptOf l a) (ptOf l b) = true then a else b
theorem wonI_val {t : Rt} {l : List Pt} (a b : Int) (ha : valK l a) (hb : valK l b) : valK l (wonI t l a b) := by
 unfold wonI; split
 ·exact hb
 ·split
  ·exact ha
  ·split <;> assumption
theorem valK_in {l : List Pt} (h : okF l) {x : Int} (hv : valK l x) : x = -1 ∨ ∃ (i : Nat) (p : Pt), l[i]? = some p ∧ p.id = x ∧ pos l x = (i : Nat) ∧ ptOf l x = p ∧ 0 ≤ x := by
 rcases hv with e | e
 ·exact .inl e
 ·obtain ⟨i, p, h1, h2, h3, h4⟩ := inF_ok h e;exact .inr ⟨i, p, h1, h2, h3, h4, by rw [← h2]; exact (ids_nonneg h p (List.mem_of_getElem? h1)).1⟩
open Classical in
theorem c173 {l : List Pt} {pl : List Int} (hl : l.length ≤ 1000) (hp : pl.length ≤ 1000) : Ans D 173 [F l, sl I1 pl] [.bool (decide (∀ x ∈ pl, valK l x))] := by
 refine ans_of k173_ok s173 rfl ⟨1001, ?_⟩;unfold k173;simp only [den_lt, shapeF, EV];refine (run_list (m := 1001) (l := pl) (p := fun x => decide (valK l x)) (st := fun i => [.i64 (i : Int)]) (r := some [.bool false]) (fin := some [.bool true]) (fun i x self hx _ => ?_) (fun hall self => ?_) (by omega)).trans ?_
 ·unfold k173_3;simp only [den_lt, EV, List.length_map, decide_eq_true_eq, if_lt (get_lt hx), tixM hx (lenI _), eltM hx, rowI, phi (c168 hl x), k173_2, up1 (show i < 1000000000 by have := get_lt hx; omega), Bool.not_eq_true', decide_eq_false_iff_not]
  unfold valK inF;by_cases c1 : x = -1
  ·simp [c1]
  ·by_cases c2 : pos l x < 0
   ·simp [c1, c2, show ¬ 0 ≤ pos l x by omega]
   ·simp [c1, c2, show 0 ≤ pos l x by omega]
 ·unfold k173_3;simp only [EV, List.length_map, decide_eq_true_eq, if_ge, k173_1]
 ·by_cases h : ∀ x ∈ pl, valK l x
  ·rw [if_pos (by simpa using h), decide_eq_true h]
  ·rw [if_neg (by simpa using h), decide_eq_false h]
open Classical in
theorem c301 {l : List Pt} {pl : List Int} (h : okF l) (hp : pl.length ≤ 1000) : Ans D 301 [F l, sl I1 pl] [.bool (decide (∀ x ∈ pl, valK l x))] := by
 refine ans_of k301_ok s301 rfl ⟨1001, ?_⟩;unfold k301;simp only [den_lt, shapeF, EV, List.length_map];refine (run_list (m := 1001) (l := pl) (p := fun x => decide (valK l x)) (st := fun i => [.i64 (i : Int)]) (r := some [.bool false]) (fin := some [.bool true]) (fun i x self hx _ => ?_) (fun hall self => ?_) (by omega)).trans ?_
 ·have u1 := up1 (show i < 1000000000 by have := get_lt hx; omega)
  unfold k301_3;rcases has_cases l x with hn | ⟨j, p, hj, rfl⟩
  ·obtain ⟨P, hP⟩ := d367n h hn;have hf : inF l x = false := by
    unfold inF;rcases pos_cases l x with ⟨e, _⟩ | ⟨i, p, h1, h2, _⟩
    ·rw [e]; rfl
    ·exact absurd h2 (hn p (List.mem_of_getElem? h1))
   simp only [den_lt, EV, decide_eq_true_eq, if_lt (get_lt hx), tixM hx (lenI _), eltM hx, rowI, phi hP, Bool.false_eq_true, if_false, k301_2, u1];unfold valK;rw [hf];by_cases c1 : x = -1
   ·simp [c1]
   ·simp [c1]
  ·have hf : inF l p.id = true := in_ids.2 (List.mem_map.2 ⟨p, List.mem_of_getElem? hj, rfl⟩);simp only [den_lt, EV, decide_eq_true_eq, if_lt (get_lt hx), tixM hx (lenI _), eltM hx, rowI, phi (d367 h hj), if_true, k301_2, u1];unfold valK;rw [hf];simp
 ·unfold k301_3 k301_1;simp only [EV, decide_eq_true_eq, if_ge];rfl
 ·by_cases h : ∀ x ∈ pl, valK l x
  ·rw [if_pos (by simpa using h), decide_eq_true h]
  ·rw [if_neg (by simpa using h), decide_eq_false h]
theorem c300 {l : List Pt} {t : Rt} (h : okF l) (ht : In64 t) (hr : rok t = true) : Ans D 300 [F l, R t] [.i64 0] := by
 have h1 := phi (c231 l);rw [fieldE_ok.2 h] at h1;have h2 := phi (c43 ht);rw [hr] at h2;have e0 : okE true = 0 := rfl;rw [e0] at h2;refine ans_of k300_ok s300 rfl ⟨1, ?_⟩;unfold k300;simp only [den_lt, shapeF, shapeR, EV, h1, h2, decide_true, Bool.not_true, Bool.false_eq_true, if_false]
theorem c302 {l : List Pt} {t : Rt} (h : okF l) (ht : In64 t) (hr : rok t = true) {a b : Int} (ha : valK l a) (hb : valK l b) : Ans D 302 [F l, R t, .i64 a, .i64 b] [.i64 (wonI t l a b)] := by
 refine ans_of k302_ok s302 rfl ⟨1, ?_⟩;unfold k302 wonI;rcases valK_in h ha with e | ⟨i, p, p1, p2, p3, p4, p5⟩
 ·rcases valK_in h hb with e' | ⟨j, q, q1, q2, q3, q4, q5⟩
  ·subst e; subst e';simp only [den_lt, shapeF, shapeR, mmN, mmX, EV];rfl
  ·subst e;simp only [den_lt, shapeF, shapeR, mmN, mmX, EV, decide_eq_true_eq, if_pos (show min (-1) b < 0 by omega), if_pos (show (-1 : Int) < 0 by omega), show max (-1) b = b by omega]
 ·rcases valK_in h hb with e' | ⟨j, q, q1, q2, q3, q4, q5⟩
  ·subst e';simp only [den_lt, shapeF, shapeR, mmN, mmX, EV, decide_eq_true_eq, if_pos (show min a (-1) < 0 by omega), if_neg (show ¬ a < 0 by omega), if_pos (show (-1 : Int) < 0 by omega), show max a (-1) = a by omega]
  ·have d1 := phi (d367 h p1);have d2 := phi (d367 h q1);rw [p2] at d1;rw [q2] at d2;have d3 : ∃ e : Int, PhiS D 249 [PP p, PP q, R t] = some [.bool (leads t p q), .i64 e] := by
    have := phi (c249 (p := p) (q := q) ht);by_cases e : p.id = q.id
    ·have : p = q := (risen_ids h.2.2).inj (List.mem_of_getElem? p1) (List.mem_of_getElem? q1) e;subst this;by_cases c : twoE p p t = 0
     ·rw [if_pos c] at this; exact ⟨_, this⟩
     ·rw [if_neg c] at this; rw [leads_irr]; exact ⟨_, this⟩
    ·rw [if_pos (twoE_zero (okF_pt h p1) (okF_pt h q1) hr e)] at this;exact ⟨_, this⟩
   obtain ⟨e, d3⟩ := d3;simp only [den_lt, shapeF, shapeR, cellF, mmN, mmX, EV, decide_eq_true_eq, if_neg (show ¬ min a b < 0 by omega), if_neg (show ¬ a < 0 by omega), if_neg (show ¬ b < 0 by omega), d1, d2, tixM p1 (row_len _), eltM p1, tixM q1 (row_len _), eltM q1, rowP, d3, p4, q4]
   cases leads t p q <;> rfl
theorem c267 {l : List Pt} {t : Rt} (h : okF l) (ht : In64 t) {a b : Int} (ha : valK l a) (hb : valK l b) : Ans D 267 [F l, R t, .i64 a, .i64 b] [.i64 (wonI t l a b)] := by
 have hl := h.1;refine ans_of k267_ok s267 rfl ⟨1, ?_⟩;unfold k267 wonI;simp only [den_lt, shapeF, shapeR, EV, decide_eq_true_eq];by_cases c1 : a < 0
 ·rw [if_pos c1, if_pos c1]
 rw [if_neg c1, if_neg c1];by_cases c2 : b < 0
 ·rw [if_pos c2, if_pos c2]
 rw [if_neg c2, if_neg c2];rcases valK_in h ha with e | ⟨i, p, p1, p2, p3, p4, p5⟩
 ·omega
 rcases valK_in h hb with e | ⟨j, q, q1, q2, q3, q4, q5⟩
 ·omega
 simp only [den_lt, cellF, phi (c168 (l := l) (by omega) a), phi (c168 (l := l) (by omega) b), p3, q3, tixM p1 (row_len _), eltM p1, tixM q1 (row_len _), eltM q1, rowP, phi (c323 (okF_pt h p1) (okF_pt h q1) ht), p4, q4, EV];split <;> rfl
open Classical in
theorem c218 {l : List Pt} {t : Rt} {pl : List Int} (h : okF l) (ht : In64 t) (hr : rok t = true) (h1 : 1 ≤ pl.length) (h2 : pl.length ≤ 64) (hv : ∀ x ∈ pl, valK l x) (ho : onceP pl) : Ans D 218 [F l, R t, sl I1 pl] [BR ⟨pl, playD (wonI t l) pl (pl.length - 1) (pl.length - 1)⟩, .i64 0] := by
 have wp : IntKind.i64.wrap ((pl.length : Int) - 1) = ((pl.length - 1 : Nat) : Int) := by rw [w_i64 (by omega) (by omega)]; omega
 have e1 := phi (c301 h (pl := pl) (by omega));rw [decide_eq_true hv] at e1;have e2 := phi (c250 (l := pl) (by omega));rw [decide_eq_true ho] at e2;have rp := repI (n := pl.length - 1) (by omega);have agB : ∀ w : List Int, RF.ev .agg [sl I1 pl, sl I1 w] = some (BR ⟨pl, w⟩) := fun w => rfl;refine ans_of k218_ok s218 rfl ⟨1001, ?_⟩;unfold k218;simp only [den_lt, shapeF, shapeR, EV, phi (c300 h ht hr), List.length_map, decide_true, Bool.not_true, Bool.false_eq_true, if_false, decide_eq_true_eq, if_neg (show ¬ (pl.length : Int) < 1 by omega), k218_7, gt_iff_lt, decide_eq_false (show ¬ (64 : Int) < (pl.length : Int) by omega), e1, e2, k218_4, k218_5, k218_6, k218_3, phi (c120 (l := pl) (by omega)), wp, rp, List.length_replicate]
 generalize hm : pl.length - 1 = m at *;have w1 : IntKind.i64.wrap ((m : Int) - 1) = (m : Int) - 1 := w_i64 (by omega) (by omega);rw [w1];have e0 : ([sl I1 (List.replicate m 0), PV.v (.int .i64 ((m : Int) - 1))] : List PV) = [sl I1 (playD (wonI t l) pl m 0), .i64 ((m : Int) - 1 - ((0 : Nat) : Int))] := by
  simp [playD]
 rw [e0];refine (run_up (m := 1001) (n := m) (st := fun k => [sl I1 (playD (wonI t l) pl m k), .i64 ((m : Int) - 1 - (k : Int))]) (fun k self hk => ?_) (fun self => ?_) (by omega))
 ·obtain ⟨i, hi⟩ : ∃ i : Nat, m - 1 - k = i := ⟨_, rfl⟩;have hii : (m : Int) - 1 - (k : Int) = (i : Int) := by omega
  have hdn : IntKind.i64.wrap ((i : Int) - 1) = (m : Int) - 1 - ((k + 1 : Nat) : Int) := by rw [w_i64 (by omega) (by omega)]; omega
  have hP := playD_P (P := valK l) (.inl rfl) (won := wonI t l) (fun a b => wonI_val a b) hv k (by omega : k ≤ m);have hlen := playD_len (won := wonI t l) (places := pl) (m := m) k;have hnx : playD (wonI t l) pl m (k + 1) = (playD (wonI t l) pl m k).set i (wonI t l (nodeV (playD (wonI t l) pl m k) pl (2 * i + 1)) (nodeV (playD (wonI t l) pl m k) pl (2 * i + 2))) := by rw [← hi]; rfl
  rw [hnx];generalize playD (wonI t l) pl m k = w at hP hlen;have su : RF.ev .sub [sl I1 w, .v (.int .i64 0), .v (.int .i64 (m : Int))] = some (sl I1 w) := by rw [← hlen]; exact subM
  unfold k218_2;simp only [EV, hii, decide_eq_true_eq, ge_iff_le, if_pos (show (0 : Int) ≤ (i : Int) by omega), dbl (show i < 100000000 by omega), up1 (show 2 * i < 1000000000 by omega), up2 (show 2 * i < 1000000000 by omega), subM, su, agB, den_lt, phi (c242 (b := ⟨pl, w⟩) (i := 2 * i + 1) (by simp only; omega) (by simp only; omega)), phi (c242 (b := ⟨pl, w⟩) (i := 2 * i + 2) (by simp only; omega) (by simp only; omega)), phi (c302 h ht hr (hP (2 * i + 1) (by omega)) (hP (2 * i + 2) (by omega))), ixM (show i < m by omega), setI (l := w) (i := i) (by omega), hdn]
 ·have hlen := playD_len (won := wonI t l) (places := pl) (m := m) m;generalize playD (wonI t l) pl m m = w at hlen;have su : RF.ev .sub [sl I1 w, .v (.int .i64 0), .v (.int .i64 (m : Int))] = some (sl I1 w) := by rw [← hlen]; exact subM
  unfold k218_2;simp only [EV, decide_eq_true_eq, ge_iff_le, if_neg (show ¬ (0 : Int) ≤ (m : Int) - 1 - (m : Int) by omega), k218_1, subM, su, agB, den_lt]
end Go.Proofs.YtfghdmmapmdcgaaGreat
