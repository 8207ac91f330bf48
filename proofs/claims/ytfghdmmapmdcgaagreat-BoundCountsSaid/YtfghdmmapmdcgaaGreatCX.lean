import Derived.Test.YtfghdmmapmdcgaaGreatCW
import Derived.Test.YtfghdmmapmdcgaaGreatP1
set_option linter.unusedVariables false
set_option linter.unusedSimpArgs false
set_option linter.defProp false
noncomputable section
namespace Go.Proofs.YtfghdmmapmdcgaaGreat
open Go.Sym Bnd
set_option maxRecDepth 100000
def ldF (t : Rt) (l : List Pt) (i j : Nat) : Bool := leads t ((l[i]?).getD ⟨0, 0, 0⟩) ((l[j]?).getD ⟨0, 0, 0⟩)
theorem ldF_get {t : Rt} {l : List Pt} {i j : Nat} {p q : Pt} (hp : l[i]? = some p) (hq : l[j]? = some q) : ldF t l i j = leads t p q := by
 unfold ldF; rw [hp, hq]; rfl
theorem ldF_lin {t : Rt} {l : List Pt} (hs : risen l) : Lin (ldF t l) l.length where
 asymm := fun i j h => leads_asymm h
 trans := fun i j k h1 h2 => leads_trans h1 h2
 total := fun i j hi hj hne => by
  unfold ldF;refine leads_total ?_;rw [List.getElem?_eq_getElem hi, List.getElem?_eq_getElem hj];intro e;refine hne (nodup_get.1 (risen_ids hs) i j l[i].id ?_ ?_)
  ·rw [List.getElem?_map, List.getElem?_eq_getElem hi]; rfl
  ·rw [List.getElem?_map, List.getElem?_eq_getElem hj, Option.map_some];exact congrArg some e.symm
def mkN (l : List Pt) (lk : List (Int × Int)) : List Nod := (l.zip lk).map fun x => ⟨x.1.id, x.2.1, x.2.2⟩
theorem mkN_len (l : List Pt) (lk : List (Int × Int)) (h : lk.length ≤ l.length) : (mkN l lk).length = lk.length := by simp [mkN, List.length_zip]; omega
theorem mkN_get {l : List Pt} {lk : List (Int × Int)} {i : Nat} {p : Pt} {x : Int × Int} (hp : l[i]? = some p) (hx : lk[i]? = some x) : (mkN l lk)[i]? = some ⟨p.id, x.1, x.2⟩ := by
 unfold mkN;rw [List.getElem?_map, (List.getElem?_zip_eq_some (l₁ := l) (l₂ := lk) (z := (p, x))).2 ⟨hp, hx⟩];rfl
def cart (t : Rt) (l : List Pt) : Tree := ⟨(cmake (ldF t l) l.length).2.1, mkN l (cmake (ldF t l) l.length).2.2⟩
theorem c303 {l : List Pt} {t : Rt} (h : okF l) (ht : In64 t) (hr : rok t = true) : Ans D 303 [F l, R t] [.i64 0] := by
 have h1 := phi (c231 l);rw [fieldE_ok.2 h] at h1;have h2 := phi (c43 ht);rw [hr] at h2;have e0 : okE true = 0 := rfl;rw [e0] at h2;refine ans_of k303_ok s303 rfl ⟨1, ?_⟩;unfold k303;simp only [den_lt, shapeF, shapeR, EV, h1, h2, decide_true, Bool.not_true, Bool.false_eq_true, if_false]
def natsI (l : List Nat) : List Int := l.map fun n : Nat => (n : Int)
theorem pop_loop {l : List Pt} {t : Rt} (h : okF l) (ht : In64 t) (hr : rok t = true) {N : Nat} {i : Nat} {p : Pt} (hp : l[i]? = some p) {f0 f1 f2 : JT} {e0 e1 e4 e5 e6 e7 e8 e9 e10 e13 e14 e15 e16 e17 : PV} {E : List Int} (hE : E.length ≤ 1000) : ∀ (rem : List Nat) (m : Nat) (left : Int), rem.length < m → (∀ (k : Nat) (e : Nat), rem.reverse[k]? = some e → E[k]? = some (e : Int)) → (∀ e ∈ rem, e < i) → rem.length ≤ E.length →
  denW (PhiS D) N k220_4 [f0, f1, f2] [e0, e1, F l, R t, e4, e5, e6, e7, e8, e9, e10, sl I1 E, .i64 (E.length : Int), e13, e14, e15, e16, e17, PP p] m [.i64 (rem.length : Int), .i64 left] =
   f2 [.i64 (popAll (ldF t l) i rem left).2, .i64 ((popAll (ldF t l) i rem left).1.length : Int), .bool (decide (0 < (popAll (ldF t l) i rem left).1.length))]
 | [], m, left, hm, _, _, _ => by
  obtain ⟨m, rfl⟩ : ∃ m', m = m' + 1 := ⟨m - 1, by omega⟩;rw [denW_succ];unfold k220_4 popAll;simp only [EV, List.length_nil, Int.natCast_zero, decide_eq_true_eq];rw [if_neg (by omega)];rfl
 | e :: es, m, left, hm, hk, hlt, hEl => by
  obtain ⟨m, rfl⟩ : ∃ m', m = m' + 1 := ⟨m - 1, by omega⟩;have hee : E[es.length]? = some (e : Int) := hk es.length e (by rw [List.reverse_cons, List.getElem?_append_right (by simp)]; simp);simp only [List.length_cons] at hm hEl;obtain ⟨q, hq⟩ : ∃ q, l[e]? = some q := ⟨l[e]'(by have := hlt e (by simp); have := get_lt hp; omega), List.getElem?_eq_getElem _⟩;have hne : q.id ≠ p.id := by have := risen_lt' h.2.2 (hlt e (by simp)) hq hp; omega
  have hA := phi (c249 (p := q) (q := p) ht);rw [if_pos (twoE_zero (okF_pt h hq) (okF_pt h hp) hr hne), ← ldF_get hq hp] at hA;have ih := pop_loop h ht hr (N := N) hp (f0 := f0) (f1 := f1) (f2 := f2) (e0 := e0) (e1 := e1) (e4 := e4) (e5 := e5) (e6 := e6) (e7 := e7) (e8 := e8) (e9 := e9) (e10 := e10) (e13 := e13) (e14 := e14) (e15 := e15) (e16 := e16) (e17 := e17) hE es m (e : Int) (by omega) (fun k e' hke => hk k e' (by
   rw [List.reverse_cons, List.getElem?_append_left (get_lt hke)]; exact hke)) (fun x hx => hlt x (List.mem_cons_of_mem _ hx)) (by omega)
  rw [denW_succ];generalize hkk : k220_4 = kk at ih;subst hkk;unfold k220_4 popAll;have d1 : IntKind.i64.wrap (((es.length + 1 : Nat) : Int) - 1) = (es.length : Int) := down1 (by omega);have bn : RF.ev .bnd [.v (.int .i64 (es.length : Int)), .v (.int .i64 (E.length : Int))] = some (.i64 (es.length : Int)) := by rw [f_bnd, if_pos ⟨by omega, by omega⟩]
  have g0 : decide ((0 : Int) < ((es.length + 1 : Nat) : Int)) = true := decide_eq_true (by omega);simp only [EV, List.length_cons, g0, eq_self, if_true, d1, ixM (show es.length < es.length + 1 by omega), eltM hee, rowI, den_lt, cellF, tixM hq (row_len _), eltM hq, rowP, hA, bn]
  cases hL : ldF t l e i with
  | true =>
   simp only [if_true, List.length_cons];rw [show decide (0 < es.length + 1) = true from decide_eq_true (by omega)]
  | false =>
   simp only [Bool.false_eq_true, if_false];exact ih
theorem natsI_get {l : List Nat} {k e : Nat} (h : l[k]? = some e) : (natsI l)[k]? = some (e : Int) := by
 unfold natsI; rw [List.getElem?_map, h]; rfl
theorem setNd {l : List Nod} {i : Nat} {n : Nod} (h : l[i]? = some n) (r : Int) : RF.ev (.set 2) [sl nrow l, .v (.int .i64 (i : Int)), .v (.int .i64 r)] = some (sl nrow (l.set i ⟨n.id, n.left, r⟩)) := by
 rw [f_set, if_pos (by omega), Int.toNat_natCast, List.getElem?_map, h];simp only [Option.map_some, show (PV.v (.int .i64 r)).cells = [.v (.int .i64 r)] from rfl, List.length_singleton, show (nrow n).length = 3 from rfl, Nat.reduceAdd, Nat.le_refl, if_true]
 exact congrArg (fun x => some (PV.sl x)) (List.map_set (f := nrow) (l := l) (i := i) (a := ⟨n.id, n.left, r⟩)).symm
theorem bsN (n : Nod) : RF.ev (.bs 1 [KP.z, KP.z, KP.z] [0]) [NP n] = some (sl nrow [n]) := rfl
theorem subN1 (n : Nod) : RF.ev .sub [sl nrow [n], .v (.int .i64 0), .v (.int .i64 1)] = some (sl nrow [n]) := rfl
theorem aggN (a b c : Int) : RF.ev .agg [.i64 a, .i64 b, .i64 c] = some (NP ⟨a, b, c⟩) := rfl
theorem mkN_set {l : List Pt} {lk : List (Int × Int)} {e : Nat} {p : Pt} {x : Int × Int} {r : Int} (hp : l[e]? = some p) (hx : lk[e]? = some x) : (mkN l lk).set e ⟨p.id, x.1, r⟩ = mkN l (lk.modify e fun x => (x.1, r)) := by
 refine List.ext_getElem? fun k => ?_;have hlen : (lk.modify e fun x => (x.1, r)).length = lk.length := List.length_modify ..;by_cases hk : k < l.length ∧ k < lk.length
 ·have h1 := List.getElem?_eq_getElem hk.1;have h2 := List.getElem?_eq_getElem hk.2;by_cases e' : k = e
  ·subst e';rw [List.getElem?_set_self (by simp [mkN, List.length_zip]; omega)];rw [mkN_get hp (x := (x.1, r)) (by rw [List.getElem?_modify_eq, hx]; rfl)]
  ·rw [List.getElem?_set_ne (by omega), mkN_get h1 h2, mkN_get h1 (x := lk[k]) (by rw [List.getElem?_modify_ne _ _ (by omega)]; exact h2)]
 ·rw [List.getElem?_eq_none (by simp [mkN, List.length_zip]; omega), List.getElem?_eq_none (by simp [mkN, List.length_zip]; omega)]
theorem mkN_app {l : List Pt} {lk : List (Int × Int)} {p : Pt} {x : Int × Int} (hp : l[lk.length]? = some p) : mkN l lk ++ [⟨p.id, x.1, x.2⟩] = mkN l (lk ++ [x]) := by
 unfold mkN;have hlt := get_lt hp;have : l.zip (lk ++ [x]) = l.zip lk ++ [(p, x)] := by
  have h1 : l = l.take lk.length ++ l.drop lk.length := (List.take_append_drop _ _).symm;have h2 : l.drop lk.length = p :: l.drop (lk.length + 1) := by
   rw [List.drop_eq_getElem_cons hlt, (List.getElem?_eq_some_iff.1 hp).2]
  rw [h1, List.zip_append (by rw [List.length_take]; omega), h2];rw [← List.append_nil lk];rw [List.append_nil]
  conv => rhs; rw [show l.take lk.length ++ p :: l.drop (lk.length + 1) = l.take lk.length ++ ([p] ++ l.drop (lk.length + 1)) from rfl]
  rw [show lk = lk ++ [] by simp, List.zip_append (by rw [List.length_take, List.append_nil]; omega)]
  simp
 rw [this, List.map_append];rfl
theorem natsI_app (l : List Nat) (n : Nat) : natsI (l ++ [n]) = natsI l ++ [(n : Int)] := by simp [natsI]
def ce (t : Rt) (l : List Pt) : Nat → List Int
 | 0 => []
 | i + 1 => (ce t l i).take (popAll (ldF t l) i (cmake (ldF t l) i).1 (-1)).1.length ++ [(i : Int)] ++ (ce t l i).drop ((popAll (ldF t l) i (cmake (ldF t l) i).1 (-1)).1.length + 1)
theorem cstep_edge (ld : Nat → Nat → Bool) (i : Nat) (s : List Nat × Int × List (Int × Int)) : (cstep ld i s).1 = i :: (popAll ld i s.1 (-1)).1 := by
 unfold cstep;split
 ·rename_i e; rw [e]
 ·rename_i e; rw [e]
theorem ce_ok (t : Rt) (l : List Pt) : ∀ i, (ce t l i).take (cmake (ldF t l) i).1.length = natsI (cmake (ldF t l) i).1.reverse ∧ (cmake (ldF t l) i).1.length ≤ (ce t l i).length ∧ (ce t l i).length ≤ i
 | 0 => ⟨rfl, Nat.le_refl _, Nat.le_refl _⟩
 | i + 1 => by
  obtain ⟨h1, h2, h3⟩ := ce_ok t l i;have hs : cmake (ldF t l) (i + 1) = cstep (ldF t l) i (cmake (ldF t l) i) := rfl;rw [hs, cstep_edge];obtain ⟨gone, p1, _⟩ := popAll_split (ld := ldF t l) i (cmake (ldF t l) i).1 (-1);unfold ce;generalize (popAll (ldF t l) i (cmake (ldF t l) i).1 (-1)).1 = kept at p1;generalize (cmake (ldF t l) i).1 = edge at p1 h1 h2;have hk : kept.length ≤ edge.length := by rw [p1, List.length_append]; omega
  have h4 : (ce t l i).take kept.length = natsI kept.reverse := by
   have : (ce t l i).take kept.length = ((ce t l i).take edge.length).take kept.length := by rw [List.take_take, Nat.min_eq_left hk]
   rw [this, h1, p1, List.reverse_append];unfold natsI;rw [List.map_append, List.take_left' (by simp)]
  have hl : ((ce t l i).take kept.length).length = kept.length := by rw [List.length_take]; omega
  refine ⟨?_, ?_, ?_⟩
  ·rw [List.take_append_of_le_length (by simp; omega), List.take_of_length_le (by simp; omega), h4, List.reverse_cons, natsI_app]
  ·simp; omega
  ·simp; omega
def cst (t : Rt) (l : List Pt) (i : Nat) : List PV :=
 [.i64 (cmake (ldF t l) i).2.1, sl nrow (mkN l (cmake (ldF t l) i).2.2), .i64 (i : Int), sl I1 (ce t l i), .i64 ((ce t l i).length : Int), .i64 ((cmake (ldF t l) i).1.length : Int), .i64 (i : Int)]
theorem appE {E : List Int} {n : Nat} {x : Int} (h : n ≤ E.length) (hE : E.length ≤ 1000) : RF.ev (.appK 8 1) [sl I1 E, .v (.int .i64 (n : Int)), sl I1 [x]] = some (sl I1 (E.take n ++ [x] ++ E.drop (n + 1))) := by
 show (if (0 : Int) ≤ n ∧ (n : Int) ≤ ((E.map I1).length : Nat) ∧ ((n : Int).toNat + ([x].map I1).length) * 8 ≤ 140737488355328 ∧ elsOk' 1 ([x].map I1) = true then some (PV.sl ((E.map I1).take (n : Int).toNat ++ [x].map I1 ++ (E.map I1).drop ((n : Int).toNat + ([x].map I1).length))) else none) = _
 rw [if_pos ⟨by omega, by simp; omega, by simp; omega, rfl⟩];simp
theorem c220 {l : List Pt} {t : Rt} (h : okF l) (ht : In64 t) (hr : rok t = true) : Ans D 220 [F l, R t] [TR (cart t l), .i64 0] := by
 have hl := h.1;refine ans_of k220_ok s220 rfl ⟨1001, ?_⟩;unfold k220;simp only [den_lt, shapeF, shapeR, cellF, EV, List.length_map, phi (c303 h ht hr), decide_true, Bool.not_true, Bool.false_eq_true, if_false];have e0 : ([PV.v (.int .i64 (-1)), .sl [], .v (.int .i64 0), .sl [], .v (.int .i64 0), .v (.int .i64 0), .v (.int .i64 0)] : List PV) = cst t l 0 := by simp [cst, cmake, mkN, ce]
 rw [e0];refine (run_up (m := 1001) (n := l.length) (st := cst t l) (fin := some [TR (cart t l), .i64 0]) (fun i self hi => ?_) (fun self => ?_) (by omega))
 ·obtain ⟨p, hp⟩ : ∃ p, l[i]? = some p := ⟨l[i], List.getElem?_eq_getElem _⟩;have I := cmake_inv (ldF_lin (t := t) h.2.2) i (by omega);obtain ⟨ce1, ce2, ce3⟩ := ce_ok t l i;unfold cst;have hs : cmake (ldF t l) (i + 1) = cstep (ldF t l) i (cmake (ldF t l) i) := rfl;have hce : ce t l (i + 1) = (ce t l i).take (popAll (ldF t l) i (cmake (ldF t l) i).1 (-1)).1.length ++ [(i : Int)] ++ (ce t l i).drop ((popAll (ldF t l) i (cmake (ldF t l) i).1 (-1)).1.length + 1) := rfl;rw [hs, hce];generalize cmake (ldF t l) i = s at I ce1 ce2;generalize ce t l i = E at ce1 ce2 ce3;obtain ⟨edge, root, lk⟩ := s;obtain ⟨desc, mem, _, len, _⟩ := I;simp only at desc mem len ce1 ce2;have helt : ∀ e ∈ edge, e < i := fun e he => ((mem e).1 he).1;have hk : ∀ (k : Nat) (e : Nat), edge.reverse[k]? = some e → E[k]? = some (e : Int) := fun k e hk => by
   have h1 := natsI_get hk;rw [← ce1, List.getElem?_take] at h1;split at h1
   ·exact h1
   ·cases h1
  unfold k220_5;simp only [EV, decide_eq_true_eq, if_lt hi, den_lt, cellF, tixM hp (row_len _), eltM hp, rowP];refine (pop_loop h ht hr hp (E := E) (by omega) edge 1001 (-1) (by omega) hk helt ce2).trans ?_;obtain ⟨gone, p1, _, _, _⟩ := popAll_split (ld := ldF t l) i edge (-1);unfold cstep;simp only;generalize popAll (ldF t l) i edge (-1) = pr at p1;obtain ⟨kept, y⟩ := pr;simp only at p1;have hkl : kept.length ≤ E.length := by rw [p1, List.length_append] at ce2; omega
  have hkl' : kept.length ≤ 1000 := by omega
  have hpl : l[lk.length]? = some p := by rw [len]; exact hp
  have u1 := up1 (show i < 1000000000 by omega)
  have uk : ((kept.length : Int) + ((1 : Nat) : Int)) = ((kept.length + 1 : Nat) : Int) := by omega
  simp only [EV];unfold k220_3;simp only [EV, Int.natCast_pos, gt_iff_lt];have ae := appE (E := E) (n := kept.length) (x := (i : Int)) hkl (by omega);cases kept with
  | nil =>
   simp only [List.length_nil, Nat.lt_irrefl, decide_false, Bool.false_eq_true, if_false, EV, Int.natCast_zero];have ap : RF.ev (.app 24 3) [sl nrow (mkN l lk), .v (.int .i64 (i : Int)), sl nrow [⟨p.id, y, -1⟩]] = some (sl nrow (mkN l (lk ++ [(y, -1)]))) := by
    have := appM (f := nrow) (l := mkN l lk) (k := [⟨p.id, y, -1⟩]) (bytes := 24) (z := 3) (by rw [mkN_len _ _ (by omega)]; simp; omega) lenN;rw [mkN_len _ _ (by omega), len] at this;rw [this, ← mkN_app (x := (y, -1)) hpl]
   simp only [List.length_nil, Int.natCast_zero] at ae;unfold k220_2;simp only [den_lt, cellP0, aggN, bsN, subN1, ae, ap, bsI, subI1, EV, List.length_map, u1, mkN_len _ _ (show (lk ++ [(y, -1)]).length ≤ l.length by simp; omega), List.length_append, len, List.length_singleton, List.length_cons, List.length_nil, Nat.zero_add]
   rfl
  | cons e es =>
   have hee : E[es.length]? = some (e : Int) := hk es.length e (by
    rw [p1, List.reverse_append, List.reverse_cons, List.getElem?_append_left (by simp), List.getElem?_append_right (by simp)];simp)
   have hei : e < i := helt e (by rw [p1]; simp);obtain ⟨q, hq⟩ : ∃ q, l[e]? = some q := ⟨l[e]'(by omega), List.getElem?_eq_getElem _⟩;obtain ⟨x, hx⟩ : ∃ x, lk[e]? = some x := ⟨lk[e]'(by omega), List.getElem?_eq_getElem _⟩;have hnod := mkN_get hq hx;have g0 : decide (0 < (e :: es).length) = true := by simp
   have d1 : IntKind.i64.wrap (((es.length + 1 : Nat) : Int) - 1) = (es.length : Int) := down1 (by simp at hkl'; omega);have ap : RF.ev (.app 24 3) [sl nrow (mkN l (lk.modify e fun x => (x.1, (i : Int)))), .v (.int .i64 (i : Int)), sl nrow [⟨p.id, y, -1⟩]] = some (sl nrow (mkN l ((lk.modify e fun x => (x.1, (i : Int))) ++ [(y, -1)]))) := by
    have := appM (f := nrow) (l := mkN l (lk.modify e fun x => (x.1, (i : Int)))) (k := [⟨p.id, y, -1⟩]) (bytes := 24) (z := 3) (by rw [mkN_len _ _ (by rw [List.length_modify]; omega), List.length_modify]; simp; omega) lenN;rw [mkN_len _ _ (by rw [List.length_modify]; omega), List.length_modify, len] at this;rw [this, ← mkN_app (x := (y, -1)) (by rw [List.length_modify]; exact hpl)]
   simp only [g0, if_true, EV, List.length_cons, d1, ixM (show es.length < es.length + 1 by omega), eltM hee, rowI, ixM hei, setNd hnod, mkN_set hq hx]
   unfold k220_2;simp only [List.length_cons] at ae uk;simp only [den_lt, cellP0, aggN, ae, ap, bsN, subN1, bsI, subI1, EV, List.length_map, u1, uk, List.length_cons, mkN_len _ _ (show ((lk.modify e fun x => (x.1, (i : Int))) ++ [(y, -1)]).length ≤ l.length by simp; omega), List.length_append, List.length_modify, len, List.length_singleton, List.length_nil, Nat.zero_add]
   rw [if_pos (decide_eq_true (by omega))]
 ·unfold cst k220_5;have hlk : (cmake (ldF t l) l.length).2.2.length = l.length := (cmake_inv (ldF_lin (t := t) h.2.2) l.length (by omega)).len;have hs := subM (f := nrow) (l := mkN l (cmake (ldF t l) l.length).2.2);rw [mkN_len _ _ (by omega), hlk] at hs;have ag : RF.ev .agg [.i64 (cmake (ldF t l) l.length).2.1, sl nrow (mkN l (cmake (ldF t l) l.length).2.2)] = some (TR (cart t l)) := rfl;simp only [EV, decide_eq_true_eq, if_ge, k220_1, hs, ag]
end Go.Proofs.YtfghdmmapmdcgaaGreat
