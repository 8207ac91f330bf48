import Derived.Test.YtfghdmmapmdcgaaGreatCX
set_option linter.unusedVariables false
set_option linter.unusedSimpArgs false
set_option linter.defProp false
noncomputable section
namespace Go.Proofs.YtfghdmmapmdcgaaGreat
open Go.Sym Bnd
set_option maxRecDepth 100000
def nodC (i : Nat) (n : Nod) : Bool := decide (n.left = (i : Int)) || decide (n.right = (i : Int))
def nodI (l : List Nod) (i : Nat) : Int := ((l[i]?).map Nod.id).getD 0
theorem nodI_get {l : List Nod} {i : Nat} {n : Nod} (h : l[i]? = some n) : nodI l i = n.id := by unfold nodI; rw [h]; rfl
def edgT (l : List Nod) (i : Nat) : List Crt := match l.findIdx? (nodC i) with | some k => [⟨nodI l i, nodI l k⟩] | none => []
def edgsT (l : List Nod) (n : Nat) : List Crt := (List.range n).flatMap (edgT l)
theorem edgsT_succ (l : List Nod) (n : Nat) : edgsT l (n + 1) = edgsT l n ++ edgT l n := by
 unfold edgsT; rw [List.range_succ, List.flatMap_append]; simp
theorem edgsT_len (l : List Nod) : ∀ n, (edgsT l n).length ≤ n
 | 0 => by simp [edgsT]
 | n + 1 => by
  have := edgsT_len l n;rw [edgsT_succ, List.length_append];unfold edgT;split <;> simp <;> omega
def OneUp (l : List Nod) : Prop := ∀ (i k k' : Nat) (x x' : Nod), l[k]? = some x → nodC i x = true → l[k']? = some x' → nodC i x' = true → k = k'
theorem rowN1 (n : Nod) : rowPart 1 0 (nrow n) = some (.i64 n.left) := rfl
theorem rowN2 (n : Nod) : rowPart 2 0 (nrow n) = some (.i64 n.right) := rfl
theorem rowN0 (n : Nod) : rowPart 0 0 (nrow n) = some (.i64 n.id) := rfl
theorem filt_edg {l : List Nod} (h : OneUp l) (i : Nat) : (l.filter (nodC i)).map (fun n => (⟨nodI l i, n.id⟩ : Crt)) = edgT l i := by
 rw [filter_uniq (fun k k' x x' h1 h2 h3 h4 => h i k k' x x' h1 h2 h3 h4)];unfold edgT;cases e : l.findIdx? (nodC i) with
 | none => rfl
 | some k =>
  obtain ⟨hk, _, _⟩ := List.findIdx?_eq_some_iff_getElem.1 e;have := List.getElem?_eq_getElem hk;simp only;rw [this, nodI_get this];rfl
theorem c178 {x : Tree} (h : OneUp x.nodes) (hl : x.nodes.length ≤ 1000) : Ans D 178 [TR x] [sl crow (edgsT x.nodes x.nodes.length)] := by
 refine ans_of k178_ok s178 rfl ⟨1001, ?_⟩;unfold k178;simp only [den_lt, shTR, EV];have e0 : ([PV.sl [], .v (.int .i64 0), .v (.int .i64 0)] : List PV) = [sl crow (edgsT x.nodes 0), .i64 ((edgsT x.nodes 0).length : Int), .i64 ((0 : Nat) : Int)] := rfl;rw [e0];refine (run_up (m := 1001) (n := x.nodes.length) (st := fun i => [sl crow (edgsT x.nodes i), .i64 ((edgsT x.nodes i).length : Int), .i64 (i : Int)]) (fin := some [sl crow (edgsT x.nodes x.nodes.length)]) (fun i self hi => ?_) (fun self => ?_) (by omega))
 ·obtain ⟨n, hn⟩ : ∃ n, x.nodes[i]? = some n := ⟨x.nodes[i], List.getElem?_eq_getElem _⟩;have hel := edgsT_len x.nodes i;unfold k178_6;simp only [den_lt, cTR1, EV, List.length_map, decide_eq_true_eq, if_lt hi];have e1 : ([sl crow (edgsT x.nodes i), PV.i64 ((edgsT x.nodes i).length : Int), .v (.int .i64 0)] : List PV) = [sl crow (edgsT x.nodes i ++ []), .i64 ((edgsT x.nodes i ++ []).length : Int), .i64 ((0 : Nat) : Int)] := by rw [List.append_nil]; rfl
  rw [e1];refine (run_fold (m := 1001) (l := x.nodes) (g := fun acc m => if nodC i m = true then acc ++ [⟨n.id, m.id⟩] else acc) (I := fun k acc => acc.length ≤ k) (S := fun acc k => [sl crow (edgsT x.nodes i ++ acc), .i64 ((edgsT x.nodes i ++ acc).length : Int), .i64 (k : Int)]) (fin := fun acc => self [sl crow (edgsT x.nodes i ++ acc), .i64 ((edgsT x.nodes i ++ acc).length : Int), .i64 ((i + 1 : Nat) : Int)]) (x := []) (by simp) (fun k a acc _ h => by
   split
   ·rw [List.length_append, List.length_singleton]; omega
   ·omega) (fun k m acc self' hm hI => ?_) (fun acc self' hI => ?_) (by omega)).1.trans ?_
  ·have hk := get_lt hm;have fin : ∀ (e14 e15 e16 e17 : PV) (b : Bool), b = nodC i m → den (PhiS D) 1001 k178_4
     [denJ (PhiS D) 1001 k178_1 [] [TR x, TR x], self, denJ (PhiS D) 1001 k178_2 [denJ (PhiS D) 1001 k178_1 [] [TR x, TR x], self] [TR x, TR x, sl crow (edgsT x.nodes i), .i64 ((edgsT x.nodes i).length : Int), .i64 (i : Int), sl nrow x.nodes, .v (.int .i64 (x.nodes.length : Int)), .v (.bool (decide ((i : Int) < (x.nodes.length : Int))))], self']
     [TR x, TR x, sl crow (edgsT x.nodes i), .i64 ((edgsT x.nodes i).length : Int), .i64 (i : Int), sl nrow x.nodes, .v (.int .i64 (x.nodes.length : Int)), .v (.bool (decide ((i : Int) < (x.nodes.length : Int)))), sl crow (edgsT x.nodes i ++ acc), .i64 ((edgsT x.nodes i ++ acc).length : Int), .i64 (k : Int), sl nrow x.nodes, .v (.int .i64 (x.nodes.length : Int)), .v (.bool (decide ((k : Int) < (x.nodes.length : Int)))), e14, e15, e16, e17, .v (.bool b)] =
     self' [sl crow (edgsT x.nodes i ++ if nodC i m = true then acc ++ [⟨n.id, m.id⟩] else acc), .i64 ((edgsT x.nodes i ++ if nodC i m = true then acc ++ [⟨n.id, m.id⟩] else acc).length : Int), .i64 ((k + 1 : Nat) : Int)] := fun e14 e15 e16 e17 b hb => by
    subst hb;unfold k178_4;simp only [EV];cases nodC i m with
    | true =>
     have ap := appM (f := crow) (l := edgsT x.nodes i ++ acc) (k := [⟨n.id, m.id⟩]) (bytes := 16) (z := 2) (by rw [List.length_append]; simp; omega) lenC;rw [List.append_assoc] at ap;simp only [if_true, den_lt, cTR1, tixM hn (lenN _), eltM hn, tixM hm (lenN _), eltM hm, rowN0, aggC, bsC, subC1, ap, EV, List.length_map, k178_3, up1 (show k < 1000000000 by omega)]
    | false =>
     simp only [Bool.false_eq_true, if_false, EV, k178_3, up1 (show k < 1000000000 by omega)]
   unfold k178_5;simp only [den_lt, cTR1, tixM hm (lenN _), eltM hm, rowN1, rowN2, EV, List.length_map, decide_eq_true_eq, if_lt hk];by_cases c1 : m.left = (i : Int)
   ·rw [if_pos c1];exact fin _ _ _ _ true (by unfold nodC; rw [decide_eq_true c1]; rfl)
   ·rw [if_neg c1];exact fin _ _ _ _ _ (by unfold nodC; rw [decide_eq_false c1, Bool.false_or])
  ·unfold k178_5;simp only [den_lt, cTR1, EV, List.length_map, decide_eq_true_eq, if_ge, k178_2, up1 (show i < 1000000000 by omega)]
  ·rw [edgsT_succ];have : x.nodes.foldl (fun acc m => if nodC i m = true then acc ++ [(⟨n.id, m.id⟩ : Crt)] else acc) [] = edgT x.nodes i := by
    rw [← filt_edg h i, nodI_get hn];have : ∀ (l : List Nod) (acc : List Crt), l.foldl (fun acc m => if nodC i m = true then acc ++ [(⟨n.id, m.id⟩ : Crt)] else acc) acc = acc ++ (l.filter (nodC i)).map (fun m => ⟨n.id, m.id⟩) := by
     intro l;induction l with
     | nil => simp
     | cons a l ih =>
      intro acc;rw [List.foldl_cons, ih, List.filter_cons];cases nodC i a <;> simp
    rw [this, List.nil_append]
   rw [this]
 ·unfold k178_6;simp only [den_lt, cTR1, EV, List.length_map, decide_eq_true_eq, if_ge, k178_1, subM]
theorem upArr_app (x : Int × Int) : ∀ (l : List (Int × Int)) (j : Nat) (u : List Int), upArr (l ++ [x]) j u = upArr [x] (j + l.length) (upArr l j u)
 | [], j, u => rfl
 | y :: l, j, u => by
  show upArr (l ++ [x]) (j + 1) _ = _
  rw [upArr_app x l];show _ = upArr [x] (j + (l.length + 1)) (upArr l (j + 1) _)
  rw [show j + 1 + l.length = j + (l.length + 1) by omega]
theorem fill_set (i n : Nat) (h : i < n) : (List.replicate i (-1 : Int) ++ List.replicate (n - i) 0).set i (-1) = List.replicate (i + 1) (-1) ++ List.replicate (n - (i + 1)) 0 := by
 refine List.ext_getElem? fun k => ?_;simp only [List.getElem?_set, List.getElem?_append, List.getElem?_replicate, List.length_append, List.length_replicate]
 repeat' split
 all_goals first | rfl | omega
theorem cart_get {l : List Pt} {t : Rt} (h : okF l) {k : Nat} {x : Int × Int} (hx : (cmake (ldF t l) l.length).2.2[k]? = some x) : ∃ n, (cart t l).nodes[k]? = some n ∧ n.left = x.1 ∧ n.right = x.2 ∧ ∃ p, l[k]? = some p ∧ n.id = p.id := by
 have hlen : (cmake (ldF t l) l.length).2.2.length = l.length := (cmake_inv (ldF_lin (t := t) h.2.2) l.length (by omega)).len;obtain ⟨p, hp⟩ : ∃ p, l[k]? = some p := ⟨l[k]'(by have := get_lt hx; omega), List.getElem?_eq_getElem _⟩;exact ⟨_, mkN_get hp hx, rfl, rfl, p, hp, rfl⟩
theorem nodC_hasC {n : Nod} {x : Int × Int} (h1 : n.left = x.1) (h2 : n.right = x.2) (i : Nat) : nodC i n = decide (hasC x i) := by
 unfold nodC;rw [h1, h2, Bool.eq_iff_iff];simp only [Bool.or_eq_true, decide_eq_true_eq];exact Iff.rfl
theorem find_same {l : List Pt} {t : Rt} (h : okF l) (i : Nat) : (cmake (ldF t l) l.length).2.2.findIdx? (fun x => decide (hasC x i)) = (cart t l).nodes.findIdx? (nodC i) := by
 have hlen : (cmake (ldF t l) l.length).2.2.length = l.length := (cmake_inv (ldF_lin (t := t) h.2.2) l.length (by omega)).len;have hnl : (cart t l).nodes.length = l.length := by unfold cart; rw [mkN_len _ _ (by omega)]; exact hlen
 cases e : (cart t l).nodes.findIdx? (nodC i) with
 | none =>
  rw [List.findIdx?_eq_none_iff] at e ⊢;intro x hx;obtain ⟨k, hk⟩ := List.mem_iff_getElem?.1 hx;obtain ⟨n, a1, a2, a3, _⟩ := cart_get h hk;rw [← nodC_hasC a2 a3];exact e n (List.mem_of_getElem? a1)
 | some k =>
  rw [List.findIdx?_eq_some_iff_getElem] at e ⊢;obtain ⟨e1, e2, e3⟩ := e;have hk := List.getElem?_eq_getElem (show k < (cmake (ldF t l) l.length).2.2.length by omega)
  refine ⟨by omega, ?_, fun j hj => ?_⟩
  ·obtain ⟨n, a1, a2, a3, _⟩ := cart_get h hk;rw [← nodC_hasC a2 a3];rw [List.getElem?_eq_getElem e1] at a1;cases a1; exact e2
  ·have hj' := List.getElem?_eq_getElem (show j < (cmake (ldF t l) l.length).2.2.length by omega)
   obtain ⟨n, a1, a2, a3, _⟩ := cart_get h hj';rw [← nodC_hasC a2 a3];rw [List.getElem?_eq_getElem (by omega)] at a1;have a1 := Option.some.inj a1;rw [← a1]; exact e3 j hj
theorem c125 {l : List Pt} {t : Rt} (h : okF l) (ht : In64 t) (hr : rok t = true) (hone : OneUp (cart t l).nodes) (hlk : ∀ x ∈ (cmake (ldF t l) l.length).2.2, x.1 < l.length ∧ x.2 < l.length) : Ans D 125 [F l, R t] [TR (cart t l), sl crow (edgsT (cart t l).nodes l.length)] := by
 have hl := h.1;have hlen : (cmake (ldF t l) l.length).2.2.length = l.length := (cmake_inv (ldF_lin (t := t) h.2.2) l.length (by omega)).len;have hnl : (cart t l).nodes.length = l.length := by unfold cart; rw [mkN_len _ _ (by omega)]; exact hlen
 refine ans_of k125_ok s125 rfl ⟨1001, ?_⟩;unfold k125;have rp := repI (n := (cart t l).nodes.length) (by omega);simp only [den_lt, shapeF, shapeR, phi (c220 h ht hr), shTR, cTR1, EV, List.length_map, rp, List.length_replicate];have e0 : ([sl I1 (List.replicate (cart t l).nodes.length 0), .v (.int .i64 0)] : List PV) = [sl I1 (List.replicate 0 (-1) ++ List.replicate ((cart t l).nodes.length - 0) 0), .i64 ((0 : Nat) : Int)] := rfl;rw [e0];refine run_up (m := 1001) (n := (cart t l).nodes.length) (st := fun i => [sl I1 (List.replicate i (-1) ++ List.replicate ((cart t l).nodes.length - i) 0), .i64 (i : Int)]) (fun i self hi => ?_) (fun self => ?_) (by omega)
 ·unfold k125_10;simp only [EV, decide_eq_true_eq, if_lt hi, ixM hi, setI (l := List.replicate i (-1) ++ List.replicate ((cart t l).nodes.length - i) 0) (i := i) (by simp; omega), fill_set i _ hi, up1 (show i < 1000000000 by omega)]
 unfold k125_10;simp only [EV, decide_eq_true_eq, if_ge, k125_9, den_lt, cTR1, List.length_map, Nat.sub_self, List.replicate_zero, List.append_nil];generalize hLK : (cmake (ldF t l) l.length).2.2 = lk at *;have e1 : ([sl I1 (List.replicate (cart t l).nodes.length (-1)), .v (.int .i64 0)] : List PV) = [sl I1 (upArr (lk.take 0) 0 (List.replicate (cart t l).nodes.length (-1))), .i64 ((0 : Nat) : Int)] := rfl;rw [e1];refine run_up (m := 1001) (n := (cart t l).nodes.length) (st := fun i => [sl I1 (upArr (lk.take i) 0 (List.replicate (cart t l).nodes.length (-1))), .i64 (i : Int)]) (fun i self hi => ?_) (fun self => ?_) (by omega)
 ·obtain ⟨x, hx⟩ : ∃ x, lk[i]? = some x := ⟨lk[i]'(by omega), List.getElem?_eq_getElem _⟩;obtain ⟨nd, a1, a2, a3, _⟩ := cart_get (t := t) h (by rw [hLK]; exact hx);obtain ⟨b1, b2⟩ := hlk x (List.mem_of_getElem? hx);have hnext : upArr (lk.take (i + 1)) 0 (List.replicate (cart t l).nodes.length (-1)) = upArr [x] i (upArr (lk.take i) 0 (List.replicate (cart t l).nodes.length (-1))) := by
   rw [List.take_add_one, hx];show upArr (lk.take i ++ [x]) 0 _ = _
   rw [upArr_app, List.length_take, Nat.zero_add, Nat.min_eq_left (by omega)]
  have hul : (upArr (lk.take i) 0 (List.replicate (cart t l).nodes.length (-1))).length = (cart t l).nodes.length := by rw [upArr_len]; simp
  rw [hnext];generalize upArr (lk.take i) 0 (List.replicate (cart t l).nodes.length (-1)) = u at hul;have pN : RF.ev (.part 1 2) [NP nd] = some (.agg [.i64 x.1, .i64 x.2]) := by rw [← a2, ← a3]; rfl
  unfold k125_8;simp only [EV, decide_eq_true_eq, if_lt hi, den_lt, cTR1, tixM a1 (lenN _), eltM a1, rowN, pN]
  let us : Nat → List Int := fun j => match j with | 0 => u | 1 => (if 0 ≤ x.1 then u.set x.1.toNat i else u) | _ => (if 0 ≤ x.2 then (if 0 ≤ x.1 then u.set x.1.toNat i else u).set x.2.toNat i else (if 0 ≤ x.1 then u.set x.1.toNat i else u))
  have hus : ∀ j, (us j).length = (cart t l).nodes.length := fun j => by
   match j with
   | 0 => exact hul
   | 1 => simp only [us]; split <;> simp [hul]
   | j + 2 => simp only [us]; repeat' split
              all_goals simp [hul]
  refine (run_up (m := 1001) (n := 2) (st := fun j => [sl I1 (us j), .i64 (j : Int)]) (fin := self [sl I1 (us 2), .i64 ((i + 1 : Nat) : Int)]) (fun j self' hj => ?_) (fun self' => ?_) (by omega)).trans rfl
  ·obtain ⟨c, hc, haix, hu⟩ : ∃ c : Int, c < l.length ∧ RF.ev (.aix 1 2 0) [.agg [.i64 x.1, .i64 x.2], .i64 (j : Int)] = some (.i64 c) ∧ us (j + 1) = (if 0 ≤ c then (us j).set c.toNat i else us j) := by
    match j, hj with
    | 0, _ => exact ⟨x.1, b1, rfl, rfl⟩
    | 1, _ => exact ⟨x.2, b2, rfl, rfl⟩
   unfold k125_7;have l2 : decide ((j : Int) < 2) = true := decide_eq_true (by omega);simp only [EV, l2, eq_self, if_true, haix, decide_eq_true_eq, ge_iff_le];rw [hu];by_cases c0 : 0 ≤ c
   ·obtain ⟨m, rfl⟩ := natI c0;rw [if_pos c0, if_pos c0, Int.toNat_natCast];simp only [EV, ixM (show m < (cart t l).nodes.length by omega), setI (l := us j) (i := m) (by rw [hus]; omega), k125_6, up1 (show j < 1000000000 by omega)]
   ·rw [if_neg c0, if_neg c0];simp only [EV, k125_6, up1 (show j < 1000000000 by omega)]
  ·unfold k125_7;simp only [EV, show decide (((2 : Nat) : Int) < 2) = false from rfl, Bool.false_eq_true, if_false, k125_5, up1 (show i < 1000000000 by omega)]
 unfold k125_8;simp only [EV, decide_eq_true_eq, if_ge, k125_4, den_lt, cTR1, List.length_map];rw [List.take_of_length_le (by omega)];have hU : ∀ i, i < (cart t l).nodes.length → (upArr lk 0 (List.replicate (cart t l).nodes.length (-1)))[i]? = match (cart t l).nodes.findIdx? (nodC i) with | some k => some ((k : Nat) : Int) | none => some (-1) := fun i hi => by
  rw [upArr_get lk 0 _ i (by simpa using hi) ?_, ← hLK, find_same h i]
  ·cases (cart t l).nodes.findIdx? (nodC i) with
   | none => simp only; rw [List.getElem?_replicate, if_pos hi]
   | some k => simp only [Nat.zero_add]
  ·intro k x hk hc k' x' hk' hc';rw [← hLK] at hk hk';obtain ⟨n, a1, a2, a3, _⟩ := cart_get h hk;obtain ⟨n', b1, b2, b3, _⟩ := cart_get h hk';exact hone i k k' n n' a1 (by rw [nodC_hasC a2 a3]; exact decide_eq_true hc) b1 (by rw [nodC_hasC b2 b3]; exact decide_eq_true hc')
 generalize upArr lk 0 (List.replicate (cart t l).nodes.length (-1)) = U at hU;have e2 : ([PV.sl [], .v (.int .i64 0), .v (.int .i64 0)] : List PV) = [sl crow (edgsT (cart t l).nodes 0), .i64 ((edgsT (cart t l).nodes 0).length : Int), .i64 ((0 : Nat) : Int)] := rfl;rw [e2];refine run_up (m := 1001) (n := (cart t l).nodes.length) (st := fun i => [sl crow (edgsT (cart t l).nodes i), .i64 ((edgsT (cart t l).nodes i).length : Int), .i64 (i : Int)]) (fun i self hi => ?_) (fun self => ?_) (by omega)
 ·obtain ⟨n, hn⟩ : ∃ n, (cart t l).nodes[i]? = some n := ⟨(cart t l).nodes[i], List.getElem?_eq_getElem _⟩;have hel := edgsT_len (cart t l).nodes i;have hu := hU i hi;rw [edgsT_succ];unfold edgT;unfold k125_3;cases e : (cart t l).nodes.findIdx? (nodC i) with
  | none =>
   rw [e] at hu;simp only [List.append_nil];simp only [EV, decide_eq_true_eq, if_lt hi, den_lt, cTR1, tixM hn (lenN _), eltM hn, rowN, ixM hi, eltM hu, rowI, ge_iff_le, Int.reduceNeg, Int.reduceLE, if_false, k125_2, up1 (show i < 1000000000 by omega)]
  | some k =>
   rw [e] at hu;obtain ⟨hk, _, _⟩ := List.findIdx?_eq_some_iff_getElem.1 e;have hm := List.getElem?_eq_getElem hk;have c0 : ((0 : Int) ≤ (k : Nat)) := by omega
   have cN : RF.ev (.cell 0) [NP n] = some (.i64 n.id) := rfl;have ap := appM (f := crow) (l := edgsT (cart t l).nodes i) (k := [⟨n.id, (cart t l).nodes[k].id⟩]) (bytes := 16) (z := 2) (by simp; omega) lenC;simp only [EV, decide_eq_true_eq, if_lt hi, den_lt, cTR1, tixM hn (lenN _), eltM hn, rowN, ixM hi, eltM hu, rowI, ge_iff_le, if_pos c0, tixM hm (lenN _), eltM hm, rowN0, cN, aggC, bsC, subC1, ap, List.length_map, k125_2, up1 (show i < 1000000000 by omega), nodI_get hn, nodI_get hm]
 ·unfold k125_3;simp only [EV, decide_eq_true_eq, if_ge, k125_1, den_lt, subM, hnl]
end Go.Proofs.YtfghdmmapmdcgaaGreat
