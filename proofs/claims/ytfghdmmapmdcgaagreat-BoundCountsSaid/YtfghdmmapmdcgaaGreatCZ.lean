import Derived.Test.YtfghdmmapmdcgaaGreatCYG
set_option linter.unusedVariables false
set_option linter.unusedSimpArgs false
set_option linter.defProp false
noncomputable section
namespace Go.Proofs.YtfghdmmapmdcgaaGreat
open Go.Sym Bnd
set_option maxRecDepth 100000
theorem cart_lt {l : List Pt} {t : Rt} (h : okF l) : ∀ x ∈ (cmake (ldF t l) l.length).2.2, x.1 < l.length ∧ x.2 < l.length := fun x hx => by
 obtain ⟨k, hk⟩ := List.mem_iff_getElem?.1 hx;have C := cmake_cart (ldF_lin (t := t) h.2.2);obtain ⟨a, b, ⟨a1, _⟩, ⟨b1, b2, _⟩, l1, l2⟩ := C.2.2 k x hk;constructor
 ·rcases l1 with ⟨_, l1⟩ | ⟨i, l1, t1, t2, _⟩
  ·omega
  ·have := get_lt hk;have := C.2.1;omega
 ·rcases l2 with ⟨_, l2⟩ | ⟨i, l2, t1, t2, _⟩ <;> omega
theorem cart_len {l : List Pt} {t : Rt} (h : okF l) : (cart t l).nodes.length = l.length := by
 unfold cart;have hlen : (cmake (ldF t l) l.length).2.2.length = l.length := (cmake_inv (ldF_lin (t := t) h.2.2) l.length (by omega)).len;rw [mkN_len _ _ (by omega)]; exact hlen
theorem cart_below {l : List Pt} {t : Rt} (h : okF l) {i k : Nat} {x : Nod} (hx : (cart t l).nodes[k]? = some x) (hc : nodC i x = true) : Below (cmake (ldF t l) l.length).2.2 i k := by
 have hk := get_lt hx;rw [cart_len h] at hk;have hlen : (cmake (ldF t l) l.length).2.2.length = l.length := (cmake_inv (ldF_lin (t := t) h.2.2) l.length (by omega)).len;obtain ⟨y, hy⟩ : ∃ y, (cmake (ldF t l) l.length).2.2[k]? = some y := ⟨_, List.getElem?_eq_getElem (by omega)⟩;obtain ⟨n, a1, a2, a3, _⟩ := cart_get h hy;rw [hx] at a1; cases a1;refine ⟨y, hy, ?_⟩;unfold nodC at hc;rw [a2, a3] at hc;simpa using hc
theorem cart_one {l : List Pt} {t : Rt} (h : okF l) : OneUp (cart t l).nodes := fun i k k' x x' h1 h2 h3 h4 =>
 below_uniq (ldF_lin (t := t) h.2.2) (cmake_cart (ldF_lin (t := t) h.2.2)) (cart_below h h1 h2) (cart_below h h3 h4)
theorem cart_id {l : List Pt} {t : Rt} (h : okF l) {i : Nat} {p : Pt} (hp : l[i]? = some p) : nodI (cart t l).nodes i = p.id := by
 have hlen : (cmake (ldF t l) l.length).2.2.length = l.length := (cmake_inv (ldF_lin (t := t) h.2.2) l.length (by omega)).len;have := get_lt hp;obtain ⟨y, hy⟩ : ∃ y, (cmake (ldF t l) l.length).2.2[i]? = some y := ⟨_, List.getElem?_eq_getElem (by omega)⟩;obtain ⟨n, a1, a2, a3, q, hq, e⟩ := cart_get h hy;rw [nodI_get a1, e, hp.symm.trans hq |> Option.some.inj]
theorem mem_edgsT {l : List Nod} {n : Nat} {e : Crt} (h : e ∈ edgsT l n) : ∃ i k, i < n ∧ l.findIdx? (nodC i) = some k ∧ e = ⟨nodI l i, nodI l k⟩ := by
 unfold edgsT at h;obtain ⟨i, hi, he⟩ := List.mem_flatMap.1 h;rw [List.mem_range] at hi;unfold edgT at he;cases e' : l.findIdx? (nodC i) with
 | none => rw [e'] at he; cases he
 | some k =>
  rw [e'] at he;exact ⟨i, k, hi, e', List.mem_singleton.1 he⟩
theorem edgT_facts {l : List Pt} {t : Rt} (h : okF l) {e : Crt} (he : e ∈ edgsT (cart t l).nodes l.length) : inF l e.low = true ∧ inF l e.high = true ∧ leads t (ptOf l e.high) (ptOf l e.low) = true := by
 obtain ⟨i, k, hi, hf, rfl⟩ := mem_edgsT he;obtain ⟨hk, hc, _⟩ := List.findIdx?_eq_some_iff_getElem.1 hf;have hb := cart_below h (List.getElem?_eq_getElem hk) hc;rw [cart_len h] at hk;have hp := List.getElem?_eq_getElem hi;have hq := List.getElem?_eq_getElem hk;obtain ⟨hl, _⟩ := below_facts (ldF_lin (t := t) h.2.2) (cmake_cart (ldF_lin (t := t) h.2.2)) hb;rw [ldF_get hq hp] at hl;simp only;rw [cart_id h hp, cart_id h hq, ptOf_some h hp, ptOf_some h hq];exact ⟨in_ids.2 (List.mem_map.2 ⟨_, List.mem_of_getElem? hp, rfl⟩), in_ids.2 (List.mem_map.2 ⟨_, List.mem_of_getElem? hq, rfl⟩), hl⟩
theorem edgT_nodup {l : List Pt} {t : Rt} (h : okF l) : ∀ n, n ≤ l.length → (edgsT (cart t l).nodes n).Nodup
 | 0, _ => by simp [edgsT]
 | n + 1, hn => by
  rw [edgsT_succ];have ih := edgT_nodup (t := t) h n (by omega);unfold edgT;split
  ·rw [List.nodup_append];refine ⟨ih, by simp, fun a ha b hb e => ?_⟩;subst e;obtain ⟨i, k, hi, hf, e⟩ := mem_edgsT ha;rw [List.mem_singleton] at hb;rw [e] at hb;simp only [Crt.mk.injEq] at hb;have hp := List.getElem?_eq_getElem (show i < l.length by omega)
   have hq := List.getElem?_eq_getElem (show n < l.length by omega)
   rw [cart_id h hp, cart_id h hq] at hb;have := risen_lt' h.2.2 hi hp hq;omega
  ·rw [List.append_nil]; exact ih
theorem c177 {l : List Pt} {t : Rt} (h : okF l) (ht : In64 t) : Ans D 177 [F l, R t] [TR (cart t l)] := by
 refine ans_of k177_ok s177 rfl ⟨1, ?_⟩;unfold k177;simp only [den_lt, shapeF, shapeR, phi (c268 h ht), shTR, EV]
def HeatOk (k : Heater) : Prop := ClkOk k.clock ∧ cart k.clock.now k.clock.pts = k.tree ∧ JustR k.clock (edgsT (cart k.clock.now k.clock.pts).nodes k.clock.pts.length)
theorem gHt_cl {k : Heater} (h : gHt k = false) : gCl k.clock = false ∧ k.tree.nodes.length ≤ 70 := by
 unfold gHt at h;simp only [Bool.or_eq_false_iff, decide_eq_false_iff_not] at h;exact ⟨h.1, by omega⟩
open Classical in
theorem c83 {k : Heater} (h64 : Cl64 k.clock) (hg : gHt k = false) : Ans D 83 [HT k] [.i64 (okE (decide (HeatOk k)))] := by
 obtain ⟨g1, g2⟩ := gHt_cl hg;have no : ∀ h : ¬ HeatOk k, (some [PV.v (.int .i64 8)] : Option (List PV)) = some [.i64 (okE (decide (HeatOk k)))] := fun h => by rw [decide_eq_false h]; rfl
 have pHT2 : RF.ev (.part 2 1) [HT k] = some (F k.clock.pts) := rfl;have pHT0 : RF.ev (.part 0 2) [HT k] = some (R k.clock.now) := rfl;refine ans_of k83_ok s83 rfl ⟨1001, ?_⟩;unfold k83;simp only [den_lt, shHT, pHT, EV, phi (c167 h64 g1), okE_not, Bool.not_eq_true', decide_eq_false_iff_not];by_cases h1 : ClkOk k.clock
 ·have hF := h1.2.1;have hl := hF.1;have hnl := cart_len (t := k.clock.now) hF;rw [decide_eq_true h1, if_pos rfl];simp only [den_lt, pHT, pHT2, pHT0, pHTt, shTR, phi (c177 hF h64.1), phi (c137 (s := cart k.clock.now k.clock.pts) (t := k.tree) (by omega)), EV, Bool.not_eq_true', decide_eq_false_iff_not];by_cases h2 : cart k.clock.now k.clock.pts = k.tree
  ·rw [if_neg (by simp [h2])];have hel := edgsT_len (cart k.clock.now k.clock.pts).nodes k.clock.pts.length;have e178 := phi (c178 (x := cart k.clock.now k.clock.pts) (cart_one hF) (by omega));rw [hnl] at e178;simp only [den_lt, EV, e178, phi (c169 (c := k.clock) (edges := edgsT (cart k.clock.now k.clock.pts).nodes k.clock.pts.length) hF h64.1 (by omega) (by have := gCl_certs g1; omega) (fun e he => ⟨(edgT_facts hF he).1, (edgT_facts hF he).2.1⟩)), Bool.not_eq_true', decide_eq_false_iff_not];by_cases h3 : JustR k.clock (edgsT (cart k.clock.now k.clock.pts).nodes k.clock.pts.length)
   ·rw [if_neg (by simp [h3]), decide_eq_true (show HeatOk k from ⟨h1, h2, h3⟩)]; rfl
   ·rw [if_pos h3];exact no (fun h => h3 h.2.2)
  ·rw [if_pos h2];exact no (fun h => h2 h.2.1)
 ·rw [decide_eq_false h1, if_neg (by simp)];exact no (fun h => h1 h.1)
open Classical in
theorem c79 {k : Heater} (h64 : Cl64 k.clock) (hg : gHt k = false) : Ans D 79 [HT k] [.i64 (okE (decide (HeatOk k)))] := by
 obtain ⟨g1, g2⟩ := gHt_cl hg;have no : ∀ h : ¬ HeatOk k, (some [PV.v (.int .i64 8)] : Option (List PV)) = some [.i64 (okE (decide (HeatOk k)))] := fun h => by rw [decide_eq_false h]; rfl
 have pHT2 : RF.ev (.part 2 1) [HT k] = some (F k.clock.pts) := rfl;have pHT0 : RF.ev (.part 0 2) [HT k] = some (R k.clock.now) := rfl;have cHT11 : RF.ev (.cell 11) [HT k] = some (.i64 k.tree.root) := rfl;have cHT12 : RF.ev (.cell 12) [HT k] = some (sl nrow k.tree.nodes) := rfl;have cc := gCl_certs g1;refine ans_of k79_ok s79 rfl ⟨1001, ?_⟩;unfold k79;simp only [den_lt, shHT, pHT, EV, phi (c153 h64 g1), okE_not, Bool.not_eq_true', decide_eq_false_iff_not];by_cases h1 : ClkOk k.clock
 ·have hF := h1.2.1;have hl := hF.1;have hnl := cart_len (t := k.clock.now) hF;have hel := edgsT_len (cart k.clock.now k.clock.pts).nodes k.clock.pts.length;rw [decide_eq_true h1, if_pos rfl];simp only [den_lt, pHT, pHT2, pHT0, cHT11, cHT12, cTR0, cTR1, shTR, phi (c125 hF h64.1 h1.1 (cart_one hF) (cart_lt hF)), phi (c165 (l := (cart k.clock.now k.clock.pts).nodes) (k := k.tree.nodes) (by omega)), EV, Bool.not_eq_true', decide_eq_false_iff_not];have hJ := just_same (c := k.clock) h1.2.2.1 (edgT_nodup (t := k.clock.now) hF k.clock.pts.length (by omega)) (fun e he => (edgT_facts hF he).2.2);by_cases h2 : (cart k.clock.now k.clock.pts).root = k.tree.root
  ·rw [if_neg (by simp [h2])];by_cases h3 : (cart k.clock.now k.clock.pts).nodes = k.tree.nodes
   ·rw [if_neg (by simp [h3])];have h4 : cart k.clock.now k.clock.pts = k.tree := by
     generalize cart k.clock.now k.clock.pts = a at h2 h3;obtain ⟨a, b⟩ := a;simp only at h2 h3;rw [h2, h3]
    have hJ' : HeatOk k ↔ JustP k.clock (edgsT (cart k.clock.now k.clock.pts).nodes k.clock.pts.length) := ⟨fun h => hJ.2 h.2.2, fun h => ⟨h1, h4, hJ.1 h⟩⟩;have hd : decide (HeatOk k) = decide (JustP k.clock (edgsT (cart k.clock.now k.clock.pts).nodes k.clock.pts.length)) := by
     rw [Bool.eq_iff_iff, decide_eq_true_eq, decide_eq_true_eq]; exact hJ'
    rw [hd];clear hd hJ' hJ;generalize edgsT (cart k.clock.now k.clock.pts).nodes k.clock.pts.length = E at hel;simp only [den_lt, cCL4, EV, List.length_map];by_cases c1 : E.length = k.clock.certs.list.length
    ·rw [if_pos (decide_eq_true (by omega))];refine (run_list (m := 1001) (l := k.clock.certs.list) (p := fun h => decide (h.cert ∈ E)) (st := fun i => [.i64 (i : Int)]) (r := some [.i64 8]) (fin := some [.i64 0]) (fun i a self ha _ => ?_) (fun _ self => ?_) (by omega)).trans ?_
     ·unfold k79_3;simp only [den_lt, cCL4, tixM ha (lenH _), eltM ha, rowH, pHP, phi (c155 (l := E) a.cert (by omega)), EV, List.length_map, decide_eq_true_eq, if_lt (get_lt ha), up1 (show i < 1000000000 by have := get_lt ha; omega), Bool.not_eq_true', decide_eq_false_iff_not]
      by_cases c2 : a.cert ∈ E
      ·rw [if_neg (by simp [c2]), if_pos c2]
      ·rw [if_pos c2, if_neg c2];unfold k79_1;simp only [EV];rfl
     ·unfold k79_3 k79_2 k79_1;simp only [EV, decide_eq_true_eq, if_ge];rfl
     ·have : (k.clock.certs.list.all fun h => decide (h.cert ∈ E)) = decide (JustP k.clock E) := by
       rw [Bool.eq_iff_iff, decide_eq_true_eq];unfold JustP;simp [c1]
      rw [this];cases decide (JustP k.clock E) <;> rfl
    ·rw [if_neg (by simp; omega), show decide (JustP k.clock E) = false from decide_eq_false (fun h => c1 h.1)]
     unfold k79_1;simp only [EV];rfl
   ·rw [if_pos h3];exact no (fun h => h3 (by rw [h.2.1]))
  ·rw [if_pos h2];exact no (fun h => h2 (by rw [h.2.1]))
 ·rw [decide_eq_false h1, if_neg (by simp)];exact no (fun h => h1 h.1)
end Go.Proofs.YtfghdmmapmdcgaaGreat
