import Derived.Test.YtfghdmmapmdcgaaGreatCM
set_option linter.unusedVariables false
set_option linter.unusedSimpArgs false
set_option linter.defProp false
noncomputable section
namespace Go.Proofs.YtfghdmmapmdcgaaGreat
open Go.Sym Bnd
set_option maxRecDepth 100000
theorem twoE_known {c : Clock} (h : okF c.pts) (hr : rok c.now = true) {x : Held} (hx : x.cert.ok) : twoE (ptOf c.pts x.cert.high) (ptOf c.pts x.cert.low) c.now = 0 ↔ knownH c.pts x = true := by
 unfold knownH;rw [Bool.and_eq_true];constructor
 ·intro h0;obtain ⟨h1, h2, _, _⟩ := twoE_ok h0;have go : ∀ id, (ptOf c.pts id).ok = true → inF c.pts id = true := fun id hp => by
   cases e : inF c.pts id with
   | true => rfl
   | false => rw [ptOf_none (inF_not e)] at hp; simp [Pt.ok] at hp
  exact ⟨go _ h2, go _ h1⟩
 ·rintro ⟨h1, h2⟩;obtain ⟨i, p, a1, a2, a3, a4⟩ := inF_ok h h1;obtain ⟨j, q, b1, b2, b3, b4⟩ := inF_ok h h2;rw [a4, b4];exact twoE_zero (okF_pt h b1) (okF_pt h a1) hr (by rw [a2, b2]; exact fun e => hx.2.2.2.2 e.symm)
theorem tsub1 {d : Due} {rest : List Due} : RF.ev (.tsub 3) [sl drow (d :: rest), .v (.int .i64 1), .v (.int .i64 ((rest.length + 1 : Nat) : Int))] = some (sl drow rest) := by
 rw [f_tsub, if_pos ⟨by omega, by omega, by simp, by simp [elsOk', drow], by decide⟩];simp;exact List.take_of_length_le (by simp)
theorem bnd1 {n : Nat} : RF.ev .bnd [.v (.int .i64 1), .v (.int .i64 ((n + 1 : Nat) : Int))] = some (.i64 1) := by
 rw [f_bnd, if_pos ⟨by omega, by omega⟩]
theorem aggE (e : Rt) (n : Int) (h : Hnd) : RF.ev .agg [R e, .i64 n, HD h] = some (EP ⟨e, n, h⟩) := rfl
open Classical in
theorem c153 {c : Clock} (h64 : Cl64 c) (hg : gCl c = false) : Ans D 153 [CL c] [.i64 (okE (decide (ClkOk c)))] := by
 have hg' := hg;unfold gCl gAg gSl at hg';simp only [Bool.or_eq_false_iff, decide_eq_false_iff_not] at hg';have hga : gAg c.agenda = false := by unfold gCl at hg; simp only [Bool.or_eq_false_iff] at hg; exact hg.2
 have no : ∀ h : ¬ ClkOk c, (some [PV.v (.int .i64 8)] : Option (List PV)) = some [.i64 (okE (decide (ClkOk c)))] := fun h => by rw [decide_eq_false h]; rfl
 have b4 : ∀ w x y z : Int, RF.ev (.bs 4 [KP.z] [0, 1, 2, 3]) [.i64 w, .i64 x, .i64 y, .i64 z] = some (sl I1 [w, x, y, z]) := fun _ _ _ _ => rfl;refine ans_of k153_ok s153 rfl ⟨1001, ?_⟩;unfold k153;simp only [den_lt, shCL, pCL0, pCL2, pCL3, pCL5, b4, EV, phi (c43 h64.1), phi (c231 _), phi (c244 (c := c.certs) (by omega)), phi (c245 hga h64.2)];refine (run_list (m := 1001) (l := [okE (rok c.now), fieldE c.pts, okE (decide (CertsOk c.certs)), okE (decide (AgOk c.agenda))]) (p := fun e => decide (e = 0)) (st := fun i => [.i64 (i : Int)]) (r := some [.i64 8]) (fin := some [.i64 (okE (decide (ClkOk c)))]) (fun i e self he _ => ?_) (fun hall self => ?_) (by simp)).trans ?_
 ·have hi : i < 4 := by simpa using get_lt he
  unfold k153_5;have i4 : RF.ev .ix [.i64 (i : Int), .v (.int .i64 4)] = some (.i64 (i : Int)) := by rw [f_ix, if_pos (by omega)]
  have l4 : decide ((i : Int) < 4) = true := decide_eq_true (by omega);simp only [EV, l4, eq_self, if_true, i4, eltM he, rowI, up1 (show i < 1000000000 by omega), Bool.not_eq_true', decide_eq_true_eq]
  by_cases e0 : e = 0
  ·rw [decide_eq_true e0, if_neg (by simp), if_pos e0]
  ·rw [decide_eq_false e0, if_pos rfl, if_neg e0]
 ·simp only [List.all_cons, List.all_nil, Bool.and_true, Bool.and_eq_true, decide_eq_true_eq, okE_eq] at hall;obtain ⟨h1, h2, h3, h5⟩ := hall;have h2' := fieldE_ok.1 h2;unfold k153_5;have l4 : decide (((4 : Nat) : Int) < 4) = false := by decide
  simp only [List.length_cons, List.length_nil, Nat.zero_add, Nat.reduceAdd, EV, l4, Bool.false_eq_true, if_false];unfold k153_4;simp only [den_lt, cCL4, cCL8, cCL9, cCL10, EV, List.length_map, Bool.not_eq_true', decide_eq_false_iff_not];by_cases h6 : c.agenda.wher.length = 200
  ·rw [if_neg (by omega)];by_cases h7 : c.agenda.heap.length = c.due.length
   ·rw [if_neg (by omega)];refine (run_step (m := 1001) (l := c.certs.list) (b := k153_3) (g := dueStep c) (I := fun _ => True) (S := fun left i => [sl drow left, .i64 (i : Int)]) (r := some [.i64 8]) (fin := fun left => some [.i64 (if left = [] then 0 else 8)]) (x := c.due) trivial (fun _ _ _ _ _ => trivial) (fun i h left self hh _ => ?_) (fun left self _ hm => ?_) (by omega)).trans ?_
    ·have hx : h.cert.ok := (h3.2.2.2 i h hh).1;have hk := twoE_known h2' h1 hx;have hw := phi (c246 (x := h.cert) (t := c.now) h2' h64.1);unfold k153_3 dueStep;generalize hF : failT c.now (ptOf c.pts h.cert.high) (ptOf c.pts h.cert.low) = FT at hw ⊢;by_cases hkn : knownH c.pts h = true
     ·rw [if_pos (hk.2 hkn)] at hw;rw [if_pos hkn];simp only [den_lt, cCL4, cCL10, pCL0, pCL2, pCL5, tixM hh (lenH _), eltM hh, rowH, pHP, cHP0, shapeR, hw, EV, List.length_map, decide_eq_true_eq, if_lt (get_lt hh), ge_iff_le, Bool.not_eq_true', decide_true, Bool.not_true, Bool.false_eq_true, if_false];cases hF2 : FT.2 with
      | false =>
       simp only [eq_self, if_true, Bool.false_eq_true, if_false];simp only [den_lt, cHP0, cHP1, cHP2, cellR0, cellR1, EV, k153_2, up1 (show i < 1000000000 by have := get_lt hh; omega)]
      | true =>
       simp only [Bool.true_eq_false, if_false, if_true];cases left with
       | nil => rw [if_pos (by simp)]
       | cons d rest =>
        have d0 : (d :: rest)[0]? = some d := rfl;have t0' : RF.ev (.tix 3) [sl drow (d :: rest), .v (.int .i64 0)] = some (.i64 ((0 : Nat) : Int)) := tixM d0 (lenD _);rw [if_neg (by simp; omega)];simp only [den_lt, t0', eltM d0, rowD0, rowDh, cHD0, cHP0, EV, Bool.not_eq_true', decide_eq_false_iff_not, decide_eq_true_eq, ge_iff_le];by_cases n1 : d.number = h.number
        ·rw [if_neg (by simp [n1])];by_cases n2 : d.hnd.index < 0
         ·rw [if_pos n2, if_neg (fun y => by have := y.2.1.1; omega)]
         ·rw [if_neg n2];by_cases n3 : 200 ≤ d.hnd.index
          ·rw [if_pos n3, if_neg (fun y => by
            have := get_lt y.2.1.2.2;have := h5.2.1.1;omega)]
          ·rw [if_neg n3];obtain ⟨ix, hix⟩ := natI (show 0 ≤ d.hnd.index by omega)
           obtain ⟨w, hwh⟩ : ∃ w, c.agenda.wher[ix]? = some w := ⟨c.agenda.wher[ix]'(by omega), List.getElem?_eq_getElem _⟩;obtain ⟨b, hb⟩ : ∃ b, c.agenda.slots.used[ix]? = some b := ⟨c.agenda.slots.used[ix]'(by have := h5.2.1.1; have := h5.1.2.2.1; omega), List.getElem?_eq_getElem _⟩;obtain ⟨u, hu⟩ : ∃ u, c.agenda.slots.uses[ix]? = some u := ⟨c.agenda.slots.uses[ix]'(by have := h5.2.1.1; omega), List.getElem?_eq_getElem _⟩;have hpl := h5.2.1.2.2 ix b w u hb hwh hu;simp only [den_lt, cCL8, cCL9, cHD0, hix, tixM hwh (lenI _), eltM hwh, rowI, EV, decide_eq_true_eq];by_cases n4 : w < 0
           ·rw [if_pos n4, if_neg (fun y => by
             have hl := y.2.1.2.1;rw [hix, Int.toNat_natCast, hb] at hl;cases hl;rw [if_pos rfl] at hpl;have := hpl.1;omega)]
           ·rw [if_neg n4];have hbt : b = true := by
             cases b with
             | true => rfl
             | false => rw [if_neg (by simp)] at hpl; omega
            subst hbt;rw [if_pos rfl] at hpl;obtain ⟨_, e, he, hex⟩ := hpl;obtain ⟨n, rfl⟩ := natI (show 0 ≤ w by omega)
            rw [Int.toNat_natCast] at he;have hD : DueAt c.agenda d h.number FT.1 ↔ e = ⟨FT.1, h.number, d.hnd⟩ := by
             constructor
             ·intro y;have hl := y.2.1.2.2;rw [hix, Int.toNat_natCast, hu] at hl;have := y.2.2 ix n e hix hwh he;obtain ⟨e1, e2, e3⟩ := e;simp only at this hex;rw [this.1, this.2, hex];obtain ⟨d1, d2, d3⟩ := d;simp only at hix hl;simp only [Option.some.injEq] at hl;rw [hix, hl]
             ·intro y;subst y;simp only at hex;refine ⟨n1, ⟨by omega, by rw [hix, Int.toNat_natCast]; exact hb, by rw [hix, Int.toNat_natCast, hu, hex]⟩, fun i' n' e' y1 y2 y3 => ?_⟩;rw [hix] at y1;have : ix = i' := by omega
              subst this;rw [hwh] at y2;have : (n : Int) = n' := by simpa using y2
              have : n = n' := by omega
              subst this;rw [he] at y3; cases y3; exact ⟨rfl, rfl⟩
            have pR : RF.ev (.part 0 2) [R FT.1] = some (R FT.1) := rfl;have pH2 : RF.ev (.part 0 2) [HD d.hnd] = some (HD d.hnd) := rfl;simp only [den_lt, cCL8, tixM he (lenE _), eltM he, rowE, pR, pH2, cHP0, aggE, eqvE, EV, Bool.not_eq_true', decide_eq_false_iff_not];by_cases n5 : e = ⟨FT.1, h.number, d.hnd⟩
            ·rw [if_neg (by simp [n5]), if_pos (hD.2 n5)];simp only [den_lt, List.length_cons, List.length_map, bnd1, tsub1, cHP0, cHP1, cHP2, cellR0, cellR1, EV, k153_2, up1 (show i < 1000000000 by have := get_lt hh; omega)]
            ·rw [if_pos n5, if_neg (fun y => n5 (hD.1 y))]
        ·rw [if_pos n1, if_neg (fun y => n1 y.1)]
     ·rw [if_neg (fun y => hkn (hk.1 y))] at hw;rw [if_neg hkn];simp only [den_lt, cCL4, cCL10, pCL0, pCL2, pCL5, tixM hh (lenH _), eltM hh, rowH, pHP, cHP0, shapeR, hw, EV, List.length_map, decide_eq_true_eq, if_lt (get_lt hh), Bool.not_eq_true', decide_eq_false_iff_not];rw [if_pos (fun y => hkn (hk.1 y))]
    ·unfold k153_3;simp only [EV, List.length_map, decide_eq_true_eq, if_ge, k153_1, gt_iff_lt];cases left with
     | nil => rw [if_neg (by simp), if_pos rfl]
     | cons d rest => rw [if_pos (by simp), if_neg (by simp)]
    ·cases hm : foldO (dueStep c) c.due c.certs.list with
     | none => exact no (fun h => by rw [h.2.2.2.2.2.2] at hm; cases hm)
     | some left =>
      cases left with
      | nil => rw [decide_eq_true (show ClkOk c from ⟨h1, h2', h3, h5, h6, h7, hm⟩)]; rfl
      | cons d rest => exact no (fun h => by rw [h.2.2.2.2.2.2] at hm; cases hm)
   ·rw [if_pos (by omega)];exact no (fun h => h7 h.2.2.2.2.2.1)
  ·rw [if_pos (by omega)];exact no (fun h => h6 h.2.2.2.2.1)
 ·simp only [List.all_cons, List.all_nil, Bool.and_true, Bool.and_eq_true, decide_eq_true_eq, okE_eq];split
  ·rfl
  ·rename_i hn;exact no (fun h => hn ⟨h.1, fieldE_ok.2 h.2.1, h.2.2.1, h.2.2.2.1⟩)
end Go.Proofs.YtfghdmmapmdcgaaGreat
