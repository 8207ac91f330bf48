import Derived.Test.YtfghdmmapmdcgaaGreatCO
set_option linter.unusedVariables false
set_option linter.unusedSimpArgs false
set_option linter.defProp false
noncomputable section
namespace Go.Proofs.YtfghdmmapmdcgaaGreat
open Go.Sym Bnd
set_option maxRecDepth 100000
def inF (l : List Pt) (id : Int) : Bool := decide (0 ≤ pos l id)
theorem inF_ok {l : List Pt} (h : okF l) {id : Int} (hi : inF l id = true) : ∃ (i : Nat) (p : Pt), l[i]? = some p ∧ p.id = id ∧ pos l id = (i : Nat) ∧ ptOf l id = p := by
 unfold inF at hi;have hi := of_decide_eq_true hi;rcases pos_cases l id with ⟨e, _⟩ | ⟨i, p, h1, h2, h3⟩
 ·omega
 ·exact ⟨i, p, h1, h2, h3, by rw [← h2]; exact ptOf_some h h1⟩
theorem inF_not {l : List Pt} {id : Int} (hi : inF l id = false) : ∀ p ∈ l, p.id ≠ id := by
 unfold inF at hi;have hi := of_decide_eq_false hi;rcases pos_cases l id with ⟨_, h⟩ | ⟨i, p, h1, h2, h3⟩
 ·exact h
 ·omega
def knownH (l : List Pt) (h : Held) : Bool := inF l h.cert.low && inF l h.cert.high
theorem c259 {c : Certs} {l : List Pt} (hl : l.length ≤ 1000) (hc : c.list.length ≤ 1000) : Ans D 259 [CS c, F l] [.bool (c.list.all (knownH l))] := by
 refine ans_of k259_ok s259 rfl ⟨1001, ?_⟩;unfold k259;simp only [den_lt, shCS, shapeF, EV];refine (run_list (l := c.list) (p := knownH l) (st := fun i => [.i64 (i : Int)]) (r := some [.bool false]) (fin := some [.bool true]) (fun i h self hh _ => ?_) (fun _ self => ?_) (by omega)).trans ?_
 ·unfold k259_2 knownH inF;simp only [den_lt, cCS1, tixM hh (lenH _), eltM hh, rowH1, rowH2, phi (c168 hl _), EV, List.length_map, decide_eq_true_eq, if_lt (get_lt hh), up1 (show i < 1000000000 by have := get_lt hh; omega), Bool.and_eq_true]
  by_cases h1 : pos l h.cert.low < 0
  ·rw [if_pos h1, if_neg (fun x => by omega)]
  ·rw [if_neg h1];by_cases h2 : pos l h.cert.high < 0
   ·rw [if_pos h2, if_neg (fun x => by omega)]
   ·rw [if_neg h2, if_pos ⟨by omega, by omega⟩]
 ·unfold k259_2;simp only [den_lt, cCS1, EV, List.length_map, decide_eq_true_eq, if_ge, k259_1]
 ·cases c.list.all (knownH l) <;> rfl
theorem elimB {o : Option Nat} : o.elim (some [PV.bool false]) (fun _ => some [.bool true]) = some [.bool o.isSome] := by cases o <;> rfl
theorem c263 {c : Certs} {x : Crt} (hc : c.list.length ≤ 1000) : Ans D 263 [CS c, CP x] [.bool (c.list.any fun h => decide (h.cert = x))] := by
 refine ans_of k263_ok s263 rfl ⟨1001, ?_⟩;unfold k263;simp only [den_lt, shCS, shCP, EV];refine (run_find (l := c.list) (p := fun h => decide (h.cert = x)) (st := fun i => [.i64 (i : Int)]) (ret := fun _ => some [.bool true]) (fin := some [.bool false]) (fun i h self hh => ?_) (fun self => ?_) (by omega)).trans (elimB.trans ?_)
 ·unfold k263_2;simp only [den_lt, cCS1, tixM hh (lenH _), eltM hh, rowHc, eqvC, EV, List.length_map, decide_eq_true_eq, if_lt (get_lt hh), up1 (show i < 1000000000 by have := get_lt hh; omega)]
 ·unfold k263_2;simp only [den_lt, cCS1, EV, List.length_map, decide_eq_true_eq, if_ge, k263_1]
 ·rw [List.findIdx?_isSome]
theorem c264 {x : Crt} {l : List Pt} {t : Rt} (h : okF l) (ht : In64 t) (h1 : inF l x.low = true) (h2 : inF l x.high = true) : Ans D 264 [CP x, F l, R t] [.bool (leads t (ptOf l x.high) (ptOf l x.low))] := by
 obtain ⟨i, p, a1, a2, a3, a4⟩ := inF_ok h h1;obtain ⟨j, q, b1, b2, b3, b4⟩ := inF_ok h h2;have q1 := phi (c168 (l := l) (by have := h.1; omega) x.low);have q2 := phi (c168 (l := l) (by have := h.1; omega) x.high);rw [a3] at q1;rw [b3] at q2;refine ans_of k264_ok s264 rfl ⟨1, ?_⟩;unfold k264;simp only [den_lt, shCP, shapeF, shapeR, cCP0, cCP1, cellF, q1, q2, tixM a1 (row_len _), eltM a1, tixM b1 (row_len _), eltM b1, rowP, EV, phi (c323 (okF_pt h b1) (okF_pt h a1) ht), a4, b4]
theorem c261 {x : Crt} {l : List Pt} {t : Rt} (h : okF l) (ht : In64 t) (h1 : inF l x.low = true) (h2 : inF l x.high = true) : Ans D 261 [F l, CP x, R t] [R (failT t (ptOf l x.high) (ptOf l x.low)).1, .bool (failT t (ptOf l x.high) (ptOf l x.low)).2] := by
 obtain ⟨i, p, a1, a2, a3, a4⟩ := inF_ok h h1;obtain ⟨j, q, b1, b2, b3, b4⟩ := inF_ok h h2;have q1 := phi (c168 (l := l) (by have := h.1; omega) x.low);have q2 := phi (c168 (l := l) (by have := h.1; omega) x.high);rw [a3] at q1;rw [b3] at q2;refine ans_of k261_ok s261 rfl ⟨1, ?_⟩;unfold k261;simp only [den_lt, shCP, shapeF, shapeR, cCP0, cCP1, cellF, q1, q2, tixM a1 (row_len _), eltM a1, tixM b1 (row_len _), eltM b1, rowP, flatRt, partR, EV, phi (c348 (okF_pt h b1) (okF_pt h a1) ht), a4, b4]
theorem c246 {x : Crt} {l : List Pt} {t : Rt} (h : okF l) (ht : In64 t) : Ans D 246 [F l, CP x, R t] (if twoE (ptOf l x.high) (ptOf l x.low) t = 0 then [R (failT t (ptOf l x.high) (ptOf l x.low)).1, .bool (failT t (ptOf l x.high) (ptOf l x.low)).2, .i64 0] else [R ⟨0, 0⟩, .bool false, .i64 (twoE (ptOf l x.high) (ptOf l x.low) t)]) := by
 refine ans_of k246_ok s246 rfl ⟨1, ?_⟩;unfold k246;by_cases hz : twoE (ptOf l x.high) (ptOf l x.low) t = 0
 ·have := phi (c327 (p := ptOf l x.high) (q := ptOf l x.low) ht);rw [if_pos hz] at this ⊢;simp only [den_lt, shCP, shapeF, shapeR, cCP0, cCP1, flatRt, partR, EV, phi (c315 h _), this]
 ·have := phi (c327 (p := ptOf l x.high) (q := ptOf l x.low) ht);rw [if_neg hz] at this ⊢;simp only [den_lt, shCP, shapeF, shapeR, cCP0, cCP1, flatRt, partR, EV, phi (c315 h _), this]
theorem agg5 : RF.ev .agg [.i64 0, .i64 0, .i64 0, .i64 0, .i64 0] = some (EP ⟨⟨0, 0⟩, 0, ⟨0, 0⟩⟩) := rfl
theorem flatE (e : Evt) : RF.ev .flat [EP e] = some (EP e) := rfl
theorem shE5 (e : Evt) : RF.ev (.shape 5) [EP e] = some (EP e) := rfl
theorem partE (e : Evt) : RF.ev (.part 0 5) [EP e] = some (EP e) := rfl
theorem live_evt {a : Agenda} (h : AgOk a) {x : Hnd} (hl : Live a.slots x) : ∃ (i : Nat) (w : Int) (n : Nat) (e : Evt), x.index = i ∧ a.wher[i]? = some w ∧ w = (n : Int) ∧ a.heap[n]? = some e ∧ e.hnd = x := by
 obtain ⟨l1, l2, l3⟩ := hl;obtain ⟨i, hi⟩ := natI l1;rw [hi, Int.toNat_natCast] at l2 l3;obtain ⟨w, hw⟩ : ∃ w, a.wher[i]? = some w := ⟨a.wher[i]'(by have := get_lt l3; have := h.2.1.1; omega), List.getElem?_eq_getElem _⟩;have := h.2.1.2.2 i true w x.use l2 hw l3;rw [if_pos rfl] at this;obtain ⟨w0, e, he, hx⟩ := this;obtain ⟨n, hn⟩ := natI w0;rw [hn, Int.toNat_natCast] at he;exact ⟨i, w, n, e, hi, hw, hn, he, by rw [hx, ← hi]⟩
open Classical in
theorem c262 {a : Agenda} (h : AgOk a) (hl : a.heap.length ≤ 1000) (hf : a.slots.free.length ≤ 1000) (h64 : ∀ e ∈ a.heap, In64 e.time) (x : Hnd) : (¬ Live a.slots x → Ans D 262 [AG a, HD x] [EP ⟨⟨0, 0⟩, 0, ⟨0, 0⟩⟩, .i64 6]) ∧ ∀ (i n : Nat) (e : Evt), x.index = i → a.wher[i]? = some (n : Int) → a.heap[n]? = some e → Live a.slots x → Ans D 262 [AG a, HD x] [EP e, .i64 0] := by
 have hc := phi (c260 hl hf h64);rw [decide_eq_true h] at hc;have e0 : okE true = 0 := rfl;rw [e0] at hc;constructor
 ·intro hn;refine ans_of k262_ok s262 rfl ⟨1, ?_⟩;unfold k262;simp only [den_lt, shAG, shHD, pAG, agg5, flatE, partE, shE5, EV, hc, decide_true, Bool.not_true, Bool.false_eq_true, if_false, phi (c349 h.1.2.2.1 x), decide_eq_false hn, Bool.not_false, if_true]
 ·intro i n e hi hw he hl;refine ans_of k262_ok s262 rfl ⟨1, ?_⟩;unfold k262;simp only [den_lt, shAG, shHD, pAG, agg5, flatE, partE, shE5, EV, hc, decide_true, Bool.not_true, Bool.false_eq_true, if_false, phi (c349 h.1.2.2.1 x), decide_eq_true hl, cAG3, cAG4, cHD0, hi, tixM hw (lenI _), eltM hw, rowI, tixM he (lenE _), eltM he, rowE]
def DueAt (a : Agenda) (d : Due) (number : Int) (t : Rt) : Prop := d.number = number ∧ Live a.slots d.hnd ∧ ∀ (i n : Nat) (e : Evt), d.hnd.index = i → a.wher[i]? = some (n : Int) → a.heap[n]? = some e → e.number = number ∧ e.time = t
open Classical in
def dueStep (c : Clock) (left : List Due) (h : Held) : Option (List Due) :=
 if knownH c.pts h = true then
  (if (failT c.now (ptOf c.pts h.cert.high) (ptOf c.pts h.cert.low)).2 = true then
   (match left with
    | [] => none
    | d :: rest => if DueAt c.agenda d h.number (failT c.now (ptOf c.pts h.cert.high) (ptOf c.pts h.cert.low)).1 then some rest else none)
  else some left)
 else none
def ClkOk (c : Clock) : Prop := rok c.now = true ∧ okF c.pts ∧ CertsOk c.certs ∧ AgOk c.agenda ∧ c.agenda.wher.length = 200 ∧ c.agenda.heap.length = c.due.length ∧ foldO (dueStep c) c.due c.certs.list = some []
def Cl64 (c : Clock) : Prop := In64 c.now ∧ ∀ e ∈ c.agenda.heap, In64 e.time
theorem fold_known {c : Clock} : ∀ {l : List Held} {left out : List Due}, foldO (dueStep c) left l = some out → l.all (knownH c.pts) = true
 | [], _, _, _ => rfl
 | h :: l, left, out, hh => by
  unfold foldO dueStep at hh;rw [List.all_cons];by_cases hk : knownH c.pts h = true
  ·rw [hk, Bool.true_and];split at hh
   ·exact fold_known hh
   ·cases hh
  ·rw [if_neg hk] at hh; cases hh
theorem due_tail {α : Type} {l rest : List α} {k : Nat} {d : α} (h : l.drop k = d :: rest) : l.drop (k + 1) = rest := (dropC h).2
theorem cHP1 (h : Held) : RF.ev (.cell 1) [HP h] = some (.i64 h.cert.low) := rfl
theorem cHP2 (h : Held) : RF.ev (.cell 2) [HP h] = some (.i64 h.cert.high) := rfl
theorem rowD0 (d : Due) : rowPart 0 0 (drow d) = some (.i64 d.number) := rfl
theorem rowDh (d : Due) : rowPart 1 2 (drow d) = some (HD d.hnd) := rfl
open Classical in
theorem c167 {c : Clock} (h64 : Cl64 c) (hg : gCl c = false) : Ans D 167 [CL c] [.i64 (okE (decide (ClkOk c)))] := by
 unfold gCl gAg gSl at hg;simp only [Bool.or_eq_false_iff, decide_eq_false_iff_not] at hg;have no : ∀ h : ¬ ClkOk c, (some [PV.v (.int .i64 8)] : Option (List PV)) = some [.i64 (okE (decide (ClkOk c)))] := fun h => by rw [decide_eq_false h]; rfl
 refine ans_of k167_ok s167 rfl ⟨1001, ?_⟩;unfold k167;simp only [den_lt, shCL, pCL0, pCL2, pCL3, pCL5, cCL8, cCL9, cCL10, EV, List.length_map, phi (c128 h64.1), phi (c143 _), phi (c258 _), phi (c260 (a := c.agenda) (by omega) (by omega) h64.2), okE_not, Bool.not_eq_true', decide_eq_false_iff_not, decide_eq_true_eq];by_cases h1 : rok c.now = true
 ·rw [if_pos h1];by_cases h2 : fieldE c.pts = 0
  ·have h2' := fieldE_ok.1 h2;rw [if_neg (by simp [h2])];by_cases h3 : CertsOk c.certs
   ·rw [if_pos h3];simp only [den_lt, pCL5, cCL8, cCL9, cCL10, EV, List.length_map, phi (c259 (c := c.certs) (l := c.pts) (by have := h2'.1; omega) (by omega)), phi (c260 (a := c.agenda) (by omega) (by omega) h64.2), okE_not, Bool.not_eq_true', decide_eq_false_iff_not, decide_eq_true_eq];by_cases h4 : c.certs.list.all (knownH c.pts) = true
    ·rw [if_neg (by simp [h4])];by_cases h5 : AgOk c.agenda
     ·rw [if_pos h5];by_cases h6 : c.agenda.wher.length = 200
      ·rw [if_neg (by omega)];by_cases h7 : c.agenda.heap.length = c.due.length
       ·rw [if_neg (by omega)];have e0 : ([PV.v (.int .i64 0), .v (.int .i64 0)] : List PV) = [.i64 ((c.due.length - c.due.length : Nat) : Int), .i64 ((0 : Nat) : Int)] := by rw [Nat.sub_self]; rfl
        rw [e0];refine (run_step (m := 1001) (l := c.certs.list) (b := k167_3) (g := dueStep c) (I := fun left => left = c.due.drop (c.due.length - left.length) ∧ left.length ≤ c.due.length) (S := fun left i => [.i64 ((c.due.length - left.length : Nat) : Int), .i64 (i : Int)]) (r := some [.i64 8]) (fin := fun left => some [.i64 (if left = [] then 0 else 8)]) (x := c.due) (by simp) (fun h left out hI hg => ?_) (fun i h left self hh hI => ?_) (fun left self hI hm => ?_) (by omega)).trans ?_
        ·unfold dueStep at hg;split at hg
         ·split at hg
          ·cases left with
           | nil => cases hg
           | cons d rest =>
            simp only at hg;split at hg
            ·cases hg;obtain ⟨e1, e2⟩ := hI;simp only [List.length_cons] at e1 e2;refine ⟨?_, by omega⟩;rw [show c.due.length - out.length = c.due.length - (out.length + 1) + 1 by omega]
             exact (due_tail e1.symm).symm
            ·cases hg
          ·cases hg; exact hI
         ·cases hg
        ·obtain ⟨hI1, hI2⟩ := hI;have hk : knownH c.pts h = true := List.all_eq_true.1 h4 h (List.mem_of_getElem? hh);have hk' := hk;unfold knownH at hk';simp only [Bool.and_eq_true] at hk';unfold k167_3 dueStep;rw [if_pos hk];generalize hF : failT c.now (ptOf c.pts h.cert.high) (ptOf c.pts h.cert.low) = FT;have hw := phi (c261 (x := h.cert) (t := c.now) h2' h64.1 hk'.1 hk'.2);rw [hF] at hw;simp only [den_lt, cCL4, cCL10, pCL0, pCL2, pCL5, tixM hh (lenH _), eltM hh, rowH, pHP, cHP0, shapeR, hw, EV, List.length_map, decide_eq_true_eq, if_lt (get_lt hh), ge_iff_le, Bool.not_eq_true'];cases hF2 : FT.2 with
         | false =>
          simp only [eq_self, if_true, Bool.false_eq_true, if_false];simp only [den_lt, cHP0, cHP1, cHP2, cellR0, cellR1, EV, k167_2, up1 (show i < 1000000000 by have := get_lt hh; omega)]
         | true =>
          simp only [Bool.true_eq_false, if_false, if_true];cases left with
          | nil => rw [if_pos (by simp)]
          | cons d rest =>
           simp only [List.length_cons] at hI1 hI2 ⊢;have hd : c.due[c.due.length - (rest.length + 1)]? = some d := by
            have := congrArg (fun l => l[0]?) hI1;simp only [List.getElem?_cons_zero, List.getElem?_drop, Nat.add_zero] at this;exact this.symm
           rw [if_neg (by omega)];simp only [den_lt, cCL10, pCL5, tixM hd (lenD _), eltM hd, rowD0, rowDh, cHP0, EV, Bool.not_eq_true', decide_eq_false_iff_not];by_cases n1 : d.number = h.number
           ·rw [if_neg (by simp [n1])];obtain ⟨q1, q2⟩ := c262 h5 (by omega) (by omega) h64.2 d.hnd;by_cases n2 : Live c.agenda.slots d.hnd
            ·obtain ⟨ix, w, n, e, x1, x2, x3, x4, x5⟩ := live_evt h5 n2;subst x3;have hD : DueAt c.agenda d h.number FT.1 ↔ (e.number = h.number ∧ e.time = FT.1) :=
              ⟨fun y => y.2.2 ix n e x1 x2 x4, fun y => ⟨n1, n2, fun i' n' e' y1 y2 y3 => by
               rw [x1] at y1;have : ix = i' := by omega
               subst this;rw [x2] at y2;have : n = n' := by
                have : (n : Int) = n' := by simpa using y2
                omega
               subst this;rw [x4] at y3; cases y3; exact y⟩⟩
             simp only [den_lt, shEP, cEP2, pEP, cHP0, cHP1, cHP2, cellR0, cellR1, eqvR, phi (q2 ix n e x1 x2 x4 n2), EV, decide_true, Bool.not_true, Bool.false_eq_true, if_false, Bool.not_eq_true', decide_eq_false_iff_not];by_cases n3 : e.number = h.number
             ·rw [if_neg (by simp [n3])];by_cases n4 : e.time = FT.1
              ·rw [if_neg (by simp [n4]), if_pos (hD.2 ⟨n3, n4⟩)];simp only [k167_2, EV, up1 (show i < 1000000000 by have := get_lt hh; omega), up1 (show c.due.length - (rest.length + 1) < 1000000000 by omega)]
               rw [show c.due.length - (rest.length + 1) + 1 = c.due.length - rest.length by omega]
              ·rw [if_pos n4, if_neg (fun y => n4 (hD.1 y).2)]
             ·rw [if_pos n3, if_neg (fun y => n3 (hD.1 y).1)]
            ·simp only [den_lt, shEP, phi (q1 n2), EV, Int.reduceEq, not_false_eq_true, if_true, decide_false, Bool.not_false];rw [if_neg (fun y => n2 y.2.1)]
           ·rw [if_pos n1, if_neg (fun y => n1 y.1)]
        ·unfold k167_3;simp only [den_lt, cCL4, cCL10, EV, List.length_map, decide_eq_true_eq, if_ge, k167_1, Bool.not_eq_true', decide_eq_false_iff_not];cases left with
         | nil => rw [if_neg (by simp), if_pos rfl]
         | cons d rest =>
          rw [if_pos (by have := hI.2; simp only [List.length_cons] at this ⊢; omega), if_neg (by simp)]
        ·cases hm : foldO (dueStep c) c.due c.certs.list with
         | none => exact no (fun h => by rw [h.2.2.2.2.2.2] at hm; cases hm)
         | some left =>
          cases left with
          | nil => rw [decide_eq_true (show ClkOk c from ⟨h1, h2', h3, h5, h6, h7, hm⟩)]; rfl
          | cons d rest => exact no (fun h => by rw [h.2.2.2.2.2.2] at hm; cases hm)
       ·rw [if_pos (by omega)];exact no (fun h => h7 h.2.2.2.2.2.1)
      ·rw [if_pos (by omega)];exact no (fun h => h6 h.2.2.2.2.1)
     ·rw [if_neg h5];exact no (fun h => h5 h.2.2.2.1)
    ·rw [if_pos (by simpa using h4)]
     exact no (fun h => h4 (fold_known h.2.2.2.2.2.2))
   ·rw [if_neg h3];exact no (fun h => h3 h.2.2.1)
  ·rw [if_pos h2];exact no (fun h => h2 (fieldE_ok.2 h.2.1))
 ·rw [if_neg h1];exact no (fun h => h1 h.1)
end Go.Proofs.YtfghdmmapmdcgaaGreat
