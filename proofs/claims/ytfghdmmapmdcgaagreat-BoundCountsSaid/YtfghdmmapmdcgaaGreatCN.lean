import Derived.Test.YtfghdmmapmdcgaaGreatCL
set_option linter.unusedVariables false
set_option linter.unusedSimpArgs false
set_option linter.defProp false
noncomputable section
namespace Go.Proofs.YtfghdmmapmdcgaaGreat
open Go.Sym Bnd
set_option maxRecDepth 100000
def evLess (x y : Evt) : Bool := decide (sgn (crs x.time y.time) < 0) || (decide (sgn (crs x.time y.time) = 0) && decide (x.number < y.number))
theorem shEP (e : Evt) : RF.ev (.shape 5) [EP e] = some (EP e) := rfl
theorem pEP (e : Evt) : RF.ev (.part 0 2) [EP e] = some (R e.time) := rfl
theorem cEP2 (e : Evt) : RF.ev (.cell 2) [EP e] = some (.i64 e.number) := rfl
theorem c347 {x y : Evt} (hx : In64 x.time) (hy : In64 y.time) : Ans D 347 [EP x, EP y] [.bool (evLess x y)] := by
 refine ans_of k347_ok s347 rfl ⟨1, ?_⟩;unfold k347 evLess;simp only [den_lt, shEP, pEP, cEP2, EV, phi (c224 hx hy), k347_1, decide_eq_true_eq];by_cases h1 : sgn (crs x.time y.time) < 0
 ·simp [h1]
 ·rw [if_neg h1, decide_eq_false h1, Bool.false_or];by_cases h2 : sgn (crs x.time y.time) = 0
  ·rw [if_pos h2, decide_eq_true h2, Bool.true_and]
  ·rw [if_neg h2, decide_eq_false h2, Bool.false_and]
def HD (h : Hnd) : PV := .agg [.i64 h.index, .i64 h.use]
theorem shHD (h : Hnd) : RF.ev (.shape 2) [HD h] = some (HD h) := rfl
theorem cHD0 (h : Hnd) : RF.ev (.cell 0) [HD h] = some (.i64 h.index) := rfl
theorem cHD1 (h : Hnd) : RF.ev (.cell 1) [HD h] = some (.i64 h.use) := rfl
theorem rowEh (e : Evt) : rowPart 3 2 (erow e) = some (HD e.hnd) := rfl
theorem rowE3 (e : Evt) : rowPart 3 0 (erow e) = some (.i64 e.hnd.index) := rfl
theorem rowE2 (e : Evt) : rowPart 2 0 (erow e) = some (.i64 e.number) := rfl
def Live (s : Slots) (h : Hnd) : Prop := 0 ≤ h.index ∧ s.used[h.index.toNat]? = some true ∧ s.uses[h.index.toNat]? = some h.use
open Classical in
theorem c349 {s : Slots} (hs : s.used.length = s.uses.length) (h : Hnd) : Ans D 349 [SL s, HD h] [.bool (decide (Live s h))] := by
 refine ans_of k349_ok s349 rfl ⟨1, ?_⟩;unfold k349;simp only [den_lt, shSL, shHD, cHD0, cHD1, cSL0, cSL1, EV, List.length_map, decide_eq_true_eq, k349_1, ge_iff_le];by_cases h1 : 0 ≤ h.index
 ·rw [if_pos h1];obtain ⟨n, hn⟩ := natI h1;obtain ⟨ix, us⟩ := h;simp only at hn;subst hn;by_cases h2 : n < s.uses.length
  ·obtain ⟨u, hu⟩ : ∃ u, s.uses[n]? = some u := ⟨s.uses[n], List.getElem?_eq_getElem _⟩;obtain ⟨b, hb⟩ : ∃ b, s.used[n]? = some b := ⟨s.used[n]'(by omega), List.getElem?_eq_getElem _⟩;simp only [if_lt h2, den_lt, cHD0, cHD1, cSL0, cSL1, tixM hu (lenI _), eltM hu, rowI, tixM hb (lenB _), eltM hb, rowB, EV];have : decide (Live s ⟨(n : Int), us⟩) = (b && decide (u = us)) := by rw [Bool.eq_iff_iff]; simp [Live, hu, hb]
   rw [this];cases b <;> simp
  ·rw [if_neg (show ¬ ((n : Int) < (s.uses.length : Int)) by omega), decide_eq_false (fun hh => by
    have h3 := (List.getElem?_eq_some_iff.1 hh.2.2).1;exact h2 h3)]
 ·rw [if_neg h1, decide_eq_false (fun hh => h1 hh.1)]
def Placed (a : Agenda) : Prop := a.wher.length = a.slots.uses.length ∧ a.heap.length + a.slots.free.length = a.slots.uses.length ∧
 ∀ (i : Nat) (b : Bool) (w u : Int), a.slots.used[i]? = some b → a.wher[i]? = some w → a.slots.uses[i]? = some u → if b = true then 0 ≤ w ∧ ∃ e, a.heap[w.toNat]? = some e ∧ e.hnd = ⟨i, u⟩ else w = -1
open Classical in
theorem c346 {a : Agenda} (hs : a.slots.used.length = a.slots.uses.length) (hl : a.slots.uses.length ≤ 1000) (hf : a.slots.free.length ≤ 1000) : Ans D 346 [AG a] [.bool (decide (Placed a))] := by
 have cAG0 : RF.ev (.cell 0) [AG a] = some (sl I1 a.slots.uses) := rfl;have cAG1 : RF.ev (.cell 1) [AG a] = some (sl B1 a.slots.used) := rfl;have cAG2 : RF.ev (.cell 2) [AG a] = some (sl I1 a.slots.free) := rfl;refine ans_of k346_ok s346 rfl ⟨1001, ?_⟩;unfold k346;simp only [den_lt, shAG, cAG0, cAG2, cAG3, cAG4, EV, List.length_map, decide_eq_true_eq, Bool.not_eq_true', decide_eq_false_iff_not, w_i64 (show -9223372036854775808 ≤ (a.slots.uses.length : Int) - (a.slots.free.length : Int) by omega) (by omega)]
 by_cases h1 : a.wher.length = a.slots.uses.length
 ·rw [if_neg (by omega)];by_cases h2 : a.heap.length + a.slots.free.length = a.slots.uses.length
  ·rw [if_neg (by omega)];refine (run_if (n := a.slots.uses.length) (P := fun i => ∀ (b : Bool) (w u : Int), a.slots.used[i]? = some b → a.wher[i]? = some w → a.slots.uses[i]? = some u → if b = true then 0 ≤ w ∧ ∃ e, a.heap[w.toNat]? = some e ∧ e.hnd = ⟨i, u⟩ else w = -1) (st := fun i => [.i64 (i : Int)]) (r := some [.bool false]) (fin := some [.bool true]) (fun i self hi _ => ?_) (fun _ self => ?_) (by omega)).trans ?_
   ·obtain ⟨u, hu⟩ : ∃ u, a.slots.uses[i]? = some u := ⟨a.slots.uses[i], List.getElem?_eq_getElem _⟩;obtain ⟨b, hb⟩ : ∃ b, a.slots.used[i]? = some b := ⟨a.slots.used[i]'(by omega), List.getElem?_eq_getElem _⟩;obtain ⟨w, hw⟩ : ∃ w, a.wher[i]? = some w := ⟨a.wher[i]'(by omega), List.getElem?_eq_getElem _⟩;have hP : (∀ (b' : Bool) (w' u' : Int), a.slots.used[i]? = some b' → a.wher[i]? = some w' → a.slots.uses[i]? = some u' → if b' = true then 0 ≤ w' ∧ ∃ e, a.heap[w'.toNat]? = some e ∧ e.hnd = ⟨i, u'⟩ else w' = -1) ↔ (if b = true then 0 ≤ w ∧ ∃ e, a.heap[w.toNat]? = some e ∧ e.hnd = ⟨i, u⟩ else w = -1) :=
     ⟨fun h => h b w u hb hw hu, fun h b' w' u' h1 h2 h3 => by rw [hu] at h3; rw [hb] at h1; rw [hw] at h2; cases h1; cases h2; cases h3; exact h⟩
    unfold k346_3;simp only [hP, den_lt, cAG1, cAG3, cAG4, pAG, tixM hb (lenB _), eltM hb, rowB, tixM hw (lenI _), eltM hw, rowI, EV, List.length_map, decide_eq_true_eq, if_lt hi, k346_2, up1 (show i < 1000000000 by omega), Bool.not_eq_true', decide_eq_false_iff_not]
    cases b with
    | false =>
     simp only [Bool.false_eq_true, if_false, eq_self, if_true];by_cases c1 : w = -1
     ·rw [if_neg (by simp [c1]), if_pos c1]
     ·rw [if_pos c1, if_neg c1]
    | true =>
     simp only [Bool.true_eq_false, if_false, eq_self, if_true];by_cases c1 : w < 0
     ·rw [if_pos c1, if_neg (fun h => by omega)]
     ·rw [if_neg c1];obtain ⟨n, rfl⟩ := natI (show 0 ≤ w by omega)
      by_cases c2 : n < a.heap.length
      ·obtain ⟨e, he⟩ : ∃ e, a.heap[n]? = some e := ⟨a.heap[n], List.getElem?_eq_getElem _⟩;rw [if_neg (by omega)];simp only [den_lt, cAG3, pAG, tixM he (lenE _), eltM he, rowE3, rowEh, phi (c349 hs _), EV, Bool.not_eq_true', decide_eq_false_iff_not, Int.toNat_natCast, he, Option.some.injEq, exists_eq_left', k346_2, up1 (show i < 1000000000 by omega)]
       by_cases c3 : e.hnd.index = (i : Int)
       ·rw [if_neg (by simp [c3])];have hlive : Live a.slots e.hnd ↔ e.hnd = ⟨i, u⟩ := by
         unfold Live;rw [c3, Int.toNat_natCast, hb, hu];generalize e.hnd = q at c3 ⊢;obtain ⟨x, y⟩ := q;simp only at c3;subst c3;simp only [Option.some.injEq, Hnd.mk.injEq, true_and];exact ⟨fun h => h.2.symm, fun h => ⟨by omega, h.symm⟩⟩
        by_cases c4 : e.hnd = ⟨i, u⟩
        ·rw [if_neg (by simp [hlive.2 c4]), if_pos ⟨by omega, c4⟩]
        ·rw [if_pos (fun h => c4 (hlive.1 h)), if_neg (fun h => c4 h.2)]
       ·rw [if_pos c3, if_neg (fun h => c3 (by rw [h.2]))]
      ·rw [if_pos (by omega), if_neg (fun h => by
        obtain ⟨_, e, he, _⟩ := h;rw [Int.toNat_natCast] at he;exact c2 (get_lt he))]
   ·unfold k346_3;simp only [EV, decide_eq_true_eq, if_ge, k346_1]
   ·have : (∀ i, i < a.slots.uses.length → ∀ (b : Bool) (w u : Int), a.slots.used[i]? = some b → a.wher[i]? = some w → a.slots.uses[i]? = some u → if b = true then 0 ≤ w ∧ ∃ e, a.heap[w.toNat]? = some e ∧ e.hnd = ⟨i, u⟩ else w = -1) ↔ Placed a :=
     ⟨fun h => ⟨h1, h2, fun i b w u hb hw hu => h i (get_lt hu) b w u hb hw hu⟩, fun h i _ => h.2.2 i⟩
    by_cases hr : Placed a
    ·rw [if_pos (this.2 hr), decide_eq_true hr]
    ·rw [if_neg (fun h => hr (this.1 h)), decide_eq_false hr]
  ·rw [if_pos (by omega), decide_eq_false (fun h => h2 h.2.1)]
 ·rw [if_pos (by omega), decide_eq_false (fun h => h1 h.1)]
def EvOk (e : Evt) : Prop := rok e.time = true ∧ 0 ≤ e.number ∧ e.number ≤ 1000000
def AgOk (a : Agenda) : Prop := a.slots.okR ∧ Placed a ∧ (∀ e ∈ a.heap, EvOk e) ∧ (a.heap.map (·.number)).Nodup ∧ ∀ (i : Nat) (e p : Evt), a.heap[i + 1]? = some e → a.heap[i / 2]? = some p → evLess e p = false
theorem half {i : Nat} (h : i < 1000000) : intB .quo .i64 (IntKind.i64.wrap (((i + 1 : Nat) : Int) - 1)) .i64 2 = some (.v (.int .i64 ((i / 2 : Nat) : Int))) := by
 rw [down1 (by omega), i_quo, if_neg (by decide), Int.tdiv_eq_ediv_of_nonneg (by omega), w_i64 (by omega) (by omega)];rfl
open Classical in
theorem c260 {a : Agenda} (hl : a.heap.length ≤ 1000) (hf : a.slots.free.length ≤ 1000) (h64 : ∀ e ∈ a.heap, In64 e.time) : Ans D 260 [AG a] [.i64 (okE (decide (AgOk a)))] := by
 refine ans_of k260_ok s260 rfl ⟨1001, ?_⟩;unfold k260;have no : ∀ h : ¬ AgOk a, (some [PV.v (.int .i64 8)] : Option (List PV)) = some [.i64 (okE (decide (AgOk a)))] := fun h => by rw [decide_eq_false h]; rfl
 simp only [den_lt, shAG, pAG, EV, phi (c345 a.slots hf), okE_ne, decide_eq_true_eq];by_cases h1 : a.slots.okR
 ·have h1' := h1;obtain ⟨g1, g2, g3, g4, _⟩ := h1';rw [if_pos h1];simp only [EV, phi (c346 g3 (by omega) hf), Bool.not_eq_true', decide_eq_false_iff_not];by_cases h2 : Placed a
  ·rw [if_neg (by simp [h2])];refine (run_if (n := a.heap.length) (P := fun i => ∀ e, a.heap[i]? = some e → EvOk e ∧ ∀ k, k < i → ∀ e', a.heap[k]? = some e' → e'.number ≠ e.number) (st := fun i => [.i64 (i : Int)]) (r := some [.i64 8]) (fin := some [.i64 (okE (decide (∀ (i : Nat) (e p : Evt), a.heap[i + 1]? = some e → a.heap[i / 2]? = some p → evLess e p = false)))]) (fun i self hi _ => ?_) (fun _ self => ?_) (by omega)).trans ?_
   ·obtain ⟨e, he⟩ : ∃ e, a.heap[i]? = some e := ⟨a.heap[i], List.getElem?_eq_getElem _⟩;have hP : (∀ e', a.heap[i]? = some e' → EvOk e' ∧ ∀ k, k < i → ∀ x, a.heap[k]? = some x → x.number ≠ e'.number) ↔ (EvOk e ∧ ∀ k, k < i → ∀ x, a.heap[k]? = some x → x.number ≠ e.number) :=
     ⟨fun h => h e he, fun h e' h1 => by rw [he] at h1; cases h1; exact h⟩
    unfold k260_6;simp only [hP, den_lt, cAG3, tixM he (lenE _), eltM he, rowE, pEP, cEP2, phi (c128 (h64 e (List.mem_of_getElem? he))), okE_ne, EV, List.length_map, decide_eq_true_eq, if_lt hi];cases c1 : rok e.time with
    | false =>
     simp only [Bool.false_eq_true, if_false];rw [if_neg (fun h => by rw [h.1.1] at c1; cases c1)]
    | true =>
     simp only [if_true];by_cases c2 : e.number < 0
     ·rw [if_pos c2, if_neg (fun h => by have := h.1.2; omega)]
     ·rw [if_neg c2];by_cases c3 : 1000000 < e.number
      ·rw [if_pos c3, if_neg (fun h => by have := h.1.2; omega)]
      ·rw [if_neg c3];refine (run_if (n := i) (P := fun k => ∀ x, a.heap[k]? = some x → x.number ≠ e.number) (st := fun i => [.i64 (i : Int)]) (r := some [.i64 8]) (fin := self [.i64 ((i + 1 : Nat) : Int)]) (fun k self' hk _ => ?_) (fun _ self' => ?_) (by omega)).trans ?_
       ·obtain ⟨x, hx⟩ : ∃ x, a.heap[k]? = some x := ⟨a.heap[k]'(by omega), List.getElem?_eq_getElem _⟩;have hQ : (∀ y, a.heap[k]? = some y → y.number ≠ e.number) ↔ x.number ≠ e.number := ⟨fun h => h x hx, fun h y hy => by rw [hx] at hy; cases hy; exact h⟩;unfold k260_5;simp only [hQ, den_lt, cAG3, tixM hx (lenE _), eltM hx, rowE2, cEP2, EV, decide_eq_true_eq, if_lt hk, up1 (show k < 1000000000 by omega)]
        by_cases c4 : x.number = e.number
        ·rw [if_pos c4, if_neg (by simp [c4])]
        ·rw [if_neg c4, if_pos c4]
       ·unfold k260_5;simp only [EV, decide_eq_true_eq, if_ge, k260_4, up1 (show i < 1000000000 by omega)]
       ·by_cases c5 : ∀ k, k < i → ∀ x, a.heap[k]? = some x → x.number ≠ e.number
        ·rw [if_pos c5, if_pos ⟨⟨c1, by omega, by omega⟩, c5⟩]
        ·rw [if_neg c5, if_neg (fun h => c5 h.2)]
   ·unfold k260_6;simp only [den_lt, cAG3, EV, List.length_map, decide_eq_true_eq, if_ge, k260_3];refine (run_if (n := a.heap.length - 1) (P := fun i => ∀ e p, a.heap[i + 1]? = some e → a.heap[i / 2]? = some p → evLess e p = false) (st := fun i => [.i64 ((i + 1 : Nat) : Int)]) (r := some [.i64 8]) (fin := some [.i64 0]) (fun i self hi _ => ?_) (fun _ self => ?_) (by omega)).trans ?_
    ·obtain ⟨e, he⟩ : ∃ e, a.heap[i + 1]? = some e := ⟨a.heap[i + 1], List.getElem?_eq_getElem _⟩;obtain ⟨p, hp⟩ : ∃ p, a.heap[i / 2]? = some p := ⟨a.heap[i / 2]'(by omega), List.getElem?_eq_getElem _⟩;have hQ : (∀ e' p', a.heap[i + 1]? = some e' → a.heap[i / 2]? = some p' → evLess e' p' = false) ↔ evLess e p = false := ⟨fun h => h e p he hp, fun h e' p' h1 h2 => by rw [he] at h1; rw [hp] at h2; cases h1; cases h2; exact h⟩;unfold k260_2;simp only [hQ, den_lt, cAG3, tixM he (lenE _), eltM he, rowE, tixM hp (lenE _), eltM hp, half (show i < 1000000 by omega), phi (c347 (h64 e (List.mem_of_getElem? he)) (h64 p (List.mem_of_getElem? hp))), f_bin, EV, List.length_map, decide_eq_true_eq, if_lt (get_lt he), up1 (show i + 1 < 1000000000 by omega)]
     cases evLess e p <;> simp
    ·unfold k260_2;simp only [den_lt, cAG3, EV, List.length_map, decide_eq_true_eq, k260_1];rw [if_neg (by omega)]
    ·have : (∀ i, i < a.heap.length - 1 → ∀ e p, a.heap[i + 1]? = some e → a.heap[i / 2]? = some p → evLess e p = false) ↔ ∀ (i : Nat) (e p : Evt), a.heap[i + 1]? = some e → a.heap[i / 2]? = some p → evLess e p = false :=
      ⟨fun h i e p he hp => h i (by have := get_lt he; omega) e p he hp, fun h i _ => h i⟩
     by_cases hr : ∀ (i : Nat) (e p : Evt), a.heap[i + 1]? = some e → a.heap[i / 2]? = some p → evLess e p = false
     ·rw [if_pos (this.2 hr), decide_eq_true hr]; rfl
     ·rw [if_neg (fun h => hr (this.1 h)), decide_eq_false hr]; rfl
   ·have : (∀ i, i < a.heap.length → ∀ e, a.heap[i]? = some e → EvOk e ∧ ∀ k, k < i → ∀ e', a.heap[k]? = some e' → e'.number ≠ e.number) ↔ ((∀ e ∈ a.heap, EvOk e) ∧ (a.heap.map (·.number)).Nodup) := by
     rw [nodup_lt];constructor
     ·intro h;refine ⟨fun e he => ?_, fun i j x hj hi hjx => ?_⟩
      ·obtain ⟨i, hi⟩ := List.mem_iff_getElem?.1 he;exact (h i (get_lt hi) e hi).1
      ·rw [List.getElem?_map, Option.map_eq_some_iff] at hi hjx;obtain ⟨e, he, rfl⟩ := hi;obtain ⟨e', he', h'⟩ := hjx;exact (h i (get_lt he) e he).2 j hj e' he' h'
     ·rintro ⟨h3, h4⟩ i hi e he;refine ⟨h3 e (List.mem_of_getElem? he), fun k hk e' he' hn => ?_⟩;exact h4 i k e.number hk (by rw [List.getElem?_map, he]; rfl) (by rw [List.getElem?_map, he', Option.map_some, hn])
    by_cases hr : (∀ e ∈ a.heap, EvOk e) ∧ (a.heap.map (·.number)).Nodup
    ·rw [if_pos (this.2 hr)]
     congr 4
     rw [decide_eq_decide];exact ⟨fun h => ⟨h1, h2, hr.1, hr.2, h⟩, fun h => h.2.2.2.2⟩
    ·rw [if_neg (fun h => hr (this.1 h))];exact no (fun h => hr ⟨h.2.2.1, h.2.2.2.1⟩)
  ·rw [if_pos h2];exact no (fun h => h2 h.2.1)
 ·rw [if_neg h1];exact no (fun h => h1 h.1)
end Go.Proofs.YtfghdmmapmdcgaaGreat
