import Derived.Test.YtfghdmmapmdcgaaGreatCH
set_option linter.unusedVariables false
set_option linter.unusedSimpArgs false
set_option linter.defProp false
noncomputable section
namespace Go.Proofs.YtfghdmmapmdcgaaGreat
open Go.Sym Bnd
set_option maxRecDepth 100000
theorem risen_lt {l : List Pt} (h : risen l) : ∀ (d i : Nat) (p q : Pt), l[i]? = some p → l[i + d + 1]? = some q → p.id < q.id
 | 0, i, p, q, hp, hq => h i p q hp hq
 | d + 1, i, p, q, hp, hq => by
  obtain ⟨m, hm⟩ : ∃ m, l[i + d + 1]? = some m := ⟨l[i + d + 1]'(by have := get_lt hq; omega), List.getElem?_eq_getElem _⟩;have h1 := risen_lt h d i p m hp hm;have h2 := h (i + d + 1) m q hm (by rw [← hq]; congr 1);omega
theorem risen_lt' {l : List Pt} (h : risen l) {i j : Nat} {p q : Pt} (hij : i < j) (hp : l[i]? = some p) (hq : l[j]? = some q) : p.id < q.id :=
 risen_lt h (j - i - 1) i p q hp (by rw [show i + (j - i - 1) + 1 = j by omega]; exact hq)
theorem risen_ids {l : List Pt} (h : risen l) : Ids l := by
 unfold Ids;rw [nodup_get];intro i j x hi hj;rw [List.getElem?_map, Option.map_eq_some_iff] at hi hj;obtain ⟨p, hp, rfl⟩ := hi;obtain ⟨q, hq, e⟩ := hj;rcases Nat.lt_trichotomy i j with g | g | g
 ·have := risen_lt' h g hp hq; omega
 ·exact g
 ·have := risen_lt' h g hq hp; omega
def LB (l : List Pt) (id : Int) (m : Nat) : Prop := m ≤ l.length ∧ ∀ (k : Nat) (p : Pt), l[k]? = some p → (k < m → p.id < id) ∧ (m ≤ k → id ≤ p.id)
theorem shr1 {a b : Nat} (h : a < 1000000) (k : b < 1000000) : intB .shr .u64 (IntKind.u64.wrap (IntKind.i64.wrap ((a : Int) + (b : Int)))) .u64 1 = some (.v (.int .u64 (((a + b) / 2 : Nat) : Int))) := by
 rw [i_shr, if_neg (by decide), w_i64 (by omega) (by omega), w_u64, show min (1 : Int).toNat IntKind.u64.bits = 1 from rfl, Int.fdiv_eq_ediv_of_nonneg _ (by decide)]
 congr 3
 omega
theorem bin_loop {N : Nat} {f : JT} {e0 e2 : PV} {l : List Pt} {id : Int} (hs : risen l) (hl : l.length ≤ 1000) : ∀ (m i j : Nat), j - i < m → i ≤ j → j ≤ l.length → (∀ (k : Nat) (p : Pt), l[k]? = some p → (k < i → p.id < id) ∧ (j ≤ k → id ≤ p.id)) →
  ∃ P, LB l id P ∧ denW (PhiS D) N k271_4 [f] [e0, .i64 id, F l, sl row l, e2] m [.i64 (i : Int), .i64 (j : Int)] = f [.i64 (P : Int)]
 | 0, i, j, h, _, _, _ => by omega
 | m + 1, i, j, h, hij, hj, hb => by
  rw [denW_succ];by_cases hlt : i < j
  ·obtain ⟨p, hp⟩ : ∃ p, l[(i + j) / 2]? = some p := ⟨l[(i + j) / 2]'(by omega), List.getElem?_eq_getElem _⟩;have key : ∀ self : JT, den (PhiS D) N k271_4 ([f] ++ [self]) ([e0, .i64 id, F l, sl row l, e2] ++ [.i64 (i : Int), .i64 (j : Int)]) = if p.id < id then self [.i64 (((i + j) / 2 + 1 : Nat) : Int), .i64 (j : Int)] else self [.i64 (i : Int), .i64 (((i + j) / 2 : Nat) : Int)] := fun self => by
    unfold k271_4;simp only [EV, decide_eq_true_eq, if_lt hlt, shr1 (show i < 1000000 by omega) (show j < 1000000 by omega), w_i64 (show -9223372036854775808 ≤ (((i + j) / 2 : Nat) : Int) by omega) (by omega), den_lt, cellF, tixM hp (row_len p), eltM hp, rowP, cellP0, phi (c354 _ _), k271_3, up1 (show (i + j) / 2 < 1000000000 by omega)]
    by_cases c : p.id < id
    ·rw [if_pos c, if_pos (show sgn (p.id - id) < 0 by unfold sgn; rw [if_pos (by omega)]; decide)]
    ·rw [if_neg c, if_neg (show ¬ sgn (p.id - id) < 0 by unfold sgn; rw [if_neg (by omega)]; split <;> decide)]
   rw [key];by_cases c : p.id < id
   ·rw [if_pos c];refine bin_loop hs hl m _ j (by omega) (by omega) hj fun k q hq => ⟨fun hk => ?_, (hb k q hq).2⟩;by_cases e : k = (i + j) / 2
    ·subst e; rw [hp] at hq; cases hq; exact c
    ·have := risen_lt' hs (show k < (i + j) / 2 by omega) hq hp; omega
   ·rw [if_neg c];refine bin_loop hs hl m i _ (by omega) (by omega) (by omega) fun k q hq => ⟨(hb k q hq).1, fun hk => ?_⟩;by_cases e : k = (i + j) / 2
    ·subst e; rw [hp] at hq; cases hq; omega
    ·have := risen_lt' hs (show (i + j) / 2 < k by omega) hp hq; omega
  ·refine ⟨i, ⟨by omega, fun k p hp => ⟨(hb k p hp).1, fun h => (hb k p hp).2 (by omega)⟩⟩, ?_⟩;unfold k271_4;simp only [EV, decide_eq_true_eq];rw [if_neg (by omega)]
theorem pos_none {l : List Pt} {id : Int} : (∀ p ∈ l, p.id ≠ id) → pos l id = -1 := fun h => by
 unfold pos ixOf;rw [List.findIdx?_eq_none_iff.2 (fun p hp => decide_eq_false (h p hp))];rfl
theorem pos_some {l : List Pt} (hs : risen l) {i : Nat} {p : Pt} (h : l[i]? = some p) : pos l p.id = i := by
 unfold pos ixOf;have : l.findIdx? (fun q => decide (q.id = p.id)) = some i := by
  rw [List.findIdx?_eq_some_iff_getElem];have hi := get_lt h;have e := (List.getElem?_eq_some_iff.1 h).2;refine ⟨hi, by rw [e]; simp, fun j hj => ?_⟩;have := risen_lt' hs hj (List.getElem?_eq_getElem (by omega)) h;simp; omega
 rw [this];rfl
theorem pos_cases (l : List Pt) (id : Int) : (pos l id = -1 ∧ ∀ p ∈ l, p.id ≠ id) ∨ ∃ (i : Nat) (p : Pt), l[i]? = some p ∧ p.id = id ∧ pos l id = (i : Nat) := by
 unfold pos ixOf;cases h : l.findIdx? (fun q => decide (q.id = id)) with
 | none =>
  rw [List.findIdx?_eq_none_iff] at h;exact .inl ⟨rfl, fun p hp => of_decide_eq_false (h p hp)⟩
 | some i =>
  obtain ⟨h1, h2, _⟩ := List.findIdx?_eq_some_iff_getElem.1 h;exact .inr ⟨i, l[i], List.getElem?_eq_getElem h1, of_decide_eq_true h2, rfl⟩
theorem bin_srch {e0 : PV} {l : List Pt} {id : Int} (hs : risen l) (hl : l.length ≤ 1000) : ∃ P : Nat, (0 ≤ pos l id → pos l id = P) ∧ ∀ (K2 K1 : K) (J : List JT), K2 = (.jp K1 (.lt (.bin .lss) [.x 5, .x 4] (.br (.x 6) (.lt (.cell 0) [.x 2] (.lt (.tix 3) [.x 7, .x 5] (.lt (.elt 0 3) [.x 7, .x 8] (.lt (.cell 0) [.x 9] (.call 354 [.x 10, .x 1] (.lt (.bin .eql) [.x 11, .c (.i64 0)] (.jmp 0 [.x 12]))))))) (.jmp 0 [.c (.bool false)])))) →
  denW (PhiS D) 1001 k271_4 [denJ (PhiS D) 1001 K2 [] [e0, .i64 id, F l, sl row l, .i64 (l.length : Int)]] [e0, .i64 id, F l, sl row l, .i64 (l.length : Int)] 1001 [.i64 0, .i64 (l.length : Int)] = den (PhiS D) 1001 K1 [] [e0, .i64 id, F l, sl row l, .i64 (l.length : Int), .i64 (P : Int), .bool (decide (0 ≤ pos l id))] := by
 have hbin := fun f : JT => bin_loop (N := 1001) (f := f) (e0 := e0) (e2 := .i64 (l.length : Int)) (id := id) hs hl 1001 0 l.length (by omega) (by omega) (by omega) fun k p hp => ⟨fun h => by omega, fun h => by have := get_lt hp; omega⟩;have uniq : ∀ P P', LB l id P → LB l id P' → P = P' := fun P P' h h' => by
  rcases Nat.lt_trichotomy P P' with g | g | g
  ·obtain ⟨p, hp⟩ : ∃ p, l[P]? = some p := ⟨l[P]'(by have := h'.1; omega), List.getElem?_eq_getElem _⟩;have h1 := (h.2 P p hp).2 (Nat.le_refl _);have h2 := (h'.2 P p hp).1 g;omega
  ·exact g
  ·obtain ⟨p, hp⟩ : ∃ p, l[P']? = some p := ⟨l[P']'(by have := h.1; omega), List.getElem?_eq_getElem _⟩;have h1 := (h'.2 P' p hp).2 (Nat.le_refl _);have h2 := (h.2 P' p hp).1 g;omega
 obtain ⟨P, hLB, _⟩ := hbin fun _ => none;obtain ⟨h1, h2⟩ := hLB;have hpos : (0 ≤ pos l id → pos l id = P) ∧ (0 ≤ pos l id ↔ ∃ p, l[P]? = some p ∧ p.id = id) := by
  rcases pos_cases l id with ⟨e, hn⟩ | ⟨i, p, hp, he, e⟩
  ·refine ⟨fun h => by omega, fun h => by omega, fun ⟨p, hp, he⟩ => absurd he (hn p (List.mem_of_getElem? hp))⟩
  ·have : i = P := by
    rcases Nat.lt_trichotomy i P with g | g | g
    ·have := (h2 i p hp).1 g; omega
    ·exact g
    ·obtain ⟨q, hq⟩ : ∃ q, l[P]? = some q := ⟨l[P]'(by have := get_lt hp; omega), List.getElem?_eq_getElem _⟩;have := (h2 P q hq).2 (by omega);have := risen_lt' hs g hq hp;omega
   subst this;exact ⟨fun _ => e, fun _ => ⟨p, hp, he⟩, fun _ => by omega⟩
 refine ⟨P, hpos.1, fun K2 K1 J hK => ?_⟩;obtain ⟨P', hLB', h3⟩ := hbin (denJ (PhiS D) 1001 K2 [] [e0, .i64 id, F l, sl row l, .i64 (l.length : Int)]);have := uniq P P' ⟨h1, h2⟩ hLB';subst this;refine h3.trans ?_;subst hK;simp only [EV, decide_eq_true_eq];by_cases hP : P < l.length
 ·obtain ⟨p, hp⟩ : ∃ p, l[P]? = some p := ⟨l[P], List.getElem?_eq_getElem _⟩;simp only [if_lt hP, den_lt, cellF, tixM hp (row_len p), eltM hp, rowP, cellP0, phi (c354 _ _), EV];have : decide (sgn (p.id - id) = 0) = decide (0 ≤ pos l id) := by
   rw [decide_eq_decide, sgn_zero, hpos.2];constructor
   ·intro h; exact ⟨p, hp, by omega⟩
   ·rintro ⟨q, hq, h⟩; rw [hp] at hq; cases hq; omega
  rw [this]
 ·rw [if_neg (by omega)];rw [decide_eq_false (show ¬ 0 ≤ pos l id by rw [hpos.2]; rintro ⟨p, hp, _⟩; have := get_lt hp; omega)]
def okF (l : List Pt) : Prop := l.length ≤ 64 ∧ goodAll l = true ∧ risen l
theorem fieldE_ok {l : List Pt} : fieldE l = 0 ↔ okF l := by
 unfold fieldE okF;constructor
 ·intro h;split at h
  ·cases h
  ·split at h
   ·split at h
    ·exact ⟨by omega, by assumption, by assumption⟩
    ·cases h
   ·cases h
 ·rintro ⟨h1, h2, h3⟩;rw [if_neg (by omega), if_pos h2, if_pos h3]
theorem okF_pt {l : List Pt} (h : okF l) {i : Nat} {p : Pt} (hp : l[i]? = some p) : p.ok = true := List.all_eq_true.1 h.2.1 p (List.mem_of_getElem? hp)
theorem pos_dec {l : List Pt} (h : okF l) {i : Nat} {p : Pt} (hp : l[i]? = some p) : decide (0 ≤ pos l p.id) = true ∧ pos l p.id = (i : Nat) := by
 have := pos_some h.2.2 hp;exact ⟨by rw [this]; exact decide_eq_true (by omega), this⟩
theorem d271 {l : List Pt} (h : okF l) {i : Nat} {p : Pt} (hp : l[i]? = some p) : Ans D 271 [F l, .i64 p.id] [.i64 (i : Int), .bool true] := by
 obtain ⟨P, h2, h1⟩ := bin_srch (e0 := F l) (id := p.id) h.2.2 (by have := h.1; omega);obtain ⟨e1, e2⟩ := pos_dec h hp;have : P = i := by have := h2 (of_decide_eq_true e1); omega
 subst this;refine ans_of k271_ok s271 rfl ⟨1001, ?_⟩;unfold k271;simp only [den_lt, shapeF, cellF, EV, List.length_map];refine (h1 _ k271_1 [] rfl).trans ?_;simp only [k271_1, EV, e1]
theorem c281 {l : List Pt} (h : okF l) {i : Nat} {p : Pt} (hp : l[i]? = some p) : Ans D 281 [F l, .i64 p.id] [.i64 (i : Int), .i64 0] := by
 have h0 := phi (c231 l);rw [fieldE_ok.2 h] at h0;refine ans_of k281_ok s281 rfl ⟨1, ?_⟩;unfold k281;simp only [den_lt, shapeF, EV, h0, phi (d271 h hp), decide_true, Bool.not_true, Bool.false_eq_true, if_false]
theorem flatP (p : Pt) : RF.ev .flat [PP p] = some (PP p) := rfl
theorem c248 {l : List Pt} (h : okF l) {i : Nat} {p : Pt} (hp : l[i]? = some p) : Ans D 248 [F l, .i64 p.id] [PP p, .i64 0] := by
 refine ans_of k248_ok s248 rfl ⟨1, ?_⟩;unfold k248;simp only [den_lt, shapeF, cellF, EV, phi (c281 h hp), decide_true, Bool.not_true, Bool.false_eq_true, if_false, tixM hp (row_len p), eltM hp, rowP, flatP]
theorem c156 {l : List Pt} {t : Rt} (h : okF l) (ht : In64 t) (hr : rok t = true) {i j : Nat} {p q : Pt} (hp : l[i]? = some p) (hq : l[j]? = some q) (hne : p.id ≠ q.id) : Ans D 156 [F l, R t, .i64 p.id, .i64 q.id] [.bool (leads t p q)] := by
 have h0 := phi (c249 (p := p) (q := q) ht);rw [twoE_zero (okF_pt h hp) (okF_pt h hq) hr hne] at h0;refine ans_of k156_ok s156 rfl ⟨1, ?_⟩;unfold k156;simp only [den_lt, shapeF, shapeR, shapeP, EV, phi (c248 h hp), phi (c248 h hq), h0, if_true]
theorem d367 {l : List Pt} (h : okF l) {i : Nat} {p : Pt} (hp : l[i]? = some p) : Ans D 367 [F l, .i64 p.id] [.i64 (i : Int), .bool true] := by
 obtain ⟨P, h2, h1⟩ := bin_srch (e0 := F l) (id := p.id) h.2.2 (by have := h.1; omega);obtain ⟨e1, e2⟩ := pos_dec h hp;have : P = i := by have := h2 (of_decide_eq_true e1); omega
 subst this;refine ans_of k367_ok s367 rfl ⟨1001, ?_⟩;unfold k367;simp only [den_lt, shapeF, cellF, EV, List.length_map];refine (h1 _ k367_1 [] rfl).trans ?_;simp only [k367_1, EV, e1]
theorem d367n {l : List Pt} (h : okF l) {id : Int} (hn : ∀ p ∈ l, p.id ≠ id) : ∃ P : Nat, Ans D 367 [F l, .i64 id] [.i64 (P : Int), .bool false] := by
 obtain ⟨P, _, h1⟩ := bin_srch (e0 := F l) (id := id) h.2.2 (by have := h.1; omega);refine ⟨P, ans_of k367_ok s367 rfl ⟨1001, ?_⟩⟩;unfold k367;simp only [den_lt, shapeF, cellF, EV, List.length_map];refine (h1 _ k367_1 [] rfl).trans ?_;simp only [k367_1, EV, pos_none hn];rfl
def ptOf (l : List Pt) (id : Int) : Pt := (l.find? fun p => decide (p.id = id)).getD ⟨-1, 0, 0⟩
theorem ptOf_some {l : List Pt} (h : okF l) {i : Nat} {p : Pt} (hp : l[i]? = some p) : ptOf l p.id = p := by
 unfold ptOf;cases e : l.find? fun q => decide (q.id = p.id) with
 | none => rw [List.find?_eq_none] at e; have := e p (List.mem_of_getElem? hp); simp at this
 | some q =>
  have h1 := List.find?_some e;exact (risen_ids h.2.2).inj (List.mem_of_find?_eq_some e) (List.mem_of_getElem? hp) (of_decide_eq_true h1)
theorem ptOf_none {l : List Pt} {id : Int} (hn : ∀ p ∈ l, p.id ≠ id) : ptOf l id = ⟨-1, 0, 0⟩ := by
 unfold ptOf;rw [List.find?_eq_none.2 (fun p hp => by simpa using hn p hp)]
 rfl
theorem has_cases (l : List Pt) (id : Int) : (∀ p ∈ l, p.id ≠ id) ∨ ∃ (i : Nat) (p : Pt), l[i]? = some p ∧ p.id = id := by
 rcases pos_cases l id with ⟨_, h⟩ | ⟨i, p, h1, h2, _⟩
 ·exact .inl h
 ·exact .inr ⟨i, p, h1, h2⟩
theorem c315 {l : List Pt} (h : okF l) (id : Int) : Ans D 315 [F l, .i64 id] [PP (ptOf l id)] := by
 obtain ⟨P, h2, h1⟩ := bin_srch (e0 := F l) (id := id) h.2.2 (by have := h.1; omega);refine ans_of k315_ok s315 rfl ⟨1001, ?_⟩;unfold k315;simp only [den_lt, shapeF, cellF, EV, List.length_map];refine (h1 _ k315_1 [] rfl).trans ?_;unfold k315_1;rcases has_cases l id with hn | ⟨i, p, hp, rfl⟩
 ·have a3 : RF.ev .agg [.i64 (-1), .i64 0, .i64 0] = some (PP ⟨-1, 0, 0⟩) := rfl;rw [pos_none hn, decide_eq_false (by decide)];simp only [den_lt, shapeF, cellF, EV, Bool.not_false, if_true, a3, flatP, ptOf_none hn]
 ·obtain ⟨e1, e2⟩ := pos_dec h hp;have : P = i := by have := h2 (of_decide_eq_true e1); omega
  subst this;rw [e1];simp only [den_lt, shapeF, cellF, EV, Bool.not_true, Bool.false_eq_true, if_false, tixM hp (row_len p), eltM hp, rowP, flatP, ptOf_some h hp]
end Go.Proofs.YtfghdmmapmdcgaaGreat
