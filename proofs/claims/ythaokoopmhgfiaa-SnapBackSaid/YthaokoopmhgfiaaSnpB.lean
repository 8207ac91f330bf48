import Derived.Test.YthaokoopmhgfiaaSnpA
set_option linter.unusedVariables false
set_option linter.unusedSimpArgs false
set_option linter.defProp false
noncomputable section
namespace Go.Proofs.Ythaokoopmhgfiaa
open Go.Sym Go.Abu Go.Pev
set_option maxRecDepth 100000
def rows (l : List Pt) : List (List PV) := l.map Pt.row
theorem rows_len (l : List Pt) : (rows l).length = l.length := by simp [rows]
theorem rows_get (l : List Pt) (i : Nat) : (rows l)[i]? = (l[i]?).map Pt.row := by simp [rows]
theorem tix_ok {l : List Pt} {i : Nat} {p : Pt} (h : l[i]? = some p) : RF.ev (.tix 3) [.sl (rows l), .v (.int .i64 (i : Int))] = some (.i64 (i : Int)) := by
 rw [f_tix, if_pos (by omega), Int.toNat_natCast, rows_get, h];rfl
theorem elt3 {l : List Pt} {i : Nat} {p : Pt} (h : l[i]? = some p) : RF.ev (.elt 0 3) [.sl (rows l), .v (.int .i64 (i : Int))] = some (.agg p.row) := by
 rw [f_elt, if_pos (by omega), Int.toNat_natCast, rows_get, h];rfl
theorem elt0 {l : List Pt} {i : Nat} {p : Pt} (h : l[i]? = some p) : RF.ev (.elt 0 0) [.sl (rows l), .v (.int .i64 (i : Int))] = some (.i64 p.id) := by
 rw [f_elt, if_pos (by omega), Int.toNat_natCast, rows_get, h];rfl
theorem up1 {i : Nat} (h : i < 1000000) : IntKind.i64.wrap ((i : Int) + 1) = ((i + 1 : Nat) : Int) := by rw [w_i64 (by omega) (by omega)]; rfl
def goodAll (l : List Pt) : Bool := l.all Pt.ok
def risen : List Pt → Bool
 | [] => true
 | [_] => true
 | p :: q :: l => decide (p.id < q.id) && risen (q :: l)
def fieldE (l : List Pt) : Int := if 64 < l.length then 4 else if goodAll l then (if risen l then 0 else 32) else 8
theorem drop_get {α : Type} {l : List α} {i : Nat} {p : α} (h : l[i]? = some p) : l.drop i = p :: l.drop (i + 1) := by
 have hi : i < l.length := (List.getElem?_eq_some_iff.1 h).1;rw [List.drop_eq_getElem_cons hi, (List.getElem?_eq_some_iff.1 h).2]
theorem field1 {V : FuncId → Bool} {N : Nat} {f : JT} {e0 e2 e3 e4 e5 : PV} {l : List Pt} (hl : l.length ≤ 64) : ∀ (m n i : Nat), i + m = l.length → m < n →
  denW (PhiS D) V N k38_1 [f] [e0, .agg [.sl (rows l)], e2, e3, e4, e5, .i64 (l.length : Int)] n [.i64 (i : Int)] = if goodAll (l.drop i) then f [] else some [.i64 8]
 | m, 0, i, h, hn => by omega
 | 0, n + 1, i, h, hn => by
  rw [denW_succ];unfold k38_1;simp only [EV, decide_eq_true_eq];rw [if_neg (by omega), List.drop_eq_nil_of_le (by omega)];rfl
 | m + 1, n + 1, i, h, hn => by
  obtain ⟨p, hp⟩ : ∃ p, l[i]? = some p := ⟨l[i]'(by omega), List.getElem?_eq_getElem _⟩;rw [denW_succ];have ih := field1 (V := V) (N := N) (f := f) (e0 := e0) (e2 := e2) (e3 := e3) (e4 := e4) (e5 := e5) hl m n (i + 1) (by omega) (by omega);generalize hk : k38_1 = kk at ih;subst hk;unfold k38_1;simp only [EV, decide_eq_true_eq, tix_ok hp, elt3 hp, phi (c46 p), up1 (show i < 1000000 by omega), Bool.not_eq_true', decide_eq_false_iff_not]
  rw [if_pos (by omega), drop_get hp];unfold goodAll at ih ⊢;rw [List.all_cons];unfold okE;cases hok : p.ok with
  | false => rfl
  | true =>
   rw [if_neg (by simp), Bool.true_and, ← ih];rfl
theorem risen_end {l : List Pt} : risen (l.drop (l.length - 1)) = true := by
 cases h : l.drop (l.length - 1) with
 | nil => rfl
 | cons p t =>
  have : (l.drop (l.length - 1)).length ≤ 1 := by rw [List.length_drop]; omega
  rw [h] at this;cases t with
  | nil => rfl
  | cons => simp at this
theorem risen_step {l : List Pt} {i : Nat} {q p : Pt} (hq : l[i]? = some q) (hp : l[i + 1]? = some p) : risen (l.drop i) = (decide (q.id < p.id) && risen (l.drop (i + 1))) := by
 rw [drop_get hq, drop_get hp];rfl
theorem down1 {i : Nat} (h : i < 1000000) : IntKind.i64.wrap (((i + 1 : Nat) : Int) - 1) = (i : Int) := by rw [w_i64 (by omega) (by omega)]; omega
theorem field2 {V : FuncId → Bool} {N : Nat} {f : JT} {e0 e2 e3 e4 e5 e6 e7 : PV} {l : List Pt} (hl : l.length ≤ 64) : ∀ (m n i : Nat), i + m = l.length → m < n →
  denW (PhiS D) V N k38_3 [f] [e0, .agg [.sl (rows l)], e2, e3, e4, e5, e6, e7, .i64 (l.length : Int)] n [.i64 (i : Int)] = if risen (l.drop (i - 1)) then f [] else some [.i64 32]
 | m, 0, i, h, hn => by omega
 | 0, n + 1, i, h, hn => by
  rw [denW_succ];unfold k38_3;simp only [EV, decide_eq_true_eq];have : i = l.length := by omega
  subst this;rw [if_neg (by omega), risen_end];rfl
 | m + 1, n + 1, i, h, hn => by
  obtain ⟨p, hp⟩ : ∃ p, l[i]? = some p := ⟨l[i]'(by omega), List.getElem?_eq_getElem _⟩;rw [denW_succ];have ih := field2 (V := V) (N := N) (f := f) (e0 := e0) (e2 := e2) (e3 := e3) (e4 := e4) (e5 := e5) (e6 := e6) (e7 := e7) hl m n (i + 1) (by omega) (by omega);generalize hk : k38_3 = kk at ih;subst hk;unfold k38_3;simp only [EV, decide_eq_true_eq, tix_ok hp, elt3 hp, if_pos (show (i : Int) < (l.length : Int) by omega)]
  cases i with
  | zero =>
   rw [if_neg (by omega)];unfold k38_2;simp only [EV, Bool.false_eq_true, if_false, up1 (show 0 < 1000000 by omega)]
   exact ih
  | succ j =>
   obtain ⟨q, hq⟩ : ∃ q, l[j]? = some q := ⟨l[j]'(by omega), List.getElem?_eq_getElem _⟩;rw [if_pos (by omega), down1 (by omega)];simp only [EV, tix_ok hq, elt0 hq, Pt.row];unfold k38_2;simp only [EV, decide_eq_true_eq, up1 (show j + 1 < 1000000 by omega)]
   rw [show j + 1 - 1 = j by omega, risen_step hq hp]
   by_cases hc : p.id ≤ q.id
   ·rw [if_pos hc, decide_eq_false (by omega)];rfl
   ·rw [if_neg hc, decide_eq_true (show q.id < p.id by omega), Bool.true_and]
    exact ih
theorem c38 (l : List Pt) : Ans D 38 [.agg [.sl (rows l)]] [.i64 (fieldE l)] := by
 refine ans_of k38_ok s38 rfl ⟨65, ?_⟩;unfold k38 fieldE;simp only [EV, if_true, Nat.zero_add, Nat.reduceAdd, decide_eq_true_eq, rows_len];by_cases h : 64 < l.length
 ·rw [if_pos (by omega), if_pos h]
 ·rw [if_neg (by omega), if_neg h];refine (field1 (by omega) l.length 65 0 (by omega) (by omega)).trans ?_;rw [List.drop_zero];cases goodAll l with
  | false => rfl
  | true =>
   unfold k38_5;simp only [EV, if_true, rows_len];refine (field2 (by omega) l.length 65 0 (by omega) (by omega)).trans ?_;rw [List.drop_zero];cases risen l with
   | false => rfl
   | true =>
    unfold k38_4;simp only [EV, if_true]
theorem field3 {V : FuncId → Bool} {N : Nat} {f : JT} {e0 e2 e3 e4 : PV} {l : List Pt} (hl : l.length ≤ 64) : ∀ (m n i : Nat), i + m = l.length → m < n →
  denW (PhiS D) V N k30_1 [f] [e0, .agg [.sl (rows l)], e2, e3, e4] n [.i64 (i : Int)] = if goodAll (l.drop i) then f [] else some [.i64 8]
 | m, 0, i, h, hn => by omega
 | 0, n + 1, i, h, hn => by
  rw [denW_succ];unfold k30_1;simp only [EV, decide_eq_true_eq, rows_len];rw [if_neg (by omega), List.drop_eq_nil_of_le (by omega)];rfl
 | m + 1, n + 1, i, h, hn => by
  obtain ⟨p, hp⟩ : ∃ p, l[i]? = some p := ⟨l[i]'(by omega), List.getElem?_eq_getElem _⟩;rw [denW_succ];have ih := field3 (V := V) (N := N) (f := f) (e0 := e0) (e2 := e2) (e3 := e3) (e4 := e4) hl m n (i + 1) (by omega) (by omega);generalize hk : k30_1 = kk at ih;subst hk;unfold k30_1;simp only [EV, decide_eq_true_eq, rows_len, tix_ok hp, elt3 hp, phi (c40 p), up1 (show i < 1000000 by omega), Bool.not_eq_true', decide_eq_false_iff_not]
  rw [if_pos (by omega), drop_get hp];unfold goodAll at ih ⊢;rw [List.all_cons];unfold okE;cases hok : p.ok with
  | false => rfl
  | true =>
   rw [if_neg (by simp), Bool.true_and, ← ih];rfl
theorem field4 {V : FuncId → Bool} {N : Nat} {f : JT} {e0 e2 e3 e4 : PV} {l : List Pt} (hl : l.length ≤ 64) : ∀ (m n i : Nat), i + m = l.length - 1 → m < n →
  denW (PhiS D) V N k30_2 [f] [e0, .agg [.sl (rows l)], e2, e3, e4] n [.i64 ((i + 1 : Nat) : Int)] = if risen (l.drop i) then f [] else some [.i64 32]
 | m, 0, i, h, hn => by omega
 | 0, n + 1, i, h, hn => by
  rw [denW_succ];unfold k30_2;simp only [EV, decide_eq_true_eq, rows_len];have : i = l.length - 1 := by omega
  subst this;rw [if_neg (by omega), risen_end];rfl
 | m + 1, n + 1, i, h, hn => by
  obtain ⟨p, hp⟩ : ∃ p, l[i + 1]? = some p := ⟨l[i + 1]'(by omega), List.getElem?_eq_getElem _⟩;obtain ⟨q, hq⟩ : ∃ q, l[i]? = some q := ⟨l[i]'(by omega), List.getElem?_eq_getElem _⟩;rw [denW_succ];have ih := field4 (V := V) (N := N) (f := f) (e0 := e0) (e2 := e2) (e3 := e3) (e4 := e4) hl m n (i + 1) (by omega) (by omega);generalize hk : k30_2 = kk at ih;subst hk;unfold k30_2;simp only [EV, decide_eq_true_eq, rows_len, down1 (show i < 1000000 by omega), tix_ok hp, tix_ok hq, elt0 hp, elt0 hq, up1 (show i + 1 < 1000000 by omega)]
  rw [if_pos (by omega), risen_step hq hp];by_cases hc : p.id ≤ q.id
  ·rw [if_pos hc, decide_eq_false (by omega)];rfl
  ·rw [if_neg hc, decide_eq_true (show q.id < p.id by omega), Bool.true_and]
   exact ih
theorem c30 (l : List Pt) : Ans D 30 [.agg [.sl (rows l)]] [.i64 (fieldE l)] := by
 refine ans_of k30_ok s30 rfl ⟨65, ?_⟩;unfold k30 fieldE;simp only [EV, if_true, Nat.zero_add, decide_eq_true_eq, rows_len];by_cases h : 64 < l.length
 ·rw [if_pos (by omega), if_pos h]
 ·rw [if_neg (by omega), if_neg h];refine (field3 (by omega) l.length 65 0 (by omega) (by omega)).trans ?_;rw [List.drop_zero];cases goodAll l with
  | false => rfl
  | true =>
   unfold k30_4;simp only [EV, if_true];refine (field4 (by omega) (l.length - 1) 65 0 (by omega) (by omega)).trans ?_;rw [List.drop_zero];cases risen l with
   | false => rfl
   | true =>
    unfold k30_3;simp only [EV, if_true]
structure Mod where
 now : Rat
 pts : List Pt
 deriving DecidableEq
def Mod.cells (m : Mod) : List PV := [.i64 m.now.num, .i64 m.now.den, .sl (rows m.pts)]
def Mod.ok (m : Mod) : Bool := decide (m.now.asked = 0) && decide (fieldE m.pts = 0)
theorem c36 (a b : Int) : Ans D 36 [.sl [[.i64 a], [.i64 b]]] [.i64 (if a = 0 then b else a)] := by
 refine ans_of k36_ok s36 rfl ⟨3, ?_⟩;unfold k36;have w0 : IntKind.i64.wrap (0 + 1) = 1 := by decide
 have w1 : IntKind.i64.wrap (1 + 1) = 2 := by decide
 have e0 : RF.ev (.tix 1) [.sl [[.i64 a], [.i64 b]], .v (.int .i64 0)] = some (.i64 0) := rfl;have e1 : RF.ev (.tix 1) [.sl [[.i64 a], [.i64 b]], .v (.int .i64 1)] = some (.i64 1) := rfl;have g0 : RF.ev (.elt 0 0) [.sl [[.i64 a], [.i64 b]], .v (.int .i64 0)] = some (.i64 a) := rfl;have g1 : RF.ev (.elt 0 0) [.sl [[.i64 a], [.i64 b]], .v (.int .i64 1)] = some (.i64 b) := rfl;have h2 : ([[PV.i64 a], [PV.i64 b]].length : Int) = 2 := rfl;simp only [EV, denW_succ, k36_1, k36_2, h2, e0, e1, g0, g1, w0, w1, decide_eq_true_eq, Bool.not_eq_true', decide_eq_false_iff_not, Int.reduceLT, if_true, if_false];by_cases ha : a = 0
 ·rw [if_neg (by simp [ha]), if_pos ha];by_cases hb : b = 0
  ·rw [if_neg (by simp [hb]), hb]
  ·rw [if_pos hb]
 ·rw [if_pos ha, if_neg ha]
theorem c28 {m : Mod} (h : m.now.in64) : Ans D 28 [.agg m.cells] [.i64 (okE m.ok)] := by
 refine ans_of k28_ok s28 rfl ⟨1, ?_⟩;have h1 := phi (c37 h);have h2 := phi (c38 m.pts);unfold k28 Mod.cells;unfold R at h1;have p1 : RF.ev (.part 0 2) [.agg [.i64 m.now.num, .i64 m.now.den, .sl (rows m.pts)]] = some (.agg [.i64 m.now.num, .i64 m.now.den]) := rfl;have p2 : RF.ev (.part 2 1) [.agg [.i64 m.now.num, .i64 m.now.den, .sl (rows m.pts)]] = some (.agg [.sl (rows m.pts)]) := rfl;have p3 : ∀ x y : Int, RF.ev (.bs 2 [(.v (.int .i64 0))] [0, 1]) [.i64 x, .i64 y] = some (.sl [[.i64 x], [.i64 y]]) := fun x y => rfl;have p4 : ∀ x y : Int, RF.ev .sub [.sl [[.i64 x], [.i64 y]], .v (.int .i64 0), .v (.int .i64 2)] = some (.sl [[.i64 x], [.i64 y]]) := fun x y => rfl;simp only [EV, if_true, Nat.zero_add, Nat.reduceAdd, p1, p2, p3, p4, h1, h2, phi (c36 _ _), Bool.not_eq_true', decide_eq_false_iff_not];unfold Mod.ok okE;by_cases ha : m.now.asked = 0
 ·rw [if_pos ha, decide_eq_true ha, Bool.true_and];by_cases hb : fieldE m.pts = 0
  ·rw [if_neg (by simp [hb]), decide_eq_true hb]; rfl
  ·rw [if_pos hb, decide_eq_false hb]; rfl
 ·rw [if_neg ha, if_pos ha, decide_eq_false ha]; rfl
theorem c21 {m : Mod} (h : m.now.in64) : Ans D 21 [.agg m.cells] [.i64 (okE m.ok)] := by
 refine ans_of k21_ok s21 rfl ⟨1, ?_⟩;have h1 := phi (c29 h);have h2 := phi (c30 m.pts);unfold k21 Mod.cells;unfold R at h1;have p1 : RF.ev (.part 0 2) [.agg [.i64 m.now.num, .i64 m.now.den, .sl (rows m.pts)]] = some (.agg [.i64 m.now.num, .i64 m.now.den]) := rfl;have p2 : RF.ev (.part 2 1) [.agg [.i64 m.now.num, .i64 m.now.den, .sl (rows m.pts)]] = some (.agg [.sl (rows m.pts)]) := rfl;simp only [EV, if_true, Nat.zero_add, Nat.reduceAdd, p1, p2, h1, h2, Bool.not_eq_true', decide_eq_false_iff_not];unfold Mod.ok okE;by_cases ha : m.now.asked = 0
 ·rw [if_neg (by simp [ha]), decide_eq_true ha, Bool.true_and];by_cases hb : fieldE m.pts = 0
  ·rw [if_neg (by simp [hb]), decide_eq_true hb]; rfl
  ·rw [if_pos hb, decide_eq_false hb]; rfl
 ·rw [if_pos ha, decide_eq_false ha]; rfl
structure Snap where
 tag : Int
 m : Mod
 deriving DecidableEq
def Snap.cells (s : Snap) : List PV := .v (.int .u8 s.tag) :: s.m.cells
def Snap.in64 (s : Snap) : Prop := (0 ≤ s.tag ∧ s.tag ≤ 255) ∧ s.m.now.in64
def Snap.ok (s : Snap) : Bool := decide (1 ≤ s.tag) && decide (s.tag ≤ 4) && s.m.ok
theorem c17 {s : Snap} (h : s.in64) : Ans D 17 [.agg s.cells] [.i64 (okE s.ok)] := by
 refine ans_of k17_ok s17 rfl ⟨1, ?_⟩;have h1 := phi (c28 h.2);unfold k17;have p0 : RF.ev (.shape 4) [.agg s.cells] = some (.agg s.cells) := rfl;have p1 : RF.ev (.cell 0) [.agg s.cells] = some (.v (.int .u8 s.tag)) := rfl;have p2 : RF.ev (.part 1 3) [.agg s.cells] = some (.agg s.m.cells) := rfl;simp only [den_lt, p0, p1, p2, EV, h1, decide_eq_true_eq];unfold Snap.ok;by_cases ha : s.tag < 1
 ·rw [if_pos ha, decide_eq_false (by omega)]; rfl
 ·rw [if_neg ha, decide_eq_true (show 1 ≤ s.tag by omega)]
  by_cases hb : 4 < s.tag
  ·rw [if_pos hb, decide_eq_false (show ¬ s.tag ≤ 4 by omega)]; rfl
  ·rw [if_neg hb, decide_eq_true (show s.tag ≤ 4 by omega)]; rfl
theorem c9 {s : Snap} (h : s.in64) : Ans D 9 [.agg s.cells] [.i64 (okE s.ok)] := by
 refine ans_of k9_ok s9 rfl ⟨1, ?_⟩;have h1 := phi (c21 h.2);unfold k9;have p0 : RF.ev (.shape 4) [.agg s.cells] = some (.agg s.cells) := rfl;have p1 : RF.ev (.cell 0) [.agg s.cells] = some (.v (.int .u8 s.tag)) := rfl;have p2 : RF.ev (.part 1 3) [.agg s.cells] = some (.agg s.m.cells) := rfl;simp only [den_lt, p0, p1, p2, EV, h1, decide_eq_true_eq, Bool.not_eq_true', decide_eq_false_iff_not];unfold Snap.ok;by_cases ha : s.tag < 1
 ·rw [if_pos ha, decide_eq_false (by omega)]; rfl
 ·rw [if_neg ha, decide_eq_true (show 1 ≤ s.tag by omega)]
  by_cases hb : 4 < s.tag
  ·rw [if_pos hb, decide_eq_false (show ¬ s.tag ≤ 4 by omega)]; rfl
  ·rw [if_neg hb, decide_eq_true (show s.tag ≤ 4 by omega)]
   cases s.m.ok <;> rfl
end Go.Proofs.Ythaokoopmhgfiaa
