import Derived.Test.YthaokoopmhgfiaaSnpB
set_option linter.unusedVariables false
set_option linter.unusedSimpArgs false
set_option linter.defProp false
noncomputable section
namespace Go.Proofs.Ythaokoopmhgfiaa
open Go.Sym Go.Abu Go.Pev
set_option maxRecDepth 100000
theorem eqv_pt (p q : Pt) : RF.ev (.eqv [.i, .i, .i]) [.agg p.row, .agg q.row] = some (.bool (decide (p = q))) := by
 obtain ⟨a, b, c⟩ := p;obtain ⟨x, y, z⟩ := q;have : RF.ev (.eqv [.i, .i, .i]) [.agg (Pt.row ⟨a, b, c⟩), .agg (Pt.row ⟨x, y, z⟩)] = some (.bool (decide (a = x) && (decide (b = y) && (decide (c = z) && true)))) := rfl;rw [this]
 congr 2
 simp [Pt.mk.injEq, Bool.decide_and]
theorem eqv_rat (p q : Rat) : RF.ev (.eqv [.i, .i]) [R p, R q] = some (.bool (decide (p = q))) := by
 obtain ⟨a, b⟩ := p;obtain ⟨x, y⟩ := q;have : RF.ev (.eqv [.i, .i]) [R ⟨a, b⟩, R ⟨x, y⟩] = some (.bool (decide (a = x) && (decide (b = y) && true))) := rfl;rw [this]
 congr 2
 simp [Rat.mk.injEq, Bool.decide_and]
theorem same_loop {V : FuncId → Bool} {N : Nat} {f : JT} {e0 e1 e4 e5 e6 e7 e8 : PV} {l k : List Pt} (hl : l.length = k.length) (hs : l.length ≤ 1000) : ∀ (m n i : Nat), i + m = l.length → m < n →
  denW (PhiS D) V N k31_1 [f] [e0, e1, .agg [.sl (rows l)], .agg [.sl (rows k)], e4, e5, e6, e7, e8] n [.i64 (i : Int)] = if l.drop i = k.drop i then f [] else some [.bool false]
 | m, 0, i, h, hn => by omega
 | 0, n + 1, i, h, hn => by
  rw [denW_succ];unfold k31_1;simp only [EV, decide_eq_true_eq, rows_len];rw [if_neg (by omega), List.drop_eq_nil_of_le (by omega), List.drop_eq_nil_of_le (by omega)];rfl
 | m + 1, n + 1, i, h, hn => by
  obtain ⟨p, hp⟩ : ∃ p, l[i]? = some p := ⟨l[i]'(by omega), List.getElem?_eq_getElem _⟩;obtain ⟨q, hq⟩ : ∃ q, k[i]? = some q := ⟨k[i]'(by omega), List.getElem?_eq_getElem _⟩;rw [denW_succ];have ih := same_loop (V := V) (N := N) (f := f) (e0 := e0) (e1 := e1) (e4 := e4) (e5 := e5) (e6 := e6) (e7 := e7) (e8 := e8) hl hs m n (i + 1) (by omega) (by omega);generalize hk : k31_1 = kk at ih;subst hk;unfold k31_1;simp only [EV, decide_eq_true_eq, rows_len, tix_ok hp, elt3 hp, tix_ok hq, elt3 hq, eqv_pt, up1 (show i < 1000000 by omega), Bool.not_eq_true', decide_eq_false_iff_not]
  rw [if_pos (by omega), drop_get hp, drop_get hq];by_cases e : p = q
  ·subst e;rw [if_neg (by simp)];refine ih.trans ?_;simp only [List.cons.injEq, true_and]
  ·rw [if_pos e, if_neg (by simp [e])]
theorem c31 {l k : List Pt} (hs : l.length ≤ 1000) : Ans D 31 [.agg [.sl (rows l)], .agg [.sl (rows k)]] [.bool (decide (l = k))] := by
 refine ans_of k31_ok s31 rfl ⟨1001, ?_⟩;unfold k31;simp only [EV, if_true, Nat.zero_add, rows_len, Bool.not_eq_true', decide_eq_false_iff_not];by_cases h : l.length = k.length
 ·rw [if_neg (by omega)];refine (same_loop h hs l.length 1001 0 (by omega) (by omega)).trans ?_;rw [List.drop_zero, List.drop_zero];unfold k31_2;simp only [EV];by_cases e : l = k
  ·rw [if_pos e, decide_eq_true e]
  ·rw [if_neg e, decide_eq_false e]
 ·rw [if_pos (by omega), decide_eq_false (fun e => h (by rw [e]))]
theorem c22 {m k : Mod} (hs : m.pts.length ≤ 1000) : Ans D 22 [.agg m.cells, .agg k.cells] [.bool (decide (m = k))] := by
 refine ans_of k22_ok s22 rfl ⟨1, ?_⟩;have h1 := phi (c31 (k := k.pts) hs);unfold k22;have p0 : ∀ m : Mod, RF.ev (.shape 3) [.agg m.cells] = some (.agg m.cells) := fun _ => rfl;have p1 : ∀ m : Mod, RF.ev (.part 0 2) [.agg m.cells] = some (R m.now) := fun _ => rfl;have p2 : ∀ m : Mod, RF.ev (.part 2 1) [.agg m.cells] = some (.agg [.sl (rows m.pts)]) := fun _ => rfl;simp only [p0, p1, p2, EV, h1, eqv_rat, k22_1, decide_eq_true_eq];obtain ⟨a, b⟩ := m;obtain ⟨x, y⟩ := k;by_cases e : a = x
 ·subst e; simp
 ·simp [e]
theorem c10 {s t : Snap} (hs : s.m.pts.length ≤ 1000) : Ans D 10 [.agg s.cells, .agg t.cells] [.bool (decide (s = t))] := by
 refine ans_of k10_ok s10 rfl ⟨1, ?_⟩;have h1 := phi (c22 (k := t.m) hs);unfold k10;have p0 : ∀ m : Snap, RF.ev (.shape 4) [.agg m.cells] = some (.agg m.cells) := fun _ => rfl;have p1 : ∀ m : Snap, RF.ev (.cell 0) [.agg m.cells] = some (.v (.int .u8 m.tag)) := fun _ => rfl;have p2 : ∀ m : Snap, RF.ev (.part 1 3) [.agg m.cells] = some (.agg m.m.cells) := fun _ => rfl;simp only [p0, p1, p2, EV, h1, k10_1, decide_eq_true_eq];obtain ⟨a, b⟩ := s;obtain ⟨x, y⟩ := t;by_cases e : a = x
 ·subst e; simp
 ·simp [e]
def great (l : List Pt) : Bool := (decide (16 < l.length) && decide (l.length < 64)) || decide (70 < l.length)
theorem c7 (l : List Pt) : Ans D 7 [.agg [.sl (rows l)]] [.bool (great l)] := by
 refine ans_of k7_ok s7 rfl ⟨1, ?_⟩;unfold k7;simp only [EV, if_true, Nat.zero_add, rows_len, k7_1, decide_eq_true_eq];unfold great;by_cases h1 : 16 < l.length
 ·rw [if_pos (by omega), decide_eq_true h1];by_cases h2 : l.length < 64
  ·rw [if_pos (by omega), decide_eq_true h2]; rfl
  ·rw [if_neg (by omega), decide_eq_false h2];simp only [Bool.and_false, Bool.false_or, Option.some.injEq, List.cons.injEq, and_true, PV.v.injEq, Value.bool.injEq];exact decide_eq_decide.2 (by omega)
 ·rw [if_neg (by omega), decide_eq_false h1];simp only [Bool.false_and, Bool.false_or, Option.some.injEq, List.cons.injEq, and_true, PV.v.injEq, Value.bool.injEq];exact decide_eq_decide.2 (by omega)
def B (l : List Int) : List (List PV) := l.map fun x => [.v (.int .u8 x)]
theorem B_len (l : List Int) : (B l).length = l.length := by simp [B]
def digs (n : Int) : Nat → List Int
 | 0 => []
 | w + 1 => n.fdiv (2 ^ (8 * w)) % 256 :: digs n w
theorem digs_len (n : Int) : ∀ w, (digs n w).length = w
 | 0 => rfl
 | w + 1 => by simp [digs, digs_len n w]
theorem app1 {l k : List Int} (h : l.length + k.length ≤ 100000) : RF.ev (.app 1 1) [.sl (B l), .i64 (l.length : Int), .sl (B k)] = some (.sl (B (l ++ k))) := by
 rw [f_app, if_pos]
 ·rw [Int.toNat_natCast, List.take_of_length_le (by simp [B])];simp [B]
 ·rw [B_len, B_len, Int.toNat_natCast];refine ⟨by omega, by omega, by omega, ?_⟩;cases k <;> rfl
theorem sub_all (l : List Int) : RF.ev .sub [.sl (B l), .v (.int .i64 0), .v (.int .i64 (l.length : Int))] = some (.sl (B l)) := by
 rw [f_sub, if_pos ⟨by omega, by omega, by rw [B_len]; omega⟩, Int.toNat_natCast];simp only [Int.toNat_zero, List.drop_zero];rw [List.take_of_length_le (by simp [B])]
theorem bs1 (x : Int) : RF.ev (.bs 1 [(.v (.int .u8 0))] [0]) [.v (.int .u8 x)] = some (.sl (B [x])) := rfl
theorem bs3 (x y z : Int) : RF.ev (.bs 3 [(.v (.int .u8 0))] [0, 1, 2]) [.v (.int .u8 x), .v (.int .u8 y), .v (.int .u8 z)] = some (.sl (B [x, y, z])) := rfl
theorem sub1 (x : Int) : RF.ev .sub [.sl (B [x]), .v (.int .i64 0), .v (.int .i64 1)] = some (.sl (B [x])) := sub_all [x]
theorem sub3 (x y z : Int) : RF.ev .sub [.sl (B [x, y, z]), .v (.int .i64 0), .v (.int .i64 3)] = some (.sl (B [x, y, z])) := sub_all [x, y, z]
theorem digs_loop {V : FuncId → Bool} {N : Nat} {f : JT} {e0 e2 e3 e4 : PV} {x : Int} : ∀ (w n : Nat) (l : List Int), w < n → w ≤ 8 → l.length + w ≤ 100000 →
  denW (PhiS D) V N k20_1 [f] [e0, .i64 x, e2, e3, e4] n [.sl (B l), .i64 (l.length : Int), .i64 ((w : Int) - 1)] = f [.sl (B (l ++ digs x w)), .i64 ((l ++ digs x w).length : Int)]
 | w, 0, l, h, _, _ => by omega
 | 0, n + 1, l, h, _, _ => by
  rw [denW_succ];unfold k20_1;simp only [EV, decide_eq_true_eq];rw [if_neg (by omega)];simp [digs]
 | w + 1, n + 1, l, h, hw, hlen => by
  have ih := digs_loop (V := V) (N := N) (f := f) (e0 := e0) (e2 := e2) (e3 := e3) (e4 := e4) (x := x) w n (l ++ [x.fdiv (2 ^ (8 * w)) % 256]) (by omega) (by omega) (by simp; omega);rw [denW_succ];generalize hk : k20_1 = kk at ih;subst hk;unfold k20_1;have e1 : (((w + 1 : Nat) : Int) - 1) = (w : Int) := by omega
  have e2 : IntKind.i64.wrap (8 * (w : Int)) = ((8 * w : Nat) : Int) := by rw [w_i64 (by omega) (by omega)]; omega
  have e3 : min (8 * w) 64 = 8 * w := by omega
  have e5 : IntKind.i64.wrap ((w : Int) - 1) = (w : Int) - 1 := w_i64 (by omega) (by omega);have hb : IntKind.i64.bits = 64 := rfl;simp only [EV, decide_eq_true_eq, e1, e2, i_shr, if_neg (show ¬ ((8 * w : Nat) : Int) < 0 by omega), Int.toNat_natCast, hb, e3, w_u8, bs1, sub1, app1 (show l.length + [x.fdiv (2 ^ (8 * w)) % 256].length ≤ 100000 by simp; omega), B_len, e5]
  rw [if_pos (by omega)];refine ih.trans ?_;simp only [digs, List.append_assoc, List.cons_append, List.nil_append]
theorem c20 {l : List Int} {x : Int} {w : Nat} (hw : w ≤ 8) (hl : l.length ≤ 1000) : Ans D 20 [.sl (B l), .i64 x, .i64 (w : Int)] [.sl (B (l ++ digs x w))] := by
 refine ans_of k20_ok s20 rfl ⟨9, ?_⟩;unfold k20;simp only [EV, B_len, w_i64 (show -9223372036854775808 ≤ (w : Int) - 1 by omega) (show (w : Int) - 1 ≤ 9223372036854775807 by omega)]
 refine (digs_loop w 9 l (by omega) hw (by omega)).trans ?_;unfold k20_2;simp only [EV, sub_all]
end Go.Proofs.Ythaokoopmhgfiaa
