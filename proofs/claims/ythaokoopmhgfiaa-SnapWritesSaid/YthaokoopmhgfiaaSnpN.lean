import Derived.Test.YthaokoopmhgfiaaSnpM
set_option linter.unusedVariables false
set_option linter.unusedSimpArgs false
set_option linter.defProp false
noncomputable section
namespace Go.Proofs.Ythaokoopmhgfiaa
open Go.Sym Go.Abu Go.Pev
set_option maxRecDepth 100000
theorem twinP {l : List Pt} (h : l.length ≤ 1000) : RF.ev (.app 24 3) [.sl [], .v (.int .i64 0), .sl (rows l)] = some (.sl (rows l)) := (appP (l := []) (k := l) (by simp; omega)).trans (by simp)
theorem c32 {l : List Pt} (h : l.length ≤ 1000) : Ans D 32 [.agg [.sl (rows l)]] [.agg [.sl (rows l)]] := by
 refine ans_of k32_ok s32 rfl ⟨1, ?_⟩;unfold k32;have e1 : RF.ev .agg [.sl (rows l)] = some (.agg [.sl (rows l)]) := rfl;have e2 : RF.ev .tree [.agg [.sl (rows l)]] = some (.agg [.sl (rows l)]) := rfl;simp only [EV, if_true, Nat.zero_add, twinP h, rows_len, subAllP, e1, e2]
theorem c23 {m : Mod} (h : m.pts.length ≤ 1000) : Ans D 23 [.agg m.cells] [.agg m.cells] := by
 refine ans_of k23_ok s23 rfl ⟨1, ?_⟩;unfold k23;have p0 : RF.ev (.shape 3) [.agg m.cells] = some (.agg m.cells) := rfl;have p1 : RF.ev (.part 0 2) [.agg m.cells] = some (R m.now) := rfl;have p2 : RF.ev (.part 2 1) [.agg m.cells] = some (.agg [.sl (rows m.pts)]) := rfl;have p3 : RF.ev (.part 0 2) [R m.now] = some (R m.now) := rfl;have e1 : RF.ev .agg [R m.now, .sl (rows m.pts)] = some (.agg m.cells) := rfl;have e2 : RF.ev .tree [.agg m.cells] = some (.agg m.cells) := rfl;simp only [p0, p1, p2, p3, EV, phi (c32 h), if_true, Nat.zero_add, rows_len, subAllP, e1, e2]
theorem c11 {s : Snap} (h : s.m.pts.length ≤ 1000) : Ans D 11 [.agg s.cells] [.agg s.cells] := by
 refine ans_of k11_ok s11 rfl ⟨1, ?_⟩;unfold k11;have p0 : RF.ev (.shape 4) [.agg s.cells] = some (.agg s.cells) := rfl;have p1 : RF.ev (.part 1 3) [.agg s.cells] = some (.agg s.m.cells) := rfl;have p2 : RF.ev (.shape 3) [.agg s.m.cells] = some (.agg s.m.cells) := rfl;have p3 : RF.ev (.cell 0) [.agg s.cells] = some (.v (.int .u8 s.tag)) := rfl;have p4 : RF.ev (.part 0 3) [.agg s.m.cells] = some (.agg s.m.cells) := rfl;have e1 : RF.ev .agg [.v (.int .u8 s.tag), .agg s.m.cells] = some (.agg s.cells) := rfl;have e2 : RF.ev .tree [.agg s.cells] = some (.agg s.cells) := rfl;simp only [p0, p1, p2, p3, p4, EV, phi (c23 h), e1, e2]
theorem bset {l : List Int} {i : Nat} {v : Int} (h : i < l.length) : RF.ev (.set 0) [.sl (B l), .v (.int .i64 (i : Int)), .v (.int .u8 v)] = some (.sl (B (l.set i v))) := by
 rw [f_set, if_pos (by omega), Int.toNat_natCast, B_get, List.getElem?_eq_getElem h];show some (PV.sl ((B l).set i [.v (.int .u8 v)])) = _
 simp [B, List.map_set]
theorem rep_set {d : List Int} {v : Int} : ∀ j : Nat, (List.replicate (j + 1) 0 ++ d).set j v = List.replicate j 0 ++ v :: d
 | 0 => rfl
 | j + 1 => by
  have := rep_set (d := d) (v := v) j;rw [List.replicate_succ, List.cons_append, List.set_cons_succ, this];rfl
theorem rdigs_loop {V : FuncId → Bool} {N : Nat} {f : JT} {e0 e1 e2 e4 : PV} {x : Int} {w : Nat} (hx : 0 ≤ x) (hx' : x < 9223372036854775808) (hw : w ≤ 8) (j : Nat) : ∀ (n c : Nat), c + j = w → j < n →
  denW (PhiS D) V N k41_1 [f] [e0, e1, e2, .i64 (w : Int), e4] n [.v (.int .u64 (x / 2 ^ (8 * c))), .sl (B (List.replicate j 0 ++ digs x c)), .i64 ((j : Int) - 1)] = f [.sl (B (digs x w))] := by
 induction j with
 | zero =>
  intro n c h hn;obtain ⟨n, rfl⟩ : ∃ n', n = n' + 1 := ⟨n - 1, by omega⟩;rw [denW_succ];unfold k41_1;simp only [EV, decide_eq_true_eq];rw [if_neg (by omega), show c = w by omega]
  simp
 | succ j ih =>
  intro n c h hn;obtain ⟨n, rfl⟩ : ∃ n', n = n' + 1 := ⟨n - 1, by omega⟩;have ih := ih n (c + 1) (by omega) (by omega);rw [denW_succ];generalize hkk : k41_1 = kk at ih;subst hkk;unfold k41_1;have hp : (0 : Int) < 2 ^ (8 * c) := Int.pow_pos (by decide);have q0 : 0 ≤ x / 2 ^ (8 * c) := Int.ediv_nonneg hx (Int.le_of_lt hp);have q1 : x / 2 ^ (8 * c) ≤ x := Int.ediv_le_self _ hx;have q2 : x / 2 ^ (8 * c) / 256 = x / 2 ^ (8 * (c + 1)) := by
   rw [Int.ediv_ediv_of_nonneg (Int.le_of_lt hp), show 8 * (c + 1) = 8 * c + 8 by omega, Int.pow_add]
   rfl
  have e1 : (((j + 1 : Nat) : Int) - 1) = (j : Int) := by omega
  have e2 : (x / 2 ^ (8 * c)).tmod 256 % 256 = x / 2 ^ (8 * c) % 256 := by rw [Int.tmod_eq_emod_of_nonneg q0]; omega
  have e3 : IntKind.u64.wrap ((x / 2 ^ (8 * c)).tdiv 256) = x / 2 ^ (8 * (c + 1)) := by rw [Int.tdiv_eq_ediv_of_nonneg q0, w_u64, ← q2]; omega
  have e5 : IntKind.i64.wrap ((j : Int) - 1) = (j : Int) - 1 := w_i64 (by omega) (by omega);have e6 : RF.ev .ix [.v (.int .i64 (j : Int)), .v (.int .i64 (w : Int))] = some (.i64 (j : Int)) := by rw [f_ix, if_pos ⟨by omega, by omega⟩]
  have e7 : RF.ev (.set 0) [.sl (B (List.replicate (j + 1) 0 ++ digs x c)), .v (.int .i64 (j : Int)), .v (.int .u8 (x / 2 ^ (8 * c) % 256))] = some (.sl (B (List.replicate j 0 ++ digs x (c + 1)))) := by
   rw [bset (by rw [List.length_append, List.length_replicate]; omega), rep_set, digs_step]
  simp only [EV, decide_eq_true_eq, e1, i_rem, i_quo, if_neg (show ¬ (256 : Int) = 0 by decide), w_u8, e2, e3, e5, e6, e7]
  rw [if_pos (by omega)];exact ih
theorem c41 {x : Int} {w : Nat} (hx : 0 ≤ x) (hx' : x < 9223372036854775808) (hw : w ≤ 8) : Ans D 41 [.v (.int .u64 x), .i64 (w : Int)] [.sl (B (digs x w))] := by
 refine ans_of k41_ok s41 rfl ⟨9, ?_⟩;unfold k41;have e1 : RF.ev (.rep [(.v (.int .u8 0))] 1) [.v (.int .i64 (w : Int)), .v (.int .i64 (w : Int))] = some (.sl (B (List.replicate w 0))) := by
  rw [f_rep, if_pos ⟨by omega, by omega, by omega, by omega⟩, Int.toNat_natCast];simp [B]
 have e2 : RF.ev .sub [.sl (B (digs x w)), .v (.int .i64 0), .v (.int .i64 (w : Int))] = some (.sl (B (digs x w))) := by
  have := sub_all (digs x w);rwa [digs_len] at this
 simp only [EV, e1, B_len, List.length_replicate, w_i64 (show -9223372036854775808 ≤ (w : Int) - 1 by omega) (show (w : Int) - 1 ≤ 9223372036854775807 by omega)]
 have := rdigs_loop (V := VS D) (N := 9) (f := denJ (PhiS D) (VS D) 9 k41_2 [] [.v (.int .u64 x), .i64 (w : Int), .sl (B (List.replicate w 0)), .i64 (w : Int), .i64 ((w : Int) - 1)]) (e0 := .v (.int .u64 x)) (e1 := .i64 (w : Int)) (e2 := .sl (B (List.replicate w 0))) (e4 := .i64 ((w : Int) - 1)) hx hx' hw w 9 0 (by omega) (by omega);rw [show x / 2 ^ (8 * 0) = x by simp, show digs x 0 = [] from rfl, List.append_nil] at this
 refine this.trans ?_;unfold k41_2;simp only [EV, e2]
theorem r2 {x : Int} (hx : 0 ≤ x) (hx' : x < 9223372036854775808) : PhiS D 41 [.v (.int .u64 x), .i64 2] = some [.sl (B (digs x 2))] := phi (c41 (w := 2) hx hx' (by omega))
theorem r3 {x : Int} (hx : 0 ≤ x) (hx' : x < 9223372036854775808) : PhiS D 41 [.v (.int .u64 x), .i64 3] = some [.sl (B (digs x 3))] := phi (c41 (w := 3) hx hx' (by omega))
theorem r4 {x : Int} (hx : 0 ≤ x) (hx' : x < 9223372036854775808) : PhiS D 41 [.v (.int .u64 x), .i64 4] = some [.sl (B (digs x 4))] := phi (c41 (w := 4) hx hx' (by omega))
def askP (p : Pt) : List PV := [.v (.int .u8 1), .i64 p.id, .i64 p.a, .i64 p.b, .i64 0, .i64 0, .i64 0]
def askM (r : Rat) : List PV := [.v (.int .u8 4), .i64 0, .i64 0, .i64 0, .i64 0, .i64 r.num, .i64 r.den]
def movB (r : Rat) : List Int := digs (r.num + 1073741824) 4 ++ digs r.den 2
theorem movB_len (r : Rat) : (movB r).length = 6 := by simp [movB, digs_len]
def Rat.good (r : Rat) : Prop := (-1073741824 ≤ r.num ∧ r.num ≤ 1073741824) ∧ (0 ≤ r.den ∧ r.den ≤ 65535)
theorem app_one {k : List Int} (h : k.length ≤ 1000) (a : Int) : RF.ev (.app 1 1) [.sl (B [a]), .v (.int .i64 1), .sl (B k)] = some (.sl (B (a :: k))) := app1 (l := [a]) (k := k) (by simp; omega)
theorem c33p {p : Pt} (h : p.ok = true) : Ans D 33 [.agg (askP p)] [.sl (B (1 :: ptB p))] := by
 refine ans_of k33_ok s33 rfl ⟨1, ?_⟩;obtain ⟨⟨i1, i2⟩, ⟨a1, a2⟩, b1, b2⟩ := Pt.ok_in h;unfold k33;have p0 : RF.ev (.shape 7) [.agg (askP p)] = some (.agg (askP p)) := rfl;have p1 : RF.ev (.cell 0) [.agg (askP p)] = some (.v (.int .u8 1)) := rfl;have p2 : RF.ev (.cell 1) [.agg (askP p)] = some (.i64 p.id) := rfl;have p3 : RF.ev (.cell 2) [.agg (askP p)] = some (.i64 p.a) := rfl;have p4 : RF.ev (.cell 3) [.agg (askP p)] = some (.i64 p.b) := rfl;have wi : IntKind.u64.wrap p.id = p.id := by rw [w_u64]; omega
 have wa : IntKind.i64.wrap (p.a + 1048576) = p.a + 1048576 := w_i64 (by omega) (by omega);have wb : IntKind.i64.wrap (p.b + 1048576) = p.b + 1048576 := w_i64 (by omega) (by omega);have ua : IntKind.u64.wrap (p.a + 1048576) = p.a + 1048576 := by rw [w_u64]; omega
 have ub : IntKind.u64.wrap (p.b + 1048576) = p.b + 1048576 := by rw [w_u64]; omega
 have s1 := app_one (k := digs p.id 2) (by simp [digs_len]) 1;have s2 := app1 (l := 1 :: digs p.id 2) (k := digs (p.a + 1048576) 3) (by simp [digs_len]);have s3 := app1 (l := 1 :: digs p.id 2 ++ digs (p.a + 1048576) 3) (k := digs (p.b + 1048576) 3) (by simp [digs_len]);simp only [p0, p1, p2, p3, p4, EV, bs1, wi, wa, wb, ua, ub, decide_true, if_true, r2 i1 (show p.id < 9223372036854775808 by omega), r3 (show 0 ≤ p.a + 1048576 by omega) (show p.a + 1048576 < 9223372036854775808 by omega), r3 (show 0 ≤ p.b + 1048576 by omega) (show p.b + 1048576 < 9223372036854775808 by omega), B_len, sub_all, s1, s2, s3]
 simp only [ptB, List.cons_append, List.append_assoc]
theorem c33m {r : Rat} (h : r.good) : Ans D 33 [.agg (askM r)] [.sl (B (4 :: movB r))] := by
 refine ans_of k33_ok s33 rfl ⟨1, ?_⟩;obtain ⟨⟨n1, n2⟩, d1, d2⟩ := h;unfold k33;have p0 : RF.ev (.shape 7) [.agg (askM r)] = some (.agg (askM r)) := rfl;have p1 : RF.ev (.cell 0) [.agg (askM r)] = some (.v (.int .u8 4)) := rfl;have p2 : RF.ev (.cell 5) [.agg (askM r)] = some (.i64 r.num) := rfl;have p3 : RF.ev (.cell 6) [.agg (askM r)] = some (.i64 r.den) := rfl;have wa : IntKind.i64.wrap (r.num + 1073741824) = r.num + 1073741824 := w_i64 (by omega) (by omega);have ua : IntKind.u64.wrap (r.num + 1073741824) = r.num + 1073741824 := by rw [w_u64]; omega
 have ub : IntKind.u64.wrap r.den = r.den := by rw [w_u64]; omega
 have s1 := app_one (k := digs (r.num + 1073741824) 4) (by simp [digs_len]) 4;have s2 := app1 (l := 4 :: digs (r.num + 1073741824) 4) (k := digs r.den 2) (by simp [digs_len]);simp only [p0, p1, p2, p3, EV, bs1, wa, ua, ub, Int.reduceEq, decide_true, decide_false, Bool.false_eq_true, if_true, if_false, r4 (show 0 ≤ r.num + 1073741824 by omega) (show r.num + 1073741824 < 9223372036854775808 by omega), r2 d1 (show r.den < 9223372036854775808 by omega), B_len, sub_all, s1, s2]
 simp only [movB, List.cons_append]
theorem drop1 {a : Int} {k : List Int} : RF.ev .sub [.sl (B (a :: k)), .v (.int .i64 1), .v (.int .i64 (k.length : Int))] = some (.sl (B k)) := by
 rw [f_sub, if_pos ⟨by decide, by omega, by rw [B_len, List.length_cons]; omega⟩, Int.toNat_natCast];show some (PV.sl (((B (a :: k)).drop 1).take k.length)) = _
 rw [B_drop, B_take];simp
theorem agg_askP (p : Pt) : RF.ev .agg [.v (.int .u8 1), .agg p.row, .v (.int .i64 0), .v (.int .i64 0), .v (.int .i64 0)] = some (.agg (askP p)) := rfl
theorem agg_askM (r : Rat) : RF.ev .agg [.v (.int .u8 4), .v (.int .i64 0), .v (.int .i64 0), .v (.int .i64 0), .v (.int .i64 0), R r] = some (.agg (askM r)) := rfl
theorem part3 (p : Pt) : RF.ev (.part 0 3) [.agg p.row] = some (.agg p.row) := rfl
end Go.Proofs.Ythaokoopmhgfiaa
