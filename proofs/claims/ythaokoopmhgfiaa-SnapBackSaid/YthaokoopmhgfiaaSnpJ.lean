import Derived.Test.YthaokoopmhgfiaaSnpI
set_option linter.unusedVariables false
set_option linter.unusedSimpArgs false
set_option linter.defProp false
noncomputable section
namespace Go.Proofs.Ythaokoopmhgfiaa
open Go.Sym Go.Abu Go.Pev
set_option maxRecDepth 100000
def ptOf (c : List Int) : Pt := ⟨val (c.take 2) 0, val ((c.drop 2).take 3) 0 - 1048576, val (((c.drop 2).drop 3).take 3) 0 - 1048576⟩
def ptsFrom (l : List Int) : Nat → Nat → List Pt
 | _, 0 => []
 | i, m + 1 => ptOf ((l.drop (8 * i)).take 8) :: ptsFrom l (i + 1) m
theorem agg3 (a b c : Int) : RF.ev .agg [.i64 a, .i64 b, .i64 c] = some (.agg [.i64 a, .i64 b, .i64 c]) := rfl
theorem bsP (a b c : Int) : RF.ev (.bs 1 [(.v (.int .i64 0)), (.v (.int .i64 0)), (.v (.int .i64 0))] [0]) [.agg [.i64 a, .i64 b, .i64 c]] = some (.sl (rows [⟨a, b, c⟩])) := rfl
theorem subP (p : Pt) : RF.ev .sub [.sl (rows [p]), .v (.int .i64 0), .v (.int .i64 1)] = some (.sl (rows [p])) := rfl
theorem appP {l k : List Pt} (h : l.length + k.length ≤ 1000) : RF.ev (.app 24 3) [.sl (rows l), .i64 (l.length : Int), .sl (rows k)] = some (.sl (rows (l ++ k))) := by
 rw [f_app, if_pos]
 ·rw [Int.toNat_natCast, List.take_of_length_le (by simp [rows])];simp [rows]
 ·rw [rows_len, rows_len, Int.toNat_natCast];refine ⟨by omega, by omega, by omega, ?_⟩;cases k <;> rfl
theorem subAllP (l : List Pt) : RF.ev .sub [.sl (rows l), .v (.int .i64 0), .v (.int .i64 (l.length : Int))] = some (.sl (rows l)) := by
 rw [f_sub, if_pos ⟨by omega, by omega, by rw [rows_len]; omega⟩, Int.toNat_natCast];simp only [Int.toNat_zero, List.drop_zero];rw [List.take_of_length_le (by simp [rows])]
theorem mm8 (y : Int) : RF.ev (.mm false) [.i64 8, .i64 y] = some (.i64 (min 8 y)) := rfl
theorem tsub3B {l : List Int} {a b : Nat} (h : a ≤ b) (k : b ≤ l.length) (hne : l ≠ []) : RF.ev (.tsub3 1) [.sl (B l), .v (.int .i64 (a : Int)), .v (.int .i64 (b : Int)), .v (.int .i64 (b : Int))] = some (.sl (B ((l.drop a).take (b - a)))) := by
 rw [f_tsub3, if_pos ⟨by omega, by omega, by omega, by rw [B_len]; omega, by cases l <;> simp_all [B], B_elsok l, by decide⟩, Int.toNat_natCast, Int.toNat_natCast, B_drop, B_take]
theorem n2 {l : List Int} (hl : 2 ≤ l.length) (hb : Bytes l) : PhiS D 25 [.sl (B l), .i64 2] = some [.i64 (val (l.take 2) 0), .sl (B (l.drop 2))] := phi (c25 (w := 2) (by omega) hl hb)
theorem n3 {l : List Int} (hl : 3 ≤ l.length) (hb : Bytes l) : PhiS D 25 [.sl (B l), .i64 3] = some [.i64 (val (l.take 3) 0), .sl (B (l.drop 3))] := phi (c25 (w := 3) (by omega) hl hb)
theorem n4 {l : List Int} (hl : 4 ≤ l.length) (hb : Bytes l) : PhiS D 25 [.sl (B l), .i64 4] = some [.i64 (val (l.take 4) 0), .sl (B (l.drop 4))] := phi (c25 (w := 4) (by omega) hl hb)
theorem Bytes.take {l : List Int} (h : Bytes l) (n : Nat) : Bytes (l.take n) := fun d hd => h d (List.mem_of_mem_take hd)
theorem Bytes.drop {l : List Int} (h : Bytes l) (n : Nat) : Bytes (l.drop n) := fun d hd => h d (List.mem_of_mem_drop hd)
theorem val2 {l : List Int} (h : Bytes l) : 0 ≤ val (l.take 2) 0 ∧ val (l.take 2) 0 < 65536 := by
 have := val_bound (l.take 2) 0 (h.take 2) (by decide);have e := pow_mono (l.take 2).length 2 (by rw [List.length_take]; omega);have : (256 : Int) ^ 2 = 65536 := by decide
 omega
theorem val3 {l : List Int} (h : Bytes l) : 0 ≤ val (l.take 3) 0 ∧ val (l.take 3) 0 < 16777216 := by
 have := val_bound (l.take 3) 0 (h.take 3) (by decide);have e := pow_mono (l.take 3).length 3 (by rw [List.length_take]; omega);have : (256 : Int) ^ 3 = 16777216 := by decide
 omega
theorem val4 {l : List Int} (h : Bytes l) : 0 ≤ val (l.take 4) 0 ∧ val (l.take 4) 0 < 4294967296 := by
 have := val_bound (l.take 4) 0 (h.take 4) (by decide);have e := pow_mono (l.take 4).length 4 (by rw [List.length_take]; omega);have : (256 : Int) ^ 4 = 4294967296 := by decide
 omega
theorem read_loop {V : FuncId → Bool} {N : Nat} {f0 f1 : JT} {e0 e1 e2 e3 e4 e5 e6 e7 e8 e9 e10 e11 e12 e13 e14 e15 e16 e17 e18 e19 e20 e21 e22 e23 e24 e25 e26 e27 e28 e29 e31 : PV} {l : List Int} {k : Nat} (hl : l.length = 8 * k) (hk : k ≤ 64) (hb : Bytes l) (m : Nat) : ∀ (n i : Nat) (acc : List Pt), i + m = k → m < n → acc.length + m ≤ 100 →
  denW (PhiS D) V N k13_1 [f0, f1] [e0, e1, e2, e3, e4, e5, e6, e7, e8, e9, e10, e11, e12, e13, e14, e15, e16, e17, e18, e19, e20, e21, e22, e23, e24, e25, e26, e27, e28, e29, .sl (B l), e31] n [.i64 ((8 * i : Nat) : Int), .sl (rows acc), .i64 (acc.length : Int)] =
   f1 [.sl (rows (acc ++ ptsFrom l i m)), .i64 ((acc ++ ptsFrom l i m).length : Int)] := by
 induction m with
 | zero =>
  intro n i acc h hn ha;obtain ⟨n, rfl⟩ : ∃ n', n = n' + 1 := ⟨n - 1, by omega⟩;rw [denW_succ];unfold k13_1;simp only [EV, B_len, decide_eq_true_eq];rw [if_neg (by omega)];simp only [ptsFrom, List.append_nil]
 | succ m ih =>
  intro n i acc h hn ha;obtain ⟨n, rfl⟩ : ∃ n', n = n' + 1 := ⟨n - 1, by omega⟩;have hc : Bytes ((l.drop (8 * i)).take 8) := (hb.drop _).take _;have hcl : ((l.drop (8 * i)).take 8).length = 8 := by rw [List.length_take, List.length_drop]; omega
  have ih := ih n (i + 1) (acc ++ [ptOf ((l.drop (8 * i)).take 8)]) (by omega) (by omega) (by simp; omega);rw [denW_succ];generalize hkk : k13_1 = kk at ih;subst hkk;unfold k13_1;have e1 : RF.ev .bnd [.v (.int .i64 ((8 * i : Nat) : Int)), .v (.int .i64 (l.length : Int))] = some (.i64 ((8 * i : Nat) : Int)) := bnd_ok (by omega);have e2 : RF.ev (.tsub 1) [.sl (B l), .v (.int .i64 ((8 * i : Nat) : Int)), .v (.int .i64 (l.length : Int))] = some (.sl (B (l.drop (8 * i)))) := (btsub (by omega) (Nat.le_refl _)).trans (by rw [List.take_of_length_le (by simp)]);have e3 : min 8 ((l.drop (8 * i)).length : Int) = 8 := by rw [List.length_drop]; omega
  have e4 : IntKind.i64.wrap (((8 * i : Nat) : Int) + 8) = ((8 * (i + 1) : Nat) : Int) := by rw [w_i64 (by omega) (by omega)]; omega
  have e5 : RF.ev (.tsub3 1) [.sl (B l), .v (.int .i64 ((8 * i : Nat) : Int)), .v (.int .i64 ((8 * (i + 1) : Nat) : Int)), .v (.int .i64 ((8 * (i + 1) : Nat) : Int))] = some (.sl (B ((l.drop (8 * i)).take 8))) :=
   (tsub3B (by omega) (by omega) (by intro h; rw [h] at hl; simp at hl; omega)).trans (by rw [show 8 * (i + 1) - 8 * i = 8 by omega])
  have c1 := n2 (l := (l.drop (8 * i)).take 8) (by omega) hc;have c2 := n3 (l := ((l.drop (8 * i)).take 8).drop 2) (by rw [List.length_drop]; omega) (hc.drop 2);have c3 := n3 (l := (((l.drop (8 * i)).take 8).drop 2).drop 3) (by rw [List.length_drop, List.length_drop]; omega) ((hc.drop 2).drop 3);have v2 := val3 (hc.drop 2);have v3 := val3 ((hc.drop 2).drop 3);have w2 : IntKind.i64.wrap (val ((((l.drop (8 * i)).take 8).drop 2).take 3) 0 - 1048576) = (ptOf ((l.drop (8 * i)).take 8)).a := w_i64 (by omega) (by omega);have w3 : IntKind.i64.wrap (val (((((l.drop (8 * i)).take 8).drop 2).drop 3).take 3) 0 - 1048576) = (ptOf ((l.drop (8 * i)).take 8)).b := w_i64 (by omega) (by omega);have q1 : RF.ev .agg [.i64 (val (((l.drop (8 * i)).take 8).take 2) 0), .i64 (ptOf ((l.drop (8 * i)).take 8)).a, .i64 (ptOf ((l.drop (8 * i)).take 8)).b] = some (.agg (ptOf ((l.drop (8 * i)).take 8)).row) := rfl;have q2 : ∀ p : Pt, RF.ev (.bs 1 [(.v (.int .i64 0)), (.v (.int .i64 0)), (.v (.int .i64 0))] [0]) [.agg p.row] = some (.sl (rows [p])) := fun _ => rfl;have q3 := appP (l := acc) (k := [ptOf ((l.drop (8 * i)).take 8)]) (by simp; omega);simp only [EV, B_len, decide_eq_true_eq, if_pos (show ((8 * i : Nat) : Int) < (l.length : Int) by omega), e1, e2, mm8, e3, e4, e5, c1, c2, c3, w2, w3, q1, q2, q3, subP, rows_len, Bool.not_true, Bool.false_eq_true, if_false]
  simp only [ptsFrom];rw [show acc ++ ptOf ((l.drop (8 * i)).take 8) :: ptsFrom l (i + 1) m = (acc ++ [ptOf ((l.drop (8 * i)).take 8)]) ++ ptsFrom l (i + 1) m by simp]
  exact ih
end Go.Proofs.Ythaokoopmhgfiaa
