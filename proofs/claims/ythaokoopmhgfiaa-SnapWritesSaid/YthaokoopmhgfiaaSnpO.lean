import Derived.Test.YthaokoopmhgfiaaSnpN
set_option linter.unusedVariables false
set_option linter.unusedSimpArgs false
set_option linter.defProp false
noncomputable section
namespace Go.Proofs.Ythaokoopmhgfiaa
open Go.Sym Go.Abu Go.Pev
set_option maxRecDepth 100000
theorem bytes_loop {V : FuncId → Bool} {N : Nat} {f : JT} {e0 e2 e3 e4 e5 e6 e7 e8 e9 e10 e11 e12 e13 e14 e15 e16 e17 e18 e19 e20 e21 : PV} {s : Snap} (hg : goodAll s.m.pts = true) (hl : s.m.pts.length ≤ 64) (m : Nat) : ∀ (n i : Nat) (b : List Int), i + m = s.m.pts.length → m < n → b.length + 8 * m ≤ 1000 →
  denW (PhiS D) V N k24_1 [f] [e0, .agg s.cells, e2, e3, e4, e5, e6, e7, e8, e9, e10, e11, e12, e13, e14, e15, e16, e17, e18, e19, e20, e21] n [.sl (B b), .i64 (b.length : Int), .i64 (i : Int)] =
   f [.sl (B (b ++ (s.m.pts.drop i).flatMap ptB)), .i64 ((b ++ (s.m.pts.drop i).flatMap ptB).length : Int)] := by
 have p3 : RF.ev (.cell 3) [.agg s.cells] = some (.sl (rows s.m.pts)) := rfl;induction m with
 | zero =>
  intro n i b h hn hb;obtain ⟨n, rfl⟩ : ∃ n', n = n' + 1 := ⟨n - 1, by omega⟩;rw [denW_succ];unfold k24_1;simp only [EV, p3, rows_len, decide_eq_true_eq];rw [if_neg (by omega), List.drop_eq_nil_of_le (by omega)];simp
 | succ m ih =>
  intro n i b h hn hb;obtain ⟨n, rfl⟩ : ∃ n', n = n' + 1 := ⟨n - 1, by omega⟩;obtain ⟨p, hp⟩ : ∃ p, s.m.pts[i]? = some p := ⟨s.m.pts[i]'(by omega), List.getElem?_eq_getElem _⟩;have hpok : p.ok = true := List.all_eq_true.1 hg p (List.mem_of_getElem? hp);have ih := ih n (i + 1) (b ++ ptB p) (by omega) (by omega) (by rw [List.length_append, ptB_len]; omega);rw [denW_succ];generalize hkk : k24_1 = kk at ih;subst hkk;unfold k24_1;have c1 := phi (c33p hpok);have l9 : (((1 : Int) :: ptB p).length : Int) = 9 := by rw [List.length_cons, ptB_len]; rfl
  have b1 : RF.ev .bnd [.v (.int .i64 1), .v (.int .i64 9)] = some (.i64 1) := rfl;have b2 : RF.ev .sum [.v (.int .i64 0), .v (.int .i64 1)] = some (.i64 1) := rfl;have b3 : RF.ev .dif [.v (.int .i64 9), .v (.int .i64 1)] = some (.i64 8) := rfl;have b4 : RF.ev .sub [.sl (B (1 :: ptB p)), .v (.int .i64 1), .v (.int .i64 8)] = some (.sl (B (ptB p))) := by
   have := drop1 (a := 1) (k := ptB p);rwa [ptB_len] at this
  have a1 := app1 (l := b) (k := ptB p) (by rw [ptB_len]; omega);simp only [p3, agg_askP, part3, den_lt, b1, b2, b3, b4, EV, rows_len, tix_ok hp, elt3 hp, c1, B_len, l9, a1, up1 (show i < 1000000 by omega), decide_eq_true_eq]
  rw [if_pos (by omega), drop_get hp, List.flatMap_cons, ← List.append_assoc];exact ih
theorem snap_good {s : Snap} (h : s.ok = true) : s.m.now.good := by
 obtain ⟨_, h2, h3, _⟩ := Snap.ok_in h;have := Rat.ok_den h2;exact ⟨by omega, by omega⟩
theorem c24 {s : Snap} (h : s.ok = true) : Ans D 24 [.agg s.cells] [.sl (B (imageB s))] := by
 refine ans_of k24_ok s24 rfl ⟨66, ?_⟩;obtain ⟨⟨t1, t2⟩, _, ⟨n1, n2⟩, hl, hg, _⟩ := Snap.ok_in h;unfold k24;have p0 : RF.ev (.shape 4) [.agg s.cells] = some (.agg s.cells) := rfl;have p1 : RF.ev (.cell 0) [.agg s.cells] = some (.v (.int .u8 s.tag)) := rfl;have p2 : RF.ev (.part 1 2) [.agg s.cells] = some (R s.m.now) := rfl;have p3 : RF.ev (.part 0 2) [R s.m.now] = some (R s.m.now) := rfl;have p4 : RF.ev (.cell 3) [.agg s.cells] = some (.sl (rows s.m.pts)) := rfl;have c1 := phi (c33m (snap_good h));have l7 : (((4 : Int) :: movB s.m.now).length : Int) = 7 := by rw [List.length_cons, movB_len]; rfl
 have b1 : RF.ev .bnd [.v (.int .i64 1), .v (.int .i64 7)] = some (.i64 1) := rfl;have b2 : RF.ev .sum [.v (.int .i64 0), .v (.int .i64 1)] = some (.i64 1) := rfl;have b3 : RF.ev .dif [.v (.int .i64 7), .v (.int .i64 1)] = some (.i64 6) := rfl;have b4 : RF.ev .sub [.sl (B (4 :: movB s.m.now)), .v (.int .i64 1), .v (.int .i64 6)] = some (.sl (B (movB s.m.now))) := by
  have := drop1 (a := 4) (k := movB s.m.now);rwa [movB_len] at this
 have a1 : RF.ev (.app 1 1) [.sl (B [80, 75, s.tag]), .v (.int .i64 3), .sl (B (movB s.m.now))] = some (.sl (B ([80, 75, s.tag] ++ movB s.m.now))) := app1 (l := [80, 75, s.tag]) (k := movB s.m.now) (by simp [movB_len]);have a2 := app1 (l := [80, 75, s.tag] ++ movB s.m.now) (k := [(s.m.pts.length : Int) % 256]) (by simp [movB_len]);simp only [p0, p1, p2, p3, p4, agg_askM, b1, b2, b3, b4, EV, bs3, c1, B_len, l7, a1, rows_len, w_u8, bs1, sub1, a2];refine (bytes_loop hg hl s.m.pts.length 66 0 _ (by omega) (by omega) (by simp [movB_len]; omega)).trans ?_;rw [List.drop_zero];unfold k24_2;simp only [EV, sub_all];unfold imageB headB movB;simp only [List.append_assoc, List.cons_append, List.nil_append]
theorem c12 {s : Snap} (h : s.in64) : Ans D 12 [.agg s.cells] (if s.ok then [.sl (B (imageB s)), .i64 0] else [.sl [], .i64 8]) := by
 refine ans_of k12_ok s12 rfl ⟨1, ?_⟩;have h1 := phi (c9 h);unfold k12;have p0 : RF.ev (.shape 4) [.agg s.cells] = some (.agg s.cells) := rfl;cases hok : s.ok with
 | false =>
  rw [hok] at h1;have n0 : okE false = 8 := rfl;rw [n0] at h1;simp only [p0, h1, EV];rfl
 | true =>
  rw [hok] at h1;have n0 : okE true = 0 := rfl;rw [n0] at h1;simp only [p0, h1, EV, phi (c24 hok), decide_true, Bool.not_true, Bool.false_eq_true, if_false, if_true]
end Go.Proofs.Ythaokoopmhgfiaa
