import Derived.Test.YthaokoopmhgfiaaSnpC
set_option linter.unusedVariables false
set_option linter.unusedSimpArgs false
set_option linter.defProp false
noncomputable section
namespace Go.Proofs.Ythaokoopmhgfiaa
open Go.Sym Go.Abu Go.Pev
set_option maxRecDepth 100000
def ptB (p : Pt) : List Int := digs p.id 2 ++ (digs (p.a + 1048576) 3 ++ digs (p.b + 1048576) 3)
theorem ptB_len (p : Pt) : (ptB p).length = 8 := by simp [ptB, digs_len]
def headB (s : Snap) : List Int := [80, 75, s.tag] ++ (digs (s.m.now.num + 1073741824) 4 ++ (digs s.m.now.den 2 ++ [(s.m.pts.length : Int) % 256]))
theorem headB_len (s : Snap) : (headB s).length = 10 := by simp [headB, digs_len]
def imageB (s : Snap) : List Int := headB s ++ s.m.pts.flatMap ptB
theorem d2 {l : List Int} (x : Int) (hl : l.length ≤ 1000) : PhiS D 20 [.sl (B l), .i64 x, .i64 2] = some [.sl (B (l ++ digs x 2))] := phi (c20 (w := 2) (by omega) hl)
theorem d3 {l : List Int} (x : Int) (hl : l.length ≤ 1000) : PhiS D 20 [.sl (B l), .i64 x, .i64 3] = some [.sl (B (l ++ digs x 3))] := phi (c20 (w := 3) (by omega) hl)
theorem d4 {l : List Int} (x : Int) (hl : l.length ≤ 1000) : PhiS D 20 [.sl (B l), .i64 x, .i64 4] = some [.sl (B (l ++ digs x 4))] := phi (c20 (w := 4) (by omega) hl)
theorem Pt.ok_in {p : Pt} (h : p.ok = true) : (0 ≤ p.id ∧ p.id ≤ 65535) ∧ (-1048576 ≤ p.a ∧ p.a ≤ 1048576) ∧ (-1048576 ≤ p.b ∧ p.b ≤ 1048576) := by
 unfold Pt.ok near at h;simp only [Bool.and_eq_true, decide_eq_true_eq] at h;omega
theorem flat8 : ∀ (l : List Pt), (l.flatMap ptB).length = 8 * l.length
 | [] => rfl
 | p :: l => by rw [List.flatMap_cons, List.length_append, flat8 l, ptB_len, List.length_cons]; omega
theorem write_loop {V : FuncId → Bool} {N : Nat} {f : JT} {e0 e2 e3 e4 e5 e6 e7 e8 e9 e10 e11 e12 e13 e14 e15 e16 e17 e18 e19 e20 e21 e22 : PV} {s : Snap} (hg : goodAll s.m.pts = true) (hl : s.m.pts.length ≤ 64) : ∀ (m n i : Nat) (b : List Int), i + m = s.m.pts.length → m < n → b.length + 8 * m ≤ 1000 →
  denW (PhiS D) V N k8_1 [f] [e0, .agg s.cells, e2, e3, e4, e5, e6, e7, e8, e9, e10, e11, e12, e13, e14, e15, e16, e17, e18, e19, e20, e21, e22, .i64 (s.m.pts.length : Int)] n [.sl (B b), .i64 (b.length : Int), .i64 (i : Int)] =
   f [.sl (B (b ++ (s.m.pts.drop i).flatMap ptB)), .i64 ((b ++ (s.m.pts.drop i).flatMap ptB).length : Int)]
 | m, 0, i, b, h, hn, _ => by omega
 | 0, n + 1, i, b, h, hn, _ => by
  rw [denW_succ];unfold k8_1;simp only [EV, decide_eq_true_eq];rw [if_neg (by omega), List.drop_eq_nil_of_le (by omega)];simp
 | m + 1, n + 1, i, b, h, hn, hb => by
  obtain ⟨p, hp⟩ : ∃ p, s.m.pts[i]? = some p := ⟨s.m.pts[i]'(by omega), List.getElem?_eq_getElem _⟩;have hpok : p.ok = true := List.all_eq_true.1 hg p (List.mem_of_getElem? hp);obtain ⟨⟨i1, i2⟩, ⟨a1, a2⟩, b1, b2⟩ := Pt.ok_in hpok;have ih := write_loop (V := V) (N := N) (f := f) (e0 := e0) (e2 := e2) (e3 := e3) (e4 := e4) (e5 := e5) (e6 := e6) (e7 := e7) (e8 := e8) (e9 := e9) (e10 := e10) (e11 := e11) (e12 := e12) (e13 := e13) (e14 := e14) (e15 := e15) (e16 := e16) (e17 := e17) (e18 := e18) (e19 := e19) (e20 := e20) (e21 := e21) (e22 := e22) hg hl m n (i + 1) (b ++ ptB p) (by omega) (by omega) (by rw [List.length_append, ptB_len]; omega);rw [denW_succ];generalize hk : k8_1 = kk at ih;subst hk;unfold k8_1;have p3 : RF.ev (.cell 3) [.agg s.cells] = some (.sl (rows s.m.pts)) := rfl;have q0 : RF.ev (.cell 0) [.agg p.row] = some (.i64 p.id) := rfl;have q1 : RF.ev (.cell 1) [.agg p.row] = some (.i64 p.a) := rfl;have q2 : RF.ev (.cell 2) [.agg p.row] = some (.i64 p.b) := rfl;have wa : IntKind.i64.wrap (p.a + 1048576) = p.a + 1048576 := w_i64 (by omega) (by omega);have wb : IntKind.i64.wrap (p.b + 1048576) = p.b + 1048576 := w_i64 (by omega) (by omega);have c1 := d2 (l := b) (p.id) (by omega);have c2 := d3 (l := b ++ digs p.id 2) (p.a + 1048576) (by simp [digs_len]; omega);have c3 := d3 (l := b ++ digs p.id 2 ++ digs (p.a + 1048576) 3) (p.b + 1048576) (by simp [digs_len]; omega);simp only [p3, q0, q1, q2, tix_ok hp, elt3 hp, EV, B_len, sub_all, wa, wb, c1, c2, c3, up1 (show i < 1000000 by omega), decide_eq_true_eq]
  rw [if_pos (by omega), drop_get hp, List.flatMap_cons];have e : b ++ digs p.id 2 ++ digs (p.a + 1048576) 3 ++ digs (p.b + 1048576) 3 = b ++ ptB p := by simp only [ptB, List.append_assoc]
  rw [e, ← List.append_assoc];exact ih
theorem Snap.ok_in {s : Snap} (h : s.ok = true) : (1 ≤ s.tag ∧ s.tag ≤ 4) ∧ s.m.now.ok = true ∧ (s.m.now.num.natAbs ≤ 1073741824 ∧ s.m.now.den ≤ 1024) ∧ s.m.pts.length ≤ 64 ∧ goodAll s.m.pts = true ∧ risen s.m.pts = true := by
 unfold Snap.ok Mod.ok at h;simp only [Bool.and_eq_true, decide_eq_true_eq] at h;obtain ⟨⟨h1, h2⟩, h3, h4⟩ := h;have k1 : s.m.now.ok = true ∧ s.m.now.small = true := by
  unfold Rat.asked at h3;cases hk : s.m.now.ok <;> rw [hk] at h3
  ·simp at h3
  ·cases hq : s.m.now.small <;> rw [hq] at h3
   ·simp at h3
   ·exact ⟨rfl, rfl⟩
 have k2 := k1.2;unfold Rat.small at k2;simp only [Bool.and_eq_true, decide_eq_true_eq] at k2;unfold fieldE at h4;split at h4
 ·cases h4
 ·rename_i hl;split at h4
  ·rename_i hg;split at h4
   ·rename_i hr;exact ⟨⟨h1, h2⟩, k1.1, k2, by omega, hg, hr⟩
   ·cases h4
  ·cases h4
theorem c8 {s : Snap} (h : s.in64) : Ans D 8 [.agg s.cells] (if s.ok then [.sl (B (imageB s)), .i64 0] else [.sl [], .i64 8]) := by
 refine ans_of k8_ok s8 rfl ⟨65, ?_⟩;have h1 := phi (c17 h);unfold k8;have p0 : RF.ev (.shape 4) [.agg s.cells] = some (.agg s.cells) := rfl;have p1 : RF.ev (.cell 0) [.agg s.cells] = some (.v (.int .u8 s.tag)) := rfl;have p2 : RF.ev (.cell 1) [.agg s.cells] = some (.i64 s.m.now.num) := rfl;have p3 : RF.ev (.cell 2) [.agg s.cells] = some (.i64 s.m.now.den) := rfl;have p4 : RF.ev (.cell 3) [.agg s.cells] = some (.sl (rows s.m.pts)) := rfl;cases hok : s.ok with
 | false =>
  rw [hok] at h1;have n0 : okE false = 8 := rfl;rw [n0] at h1;simp only [p0, h1, EV];rfl
 | true =>
  obtain ⟨⟨t1, t2⟩, _, ⟨n1, n2⟩, hl, hg, _⟩ := Snap.ok_in hok;rw [hok] at h1;have n0 : okE true = 0 := rfl;rw [n0] at h1;have wn : IntKind.i64.wrap (s.m.now.num + 1073741824) = s.m.now.num + 1073741824 := w_i64 (by omega) (by omega);have c1 := d4 (l := [80, 75, s.tag]) (s.m.now.num + 1073741824) (by simp);have c2 := d2 (l := [80, 75, s.tag] ++ digs (s.m.now.num + 1073741824) 4) (s.m.now.den) (by simp [digs_len]);have a1 := app1 (l := [80, 75, s.tag] ++ digs (s.m.now.num + 1073741824) 4 ++ digs s.m.now.den 2) (k := [(s.m.pts.length : Int) % 256]) (by simp [digs_len]);have hc : ∀ v e, denB (PhiS D) (VS D) 65 (some (.v (.bool (!decide ((0 : Int) = 0))))) v e = den (PhiS D) (VS D) 65 e := fun v e => by funext J x; rfl
  simp only [p0, p1, p2, p3, p4, h1, EV, hc, bs3, sub3, wn, c1, c2, B_len, sub_all, rows_len, w_u8, bs1, sub1, a1, Bool.not_eq_true', decide_eq_false_iff_not];rw [if_neg (by simp)];refine (write_loop hg hl s.m.pts.length 65 0 _ (by omega) (by omega) (by simp [digs_len]; omega)).trans ?_;rw [List.drop_zero];unfold k8_2;simp only [EV, sub_all, if_true];unfold imageB headB;simp only [List.append_assoc, List.cons_append, List.nil_append]
end Go.Proofs.Ythaokoopmhgfiaa
