import Derived.Test.YtfghdmmapmdcgaaGreatCY
set_option linter.unusedVariables false
set_option linter.unusedSimpArgs false
set_option linter.defProp false
noncomputable section
namespace Go.Proofs.YtfghdmmapmdcgaaGreat
open Go.Sym Bnd
set_option maxRecDepth 100000
theorem top_loop {l : List Pt} {t : Rt} (h : okF l) (ht : In64 t) {N : Nat} {f0 : JT} {e0 e1 e2 : PV} {b : Nat} (hb : b ≤ l.length) : ∀ (m i : Nat) (best : Option Nat) (n : Nat), i + m = b → m < n → (∀ k, best = some k → k < i) →
  denW (PhiS D) (N + 1) k397_4 [f0] [e0, e1, e2, .i64 (b : Int), F l, R t] n [.i64 (lk best), .i64 (i : Int)] = f0 [.i64 (lk (topFrom (ldF t l) m i best))]
 | 0, i, best, n, hi, hn, _ => by
  obtain ⟨n, rfl⟩ : ∃ n', n = n' + 1 := ⟨n - 1, by omega⟩;rw [denW_succ];unfold k397_4 topFrom;simp only [EV, decide_eq_true_eq];rw [if_neg (by omega)]
 | m + 1, i, best, n, hi, hn, hbest => by
  obtain ⟨n, rfl⟩ : ∃ n', n = n' + 1 := ⟨n - 1, by omega⟩;have hl := h.1;obtain ⟨p, hp⟩ : ∃ p, l[i]? = some p := ⟨l[i]'(by omega), List.getElem?_eq_getElem _⟩;have ih := fun best' hb' => top_loop h ht (N := N) (f0 := f0) (e0 := e0) (e1 := e1) (e2 := e2) hb m (i + 1) best' n (by omega) (by omega) hb';rw [denW_succ];generalize hkk : k397_4 = kk at ih;subst hkk;unfold k397_4 topFrom;have u1 := up1 (show i < 1000000000 by omega)
  simp only [EV, decide_eq_true_eq];rw [if_pos (by omega)];cases best with
  | none =>
   have ih := ih (some i) (fun k hk => by simp only [Option.some.injEq] at hk; omega);simp only [lk] at ih;simp only [lk, EV, show decide ((-1 : Int) < 0) = true from rfl, if_true, k397_3, k397_2, u1]
   exact ih
  | some q =>
   have hq : q < i := hbest q rfl;obtain ⟨r, hr⟩ : ∃ r, l[q]? = some r := ⟨l[q]'(by omega), List.getElem?_eq_getElem _⟩;have g0 : decide ((q : Int) < 0) = false := decide_eq_false (by omega);simp only [lk, EV, g0, Bool.false_eq_true, if_false, den_lt, cellF, tixM hp (row_len _), eltM hp, tixM hr (row_len _), eltM hr, rowP, phi (c323 (okF_pt h hp) (okF_pt h hr) ht), ← ldF_get hp hr, k397_3];cases hL : ldF t l i q with
   | true =>
    have ih := ih (some i) (fun k hk => by simp only [Option.some.injEq] at hk; omega);simp only [lk] at ih;simp only [if_true, EV, k397_2, u1];exact ih
   | false =>
    have ih := ih (some q) (fun k hk => by simp only [Option.some.injEq] at hk; omega);simp only [lk] at ih;simp only [Bool.false_eq_true, if_false, EV, k397_2, u1];exact ih
theorem c397 {l : List Pt} {t : Rt} (h : okF l) (ht : In64 t) {a b : Nat} (hab : a ≤ b) (hb : b ≤ l.length) : Ans D 397 [F l, R t, .i64 (a : Int), .i64 (b : Int)] [.i64 (lk (topOf (ldF t l) a b))] := by
 have hl := h.1;refine ans_of k397_ok s397 rfl ⟨1001, ?_⟩;unfold k397;simp only [den_lt, shapeF, shapeR, EV];refine (top_loop h ht (N := 1000) hb (b - a) a none 1001 (by omega) (by omega) (by simp)).trans ?_;unfold k397_1;simp only [EV];rfl
theorem setNl {l : List Nod} {i : Nat} {n : Nod} (h : l[i]? = some n) (r : Int) : RF.ev (.set 1) [sl nrow l, .v (.int .i64 (i : Int)), .v (.int .i64 r)] = some (sl nrow (l.set i ⟨n.id, r, n.right⟩)) := by
 rw [f_set, if_pos (by omega), Int.toNat_natCast, List.getElem?_map, h];simp only [Option.map_some, show (PV.v (.int .i64 r)).cells = [.v (.int .i64 r)] from rfl, List.length_singleton, show (nrow n).length = 3 from rfl, Nat.reduceAdd, Nat.reduceLeDiff, if_true]
 exact congrArg (fun x => some (PV.sl x)) (List.map_set (f := nrow) (l := l) (i := i) (a := ⟨n.id, r, n.right⟩)).symm
theorem mkN_setL {l : List Pt} {lk : List (Int × Int)} {e : Nat} {p : Pt} {x : Int × Int} {r : Int} (hp : l[e]? = some p) (hx : lk[e]? = some x) : (mkN l lk).set e ⟨p.id, r, x.2⟩ = mkN l (lk.modify e fun x => (r, x.2)) := by
 refine List.ext_getElem? fun k => ?_;have hlen : (lk.modify e fun x => (r, x.2)).length = lk.length := List.length_modify ..;by_cases hk : k < l.length ∧ k < lk.length
 ·have h1 := List.getElem?_eq_getElem hk.1;have h2 := List.getElem?_eq_getElem hk.2;by_cases e' : k = e
  ·subst e';rw [List.getElem?_set_self (by simp [mkN, List.length_zip]; omega)];rw [mkN_get hp (x := (r, x.2)) (by rw [List.getElem?_modify_eq, hx]; rfl)]
  ·rw [List.getElem?_set_ne (by omega), mkN_get h1 h2, mkN_get h1 (x := lk[k]) (by rw [List.getElem?_modify_ne _ _ (by omega)]; exact h2)]
 ·rw [List.getElem?_eq_none (by simp [mkN, List.length_zip]; omega), List.getElem?_eq_none (by simp [mkN, List.length_zip]; omega)]
theorem grow_len {ld : Nat → Nat → Bool} : ∀ (f a b : Nat) (l : List (Int × Int)), (grow ld f a b l).1.length = l.length
 | 0, _, _, _ => rfl
 | f + 1, a, b, l => by
  unfold grow;split
  ·rfl
  ·simp only [List.length_modify, grow_len f]
theorem grow_none {ld : Nat → Nat → Bool} {f a b : Nat} {l : List (Int × Int)} (e : topOf ld a b = none) : grow ld (f + 1) a b l = (l, -1) := by
 rw [grow]; simp only [e]
theorem grow_some {ld : Nat → Nat → Bool} {f a b i : Nat} {l rl s : List (Int × Int)} {rr sr : Int} (e : topOf ld a b = some i) (h1 : grow ld f a i l = (rl, rr)) (h2 : grow ld f (i + 1) b (rl.modify i fun x => (rr, x.2)) = (s, sr)) : grow ld (f + 1) a b l = (s.modify i fun x => (x.1, sr), (i : Int)) := by
 rw [grow]; simp only [e, h1, h2]
theorem lenF (l : List Nod) : RF.ev .len [sl nrow l] = some (.i64 (l.length : Int)) := by
 rw [f_len, List.length_map]
def T0 : PV := TR ⟨0, []⟩
theorem cT0 : RF.ev (.cell 0) [T0] = some (.i64 0) := rfl
theorem shT0 : RF.ev (.shape 2) [T0] = some T0 := rfl
theorem agT0 : RF.ev .agg [.v (.int .i64 0), .sl []] = some T0 := rfl
theorem c350 {l : List Pt} {t : Rt} (h : okF l) (ht : In64 t) : ∀ (f a b : Nat) (ks : List (Int × Int)), b - a < f → a ≤ b → b ≤ l.length → ks.length = l.length →
  Ans D 350 [F l, R t, T0, .i64 (a : Int), .i64 (b : Int), sl nrow (mkN l ks)] [.i64 (grow (ldF t l) f a b ks).2, sl nrow (mkN l (grow (ldF t l) f a b ks).1)]
 | 0, a, b, ks, hf, _, _, _ => by omega
 | f + 1, a, b, ks, hf, hab, hb, hk => by
  have hl := h.1;have ht1 := topOf_ok (ldF_lin (t := t) h.2.2) hb hab;refine ans_of k350_ok s350 rfl ⟨1, ?_⟩;unfold k350;simp only [den_lt, shT0, shapeF, shapeR, EV, List.length_map, phi (c397 h ht hab hb), mkN_len l ks (by omega), hk];cases e : topOf (ldF t l) a b with
  | none =>
   rw [grow_none e];simp only [lk, EV, k350_1, decide_eq_true_eq];rw [if_neg (by decide)]
  | some i =>
   rw [e] at ht1;rcases ht1 with ⟨_, t1⟩ | ⟨k, t1, t2⟩
   ·simp [lk] at t1
   have hik : i = k := by simp only [lk] at t1; omega
   subst hik;obtain ⟨t3, t4, _⟩ := t2;have u1 := up1 (show i < 1000000000 by omega)
   have hgl := grow_len (ld := ldF t l) f a i ks;have p1 := phi (c350 h ht f a i ks (by omega) t3 (by omega) hk);generalize hg1 : grow (ldF t l) f a i ks = r at hgl p1;obtain ⟨rl, rr⟩ := r;simp only at hgl p1;obtain ⟨p, hp⟩ : ∃ p, l[i]? = some p := ⟨l[i]'(by omega), List.getElem?_eq_getElem _⟩;obtain ⟨x, hx⟩ : ∃ x, rl[i]? = some x := ⟨rl[i]'(by omega), List.getElem?_eq_getElem _⟩;have s1 := setNl (mkN_get hp hx) rr;simp only at s1;rw [mkN_setL hp hx] at s1;have hgl1 : (rl.modify i fun x => (rr, x.2)).length = l.length := by rw [List.length_modify]; omega
   have p2 := phi (c350 h ht f (i + 1) b _ (by omega) (by omega) hb hgl1);have hgl2 := grow_len (ld := ldF t l) f (i + 1) b (rl.modify i fun x => (rr, x.2));simp only [lk, decide_eq_true_eq, if_pos (show (0 : Int) ≤ (i : Int) by omega), EV, den_lt, cT0, agT0, p1, ixM (show i < l.length by omega), s1, u1, p2]
   generalize hg2 : grow (ldF t l) f (i + 1) b (rl.modify i fun x => (rr, x.2)) = s at hgl2 p2;obtain ⟨sl', sr⟩ := s;simp only at hgl2;obtain ⟨y, hy⟩ : ∃ y, sl'[i]? = some y := ⟨sl'[i]'(by omega), List.getElem?_eq_getElem _⟩;have s2 := setNd (mkN_get hp hy) sr;simp only at s2;rw [mkN_set hp hy] at s2;rw [grow_some e hg1 hg2];simp only [s2, k350_1, EV];exact if_pos (decide_eq_true (by omega))
theorem zeros_app {l : List Pt} {i : Nat} {p : Pt} (hp : l[i]? = some p) : mkN l (List.replicate i (0, 0)) ++ [⟨p.id, 0, 0⟩] = mkN l (List.replicate (i + 1) (0, 0)) := by
 rw [List.replicate_succ'];exact mkN_app (x := (0, 0)) (by rw [List.length_replicate]; exact hp)
theorem c268 {l : List Pt} {t : Rt} (h : okF l) (ht : In64 t) : Ans D 268 [F l, R t] [TR (cart t l)] := by
 have hl := h.1;refine ans_of k268_ok s268 rfl ⟨1001, ?_⟩;unfold k268;simp only [den_lt, shapeF, shapeR, EV];have e0 : ([PV.sl [], .v (.int .i64 0), .v (.int .i64 0)] : List PV) = [sl nrow (mkN l (List.replicate 0 (0, 0))), .i64 ((0 : Nat) : Int), .i64 ((0 : Nat) : Int)] := by simp [mkN]
 rw [e0];refine (run_up (m := 1001) (n := l.length) (st := fun i => [sl nrow (mkN l (List.replicate i (0, 0))), .i64 (i : Int), .i64 (i : Int)]) (fin := some [TR (cart t l)]) (fun i self hi => ?_) (fun self => ?_) (by omega))
 ·obtain ⟨p, hp⟩ : ∃ p, l[i]? = some p := ⟨l[i], List.getElem?_eq_getElem _⟩;have ap : RF.ev (.app 24 3) [sl nrow (mkN l (List.replicate i (0, 0))), .v (.int .i64 (i : Int)), sl nrow [⟨p.id, 0, 0⟩]] = some (sl nrow (mkN l (List.replicate (i + 1) (0, 0)))) := by
   have := appM (f := nrow) (l := mkN l (List.replicate i (0, 0))) (k := [⟨p.id, 0, 0⟩]) (bytes := 24) (z := 3) (by rw [mkN_len _ _ (by rw [List.length_replicate]; omega), List.length_replicate]; simp; omega) lenN;rw [mkN_len _ _ (by rw [List.length_replicate]; omega), List.length_replicate] at this;rw [this, zeros_app hp]
  unfold k268_2;simp only [den_lt, cellF, EV, List.length_map, decide_eq_true_eq, if_lt hi, tixM hp (row_len _), eltM hp, rowP0, aggN, bsN, subN1, ap, lenF, mkN_len l (List.replicate (i + 1) ((0 : Int), (0 : Int))) (by rw [List.length_replicate]; omega), List.length_replicate, up1 (show i < 1000000000 by omega)]
 ·have p1 := phi (c350 h ht (l.length + 1) 0 l.length (List.replicate l.length (0, 0)) (by omega) (by omega) (Nat.le_refl _) (by rw [List.length_replicate]));have hgl := grow_len (ld := ldF t l) (l.length + 1) 0 l.length (List.replicate l.length (0, 0));rw [List.length_replicate] at hgl;have L := ldF_lin (t := t) h.2.2;obtain ⟨g1, g2, _, g4⟩ := grow_ok L (l.length + 1) 0 l.length (List.replicate l.length (0, 0)) (by omega) (by rw [List.length_replicate]) ⟨by omega, Nat.le_refl _, .inl rfl, .inl rfl⟩;have hu := cart_uniq L (cmake_cart L) ⟨g1, g2, fun k x hx => g4 k x (by omega) (by have := get_lt hx; omega) hx⟩;have hs := subM (f := nrow) (l := mkN l (grow (ldF t l) (l.length + 1) 0 l.length (List.replicate l.length (0, 0))).1);rw [mkN_len _ _ (by omega), hgl] at hs;unfold k268_2;have ag : RF.ev .agg [.i64 (grow (ldF t l) (l.length + 1) 0 l.length (List.replicate l.length (0, 0))).2, sl nrow (mkN l (grow (ldF t l) (l.length + 1) 0 l.length (List.replicate l.length (0, 0))).1)] = some (TR (cart t l)) := by
   rw [← hu.1, ← hu.2]; rfl
  simp only [Int.natCast_zero] at p1;simp only [den_lt, cellF, EV, List.length_map, decide_eq_true_eq, if_ge, k268_1, agT0, p1, hs, ag]
end Go.Proofs.YtfghdmmapmdcgaaGreat
