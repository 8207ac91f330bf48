import Derived.Test.YtfghdmmapmdcgaaGreatDF
set_option linter.unusedVariables false
set_option linter.unusedSimpArgs false
set_option linter.defProp false
noncomputable section
namespace Go.Proofs.YtfghdmmapmdcgaaGreat
open Go.Sym Bnd
set_option maxRecDepth 100000
def tri (n : Int) : Int := if n < 0 then 0 else if 64 < n then 0 else ((n.toNat * (n.toNat - 1) / 2 : Nat) : Int)
def triE (n : Int) : Int := if n < 0 then 2 else if 64 < n then 2 else 0
theorem tri_step : ∀ m : Nat, m < 65 → ((m : Int) * ((m : Int) - 1)).tdiv 2 = ((m * (m - 1) / 2 : Nat) : Int) := by decide
theorem tri_up : ∀ m : Nat, m < 65 → m * (m - 1) / 2 + m = (m + 1) * (m + 1 - 1) / 2 := by decide
theorem tri_le : ∀ m : Nat, m < 65 → m * (m - 1) / 2 ≤ 2080 := by decide
theorem tri_mul : ∀ m : Nat, m < 65 → -1 ≤ (m : Int) * ((m : Int) - 1) ∧ (m : Int) * ((m : Int) - 1) ≤ 10000 := by decide
theorem c8 (n : Int) : Ans D 8 [.i64 n] [.i64 (tri n), .i64 (triE n)] := by
 refine ans_of k8_ok s8 rfl ⟨1, ?_⟩;unfold k8 tri triE;simp only [EV, decide_eq_true_eq, gt_iff_lt];by_cases h1 : n < 0
 ·simp only [if_pos h1]
 by_cases h2 : 64 < n
 ·simp only [if_neg h1, if_pos h2]
 obtain ⟨m, rfl⟩ := natI (show 0 ≤ n by omega)
 have hm : m < 65 := by omega
 have w1 : IntKind.i64.wrap ((m : Int) - 1) = (m : Int) - 1 := w_i64 (by omega) (by omega);have w2 : IntKind.i64.wrap ((m : Int) * ((m : Int) - 1)) = (m : Int) * ((m : Int) - 1) := w_i64 (by have := tri_mul m hm; omega) (by have := tri_mul m hm; omega);have q : intB .quo .i64 ((m : Int) * ((m : Int) - 1)) .i64 2 = some (.v (.int .i64 ((m * (m - 1) / 2 : Nat) : Int))) := by
  show some (PV.v (.int .i64 (IntKind.i64.wrap (((m : Int) * ((m : Int) - 1)).tdiv 2)))) = _
  rw [tri_step m hm, w_i64 (by omega) (by have := tri_le m hm; omega)]
 simp only [if_neg h1, if_neg h2, EV, w1, w2, f_bin, q, Int.toNat_natCast]
theorem c9 (n : Int) : Ans D 9 [.i64 n] [.i64 (tri n), .i64 (triE n)] := by
 refine ans_of k9_ok s9 rfl ⟨1001, ?_⟩;unfold k9 tri triE;simp only [EV, decide_eq_true_eq, gt_iff_lt];by_cases h1 : n < 0
 ·simp only [if_pos h1]
 by_cases h2 : 64 < n
 ·simp only [if_neg h1, if_pos h2]
 obtain ⟨m, rfl⟩ := natI (show 0 ≤ n by omega)
 simp only [if_neg h1, if_neg h2, EV, Int.toNat_natCast];refine (run_up (m := 1001) (n := m) (st := fun i => [.i64 ((i * (i - 1) / 2 : Nat) : Int), .i64 (i : Int)]) (fun i self hi => ?_) (fun self => ?_) (by omega))
 ·have w1 : IntKind.i64.wrap (((i * (i - 1) / 2 : Nat) : Int) + (i : Int)) = (((i + 1) * (i + 1 - 1) / 2 : Nat) : Int) := by
   rw [← tri_up i (by omega), w_i64 (by omega) (by have := tri_le i (by omega); omega)]; omega
  unfold k9_2;simp only [EV, decide_eq_true_eq, if_lt hi, w1, up1 (show i < 1000000000 by omega)]
 ·unfold k9_2;simp only [EV, decide_eq_true_eq, if_ge, k9_1]
theorem certs_sum {c : Choice} (ht : 0 ≤ c.tag) (h : Alone c) (hp : PartOk c) : c.heap.clock.certs.list.length + c.tourn.clock.certs.list.length + c.heater.clock.certs.list.length + c.hanger.clock.certs.list.length = (ckOf c).certs.list.length := by
 obtain ⟨a1, a2, a3, a4⟩ := h;unfold ckOf;unfold PartOk at hp;by_cases t1 : c.tag = 1
 ·rw [if_pos t1, a2 (by omega), a3 (by omega), a4 (by omega)]; rfl
 by_cases t2 : c.tag = 2
 ·rw [if_neg t1, if_pos t2, a1 (by omega), a3 (by omega), a4 (by omega)]; simp [zKH, zHT, zC]
 by_cases t3 : c.tag = 3
 ·rw [if_neg t1, if_neg t2, if_pos t3, a1 (by omega), a2 (by omega), a4 (by omega)]; simp [zKH, zKT, zC]
 by_cases t4 : c.tag = 4
 ·rw [if_neg t1, if_neg t2, if_neg t3, a1 (by omega), a2 (by omega), a3 (by omega)]; simp [zKH, zKT, zHT, zC]
 ·rw [if_neg t1, if_neg t2, if_neg t3, if_neg t4] at hp;exact hp.elim
open Classical in
def cntV (c : Choice) : Int := if ChoOk c then ((ckOf c).certs.list.length : Int) else 0
open Classical in
theorem c10 {c : Choice} (h64 : Cho64 c) (hg : gCh c = false) : Ans D 10 [CHO c] [.i64 (cntV c), .i64 (okE (decide (ChoOk c)))] := by
 obtain ⟨g1, g2, g3, g4⟩ := gCh_p hg;have g1 := gCl_certs (gKh_cl g1).1;have g2 := gCl_certs (gKt_cl g2).1;have g3 := gCl_certs (gHt_cl g3).1;have g4 := gCl_certs (gKh_cl g4).1;have w : ∀ a b : Nat, a ≤ 10000 → b ≤ 10000 → IntKind.i64.wrap ((a : Int) + (b : Int)) = ((a + b : Nat) : Int) := fun a b ha hb => by rw [w_i64 (by omega) (by omega)]; omega
 have w1 := w _ _ (show c.heap.clock.certs.list.length ≤ 10000 by omega) (show c.tourn.clock.certs.list.length ≤ 10000 by omega)
 have w2 := w _ _ (show c.heap.clock.certs.list.length + c.tourn.clock.certs.list.length ≤ 10000 by omega) (show c.heater.clock.certs.list.length ≤ 10000 by omega)
 have w3 := w _ _ (show c.heap.clock.certs.list.length + c.tourn.clock.certs.list.length + c.heater.clock.certs.list.length ≤ 10000 by omega) (show c.hanger.clock.certs.list.length ≤ 10000 by omega)
 refine ans_of k10_ok s10 rfl ⟨1, ?_⟩;unfold k10 cntV;simp only [den_lt, shCH, cK5, cK17, cK30, cK43, EV, List.length_map, phi (c26 h64 hg), okE_not, Bool.not_eq_true', decide_eq_false_iff_not, w1, w2, w3];by_cases h : ChoOk c
 ·rw [if_pos h];simp only [h, decide_true, if_true, certs_sum h64.tag.1 h.1 h.2.1];rfl
 ·simp only [h, decide_false, if_false, Bool.false_eq_true]
open Classical in
theorem c11 {c : Choice} (h64 : Cho64 c) (hg : gCh c = false) : Ans D 11 [CHO c] [.i64 (cntV c), .i64 (okE (decide (ChoOk c)))] := by
 have pC : ∀ k : Clock, RF.ev (.part 3 2) [CL k] = some (CS k.certs) := fun _ => rfl;refine ans_of k11_ok s11 rfl ⟨1, ?_⟩;unfold k11 cntV;simp only [den_lt, shCH, EV, List.length_map, phi (c27 h64 hg), phi (c13 c), pC, cCS1, okE_not, Bool.not_eq_true', decide_eq_false_iff_not];by_cases h : ChoOk c
 ·simp only [h, decide_true, if_true];rfl
 ·simp only [h, decide_false, if_false, Bool.false_eq_true]
theorem boundCounts (n : Int) {c : Choice} (h64 : Cho64 c) : Ans D 3 [.i64 n, CHO c] [.bool true] := by
 refine ans_of k3_ok s3 rfl ⟨1, ?_⟩;unfold k3;cases hg : gCh c with
 | true =>
  have := phi (c7 c);rw [hg] at this;simp only [den_lt, shCH, EV, this, if_true]
 | false =>
  have := phi (c7 c);rw [hg] at this;simp only [den_lt, shCH, EV, this, Bool.false_eq_true, if_false, phi (c8 n), phi (c9 n), phi (c10 h64 hg), phi (c11 h64 hg), decide_true, if_true, k3_1]
end Go.Proofs.YtfghdmmapmdcgaaGreat
