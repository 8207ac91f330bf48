import Derived.Test.YtfghdmmapmdcgaaGreatCN
set_option linter.unusedVariables false
set_option linter.unusedSimpArgs false
set_option linter.defProp false
noncomputable section
namespace Go.Proofs.YtfghdmmapmdcgaaGreat
open Go.Sym Bnd
set_option maxRecDepth 100000
def Crt.ok (c : Crt) : Prop := 0 ≤ c.low ∧ c.low ≤ 65535 ∧ 0 ≤ c.high ∧ c.high ≤ 65535 ∧ c.low ≠ c.high
instance (c : Crt) : Decidable c.ok := by unfold Crt.ok; infer_instance
theorem c344 (c : Crt) : Ans D 344 [CP c] [.bool (decide c.ok)] := by
 refine ans_of k344_ok s344 rfl ⟨1, ?_⟩;unfold k344 Crt.ok;simp only [den_lt, shCP, cCP0, cCP1, EV, k344_1, decide_eq_true_eq, ge_iff_le];by_cases h1 : 0 ≤ c.low <;> by_cases h2 : c.low ≤ 65535 <;> by_cases h3 : 0 ≤ c.high <;> by_cases h4 : c.high ≤ 65535 <;> simp [h1, h2, h3, h4]
theorem c324 (c : Crt) : Ans D 324 [CP c] [.bool (decide c.ok)] := by
 have m1 : RF.ev (.mm false) [.i64 c.low, .i64 c.high] = some (.i64 (min c.low c.high)) := rfl;have m2 : RF.ev (.mm true) [.i64 c.low, .i64 c.high] = some (.i64 (max c.low c.high)) := rfl;refine ans_of k324_ok s324 rfl ⟨1, ?_⟩;unfold k324 Crt.ok;simp only [den_lt, shCP, cCP0, cCP1, m1, m2, EV, k324_1, decide_eq_true_eq, ge_iff_le];by_cases h1 : 0 ≤ c.low <;> by_cases h2 : c.low ≤ 65535 <;> by_cases h3 : 0 ≤ c.high <;> by_cases h4 : c.high ≤ 65535 <;> simp [h1, h2, h3, h4, Int.le_min, Int.max_le]
def CertsOk (c : Certs) : Prop := c.list.length ≤ 200 ∧ 0 ≤ c.next ∧ c.next ≤ 1000000 ∧ ∀ (i : Nat) (h : Held), c.list[i]? = some h → h.cert.ok ∧ 0 ≤ h.number ∧ h.number < c.next ∧ (∀ g, 0 < i → c.list[i - 1]? = some g → g.number < h.number) ∧ ∀ k, k < i → ∀ g, c.list[k]? = some g → g.cert ≠ h.cert
open Classical in
theorem c258 (c : Certs) : Ans D 258 [CS c] [.i64 (okE (decide (CertsOk c)))] := by
 refine ans_of k258_ok s258 rfl ⟨1001, ?_⟩;unfold k258;have no : ∀ h : ¬ CertsOk c, (some [PV.v (.int .i64 8)] : Option (List PV)) = some [.i64 (okE (decide (CertsOk c)))] := fun h => by rw [decide_eq_false h]; rfl
 simp only [den_lt, shCS, cCS0, cCS1, EV, List.length_map, decide_eq_true_eq];by_cases h1 : 200 < c.list.length
 ·rw [if_pos (by omega)];exact no (fun h => by have := h.1; omega)
 ·rw [if_neg (by omega)];by_cases h2 : c.next < 0
  ·rw [if_pos h2];exact no (fun h => by have := h.2.1; omega)
  ·rw [if_neg h2];by_cases h3 : 1000000 < c.next
   ·rw [if_pos h3];exact no (fun h => by have := h.2.2.1; omega)
   ·rw [if_neg h3];refine (run_if (n := c.list.length) (P := fun i => ∀ h, c.list[i]? = some h → h.cert.ok ∧ 0 ≤ h.number ∧ h.number < c.next ∧ (∀ g, 0 < i → c.list[i - 1]? = some g → g.number < h.number) ∧ ∀ k, k < i → ∀ g, c.list[k]? = some g → g.cert ≠ h.cert) (st := fun i => [.i64 (i : Int)]) (r := some [.i64 8]) (fin := some [.i64 0]) (fun i self hi _ => ?_) (fun _ self => ?_) (by omega)).trans ?_
    ·obtain ⟨h, hh⟩ : ∃ h, c.list[i]? = some h := ⟨c.list[i], List.getElem?_eq_getElem _⟩;have hP : (∀ h', c.list[i]? = some h' → h'.cert.ok ∧ 0 ≤ h'.number ∧ h'.number < c.next ∧ (∀ g, 0 < i → c.list[i - 1]? = some g → g.number < h'.number) ∧ ∀ k, k < i → ∀ g, c.list[k]? = some g → g.cert ≠ h'.cert) ↔ (h.cert.ok ∧ 0 ≤ h.number ∧ h.number < c.next ∧ (∀ g, 0 < i → c.list[i - 1]? = some g → g.number < h.number) ∧ ∀ k, k < i → ∀ g, c.list[k]? = some g → g.cert ≠ h.cert) :=
      ⟨fun x => x h hh, fun x h' e => by rw [hh] at e; cases e; exact x⟩
     have inner : ∀ (f : JT) (e0 e2 e3 e4 e5 e6 e7 e8 e10 e11 e12 e13 e14 e16 e17 e18 e19 e20 : PV), den (PhiS D) 1001 k258_4 [f, self] [e0, CS c, e2, e3, e4, e5, e6, e7, e8, .i64 (i : Int), e10, e11, e12, e13, e14, HP h, e16, e17, e18, e19, e20, .v (.bool false)] = if (∀ k, k < i → ∀ g, c.list[k]? = some g → g.cert ≠ h.cert) then self [.i64 ((i + 1 : Nat) : Int)] else some [.i64 8] := fun f e0 e2 e3 e4 e5 e6 e7 e8 e10 e11 e12 e13 e14 e16 e17 e18 e19 e20 => by
      unfold k258_4;simp only [EV, Bool.false_eq_true, if_false];refine (run_if (m := 1001) (n := i) (P := fun k => ∀ g, c.list[k]? = some g → g.cert ≠ h.cert) (st := fun i => [.i64 (i : Int)]) (r := some [.i64 8]) (fin := self [.i64 ((i + 1 : Nat) : Int)]) (fun k self' hk _ => ?_) (fun _ self' => ?_) (by omega)).trans ?_
      ·obtain ⟨g, hg⟩ : ∃ g, c.list[k]? = some g := ⟨c.list[k]'(by omega), List.getElem?_eq_getElem _⟩;have hQ : (∀ y, c.list[k]? = some y → y.cert ≠ h.cert) ↔ g.cert ≠ h.cert := ⟨fun x => x g hg, fun x y hy => by rw [hg] at hy; cases hy; exact x⟩;unfold k258_3;simp only [hQ, den_lt, cCS1, tixM hg (lenH _), eltM hg, rowHc, pHP, eqvC, EV, decide_eq_true_eq, if_lt hk, up1 (show k < 1000000000 by omega)]
       by_cases c4 : g.cert = h.cert
       ·rw [if_pos c4, if_neg (by simp [c4])]
       ·rw [if_neg c4, if_pos c4]
      ·unfold k258_3;simp only [EV, decide_eq_true_eq, if_ge, k258_2, up1 (show i < 1000000000 by omega)]
      ·by_cases hq : ∀ k, k < i → ∀ g, c.list[k]? = some g → g.cert ≠ h.cert
       ·rw [if_pos hq, if_pos hq]
       ·rw [if_neg hq, if_neg hq]
     unfold k258_5;simp only [hP, den_lt, cCS0, cCS1, tixM hh (lenH _), eltM hh, rowH, pHP, cHP0, phi (c344 _), EV, List.length_map, decide_eq_true_eq, if_lt hi, Bool.not_eq_true', decide_eq_false_iff_not, ge_iff_le, gt_iff_lt];by_cases c1 : h.cert.ok
     ·rw [if_neg (not_not_intro c1)];by_cases c2 : h.number < 0
      ·rw [if_pos c2, if_neg (fun x => by have := x.2.1; omega)];unfold k258_4;simp only [EV, eq_self, if_true]
      ·rw [if_neg c2];by_cases c3 : c.next ≤ h.number
       ·rw [if_pos c3, if_neg (fun x => by have := x.2.2.1; omega)];unfold k258_4;simp only [EV, eq_self, if_true]
       ·rw [if_neg c3];cases i with
        | zero =>
         rw [if_neg (by omega)];refine (inner ..).trans ?_;rw [if_pos (fun k hk => by omega), if_pos ⟨c1, by omega, by omega, fun g h0 => by omega, fun k hk => by omega⟩]
        | succ j =>
         obtain ⟨g, hg⟩ : ∃ g, c.list[j]? = some g := ⟨c.list[j]'(by omega), List.getElem?_eq_getElem _⟩;rw [if_pos (by omega)];simp only [den_lt, cHP0, down1 (show j < 1000000000 by omega), tixM hg (lenH _), eltM hg, rowH0, EV, ge_iff_le]
         by_cases c4 : h.number ≤ g.number
         ·rw [decide_eq_true c4, if_neg (fun x => by have := x.2.2.2.1 g (by omega) (by simpa using hg); omega)]
          unfold k258_4;simp only [EV, eq_self, if_true]
         ·rw [decide_eq_false c4];refine (inner ..).trans ?_;by_cases c5 : ∀ k, k < j + 1 → ∀ g, c.list[k]? = some g → g.cert ≠ h.cert
          ·rw [if_pos c5, if_pos ⟨c1, by omega, by omega, fun g' _ hg' => by
            rw [show j + 1 - 1 = j by omega, hg] at hg'; cases hg'; omega, c5⟩]
          ·rw [if_neg c5, if_neg (fun x => c5 x.2.2.2.2)]
     ·rw [if_pos c1, if_neg (fun x => c1 x.1)];unfold k258_4;simp only [EV, eq_self, if_true]
    ·unfold k258_5;simp only [den_lt, cCS1, EV, List.length_map, decide_eq_true_eq, if_ge, k258_1]
    ·have : (∀ i, i < c.list.length → ∀ h, c.list[i]? = some h → h.cert.ok ∧ 0 ≤ h.number ∧ h.number < c.next ∧ (∀ g, 0 < i → c.list[i - 1]? = some g → g.number < h.number) ∧ ∀ k, k < i → ∀ g, c.list[k]? = some g → g.cert ≠ h.cert) ↔ CertsOk c :=
      ⟨fun h => ⟨by omega, by omega, by omega, fun i x hx => h i (get_lt hx) x hx⟩, fun h i _ => h.2.2.2 i⟩
     by_cases hr : CertsOk c
     ·rw [if_pos (this.2 hr), decide_eq_true hr]; rfl
     ·rw [if_neg (fun h => hr (this.1 h)), decide_eq_false hr]; rfl
end Go.Proofs.YtfghdmmapmdcgaaGreat
