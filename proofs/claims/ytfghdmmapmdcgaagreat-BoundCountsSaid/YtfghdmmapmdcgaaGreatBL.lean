import Derived.Test.YtfghdmmapmdcgaaGreatM3
import Derived.Test.YtfghdmmapmdcgaaGreatP1
set_option linter.unusedVariables false
set_option linter.unusedSimpArgs false
set_option linter.defProp false
noncomputable section
namespace Go.Sym
open Go.Sym
section
variable {Φ : PhT} {N : Nat} {b : K} {J : List JT} {e : List PV}
theorem run_up {n : Nat} {st : Nat → List PV} {fin : Option (List PV)} (hs : ∀ i self, i < n → den Φ N b (J ++ [self]) (e ++ st i) = self (st (i + 1)))
  (hf : ∀ self, den Φ N b (J ++ [self]) (e ++ st n) = fin) : ∀ m, n < m → denW Φ N b J e m (st 0) = fin := by
 have : ∀ d i m, i + d = n → d < m → denW Φ N b J e m (st i) = fin := by
  intro d;induction d with
  | zero =>
   intro i m h hm;obtain ⟨m, rfl⟩ : ∃ m', m = m' + 1 := ⟨m - 1, by omega⟩;rw [denW_succ, show i = n by omega]
   exact hf _
  | succ d ih =>
   intro i m h hm;obtain ⟨m, rfl⟩ : ∃ m', m = m' + 1 := ⟨m - 1, by omega⟩;rw [denW_succ, hs i _ (by omega)];exact ih (i + 1) m (by omega) (by omega)
 exact fun m hm => this n 0 m (by omega) hm
theorem run_all {n : Nat} {st : Nat → List PV} {P : Nat → Prop} {fin r : Option (List PV)} (hs : ∀ i self, i < n → (∀ j, j < i → P j) → P i → den Φ N b (J ++ [self]) (e ++ st i) = self (st (i + 1)))
  (hr : ∀ i self, i < n → (∀ j, j < i → P j) → ¬ P i → den Φ N b (J ++ [self]) (e ++ st i) = r)
  (hf : (∀ j, j < n → P j) → ∀ self, den Φ N b (J ++ [self]) (e ++ st n) = fin) {m : Nat} (hm : n < m) : ((∀ j, j < n → P j) → denW Φ N b J e m (st 0) = fin) ∧ ((¬ ∀ j, j < n → P j) → denW Φ N b J e m (st 0) = r) := by
 have : ∀ d i m, i + d = n → d < m → (∀ j, j < i → P j) → ((∀ j, j < n → P j) → denW Φ N b J e m (st i) = fin) ∧ ((¬ ∀ j, j < n → P j) → denW Φ N b J e m (st i) = r) := by
  intro d;induction d with
  | zero =>
   intro i m h hm hp;obtain ⟨m, rfl⟩ : ∃ m', m = m' + 1 := ⟨m - 1, by omega⟩;have hin : i = n := by omega
   subst hin;refine ⟨fun h => ?_, fun h => absurd hp h⟩;rw [denW_succ];exact hf h _
  | succ d ih =>
   intro i m h hm hp;obtain ⟨m, rfl⟩ : ∃ m', m = m' + 1 := ⟨m - 1, by omega⟩;rw [denW_succ];by_cases hi : P i
   ·rw [hs i _ (by omega) hp hi];exact ih (i + 1) m (by omega) (by omega) fun j hj => by
     by_cases e : j = i
     ·rw [e]; exact hi
     ·exact hp j (by omega)
   ·rw [hr i _ (by omega) hp hi];exact ⟨fun h => absurd (h i (by omega)) hi, fun _ => rfl⟩
 exact this n 0 m (by omega) hm (fun j hj => by omega)
open Classical in
theorem run_if {n : Nat} {st : Nat → List PV} {P : Nat → Prop} {fin r : Option (List PV)} (hs : ∀ i self, i < n → (∀ j, j < i → P j) → den Φ N b (J ++ [self]) (e ++ st i) = if P i then self (st (i + 1)) else r)
  (hf : (∀ j, j < n → P j) → ∀ self, den Φ N b (J ++ [self]) (e ++ st n) = fin) {m : Nat} (hm : n < m) : denW Φ N b J e m (st 0) = if (∀ j, j < n → P j) then fin else r := by
 have := run_all (n := n) (st := st) (P := P) (fin := fin) (r := r) (fun i self h1 h2 h3 => by rw [hs i self h1 h2, if_pos h3]) (fun i self h1 h2 h3 => by rw [hs i self h1 h2, if_neg h3]) hf hm;by_cases h : ∀ j, j < n → P j
 ·rw [if_pos h]; exact this.1 h
 ·rw [if_neg h]; exact this.2 h
end
end Go.Sym
