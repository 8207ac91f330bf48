/- A machine that carries out code on values that are known, and the proof that the model's runs agree with it: one part. -/
import Derived.Test.YtgfhhbgkleimjaaGreatAbsDraw4
noncomputable section
namespace Go.Abs
variable {P : Program}

def Cls.isW : Cls → Prop
  | .W _ => True
  | _ => False

theorem WS.lim_le (s : WS) (bar : Nat) : bar ≤ s.lim bar := by
  cases s <;> simp [WS.lim] <;> omega

structure Trace (P : Program) (K : Known) (rec : Rec) (Wf : FuncId → Option Nat) (bar : Nat) (ops : Array Oper) (F : Nat → Fr) (G : Nat → AH) (C : Nat → Cls) : Prop where
  step : ∀ i o, ops[i]? = some o → drawOne P K rec Wf bar ops o (F i) (G i) = some (C i, F (i + 1), G (i + 1))

theorem trace_of {K : Known} {rec : Rec} {Wf : FuncId → Option Nat} {bar : Nat} {ops : Array Oper} : ∀ (os : List Oper) (f : Fr) (H : AH) (cs : List (Cls × AH × AH)) (f' : Fr) (H' : AH), drawAll P K rec Wf bar ops os f H = some (cs, f', H') →
    ∃ (F : Nat → Fr) (G : Nat → AH) (C : Nat → Cls), F 0 = f ∧ G 0 = H ∧ F os.length = f' ∧ G os.length = H' ∧ cs.length = os.length ∧ (∀ i, i < os.length → cs[i]? = some (C i, G i, G (i + 1))) ∧ ∀ i o, os[i]? = some o → drawOne P K rec Wf bar ops o (F i) (G i) = some (C i, F (i + 1), G (i + 1))
  | [], f, H, cs, f', H', h => by
    cases h
    exact ⟨fun _ => f, fun _ => H, fun _ => .R, rfl, rfl, rfl, rfl, rfl, fun i h => by simp at h, fun i o h => by simp at h⟩
  | o :: os, f, H, cs, f', H', h => by
    unfold drawAll at h
    split at h
    · cases h
    · rename_i c f₁ H₁ h1
      split at h
      · cases h
      · rename_i l r h2
        cases h
        obtain ⟨F, G, C, e1, e2, e3, e4, e5, e6, e7⟩ := trace_of os f₁ H₁ l f' H' h2
        refine ⟨fun i => match i with | 0 => f | i + 1 => F i, fun i => match i with | 0 => H | i + 1 => G i, fun i => match i with | 0 => c | i + 1 => C i, rfl, rfl, e3, e4, by simp [e5], fun i hi => ?_, fun i o' ho => ?_⟩
        · cases i with
          | zero => simp [e2]
          | succ i => simpa using e6 i (by simpa using hi)
        · cases i with
          | zero =>
            simp at ho; subst ho
            show drawOne P K rec Wf bar ops o f H = some (c, F 0, G 0)
            rw [e1, e2]; exact h1
          | succ i => exact e7 i o' (by simpa using ho)

section
variable {K : Known} {rec : Rec} {Wf : FuncId → Option Nat} {bar base : Nat} {ops : Array Oper} {F : Nat → Fr} {G : Nat → AH} {C : Nat → Cls}

theorem drawOne_oper {o : Oper} {f f' : Fr} {H H' : AH} {c : Cls} (h : drawOne P K rec Wf bar ops o f H = some (c, f', H')) :
    (¬ c.isW ∧ operA P K rec H.next ops o f H = some (f', H')) ∨ (∃ s, c = .W s ∧ s.lim bar ≤ H.next ∧ operA P K rec (s.lim bar) ops o f H = some (f', H')) := by
  unfold drawOne at h
  split at h
  · split at h
    · rename_i s hs
      unfold drawW at h
      split at h
      · rename_i hb
        rw [Option.map_eq_some_iff] at h; obtain ⟨p, hp, h⟩ := h
        cases h
        exact .inr ⟨s, rfl, Nat.le_of_ble_eq_true hb, hp⟩
      · cases h
    · rename_i c' hne
      rw [Option.map_eq_some_iff] at h; obtain ⟨p, hp, h⟩ := h
      cases h
      refine .inl ⟨fun hw => ?_, hp⟩
      cases hc : clsA Wf (aev f) o.op with
      | W b => exact hne b hc
      | _ => rw [hc] at hw; exact hw
  · rw [Option.map_eq_some_iff] at h; obtain ⟨p, hp, h⟩ := h
    cases h
    exact .inl ⟨fun hw => hw, hp⟩
  · cases h

/-- The operations carried out in the order of the text: what becomes of the abstract memory. -/
theorem canon (hK : KnownOk P K) (hrec : RecOk P rec) (ht : Trace P K rec Wf bar ops F G C) {φ₀ : Ren} {w₀ : World} {tmps₀ : Array Value} (hs : Sim φ₀ (G 0) bar base w₀) (hf : FrR φ₀ tmps₀ (F 0)) :
    ∀ i, i ≤ ops.size → ∃ φ w tmps, Step φ₀ (G 0) bar base w₀ φ (G i) w ∧ FrR φ tmps (F i)
  | 0, _ => ⟨φ₀, w₀, tmps₀, Step.refl hs, hf⟩
  | i + 1, hi => by
    obtain ⟨φ, w, tmps, h1, h2⟩ := canon hK hrec ht hs hf i (by omega)
    have ho : ops[i]? = some ops[i] := by simp
    rcases drawOne_oper (ht.step i _ ho) with ⟨_, h⟩ | ⟨s, _, hsb, h⟩
    · obtain ⟨φ', w', tmps', k1, k2⟩ := oper_exists hK hrec h h1.sim.raise h2
      exact ⟨φ', w', tmps', h1.trans (k1.lower h1.sim), k2⟩
    · obtain ⟨φ', w', tmps', k1, k2⟩ := oper_exists hK hrec h (h1.sim.raise' (WS.lim_le s bar) hsb) h2
      exact ⟨φ', w', tmps', h1.trans (Step.lower' h1.sim (WS.lim_le s bar) hsb k1), k2⟩

structure Mem (bar : Nat) (ops : Array Oper) (F : Nat → Fr) (G : Nat → AH) (C : Nat → Cls) : Prop where
  mono : ∀ i, i < ops.size → (G i).next ≤ (G (i + 1)).next
  small : ∀ i, i ≤ ops.size → (G i).next ≤ 262144
  keep : ∀ i, i < ops.size → ¬ (C i).isW → ∀ b, b < (G i).next → (G (i + 1)).get b = (G i).get b
  one : ∀ i s, i < ops.size → C i = .W s → ∀ b', s.free b' = true → b' < (G i).next → (G (i + 1)).get b' = (G i).get b'
  bar : ∀ i, i ≤ ops.size → (G 0).next ≤ (G i).next ∧ ∀ b, b < bar → b < (G 0).next → (G i).get b = (G 0).get b
  frame : ∀ i, i ≤ ops.size → ∀ t v, (F i).get t = some v → ∃ ψ u, (∀ b r, ψ b = some r → b < (G i).next) ∧ VR ψ u v
  n : ∀ i, i ≤ ops.size → (F i).n = (F 0).n ∧ (F i).n ≤ 1024

theorem drawOne_cls {o : Oper} {f f' : Fr} {H H' : AH} {c : Cls} (h : drawOne P K rec Wf bar ops o f H = some (c, f', H')) :
    (wantedA ops f o = some true ∧ c = clsA Wf (aev f) o.op) ∨ (wantedA ops f o = some false ∧ c = .R) := by
  unfold drawOne at h
  split at h
  · rename_i hw
    refine .inl ⟨hw, ?_⟩
    split at h
    · rename_i b hc
      unfold drawW at h
      split at h
      · rw [Option.map_eq_some_iff] at h; obtain ⟨p, hp, h⟩ := h
        cases h
        exact hc.symm
      · cases h
    · rw [Option.map_eq_some_iff] at h; obtain ⟨p, hp, h⟩ := h
      cases h
      rfl
  · rename_i hw
    rw [Option.map_eq_some_iff] at h; obtain ⟨p, hp, h⟩ := h
    cases h
    exact .inr ⟨hw, rfl⟩
  · cases h

theorem cls_W {Wf : FuncId → Option Nat} {ρ : Env} {op : Op} {b : WS} (h : clsA Wf ρ op = .W b) : writesA Wf ρ op = some b := by
  unfold clsA at h
  split at h
  · cases h
  · split at h
    · cases h
    · split at h
      · rename_i hb; cases h; exact hb
      · cases h

theorem mem_of (hK : KnownOk P K) (hrec : RecOk P rec) (ht : Trace P K rec Wf bar ops F G C) {φ₀ : Ren} {w₀ : World} {tmps₀ : Array Value} (hs : Sim φ₀ (G 0) bar base w₀) (hf : FrR φ₀ tmps₀ (F 0)) : Mem bar ops F G C := by
  have hc := canon hK hrec ht hs hf
  have one : ∀ i (hi : i < ops.size), ∃ φ w tmps, Sim φ (G i) bar base w ∧ FrR φ tmps (F i) ∧ ((¬ (C i).isW ∧ operA P K rec (G i).next ops ops[i] (F i) (G i) = some (F (i + 1), G (i + 1))) ∨ (∃ s, C i = .W s ∧ s.lim bar ≤ (G i).next ∧ operA P K rec (s.lim bar) ops ops[i] (F i) (G i) = some (F (i + 1), G (i + 1)))) := by
    intro i hi
    obtain ⟨φ, w, tmps, h1, h2⟩ := hc i (by omega)
    exact ⟨φ, w, tmps, h1.sim, h2, drawOne_oper (ht.step i ops[i] (by simp))⟩
  refine ⟨?_, ?_, ?_, ?_, ?_, ?_, ?_⟩
  · intro i hi
    obtain ⟨φ, w, tmps, h1, h2, h3⟩ := one i hi
    rcases h3 with ⟨_, h⟩ | ⟨s, _, hsb, h⟩
    · obtain ⟨_, _, _, k1, _⟩ := oper_exists hK hrec h h1.raise h2; exact k1.nx
    · obtain ⟨_, _, _, k1, _⟩ := oper_exists hK hrec h (h1.raise' (WS.lim_le s bar) hsb) h2; exact k1.nx
  · intro i hi
    obtain ⟨φ, w, tmps, h1, h2⟩ := hc i hi
    exact h1.sim.small
  · intro i hi hnw b hb
    obtain ⟨φ, w, tmps, h1, h2, h3⟩ := one i hi
    rcases h3 with ⟨_, h⟩ | ⟨s, hw, _⟩
    · obtain ⟨_, _, _, k1, _⟩ := oper_exists hK hrec h h1.raise h2; exact k1.keep b hb hb
    · rw [hw] at hnw; exact absurd trivial hnw
  · intro i s hi hcw b' hfree hb'
    obtain ⟨φ, w, tmps, h1, h2, h3⟩ := one i hi
    rcases h3 with ⟨hnw, _⟩ | ⟨s', hw', hsb, h⟩
    · rw [hcw] at hnw; exact absurd trivial hnw
    · rw [hcw] at hw'; cases hw'
      rcases drawOne_cls (ht.step i ops[i] (by simp)) with ⟨hwt, hcl⟩ | ⟨_, hcl⟩
      · rw [hcw] at hcl
        have hwr := cls_W hcl.symm
        let a : Act := { tmps := tmps, defers := [] }
        cases s with
        | any => cases hfree
        | one b =>
          rcases operA_parts h with ⟨hwf, _⟩ | ⟨_, r, v, hop, _, hr⟩
          · rw [hwt] at hwf; cases hwf
          · obtain ⟨v', H', e1, _, e3⟩ := writes_one h1 (aev_rel (a := a) h2) hwr hop
            have hne : b' ≠ b := by simpa [WS.free] using hfree
            rcases hr with rfl | ⟨g, args, H₁, rfl, _⟩
            · injection e1 with _ e1; rw [← e1] at e3; exact e3 b' hne hb'
            · cases e1
        | ge b =>
          obtain ⟨_, _, _, k1, _⟩ := oper_exists hK hrec h (h1.raise' (WS.lim_le _ bar) hsb) h2
          have hlt : b' < b := by simpa [WS.free] using hfree
          exact k1.keep b' (by simp only [WS.lim]; omega) hb'
      · rw [hcw] at hcl; cases hcl
  · intro i hi
    obtain ⟨φ, w, tmps, h1, h2⟩ := hc i hi
    exact ⟨h1.nx, h1.keep⟩
  · intro i hi t v hv
    obtain ⟨φ, w, tmps, h1, h2⟩ := hc i hi
    obtain ⟨u, _, hu⟩ := h2.get t v hv
    exact ⟨φ, u, h1.sim.lt, hu⟩
  · intro i hi
    induction i with
    | zero => exact ⟨rfl, hf.small⟩
    | succ i ih =>
      have hi' := ih (by omega)
      obtain ⟨φ, w, tmps, h1, h2, h3⟩ := one i (by omega)
      have : (F (i + 1)).n = (F i).n := by
        have key : ∀ {bb : Nat}, operA P K rec bb ops ops[i] (F i) (G i) = some (F (i + 1), G (i + 1)) → (F (i + 1)).n = (F i).n := by
          intro bb h
          rcases operA_parts h with ⟨_, hp, _⟩ | ⟨_, r, v, _, hp, _⟩
          · exact (Fr.put_get hp hi'.2).1
          · exact (Fr.put_get hp hi'.2).1
        rcases h3 with ⟨_, h⟩ | ⟨_, _, _, h⟩ <;> exact key h
      exact ⟨this.trans hi'.1, by rw [this]; exact hi'.2⟩

theorem Mem.le (hm : Mem bar ops F G C) : ∀ {i j : Nat}, i ≤ j → j ≤ ops.size → (G i).next ≤ (G j).next := by
  intro i j hij hj
  induction j with
  | zero => have : i = 0 := by omega
            subst this; exact Nat.le_refl _
  | succ j ih =>
    by_cases h : i = j + 1
    · subst h; exact Nat.le_refl _
    · exact Nat.le_trans (ih (by omega) (by omega)) (hm.mono j (by omega))

/-- A block that nobody writes between two places. -/
theorem Mem.same (hm : Mem bar ops F G C) {b : Nat} : ∀ {i j : Nat}, i ≤ j → j ≤ ops.size → b < (G i).next → (∀ k, i ≤ k → k < j → (C k).isW → b < (G k).next → (G (k + 1)).get b = (G k).get b) → (G j).get b = (G i).get b := by
  intro i j hij hj hb hk
  induction j with
  | zero => have : i = 0 := by omega
            subst this; rfl
  | succ j ih =>
    by_cases h : i = j + 1
    · subst h; rfl
    · have hbj : b < (G j).next := Nat.lt_of_lt_of_le hb (hm.le (by omega) (by omega))
      rw [← ih (by omega) (by omega) (fun k h1 h2 => hk k h1 (by omega))]
      by_cases hw : (C j).isW
      · exact hk j (by omega) (by omega) hw hbj
      · exact hm.keep j (by omega) hw b hbj

end

end Go.Abs
