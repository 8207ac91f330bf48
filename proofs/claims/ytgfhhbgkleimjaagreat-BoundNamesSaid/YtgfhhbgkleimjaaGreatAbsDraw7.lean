/- A machine that carries out code on values that are known, and the proof that the model's runs agree with it: one part. -/
import Derived.Test.YtgfhhbgkleimjaaGreatAbsDraw6
noncomputable section
namespace Go.Abs
variable {P : Program} {D : List Deferred} {ol : Option Nat}

theorem next_W {ops : Array Oper} {C : Nat → Cls} : ∀ (d m : Nat), m + d = ops.size → ∃ m', m ≤ m' ∧ m' ≤ ops.size ∧ (m' = ops.size ∨ (C m').isW) ∧ ∀ j, m ≤ j → j < m' → ¬ (C j).isW
  | 0, m, h => ⟨m, Nat.le_refl _, by omega, .inl (by omega), fun j h1 h2 => by omega⟩
  | d + 1, m, h => by
    by_cases hw : (C m).isW
    · exact ⟨m, Nat.le_refl _, by omega, .inr hw, fun j h1 h2 => by omega⟩
    · obtain ⟨m', h1, h2, h3, h4⟩ := next_W (ops := ops) (C := C) d (m + 1) (by omega)
      refine ⟨m', by omega, h2, h3, fun j h5 h6 => ?_⟩
      by_cases hj : j = m
      · subst hj; exact hw
      · exact h4 j (by omega) h6

section
variable {K : Known} {rec : Rec} {Wf : FuncId → Option Nat} {bar base : Nat} {ops : Array Oper} {F : Nat → Fr} {G : Nat → AH} {C : Nat → Cls}
variable {φ₀ : Ren} {w₀ : World} {listed : Array Bool} {a : Act} {w : World} {m : Nat} {φ : Ren} {i : Nat}

def InvE (D : List Deferred) (bar base : Nat) (ops : Array Oper) (F : Nat → Fr) (G : Nat → AH) (C : Nat → Cls) (φ₀ : Ren) (w₀ : World) (listed : Array Bool) (a : Act) (w : World) : Prop :=
  ∃ m φ, Inv D bar base ops F G C φ₀ w₀ listed a w m φ

/-- One that reads, and makes blocks. -/
theorem next_Q (hK : KnownOk P K) (hrec : RecOk P rec) (ht : Trace P K rec Wf bar ops F G C) (hm : Mem bar ops F G C) (hT : Tests ops G C) (h0 : ∀ b r, φ₀ b = some r → b < (G 0).next) (hb0 : bar ≤ (G 0).next) (hI : Inv D bar base ops F G C φ₀ w₀ listed a w m φ) (hr : Ready ops listed i)
    {o : Oper} (ho : ops[i]? = some o) (hc : C i = .Q) {r : ARes} {v : Value} (hop : aop P (G i).next (aev (F i)) (G i) o.op = some r) (hp : (F i).put o.dst v = some (F (i + 1)))
    (hres : r = .val v (G (i + 1)) ∨ ∃ g args H₁, r = .call g args H₁ ∧ callA P K rec (G i).next g args H₁ = some (v, G (i + 1))) {Q : Exit → Act → World → Prop} :
    o.wpIn (Wd ol) 0 P a w (InvE D bar base ops F G C φ₀ w₀ (listed.setIfInBounds i true)) Q := by
  have hi : i < listed.size := by have := hr.lt; have := hI.size; omega
  have hlt := hr.lt
  have hnw : ¬ (C i).isW := by rw [hc]; exact fun h => h
  have hbar : bar ≤ (G i).next := Nat.le_trans hb0 (hm.bar i (by omega)).1
  -- no writer between
  have ordW : ∀ j, j < ops.size → (C j).isW → (j < i → Lst listed j) ∧ (i < j → ¬ Lst listed j) := by
    intro j hj hw
    have hne : i ≠ j := fun e => hnw (e ▸ hw)
    obtain ⟨b, hb⟩ : ∃ b, C j = .W b := by
      cases hcj : C j with
      | W b => exact ⟨b, rfl⟩
      | _ => rw [hcj] at hw; exact hw.elim
    rcases hT.cls i j b hlt hj hb hne with h | h
    · exact ordered hI.down hr hI.size hne h
    · rw [hc] at h; exact absurd h (by simp [freeAt, clsFree])
  have him : i < m := by
    rcases hI.mw with h | h
    · omega
    · by_cases hmi : m < i
      · have hml : m < ops.size := by omega
        have := (ordW m hml h).1 hmi
        rw [hI.ws m hml h] at this
        omega
      · by_cases e : m = i
        · subst e; exact absurd h hnw
        · omega
  have hnoW : ∀ j, i ≤ j → j < m → ¬ (C j).isW := by
    intro j h1 h2 hw
    have hjl : j < ops.size := by have := hI.hm; omega
    have hin := (hI.ws j hjl hw).2 h2
    by_cases e : j = i
    · subst e; exact hnw hw
    · exact (ordW j hjl hw).2 (by omega) hin
  have hsame : ∀ {k : Nat}, i ≤ k → k ≤ m → ∀ b, b < (G k).next → (G m).get b = (G k).get b := by
    intro k h1 h2 b hb
    exact hm.same h2 hI.hm hb (fun j j1 j2 hw _ => absurd hw (hnoW j (by omega) j2))
  have hsimr : Sim (res φ (G i).next) (G i) (G i).next w.heap.size w := by
    refine ⟨Nat.le_refl _, hm.small i (by omega), fun b r h => (res_some.1 h).1, fun b r o' h hg => ?_, fun b _ r _ h _ _ _ hb => absurd (res_some.1 h).1 (by omega), fun b r h hb => absurd (res_some.1 h).1 (by omega), Nat.le_refl _, fun b r h => hI.sim.cur b r (res_some.1 h).2⟩
    obtain ⟨h1, h2⟩ := res_some.1 h
    rw [← hsame (Nat.le_refl i) (by omega) b h1] at hg
    exact hI.bd b r o' h2 hg i (by omega) hnoW h1
  have hρ : EnvR (res φ (G i).next) a.eval (ρOf ops o (F i)) := by
    refine ρOf_rel fun t v hin hv => ?_
    obtain ⟨u, h1, h2⟩ := names_rel ht hm hT hI hr ho (looks_names hin) hv
    obtain ⟨ψ, u', h3, h4⟩ := hm.frame i (by omega) t v hv
    exact ⟨u, h1, VR.both h3 h2 h4⟩
  refine op_run hK hrec hsimr hρ (by rw [ρOf_op]; exact hop) hres ?_
  intro u w' φ' st hv
  have hfresh : ∀ b, (G i).next ≤ b → b < (G (i + 1)).next → φ b = none := by
    intro b h1 h2
    cases hb : φ b with
    | none => rfl
    | some r =>
      exfalso
      rcases hI.dom b r hb with h | ⟨k, e1, e2, e3, e4⟩
      · have := h0 b r h
        have := hm.le (Nat.zero_le i) (by omega)
        omega
      · by_cases hk : k = i
        · subst hk; exact hr.new e2
        · by_cases hk2 : k < i
          · have := hm.le (i := k + 1) (j := i) (by omega) (by omega)
            omega
          · have := hm.le (i := i + 1) (j := k) (by omega) (by omega)
            omega
  have hnm : (G (i + 1)).next ≤ (G m).next := hm.le (by omega) hI.hm
  obtain ⟨u1, u2, u3⟩ := union_sim hI.sim st hfresh hbar (fun b hb => hsame (by omega) (by omega) b hb) hnm
  refine ⟨m, uni φ φ', hI.hm, hI.mw, fun j hj hw => ?_, down_next hI.down hr hI.size, by simp [hI.size], u2, Ren.le_trans hI.ext (uni_le _ _), hI.below.trans (st.below.mono hI.sim.hb), fun b r h => ?_, ?_, fr_next ht hm hT hI hr ho (uni_le _ _) (hv.mono u1) hp, by rw [put_tsize]; exact hI.tsize, by rw [put_defers']; exact hI.defers⟩
  · rw [lst_set hi, ← hI.ws j hj hw]
    refine ⟨fun e => e.resolve_left (fun e => ?_), .inr⟩
    subst e; exact hnw hw
  · rcases u3 b r h with h | ⟨h1, h2, _⟩
    · rcases hI.dom b r h with h | ⟨k, e1, e2, e3⟩
      · exact .inl h
      · exact .inr ⟨k, e1, (lst_set hi k).2 (.inr e2), e3⟩
    · exact .inr ⟨i, hlt, (lst_set hi i).2 (.inl rfl), h1, h2⟩
  · intro b r o' h hg k hk hkw hbk
    rcases u3 b r h with h | ⟨h1, h2, h3⟩
    · exact (hI.bd b r o' h hg k hk hkw hbk).frame (res_mono (uni_le _ _) _) (st.below.block _ (hI.sim.cur b r h))
    · have hik : i + 1 ≤ k := by
        by_cases hq : i + 1 ≤ k
        · exact hq
        · have := hm.le (i := k) (j := i) (by omega) (by omega)
          omega
      rw [hsame (k := i + 1) (by omega) (by omega) b h2] at hg
      refine (st.sim.obj b r o' h3 hg).frame (le_res u1 fun b' r' h' => ?_) rfl
      have := st.sim.lt b' r' h'
      have := hm.le (i := i + 1) (j := k) hik (by have := hI.hm; omega)
      omega

/-- One that writes. -/
theorem next_Wr (hK : KnownOk P K) (hrec : RecOk P rec) (ht : Trace P K rec Wf bar ops F G C) (hm : Mem bar ops F G C) (hT : Tests ops G C) (hI : Inv D bar base ops F G C φ₀ w₀ listed a w m φ) (hr : Ready ops listed i)
    {o : Oper} (ho : ops[i]? = some o) (hc : (C i).isW) {bar' : Nat} (hb1 : bar ≤ bar') (hb2 : bar' ≤ (G i).next) {r : ARes} {v : Value} (hop : aop P bar' (aev (F i)) (G i) o.op = some r) (hp : (F i).put o.dst v = some (F (i + 1)))
    (hres : r = .val v (G (i + 1)) ∨ ∃ g args H₁, r = .call g args H₁ ∧ callA P K rec bar' g args H₁ = some (v, G (i + 1))) {Q : Exit → Act → World → Prop} :
    o.wpIn (Wd ol) 0 P a w (InvE D bar base ops F G C φ₀ w₀ (listed.setIfInBounds i true)) Q := by
  have hi : i < listed.size := by have := hr.lt; have := hI.size; omega
  have hlt := hr.lt
  have him : i = m := by
    have h1 : ¬ i < m := fun h => hr.new ((hI.ws i hlt hc).2 h)
    rcases hI.mw with h | h
    · omega
    · by_cases hne : i = m
      · exact hne
      · exfalso
        have hml : m < ops.size := by omega
        obtain ⟨b, hb⟩ : ∃ b, C i = .W b := by
          cases hcj : C i with
          | W b => exact ⟨b, rfl⟩
          | _ => rw [hcj] at hc; exact hc.elim
        have hord : bfr (Region.before ops) (min i m) (max i m) = true := by
          rcases hT.cls m i b hml hlt hb (fun e => hne e.symm) with h' | h'
          · rw [Nat.min_comm, Nat.max_comm]; exact h'
          · cases hcm : C m with
            | W b' => rw [hcm] at h'; simp [freeAt, clsFree] at h'
            | _ => rw [hcm] at h; exact h.elim
        have := (ordered hI.down hr hI.size hne hord).1 (by omega)
        rw [hI.ws m hml h] at this
        omega
  subst him
  have hρ : EnvR φ a.eval (ρOf ops o (F i)) := ρOf_rel fun t v hin hv => names_rel ht hm hT hI hr ho (looks_names hin) hv
  refine op_run hK hrec (hI.sim.raise' hb1 hb2) hρ (by rw [ρOf_op]; exact hop) hres ?_
  intro u w' φ' st hv
  have st := Step.lower' hI.sim hb1 hb2 st
  obtain ⟨m', n1, n2, n3, n4⟩ := next_W (ops := ops) (C := C) (ops.size - (i + 1)) (i + 1) (by omega)
  have hsame : ∀ {k : Nat}, i + 1 ≤ k → k ≤ m' → ∀ b, b < (G k).next → (G m').get b = (G k).get b := by
    intro k h1 h2 b hb
    exact hm.same h2 n2 hb (fun j j1 j2 hw _ => absurd hw (n4 j (by omega) j2))
  have hsim' : Sim φ' (G m') bar base w' := st.sim.extend (fun b hb => hsame (Nat.le_refl _) n1 b hb) (hm.le n1 n2) (hm.small m' n2)
  refine ⟨m', φ', n2, n3, fun j hj hw => ?_, down_next hI.down hr hI.size, by simp [hI.size], hsim', Ren.le_trans hI.ext st.ext, hI.below.trans st.below, fun b r h => ?_, ?_, fr_next ht hm hT hI hr ho st.ext hv hp, by rw [put_tsize]; exact hI.tsize, by rw [put_defers']; exact hI.defers⟩
  · rw [lst_set hi, hI.ws j hj hw]
    constructor
    · rintro (rfl | h) <;> omega
    · intro h
      by_cases hj2 : j = i
      · exact .inl hj2
      · by_cases hj3 : j < i
        · exact .inr hj3
        · exact absurd hw (n4 j (by omega) h)
  · by_cases hb : b < (G i).next
    · have h' := (st.new b r h).resolve_right (by omega)
      rcases hI.dom b r h' with h | ⟨k, e1, e2, e3⟩
      · exact .inl h
      · exact .inr ⟨k, e1, (lst_set hi k).2 (.inr e2), e3⟩
    · exact .inr ⟨i, hlt, (lst_set hi i).2 (.inl rfl), by omega, st.sim.lt b r h⟩
  · intro b r o' h hg k hk hkw hbk
    have hik : i + 1 ≤ k := by
      by_cases hq : i + 1 ≤ k
      · exact hq
      · exact absurd hc (hkw i (by omega) (by omega))
    rw [hsame (Nat.le_refl _) n1 b (st.sim.lt b r h)] at hg
    refine (st.sim.obj b r o' h hg).frame (le_res (Ren.le_refl _) fun b' r' h' => ?_) rfl
    have := st.sim.lt b' r' h'
    have := hm.le (i := i + 1) (j := k) hik (by omega)
    omega

end

end Go.Abs
