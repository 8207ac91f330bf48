/- A machine that carries out code on values that are known, and the proof that the model's runs agree with it: one part. -/
import Derived.Test.YtgfhhbgkleimjaaGreatAbsMemo
noncomputable section
namespace Go.Abs
variable {P : Program}

/-- Blocks one after the other. -/
def pushes : AH → List AObj → AH
  | H, [] => H
  | H, o :: os => pushes { next := H.next + 1, m := Tr.set 18 H.m H.next o } os

def H0 : AH := { next := 0, m := Tr.empty 18 }

theorem pushes_spec : ∀ (os : List AObj) (H : AH), H.next + os.length ≤ 262144 → (pushes H os).next = H.next + os.length ∧ ∀ b, b < 262144 → (pushes H os).get b = if H.next ≤ b ∧ b < H.next + os.length then os[b - H.next]? else H.get b
  | [], H, h => ⟨rfl, fun b hb => by rw [if_neg (by simp <;> omega)]; rfl⟩
  | o :: os, H, h => by
    simp only [List.length_cons] at h
    obtain ⟨h1, h2⟩ := pushes_spec os { next := H.next + 1, m := Tr.set 18 H.m H.next o } (by show H.next + 1 + os.length ≤ _; omega)
    have hg : ∀ b, b < 262144 → AH.get { next := H.next + 1, m := Tr.set 18 H.m H.next o } b = if b = H.next then some o else H.get b := fun b hb => Tr.get_set 18 H.m H.next b o (by omega) hb
    refine ⟨by show (pushes _ os).next = _; rw [h1]; simp only [List.length_cons]; omega, fun b hb => ?_⟩
    show (pushes _ os).get b = _
    rw [h2 b hb, hg b hb]
    simp only [List.length_cons]
    by_cases e1 : b = H.next
    · subst e1
      rw [if_neg (by omega), if_pos rfl, if_pos (by omega)]
      simp
    · by_cases e2 : H.next + 1 ≤ b ∧ b < H.next + 1 + os.length
      · rw [if_pos e2, if_pos (by omega)]
        have : b - H.next = (b - (H.next + 1)) + 1 := by omega
        rw [this, List.getElem?_cons_succ]
      · rw [if_neg e2, if_neg e1, if_neg (by omega)]

theorem H0_get (b : Nat) : H0.get b = none := Tr.get_empty 18 b

theorem heapOf_spec {os : List AObj} (h : os.length ≤ 262144) : (pushes H0 os).next = os.length ∧ ∀ b, b < 262144 → (pushes H0 os).get b = os[b]? := by
  obtain ⟨h1, h2⟩ := pushes_spec os H0 (by show 0 + _ ≤ _; omega)
  have h0 : H0.next = 0 := rfl
  rw [h0] at h1 h2
  refine ⟨by omega, fun b hb => ?_⟩
  rw [h2 b hb]
  by_cases e : 0 ≤ b ∧ b < 0 + os.length
  · rw [if_pos e]; simp
  · rw [if_neg e, H0_get, List.getElem?_eq_none (by omega)]

structure Ent where
  g : FuncId
  args : List Value
  ins : List AObj
  v : Value
  outs : List AObj

/-- The answer of an entry is the function's. -/
def EntOk (P : Program) (e : Ent) : Prop := e.ins.length + e.outs.length ≤ 262144 ∧ ∀ ψ w args', Sim ψ (pushes H0 e.ins) e.ins.length w.heap.size w → VRs ψ args'.toList e.args →
  Calls P e.g args' w fun ex w' => ∃ u ψ', ex = .returned u ∧ VR ψ' u e.v ∧ Step ψ (pushes H0 e.ins) e.ins.length w.heap.size w ψ' (pushes H0 (e.ins ++ e.outs)) w'

def range (n : Nat) : Rho := List.range n

def outOk (e : Ent) (v : Value) (H : AH) : Bool :=
  match mV 8 (List.range e.ins.length) e.v v with
  | none => false
  | some ρ => match mOs H e.ins.length ρ e.outs with
    | none => false
    | some ρ' => Nat.beq ρ'.length (e.ins.length + e.outs.length)

def checkE (P : Program) (K : Known) (rec : Rec) (e : Ent) : Bool :=
  Nat.ble (e.ins.length + e.outs.length) 262144 &&
  match callA P K rec e.ins.length e.g e.args.toArray (pushes H0 e.ins) with
  | none => false
  | some (v, H) => outOk e v H

theorem ent_ok {K : Known} (hK : KnownOk P K) {rec : Rec} (hrec : RecOk P rec) {e : Ent} (h : checkE P K rec e = true) : EntOk P e := by
  unfold checkE at h
  rw [Bool.and_eq_true] at h
  obtain ⟨hsz, h⟩ := h
  have hsz := Nat.le_of_ble_eq_true hsz
  refine ⟨hsz, fun ψ w args' hs hv => ?_⟩
  split at h
  · cases h
  · rename_i v₁ H₁ hc
    unfold outOk at h
    split at h
    · cases h
    · rename_i ρ h1
      split at h
      · cases h
      · rename_i ρ₁ h2
        have hlen := Nat.eq_of_beq_eq_true h
        obtain ⟨x1, m1⟩ := mV_spec _ _ _ _ _ h1
        obtain ⟨x2, m2⟩ := mOs_spec h2
        have x3 := x1.trans x2
        have hnd : ρ₁.Nodup := x3.nd List.nodup_range
        obtain ⟨i1, i2⟩ := heapOf_spec (os := e.ins) (by omega)
        obtain ⟨o1, o2⟩ := heapOf_spec (os := e.ins ++ e.outs) (by simp; omega)
        simp only [List.length_append] at o1
        refine Calls.mono (call_sound hK hrec hc hs (by simpa using hv)) ?_
        rintro ex w' ⟨u, φ₁, rfl, hu, st⟩
        have low : ∀ b, b < e.ins.length → ρ₁[b]? = some b := fun b hb => x3.get (by simp [hb])
        have injR : ∀ {b b' x : Nat}, ρ₁[b]? = some x → ρ₁[b']? = some x → b = b' := by
          intro b b' x hb hb'
          obtain ⟨q1, q2⟩ := List.getElem?_eq_some_iff.1 hb
          obtain ⟨q3, q4⟩ := List.getElem?_eq_some_iff.1 hb'
          exact (List.getElem_inj (h₀ := q1) (h₁ := q3) hnd).1 (q2.trans q4.symm)
        have high : ∀ {b x : Nat}, ρ₁[b]? = some x → e.ins.length ≤ b → e.ins.length ≤ x := by
          intro b x hb hle
          by_cases hx : e.ins.length ≤ x
          · exact hx
          · have := injR hb (low x (by omega))
            omega
        have bnd : ∀ {b x : Nat}, ρ₁[b]? = some x → b < e.ins.length + e.outs.length := by
          intro b x hb
          have := (List.getElem?_eq_some_iff.1 hb).1
          omega
        have back : ∀ b r, b < e.ins.length → φ₁ b = some r → ψ b = some r := by
          intro b r hb hr
          rcases st.new b r hr with q | q
          · exact q
          · rw [i1] at q; omega
        have olow : ∀ b, b < e.ins.length → (pushes H0 (e.ins ++ e.outs)).get b = (pushes H0 e.ins).get b := by
          intro b hb
          rw [o2 b (by omega), i2 b (by omega), List.getElem?_append_left hb]
        have ohigh : ∀ b, e.ins.length ≤ b → b < 262144 → (pushes H0 (e.ins ++ e.outs)).get b = e.outs[b - e.ins.length]? := by
          intro b hb hb'
          rw [o2 b hb', List.getElem?_append_right hb]
        have olive : ∀ {b x : Nat}, ρ₁[b]? = some x → (pushes H0 (e.ins ++ e.outs)).live b → H₁.live x := by
          intro b x hb ⟨o, ho, hd⟩
          have hbb := bnd hb
          by_cases hl : b < e.ins.length
          · rw [olow b hl] at ho
            rw [low b hl] at hb
            cases hb
            exact ⟨o, by rw [st.keep b hl (by rw [i1]; exact hl)]; exact ho, hd⟩
          · rw [ohigh b (by omega) (by omega)] at ho
            obtain ⟨y, o', k1, k2, k3, k4⟩ := m2 _ _ ho
            rw [show e.ins.length + (b - e.ins.length) = b by omega, hb] at k1
            cases k1
            exact ⟨o', k2, k4 hd⟩
        have hle : ψ.le (comp φ₁ ρ₁) := by
          intro b r hb
          have hlt := hs.lt b r hb
          rw [i1] at hlt
          exact comp_some.2 ⟨b, low b hlt, st.ext b r hb⟩
        refine ⟨u, comp φ₁ ρ₁, rfl, (m1.ext x2) φ₁ u hu, hle, ⟨?_, ?_, ?_, ?_, ?_, ?_, ?_, ?_⟩, ?_, st.below, ?_, ?_⟩
        · omega
        · omega
        · intro b r hb
          obtain ⟨x, q1, q2⟩ := comp_some.1 hb
          have := bnd q1
          omega
        · intro b r o hb ho
          obtain ⟨x, q1, q2⟩ := comp_some.1 hb
          have hbb := bnd q1
          by_cases hl : b < e.ins.length
          · rw [olow b hl] at ho
            rw [low b hl] at q1
            cases q1
            have hψ := back b r hl q2
            exact (hs.obj b r o hψ ho).frame hle (st.below.block _ (hs.cur b r hψ))
          · rw [ohigh b (by omega) (by omega)] at ho
            obtain ⟨y, o', k1, k2, k3, k4⟩ := m2 _ _ ho
            rw [show e.ins.length + (b - e.ins.length) = b by omega, q1] at k1
            cases k1
            exact k3 _ _ _ (st.sim.obj _ r o' q2 k2)
        · intro b b' r r' hb hb' hl hl' hbar hc
          obtain ⟨x, q1, q2⟩ := comp_some.1 hb
          obtain ⟨x', q3, q4⟩ := comp_some.1 hb'
          have := st.sim.inj x x' r r' q2 q4 (olive q1 hl) (olive q3 hl') (high q1 hbar) hc
          subst this
          exact injR q1 q3
        · intro b r hb hbar
          obtain ⟨x, q1, q2⟩ := comp_some.1 hb
          exact st.sim.own x r q2 (high q1 hbar)
        · exact st.sim.hb
        · intro b r hb
          obtain ⟨x, q1, q2⟩ := comp_some.1 hb
          exact st.sim.cur x r q2
        · intro b r hb
          obtain ⟨x, q1, q2⟩ := comp_some.1 hb
          by_cases hl : b < e.ins.length
          · rw [low b hl] at q1
            cases q1
            exact .inl (back b r hl q2)
          · exact .inr (by omega)
        · omega
        · intro b hb hb'
          exact olow b hb

end Go.Abs
