/- A machine that carries out code on values that are known, and the proof that the model's runs agree with it: one part. -/
import Derived.Test.YtgfhhbgkleimjaaGreatAbsRnd2
noncomputable section
namespace Go.Abs
variable {P : Program} {φ : Ren} {H H' : AH} {bar base : Nat} {w : World}

section
variable {F : Fence} {n : Nat} {Q : Exit → Act → World → Prop} {a : Act} {b : Frame} {k : List Item} {cs : List Frame}

theorem stepR_scope {c : Code} : step P (lone (b.atR a (.code (.scope c) :: k)) cs w) = .next (lone (b.atR a (.code c :: .inScope c :: k)) cs w) :=
  step_lone_go (by simp [stepG, stepG.exec, Frame.atR])
theorem stepR_inScope {c : Code} : step P (lone (b.atR a (.inScope c :: k)) cs w) = .next (lone (b.atR a k) cs w) :=
  step_lone_go (by simp [stepG, stepG.exec, Frame.atR])

theorem wpIn_scope_straight {c : Code} (h : c.wpIn F n P (Exit.noGoto Q) a w) : (Code.scope c).wpIn F n P Q a w := by
  intro b k cs hro hb hr
  have h0 : (lone (b.atR a (.code (.scope c) :: k)) cs w).fenced P F := fenced_calm hb hr rfl
  obtain ⟨e, a₁, w₁, hq, harr⟩ := h b (.inScope c :: k) cs hro hb hr
  cases e with
  | normal => exact ⟨.normal, a₁, w₁, hq, .head h0 stepR_scope (StepsIn.trans harr (.one (fenced_calm hb hr rfl) stepR_inScope))⟩
  | exit id =>
    have hx : exitTo id (.inScope c :: k) = exitTo id k := by simp [exitTo]
    exact ⟨.exit id, a₁, w₁, hq, fun k' hk => .head h0 stepR_scope (harr.1 k' (by rw [hx]; exact hk)),
      fun hr' hk => let ⟨k₁, h1, h2⟩ := harr.2 hr' (by rw [hx]; exact hk); ⟨k₁, h1, .head h0 stepR_scope h2⟩⟩
  | goto l => exact hq.elim
  | ret => exact ⟨_, a₁, w₁, hq, .of_steps (.one h0 stepR_scope) harr⟩
  | panic ch => exact ⟨_, a₁, w₁, hq, .of_steps (.one h0 stepR_scope) harr⟩
  | outgrown => exact ⟨_, a₁, w₁, hq, .of_steps (.one h0 stepR_scope) harr⟩
end

theorem range_sound {K : Known} (hK : KnownOk P K) {rec : Rec} (hrec : RecOk P rec) {x : Operand} {ps : Array Tmp} {assign body : Code} {f f' : Fr} {e : AExit} (h : rangeA P K rec bar x ps assign body f H = some (e, f', H'))
    (hs : Sim φ H bar base w) {a : Act} {o : Option Nat} (ha : ActR φ o a f) : (Code.rangeFunc x ps assign body).wpIn (Wd o) 0 P (PostC φ H bar base w o e f' H') a w := by
  unfold rangeA at h
  split at h
  · rename_i g first captured hx
    split at h
    · cases h
    · rename_i f₁ H₁ hen
      split at h
      · cases h
      · rename_i v H₂ hcall
        split at hcall
        · rename_i g' args H₁' hcf
          split at h
          · rename_i st pd n m ps' as' bd' hg
            refine wpIn_rangeFunc (F := Wd o) fun fn _ => ?_
            obtain ⟨l, mark, w₁, φ₁, r, h1, h2, h3, h4, h5, h6⟩ := enter_sound (P := P) hen hs ha fn
            have hv := aev_rel ha.fr x _ hx
            generalize hval : a.eval x = vx at hv
            cases hv with
            | func hf hc =>
              rename_i f1 c1
              have hres : (resolve a.eval (rangeCall x l) 0).run P w₁ = .ok { target := .fn (.func g) c1, args := f1 ++ #[Value.func (.yield l) #[] #[]] } w₁ := by
                unfold resolve rangeCall
                simp only [hval]
                simp [Deferred.ofValue, Act.eval]
              have hargs : VRs φ₁ (f1 ++ #[Value.func (.yield l) #[] #[]] ++ c1).toList (first.toList ++ [Value.func (.yield (Nat.pred H₁.next)) #[] #[]] ++ captured.toList) := by
                have hy : VR φ₁ (.func (.yield l) #[] #[]) (.func (.yield (Nat.pred H₁.next)) #[] #[]) := by rw [← h4]; exact .yield h3
                simpa using ((VRs.mono h2.ext hf).append (.cons hy .nil)).append (VRs.mono h2.ext hc)
              obtain ⟨rfl, args', w₁', k1, rfl, k2⟩ := snd_callFunc h2.sim hargs hcf
              have hcs := (callsIn_wide (n := 0)).2 (call_sound hK hrec hcall h2.sim k2)
              refine ⟨l, mark, _, _, _, _, _, _, h1, hres, fun _ _ => trivial, k1, fun h => (by cases h), ?_⟩
              refine CallsIn.mono (F := Wd o) (n := 0) hcs ?_
              rintro en w₃ ⟨u, φ₃, rfl, q1, q2⟩
              have hφ₃ := q2.ext _ _ h3
              obtain ⟨y, hy, y1, y2, y3⟩ := q2.sim.obj _ r _ hφ₃ hg
              have hlt := q2.sim.cur _ r hφ₃
              have key : ∀ (hb : st ≠ .busy) (e' : AExit), leaveA pd = some e' → (e', f₁, H₂.put (Nat.pred H₁'.next) .dead) = (e, f', H') →
                  rangePost (Wd o) 0 P l (PostC φ H bar base w o e f' H') { a with defers := mark ++ a.defers } (.returned u) w₃ := by
                intro hb e' hl he
                cases he
                subst h4
                refine ⟨_, _, run_endLoop hy (by rw [y1]; exact hb), ?_⟩
                have hon : Only r.c w₃ (w₃.putObj r.c (.loop { y with state := .exhausted })) := ⟨rfl, rfl, rfl, by simp, fun k hk => World.putObj_heap_other hk⟩
                have st4 : Step φ₃ H₂ bar base w₃ φ₃ (H₂.put (Nat.pred H₁'.next) .dead) (w₃.putObj r.c (.loop { y with state := .exhausted })) :=
                  q2.sim.update hφ₃ h5 ⟨_, hg, by simp⟩ hon trivial
                have hall := (h2.trans q2).trans st4
                have hact := h6.mono (Ren.le_trans q2.ext st4.ext)
                generalize w₃.putObj r.c (.loop { y with state := .exhausted }) = W at hall ⊢
                rw [y2]
                unfold leaveA at hl
                split at hl
                · cases hl
                  exact ⟨rfl, φ₃, hall, hact⟩
                · cases hl
                  exact wpIn_ret ⟨rfl, φ₃, hall, hact⟩
                · cases hl
                  exact wpIn_exit ⟨rfl, φ₃, hall, hact⟩
                · cases hl
              cases st with
              | busy => cases h
              | ready =>
                simp only at h
                split at h
                · rename_i e' hl
                  exact key (by simp) e' hl (Option.some.inj h)
                · cases h
              | done =>
                simp only at h
                split at h
                · rename_i e' hl
                  exact key (by simp) e' hl (Option.some.inj h)
                · cases h
              | exhausted =>
                simp only at h
                split at h
                · rename_i e' hl
                  exact key (by simp) e' hl (Option.some.inj h)
                · cases h
          · cases h
        · cases hcall
  · cases h

end Go.Abs
