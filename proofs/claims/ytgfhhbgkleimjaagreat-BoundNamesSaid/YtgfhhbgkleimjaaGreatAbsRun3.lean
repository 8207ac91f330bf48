/- A machine that carries out code on values that are known, and the proof that the model's runs agree with it: one part. -/
import Derived.Test.YtgfhhbgkleimjaaGreatAbsRnd3
noncomputable section
namespace Go.Abs
variable {P : Program}

/-- A way to carry out regions that draw their order is sound. -/
def DrawOk (P : Program) (dr : Rec → Nat → Array Oper → Fr → AH → Option (Fr × AH)) : Prop :=
  ∀ rec, RecOk P rec → ∀ {bar : Nat} {id : Nat} {ops : Array Oper} {f f' : Fr} {H H' : AH}, dr rec bar ops f H = some (f', H') → ∀ {φ : Ren} {base : Nat} {w : World} {a : Act} {o : Option Nat}, Sim φ H bar base w → ActR φ o a f →
    (Code.region id ops true).wpIn (Wd o) 0 P (PostC φ H bar base w o .normal f' H') a w

theorem rounds_mono {F : Fence} {d : Nat} {c : Code} {Q Q' : Exit → Act → World → Prop} (hq : ∀ e a w, Q e a w → Q' e a w) : ∀ {n : Nat} {a : Act} {w : World}, Code.roundsIn F d P c Q n a w → Code.roundsIn F d P c Q' n a w
  | 0, _, _, h => h.elim
  | n + 1, a, w, h => by
    rw [roundsIn_succ] at h ⊢
    refine wpIn_mono h fun e a w q => ?_
    cases e <;> first | exact rounds_mono hq q | exact hq _ _ _ q

theorem eval_sound {K : Known} (hK : KnownOk P K) {dr : Rec → Nat → Array Oper → Fr → AH → Option (Fr × AH)} (hdr : DrawOk P dr) : ∀ n, RecOk P (evalA P K dr n)
  | 0 => { code := fun {_ _ _ _ _ _ _} h => (by cases h), loop := fun {_ _ _ _ _ _ _} h => (by cases h) }
  | n + 1 => by
    have ih := eval_sound hK hdr n
    have loop : ∀ {bar : Nat} {c : Code} {f : Fr} {H : AH} {e : AExit} {f' : Fr} {H' : AH}, evalA P K dr (n + 1) bar (.loop c) f H = some (e, f', H') → ∃ n, ∀ (φ : Ren) (base : Nat) (w : World) (a : Act) (o : Option Nat), Sim φ H bar base w → ActR φ o a f →
        Code.roundsIn (Wd o) 0 P c (PostC φ H bar base w o e f' H') n a w := by
      intro bar c f H e f' H' h
      have h : (match evalA P K dr n bar c f H with
        | some (.normal, f', H') => evalA P K dr n bar (.loop c) f' H'
        | r => r) = some (e, f', H') := h
      split at h
      · rename_i f₁ H₁ hb
        obtain ⟨m, hm⟩ := ih.loop h
        refine ⟨m + 1, fun φ base w a o hs hf => ?_⟩
        rw [roundsIn_succ]
        refine wpIn_mono (ih.code hb hs hf) ?_
        rintro ex a' w' ⟨rfl, φ', hst, hf'⟩
        exact rounds_mono (fun ex a'' w'' hp => hp.trans hst) (hm φ' base w' a' o hst.sim hf')
      · rename_i r hne
        refine ⟨1, fun φ base w a o hs hf => ?_⟩
        rw [roundsIn_succ]
        refine wpIn_mono (ih.code h hs hf) ?_
        rintro ex a' w' ⟨rfl, φ', hst, hf'⟩
        cases e with
        | normal => exact absurd h (hne _ _)
        | exit id => exact ⟨rfl, φ', hst, hf'⟩
        | ret => exact ⟨rfl, φ', hst, hf'⟩
    refine { loop := loop, code := ?_ }
    intro bar c f H e f' H' h φ base w a o hs hf
    cases c with
    | loop b =>
      obtain ⟨m, hm⟩ := loop h
      exact wpIn_loop_rounds m (hm φ base w a o hs hf)
    | skip => cases h; exact wpIn_skip ⟨rfl, φ, Step.refl hs, hf⟩
    | label l => cases h; exact wpIn_label ⟨rfl, φ, Step.refl hs, hf⟩
    | exit id => cases h; exact wpIn_exit ⟨rfl, φ, Step.refl hs, hf⟩
    | ret => cases h; exact wpIn_ret ⟨rfl, φ, Step.refl hs, hf⟩
    | region id ops draw =>
      have h : (if draw then (dr (evalA P K dr n) bar ops f H).map fun p => (AExit.normal, p.1, p.2)
        else (opersA P K (evalA P K dr n) bar ops ops.toList f H).map fun p => (AExit.normal, p.1, p.2)) = some (e, f', H') := h
      cases draw with
      | true =>
        rw [if_pos rfl, Option.map_eq_some_iff] at h
        obtain ⟨⟨f₁, H₁⟩, hr, h⟩ := h
        cases h
        exact hdr _ ih hr hs hf
      | false =>
        simp only [Bool.false_eq_true, if_false] at h
        rw [Option.map_eq_some_iff] at h
        obtain ⟨⟨f₁, H₁⟩, hr, h⟩ := h
        cases h
        refine wpIn_region_list (opers_sound hK ih hr hs hf ?_)
        intro a' w' φ' hst hf'
        exact ⟨rfl, φ', hst, hf'⟩
    | seq x y =>
      have h : (match evalA P K dr n bar x f H with
        | some (.normal, f', H') => evalA P K dr n bar y f' H'
        | r => r) = some (e, f', H') := h
      refine wpIn_seq ?_
      split at h
      · rename_i f₁ H₁ hb
        refine wpIn_mono (ih.code hb hs hf) ?_
        rintro ex a' w' ⟨rfl, φ', hst, hf'⟩
        refine wpIn_mono (ih.code h hst.sim hf') ?_
        intro ex a'' w'' hp
        exact hp.trans hst
      · rename_i r hne
        refine wpIn_mono (ih.code h hs hf) ?_
        rintro ex a' w' ⟨rfl, φ', hst, hf'⟩
        cases e with
        | normal => exact absurd h (hne _ _)
        | exit id => exact ⟨rfl, φ', hst, hf'⟩
        | ret => exact ⟨rfl, φ', hst, hf'⟩
    | cond x t el =>
      have h : (match aev f x with
        | some (.bool b) => evalA P K dr n bar (if b then t else el) f H
        | _ => none) = some (e, f', H') := h
      split at h
      · rename_i b hx
        have hv := aev_rel hf.fr x _ hx
        generalize hval : a.eval x = v at hv
        cases hv
        exact wpIn_cond hval (ih.code h hs hf)
      · cases h
    | block id b =>
      have h : (match evalA P K dr n bar b f H with
        | some (.exit id', f', H') => if id' = id then some (AExit.normal, f', H') else some (.exit id', f', H')
        | r => r) = some (e, f', H') := h
      refine wpIn_block ?_
      split at h
      · rename_i id' f₁ H₁ hb
        refine wpIn_mono (ih.code hb hs hf) ?_
        rintro ex a' w' ⟨rfl, φ', hst, hf'⟩
        split at h
        · rename_i hid
          cases h
          simp only [conc, Exit.inBlock, hid, if_true]
          exact ⟨rfl, φ', hst, hf'⟩
        · rename_i hid
          cases h
          simp only [conc, Exit.inBlock, hid, if_false]
          exact ⟨rfl, φ', hst, hf'⟩
      · rename_i r hne
        refine wpIn_mono (ih.code h hs hf) ?_
        rintro ex a' w' ⟨rfl, φ', hst, hf'⟩
        cases e with
        | normal => exact ⟨rfl, φ', hst, hf'⟩
        | exit id => exact absurd h (hne _ _ _)
        | ret => exact ⟨rfl, φ', hst, hf'⟩
    | scope b =>
      have h : evalA P K dr n bar b f H = some (e, f', H') := h
      refine wpIn_scope_straight (wpIn_mono (ih.code h hs hf) ?_)
      rintro ex a' w' ⟨rfl, φ', hst, hf'⟩
      cases e <;> exact ⟨rfl, φ', hst, hf'⟩
    | rangeFunc x ps assign body => exact range_sound hK ih h hs hf
    | _ => cases h

end Go.Abs
