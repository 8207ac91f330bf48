/- A machine that carries out code on values that are known, and the proof that the model's runs agree with it: one part. -/
import Derived.Test.YtfmbgbicbpoolaaGreatAbsRun2
noncomputable section
namespace Go.Abs
variable {P : Program}

/-- A way to carry out regions that draw their order is sound. -/
def DrawOk (P : Program) (dr : Rec → Nat → Array Oper → Fr → AH → Option (Fr × AH)) : Prop :=
  ∀ rec, RecOk P rec → ∀ {bar : Nat} {id : Nat} {ops : Array Oper} {f f' : Fr} {H H' : AH}, dr rec bar ops f H = some (f', H') → ∀ {φ : Ren} {base : Nat} {w : World} {a : Act}, Sim φ H bar base w → FrR φ a.tmps f → a.defers = [] →
    (Code.region id ops true).wp P (PostC φ H bar base w .normal f' H') a w

theorem rounds_mono {c : Code} {Q Q' : Exit → Act → World → Prop} (hq : ∀ e a w, Q e a w → Q' e a w) : ∀ {n : Nat} {a : Act} {w : World}, Code.rounds P c Q n a w → Code.rounds P c Q' n a w
  | 0, _, _, h => h.elim
  | n + 1, a, w, h => by
    rw [rounds_succ] at h ⊢
    refine wp_mono h fun e a w q => ?_
    cases e <;> first | exact rounds_mono hq q | exact hq _ _ _ q

theorem eval_sound {K : Known} (hK : KnownOk P K) {dr : Rec → Nat → Array Oper → Fr → AH → Option (Fr × AH)} (hdr : DrawOk P dr) : ∀ n, RecOk P (evalA P K dr n)
  | 0 => { code := fun {_ _ _ _ _ _ _} h => (by cases h), loop := fun {_ _ _ _ _ _ _} h => (by cases h) }
  | n + 1 => by
    have ih := eval_sound hK hdr n
    have loop : ∀ {bar : Nat} {c : Code} {f : Fr} {H : AH} {e : AExit} {f' : Fr} {H' : AH}, evalA P K dr (n + 1) bar (.loop c) f H = some (e, f', H') → ∃ n, ∀ (φ : Ren) (base : Nat) (w : World) (a : Act), Sim φ H bar base w → FrR φ a.tmps f → a.defers = [] →
        Code.rounds P c (PostC φ H bar base w e f' H') n a w := by
      intro bar c f H e f' H' h
      have h : (match evalA P K dr n bar c f H with
        | some (.normal, f', H') => evalA P K dr n bar (.loop c) f' H'
        | r => r) = some (e, f', H') := h
      split at h
      · rename_i f₁ H₁ hb
        obtain ⟨m, hm⟩ := ih.loop h
        refine ⟨m + 1, fun φ base w a hs hf hd => ?_⟩
        rw [rounds_succ]
        refine wp_mono (ih.code hb hs hf hd) ?_
        rintro ex a' w' ⟨rfl, hd', φ', hst, hf'⟩
        exact rounds_mono (fun ex a'' w'' hp => hp.trans hst) (hm φ' base w' a' hst.sim hf' hd')
      · rename_i r hne
        refine ⟨1, fun φ base w a hs hf hd => ?_⟩
        rw [rounds_succ]
        refine wp_mono (ih.code h hs hf hd) ?_
        rintro ex a' w' ⟨rfl, hd', φ', hst, hf'⟩
        cases e with
        | normal => exact absurd h (hne _ _)
        | exit id => exact ⟨rfl, hd', φ', hst, hf'⟩
        | ret => exact ⟨rfl, hd', φ', hst, hf'⟩
    refine { loop := loop, code := ?_ }
    intro bar c f H e f' H' h φ base w a hs hf hd
    cases c with
    | loop b =>
      obtain ⟨m, hm⟩ := loop h
      exact wp_loop_rounds m (hm φ base w a hs hf hd)
    | skip => cases h; exact wp_skip ⟨rfl, hd, φ, Step.refl hs, hf⟩
    | label l => cases h; exact wp_label ⟨rfl, hd, φ, Step.refl hs, hf⟩
    | exit id => cases h; exact wp_exit ⟨rfl, hd, φ, Step.refl hs, hf⟩
    | ret => cases h; exact wp_ret ⟨rfl, hd, φ, Step.refl hs, hf⟩
    | region id ops draw =>
      have h : (if draw then (dr (evalA P K dr n) bar ops f H).map fun p => (AExit.normal, p.1, p.2)
        else (opersA P K (evalA P K dr n) bar ops ops.toList f H).map fun p => (AExit.normal, p.1, p.2)) = some (e, f', H') := h
      cases draw with
      | true =>
        rw [if_pos rfl, Option.map_eq_some_iff] at h
        obtain ⟨⟨f₁, H₁⟩, hr, h⟩ := h
        cases h
        exact hdr _ ih hr hs hf hd
      | false =>
        simp only [Bool.false_eq_true, if_false] at h
        rw [Option.map_eq_some_iff] at h
        obtain ⟨⟨f₁, H₁⟩, hr, h⟩ := h
        cases h
        refine wp_region_list (opers_sound hK ih hr hs hf hd ?_)
        intro a' w' φ' hd' hst hf'
        exact ⟨rfl, hd', φ', hst, hf'⟩
    | seq x y =>
      have h : (match evalA P K dr n bar x f H with
        | some (.normal, f', H') => evalA P K dr n bar y f' H'
        | r => r) = some (e, f', H') := h
      refine wp_seq ?_
      split at h
      · rename_i f₁ H₁ hb
        refine wp_mono (ih.code hb hs hf hd) ?_
        rintro ex a' w' ⟨rfl, hd', φ', hst, hf'⟩
        refine wp_mono (ih.code h hst.sim hf' hd') ?_
        intro ex a'' w'' hp
        exact hp.trans hst
      · rename_i r hne
        refine wp_mono (ih.code h hs hf hd) ?_
        rintro ex a' w' ⟨rfl, hd', φ', hst, hf'⟩
        cases e with
        | normal => exact absurd h (hne _ _)
        | exit id => exact ⟨rfl, hd', φ', hst, hf'⟩
        | ret => exact ⟨rfl, hd', φ', hst, hf'⟩
    | cond x t el =>
      have h : (match aev f x with
        | some (.bool b) => evalA P K dr n bar (if b then t else el) f H
        | _ => none) = some (e, f', H') := h
      split at h
      · rename_i b hx
        have hv := aev_rel hf x _ hx
        generalize hval : a.eval x = v at hv
        cases hv
        exact wp_cond hval (ih.code h hs hf hd)
      · cases h
    | block id b =>
      have h : (match evalA P K dr n bar b f H with
        | some (.exit id', f', H') => if id' = id then some (AExit.normal, f', H') else some (.exit id', f', H')
        | r => r) = some (e, f', H') := h
      refine wp_block ?_
      split at h
      · rename_i id' f₁ H₁ hb
        refine wp_mono (ih.code hb hs hf hd) ?_
        rintro ex a' w' ⟨rfl, hd', φ', hst, hf'⟩
        split at h
        · rename_i hid
          cases h
          simp only [conc, Exit.inBlock, hid, if_true]
          exact ⟨rfl, hd', φ', hst, hf'⟩
        · rename_i hid
          cases h
          simp only [conc, Exit.inBlock, hid, if_false]
          exact ⟨rfl, hd', φ', hst, hf'⟩
      · rename_i r hne
        refine wp_mono (ih.code h hs hf hd) ?_
        rintro ex a' w' ⟨rfl, hd', φ', hst, hf'⟩
        cases e with
        | normal => exact ⟨rfl, hd', φ', hst, hf'⟩
        | exit id => exact absurd h (hne _ _ _)
        | ret => exact ⟨rfl, hd', φ', hst, hf'⟩
    | scope b =>
      have h : evalA P K dr n bar b f H = some (e, f', H') := h
      refine wp_scope_straight (wp_mono (ih.code h hs hf hd) ?_)
      rintro ex a' w' ⟨rfl, hd', φ', hst, hf'⟩
      cases e <;> exact ⟨rfl, hd', φ', hst, hf'⟩
    | _ => cases h

end Go.Abs
