/- A machine that carries out code on values that are known, and the proof that the model's runs agree with it: one part. -/
import Derived.Test.YtgfhhbgkleimjaaGreatAbsRnd
noncomputable section
namespace Go.Abs
variable {P : Program} {φ : Ren} {H H' : AH} {bar base : Nat} {w : World}

theorem yield_call {ρ : Env} {op : Op} {b : Nat} {args : List Value} (h : yieldA ρ op = some (b, args)) : ∃ c x f1 c1, op = .call c ∧ c.callee = .value x ∧ ρ x = some (.func (.yield b) f1 c1) ∧ mapEnv ρ c.args.toList = some args := by
  unfold yieldA at h
  split at h
  · rename_i c
    split at h
    · rename_i x hc
      split at h
      · rename_i b' f1 c1 hx
        rw [Option.map_eq_some_iff] at h; obtain ⟨l, hl, h⟩ := h
        cases h
        exact ⟨c, x, f1, c1, rfl, hc, hx, hl⟩
      · cases h
    · cases h
  · cases h

theorem operY_sound {K : Known} (hK : KnownOk P K) {rec : Rec} (hrec : RecOk P rec) {ops : Array Oper} {o : Oper} {f f' : Fr} (h : operY P K rec bar ops o f H = some (f', H')) (hs : Sim φ H bar base w)
    {a : Act} {l : Option Nat} (hf : ActR φ l a f) {next : Act → World → Prop} {Q : Exit → Act → World → Prop} (hn : ∀ a' w' φ', Step φ H bar base w φ' H' w' → ActR φ' l a' f' → next a' w') :
    if Region.wanted o (yielded ops a.tmps) then o.wpIn (Wd l) 0 P a w next Q else (∀ f, o.about P w a.eval = some f → (Wd l).fn f) ∧ next (a.put o.dst undef) w := by
  unfold operY at h
  split at h
  · exact oper_sound hK hrec h hs hf hn
  · rename_i b args hy
    split at h
    · cases h
    · rename_i hg
      split at h
      · cases h
      · rename_i v H₁ hr
        rw [Option.map_eq_some_iff] at h; obtain ⟨f₁, hp, h⟩ := h
        cases h
        have hw : Region.wanted o (yielded ops a.tmps) = true := by unfold Region.wanted; rw [hg]
        rw [if_pos hw]
        refine ⟨fun _ _ => trivial, ?_⟩
        obtain ⟨c, x, f1, c1, hop, hc, hx, hargs⟩ := yield_call hy
        have hρ := aev_rel hf.fr
        have hv := hρ x _ hx
        have hrel := mapEnv_rel hρ hargs
        generalize hval : a.eval x = vx at hv
        cases hv with
        | yield hφ =>
          rename_i r
          have hsem : Oper.semAt (Wd l).round a.eval o = Instr.yield r.c (#[] ++ c.args.map a.eval) := by
            have e1 : Oper.semAt (Wd l).round a.eval o = execOp a.eval o := by
              cases l with
              | none => exact Oper.semAt_none _ _
              | some l => exact Oper.semAt_some l _ o (fun c' e => by rw [hop] at e; cases e)
            rw [e1]
            unfold execOp
            rw [hop]
            show (do let d ← resolve a.eval c o.type; invoke d.target d.args : Sem Next) = _
            unfold resolve
            rw [hc]
            simp only [hval]
            rfl
          have hrel' : VRs φ (#[] ++ c.args.map a.eval).toList args := by simpa using hrel
          obtain ⟨y, hy1, hy2, hy3⟩ := round_sound hrec hr hs hφ hrel'
          rw [hsem, run_yield hy1 hy2]
          refine ⟨(fun h => by cases h), ?_⟩
          refine RoundIn.mono (F := Wd l) (n := 0) hy3 ?_
          rintro e w'' ⟨u, φ', rfl, k1, k2⟩
          exact hn _ _ φ' k2 ((hf.mono k2.ext).put k1 hp)

theorem opers_sound {K : Known} (hK : KnownOk P K) {rec : Rec} (hrec : RecOk P rec) {ops : Array Oper} {l : Option Nat} {Q : Exit → Act → World → Prop} : ∀ {os : List Oper} {f f' : Fr} {H : AH} {φ : Ren} {w : World} {a : Act}, opersA P K rec bar ops os f H = some (f', H') →
    Sim φ H bar base w → ActR φ l a f → (∀ a' w' φ', Step φ H bar base w φ' H' w' → ActR φ' l a' f' → Q .normal a' w') → wpListIn (Wd l) 0 P ops Q os a w
  | [], f, f', H, φ, w, a, h, hs, hf, hq => by
    cases h
    exact hq a w φ (Step.refl hs) hf
  | o :: os, f, f', H, φ, w, a, h, hs, hf, hq => by
    unfold opersA at h
    split at h
    · cases h
    · rename_i f₁ H₁ ho
      unfold wpListIn
      refine operY_sound hK hrec ho hs hf fun a' w' φ' hst hf' => ?_
      exact opers_sound hK hrec h hst.sim hf' fun a'' w'' φ'' hst' hf'' => hq a'' w'' φ'' (hst.trans hst') hf''

/-- The loop's record is laid. -/
theorem enter_sound {f f' : Fr} {H₁ : AH} {ps : Array Tmp} {assign body : Code} (h : enterA f ps assign body H = some (f', H₁)) (hs : Sim φ H bar base w) {a : Act} {o : Option Nat} (ha : ActR φ o a f) (fn : FuncId) :
    ∃ l mark w₁ φ₁ r, (Instr.enterLoop fn a.tmps ps assign body o).run P w = .ok (l, mark) w₁ ∧ Step φ H bar base w φ₁ H₁ w₁ ∧ φ₁ (Nat.pred H₁.next) = some r ∧ r.c = l ∧ bar ≤ Nat.pred H₁.next ∧
      ActR φ₁ o { a with defers := mark ++ a.defers } f' := by
  unfold enterA at h
  have hrd := ha.rd
  split at h
  · rename_i hr
    rw [hr] at hrd
    cases o with
    | some l => exact hrd.elim
    | none =>
      split at h
      · cases h
      · rename_i H₂ hal
        rw [Option.map_eq_some_iff] at h; obtain ⟨H₃, hal2, h⟩ := h
        cases h
        have st1 : Step φ H bar base w (upd φ H.next ⟨w.heap.size, 0, 0, 0, 0⟩) H₂ (w.alloc (.deferred (some []))) :=
          hs.alloc hal _ rfl (World.alloc_heap_new w _)
        have hsz : (w.alloc (.deferred (some []))).heap.size = w.heap.size + 1 := by show (w.heap.push _).size = _; simp
        have ha1 := ha.mono st1.ext
        have st2 : Step (upd φ H.next ⟨w.heap.size, 0, 0, 0, 0⟩) H₂ bar base (w.alloc (.deferred (some []))) (upd (upd φ H.next ⟨w.heap.size, 0, 0, 0, 0⟩) H₂.next ⟨w.heap.size + 1, 0, 0, 0, 0⟩) H₁
            ((w.alloc (.deferred (some []))).alloc (.loop { state := .ready, pending := none, fn, tmps := a.tmps, params := ps, assign, body, defers := w.heap.size })) :=
          st1.sim.alloc hal2 ⟨w.heap.size + 1, 0, 0, 0, 0⟩ hsz.symm
            ⟨_, by have := World.alloc_heap_new (w.alloc (.deferred (some []))) (.loop { state := .ready, pending := none, fn, tmps := a.tmps, params := ps, assign, body, defers := w.heap.size }); rw [hsz] at this; exact this,
              rfl, rfl, (fr_tmps ha1.fr).mono (upd_le st1.sim _), rfl, rfl, rfl⟩
        obtain ⟨n1, n2, _⟩ := AH.alloc_eq hal
        obtain ⟨n3, n4, _⟩ := AH.alloc_eq hal2
        have hpred : Nat.pred H₁.next = H₂.next := by rw [n4]; rfl
        have hbn := hs.bn
        refine ⟨_, _, _, _, ⟨w.heap.size + 1, 0, 0, 0, 0⟩, run_enterLoop_outer fn a.tmps ps assign body, st1.trans st2, by rw [hpred]; exact upd_self _ _ _, rfl, by rw [hpred]; omega, ?_⟩
        have ha2 := ha1.mono st2.ext
        exact ⟨⟨ha2.fr.size, ha2.fr.small, ha2.fr.get⟩, ⟨⟨_, st2.ext _ _ (upd_self _ _ _), rfl⟩, ha2.ds⟩, ha2.rd⟩
  · rename_i b hr
    rw [hr] at hrd
    cases o with
    | none => exact hrd.elim
    | some l =>
      obtain ⟨r₀, hφ₀, rfl⟩ := hrd
      split at h
      · rename_i hg
        rw [Option.map_eq_some_iff] at h; obtain ⟨H₃, hal2, h⟩ := h
        cases h
        obtain ⟨x₀, hx₀, _⟩ := hs.obj b r₀ _ hφ₀ hg
        have st2 : Step φ H bar base w (upd φ H.next ⟨w.heap.size, 0, 0, 0, 0⟩) H₁ (w.alloc (.loop { state := .ready, pending := none, fn, tmps := a.tmps, params := ps, assign, body, defers := x₀.defers })) :=
          hs.alloc hal2 ⟨w.heap.size, 0, 0, 0, 0⟩ rfl ⟨_, World.alloc_heap_new w _, rfl, rfl, (fr_tmps ha.fr).mono (upd_le hs _), rfl, rfl, rfl⟩
        obtain ⟨n3, n4, _⟩ := AH.alloc_eq hal2
        have hpred : Nat.pred H₁.next = H.next := by rw [n4]; rfl
        have hbn := hs.bn
        have hrun : (Instr.enterLoop fn a.tmps ps assign body (some r₀.c)).run P w = .ok (w.heap.size, []) (w.alloc (.loop { state := .ready, pending := none, fn, tmps := a.tmps, params := ps, assign, body, defers := x₀.defers })) := by
          unfold Instr.enterLoop
          simp only [Sem.run_bind, run_getLoop hx₀, run_newObj_alloc, Result.andThen, Sem.run_pure]
        exact ⟨_, _, _, _, ⟨w.heap.size, 0, 0, 0, 0⟩, hrun, st2, by rw [hpred]; exact upd_self _ _ _, rfl, by rw [hpred]; omega, ha.mono st2.ext⟩
      · cases h

end Go.Abs
