/- A machine that carries out code on values that are known, and the proof that the model's runs agree with it: one part. -/
import Derived.Test.YtghlchpignpibaaGreatAbsRun2
noncomputable section
namespace Go.Abs
variable {P : Program} {φ : Ren} {H H' : AH} {bar base : Nat} {w : World}

/-! Rounds of a loop over a function. -/

theorem puts_rel : ∀ {ts : List Tmp} {vs us : List Value} {f f' : Fr} {tmps : Array Value}, Fr.puts f ts vs = some f' → VRs φ us vs → FrR φ tmps f →
    FrR φ ((ts.zip us).foldl (fun t p => t.setIfInBounds p.1 p.2) tmps) f' ∧ f'.ds = f.ds ∧ f'.rd = f.rd ∧ ts.length = us.length
  | [], [], us, f, f', tmps, h, hv, hf => by
    cases h
    cases hv
    exact ⟨hf, rfl, rfl, rfl⟩
  | t :: ts, v :: vs, us, f, f', tmps, h, hv, hf => by
    unfold Fr.puts at h
    split at h
    · rename_i f₁ hp
      cases hv with
      | cons h1 h2 =>
        rename_i u us'
        have e1 := FrR.put (a := { tmps := tmps, defers := [] }) hf h1 hp
        obtain ⟨k1, k2, k3, k4⟩ := puts_rel h h2 e1
        obtain ⟨q1, q2, _⟩ := put_same hp
        exact ⟨k1, by rw [k2, q1], by rw [k3, q2], by simp [k4]⟩
    · cases h
  | [], _ :: _, _, _, _, _, h, _, _ => by cases h
  | _ :: _, [], _, _, _, _, h, _, _ => by cases h

theorem zip_fold (ps : Array Tmp) (us : Array Value) (tmps : Array Value) :
    (ps.zip us).foldl (fun tmps (t, a) => tmps.setIfInBounds t a) tmps = (ps.toList.zip us.toList).foldl (fun t p => t.setIfInBounds p.1 p.2) tmps := by
  rw [← Array.foldl_toList, Array.toList_zip]

theorem tmps_fr {tmps : Array Value} {n : Nat} {m : Tr Value 10} {ds : List Nat} {rd : Option Nat} (h : TmpsR φ tmps n m) : FrR φ tmps ⟨n, m, ds, rd⟩ := by
  refine ⟨h.size, h.small, fun t a ha => ?_⟩
  unfold Fr.get at ha
  split at ha
  · rename_i hlt
    exact h.get t a hlt ha
  · cases ha

theorem fr_tmps {tmps : Array Value} {f : Fr} (h : FrR φ tmps f) : TmpsR φ tmps f.n f.m :=
  ⟨h.size, h.small, fun t a ht ha => h.get t a (by unfold Fr.get; rw [if_pos ht]; exact ha)⟩

/-- A loop's record is turned. -/
theorem loop_turn {b : Nat} {r : RB} {x : Loop} {st st' : LoopState} {pd pd' : Option Code} {n : Nat} {m : Tr Value 10} {ps : Array Tmp} {assign body : Code} (hs : Sim φ H bar base w) (hφ : φ b = some r) (hle : bar ≤ b)
    (hg : H.get b = some (.loop st pd n m ps assign body)) (hx : w.heap[r.c]? = some (.loop x)) :
    Step φ H bar base w φ (H.put b (.loop st' pd' n m ps assign body)) (w.putObj r.c (.loop { x with state := st', pending := pd' })) := by
  obtain ⟨y, h1, h2⟩ := hs.obj b r _ hφ hg
  rw [hx] at h1
  cases h1
  have hlt := hs.cur b r hφ
  have hon : Only r.c w (w.putObj r.c (.loop { x with state := st', pending := pd' })) := ⟨rfl, rfl, rfl, by simp, fun k hk => World.putObj_heap_other hk⟩
  obtain ⟨k1, k2, k3, k4, k5, k6⟩ := h2
  exact hs.update hφ hle ⟨_, hg, by simp⟩ hon ⟨_, World.putObj_heap_same hlt, rfl, rfl, k3, k4, k5, k6⟩

theorem round_sound {rec : Rec} (hrec : RecOk P rec) {b : Nat} {r : RB} {args : List Value} {us : Array Value} {v : Value} (h : roundA rec bar b args H = some (v, H')) (hs : Sim φ H bar base w) (hφ : φ b = some r) (hv : VRs φ us.toList args) :
    ∃ x : Loop, w.heap[r.c]? = some (.loop x) ∧ us.size = x.params.size ∧
      RoundIn Fence.wide 0 P r.c x.fn ((x.params.zip us).foldl (fun tmps (t, a) => tmps.setIfInBounds t a) x.tmps) x.assign x.body w fun e w' => ∃ u φ', e = .returned u ∧ VR φ' u v ∧ Step φ H bar base w φ' H' w' := by
  unfold roundA at h
  split at h
  · cases h
  · rename_i hle
    have hle := Nat.le_of_ble_eq_true hle
    split at h
    · rename_i pd n m ps assign body hg
      split at h
      · cases h
      · rename_i f hp
        obtain ⟨x, hx, k1, k2, k3, k4, k5, k6⟩ := hs.obj b r _ hφ hg
        obtain ⟨q1, q2, q3, q4⟩ := puts_rel hp hv (tmps_fr (ds := []) (rd := some b) k3)
        refine ⟨x, hx, by rw [k4]; simpa using q4.symm, ?_⟩
        rw [zip_fold, k4, k5, k6]
        have hact : ActR φ (some r.c) { tmps := (ps.toList.zip us.toList).foldl (fun t p => t.setIfInBounds p.1 p.2) x.tmps, defers := [] } f := ⟨q1, by rw [q2]; trivial, by rw [q3]; exact ⟨r, hφ, rfl⟩⟩
        refine roundIn_of_wpIn trivial ?_
        split at h
        · rename_i f₁ H₁ ha
          have hw1 := hrec.code ha hs hact
          refine wpIn_mono hw1 ?_
          rintro ex a₁ w₁ ⟨rfl, φ₁, st₁, hact₁⟩
          have hφ₁ := st₁.ext b r hφ
          split at h
          · rename_i pd₁ n₁ m₁ ps₁ as₁ bd₁ hg₁
            obtain ⟨x₁, hx₁, j1, j2, j3, j4, j5, j6⟩ := st₁.sim.obj b r _ hφ₁ hg₁
            have hb := run_beginRound (P := P) hx₁ j1
            have st₂ : Step φ₁ H₁ bar base w₁ φ₁ (H₁.put b (.loop .busy pd₁ n₁ m₁ ps₁ as₁ bd₁)) (w₁.putObj r.c (.loop { x₁ with state := .busy, pending := pd₁ })) := loop_turn st₁.sim hφ₁ hle hg₁ hx₁
            have ex₁ : ({ x₁ with state := .busy } : Loop) = { x₁ with state := .busy, pending := pd₁ } := by rw [← j2]
            rw [ex₁] at hb
            refine ⟨_, hb, ?_⟩
            split at h
            · rename_i e f₂ H₂ hbd
              have hw2 := hrec.code hbd st₂.sim hact₁
              refine wpIn_mono hw2 ?_
              rintro ex a₂ w₂ ⟨rfl, φ₂, st₃, hact₂⟩
              have hφ₂ := st₃.ext b r hφ₁
              split at h
              · rename_i st pd₂ n₂ m₂ ps₂ as₂ bd₂ hg₂
                obtain ⟨x₂, hx₂, i1, i2, i3, i4, i5, i6⟩ := st₃.sim.obj b r _ hφ₂ hg₂
                have st := (st₁.trans st₂).trans st₃
                cases e with
                | normal =>
                  cases h
                  exact ⟨_, _, run_endRound none hx₂, _, φ₂, rfl, .bool true, st.trans (loop_turn st₃.sim hφ₂ hle hg₂ hx₂)⟩
                | ret =>
                  cases h
                  exact ⟨_, _, run_endRound (some .ret) hx₂, _, φ₂, rfl, .bool false, st.trans (loop_turn st₃.sim hφ₂ hle hg₂ hx₂)⟩
                | exit id =>
                  cases h
                  exact ⟨_, _, run_endRound (some (.exit id)) hx₂, _, φ₂, rfl, .bool false, st.trans (loop_turn st₃.sim hφ₂ hle hg₂ hx₂)⟩
              · cases h
            · cases h
          · cases h
        · cases h
    · cases h

end Go.Abs

noncomputable section
namespace Go.Abs
variable {P : Program} {φ : Ren} {H H' : AH} {bar base : Nat} {w : World}

theorem yield_call {ρ : Env} {op : Op} {b : Nat} {args : List Value} (h : yieldA ρ op = some (b, args)) : ∃ c x f1 c1, op = .call c ∧ c.callee = .value x ∧ ρ x = some (.func (.yield b) f1 c1) ∧ mapEnv ρ c.args.toList = some args := by
  unfold yieldA at h
  split at h
  · rename_i c
    split at h
    · rename_i x hc
      split at h
      · rename_i b' f1 c1 hx
        rw [Option.map_eq_some_iff] at h; obtain ⟨l, hl, h⟩ := h
        cases h
        exact ⟨c, x, f1, c1, rfl, hc, hx, hl⟩
      · cases h
    · cases h
  · cases h

theorem operY_sound {K : Known} (hK : KnownOk P K) {rec : Rec} (hrec : RecOk P rec) {ops : Array Oper} {o : Oper} {f f' : Fr} (h : operY P K rec bar ops o f H = some (f', H')) (hs : Sim φ H bar base w)
    {a : Act} {l : Option Nat} (hf : ActR φ l a f) {next : Act → World → Prop} {Q : Exit → Act → World → Prop} (hn : ∀ a' w' φ', Step φ H bar base w φ' H' w' → ActR φ' l a' f' → next a' w') :
    if Region.wanted o (yielded ops a.tmps) then o.wpIn (Wd l) 0 P a w next Q else (∀ f, o.about P w a.eval = some f → (Wd l).fn f) ∧ next (a.put o.dst undef) w := by
  unfold operY at h
  split at h
  · exact oper_sound hK hrec h hs hf hn
  · rename_i b args hy
    split at h
    · cases h
    · rename_i hg
      split at h
      · cases h
      · rename_i v H₁ hr
        rw [Option.map_eq_some_iff] at h; obtain ⟨f₁, hp, h⟩ := h
        cases h
        have hw : Region.wanted o (yielded ops a.tmps) = true := by unfold Region.wanted; rw [hg]
        rw [if_pos hw]
        refine ⟨fun _ _ => trivial, ?_⟩
        obtain ⟨c, x, f1, c1, hop, hc, hx, hargs⟩ := yield_call hy
        have hρ := aev_rel hf.fr
        have hv := hρ x _ hx
        have hrel := mapEnv_rel hρ hargs
        generalize hval : a.eval x = vx at hv
        cases hv with
        | yield hφ =>
          rename_i r
          have hsem : Oper.semAt (Wd l).round a.eval o = Instr.yield r.c (#[] ++ c.args.map a.eval) := by
            have e1 : Oper.semAt (Wd l).round a.eval o = execOp a.eval o := by
              cases l with
              | none => exact Oper.semAt_none _ _
              | some l => exact Oper.semAt_some l _ o (fun c' e => by rw [hop] at e; cases e)
            rw [e1]
            unfold execOp
            rw [hop]
            show (do let d ← resolve a.eval c o.type; invoke d.target d.args : Sem Next) = _
            unfold resolve
            rw [hc]
            simp only [hval]
            rfl
          have hrel' : VRs φ (#[] ++ c.args.map a.eval).toList args := by simpa using hrel
          obtain ⟨y, hy1, hy2, hy3⟩ := round_sound hrec hr hs hφ hrel'
          rw [hsem, run_yield hy1 hy2]
          refine ⟨(fun h => by cases h), ?_⟩
          refine RoundIn.mono (F := Wd l) (n := 0) hy3 ?_
          rintro e w'' ⟨u, φ', rfl, k1, k2⟩
          exact hn _ _ φ' k2 ((hf.mono k2.ext).put k1 hp)

theorem opers_sound {K : Known} (hK : KnownOk P K) {rec : Rec} (hrec : RecOk P rec) {ops : Array Oper} {l : Option Nat} {Q : Exit → Act → World → Prop} : ∀ {os : List Oper} {f f' : Fr} {H : AH} {φ : Ren} {w : World} {a : Act}, opersA P K rec bar ops os f H = some (f', H') →
    Sim φ H bar base w → ActR φ l a f → (∀ a' w' φ', Step φ H bar base w φ' H' w' → ActR φ' l a' f' → Q .normal a' w') → wpListIn (Wd l) 0 P ops Q os a w
  | [], f, f', H, φ, w, a, h, hs, hf, hq => by
    cases h
    exact hq a w φ (Step.refl hs) hf
  | o :: os, f, f', H, φ, w, a, h, hs, hf, hq => by
    unfold opersA at h
    split at h
    · cases h
    · rename_i f₁ H₁ ho
      unfold wpListIn
      refine operY_sound hK hrec ho hs hf fun a' w' φ' hst hf' => ?_
      exact opers_sound hK hrec h hst.sim hf' fun a'' w'' φ'' hst' hf'' => hq a'' w'' φ'' (hst.trans hst') hf''

/-- The loop's record is laid. -/
theorem enter_sound {f f' : Fr} {H₁ : AH} {ps : Array Tmp} {assign body : Code} (h : enterA f ps assign body H = some (f', H₁)) (hs : Sim φ H bar base w) {a : Act} {o : Option Nat} (ha : ActR φ o a f) (fn : FuncId) :
    ∃ l mark w₁ φ₁ r, (Instr.enterLoop fn a.tmps ps assign body o).run P w = .ok (l, mark) w₁ ∧ Step φ H bar base w φ₁ H₁ w₁ ∧ φ₁ (Nat.pred H₁.next) = some r ∧ r.c = l ∧ bar ≤ Nat.pred H₁.next ∧
      ActR φ₁ o { a with defers := mark ++ a.defers } f' := by
  unfold enterA at h
  have hrd := ha.rd
  split at h
  · rename_i hr
    rw [hr] at hrd
    cases o with
    | some l => exact hrd.elim
    | none =>
      split at h
      · cases h
      · rename_i H₂ hal
        rw [Option.map_eq_some_iff] at h; obtain ⟨H₃, hal2, h⟩ := h
        cases h
        have st1 : Step φ H bar base w (upd φ H.next ⟨w.heap.size, 0, 0, 0, 0⟩) H₂ (w.alloc (.deferred (some []))) :=
          hs.alloc hal _ rfl (World.alloc_heap_new w _)
        have hsz : (w.alloc (.deferred (some []))).heap.size = w.heap.size + 1 := by show (w.heap.push _).size = _; simp
        have ha1 := ha.mono st1.ext
        have st2 : Step (upd φ H.next ⟨w.heap.size, 0, 0, 0, 0⟩) H₂ bar base (w.alloc (.deferred (some []))) (upd (upd φ H.next ⟨w.heap.size, 0, 0, 0, 0⟩) H₂.next ⟨w.heap.size + 1, 0, 0, 0, 0⟩) H₁
            ((w.alloc (.deferred (some []))).alloc (.loop { state := .ready, pending := none, fn, tmps := a.tmps, params := ps, assign, body, defers := w.heap.size })) :=
          st1.sim.alloc hal2 ⟨w.heap.size + 1, 0, 0, 0, 0⟩ hsz.symm
            ⟨_, by have := World.alloc_heap_new (w.alloc (.deferred (some []))) (.loop { state := .ready, pending := none, fn, tmps := a.tmps, params := ps, assign, body, defers := w.heap.size }); rw [hsz] at this; exact this,
              rfl, rfl, (fr_tmps ha1.fr).mono (upd_le st1.sim _), rfl, rfl, rfl⟩
        obtain ⟨n1, n2, _⟩ := AH.alloc_eq hal
        obtain ⟨n3, n4, _⟩ := AH.alloc_eq hal2
        have hpred : Nat.pred H₁.next = H₂.next := by rw [n4]; rfl
        have hbn := hs.bn
        refine ⟨_, _, _, _, ⟨w.heap.size + 1, 0, 0, 0, 0⟩, run_enterLoop_outer fn a.tmps ps assign body, st1.trans st2, by rw [hpred]; exact upd_self _ _ _, rfl, by rw [hpred]; omega, ?_⟩
        have ha2 := ha1.mono st2.ext
        exact ⟨⟨ha2.fr.size, ha2.fr.small, ha2.fr.get⟩, ⟨⟨_, st2.ext _ _ (upd_self _ _ _), rfl⟩, ha2.ds⟩, ha2.rd⟩
  · rename_i b hr
    rw [hr] at hrd
    cases o with
    | none => exact hrd.elim
    | some l =>
      obtain ⟨r₀, hφ₀, rfl⟩ := hrd
      split at h
      · rename_i hg
        rw [Option.map_eq_some_iff] at h; obtain ⟨H₃, hal2, h⟩ := h
        cases h
        obtain ⟨x₀, hx₀, _⟩ := hs.obj b r₀ _ hφ₀ hg
        have st2 : Step φ H bar base w (upd φ H.next ⟨w.heap.size, 0, 0, 0, 0⟩) H₁ (w.alloc (.loop { state := .ready, pending := none, fn, tmps := a.tmps, params := ps, assign, body, defers := x₀.defers })) :=
          hs.alloc hal2 ⟨w.heap.size, 0, 0, 0, 0⟩ rfl ⟨_, World.alloc_heap_new w _, rfl, rfl, (fr_tmps ha.fr).mono (upd_le hs _), rfl, rfl, rfl⟩
        obtain ⟨n3, n4, _⟩ := AH.alloc_eq hal2
        have hpred : Nat.pred H₁.next = H.next := by rw [n4]; rfl
        have hbn := hs.bn
        have hrun : (Instr.enterLoop fn a.tmps ps assign body (some r₀.c)).run P w = .ok (w.heap.size, []) (w.alloc (.loop { state := .ready, pending := none, fn, tmps := a.tmps, params := ps, assign, body, defers := x₀.defers })) := by
          unfold Instr.enterLoop
          simp only [Sem.run_bind, run_getLoop hx₀, run_newObj_alloc, Result.andThen, Sem.run_pure]
        exact ⟨_, _, _, _, ⟨w.heap.size, 0, 0, 0, 0⟩, hrun, st2, by rw [hpred]; exact upd_self _ _ _, rfl, by rw [hpred]; omega, ha.mono st2.ext⟩
      · cases h

end Go.Abs

noncomputable section
namespace Go.Abs
variable {P : Program} {φ : Ren} {H H' : AH} {bar base : Nat} {w : World}

section
variable {F : Fence} {n : Nat} {Q : Exit → Act → World → Prop} {a : Act} {b : Frame} {k : List Item} {cs : List Frame}

theorem stepR_scope {c : Code} : step P (lone (b.atR a (.code (.scope c) :: k)) cs w) = .next (lone (b.atR a (.code c :: .inScope c :: k)) cs w) :=
  step_lone_go (by simp [stepG, stepG.exec, Frame.atR])
theorem stepR_inScope {c : Code} : step P (lone (b.atR a (.inScope c :: k)) cs w) = .next (lone (b.atR a k) cs w) :=
  step_lone_go (by simp [stepG, stepG.exec, Frame.atR])

theorem wpIn_scope_straight {c : Code} (h : c.wpIn F n P (Exit.noGoto Q) a w) : (Code.scope c).wpIn F n P Q a w := by
  intro b k cs hro hb hr
  have h0 : (lone (b.atR a (.code (.scope c) :: k)) cs w).fenced P F := fenced_calm hb hr rfl
  obtain ⟨e, a₁, w₁, hq, harr⟩ := h b (.inScope c :: k) cs hro hb hr
  cases e with
  | normal => exact ⟨.normal, a₁, w₁, hq, .head h0 stepR_scope (StepsIn.trans harr (.one (fenced_calm hb hr rfl) stepR_inScope))⟩
  | exit id =>
    have hx : exitTo id (.inScope c :: k) = exitTo id k := by simp [exitTo]
    exact ⟨.exit id, a₁, w₁, hq, fun k' hk => .head h0 stepR_scope (harr.1 k' (by rw [hx]; exact hk)),
      fun hr' hk => let ⟨k₁, h1, h2⟩ := harr.2 hr' (by rw [hx]; exact hk); ⟨k₁, h1, .head h0 stepR_scope h2⟩⟩
  | goto l => exact hq.elim
  | ret => exact ⟨_, a₁, w₁, hq, .of_steps (.one h0 stepR_scope) harr⟩
  | panic ch => exact ⟨_, a₁, w₁, hq, .of_steps (.one h0 stepR_scope) harr⟩
  | outgrown => exact ⟨_, a₁, w₁, hq, .of_steps (.one h0 stepR_scope) harr⟩
end

theorem range_sound {K : Known} (hK : KnownOk P K) {rec : Rec} (hrec : RecOk P rec) {x : Operand} {ps : Array Tmp} {assign body : Code} {f f' : Fr} {e : AExit} (h : rangeA P K rec bar x ps assign body f H = some (e, f', H'))
    (hs : Sim φ H bar base w) {a : Act} {o : Option Nat} (ha : ActR φ o a f) : (Code.rangeFunc x ps assign body).wpIn (Wd o) 0 P (PostC φ H bar base w o e f' H') a w := by
  unfold rangeA at h
  split at h
  · rename_i g first captured hx
    split at h
    · cases h
    · rename_i f₁ H₁ hen
      split at h
      · cases h
      · rename_i v H₂ hcall
        split at hcall
        · rename_i g' args H₁' hcf
          split at h
          · rename_i st pd n m ps' as' bd' hg
            refine wpIn_rangeFunc (F := Wd o) fun fn _ => ?_
            obtain ⟨l, mark, w₁, φ₁, r, h1, h2, h3, h4, h5, h6⟩ := enter_sound (P := P) hen hs ha fn
            have hv := aev_rel ha.fr x _ hx
            generalize hval : a.eval x = vx at hv
            cases hv with
            | func hf hc =>
              rename_i f1 c1
              have hres : (resolve a.eval (rangeCall x l) 0).run P w₁ = .ok { target := .fn (.func g) c1, args := f1 ++ #[Value.func (.yield l) #[] #[]] } w₁ := by
                unfold resolve rangeCall
                simp only [hval]
                simp [Deferred.ofValue, Act.eval]
              have hargs : VRs φ₁ (f1 ++ #[Value.func (.yield l) #[] #[]] ++ c1).toList (first.toList ++ [Value.func (.yield (Nat.pred H₁.next)) #[] #[]] ++ captured.toList) := by
                have hy : VR φ₁ (.func (.yield l) #[] #[]) (.func (.yield (Nat.pred H₁.next)) #[] #[]) := by rw [← h4]; exact .yield h3
                simpa using ((VRs.mono h2.ext hf).append (.cons hy .nil)).append (VRs.mono h2.ext hc)
              obtain ⟨rfl, args', w₁', k1, rfl, k2⟩ := snd_callFunc h2.sim hargs hcf
              have hcs := (callsIn_wide (n := 0)).2 (call_sound hK hrec hcall h2.sim k2)
              refine ⟨l, mark, _, _, _, _, _, _, h1, hres, fun _ _ => trivial, k1, fun h => (by cases h), ?_⟩
              refine CallsIn.mono (F := Wd o) (n := 0) hcs ?_
              rintro en w₃ ⟨u, φ₃, rfl, q1, q2⟩
              have hφ₃ := q2.ext _ _ h3
              obtain ⟨y, hy, y1, y2, y3⟩ := q2.sim.obj _ r _ hφ₃ hg
              have hlt := q2.sim.cur _ r hφ₃
              have key : ∀ (hb : st ≠ .busy) (e' : AExit), leaveA pd = some e' → (e', f₁, H₂.put (Nat.pred H₁'.next) .dead) = (e, f', H') →
                  rangePost (Wd o) 0 P l (PostC φ H bar base w o e f' H') { a with defers := mark ++ a.defers } (.returned u) w₃ := by
                intro hb e' hl he
                cases he
                subst h4
                refine ⟨_, _, run_endLoop hy (by rw [y1]; exact hb), ?_⟩
                have hon : Only r.c w₃ (w₃.putObj r.c (.loop { y with state := .exhausted })) := ⟨rfl, rfl, rfl, by simp, fun k hk => World.putObj_heap_other hk⟩
                have st4 : Step φ₃ H₂ bar base w₃ φ₃ (H₂.put (Nat.pred H₁'.next) .dead) (w₃.putObj r.c (.loop { y with state := .exhausted })) :=
                  q2.sim.update hφ₃ h5 ⟨_, hg, by simp⟩ hon trivial
                have hall := (h2.trans q2).trans st4
                have hact := h6.mono (Ren.le_trans q2.ext st4.ext)
                generalize w₃.putObj r.c (.loop { y with state := .exhausted }) = W at hall ⊢
                rw [y2]
                unfold leaveA at hl
                split at hl
                · cases hl
                  exact ⟨rfl, φ₃, hall, hact⟩
                · cases hl
                  exact wpIn_ret ⟨rfl, φ₃, hall, hact⟩
                · cases hl
                  exact wpIn_exit ⟨rfl, φ₃, hall, hact⟩
                · cases hl
              cases st with
              | busy => cases h
              | ready =>
                simp only at h
                split at h
                · rename_i e' hl
                  exact key (by simp) e' hl (Option.some.inj h)
                · cases h
              | done =>
                simp only at h
                split at h
                · rename_i e' hl
                  exact key (by simp) e' hl (Option.some.inj h)
                · cases h
              | exhausted =>
                simp only at h
                split at h
                · rename_i e' hl
                  exact key (by simp) e' hl (Option.some.inj h)
                · cases h
          · cases h
        · cases hcall
  · cases h

end Go.Abs

noncomputable section
namespace Go.Abs
variable {P : Program}

/-- A way to carry out regions that draw their order is sound. -/
def DrawOk (P : Program) (dr : Rec → Nat → Array Oper → Fr → AH → Option (Fr × AH)) : Prop :=
  ∀ rec, RecOk P rec → ∀ {bar : Nat} {id : Nat} {ops : Array Oper} {f f' : Fr} {H H' : AH}, dr rec bar ops f H = some (f', H') → ∀ {φ : Ren} {base : Nat} {w : World} {a : Act} {o : Option Nat}, Sim φ H bar base w → ActR φ o a f →
    (Code.region id ops true).wpIn (Wd o) 0 P (PostC φ H bar base w o .normal f' H') a w

theorem rounds_mono {F : Fence} {d : Nat} {c : Code} {Q Q' : Exit → Act → World → Prop} (hq : ∀ e a w, Q e a w → Q' e a w) : ∀ {n : Nat} {a : Act} {w : World}, Code.roundsIn F d P c Q n a w → Code.roundsIn F d P c Q' n a w
  | 0, _, _, h => h.elim
  | n + 1, a, w, h => by
    rw [roundsIn_succ] at h ⊢
    refine wpIn_mono h fun e a w q => ?_
    cases e <;> first | exact rounds_mono hq q | exact hq _ _ _ q

theorem eval_sound {K : Known} (hK : KnownOk P K) {dr : Rec → Nat → Array Oper → Fr → AH → Option (Fr × AH)} (hdr : DrawOk P dr) : ∀ n, RecOk P (evalA P K dr n)
  | 0 => { code := fun {_ _ _ _ _ _ _} h => (by cases h), loop := fun {_ _ _ _ _ _ _} h => (by cases h) }
  | n + 1 => by
    have ih := eval_sound hK hdr n
    have loop : ∀ {bar : Nat} {c : Code} {f : Fr} {H : AH} {e : AExit} {f' : Fr} {H' : AH}, evalA P K dr (n + 1) bar (.loop c) f H = some (e, f', H') → ∃ n, ∀ (φ : Ren) (base : Nat) (w : World) (a : Act) (o : Option Nat), Sim φ H bar base w → ActR φ o a f →
        Code.roundsIn (Wd o) 0 P c (PostC φ H bar base w o e f' H') n a w := by
      intro bar c f H e f' H' h
      have h : (match evalA P K dr n bar c f H with
        | some (.normal, f', H') => evalA P K dr n bar (.loop c) f' H'
        | r => r) = some (e, f', H') := h
      split at h
      · rename_i f₁ H₁ hb
        obtain ⟨m, hm⟩ := ih.loop h
        refine ⟨m + 1, fun φ base w a o hs hf => ?_⟩
        rw [roundsIn_succ]
        refine wpIn_mono (ih.code hb hs hf) ?_
        rintro ex a' w' ⟨rfl, φ', hst, hf'⟩
        exact rounds_mono (fun ex a'' w'' hp => hp.trans hst) (hm φ' base w' a' o hst.sim hf')
      · rename_i r hne
        refine ⟨1, fun φ base w a o hs hf => ?_⟩
        rw [roundsIn_succ]
        refine wpIn_mono (ih.code h hs hf) ?_
        rintro ex a' w' ⟨rfl, φ', hst, hf'⟩
        cases e with
        | normal => exact absurd h (hne _ _)
        | exit id => exact ⟨rfl, φ', hst, hf'⟩
        | ret => exact ⟨rfl, φ', hst, hf'⟩
    refine { loop := loop, code := ?_ }
    intro bar c f H e f' H' h φ base w a o hs hf
    cases c with
    | loop b =>
      obtain ⟨m, hm⟩ := loop h
      exact wpIn_loop_rounds m (hm φ base w a o hs hf)
    | skip => cases h; exact wpIn_skip ⟨rfl, φ, Step.refl hs, hf⟩
    | label l => cases h; exact wpIn_label ⟨rfl, φ, Step.refl hs, hf⟩
    | exit id => cases h; exact wpIn_exit ⟨rfl, φ, Step.refl hs, hf⟩
    | ret => cases h; exact wpIn_ret ⟨rfl, φ, Step.refl hs, hf⟩
    | region id ops draw =>
      have h : (if draw then (dr (evalA P K dr n) bar ops f H).map fun p => (AExit.normal, p.1, p.2)
        else (opersA P K (evalA P K dr n) bar ops ops.toList f H).map fun p => (AExit.normal, p.1, p.2)) = some (e, f', H') := h
      cases draw with
      | true =>
        rw [if_pos rfl, Option.map_eq_some_iff] at h
        obtain ⟨⟨f₁, H₁⟩, hr, h⟩ := h
        cases h
        exact hdr _ ih hr hs hf
      | false =>
        simp only [Bool.false_eq_true, if_false] at h
        rw [Option.map_eq_some_iff] at h
        obtain ⟨⟨f₁, H₁⟩, hr, h⟩ := h
        cases h
        refine wpIn_region_list (opers_sound hK ih hr hs hf ?_)
        intro a' w' φ' hst hf'
        exact ⟨rfl, φ', hst, hf'⟩
    | seq x y =>
      have h : (match evalA P K dr n bar x f H with
        | some (.normal, f', H') => evalA P K dr n bar y f' H'
        | r => r) = some (e, f', H') := h
      refine wpIn_seq ?_
      split at h
      · rename_i f₁ H₁ hb
        refine wpIn_mono (ih.code hb hs hf) ?_
        rintro ex a' w' ⟨rfl, φ', hst, hf'⟩
        refine wpIn_mono (ih.code h hst.sim hf') ?_
        intro ex a'' w'' hp
        exact hp.trans hst
      · rename_i r hne
        refine wpIn_mono (ih.code h hs hf) ?_
        rintro ex a' w' ⟨rfl, φ', hst, hf'⟩
        cases e with
        | normal => exact absurd h (hne _ _)
        | exit id => exact ⟨rfl, φ', hst, hf'⟩
        | ret => exact ⟨rfl, φ', hst, hf'⟩
    | cond x t el =>
      have h : (match aev f x with
        | some (.bool b) => evalA P K dr n bar (if b then t else el) f H
        | _ => none) = some (e, f', H') := h
      split at h
      · rename_i b hx
        have hv := aev_rel hf.fr x _ hx
        generalize hval : a.eval x = v at hv
        cases hv
        exact wpIn_cond hval (ih.code h hs hf)
      · cases h
    | block id b =>
      have h : (match evalA P K dr n bar b f H with
        | some (.exit id', f', H') => if id' = id then some (AExit.normal, f', H') else some (.exit id', f', H')
        | r => r) = some (e, f', H') := h
      refine wpIn_block ?_
      split at h
      · rename_i id' f₁ H₁ hb
        refine wpIn_mono (ih.code hb hs hf) ?_
        rintro ex a' w' ⟨rfl, φ', hst, hf'⟩
        split at h
        · rename_i hid
          cases h
          simp only [conc, Exit.inBlock, hid, if_true]
          exact ⟨rfl, φ', hst, hf'⟩
        · rename_i hid
          cases h
          simp only [conc, Exit.inBlock, hid, if_false]
          exact ⟨rfl, φ', hst, hf'⟩
      · rename_i r hne
        refine wpIn_mono (ih.code h hs hf) ?_
        rintro ex a' w' ⟨rfl, φ', hst, hf'⟩
        cases e with
        | normal => exact ⟨rfl, φ', hst, hf'⟩
        | exit id => exact absurd h (hne _ _ _)
        | ret => exact ⟨rfl, φ', hst, hf'⟩
    | scope b =>
      have h : evalA P K dr n bar b f H = some (e, f', H') := h
      refine wpIn_scope_straight (wpIn_mono (ih.code h hs hf) ?_)
      rintro ex a' w' ⟨rfl, φ', hst, hf'⟩
      cases e <;> exact ⟨rfl, φ', hst, hf'⟩
    | rangeFunc x ps assign body => exact range_sound hK ih h hs hf
    | _ => cases h

end Go.Abs
