/- A machine that carries out code on values that are known, and the proof that the model's runs agree with it: one part. -/
import Derived.Test.YtghlchpignpibaaGreatAbsRun
import Derived.LoopNIn
import Derived.OrdersIn
import Derived.TacticsIn
import Derived.RangeFuncLeaves
import Derived.RangeFuncRecord
import Derived.Scope
noncomputable section
namespace Go.Abs
variable {P : Program} {φ : Ren} {H H' : AH} {bar base : Nat} {w : World}

structure FrR (φ : Ren) (tmps : Array Value) (f : Fr) : Prop where
  size : tmps.size = f.n
  small : f.n ≤ 1024
  get : ∀ t a, f.get t = some a → ∃ v, tmps[t]? = some v ∧ VR φ v a

theorem FrR.mono {φ ψ : Ren} (hle : φ.le ψ) {tmps : Array Value} {f : Fr} (h : FrR φ tmps f) : FrR ψ tmps f :=
  ⟨h.size, h.small, fun t a ha => let ⟨v, h1, h2⟩ := h.get t a ha; ⟨v, h1, h2.mono hle⟩⟩

theorem aev_rel {a : Act} {f : Fr} (h : FrR φ a.tmps f) : EnvR φ a.eval (aev f) := by
  intro x v hv
  cases x with
  | tmp t =>
    obtain ⟨u, h1, h2⟩ := h.get t v hv
    simp only [Act.eval]
    rw [Array.getD_eq_getD_getElem?, h1]
    exact h2
  | const c =>
    simp only [aev] at hv
    split at hv
    · rename_i hp
      cases hv
      exact plain_refl φ _ hp
    · cases hv
  | global g => cases hv
  | func g => cases hv; exact .func .nil .nil

theorem FrR.put {a : Act} {f f' : Fr} {dst : Option Tmp} {v x : Value} (h : FrR φ a.tmps f) (hv : VR φ v x) (hp : f.put dst x = some f') : FrR φ (a.put dst v).tmps f' := by
  cases dst with
  | none => cases hp; exact h
  | some d =>
    by_cases hd : d < f.n
    · have hp : (if d < f.n then some { f with m := Tr.set 10 f.m d x } else none) = some f' := hp
      rw [if_pos hd] at hp
      have hd' : @LT.lt Nat _ d f.n := hd
      cases hp
      have hs := h.small
      have hz := h.size
      refine ⟨by simpa [Act.put] using h.size, hs, fun t u ht => ?_⟩
      unfold Fr.get at ht
      split at ht
      · rename_i hlt
        simp only at ht
        rw [Tr.get_set 10 f.m d t x (by omega) hlt] at ht
        split at ht
        · rename_i e
          cases ht
          subst e
          refine ⟨v, ?_, hv⟩
          simp only [Act.put]
          rw [Array.getElem?_setIfInBounds_self_of_lt (by omega)]
        · rename_i e
          obtain ⟨v', h1, h2⟩ := h.get t u (by unfold Fr.get; rw [if_pos hlt]; exact ht)
          refine ⟨v', ?_, h2⟩
          simp only [Act.put]
          rw [Array.getElem?_setIfInBounds_ne (fun e' => e e'.symm)]
          exact h1
      · cases ht
    · have hp : (if d < f.n then some { f with m := Tr.set 10 f.m d x } else none) = some f' := hp
      rw [if_neg hd] at hp
      cases hp

theorem put_defers' (a : Act) (dst : Option Tmp) (v : Value) : (a.put dst v).defers = a.defers := by cases dst <;> rfl

theorem wanted_rel {a : Act} {f : Fr} {ops : Array Oper} {o : Oper} {b : Bool} (h : FrR φ a.tmps f) (hw : wantedA ops f o = some b) : Region.wanted o (yielded ops a.tmps) = b := by
  unfold wantedA at hw
  unfold Region.wanted
  cases hg : o.guard with
  | none => rw [hg] at hw; cases hw; rfl
  | some gw =>
    obtain ⟨j, want⟩ := gw
    rw [hg] at hw
    simp only at hw ⊢
    cases ht : (ops[j]?).bind (·.dst) with
    | none => rw [ht] at hw; cases hw
    | some t =>
      rw [ht] at hw
      simp only at hw
      unfold yielded
      rw [ht]
      simp only [Option.bind_some]
      split at hw
      · rename_i c hc
        cases hw
        obtain ⟨v, h1, h2⟩ := h.get t _ hc
        cases h2
        rw [h1]
        cases c <;> cases want <;> rfl
      · rename_i c hc
        cases hw
        obtain ⟨v, h1, h2⟩ := h.get t _ hc
        cases h2
        rw [h1]
        rfl
      · cases hw

def conc : AExit → Exit
  | .normal => .normal
  | .exit id => .exit id
  | .ret => .ret

/-- No fence; the activation is a round of a loop, or of a function. -/
abbrev Wd (o : Option Nat) : Fence := { Fence.wide with round := o }

theorem fn_wd (o : Option Nat) (f : FuncId) : (Wd o).fn f := trivial

/-- The marks among the deferred calls. -/
def DsR (φ : Ren) : List Deferred → List Nat → Prop
  | [], [] => True
  | d :: ds, b :: bs => (∃ r, φ b = some r ∧ d = { target := .collected r.c, args := #[] }) ∧ DsR φ ds bs
  | _, _ => False

theorem DsR.mono {φ ψ : Ren} (hle : φ.le ψ) : ∀ {ds : List Deferred} {bs : List Nat}, DsR φ ds bs → DsR ψ ds bs
  | [], [], _ => trivial
  | _ :: _, _ :: _, ⟨⟨r, h1, h2⟩, t⟩ => ⟨⟨r, hle _ _ h1, h2⟩, DsR.mono hle t⟩

/-- The loop whose round it is. -/
def RdR (φ : Ren) : Option Nat → Option Nat → Prop
  | none, none => True
  | some l, some b => ∃ r, φ b = some r ∧ r.c = l
  | _, _ => False

theorem RdR.mono {φ ψ : Ren} (hle : φ.le ψ) : ∀ {o p : Option Nat}, RdR φ o p → RdR ψ o p
  | none, none, _ => trivial
  | some _, some _, ⟨r, h1, h2⟩ => ⟨r, hle _ _ h1, h2⟩

structure ActR (φ : Ren) (o : Option Nat) (a : Act) (f : Fr) : Prop where
  fr : FrR φ a.tmps f
  ds : DsR φ a.defers f.ds
  rd : RdR φ o f.rd

theorem ActR.mono {φ ψ : Ren} (hle : φ.le ψ) {o : Option Nat} {a : Act} {f : Fr} (h : ActR φ o a f) : ActR ψ o a f := ⟨h.fr.mono hle, h.ds.mono hle, h.rd.mono hle⟩

theorem put_same {f f' : Fr} {dst : Option Tmp} {x : Value} (hp : f.put dst x = some f') : f'.ds = f.ds ∧ f'.rd = f.rd ∧ f'.n = f.n := by
  cases dst with
  | none => cases hp; exact ⟨rfl, rfl, rfl⟩
  | some d =>
    unfold Fr.put at hp
    simp only at hp
    split at hp
    · cases hp; exact ⟨rfl, rfl, rfl⟩
    · cases hp

theorem ActR.put {φ : Ren} {o : Option Nat} {a : Act} {f f' : Fr} {dst : Option Tmp} {v x : Value} (h : ActR φ o a f) (hv : VR φ v x) (hp : f.put dst x = some f') : ActR φ o (a.put dst v) f' := by
  obtain ⟨h1, h2, _⟩ := put_same hp
  exact ⟨h.fr.put hv hp, by rw [put_defers', h1]; exact h.ds, by rw [h2]; exact h.rd⟩

/-- What is known behind a piece of code. -/
def PostC (φ : Ren) (H : AH) (bar base : Nat) (w : World) (o : Option Nat) (e : AExit) (f' : Fr) (H' : AH) (ex : Exit) (a' : Act) (w' : World) : Prop :=
  ex = conc e ∧ ∃ φ', Step φ H bar base w φ' H' w' ∧ ActR φ' o a' f'

theorem PostC.trans {φ₁ : Ren} {H₁ : AH} {w₁ : World} {o : Option Nat} {e : AExit} {f' : Fr} {ex : Exit} {a' : Act} {w' : World} (h : Step φ H bar base w φ₁ H₁ w₁) (k : PostC φ₁ H₁ bar base w₁ o e f' H' ex a' w') :
    PostC φ H bar base w o e f' H' ex a' w' := by
  obtain ⟨h1, φ', h3, h4⟩ := k
  exact ⟨h1, φ', h.trans h3, h4⟩

structure RecOk (P : Program) (rec : Rec) : Prop where
  code : ∀ {bar : Nat} {c : Code} {f : Fr} {H : AH} {e : AExit} {f' : Fr} {H' : AH}, rec bar c f H = some (e, f', H') → ∀ {φ : Ren} {base : Nat} {w : World} {a : Act} {o : Option Nat}, Sim φ H bar base w → ActR φ o a f →
    c.wpIn (Wd o) 0 P (PostC φ H bar base w o e f' H') a w
  loop : ∀ {bar : Nat} {c : Code} {f : Fr} {H : AH} {e : AExit} {f' : Fr} {H' : AH}, rec bar (.loop c) f H = some (e, f', H') → ∃ n, ∀ (φ : Ren) (base : Nat) (w : World) (a : Act) (o : Option Nat), Sim φ H bar base w → ActR φ o a f →
    Code.roundsIn (Wd o) 0 P c (PostC φ H bar base w o e f' H') n a w

/-- What is known of a function is so. -/
def KnownOk (P : Program) (K : Known) : Prop := ∀ g args H v H', K g args H = some (v, H') → ∀ bar φ base w args', Sim φ H bar base w → VRs φ args'.toList args.toList →
  Calls P g args' w fun e w' => ∃ u φ', e = .returned u ∧ VR φ' u v ∧ Step φ H bar base w φ' H' w'

theorem frInit_get (n : Nat) : ∀ (vs : List Value) (i : Nat) (m : Tr Value 10), i + vs.length ≤ 1024 → ∀ t, t < 1024 → Tr.get 10 (frInit n i vs m) t = if i ≤ t ∧ t < i + vs.length then vs[t - i]? else Tr.get 10 m t
  | [], i, m, _, t, _ => by
    simp only [frInit]
    rw [if_neg (by simp <;> omega)]
  | v :: vs, i, m, h, t, ht => by
    simp only [List.length_cons] at h
    simp only [frInit]
    rw [frInit_get n vs (i + 1) _ (by omega) t ht, Tr.get_set 10 m i t v (by omega) ht]
    by_cases h1 : t = i
    · subst h1
      rw [if_neg (by omega), if_pos rfl, if_pos (by simp)]
      simp
    · rw [if_neg h1]
      by_cases h2 : i + 1 ≤ t ∧ t < i + 1 + vs.length
      · rw [if_pos h2, if_pos (by simp only [List.length_cons]; omega)]
        have : t - i = (t - (i + 1)) + 1 := by omega
        rw [this, List.getElem?_cons_succ]
      · rw [if_neg h2, if_neg (by simp only [List.length_cons]; omega)]

theorem frInit_rel {args' args : Array Value} (hv : VRs φ args'.toList args.toList) {n : Nat} (h1 : args.size ≤ n) (h2 : n ≤ 1024) :
    FrR φ (args' ++ Array.replicate (n - args'.size) undef) ⟨n, frInit n 0 args.toList (Tr.empty 10), [], none⟩ := by
  have hl : args'.size = args.size := by simpa using hv.length
  refine ⟨by simp; omega, h2, fun t a ht => ?_⟩
  unfold Fr.get at ht
  split at ht
  · rename_i hlt
    simp only at ht
    rw [frInit_get n args.toList 0 _ (by simp; omega) t hlt] at ht
    split at ht
    · rename_i hb
      simp only [Nat.sub_zero] at ht
      obtain ⟨v, k1, k2⟩ := hv.get t a ht
      refine ⟨v, ?_, k2⟩
      have hlt' : t < args'.size := by have := (List.getElem?_eq_some_iff.1 k1).1; simpa using this
      rw [Array.getElem?_append_left hlt']
      simpa using k1
    · rw [Tr.get_empty] at ht
      cases ht
  · cases ht

/-- A result of a function, read off its frame. -/
def resF (tmps : Array Value) : ResultVar → Sem Value
  | .tmp t => pure (tmps.getD t undef)
  | .cell a t => do loadVar t (← asAddr (tmps.getD a undef))

theorem results_rel (hs : Sim φ H bar base w) {tmps : Array Value} {f : Fr} (hf : FrR φ tmps f) : ∀ {rs : List ResultVar} {vs : List Value}, resultsA P H f rs = some vs →
    ∃ us, (rs.mapM (resF tmps)).run P w = .ok us w ∧ VRs φ us vs
  | [], vs, h => by cases h; exact ⟨[], by simp, .nil⟩
  | .tmp t :: rs, vs, h => by
    unfold resultsA at h
    split at h
    · rename_i v hv
      rw [Option.map_eq_some_iff] at h; obtain ⟨l, hl, h⟩ := h
      subst h
      obtain ⟨us, h1, h2⟩ := results_rel hs hf hl
      obtain ⟨u, k1, k2⟩ := hf.get t v hv
      refine ⟨u :: us, ?_, .cons k2 h2⟩
      have e : (resF tmps (.tmp t)).run P w = .ok u w := by
        show (pure (tmps.getD t undef) : Sem Value).run P w = _
        rw [Array.getD_eq_getD_getElem?, k1]
        rfl
      simp only [List.mapM_cons, Sem.run_bind, e, Result.andThen_ok, h1, Sem.run_pure]
    · cases h
  | .cell c t :: rs, vs, h => by
    unfold resultsA at h
    split at h
    · rename_i b o hv
      rw [Option.bind_eq_some_iff] at h; obtain ⟨v, hl0, h⟩ := h
      rw [Option.map_eq_some_iff] at h; obtain ⟨l, hl, h⟩ := h
      subst h
      obtain ⟨us, h1, h2⟩ := results_rel hs hf hl
      obtain ⟨u, k1, k2⟩ := hf.get c _ hv
      cases k2 with
      | ptr hφ =>
        rename_i r
        obtain ⟨x, q1, q2⟩ := run_loadVar' hs hφ hl0
        refine ⟨x :: us, ?_, .cons q2 h2⟩
        have e : (resF tmps (.cell c t)).run P w = .ok x w := by
          show (do loadVar t (← asAddr (tmps.getD c undef)) : Sem Value).run P w = _
          rw [Array.getD_eq_getD_getElem?, k1]
          exact q1
        simp only [List.mapM_cons, Sem.run_bind, e, Result.andThen_ok, h1, Sem.run_pure]
    · cases h

theorem pack_rel {us vs : List Value} (h : VRs φ us vs) : VR φ (if h : us.toArray.size = 1 then us.toArray[0] else .tuple us.toArray) (packA vs) := by
  cases h with
  | nil => simpa [packA] using .tuple .nil
  | cons h t =>
    cases t with
    | nil => simpa [packA] using h
    | cons h' t =>
      simp [packA]
      exact .tuple (.cons h (.cons h' t))

theorem run_results (hs : Sim φ H bar base w) {fn : Func} {tmps : Array Value} {f : Fr} (hf : FrR φ tmps f) {vs : List Value} (h : resultsA P H f fn.results.toList = some vs) :
    ∃ u, (results fn tmps).run P w = .ok u w ∧ VR φ u (packA vs) := by
  obtain ⟨us, h1, h2⟩ := results_rel hs hf h
  refine ⟨_, ?_, pack_rel h2⟩
  show (fn.results.mapM (resF tmps) >>= fun vs => pure (if h : vs.size = 1 then vs[0] else .tuple vs) : Sem Value).run P w = _
  rw [Array.mapM_eq_mapM_toList, Sem.run_bind, Sem.run_map, h1]
  rfl

/-- The marks are taken, and the function ends. -/
theorem take_sound {fn : Func} {tmps : Array Value} {R : Ending → World → Prop} : ∀ {bs : List Nat} {ds : List Deferred} {φ : Ren} {H H' : AH} {w : World}, takeA bar bs H = some H' → Sim φ H bar base w → DsR φ ds bs →
    (∀ w', Step φ H bar base w φ H' w' → ∃ v, (results fn tmps).run P w' = .ok v w' ∧ R (.returned v) w') → LeavesInM Fence.wide 0 P fn tmps R ds .returning w
  | [], [], φ, H, H', w, h, hs, _, hq => by
    cases h
    exact hq w (Step.refl hs)
  | b :: bs, d :: ds, φ, H, H', w, h, hs, ⟨⟨r, hφ, hd⟩, ht⟩, hq => by
    unfold takeA at h
    split at h
    · rename_i hb
      split at h
      · rename_i hle
        have hle := Nat.le_of_ble_eq_true hle
        have hm : w.heap[r.c]? = some (.deferred (some [])) := hs.obj b r _ hφ hb
        have hlt := hs.cur b r hφ
        have hon : Only r.c w (w.putObj r.c (.deferred none)) := ⟨rfl, rfl, rfl, by simp, fun k hk => World.putObj_heap_other hk⟩
        have st : Step φ H bar base w φ (H.put b .dead) (w.putObj r.c (.deferred none)) :=
          hs.update hφ hle ⟨_, hb, by simp⟩ hon trivial
        subst hd
        refine ⟨by simp, .inl ⟨r.c, _, rfl, run_takeDeferred hm, take_sound h st.sim ht fun w' st' => hq w' (st.trans st')⟩⟩
      · cases h
    · cases h

theorem call_sound {K : Known} (hK : KnownOk P K) {rec : Rec} (hrec : RecOk P rec) {g : FuncId} {args args' : Array Value} {v : Value} (h : callA P K rec bar g args H = some (v, H')) (hs : Sim φ H bar base w)
    (hv : VRs φ args'.toList args.toList) : Calls P g args' w fun e w' => ∃ u φ', e = .returned u ∧ VR φ' u v ∧ Step φ H bar base w φ' H' w' := by
  unfold callA at h
  split at h
  · rename_i r hk
    cases h
    exact hK g args H v H' hk bar φ base w args' hs hv
  · split at h
    · cases h
    · rename_i fn hfn
      split at h
      · cases h
      · rename_i c hc
        split at h
        · rename_i hb
          have hl : args'.size = args.size := by simpa using hv.length
          have hfr := frInit_rel hv hb.1 hb.2
          have hact : ActR φ none { tmps := args' ++ Array.replicate (fn.ntmps - args'.size) undef, defers := [] } ⟨fn.ntmps, frInit fn.ntmps 0 args.toList (Tr.empty 10), [], none⟩ := ⟨hfr, trivial, trivial⟩
          have fin : ∀ e f' H₁, (e = AExit.normal ∨ e = AExit.ret) → rec bar c ⟨fn.ntmps, frInit fn.ntmps 0 args.toList (Tr.empty 10), [], none⟩ H = some (e, f', H₁) → finA P bar fn.results.toList f' H₁ = some (v, H') →
              c.wpIn Fence.wide 0 P (bodyPostM Fence.wide 0 P fn fun e w' => ∃ u φ', e = .returned u ∧ VR φ' u v ∧ Step φ H bar base w φ' H' w') { tmps := args' ++ Array.replicate (fn.ntmps - args'.size) undef, defers := [] } w := by
            intro e f' H₁ he hr hf
            have hw : c.wpIn Fence.wide 0 P (PostC φ H bar base w none e f' H₁) { tmps := args' ++ Array.replicate (fn.ntmps - args'.size) undef, defers := [] } w := hrec.code hr hs hact
            refine wpIn_mono hw ?_
            rintro ex a' w' ⟨rfl, φ', hst, ha⟩
            have key : LeavesInM Fence.wide 0 P fn a'.tmps (fun e w' => ∃ u φ', e = .returned u ∧ VR φ' u v ∧ Step φ H bar base w φ' H' w') a'.defers .returning w' := by
              unfold finA at hf
              split at hf
              · cases hf
              · rename_i H₂ ht
                rw [Option.map_eq_some_iff] at hf; obtain ⟨vs, hrs, hf⟩ := hf
                cases hf
                refine take_sound ht hst.sim ha.ds fun w'' st => ?_
                obtain ⟨u, k1, k2⟩ := run_results st.sim ha.fr hrs
                exact ⟨u, k1, u, φ', rfl, k2, hst.trans st⟩
            rcases he with rfl | rfl
            · exact key
            · exact key
          refine callsIn_wide.1 (callsIn_of_wp_marks (n := 0) hfn hc trivial ?_)
          split at h
          · rename_i f' H₁ hr
            exact fin _ _ _ (.inl rfl) hr h
          · rename_i f' H₁ hr
            exact fin _ _ _ (.inr rfl) hr h
          · cases h
        · cases h

theorem aop_defer {ρ : Env} {op : Op} {r : ARes} (h : aop P bar ρ H op = some r) : ∀ c, op ≠ .defer c := by
  rintro c rfl
  cases h

theorem semAt_eq {ρ : Env} {ρc : Operand → Value} {o : Oper} {r : ARes} (h : aop P bar ρ H o.op = some r) (l : Option Nat) : Oper.semAt l ρc o = execOp ρc o := by
  cases l with
  | none => exact Oper.semAt_none _ _
  | some l => exact Oper.semAt_some l ρc o (aop_defer h)

/-- One operation. -/
theorem oper_sound {K : Known} (hK : KnownOk P K) {rec : Rec} (hrec : RecOk P rec) {ops : Array Oper} {o : Oper} {f f' : Fr} (h : operA P K rec bar ops o f H = some (f', H')) (hs : Sim φ H bar base w)
    {a : Act} {l : Option Nat} (hf : ActR φ l a f) {next : Act → World → Prop} {Q : Exit → Act → World → Prop} (hn : ∀ a' w' φ', Step φ H bar base w φ' H' w' → ActR φ' l a' f' → next a' w') :
    if Region.wanted o (yielded ops a.tmps) then o.wpIn (Wd l) 0 P a w next Q else (∀ f, o.about P w a.eval = some f → (Wd l).fn f) ∧ next (a.put o.dst undef) w := by
  unfold operA at h
  split at h
  · cases h
  · rename_i hw
    rw [wanted_rel hf.fr hw]
    rw [Option.map_eq_some_iff] at h; obtain ⟨f₁, hp, h⟩ := h
    cases h
    exact ⟨fun _ _ => trivial, hn _ _ φ (Step.refl hs) (hf.put (.tuple .nil) hp)⟩
  · rename_i hw
    rw [wanted_rel hf.fr hw]
    refine ⟨fun _ _ => trivial, ?_⟩
    split at h
    · cases h
    · rename_i v H₁ hop
      rw [Option.map_eq_some_iff] at h; obtain ⟨f₁, hp, h⟩ := h
      cases h
      obtain ⟨u, w', φ', h1, h2, h3⟩ := aop_sound hs (aev_rel hf.fr) hop
      have hfin : next (a.put o.dst u) w' := hn _ _ φ' h3 ((hf.mono h3.ext).put h2 hp)
      rw [semAt_eq hop]
      rcases h1 with h1 | ⟨h1, rfl⟩
      · rw [h1]; exact hfin
      · rw [h1]; exact hfin
    · rename_i g args H₁ hop
      split at h
      · cases h
      · rename_i v H₂ hcall
        rw [Option.map_eq_some_iff] at h; obtain ⟨f₁, hp, h⟩ := h
        cases h
        rw [semAt_eq hop]
        obtain ⟨rfl, args', w', h1, rfl, h2⟩ := aop_sound hs (aev_rel hf.fr) hop
        rw [h1]
        refine ⟨(fun h => by cases h), ?_⟩
        have hc := (callsIn_wide (n := 0)).2 (call_sound hK hrec hcall hs h2)
        refine CallsIn.mono (F := Wd l) (n := 0) hc ?_
        rintro e w'' ⟨u, φ', rfl, k1, k2⟩
        exact hn _ _ φ' k2 ((hf.mono k2.ext).put k1 hp)

end Go.Abs
