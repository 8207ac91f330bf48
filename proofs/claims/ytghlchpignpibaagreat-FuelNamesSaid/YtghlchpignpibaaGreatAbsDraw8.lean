/- A machine that carries out code on values that are known, and the proof that the model's runs agree with it: one part. -/
import Derived.Test.YtghlchpignpibaaGreatAbsDraw7
noncomputable section
namespace Go.Abs
variable {P : Program} {D : List Deferred} {ol : Option Nat}

section
variable {K : Known} {rec : Rec} {Wf : FuncId → Option Nat} {bar base : Nat} {ops : Array Oper} {F : Nat → Fr} {G : Nat → AH} {C : Nat → Cls}
variable {φ₀ : Ren} {w₀ : World} {listed : Array Bool} {a : Act} {w : World} {i : Nat}

theorem cls_R {Wf : FuncId → Option Nat} {ρ : Env} {op : Op} (h : clsA Wf ρ op = .R) : regOp op = true := by
  unfold clsA at h
  split at h
  · assumption
  · split at h
    · cases h
    · split at h
      · cases h
      · first | cases h | (split at h <;> cases h)

theorem cls_A {Wf : FuncId → Option Nat} {ρ : Env} {op : Op} (h : clsA Wf ρ op = .A) : makesA op = true := by
  unfold clsA at h
  split at h
  · cases h
  · split at h
    · cases h
    · split at h
      · cases h
      · first
        | cases h
        | split at h
          · assumption
          · cases h

theorem cls_L {Wf : FuncId → Option Nat} {ρ : Env} {op : Op} {b : Option Nat} (h : clsA Wf ρ op = .L b) : loadsA ρ op = some b := by
  unfold clsA at h
  split at h
  · cases h
  · split at h
    · rename_i x hx; cases h; exact hx
    · split at h
      · cases h
      · first | cases h | (split at h <;> cases h)

theorem ρOf_looks {o : Oper} {f : Fr} {x : Operand} (h : x ∈ o.op.operands) : ρOf ops o f x = aev f x := by
  cases x with
  | tmp t' =>
    simp only [ρOf]
    rw [if_pos]
    · rfl
    · unfold Oper.looksAt
      exact List.mem_append_left _ (List.mem_filterMap.2 ⟨.tmp t', by simpa using h, rfl⟩)
  | _ => rfl

theorem loads_congr {o : Oper} {f : Fr} : loadsA (ρOf ops o f) o.op = loadsA (aev f) o.op := by
  cases hop : o.op <;> simp only [loadsA]
  case load t x => rw [ρOf_looks (by simp [hop, Op.operands])]
  case slice t x lo hi mx => rw [ρOf_looks (by simp [hop, Op.operands])]
  case lookup t x i ok => rw [ρOf_looks (by simp [hop, Op.operands])]
  case call c =>
    have e : (c.args[0]?).bind (ρOf ops o f) = (c.args[0]?).bind (aev f) := by
      cases hx : c.args[0]? with
      | none => rfl
      | some x =>
        exact ρOf_looks (by
          have := Array.mem_of_getElem? hx
          simp [hop, Op.operands, Call.operands]
          right; simpa using this)
    rw [e]

/-- The value at hand names the block. -/
def Names (b : Nat) : Value → Prop
  | .pointer (some p) => p.block = b
  | .slice (some p) _ _ => p.block = b
  | .map (some r) => r = b
  | _ => False

theorem loads_names {ρ : Env} {op : Op} {b : Nat} (h : loadsA ρ op = some (some b)) : ∃ x ∈ op.operands, ∃ v, ρ x = some v ∧ Names b v := by
  cases op <;> simp only [loadsA] at h
  case load t x =>
    split at h
    · rename_i p hx; cases h; exact ⟨x, by simp [Op.operands], _, hx, rfl⟩
    · cases h
  case slice t x lo hi mx =>
    split at h
    · rename_i p len cap hx
      split at h
      · cases h; exact ⟨x, by simp [Op.operands], _, hx, rfl⟩
      · cases h
    all_goals cases h
  case lookup t x i ok =>
    split at h
    · rename_i r hx; cases h; exact ⟨x, by simp [Op.operands], _, hx, rfl⟩
    all_goals cases h
  case call c =>
    split at h
    · split at h
      · rename_i r hx
        cases h
        rw [Option.bind_eq_some_iff] at hx; obtain ⟨x, hx, hv⟩ := hx
        refine ⟨x, ?_, _, hv, rfl⟩
        have := Array.mem_of_getElem? hx
        simp [Op.operands, Call.operands]
        right; simpa using this
      all_goals cases h
    all_goals cases h
  all_goals cases h

theorem names_rb {φ : Ren} {b : Nat} {u v : Value} (h : Names b v) (hv : VR φ u v) : ∃ r, φ b = some r := by
  cases hv <;> first | (cases h; done) | skip
  all_goals (cases h; exact ⟨_, by assumption⟩)

/-- One operation, whichever it is. -/
theorem next_any (hK : KnownOk P K) (hrec : RecOk P rec) (ht : Trace P K rec Wf bar ops F G C) (hm : Mem bar ops F G C) (hT : Tests ops G C) (h0 : ∀ b r, φ₀ b = some r → b < (G 0).next) (hb0 : bar ≤ (G 0).next)
    (hI : InvE D bar base ops F G C φ₀ w₀ listed a w) (hr : Ready ops listed i) {Q : Exit → Act → World → Prop} : wpOpIn (Wd ol) 0 P ops Q i (InvE D bar base ops F G C φ₀ w₀ (listed.setIfInBounds i true)) a w := by
  obtain ⟨m, φ, hI⟩ := hI
  have hlt := hr.lt
  have ho : ops[i]? = some ops[i] := by simp
  have hst := ht.step i ops[i] ho
  unfold wpOpIn
  rw [ho]
  simp only
  have hn : ∀ t v, t ∈ Oper.looksAt ops ops[i] → (F i).get t = some v → ∃ u, a.tmps[t]? = some u ∧ VR φ u v := fun t v hin hv => names_rel ht hm hT hI hr ho (looks_names hin) hv
  rcases drawOne_cls hst with ⟨hw, hc⟩ | ⟨hw, hc⟩
  · rw [wanted_rel' hn hw, if_pos rfl]
    cases hcl : C i with
    | R =>
      have hnw : ¬ (C i).isW := by rw [hcl]; exact fun h => h
      have hreg := cls_R (hc.symm.trans hcl)
      rcases drawOne_oper hst with ⟨_, hop⟩ | ⟨s, hw', _⟩
      · rcases operA_parts hop with ⟨hwf, _⟩ | ⟨_, r, v, hop, hp, hres⟩
        · rw [hw] at hwf; cases hwf
        · obtain ⟨v', e1, e2⟩ := reg_sound (ρOf_rel hn) hreg (by rw [ρOf_op]; exact hop)
          have hvv : v = v' := by
            rcases hres with rfl | ⟨g, args, H₁, rfl, _⟩
            · injection e1
            · cases e1
          subst hvv
          obtain ⟨u, k1, k2⟩ := e2 w
          refine ⟨fun _ _ => trivial, ?_⟩
          rw [semAt_eq hop, k1]
          exact ⟨m, φ, next_same ht hm hT hI hr ho hnw k2 hp⟩
      · rw [hw'] at hnw; exact absurd trivial hnw
    | L b =>
      have hnw : ¬ (C i).isW := by rw [hcl]; exact fun h => h
      have hl := cls_L (hc.symm.trans hcl)
      rcases drawOne_oper hst with ⟨_, hop⟩ | ⟨s, hw', _⟩
      · rcases operA_parts hop with ⟨hwf, _⟩ | ⟨_, r, v, hop, hp, hres⟩
        · rw [hw] at hwf; cases hwf
        · -- the block that is read is as it was
          have hget : ∀ x, b = some x → (G m).get x = (G i).get x := by
            intro x hbx
            subst hbx
            have hfree : ∀ k, k < ops.size → (C k).isW → ¬ bfr (Region.before ops) (min i k) (max i k) = true → x < (G k).next → (G (k + 1)).get x = (G k).get x := by
              intro k hk hwk hno hbk
              obtain ⟨b', hb'⟩ : ∃ b', C k = .W b' := by
                cases hck : C k with
                | W b' => exact ⟨b', rfl⟩
                | _ => rw [hck] at hwk; exact hwk.elim
              have hne : i ≠ k := fun e => hnw (e ▸ hwk)
              rcases hT.cls i k b' hlt hk hb' hne (by rw [hcl]; exact fun e => by cases e) with h | h
              · exact absurd h hno
              · rw [hcl] at h
                unfold freeAt at h
                simp only [Bool.or_eq_true] at h
                rcases h with h | h
                · exact hm.one k b' hk hb' x h hbk
                · exact sameAt_eq h
            have hbi : x < (G i).next ∧ ∃ r, φ x = some r := by
              obtain ⟨y, hy, v', hv', hnm⟩ := loads_names hl
              cases y with
              | tmp t' =>
                have hin : t' ∈ Oper.looksAt ops ops[i] := by
                  unfold Oper.looksAt
                  exact List.mem_append_left _ (List.mem_filterMap.2 ⟨.tmp t', by simpa using hy, rfl⟩)
                obtain ⟨ψ, u', h3, h4⟩ := hm.frame i (by omega) t' _ hv'
                obtain ⟨u, h5, h6⟩ := hn t' _ hin hv'
                obtain ⟨r1, h7⟩ := names_rb hnm h4
                exact ⟨h3 _ _ h7, names_rb hnm h6⟩
              | const c =>
                simp only [aev] at hv'
                split at hv'
                · rename_i hpl
                  cases hv'
                  cases v' with
                  | pointer p => cases p <;> first | (cases hnm; done) | (simp [plain, plain1] at hpl; done)
                  | slice p _ _ => cases p <;> first | (cases hnm; done) | (simp [plain, plain1] at hpl; done)
                  | map p => cases p <;> first | (cases hnm; done) | (simp [plain, plain1] at hpl; done)
                  | _ => cases hnm
                · cases hv'
              | global g => cases hv'
              | func g => cases hv'; cases hnm
            obtain ⟨hbi, rb, hφb⟩ := hbi
            have hbm : x < (G m).next := hI.sim.lt x rb hφb
            by_cases him : i ≤ m
            · refine hm.same him hI.hm hbi fun k h1 h2 hwk hbk => hfree k (by have := hI.hm; omega) hwk (fun hord => ?_) hbk
              have hk : k < ops.size := by have := hI.hm; omega
              have hne : i ≠ k := fun e => hnw (e ▸ hwk)
              exact (ordered hI.down hr hI.size hne hord).2 (by omega) ((hI.ws k hk hwk).2 h2)
            · refine (hm.same (i := m) (j := i) (by omega) (by omega) hbm fun k h1 h2 hwk hbk => hfree k (by omega) hwk (fun hord => ?_) hbk).symm
              have hne : i ≠ k := fun e => hnw (e ▸ hwk)
              have := (ordered hI.down hr hI.size hne hord).1 h2
              rw [hI.ws k (by omega) hwk] at this
              omega
          obtain ⟨v', e1, u, k1, k2⟩ := load_sound hI.sim (ρOf_rel hn) (by rw [loads_congr]; exact hl) hget (by rw [ρOf_op]; exact hop)
          have hvv : v = v' := by
            rcases hres with rfl | ⟨g, args, H₁, rfl, _⟩
            · injection e1
            · cases e1
          subst hvv
          refine ⟨fun _ _ => trivial, ?_⟩
          rw [semAt_eq hop, k1]
          exact ⟨m, φ, next_same ht hm hT hI hr ho hnw k2 hp⟩
      · rw [hw'] at hnw; exact absurd trivial hnw
    | Q =>
      rcases drawOne_oper hst with ⟨_, hop⟩ | ⟨s, hw', _⟩
      · rcases operA_parts hop with ⟨hwf, _⟩ | ⟨_, r, v, hop, hp, hres⟩
        · rw [hw] at hwf; cases hwf
        · exact next_Q hK hrec ht hm hT h0 hb0 hI hr ho hcl hop hp hres
      · rw [hcl] at hw'; cases hw'
    | A =>
      rcases drawOne_oper hst with ⟨_, hop⟩ | ⟨s, hw', _⟩
      · rcases operA_parts hop with ⟨hwf, _⟩ | ⟨_, r, v, hop, hp, hres⟩
        · rw [hw] at hwf; cases hwf
        · exact next_A hK hrec ht hm hT h0 hb0 hI hr ho hcl (cls_A (hc.symm.trans hcl)) hop hp hres
      · rw [hcl] at hw'; cases hw'
    | W b =>
      rcases drawOne_oper hst with ⟨hnw, _⟩ | ⟨s, hw', hsb, hop⟩
      · rw [hcl] at hnw; exact absurd trivial hnw
      · rcases operA_parts hop with ⟨hwf, _⟩ | ⟨_, r, v, hop, hp, hres⟩
        · rw [hw] at hwf; cases hwf
        · exact next_Wr hK hrec ht hm hT hI hr ho (by rw [hcl]; trivial) (WS.lim_le s bar) hsb hop hp hres
  · rw [wanted_rel' hn hw, if_neg (by simp)]
    refine ⟨fun _ _ => trivial, ?_⟩
    have hnw : ¬ (C i).isW := by rw [hc]; exact fun h => h
    rcases drawOne_oper hst with ⟨_, hop⟩ | ⟨s, hw', _⟩
    · rcases operA_parts hop with ⟨_, hp, _⟩ | ⟨hwt, _⟩
      · exact ⟨m, φ, next_same ht hm hT hI hr ho hnw (.tuple .nil) hp⟩
      · rw [hw] at hwt; cases hwt
    · rw [hw'] at hnw; exact absurd trivial hnw

theorem trace_keep (ht : Trace P K rec Wf bar ops F G C) : ∀ i, i ≤ ops.size → (F i).ds = (F 0).ds ∧ (F i).rd = (F 0).rd
  | 0, _ => ⟨rfl, rfl⟩
  | i + 1, h => by
    obtain ⟨e1, e2⟩ := trace_keep ht i (by omega)
    have hst := ht.step i ops[i] (by simp)
    have fin : ∀ {b : Nat}, operA P K rec b ops ops[i] (F i) (G i) = some (F (i + 1), G (i + 1)) → (F (i + 1)).ds = (F 0).ds ∧ (F (i + 1)).rd = (F 0).rd := by
      intro b hop
      rcases operA_parts hop with ⟨_, hp, _⟩ | ⟨_, r, v, _, hp, _⟩
      · obtain ⟨q1, q2, _⟩ := put_same hp; exact ⟨by rw [q1, e1], by rw [q2, e2]⟩
      · obtain ⟨q1, q2, _⟩ := put_same hp; exact ⟨by rw [q1, e1], by rw [q2, e2]⟩
    rcases drawOne_oper hst with ⟨_, hop⟩ | ⟨s, _, _, hop⟩
    · exact fin hop
    · exact fin hop

theorem ready_of (hr : i ∈ Region.ready .any ops listed) : Ready ops listed i := by
  unfold Region.ready at hr
  simp only [List.mem_filter, List.mem_range, Bool.and_eq_true, Bool.not_eq_true'] at hr
  obtain ⟨h1, h2, h3⟩ := hr
  have ho : ops[i]? = some ops[i] := by simp
  refine ⟨h1, ?_, ?_⟩
  · unfold Lst
    intro h
    rw [Array.getD_eq_getD_getElem?] at h h2
    cases hh : listed[i]? with
    | none => rw [hh] at h; simp at h
    | some b => rw [hh] at h h2; simp at h h2; rw [h] at h2; cases h2
  · intro o hoo e he hb
    rw [ho] at hoo; cases hoo
    rw [ho] at h3
    simp only [Option.map_some, Option.getD_some, Array.all_eq_true'] at h3
    have := h3 e he
    rw [hb] at this
    simpa [Lst] using this

theorem ready_nil (hsz : listed.size = ops.size) (he : edgesOk ops = true) (hn : Region.ready .any ops listed = []) : ∀ j, j < ops.size → Lst listed j := by
  intro j
  induction j using Nat.strongRecOn with
  | _ j ih =>
    intro hj
    by_cases hl : Lst listed j
    · exact hl
    · exfalso
      have ho : ops[j]? = some ops[j] := by simp
      have : j ∈ Region.ready .any ops listed := by
        unfold Region.ready
        simp only [List.mem_filter, List.mem_range, Bool.and_eq_true, Bool.not_eq_true']
        refine ⟨hj, ?_, ?_⟩
        · unfold Lst at hl
          rw [Array.getD_eq_getD_getElem?] at hl ⊢
          rw [Array.getElem?_eq_getElem (by omega)] at hl ⊢
          simpa using hl
        · rw [ho]
          simp only [Option.map_some, Option.getD_some, Array.all_eq_true']
          intro e hee
          unfold edgesOk at he
          rw [List.all_eq_true] at he
          have h1 := he (ops[j], j) (by rw [List.mem_zipIdx_iff_getElem?]; simp)
          simp only [Array.all_eq_true'] at h1
          have h2 := h1 e hee
          cases hb : Region.binds .any e with
          | false => simp
          | true =>
            rw [hb] at h2
            have hlt : e.on < j := by simpa using h2
            have := ih e.on hlt (by omega)
            simpa [Lst] using this
      rw [hn] at this
      cases this

theorem any_of_inv (hK : KnownOk P K) (hrec : RecOk P rec) (ht : Trace P K rec Wf bar ops F G C) (hm : Mem bar ops F G C) (hT : Tests ops G C) (he : edgesOk ops = true) (h0 : ∀ b r, φ₀ b = some r → b < (G 0).next) (hb0 : bar ≤ (G 0).next)
    {Q : Exit → Act → World → Prop} (hQ : ∀ listed a w, (∀ j, j < ops.size → Lst listed j) → InvE D bar base ops F G C φ₀ w₀ listed a w → Q .normal a w) :
    ∀ (fuel : Nat) (listed : Array Bool) (U : List Nat) (a : Act) (w : World), (∀ j, j < ops.size → ¬ Lst listed j → j ∈ U) → U.length ≤ fuel → InvE D bar base ops F G C φ₀ w₀ listed a w → wpAnyIn (Wd ol) 0 P .any ops Q fuel listed a w
  | 0, listed, U, a, w, hU, hl, hI => by
    have hnil : U = [] := List.eq_nil_of_length_eq_zero (by omega)
    subst hnil
    have hall : ∀ j, j < ops.size → Lst listed j := fun j hj => Classical.byContradiction fun h => by have := hU j hj h; cases this
    refine ⟨?_, hQ listed a w hall hI⟩
    apply List.eq_nil_iff_forall_not_mem.2
    intro j hj
    have := ready_of hj
    exact this.new (hall j this.lt)
  | fuel + 1, listed, U, a, w, hU, hl, hI => by
    have hsz : listed.size = ops.size := by obtain ⟨m, φ, hI⟩ := hI; exact hI.size
    refine ⟨fun hn => hQ listed a w (ready_nil hsz he hn) hI, fun i hi => ?_⟩
    have hr := ready_of hi
    have hiU := hU i hr.lt hr.new
    refine wpOpIn_mono (fun a' w' hI' => ?_) (next_any hK hrec ht hm hT h0 hb0 hI hr)
    refine any_of_inv hK hrec ht hm hT he h0 hb0 hQ fuel _ (U.erase i) a' w' (fun j hj hnl => ?_) (by rw [List.length_erase_of_mem hiU]; omega) hI'
    have hi' : i < listed.size := by have := hr.lt; omega
    rw [lst_set hi'] at hnl
    have hne : j ≠ i := fun e => hnl (.inl e)
    exact (List.mem_erase_of_ne hne).2 (hU j hj fun h => hnl (.inr h))

end

theorem draw_ok {K : Known} (hK : KnownOk P K) (hfol : P.follows .mixedOrders = true) (Wf : FuncId → Option Nat) : DrawOk P (drawA P K Wf) := by
  intro rec hrec bar id ops f f' H H' h φ base w a ol hs ha
  have hf := ha.fr
  unfold drawA at h
  split at h
  · rename_i hst
    split at h
    · rename_i cs f₁ H₁ hall
      split at h
      · rename_i hcls
        cases h
        unfold staticOk at hst
        simp only [Bool.and_eq_true] at hst
        obtain ⟨⟨he, htm⟩, _⟩ := hst
        obtain ⟨F, G, C, rfl, rfl, e3, e4, e5, e6, e7⟩ := trace_of _ _ _ _ _ _ hall
        have e3 : F ops.size = f' := by simpa using e3
        have e4 : G ops.size = H' := by simpa using e4
        subst e3; subst e4
        have ht : Trace P K rec Wf bar ops F G C := ⟨fun i o ho => e7 i o (by simpa using ho)⟩
        have hmem := mem_of hK hrec ht hs hf
        have hT : Tests ops G C := by
          refine ⟨fun i j o ho hne t hn hdj => ?_, fun i j b hi hj hb hA => ?_, fun i j b hi hj hb hne hA => ?_⟩
          · unfold tmpsOk at htm
            rw [List.all_eq_true] at htm
            have h1 := htm (o, i) (by rw [List.mem_zipIdx_iff_getElem?]; simpa using ho)
            rw [List.all_eq_true] at h1
            cases hoj : ops[j]? with
            | none => unfold dstOf at hdj; rw [hoj] at hdj; cases hdj
            | some o' =>
              have h2 := h1 (o', j) (by rw [List.mem_zipIdx_iff_getElem?]; simpa using hoj)
              have hd' : o'.dst = some t := by unfold dstOf at hdj; rw [hoj] at hdj; exact hdj
              simp only [hd', Bool.or_eq_true, beq_iff_eq, Bool.not_eq_true'] at h2
              rcases h2 with h2 | h2 | h2
              · exact absurd h2.symm hne
              · exfalso
                have : (namesOf ops o).contains t = true := by simpa using hn
                rw [this] at h2; cases h2
              · rw [Nat.min_comm, Nat.max_comm]; exact h2
          · unfold clsOk at hcls
            rw [List.all_eq_true] at hcls
            have hcj : cs[j]? = some (C j, G j, G (j + 1)) := e6 j (by simpa using hj)
            have hci : cs[i]? = some (C i, G i, G (i + 1)) := e6 i (by simpa using hi)
            have h1 := hcls ((C j, G j, G (j + 1)), j) (by rw [List.mem_zipIdx_iff_getElem?]; simpa using hcj)
            rw [hb] at h1
            simp only [List.all_eq_true] at h1
            have h2 := h1 ((C i, G i, G (i + 1)), i) (by rw [List.mem_zipIdx_iff_getElem?]; simpa using hci)
            simp only [Bool.or_eq_true, beq_iff_eq] at h2
            rcases h2 with ((h2 | h2) | h2) | h2
            · subst h2; rw [hA] at hb; cases hb
            · exact .inl h2
            · rw [hA] at h2; cases h2
            · rw [hA] at h2
              simp only [makesFree, Bool.and_eq_true] at h2
              exact .inr ⟨Eq.mp Nat.blt_eq h2.1, Nat.eq_of_beq_eq_true h2.2.1, h2.2.2⟩
          · unfold clsOk at hcls
            rw [List.all_eq_true] at hcls
            have hcj : cs[j]? = some (C j, G j, G (j + 1)) := e6 j (by simpa using hj)
            have hci : cs[i]? = some (C i, G i, G (i + 1)) := e6 i (by simpa using hi)
            have h1 := hcls ((C j, G j, G (j + 1)), j) (by rw [List.mem_zipIdx_iff_getElem?]; simpa using hcj)
            rw [hb] at h1
            simp only [List.all_eq_true] at h1
            have h2 := h1 ((C i, G i, G (i + 1)), i) (by rw [List.mem_zipIdx_iff_getElem?]; simpa using hci)
            simp only [Bool.or_eq_true, beq_iff_eq] at h2
            rcases h2 with ((h2 | h2) | h2) | h2
            · exact absurd h2 hne
            · exact .inl h2
            · exact .inr h2
            · exfalso
              rw [Bool.and_eq_true] at h2
              cases hci' : C i with
              | A => exact hA hci'
              | _ => rw [hci'] at h2; cases h2.2
        refine wpIn_region_any hfol ?_
        have hs' := hs.drew
        refine any_of_inv (D := a.defers) (φ₀ := φ) (w₀ := w.drew) (base := base) hK hrec ht hmem hT he hs'.lt hs'.bn ?_ ops.size _ (List.range ops.size) a _ (fun j hj _ => by simpa using hj) (by simp) ?_
        · rintro listed a' w' hall' ⟨m, ψ, hI⟩
          have hmn : m = ops.size := by
            rcases hI.mw with h | h
            · exact h
            · by_cases hlt : m < ops.size
              · have := (hI.ws m hlt h).1 (hall' m hlt)
                omega
              · have := hI.hm; omega
          subst hmn
          refine PostC.trans (Step.drew hs) ⟨rfl, ψ, ⟨hI.ext, hI.sim, fun b r h => ?_, hI.below, (hmem.bar _ (Nat.le_refl _)).1, (hmem.bar _ (Nat.le_refl _)).2⟩, ?_, by rw [hI.defers, (trace_keep ht _ (Nat.le_refl _)).1]; exact ha.ds.mono hI.ext, by rw [(trace_keep ht _ (Nat.le_refl _)).2]; exact ha.rd.mono hI.ext⟩
          · rcases hI.dom b r h with h | ⟨k, k1, _, k2, _⟩
            · exact .inl h
            · exact .inr (Nat.le_trans (hmem.le (Nat.zero_le k) (by omega)) k2)
          · refine ⟨by rw [hI.tsize, (hmem.n _ (Nat.le_refl _)).1], (hmem.n _ (Nat.le_refl _)).2, fun t v hv => ?_⟩
            obtain ⟨q, q1, q2, q3, q4⟩ := hI.fr t
            rw [frame_same ht hmem q1 (Nat.le_refl _) (fun j j1 j2 hdj => by have := q2 j j2 (hall' j j2) hdj; omega)] at hv
            exact q4 v hv
        · obtain ⟨m, n1, n2, n3, n4⟩ := next_W (ops := ops) (C := C) ops.size 0 (by omega)
          have hnone : ∀ j, ¬ Lst (Array.replicate ops.size false) j := by
            intro j h
            unfold Lst at h
            rw [Array.getD_eq_getD_getElem?, Array.getElem?_replicate] at h
            split at h <;> simp at h
          have hsame : ∀ b, b < (G 0).next → (G m).get b = (G 0).get b := fun b hb => hmem.same (Nat.zero_le m) n2 hb (fun j _ j2 hw _ => absurd hw (n4 j (Nat.zero_le j) j2))
          refine ⟨m, φ, n2, n3, fun j hj hw => ⟨fun h => absurd h (hnone j), fun h => absurd hw (n4 j (Nat.zero_le j) h)⟩, fun j o h => absurd h (hnone j), by simp, hs'.extend hsame (hmem.le (Nat.zero_le m) n2) (hmem.small m n2), Ren.le_refl _, RowKit.Below.refl _ _, fun b r h => .inl h, ?_, fun t => ?_, hf.size, rfl⟩
          · intro b r o h hg k hk hkw hbk
            rw [hsame b (hs'.lt b r h)] at hg
            refine (hs'.obj b r o h hg).frame (le_res (Ren.le_refl _) fun b' r' h' => ?_) rfl
            have := hs'.lt b' r' h'
            have := hmem.le (Nat.zero_le k) (by omega)
            omega
          · exact ⟨0, Nat.zero_le _, fun j _ h _ => absurd h (hnone j), .inl rfl, fun v hv => hf.get t v hv⟩
      · cases h
    · cases h
  · cases h

/-- The abstract machine is sound. -/
theorem run_sound {K : Known} (hK : KnownOk P K) (hfol : P.follows .mixedOrders = true) (Wf : FuncId → Option Nat) (n : Nat) : RecOk P (evalA P K (drawA P K Wf) n) :=
  eval_sound hK (draw_ok hK hfol Wf) n

end Go.Abs
