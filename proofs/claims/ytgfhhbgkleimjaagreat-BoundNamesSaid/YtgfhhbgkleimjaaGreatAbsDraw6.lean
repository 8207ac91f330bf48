/- A machine that carries out code on values that are known, and the proof that the model's runs agree with it: one part. -/
import Derived.Test.YtgfhhbgkleimjaaGreatAbsDraw5
noncomputable section
namespace Go.Abs
variable {P : Program} {D : List Deferred} {ol : Option Nat}

def Lst (listed : Array Bool) (i : Nat) : Prop := listed.getD i false = true

def dstOf (ops : Array Oper) (j : Nat) : Option Tmp := (ops[j]?).bind (·.dst)

/-- What holds when some of a region's operations have been carried out. -/
structure Inv (D : List Deferred) (bar base : Nat) (ops : Array Oper) (F : Nat → Fr) (G : Nat → AH) (C : Nat → Cls) (φ₀ : Ren) (w₀ : World) (listed : Array Bool) (a : Act) (w : World) (m : Nat) (φ : Ren) : Prop where
  hm : m ≤ ops.size
  mw : m = ops.size ∨ (C m).isW
  ws : ∀ j, j < ops.size → (C j).isW → (Lst listed j ↔ j < m)
  down : Down ops (Lst listed)
  size : listed.size = ops.size
  sim : Sim φ (G m) bar base w
  ext : φ₀.le φ
  below : RowKit.Below base w₀ w
  dom : ∀ b r, φ b = some r → φ₀ b = some r ∨ ∃ i, i < ops.size ∧ Lst listed i ∧ (G i).next ≤ b ∧ b < (G (i + 1)).next
  bd : ∀ b r o, φ b = some r → (G m).get b = some o → ∀ k, k ≤ m → (∀ j, k ≤ j → j < m → ¬ (C j).isW) → b < (G k).next → ObjR (res φ (G k).next) r w o
  fr : ∀ t, ∃ q, q ≤ ops.size ∧ (∀ j, j < ops.size → Lst listed j → dstOf ops j = some t → j < q) ∧ (q = 0 ∨ ∃ j, q = j + 1 ∧ j < ops.size ∧ Lst listed j ∧ dstOf ops j = some t) ∧ ∀ v, (F q).get t = some v → ∃ u, a.tmps[t]? = some u ∧ VR φ u v
  tsize : a.tmps.size = (F 0).n
  defers : a.defers = D

theorem lst_set {listed : Array Bool} {i : Nat} (hi : i < listed.size) (j : Nat) : Lst (listed.setIfInBounds i true) j ↔ j = i ∨ Lst listed j := by
  unfold Lst
  rw [Array.getD_eq_getD_getElem?, Array.getD_eq_getD_getElem?, Array.getElem?_setIfInBounds]
  by_cases h : i = j
  · subst h; simp [hi]
  · rw [if_neg h]
    exact ⟨fun e => .inr e, fun e => e.resolve_left (fun e => h e.symm)⟩

section
variable {K : Known} {rec : Rec} {Wf : FuncId → Option Nat} {bar base : Nat} {ops : Array Oper} {F : Nat → Fr} {G : Nat → AH} {C : Nat → Cls}

/-- What the tests of a region say. -/
structure Tests (ops : Array Oper) (G : Nat → AH) (C : Nat → Cls) : Prop where
  tmps : ∀ i j o, ops[i]? = some o → i ≠ j → ∀ t, t ∈ namesOf ops o → dstOf ops j = some t → bfr (Region.before ops) (min i j) (max i j) = true
  cls : ∀ i j b, i < ops.size → j < ops.size → C j = .W b → i ≠ j → bfr (Region.before ops) (min i j) (max i j) = true ∨ freeAt (C i) b (G j) (G (j + 1)) = true

/-- An operation whose turn it may be. -/
structure Ready (ops : Array Oper) (listed : Array Bool) (i : Nat) : Prop where
  lt : i < ops.size
  new : ¬ Lst listed i
  deps : ∀ o, ops[i]? = some o → ∀ e ∈ o.after, Region.binds .any e = true → Lst listed e.on

theorem down_next {listed : Array Bool} {i : Nat} (hd : Down ops (Lst listed)) (hr : Ready ops listed i) (hsz : listed.size = ops.size) : Down ops (Lst (listed.setIfInBounds i true)) := by
  have hi : i < listed.size := by have := hr.lt; omega
  intro j o hj ho e he hb
  rw [lst_set hi] at hj ⊢
  rcases hj with rfl | hj
  · exact .inr (hr.deps o ho e he hb)
  · exact .inr (hd j o hj ho e he hb)

/-- Those in an order to one whose turn it is: the earlier ones are done, the later ones are not. -/
theorem ordered {listed : Array Bool} {i j : Nat} (hd : Down ops (Lst listed)) (hr : Ready ops listed i) (hsz : listed.size = ops.size) (_hne : i ≠ j) (hb : bfr (Region.before ops) (min i j) (max i j) = true) :
    (j < i → Lst listed j) ∧ (i < j → ¬ Lst listed j) := by
  have hi : i < listed.size := by have := hr.lt; omega
  refine ⟨fun h => ?_, fun h hj => ?_⟩
  · rw [Nat.min_eq_right (by omega), Nat.max_eq_left (by omega)] at hb
    have := down_before (down_next hd hr hsz) i j ((lst_set hi i).2 (.inl rfl)) hb
    rw [lst_set hi] at this
    exact this.resolve_left (by omega)
  · rw [Nat.min_eq_left (by omega), Nat.max_eq_right (by omega)] at hb
    exact hr.new (down_before hd j i hj hb)

theorem frame_same (ht : Trace P K rec Wf bar ops F G C) (hm : Mem bar ops F G C) {t : Tmp} : ∀ {q i : Nat}, q ≤ i → i ≤ ops.size → (∀ j, q ≤ j → j < i → dstOf ops j ≠ some t) → (F i).get t = (F q).get t := by
  intro q i hq hi hw
  induction i with
  | zero => have : q = 0 := by omega
            subst this; rfl
  | succ i ih =>
    by_cases h : q = i + 1
    · subst h; rfl
    · rw [← ih (by omega) (by omega) (fun j h1 h2 => hw j h1 (by omega))]
      have ho : ops[i]? = some ops[i] := by simp
      have hd : ops[i].dst ≠ some t := by
        have := hw i (by omega) (by omega)
        unfold dstOf at this
        rw [ho] at this
        exact this
      have key : ∀ {bb : Nat}, operA P K rec bb ops ops[i] (F i) (G i) = some (F (i + 1), G (i + 1)) → (F (i + 1)).get t = (F i).get t := by
        intro bb h
        rcases operA_parts h with ⟨_, hp, _⟩ | ⟨_, r, v, _, hp, _⟩
        · rw [(Fr.put_get hp (hm.n i (by omega)).2).2 t, if_neg hd]
        · rw [(Fr.put_get hp (hm.n i (by omega)).2).2 t, if_neg hd]
      rcases drawOne_oper (ht.step i _ ho) with ⟨_, h⟩ | ⟨_, _, _, h⟩ <;> exact key h

variable {φ₀ : Ren} {w₀ : World} {listed : Array Bool} {a : Act} {w : World} {m : Nat} {φ : Ren} {i : Nat}

/-- The operands of one whose turn it is. -/
theorem names_rel (ht : Trace P K rec Wf bar ops F G C) (hm : Mem bar ops F G C) (hT : Tests ops G C) (hI : Inv D bar base ops F G C φ₀ w₀ listed a w m φ) (hr : Ready ops listed i) {o : Oper} (ho : ops[i]? = some o) {t : Tmp} (hn : t ∈ namesOf ops o) {v : Value}
    (hv : (F i).get t = some v) : ∃ u, a.tmps[t]? = some u ∧ VR φ u v := by
  obtain ⟨q, h1, h2, h3, h4⟩ := hI.fr t
  have ord : ∀ j, j < ops.size → i ≠ j → dstOf ops j = some t → (j < i → Lst listed j) ∧ (i < j → ¬ Lst listed j) := fun j hj hne hd =>
    ordered hI.down hr hI.size hne (hT.tmps i j o ho hne t hn hd)
  have hqi : q ≤ i := by
    rcases h3 with rfl | ⟨j, rfl, hj, hl, hd⟩
    · omega
    · by_cases hij : i = j
      · subst hij; exact absurd hl hr.new
      · by_cases hlt : i < j
        · exact absurd hl ((ord j hj hij hd).2 hlt)
        · omega
  rw [frame_same ht hm hqi (by have := hr.lt; omega) (fun j hj1 hj2 hd => by
    have hl := (ord j (by have := hr.lt; omega) (by omega) hd).1 hj2
    have := h2 j (by have := hr.lt; omega) hl hd
    omega)] at hv
  exact h4 v hv

theorem looks_names {o : Oper} {t : Tmp} (h : t ∈ Oper.looksAt ops o) : t ∈ namesOf ops o := by
  unfold namesOf
  exact List.mem_append_right _ h

def ρOf (ops : Array Oper) (o : Oper) (f : Fr) : Env := fun x => match x with
  | .tmp t => if t ∈ Oper.looksAt ops o then f.get t else none
  | x => aev f x

theorem ρOf_rel {o : Oper} {f : Fr} (hn : ∀ t v, t ∈ Oper.looksAt ops o → f.get t = some v → ∃ u, a.tmps[t]? = some u ∧ VR φ u v) : EnvR φ a.eval (ρOf ops o f) := by
  intro x v hv
  cases x with
  | tmp t =>
    simp only [ρOf] at hv
    split at hv
    · rename_i ht
      obtain ⟨u, h1, h2⟩ := hn t v ht hv
      simp only [Act.eval]
      rw [Array.getD_eq_getD_getElem?, h1]
      exact h2
    · cases hv
  | const c =>
    simp only [ρOf, aev] at hv
    split at hv
    · rename_i hp
      cases hv
      exact plain_refl φ _ hp
    · cases hv
  | global g => cases hv
  | func g => cases hv; exact .func .nil .nil

theorem ρOf_op {H : AH} {o : Oper} {f : Fr} {bb : Nat} : aop P bb (ρOf ops o f) H o.op = aop P bb (aev f) H o.op := by
  refine aop_congr _ fun x hx => ?_
  cases x with
  | tmp t =>
    simp only [ρOf]
    rw [if_pos]
    · rfl
    · unfold Oper.looksAt
      exact List.mem_append_left _ (List.mem_filterMap.2 ⟨.tmp t, by simpa using hx, rfl⟩)
  | _ => rfl

theorem wanted_rel' {o : Oper} {f : Fr} {b : Bool} (hn : ∀ t v, t ∈ Oper.looksAt ops o → f.get t = some v → ∃ u, a.tmps[t]? = some u ∧ VR φ u v) (hw : wantedA ops f o = some b) : Region.wanted o (yielded ops a.tmps) = b := by
  unfold wantedA at hw
  unfold Region.wanted
  cases hg : o.guard with
  | none => rw [hg] at hw; cases hw; rfl
  | some gw =>
    obtain ⟨j, want⟩ := gw
    rw [hg] at hw
    simp only at hw ⊢
    cases ht : (ops[j]?).bind (·.dst) with
    | none => rw [ht] at hw; cases hw
    | some t =>
      have hin : t ∈ Oper.looksAt ops o := by
        unfold Oper.looksAt
        rw [hg]
        exact List.mem_append_right _ (by simp [ht])
      rw [ht] at hw
      simp only at hw
      unfold yielded
      rw [ht]
      simp only [Option.bind_some]
      split at hw
      · rename_i c hc
        cases hw
        obtain ⟨v, h1, h2⟩ := hn t _ hin hc
        cases h2
        rw [h1]
        cases c <;> cases want <;> rfl
      · rename_i c hc
        cases hw
        obtain ⟨v, h1, h2⟩ := hn t _ hin hc
        cases h2
        rw [h1]
        rfl
      · cases hw

/-- The frame behind one operation more. -/
theorem fr_next (_ht : Trace P K rec Wf bar ops F G C) (hm : Mem bar ops F G C) (hT : Tests ops G C) (hI : Inv D bar base ops F G C φ₀ w₀ listed a w m φ) (hr : Ready ops listed i) {o : Oper} (ho : ops[i]? = some o) {φ' : Ren} (hle : φ.le φ') {u v : Value} (hv : VR φ' u v)
    (hp : (F i).put o.dst v = some (F (i + 1))) : ∀ t, ∃ q, q ≤ ops.size ∧ (∀ j, j < ops.size → Lst (listed.setIfInBounds i true) j → dstOf ops j = some t → j < q) ∧
      (q = 0 ∨ ∃ j, q = j + 1 ∧ j < ops.size ∧ Lst (listed.setIfInBounds i true) j ∧ dstOf ops j = some t) ∧ ∀ x, (F q).get t = some x → ∃ y, (a.put o.dst u).tmps[t]? = some y ∧ VR φ' y x := by
  have hi : i < listed.size := by have := hr.lt; have := hI.size; omega
  have hlt := hr.lt
  have hdst : dstOf ops i = o.dst := by unfold dstOf; rw [ho]; rfl
  have hget := (Fr.put_get hp (hm.n i (by omega)).2).2
  intro t
  by_cases hd : o.dst = some t
  · refine ⟨i + 1, by omega, fun j hj hl hdj => ?_, .inr ⟨i, rfl, hlt, (lst_set hi i).2 (.inl rfl), by rw [hdst]; exact hd⟩, fun x hx => ?_⟩
    · rw [lst_set hi] at hl
      rcases hl with rfl | hl
      · omega
      · by_cases hij : i = j
        · omega
        · have hb := hT.tmps i j o ho hij t (by unfold namesOf; simp [hd]) hdj
          have := (ordered hI.down hr hI.size hij hb).2
          by_cases hq : i < j
          · exact absurd hl (this hq)
          · omega
    · rw [hget t, if_pos hd] at hx
      cases hx
      refine ⟨u, ?_, hv⟩
      rw [hd] at hp
      have hbnd : @LT.lt Nat _ t (F i).n := put_bound hp
      have hn := (hm.n i (by omega)).1
      have hts := hI.tsize
      simp only [hd, Act.put]
      rw [Array.getElem?_setIfInBounds_self_of_lt (by omega)]
  · obtain ⟨q, h1, h2, h3, h4⟩ := hI.fr t
    refine ⟨q, h1, fun j hj hl hdj => ?_, ?_, fun x hx => ?_⟩
    · rw [lst_set hi] at hl
      rcases hl with rfl | hl
      · rw [hdst] at hdj; exact absurd hdj hd
      · exact h2 j hj hl hdj
    · rcases h3 with h3 | ⟨j, e1, e2, e3, e4⟩
      · exact .inl h3
      · exact .inr ⟨j, e1, e2, (lst_set hi j).2 (.inr e3), e4⟩
    · obtain ⟨y, k1, k2⟩ := h4 x hx
      refine ⟨y, ?_, k2.mono hle⟩
      cases hdd : o.dst with
      | none => simpa [Act.put] using k1
      | some d =>
        simp only [Act.put]
        rw [Array.getElem?_setIfInBounds_ne (fun e => hd (by rw [hdd, e]))]
        exact k1

theorem put_tsize (a : Act) (dst : Option Tmp) (v : Value) : (a.put dst v).tmps.size = a.tmps.size := by
  cases dst <;> simp [Act.put]

/-- One operation that changes nothing in memory. -/
theorem next_same (ht : Trace P K rec Wf bar ops F G C) (hm : Mem bar ops F G C) (hT : Tests ops G C) (hI : Inv D bar base ops F G C φ₀ w₀ listed a w m φ) (hr : Ready ops listed i) {o : Oper} (ho : ops[i]? = some o) (hc : ¬ (C i).isW) {u v : Value} (hv : VR φ u v)
    (hp : (F i).put o.dst v = some (F (i + 1))) : Inv D bar base ops F G C φ₀ w₀ (listed.setIfInBounds i true) (a.put o.dst u) w m φ := by
  have hi : i < listed.size := by have := hr.lt; have := hI.size; omega
  refine ⟨hI.hm, hI.mw, fun j hj hw => ?_, down_next hI.down hr hI.size, by simp [hI.size], hI.sim, hI.ext, hI.below, fun b r h => ?_, hI.bd, fr_next ht hm hT hI hr ho (Ren.le_refl _) hv hp, by rw [put_tsize]; exact hI.tsize, by rw [put_defers']; exact hI.defers⟩
  · rw [lst_set hi, ← hI.ws j hj hw]
    refine ⟨fun e => e.resolve_left (fun e => ?_), .inr⟩
    subst e; exact hc hw
  · rcases hI.dom b r h with h | ⟨k, e1, e2, e3⟩
    · exact .inl h
    · exact .inr ⟨k, e1, (lst_set hi k).2 (.inr e2), e3⟩

end

end Go.Abs
