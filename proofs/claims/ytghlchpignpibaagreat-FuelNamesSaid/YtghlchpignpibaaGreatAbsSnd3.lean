/- A machine that carries out code on values that are known, and the proof that the model's runs agree with it: one part. -/
import Derived.Test.YtghlchpignpibaaGreatAbsSnd2
noncomputable section
namespace Go.Abs
variable {P : Program} {φ : Ren} {H H' : AH} {bar base : Nat} {w : World}

inductive OptR (φ : Ren) : Option Value → Option Value → Prop
  | none : OptR φ none none
  | some {v a : Value} (h : VR φ v a) : OptR φ (some v) (some a)

theorem run_bound {v x : Value} {y l : Nat} {code : BoundsCode} (hv : VR φ v x) (h : aBound x y = some l) (w : World) : (Instr.sliceBound v y code).run P w = .ok l w ∧ l ≤ y := by
  unfold aBound at h
  split at h
  · rename_i k i
    cases hv with
    | int =>
      split at h
      · rename_i hb
        cases h
        exact ⟨by simp [Instr.sliceBound, asIntOf, hb], by omega⟩
      · cases h
  · cases h

/-- A bound within a smaller limit is one within a greater. -/
theorem bound_le {x : Value} {y y' l : Nat} (h : aBound x y = some l) (hy : y ≤ y') : aBound x y' = some l := by
  unfold aBound at h ⊢
  split at h
  · split at h
    · rw [if_pos (by omega)]; exact h
    · cases h
  · cases h

theorem run_bounds {isS : Bool} {len cap : Nat} {lo hi mx lo' hi' mx' : Option Value} {l h m : Nat} (h1 : OptR φ lo lo') (h2 : OptR φ hi hi') (h3 : OptR φ mx mx')
    (hb : aBounds len cap lo' hi' mx' = some (l, h, m)) (w : World) : (Instr.sliceBounds isS len cap lo hi mx).run P w = .ok (l, h, m) w := by
  unfold aBounds at hb
  cases h3 with
  | none =>
    simp only [Option.bind_some] at hb
    cases h2 with
    | none =>
      simp only [Option.bind_some] at hb
      cases h1 with
      | none => simp at hb; obtain ⟨rfl, rfl, rfl⟩ := hb; simp [Instr.sliceBounds]
      | some hv =>
        rename_i v a
        cases hq : aBound a len with
        | none => simp [hq] at hb
        | some l' =>
          simp [hq] at hb; obtain ⟨rfl, rfl, rfl⟩ := hb
          simp [Instr.sliceBounds, (run_bound hv hq w).1]
    | some hvh =>
      rename_i v a
      cases hqh : aBound a cap with
      | none => simp [hqh] at hb
      | some h' =>
        simp only [hqh, Option.bind_some] at hb
        cases h1 with
        | none => simp at hb; obtain ⟨rfl, rfl, rfl⟩ := hb; simp [Instr.sliceBounds, (run_bound hvh hqh w).1]
        | some hv =>
          rename_i v a
          cases hq : aBound a h' with
          | none => simp [hq] at hb
          | some l' =>
            simp [hq] at hb; obtain ⟨rfl, rfl, rfl⟩ := hb
            simp [Instr.sliceBounds, (run_bound hvh hqh w).1, (run_bound hv hq w).1]
  | some hvm =>
    rename_i v a
    cases hqm : aBound a cap with
    | none => simp [hqm] at hb
    | some m' =>
      simp only [hqm, Option.bind_some] at hb
      cases h2 with
      | none => simp at hb
      | some hvh =>
        rename_i v a
        cases hqh : aBound a m' with
        | none => simp [hqh] at hb
        | some h' =>
          simp only [hqh, Option.bind_some] at hb
          cases h1 with
          | none => simp at hb; obtain ⟨rfl, rfl, rfl⟩ := hb; simp [Instr.sliceBounds, (run_bound hvm hqm w).1, (run_bound hvh hqh w).1]
          | some hv =>
            rename_i v a
            cases hq : aBound a h' with
            | none => simp [hq] at hb
            | some l' =>
              simp [hq] at hb; obtain ⟨rfl, rfl, rfl⟩ := hb
              simp [Instr.sliceBounds, (run_bound hvm hqm w).1, (run_bound hvh hqh w).1, (run_bound hv hq w).1]

/-- What the abstract machine takes within what is known lies within the capacity. -/
theorem boundsU {len lim cap : Nat} (hl : len ≤ lim) (hlc : lim ≤ cap) {lo hi mx : Option Value} {l h : Nat} {m : Option Nat} (hb : aBoundsU len lim lo hi mx = some (l, h, m)) :
    aBounds len cap lo hi mx = some (l, h, m.getD cap) ∧ l ≤ h ∧ h ≤ lim ∧ (∀ k, m = some k → h ≤ k ∧ k ≤ lim) := by
  have le : ∀ {x : Value} {y l : Nat}, aBound x y = some l → l ≤ y := by
    intro x y l h
    unfold aBound at h
    split at h
    · split at h
      · cases h; omega
      · cases h
    · cases h
  unfold aBoundsU at hb
  unfold aBounds
  cases mx with
  | none =>
    simp only [Option.bind_some] at hb ⊢
    cases hi with
    | none =>
      simp only [Option.isSome_none, Bool.false_eq_true, if_false, Option.bind_some] at hb ⊢
      cases lo with
      | none => simp at hb; obtain ⟨rfl, rfl, rfl⟩ := hb; simp; omega
      | some v =>
        cases hq : aBound v len with
        | none => simp [hq] at hb
        | some l' =>
          simp [hq] at hb; obtain ⟨rfl, rfl, rfl⟩ := hb
          have := le hq
          simp [hq]; omega
    | some vh =>
      simp only [Option.getD_none] at hb ⊢
      cases hqh : aBound vh lim with
      | none => simp [hqh] at hb
      | some h' =>
        have e := bound_le hqh hlc
        have := le hqh
        simp only [hqh, e, Option.bind_some] at hb ⊢
        cases lo with
        | none => simp at hb; obtain ⟨rfl, rfl, rfl⟩ := hb; simp; omega
        | some v =>
          cases hq : aBound v h' with
          | none => simp [hq] at hb
          | some l' =>
            simp [hq] at hb; obtain ⟨rfl, rfl, rfl⟩ := hb
            have := le hq
            simp [hq]; omega
  | some vm =>
    cases hqm : aBound vm lim with
    | none => simp [hqm] at hb
    | some m' =>
      have em := bound_le hqm hlc
      have hm := le hqm
      simp only [hqm, em, Option.map_some, Option.bind_some, Option.getD_some] at hb ⊢
      cases hi with
      | none => simp at hb
      | some vh =>
        simp only at hb ⊢
        cases hqh : aBound vh m' with
        | none => simp [hqh] at hb
        | some h' =>
          have := le hqh
          simp only [hqh, Option.bind_some] at hb ⊢
          cases lo with
          | none => simp at hb; obtain ⟨rfl, rfl, rfl⟩ := hb; simp; omega
          | some v =>
            cases hq : aBound v h' with
            | none => simp [hq] at hb
            | some l' =>
              simp [hq] at hb; obtain ⟨rfl, rfl, rfl⟩ := hb
              have := le hq
              simp [hq]; omega

theorem bounds_le {len cap l h m : Nat} (hlc : len ≤ cap) {lo hi mx : Option Value} (hb : aBounds len cap lo hi mx = some (l, h, m)) : l ≤ h ∧ h ≤ m ∧ m ≤ cap := by
  have le : ∀ {x : Value} {y l : Nat}, aBound x y = some l → l ≤ y := by
    intro x y l h
    unfold aBound at h
    split at h
    · split at h
      · cases h; omega
      · cases h
    · cases h
  unfold aBounds at hb
  obtain ⟨m', hm, hb⟩ := Option.bind_eq_some_iff.1 hb
  obtain ⟨h', hh, hb⟩ := Option.bind_eq_some_iff.1 hb
  obtain ⟨l', hl, hb⟩ := Option.map_eq_some_iff.1 hb
  cases hb
  have e1 : m ≤ cap := by
    cases mx with
    | none => cases hm; exact Nat.le_refl _
    | some v => exact le hm
  have e3 : l ≤ h := by
    cases lo with
    | none => cases hl; exact Nat.zero_le _
    | some v => exact le hl
  have e2 : h ≤ m := by
    cases hi with
    | none =>
      cases mx with
      | none => cases hh; cases hm; exact hlc
      | some v => cases hh
    | some v => cases mx <;> exact le hh
  exact ⟨e3, e2, e1⟩

theorem snd_slice (hs : Sim φ H bar base w) {t : Nat} {v x a : Value} {lo hi mx lo' hi' mx' : Option Value} (hv : VR φ v x) (h1 : OptR φ lo lo') (h2 : OptR φ hi hi') (h3 : OptR φ mx mx')
    (h : aSlice P H t x lo' hi' mx' = some a) : ∃ u, (Instr.sliceAt t v lo hi mx).run P w = .ok u w ∧ VR φ u a := by
  unfold aSlice at h
  split at h
  · rename_i s hu
    cases hv with
    | string =>
      split at h
      · cases h
      · rename_i hm
        cases h3 with
        | some => simp at hm
        | none =>
          cases hb : aBounds s.size s.size lo' hi' none with
          | none => simp [hb] at h
          | some p =>
            obtain ⟨l, hh, m⟩ := p
            simp [hb] at h
            subst h
            refine ⟨.string (s.extract l hh), ?_, .string _⟩
            have := run_bounds (P := P) (isS := false) h1 h2 .none hb w
            simp [Instr.sliceAt, run_underlying hu, Instr.slice, this]
  · rename_i e hu
    cases hv with
    | sliceNil =>
      cases hz : szT P e with
      | none => simp [hz] at h
      | some size =>
        cases hb : aBounds 0 0 lo' hi' mx' with
        | none => simp [hz, hb] at h
        | some p =>
          obtain ⟨l, hh, m⟩ := p
          simp [hz, hb] at h
          subst h
          have hle := bounds_le (Nat.le_refl 0) hb
          have hr := run_bounds (P := P) (isS := true) h1 h2 h3 hb w
          have hl0 : l = 0 := by omega
          have hh0 : hh = 0 := by omega
          have hm0 : m = 0 := by omega
          subst hl0; subst hh0; subst hm0
          refine ⟨.slice none 0 0, ?_, .sliceNil⟩
          simp [Instr.sliceAt, run_underlying hu, Instr.slice, hr, run_sizeOf' hz]
  · rename_i e b o len cap hu
    cases hz : szT P e with
    | none => simp [hz] at h
    | some size =>
      simp only [hz, Option.bind_some] at h
      have key : ∀ (c x cap' l hh m : Nat), aBounds len cap' lo' hi' mx' = some (l, hh, m) → (Instr.sliceAt t (.slice (some ⟨c, x, none⟩) len cap') lo hi mx).run P w = .ok (.slice (some ⟨c, if m = l then x else x + l * size, none⟩) (hh - l) (m - l)) w := by
        intro c x cap' l hh m hb
        have hr := run_bounds (P := P) (isS := true) h1 h2 h3 hb w
        simp only [Instr.sliceAt, Sem.run_bind, run_underlying hu, Result.andThen_ok, Instr.slice, hr, run_sizeOf' hz]
        by_cases hml : m = l
        · simp [hml]
        · simp [hml, add_plain]
      split at h
      · rename_i hcap
        subst hcap
        split at h
        · rename_i cc tt zz hg
          split at h
          · rename_i hzz
            obtain ⟨hzz, hpos, hlen⟩ := hzz
            cases hb : aBoundsU len (Nat.max len ((cc.length - o) / size)) lo' hi' mx' with
            | none => simp [hb] at h
            | some p =>
              obtain ⟨l, hh, m⟩ := p
              simp only [hb, Option.map_some] at h
              cases hv with
              | slice hφ hl hc =>
                rename_i cap' r
                have hc := hc.resolve_left (fun e => e.2 rfl)
                have hrz : r.z = size := by
                  obtain ⟨_, _, _, _, e, _⟩ := hs.obj b r _ hφ hg
                  rw [e.1, hzz]
                have hknown : (cc.length - o) / size ≤ cap' := by
                  obtain ⟨_, _, _, _, e, _⟩ := hs.obj b r _ hφ hg
                  have h3 := hc.2.2
                  rw [e.2, hrz] at h3
                  exact Nat.div_le_of_le_mul (by rw [Nat.mul_comm]; omega)
                obtain ⟨k1, k2, k3, k4⟩ := boundsU (Nat.le_max_left _ _) (Nat.max_le.2 ⟨hl, hknown⟩) hb
                have hmx : Nat.max len ((cc.length - o) / size) ≤ cap' := Nat.max_le.2 ⟨hl, hknown⟩
                have hrun := key r.c (r.s + o) cap' l hh _ k1
                cases m with
                | none =>
                  simp only [Option.getD_none, Option.some.injEq] at h hrun
                  subst h
                  by_cases hcl : cap' = l
                  · refine ⟨_, hrun, ?_⟩
                    rw [if_pos hcl]
                    have e1 : hh - l = 0 := by omega
                    have e2 : cap' - l = 0 := by omega
                    rw [e1, e2]
                    have h3 := hc.2.2
                    rw [hcl, hrz] at h3
                    exact .sliceE hφ (.inr ⟨rfl, h3⟩)
                  · refine ⟨_, hrun, ?_⟩
                    rw [if_neg hcl, Nat.add_assoc]
                    have : l * size + (cap' - l) * r.z = cap' * r.z := by
                      rw [hrz, ← Nat.add_mul]
                      congr 1
                      omega
                    exact .slice hφ (by omega) (.inr ⟨rfl, by omega, by omega⟩)
                | some k =>
                  simp only [Option.getD_some, Option.some.injEq] at h hrun
                  subst h
                  refine ⟨_, hrun, ?_⟩
                  have hk := k4 k rfl
                  have hkU : k < capU := Nat.lt_of_le_of_lt hk.2 hlen
                  by_cases hkl : k = l
                  · rw [if_pos hkl, if_pos hkl]
                    exact .slice hφ (by omega) (.inl ⟨rfl, by omega⟩)
                  · rw [if_neg hkl, if_neg hkl, Nat.add_assoc]
                    exact .slice hφ (by omega) (.inl ⟨rfl, by omega⟩)
              | sliceE hφ ha =>
                rename_i x r
                have h3 := (ha.resolve_left (by unfold capU; omega)).2
                have hk0' : (cc.length - o) / size = 0 := by
                  obtain ⟨_, _, _, _, e, _⟩ := hs.obj b r _ hφ hg
                  rw [e.2] at h3
                  have : cc.length - o = 0 := by omega
                  rw [this]; exact Nat.zero_div _
                rw [hk0'] at hb
                obtain ⟨k1, k2, k3, k4⟩ := boundsU (Nat.le_refl 0) (Nat.le_refl 0) hb
                have hrun := key r.c x 0 l hh _ k1
                have hl0 : l = 0 := by omega
                have hh0 : hh = 0 := by omega
                subst hl0; subst hh0
                cases m with
                | none =>
                  simp only [Option.getD_none, Option.some.injEq] at h hrun
                  subst h
                  exact ⟨_, hrun, by simpa using .sliceE hφ (.inr ⟨rfl, h3⟩)⟩
                | some k =>
                  have hk := k4 k rfl
                  have hk0 : k = 0 := by omega
                  subst hk0
                  simp only [Option.getD_some, Option.some.injEq] at h hrun
                  subst h
                  exact ⟨_, hrun, by simpa using .sliceE hφ (.inl rfl)⟩
          · cases h
        · cases h
      · rename_i hcap
        split at h
        · cases h
        · rename_i hcap2
          cases hb : aBounds len cap lo' hi' mx' with
          | none => simp [hb] at h
          | some p =>
            obtain ⟨l, hh, m⟩ := p
            simp only [hb, Option.map_some, Option.some.injEq] at h
            subst h
            cases hv with
            | slice hφ hl hc =>
              rename_i cap' r
              have hc : cap = cap' := by
                rcases hc with hc | hc
                · exact hc.1
                · exact absurd hc.1 hcap
              subst hc
              have hle := bounds_le hl hb
              have hrun := key r.c (r.s + o) cap l hh m hb
              refine ⟨_, hrun, ?_⟩
              by_cases hml : m = l
              · rw [if_pos hml, if_pos hml]
                exact .slice hφ (by omega) (.inl ⟨rfl, by omega⟩)
              · rw [if_neg hml, if_neg hml, Nat.add_assoc]
                exact .slice hφ (by omega) (.inl ⟨rfl, by omega⟩)
            | sliceE hφ ha =>
              rename_i x r
              have hc : cap = 0 := ha.resolve_right (fun h => hcap h.1)
              subst hc
              have hle := bounds_le (Nat.le_refl 0) hb
              have hrun := key r.c x 0 l hh m hb
              have hl0 : l = 0 := by omega
              have hh0 : hh = 0 := by omega
              have hm0 : m = 0 := by omega
              subst hl0; subst hh0; subst hm0
              exact ⟨_, hrun, by simpa using .sliceE hφ (.inl rfl)⟩
  · rename_i n e b o hu
    cases hv with
    | ptr hφ =>
      rename_i r
      cases hz : szT P e with
      | none => simp [hz] at h
      | some size =>
        simp only [hz, Option.bind_some] at h
        split at h
        · cases h
        · rename_i hn
          cases hb : aBounds n n lo' hi' mx' with
          | none => simp [hb] at h
          | some p =>
            obtain ⟨l, hh, m⟩ := p
            simp only [hb, Option.map_some, Option.some.injEq] at h
            subst h
            have hle := bounds_le (Nat.le_refl n) hb
            have hr := run_bounds (P := P) (isS := false) h1 h2 h3 hb w
            refine ⟨.slice (some ⟨r.c, r.s + (if m = l then o else o + l * size), none⟩) (hh - l) (m - l), ?_, .slice hφ (by omega) (.inl ⟨rfl, by omega⟩)⟩
            simp only [Instr.sliceAt, Sem.run_bind, run_underlying hu, Result.andThen_ok, Instr.sureAddr, Sem.run_pure, hr, run_sizeOf' hz]
            by_cases hml : m = l
            · simp [hml]
            · simp [hml, add_plain, Nat.add_assoc]
  · cases h

theorem snd_nilCheck {v x a : Value} (hv : VR φ v x) (h : aNilCheck x = some a) (o : Oper) (ρ : Operand → Value) (y : Operand) (hy : ρ y = v) (ho : o.op = .nilCheck y) (w : World) :
    ∃ u, (execOp ρ o).run P w = .ok (.value u) w ∧ VR φ u a := by
  obtain ⟨dst, op, ty, pos, after, guard⟩ := o
  dsimp only at ho
  subst ho
  unfold aNilCheck at h
  split at h
  · cases h; cases hv with | ptr hφ => exact ⟨_, by simp only [execOp, hy]; rfl, .ptr hφ⟩
  · cases h; cases hv with | func hf hc => exact ⟨_, by simp only [execOp, hy]; rfl, .func hf hc⟩
  · cases h; cases hv with | iface hi => exact ⟨_, by simp only [execOp, hy]; rfl, .iface hi⟩
  · cases h; cases hv with
    | sliceNil => exact ⟨_, by simp only [execOp, hy]; rfl, .sliceNil⟩
    | slice hφ hl hc => exact ⟨_, by simp only [execOp, hy]; rfl, .slice hφ hl hc⟩
    | sliceE hφ ha => exact ⟨_, by simp only [execOp, hy]; rfl, .sliceE hφ ha⟩
  · cases h

theorem snd_typeAssert {v x a : Value} {xt t : Nat} {ok : Bool} (hv : VR φ v x) (h : aTypeAssert P x xt t ok = some a) (w : World) : ∃ u, (Instr.typeAssert v xt t ok).run P w = .ok u w ∧ VR φ u a := by
  unfold aTypeAssert at h
  split at h
  · cases h
  · rename_i d tt y hd hu
    cases hv with
    | iface hi =>
      rename_i u
      split at h
      · rename_i ht
        cases h
        refine ⟨if ok then .tuple #[u, .bool true] else u, ?_, ?_⟩
        · simp only [Instr.typeAssert, Sem.run_bind, run_underlying hu, Result.andThen_ok]
          cases d <;> first | (simp [ht]; done) | exact absurd rfl (hd _)
        · cases ok
          · exact hi
          · exact .tuple (.cons hi (.cons (.bool _) .nil))
      · rename_i ht
        split at h
        · rename_i hok
          cases hz : zeroT P t with
          | none => simp [hz] at h
          | some z =>
            simp only [hz, Option.bind_some] at h
            split at h
            · rename_i hp
              cases h
              refine ⟨.tuple #[z, .bool false], ?_, .tuple (.cons (plain_refl φ _ hp) (.cons (.bool _) .nil))⟩
              simp only [Instr.typeAssert, Sem.run_bind, run_underlying hu, Result.andThen_ok]
              cases d <;> first | (simp [ht, hok, run_zeroValue' hz]; done) | exact absurd rfl (hd _)
            · cases h
        · cases h
  · rename_i d hd hu
    cases hv with
    | nilIface =>
      split at h
      · rename_i hok
        cases hz : zeroT P t with
        | none => simp [hz] at h
        | some z =>
          simp only [hz, Option.bind_some] at h
          split at h
          · rename_i hp
            cases h
            refine ⟨.tuple #[z, .bool false], ?_, .tuple (.cons (plain_refl φ _ hp) (.cons (.bool _) .nil))⟩
            simp only [Instr.typeAssert, Sem.run_bind, run_underlying hu, Result.andThen_ok]
            cases d <;> first | (simp [hok, run_zeroValue' hz]; done) | exact absurd rfl (hd _)
          · cases h
      · cases h
  · cases h

theorem nilTest_run {t : Nat} {x y v u : Value} {r : Bool} (hx : VR φ v x) (hy : VR φ u y) (h : nilTest P t x y = some r) (w : World) :
    (Op.equal t v u).run P w = .ok r w ∧ (∀ op xo yo, (eqGuard op t xo yo v u).run P w = .ok () w) ∧ (binOp .eql t v u).run P w = .ok (.bool r) w ∧ (binOp .neq t v u).run P w = .ok (.bool !r) w := by
  have fin : (Op.equal t v u).run P w = .ok r w → (∀ op xo yo, (eqGuard op t xo yo v u).run P w = .ok () w) → binOp .eql t v u = (do pure (.bool (← Op.equal t v u))) → binOp .neq t v u = (do pure (.bool (!(← Op.equal t v u)))) →
      (Op.equal t v u).run P w = .ok r w ∧ (∀ op xo yo, (eqGuard op t xo yo v u).run P w = .ok () w) ∧ (binOp .eql t v u).run P w = .ok (.bool r) w ∧ (binOp .neq t v u).run P w = .ok (.bool !r) w :=
    fun h1 h2 h3 h4 => ⟨h1, h2, by rw [h3]; simp [h1], by rw [h4]; simp [h1]⟩
  unfold nilTest at h
  split at h
  all_goals first
    | (cases h; done)
    | (rename_i hu
       cases h
       cases hx <;> cases hy <;>
         refine fin ?_ ?_ rfl rfl <;>
         first
         | (show (Op.equalIn (9999 + 1) t _ _).run P w = _; unfold Op.equalIn; rw [Sem.run_bind, run_underlying hu]; rfl)
         | (intro op xo yo; cases op <;> simp [eqGuard]))

theorem snd_binS {op : BinOp} {t : Nat} {xo yo : Operand} {v u x y a : Value} (hx : VR φ v x) (hy : VR φ u y) (h : aBinS P op t xo yo x y = some a) (w : World) :
    ∃ r, (do eqGuard op t xo yo v u; binOp op t v u : Sem Value).run P w = .ok r w ∧ VR φ r a := by
  unfold aBinS at h
  split at h
  · rename_i hp
    simp only [Bool.and_eq_true] at hp
    have e1 := plain_eq hx hp.1
    have e2 := plain_eq hy hp.2
    subst e1; subst e2
    obtain ⟨r, h1, h2⟩ := Option.bind_eq_some_iff.1 h
    have hrun := pureRun_sound P _ _ h1 w
    split at h2
    · rename_i hpr
      cases h2
      exact ⟨a, hrun, plain1_refl φ _ hpr⟩
    · cases h2
  · split at h
    · cases hn : nilTest P t x y with
      | none => simp [hn] at h
      | some r =>
        simp [hn] at h
        subst h
        obtain ⟨_, h2, h3, _⟩ := nilTest_run hx hy hn w
        exact ⟨.bool r, by simp [h2, h3], .bool _⟩
    · cases hn : nilTest P t x y with
      | none => simp [hn] at h
      | some r =>
        simp [hn] at h
        subst h
        obtain ⟨_, h2, _, h4⟩ := nilTest_run hx hy hn w
        exact ⟨.bool (!r), by simp [h2, h4], .bool _⟩
    · cases h


theorem wrap_nat {n : Nat} (h : n ≤ 9223372036854775807) : IntKind.wrap .i64 (Int.ofNat n) = Int.ofNat n := by
  have h1 : ((n : Int) % 18446744073709551616) = (n : Int) := by omega
  show (if true && decide ((Int.ofNat n) % (2 ^ 64 : Int) ≥ (2 ^ 63 : Int)) then (Int.ofNat n) % (2 ^ 64 : Int) - (2 ^ 64 : Int) else (Int.ofNat n) % (2 ^ 64 : Int)) = _
  have e1 : (2 ^ 64 : Int) = 18446744073709551616 := by decide
  have e2 : (2 ^ 63 : Int) = 9223372036854775808 := by decide
  rw [e1, e2]
  have h2 : (Int.ofNat n) % 18446744073709551616 = Int.ofNat n := h1
  rw [h2]
  have h3 : ¬ (Int.ofNat n ≥ 9223372036854775808) := by
    show ¬ ((n : Int) ≥ _)
    omega
  rw [decide_eq_false h3]
  rfl

theorem fNat_run {op : BinOp} {t : Nat} {xo yo : Operand} {a b : Nat} {r : Value} (h : fNat op a b = some r) (w : World) :
    (do eqGuard op t xo yo (.int .i64 (.ofNat a)) (.int .i64 (.ofNat b)); binOp op t (.int .i64 (.ofNat a)) (.int .i64 (.ofNat b)) : Sem Value).run P w = .ok r w ∧ plain1 r = true := by
  have blt : ∀ m n : Nat, Nat.ble m n = decide ((Int.ofNat m) ≤ Int.ofNat n) := by
    intro m n
    rw [Bool.eq_iff_iff]
    simp [Nat.ble_eq]
  have beqn : (Int.ofNat a == Int.ofNat b) = Nat.beq a b := by
    rw [Bool.eq_iff_iff, beq_iff_eq]
    constructor
    · intro e
      have e : (a : Int) = (b : Int) := e
      have e : a = b := by omega
      rw [e]; exact Nat.beq_refl b
    · intro e
      rw [Nat.eq_of_beq_eq_true e]
  unfold fNat at h
  split at h
  · split at h
    · rename_i e
      cases h
      have e := Nat.le_of_ble_eq_true e
      refine ⟨?_, rfl⟩
      show (Sem.pure (Value.int .i64 (IntKind.wrap .i64 (Int.ofNat a + Int.ofNat b)))).run P w = _
      rw [show Int.ofNat a + Int.ofNat b = Int.ofNat (Nat.add a b) from rfl, wrap_nat e]
      rfl
    · cases h
  · split at h
    · rename_i e
      cases h
      rw [Bool.and_eq_true] at e
      have e1 := Nat.le_of_ble_eq_true e.1
      have e2 := Nat.le_of_ble_eq_true e.2
      refine ⟨?_, rfl⟩
      show (Sem.pure (Value.int .i64 (IntKind.wrap .i64 (Int.ofNat a - Int.ofNat b)))).run P w = _
      have : Int.ofNat a - Int.ofNat b = Int.ofNat (Nat.sub a b) := by
        show (a : Int) - (b : Int) = ((a - b : Nat) : Int)
        omega
      rw [this, wrap_nat (by show a - b ≤ _; omega)]
      rfl
    · cases h
  · split at h
    · rename_i e
      cases h
      have e := Nat.le_of_ble_eq_true e
      refine ⟨?_, rfl⟩
      show (Sem.pure (Value.int .i64 (IntKind.wrap .i64 (Int.ofNat a * Int.ofNat b)))).run P w = _
      rw [show Int.ofNat a * Int.ofNat b = Int.ofNat (Nat.mul a b) from rfl, wrap_nat e]
      rfl
    · cases h
  all_goals first | (cases h; done) | skip
  all_goals
    cases h
    refine ⟨?_, rfl⟩
  · show (Sem.pure (Value.bool (Int.ofNat a == Int.ofNat b))).run P w = _
    rw [beqn]; rfl
  · show (Sem.pure (Value.bool (!(Int.ofNat a == Int.ofNat b)))).run P w = _
    rw [beqn]; rfl
  · show (Sem.pure (Value.bool (decide (Int.ofNat a < Int.ofNat b)))).run P w = _
    have : (decide (Int.ofNat a < Int.ofNat b)) = Nat.ble (Nat.succ a) b := by
      rw [Bool.eq_iff_iff]; simp [Nat.ble_eq]; omega
    rw [this]; rfl
  · show (Sem.pure (Value.bool (decide (Int.ofNat a ≤ Int.ofNat b)))).run P w = _
    rw [← blt]; rfl
  · show (Sem.pure (Value.bool (decide (Int.ofNat a > Int.ofNat b)))).run P w = _
    have : (decide (Int.ofNat a > Int.ofNat b)) = Nat.ble (Nat.succ b) a := by
      rw [Bool.eq_iff_iff]; simp [Nat.ble_eq]; omega
    rw [this]; rfl
  · show (Sem.pure (Value.bool (decide (Int.ofNat a ≥ Int.ofNat b)))).run P w = _
    have : (decide (Int.ofNat a ≥ Int.ofNat b)) = Nat.ble b a := by
      rw [Bool.eq_iff_iff]; simp [Nat.ble_eq]
    rw [this]; rfl

theorem snd_bin {op : BinOp} {t : Nat} {xo yo : Operand} {v u x y a : Value} (hx : VR φ v x) (hy : VR φ u y) (h : aBin P op t xo yo x y = some a) (w : World) :
    ∃ r, (do eqGuard op t xo yo v u; binOp op t v u : Sem Value).run P w = .ok r w ∧ VR φ r a := by
  unfold aBin at h
  split at h
  · rename_i r hr
    cases h
    unfold fBin at hr
    split at hr
    · split at hr
      · cases hx
        cases hy
        obtain ⟨h1, h2⟩ := fNat_run (P := P) (t := t) (xo := xo) (yo := yo) hr w
        exact ⟨a, h1, plain1_refl φ _ h2⟩
      · cases hr
    · cases hr
  · exact snd_binS hx hy h w

end Go.Abs
