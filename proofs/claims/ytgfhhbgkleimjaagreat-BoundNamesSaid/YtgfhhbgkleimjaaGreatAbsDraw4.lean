/- A machine that carries out code on values that are known, and the proof that the model's runs agree with it: one part. -/
import Derived.Test.YtgfhhbgkleimjaaGreatAbsDraw3
noncomputable section
namespace Go.Abs
variable {P : Program} {φ : Ren} {H H' : AH} {bar base : Nat} {w : World}

theorem aWrite_keep (hsm : H.next ≤ 262144) {b o : Nat} {vs : List Value} (h : aWrite bar H b o vs = some H') : H'.next = H.next ∧ ∀ b', b' ≠ b → b' < H.next → b < 262144 → H'.get b' = H.get b' := by
  unfold aWrite at h
  split at h
  · cases h; exact ⟨rfl, fun _ _ _ _ => rfl⟩
  · split at h
    · split at h
      · rw [Option.map_eq_some_iff] at h; obtain ⟨c', _, h⟩ := h
        subst h
        exact ⟨rfl, fun b' hne hb' hb => by rw [AH.get_put H _ hb (by omega), if_neg hne]⟩
      · cases h
    · cases h

/-- A store or an append writes to the one block that 'writesA' names. -/
theorem writes_one (hs : Sim φ H bar base w) {a : Act} {ρ : Env} (hρ : EnvR φ a.eval ρ) {Wf : FuncId → Option Nat} {op : Op} {b : Nat} {r : ARes} (hw : writesA Wf ρ op = some (.one b)) (h : aop P bar ρ H op = some r) :
    ∃ v H', r = .val v H' ∧ H.next ≤ H'.next ∧ ∀ b', b' ≠ b → b' < H.next → H'.get b' = H.get b' := by
  have hsm := hs.small
  cases op <;> simp only [writesA] at hw
  case store t x y =>
    have h' : (match ρ x, ρ y with
      | some (.pointer (some ⟨b, o, none⟩)), some v => (aStore P bar H t b o v).map (.val undef ·)
      | _, _ => none) = some r := h
    split at h'
    · rename_i b' o v hp hx
      rw [hp] at hw
      cases hw
      have hv := hρ x _ hp
      generalize a.eval x = vp at hv
      cases hv with
      | ptr hφ =>
        have hlt := hs.lt _ _ hφ
        rw [Option.map_eq_some_iff] at h'; obtain ⟨H₁, hst, h'⟩ := h'
        subst h'
        unfold aStore at hst
        split at hst
        · obtain ⟨e1, e2⟩ := aWrite_keep hsm hst
          exact ⟨_, _, rfl, by omega, fun b'' hne hb'' => e2 b'' hne hb'' (by omega)⟩
        · cases hst
    · cases h'
  case mapUpdate t mo ko vo =>
    have h' : (match ρ mo, ρ ko, ρ vo with
      | some a, some b, some c => (aMapUpdate P bar H t a b c).map (.val undef ·)
      | _, _, _ => none) = some r := h
    split at h'
    · rename_i mv kv vv ha hb hc
      rw [Option.map_eq_some_iff] at h'; obtain ⟨H₁, hst, h'⟩ := h'
      subst h'
      rw [ha] at hw
      unfold aMapUpdate at hst
      split at hst
      · rename_i kt et r' hu
        cases hw
        have hlt : b < H.next := by
          have hv := hρ mo _ ha
          generalize a.eval mo = vp at hv
          cases hv with
          | map hφ => exact hs.lt _ _ hφ
        have put : ∀ o, (H.put b o).next = H.next ∧ ∀ b', b' ≠ b → b' < H.next → (H.put b o).get b' = H.get b' := fun o => ⟨rfl, fun b' hne hb' => get_put' hsm hlt hb' hne o⟩
        split at hst
        · split at hst
          · split at hst
            · simp only [Option.bind_eq_some_iff] at hst
              obtain ⟨_, _, f, _, hst⟩ := hst
              split at hst
              · split at hst
                · split at hst
                  · cases hst; exact ⟨_, _, rfl, Nat.le_of_eq (put _).1.symm, (put _).2⟩
                  · cases hst
                · cases hst
              · cases hst; exact ⟨_, _, rfl, Nat.le_of_eq (put _).1.symm, (put _).2⟩
            · cases hst
          · cases hst
        · cases hst
      · cases hst
    · cases h'
  case call c =>
    cases hc : c.callee with
    | value f =>
      rw [hc] at hw
      cases f with
      | func g =>
        simp only at hw
        split at hw
        · rename_i k _
          injection hw with hw
          unfold argBlock at hw
          split at hw <;> cases hw
        · cases hw
      | _ =>
        simp only at hw
        split at hw
        · split at hw
          · injection hw with hw
            unfold argBlock at hw
            split at hw <;> cases hw
          · cases hw
        · cases hw
    | invoke x m => rw [hc] at hw; cases hw
    | builtin bi =>
      rw [hc] at hw
      cases bi <;> simp only at hw
      case append =>
        have h' : aCall P bar ρ H c = some r := h
        unfold aCall at h'
        rw [Option.bind_eq_some_iff] at h'; obtain ⟨args, hargs, h'⟩ := h'
        rw [hc] at h'
        have h' : aAppend P bar H c.argTypes args.toArray = some r := h'
        split at hw
        · rename_i p len cap hx
          split at hw
          · cases hw
          · rename_i hcl
            cases hw
            rw [Option.bind_eq_some_iff] at hx
            obtain ⟨x, hx0, hx1⟩ := hx
            obtain ⟨rest, hcl0⟩ : ∃ rest, c.args.toList = x :: rest := by
              have : c.args.toList[0]? = some x := by simpa using hx0
              cases hl : c.args.toList with
              | nil => rw [hl] at this; simp at this
              | cons y ys => rw [hl] at this; simp at this; exact ⟨ys, by rw [this]⟩
            rw [hcl0] at hargs
            unfold mapEnv at hargs
            rw [hx1] at hargs
            simp only at hargs
            rw [Option.map_eq_some_iff] at hargs
            obtain ⟨args', hargs', rfl⟩ := hargs
            have hv := hρ x _ hx1
            obtain ⟨a', H', rfl⟩ := res_is_val h' fun _ _ _ => aAppend_val
            refine ⟨a', H', rfl, ?_⟩
            -- the address
            obtain ⟨blk, off, spot⟩ := p
            have hspot : spot = none := by
              generalize a.eval x = vp at hv
              cases hv <;> rfl
            subst hspot
            have hlt : blk < H.next := by
              obtain ⟨rb, _, _, hφ, _⟩ := slice_some hv
              exact hs.lt _ _ hφ
            unfold aAppend at h'
            split at h'
            · rename_i st xt s y hts hag
              simp only [List.cons.injEq] at hag
              obtain ⟨rfl, _⟩ := hag
              split at h'
              · simp only [Option.bind_eq_some_iff] at h'
                obtain ⟨size, _, i, _, zv, _, h'⟩ := h'
                split at h'
                · cases h'
                · rw [Option.bind_eq_some_iff] at h'
                  obtain ⟨q, _, h'⟩ := h'
                  have grow : ∀ {e s b l n : Nat} {o nw : List Value} {v : Value} {H' : AH}, aGrow H e s b l n o nw = some (.val v H') → H.next ≤ H'.next ∧ ∀ b', b' < H.next → H'.get b' = H.get b' := by
                    intro e s b l n o nw v H' hg
                    unfold aGrow at hg
                    split at hg
                    · rw [Option.map_eq_some_iff] at hg; obtain ⟨⟨b', H₁⟩, hr, hg⟩ := hg
                      cases hg
                      obtain ⟨_, hal⟩ := aNewRow_eq hr
                      exact ⟨by have := (AH.alloc_eq hal).2.1; omega, fun b' hb' => (get_alloc' hal hb').1⟩
                    · cases hg
                  have appU : ∀ {e s by' n : Nat} {nw : List Value} {v : Value} {H' : AH} {oo ll : Nat}, aAppU bar H e s by' n nw blk oo ll = some (.val v H') → H.next ≤ H'.next ∧ ∀ b', b' ≠ blk → b' < H.next → H'.get b' = H.get b' := by
                    intro e s by' n nw v H' oo ll h'
                    unfold aAppU at h'
                    split at h'
                    · split at h'
                      · split at h'
                        · simp only [Option.bind_eq_some_iff, Option.map_eq_some_iff] at h'
                          obtain ⟨old, _, H₁, hal, h'⟩ := h'
                          cases h'
                          have hn : (H.put blk .dead).next = H.next := rfl
                          refine ⟨by have := (AH.alloc_eq hal).2.1; omega, fun b' hne hb' => ?_⟩
                          rw [(get_alloc' hal (by omega)).1]
                          rw [AH.get_put H _ (by omega) (by omega), if_neg hne]
                        · cases h'
                      · cases h'
                    · cases h'
                  unfold aAppS at h'
                  simp only at h'
                  split at h'
                  · cases h'; exact ⟨Nat.le_refl _, fun _ _ _ => rfl⟩
                  · split at h'
                    · unfold aAppV at h'
                      split at h'
                      · rename_i c t zz hgg
                        split at h'
                        · rw [Option.map_eq_some_iff] at h'; obtain ⟨H₁, hw, h'⟩ := h'
                          cases h'
                          obtain ⟨e1, e2⟩ := aWrite_keep hsm hw
                          exact ⟨by omega, fun b' hne hb' => e2 b' hne hb' (by omega)⟩
                        · exact appU h'
                      · cases h'
                    · unfold aAppX at h'
                      split at h'
                      · rw [Option.map_eq_some_iff] at h'; obtain ⟨H₁, hw, h'⟩ := h'
                        cases h'
                        obtain ⟨e1, e2⟩ := aWrite_keep hsm hw
                        exact ⟨by omega, fun b' hne hb' => e2 b' hne hb' (by omega)⟩
                      · rw [Option.bind_eq_some_iff] at h'; obtain ⟨old, _, h'⟩ := h'
                        obtain ⟨e1, e2⟩ := grow h'
                        exact ⟨e1, fun b' _ hb' => e2 b' hb'⟩
              · cases h'
            · cases h'
        · cases hw
      all_goals cases hw
  all_goals cases hw

end Go.Abs
