/- A machine that carries out code on values that are known, and the proof that the model's runs agree with it: one part. -/
import Derived.Test.YtgfhhbgkleimjaaGreatAbsRun2
noncomputable section
namespace Go.Abs
variable {P : Program} {φ : Ren} {H H' : AH} {bar base : Nat} {w : World}

/-! Rounds of a loop over a function. -/

theorem puts_rel : ∀ {ts : List Tmp} {vs us : List Value} {f f' : Fr} {tmps : Array Value}, Fr.puts f ts vs = some f' → VRs φ us vs → FrR φ tmps f →
    FrR φ ((ts.zip us).foldl (fun t p => t.setIfInBounds p.1 p.2) tmps) f' ∧ f'.ds = f.ds ∧ f'.rd = f.rd ∧ ts.length = us.length
  | [], [], us, f, f', tmps, h, hv, hf => by
    cases h
    cases hv
    exact ⟨hf, rfl, rfl, rfl⟩
  | t :: ts, v :: vs, us, f, f', tmps, h, hv, hf => by
    unfold Fr.puts at h
    split at h
    · rename_i f₁ hp
      cases hv with
      | cons h1 h2 =>
        rename_i u us'
        have e1 := FrR.put (a := { tmps := tmps, defers := [] }) hf h1 hp
        obtain ⟨k1, k2, k3, k4⟩ := puts_rel h h2 e1
        obtain ⟨q1, q2, _⟩ := put_same hp
        exact ⟨k1, by rw [k2, q1], by rw [k3, q2], by simp [k4]⟩
    · cases h
  | [], _ :: _, _, _, _, _, h, _, _ => by cases h
  | _ :: _, [], _, _, _, _, h, _, _ => by cases h

theorem zip_fold (ps : Array Tmp) (us : Array Value) (tmps : Array Value) :
    (ps.zip us).foldl (fun tmps (t, a) => tmps.setIfInBounds t a) tmps = (ps.toList.zip us.toList).foldl (fun t p => t.setIfInBounds p.1 p.2) tmps := by
  rw [← Array.foldl_toList, Array.toList_zip]

theorem tmps_fr {tmps : Array Value} {n : Nat} {m : Tr Value 10} {ds : List Nat} {rd : Option Nat} (h : TmpsR φ tmps n m) : FrR φ tmps ⟨n, m, ds, rd⟩ := by
  refine ⟨h.size, h.small, fun t a ha => ?_⟩
  unfold Fr.get at ha
  split at ha
  · rename_i hlt
    exact h.get t a hlt ha
  · cases ha

theorem fr_tmps {tmps : Array Value} {f : Fr} (h : FrR φ tmps f) : TmpsR φ tmps f.n f.m :=
  ⟨h.size, h.small, fun t a ht ha => h.get t a (by unfold Fr.get; rw [if_pos ht]; exact ha)⟩

/-- A loop's record is turned. -/
theorem loop_turn {b : Nat} {r : RB} {x : Loop} {st st' : LoopState} {pd pd' : Option Code} {n : Nat} {m : Tr Value 10} {ps : Array Tmp} {assign body : Code} (hs : Sim φ H bar base w) (hφ : φ b = some r) (hle : bar ≤ b)
    (hg : H.get b = some (.loop st pd n m ps assign body)) (hx : w.heap[r.c]? = some (.loop x)) :
    Step φ H bar base w φ (H.put b (.loop st' pd' n m ps assign body)) (w.putObj r.c (.loop { x with state := st', pending := pd' })) := by
  obtain ⟨y, h1, h2⟩ := hs.obj b r _ hφ hg
  rw [hx] at h1
  cases h1
  have hlt := hs.cur b r hφ
  have hon : Only r.c w (w.putObj r.c (.loop { x with state := st', pending := pd' })) := ⟨rfl, rfl, rfl, by simp, fun k hk => World.putObj_heap_other hk⟩
  obtain ⟨k1, k2, k3, k4, k5, k6⟩ := h2
  exact hs.update hφ hle ⟨_, hg, by simp⟩ hon ⟨_, World.putObj_heap_same hlt, rfl, rfl, k3, k4, k5, k6⟩

theorem round_sound {rec : Rec} (hrec : RecOk P rec) {b : Nat} {r : RB} {args : List Value} {us : Array Value} {v : Value} (h : roundA rec bar b args H = some (v, H')) (hs : Sim φ H bar base w) (hφ : φ b = some r) (hv : VRs φ us.toList args) :
    ∃ x : Loop, w.heap[r.c]? = some (.loop x) ∧ us.size = x.params.size ∧
      RoundIn Fence.wide 0 P r.c x.fn ((x.params.zip us).foldl (fun tmps (t, a) => tmps.setIfInBounds t a) x.tmps) x.assign x.body w fun e w' => ∃ u φ', e = .returned u ∧ VR φ' u v ∧ Step φ H bar base w φ' H' w' := by
  unfold roundA at h
  split at h
  · cases h
  · rename_i hle
    have hle := Nat.le_of_ble_eq_true hle
    split at h
    · rename_i pd n m ps assign body hg
      split at h
      · cases h
      · rename_i f hp
        obtain ⟨x, hx, k1, k2, k3, k4, k5, k6⟩ := hs.obj b r _ hφ hg
        obtain ⟨q1, q2, q3, q4⟩ := puts_rel hp hv (tmps_fr (ds := []) (rd := some b) k3)
        refine ⟨x, hx, by rw [k4]; simpa using q4.symm, ?_⟩
        rw [zip_fold, k4, k5, k6]
        have hact : ActR φ (some r.c) { tmps := (ps.toList.zip us.toList).foldl (fun t p => t.setIfInBounds p.1 p.2) x.tmps, defers := [] } f := ⟨q1, by rw [q2]; trivial, by rw [q3]; exact ⟨r, hφ, rfl⟩⟩
        refine roundIn_of_wpIn trivial ?_
        split at h
        · rename_i f₁ H₁ ha
          have hw1 := hrec.code ha hs hact
          refine wpIn_mono hw1 ?_
          rintro ex a₁ w₁ ⟨rfl, φ₁, st₁, hact₁⟩
          have hφ₁ := st₁.ext b r hφ
          split at h
          · rename_i pd₁ n₁ m₁ ps₁ as₁ bd₁ hg₁
            obtain ⟨x₁, hx₁, j1, j2, j3, j4, j5, j6⟩ := st₁.sim.obj b r _ hφ₁ hg₁
            have hb := run_beginRound (P := P) hx₁ j1
            have st₂ : Step φ₁ H₁ bar base w₁ φ₁ (H₁.put b (.loop .busy pd₁ n₁ m₁ ps₁ as₁ bd₁)) (w₁.putObj r.c (.loop { x₁ with state := .busy, pending := pd₁ })) := loop_turn st₁.sim hφ₁ hle hg₁ hx₁
            have ex₁ : ({ x₁ with state := .busy } : Loop) = { x₁ with state := .busy, pending := pd₁ } := by rw [← j2]
            rw [ex₁] at hb
            refine ⟨_, hb, ?_⟩
            split at h
            · rename_i e f₂ H₂ hbd
              have hw2 := hrec.code hbd st₂.sim hact₁
              refine wpIn_mono hw2 ?_
              rintro ex a₂ w₂ ⟨rfl, φ₂, st₃, hact₂⟩
              have hφ₂ := st₃.ext b r hφ₁
              split at h
              · rename_i st pd₂ n₂ m₂ ps₂ as₂ bd₂ hg₂
                obtain ⟨x₂, hx₂, i1, i2, i3, i4, i5, i6⟩ := st₃.sim.obj b r _ hφ₂ hg₂
                have st := (st₁.trans st₂).trans st₃
                cases e with
                | normal =>
                  cases h
                  exact ⟨_, _, run_endRound none hx₂, _, φ₂, rfl, .bool true, st.trans (loop_turn st₃.sim hφ₂ hle hg₂ hx₂)⟩
                | ret =>
                  cases h
                  exact ⟨_, _, run_endRound (some .ret) hx₂, _, φ₂, rfl, .bool false, st.trans (loop_turn st₃.sim hφ₂ hle hg₂ hx₂)⟩
                | exit id =>
                  cases h
                  exact ⟨_, _, run_endRound (some (.exit id)) hx₂, _, φ₂, rfl, .bool false, st.trans (loop_turn st₃.sim hφ₂ hle hg₂ hx₂)⟩
              · cases h
            · cases h
          · cases h
        · cases h
    · cases h

end Go.Abs
