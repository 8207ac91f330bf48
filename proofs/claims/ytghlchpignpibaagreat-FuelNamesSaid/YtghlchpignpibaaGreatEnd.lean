/- The law FuelNames holds: called with nothing, it returns true, and leaves memory as it was. No condition is set. -/
import Derived.Test.YtghlchpignpibaaGreatRows
import Derived.Test.YtghlchpignpibaaGreatAll
import Derived.ProofKit
namespace Go.Proofs.YtghlchpignpibaaGreat
open Go.ChangeShapes Go.WideShapes Go.ChangeAt Go.RowKit

theorem Tryz.own : ownKnob Tryz.prog.godebug = none := by kernel_rfl

theorem called (W : World) : Calls Tryz.prog 3 #[] W fun ex W' => ex = .returned (.bool true) ∧ RowKit.Below W.heap.size W W' :=
  closed e110_ok rfl rfl rfl W

theorem paramsNone : Tryz.f3.params.toList = [] := by kernel_rfl
theorem resultsOne : Tryz.f3.resultTypes = #[4] := by kernel_rfl
theorem boolType : Tryz.prog.underlying 4 = some .bool := by kernel_rfl

set_option maxRecDepth 100000 in
theorem lifted (os : Os) (started : os.Started) (H : Type) (enc : TypeId × Value → H) :
    ReturnsInHanded {} Tryz.checked os 3 .any (Rows.fuelNamesSpec.pre6 enc Tryz.prog Tryz.f3 Rows.fuelNamesRow.domain false) (Rows.fuelNamesSpec.post enc Tryz.prog Tryz.f3 false true false false) := by
  refine returnsInHanded_of_change (C := Tryz.checked) Tryz.own started (by kernel_rfl) Tryz.func3
    (ChangeSpec.witness6 (enc := enc) (C := Tryz.checked) false ⟨#[], #[], []⟩ 8 (by kernel_rfl) (by kernel_rfl) (by kernel_rfl) (by kernel_rfl)) ?_
  intro W base args ds gs before hval0 hW hcnd _
  have hW' := hW
  obtain ⟨p, q, hA0, hV, rfl, hfz, hnd⟩ := hW
  have hA : DataW.TrodAll enc Tryz.prog W 0 (fun _ => true) true Tryz.f3.params.toList args.toList ds p := hA0
  rw [paramsNone] at hA
  obtain ⟨rfl, rfl, rfl⟩ := trodAll_none hA
  obtain ⟨rfl, rfl⟩ := trodVars_none hV
  clear hA0 hval0
  refine (called W).mono fun e W' ⟨he, hb⟩ => ?_
  subst he
  have hres : ∀ (b : Nat) (sp : Nat → Bool) (hd : Bool), DataW.TrodAll enc Tryz.prog W' b sp hd Tryz.f3.resultTypes.toList ((Value.bool true).resultList Tryz.f3.resultTypes.size) [.lit (.bool true)] [] := by
    intro b sp hd
    rw [resultsOne]
    exact trodAll_mk1 (shut_bool boolType true)
  have hargs : ∀ (sp : Nat → Bool) (hd : Bool), DataW.TrodAll enc Tryz.prog W' 0 sp hd Tryz.f3.params.toList (#[] : Array Value).toList [] [] := by
    intro sp hd
    rw [paramsNone]
    exact trodAll_mk0
  have hvars : ∀ (sp : Nat → Bool), DataW.TrodVars enc Tryz.prog W' sp Rows.fuelNamesSpec.vars [] [] := fun sp => rfl
  have hok : ∀ (j : Nat) (t : TypeId) (r : Value), Tryz.f3.resultTypes[j]? = some t → ((Value.bool true).resultList Tryz.f3.resultTypes.size)[j]? = some r → Value.okWide Tryz.prog W' .any 0 t r :=
    ok_one resultsOne rfl (okWide_bool_mk boolType true)
  refine ⟨_, rfl, [], [], [], [], [], [], hW', hres _ _ _, hargs _ _, hvars _, hb.frame _, fun _ => ⟨hok, _, _, [], ⟨[], [], trodAll_append (hargs _ _) (hres _ _ _), hvars _, rfl, ?_, ?_⟩, ?_⟩⟩
  · intro b off hp
    cases hp
  · intro _
    exact List.nodup_nil
  · intro p hp _
    cases hp

theorem and_mk {a b : Bool} (h : a = true) (k : b = true) : (a && b) = true := by rw [h, k]; rfl

set_option maxHeartbeats 400000000 in
theorem cells : joinedFacts Tryz.prog 3 Tryz.f3 Rows.fuelNamesSpec Rows.fuelNamesRow = true := by
  unfold joinedFacts
  repeat' with_reducible apply and_mk
  all_goals (as_aux_lemma => kernel_rfl)

theorem named : Tryz.prog.funcNamed Rows.fuelNamesRow.func = some 3 := by kernel_rfl
theorem noInstance : Tryz.f3.isInstance Tryz.prog Rows.fuelNamesRow.origin Rows.fuelNamesRow.targs := of_decide_eq_true (by kernel_rfl)
theorem noWrapper : Tryz.f3.isWrapper Tryz.prog Rows.fuelNamesRow.wrapper Rows.fuelNamesRow.mainSum := by unfold Func.isWrapper; rw [if_neg (by decide +kernel)]; exact ⟨rfl, rfl⟩

theorem fuelNames_holds : Rows.FuelNamesSaid :=
  OpenClaim.holds_of_wide 3 Tryz.f3 rfl rfl rfl rfl rfl rfl rfl ⟨rfl, rfl, rfl, rfl, rfl⟩ rfl rfl rfl rfl rfl named Tryz.func3 cells noInstance noWrapper
    (fun os started H enc _ => lifted os started H enc)

end Go.Proofs.YtghlchpignpibaaGreat
