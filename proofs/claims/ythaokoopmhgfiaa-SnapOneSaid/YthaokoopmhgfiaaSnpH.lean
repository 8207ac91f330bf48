import Derived.Test.YthaokoopmhgfiaaSnpG
set_option linter.unusedVariables false
set_option linter.unusedSimpArgs false
set_option linter.defProp false
namespace Go.Proofs.Ythaokoopmhgfiaa
open Go.ChangeShapes Go.WideShapes Go.ChangeAt Go.RowKit
set_option maxRecDepth 100000 in
theorem lifted3 (os : Os) (started : os.Started) (H : Type) (enc : TypeId × Value → H) :
  ReturnsInHanded {} Try.checked os 3 .any (Rows.snapOneSpec.pre6 enc Try.prog Try.f3 Rows.snapOneRow.domain false) (Rows.snapOneSpec.post enc Try.prog Try.f3 false true false false) := by
 refine returnsInHanded_of_change (C := Try.checked) Try.own started (by kernel_rfl) Try.func3
  (ChangeSpec.witness6 (enc := enc) (C := Try.checked) false ⟨#[], #[.agg #[.int .u8 0, .int .i64 0, .int .i64 0, .slice none 0 0], .agg #[.int .u8 0, .int .i64 0, .int .i64 0, .slice none 0 0]], []⟩ 8 (by kernel_rfl) (by kernel_rfl) (by kernel_rfl) (by kernel_rfl)) ?_
 intro W base args ds gs before hval0 hW hcnd _
 have hW' := hW
 obtain ⟨p, q, hA0, hV, rfl, hfz, hnd⟩ := hW
 refine (Go.Sym.link (D := D) (x := .bool true) (fun _ => rfl) Try.checked.mixed vs3 (fn := Try.f3) Try.func3 rfl args3 hval0 hA0 ?_ rfl).mono fun e W' ⟨he, hb⟩ => ⟨_, he, ?_⟩
 ·intro vs hvs
  cases hvs with
  | cons h1 h =>
   cases h with
   | cons h2 h =>
    cases h
    obtain ⟨s, hs, rfl⟩ := snap_of h1
    obtain ⟨t, ht, rfl⟩ := snap_of h2
    exact snapOne hs ht
 ·exact Go.Sym.post_true Try.laidOut hW' rfl res3 bool4 read3 (fun ds hd => by
   rw [len3] at hd
   match ds, hd with
   | [d1, d2], _ => rfl) hb
theorem and_mk {a b : Bool} (h : a = true) (k : b = true) : (a && b) = true := by rw [h, k]; rfl
set_option maxHeartbeats 400000000 in
theorem cells3 : joinedFacts Try.prog 3 Try.f3 Rows.snapOneSpec Rows.snapOneRow = true := by
 unfold joinedFacts
 repeat' with_reducible apply and_mk
 all_goals (as_aux_lemma => kernel_rfl)
theorem named3 : Try.prog.funcNamed Rows.snapOneRow.func = some 3 := by kernel_rfl
theorem noInstance3 : Try.f3.isInstance Try.prog Rows.snapOneRow.origin Rows.snapOneRow.targs := of_decide_eq_true (by kernel_rfl)
theorem noWrapper3 : Try.f3.isWrapper Try.prog Rows.snapOneRow.wrapper Rows.snapOneRow.mainSum := by unfold Func.isWrapper; rw [if_neg (by decide +kernel)]; exact ⟨rfl, rfl⟩
theorem snapOne_holds : Rows.SnapOneSaid :=
 OpenClaim.holds_of_wide 3 Try.f3 rfl rfl rfl rfl rfl rfl rfl ⟨rfl, rfl, rfl, rfl, rfl⟩ rfl rfl rfl rfl rfl named3 Try.func3 cells3 noInstance3 noWrapper3
  (fun os started H enc _ => lifted3 os started H enc)
end Go.Proofs.Ythaokoopmhgfiaa
