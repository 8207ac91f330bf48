import Derived.Test.YthaokoopmhgfiaaSnpG
import Derived.Test.YthaokoopmhgfiaaSnpZ
set_option linter.unusedVariables false
set_option linter.unusedSimpArgs false
set_option linter.defProp false
namespace Go.Proofs.Ythaokoopmhgfiaa
open Go.Sym Go.Abu Go.Pev
open Go.ChangeShapes Go.WideShapes Go.ChangeAt Go.RowKit
theorem byte_of {c : List PV} (h : F2 CtV0 [.i .u8] c) : ∃ x : Int, (0 ≤ x ∧ x < 256) ∧ c = [.v (.int .u8 x)] := by
 cases h with
 | cons h1 h =>
  cases h;obtain ⟨a, rfl, w⟩ := h1;have := wf_u8 w;exact ⟨a, by omega, rfl⟩
theorem bytes_of : ∀ {els : List (List PV)}, (∀ c ∈ els, F2 CtV0 [.i .u8] c) → ∃ l : List Int, Bytes l ∧ els = B l
 | [], _ => ⟨[], fun d hd => (by cases hd), rfl⟩
 | c :: els, h => by
  obtain ⟨x, hx, rfl⟩ := byte_of (h c (by simp));obtain ⟨l, hl, rfl⟩ := bytes_of (fun c hc => h c (List.mem_cons_of_mem _ hc));exact ⟨x :: l, fun d hd => by
   rcases List.mem_cons.1 hd with rfl | hd
   ·exact hx
   ·exact hl d hd, rfl⟩
theorem slice_of {v : PV} (h : ArgV (false, [.sl [.i .u8]]) v) : ∃ l : List Int, Bytes l ∧ v = .sl (B l) := by
 cases h with
 | cons h1 h =>
  cases h;obtain ⟨els, rfl, _, h1⟩ := h1;obtain ⟨l, hl, rfl⟩ := bytes_of h1;exact ⟨l, hl, rfl⟩
theorem int_of {v : PV} (h : ArgV (false, [.p (.i .i64)]) v) : ∃ n : Int, v = .i64 n := by
 cases h with
 | cons h1 h =>
  cases h;obtain ⟨n, rfl, _⟩ := h1;exact ⟨n, rfl⟩
theorem args5 : argCs Try.prog Try.f5.params.toList = some [(true, snapC), (false, [.sl [.i .u8]])] := by kernel_rfl
theorem vs5 : VS D 5 = true := by kernel_rfl
theorem res5 : Try.f5.resultTypes = #[4] := by kernel_rfl
theorem read5 : (Try.f5.params.toList.all fun t => Try.prog.readableRec t && Nat.blt t Try.prog.types.size) = true := by kernel_rfl
theorem len5 : Try.f5.params.toList.length = 2 := by kernel_rfl
set_option maxRecDepth 100000 in
theorem lifted5 (os : Os) (started : os.Started) (H : Type) (enc : TypeId × Value → H) :
  ReturnsInHanded {} Try.checked os 5 .any (Rows.snapBackSpec.pre6 enc Try.prog Try.f5 Rows.snapBackRow.domain false) (Rows.snapBackSpec.post enc Try.prog Try.f5 false true false false) := by
 refine returnsInHanded_of_change (C := Try.checked) Try.own started (by kernel_rfl) Try.func5
  (ChangeSpec.witness6 (enc := enc) (C := Try.checked) false ⟨#[], #[.agg #[.int .u8 0, .int .i64 0, .int .i64 0, .slice none 0 0], .slice none 0 0], []⟩ 8 (by kernel_rfl) (by kernel_rfl) (by kernel_rfl) (by kernel_rfl)) ?_
 intro W base args ds gs before hval0 hW hcnd _;have hW' := hW;obtain ⟨p, q, hA0, hV, rfl, hfz, hnd⟩ := hW;refine (Go.Sym.link (D := D) (x := .bool true) (fun _ => rfl) Try.checked.mixed vs5 (fn := Try.f5) Try.func5 rfl args5 hval0 hA0 ?_ rfl).mono fun e W' ⟨he, hb⟩ => ⟨_, he, ?_⟩
 ·intro vs hvs;cases hvs with
  | cons h1 h =>
   cases h with
   | cons h2 h =>
    cases h;obtain ⟨s, hs, rfl⟩ := snap_of h1;obtain ⟨l, hl, rfl⟩ := slice_of h2;exact snapBack hs hl
 ·exact Go.Sym.post_true Try.laidOut hW' rfl res5 bool4 read5 (fun ds hd => by
   rw [len5] at hd
   match ds, hd with
   | [d1, d2], _ => rfl) hb
theorem and_mk5 {a b : Bool} (h : a = true) (k : b = true) : (a && b) = true := by rw [h, k]; rfl
set_option maxHeartbeats 400000000 in
theorem cells5 : joinedFacts Try.prog 5 Try.f5 Rows.snapBackSpec Rows.snapBackRow = true := by
 unfold joinedFacts
 repeat' with_reducible apply and_mk5
 all_goals (as_aux_lemma => kernel_rfl)
theorem named5 : Try.prog.funcNamed Rows.snapBackRow.func = some 5 := by kernel_rfl
theorem noInstance5 : Try.f5.isInstance Try.prog Rows.snapBackRow.origin Rows.snapBackRow.targs := of_decide_eq_true (by kernel_rfl)
theorem noWrapper5 : Try.f5.isWrapper Try.prog Rows.snapBackRow.wrapper Rows.snapBackRow.mainSum := by unfold Func.isWrapper; rw [if_neg (by decide +kernel)]; exact ⟨rfl, rfl⟩
theorem snapBack_holds : Rows.SnapBackSaid :=
 OpenClaim.holds_of_wide 5 Try.f5 rfl rfl rfl rfl rfl rfl rfl ⟨rfl, rfl, rfl, rfl, rfl⟩ rfl rfl rfl rfl rfl named5 Try.func5 cells5 noInstance5 noWrapper5
  (fun os started H enc _ => lifted5 os started H enc)
end Go.Proofs.Ythaokoopmhgfiaa
