import Derived.Test.YthaokoopmhgfiaaSnpG
import Derived.Test.YthaokoopmhgfiaaSnpS
set_option linter.unusedVariables false
set_option linter.unusedSimpArgs false
set_option linter.defProp false
namespace Go.Proofs.Ythaokoopmhgfiaa
open Go.Sym Go.Abu Go.Pev
open Go.ChangeShapes Go.WideShapes Go.ChangeAt Go.RowKit
theorem byte_of {c : List PV} (h : F2 CtV0 [.i .u8] c) : ∃ x : Int, (0 ≤ x ∧ x < 256) ∧ c = [.v (.int .u8 x)] := by
 cases h with
 | cons h1 h =>
  cases h;obtain ⟨a, rfl, w⟩ := h1;have := wf_u8 w;exact ⟨a, by omega, rfl⟩
theorem bytes_of : ∀ {els : List (List PV)}, (∀ c ∈ els, F2 CtV0 [.i .u8] c) → ∃ l : List Int, Bytes l ∧ els = B l
 | [], _ => ⟨[], fun d hd => (by cases hd), rfl⟩
 | c :: els, h => by
  obtain ⟨x, hx, rfl⟩ := byte_of (h c (by simp));obtain ⟨l, hl, rfl⟩ := bytes_of (fun c hc => h c (List.mem_cons_of_mem _ hc));exact ⟨x :: l, fun d hd => by
   rcases List.mem_cons.1 hd with rfl | hd
   ·exact hx
   ·exact hl d hd, rfl⟩
theorem slice_of {v : PV} (h : ArgV (false, [.sl [.i .u8]]) v) : ∃ l : List Int, Bytes l ∧ v = .sl (B l) := by
 cases h with
 | cons h1 h =>
  cases h;obtain ⟨els, rfl, _, h1⟩ := h1;obtain ⟨l, hl, rfl⟩ := bytes_of h1;exact ⟨l, hl, rfl⟩
theorem int_of {v : PV} (h : ArgV (false, [.p (.i .i64)]) v) : ∃ n : Int, v = .i64 n := by
 cases h with
 | cons h1 h =>
  cases h;obtain ⟨n, rfl, _⟩ := h1;exact ⟨n, rfl⟩
theorem args4 : argCs Try.prog Try.f4.params.toList = some [(true, snapC), (false, [.sl [.i .u8]]), (false, [.p (.i .i64)])] := by kernel_rfl
theorem vs4 : VS D 4 = true := by kernel_rfl
theorem res4 : Try.f4.resultTypes = #[4] := by kernel_rfl
theorem read4 : (Try.f4.params.toList.all fun t => Try.prog.readableRec t && Nat.blt t Try.prog.types.size) = true := by kernel_rfl
theorem len4 : Try.f4.params.toList.length = 3 := by kernel_rfl
set_option maxRecDepth 100000 in
theorem lifted4 (os : Os) (started : os.Started) (H : Type) (enc : TypeId × Value → H) :
  ReturnsInHanded {} Try.checked os 4 .any (Rows.snapWritesSpec.pre6 enc Try.prog Try.f4 Rows.snapWritesRow.domain false) (Rows.snapWritesSpec.post enc Try.prog Try.f4 false true false false) := by
 refine returnsInHanded_of_change (C := Try.checked) Try.own started (by kernel_rfl) Try.func4
  (ChangeSpec.witness6 (enc := enc) (C := Try.checked) false ⟨#[], #[.agg #[.int .u8 0, .int .i64 0, .int .i64 0, .slice none 0 0], .slice none 0 0, .int .i64 0], []⟩ 8 (by kernel_rfl) (by kernel_rfl) (by kernel_rfl) (by kernel_rfl)) ?_
 intro W base args ds gs before hval0 hW hcnd _;have hW' := hW;obtain ⟨p, q, hA0, hV, rfl, hfz, hnd⟩ := hW;refine (Go.Sym.link (D := D) (x := .bool true) (fun _ => rfl) Try.checked.mixed vs4 (fn := Try.f4) Try.func4 rfl args4 hval0 hA0 ?_ rfl).mono fun e W' ⟨he, hb⟩ => ⟨_, he, ?_⟩
 ·intro vs hvs;cases hvs with
  | cons h1 h =>
   cases h with
   | cons h2 h =>
    cases h with
    | cons h3 h =>
     cases h;obtain ⟨s, hs, rfl⟩ := snap_of h1;obtain ⟨l, hl, rfl⟩ := slice_of h2;obtain ⟨n, rfl⟩ := int_of h3;exact snapWrites hs hl
 ·exact Go.Sym.post_true Try.laidOut hW' rfl res4 bool4 read4 (fun ds hd => by
   rw [len4] at hd
   match ds, hd with
   | [d1, d2, d3], _ => rfl) hb
theorem and_mk4 {a b : Bool} (h : a = true) (k : b = true) : (a && b) = true := by rw [h, k]; rfl
set_option maxHeartbeats 400000000 in
theorem cells4 : joinedFacts Try.prog 4 Try.f4 Rows.snapWritesSpec Rows.snapWritesRow = true := by
 unfold joinedFacts
 repeat' with_reducible apply and_mk4
 all_goals (as_aux_lemma => kernel_rfl)
theorem named4 : Try.prog.funcNamed Rows.snapWritesRow.func = some 4 := by kernel_rfl
theorem noInstance4 : Try.f4.isInstance Try.prog Rows.snapWritesRow.origin Rows.snapWritesRow.targs := of_decide_eq_true (by kernel_rfl)
theorem noWrapper4 : Try.f4.isWrapper Try.prog Rows.snapWritesRow.wrapper Rows.snapWritesRow.mainSum := by unfold Func.isWrapper; rw [if_neg (by decide +kernel)]; exact ⟨rfl, rfl⟩
theorem snapWrites_holds : Rows.SnapWritesSaid :=
 OpenClaim.holds_of_wide 4 Try.f4 rfl rfl rfl rfl rfl rfl rfl ⟨rfl, rfl, rfl, rfl, rfl⟩ rfl rfl rfl rfl rfl named4 Try.func4 cells4 noInstance4 noWrapper4
  (fun os started H enc _ => lifted4 os started H enc)
end Go.Proofs.Ythaokoopmhgfiaa
