import Derived.Test.YthaokoopmhgfiaaSnpF
import Derived.Test.YthaokoopmhgfiaaM5
import Derived.Test.YthaokoopmhgfiaaRows
set_option linter.unusedVariables false
set_option linter.unusedSimpArgs false
set_option linter.defProp false
noncomputable section
namespace Go.Proofs.Ythaokoopmhgfiaa
open Go.Sym Go.Abu Go.Pev
open Go.ChangeShapes Go.WideShapes Go.ChangeAt Go.RowKit
def snapC : List Ct := [.p (.i .u8), .p (.i .i64), .p (.i .i64), .sl [.i .i64, .i .i64, .i .i64]]
theorem wf_i64 {x : Int} (h : (Lit.int .i64 x).wf = true) : I64 x := by
 have : (decide (-9223372036854775808 ≤ x) && decide (x ≤ 9223372036854775807)) = true := h;simp only [Bool.and_eq_true, decide_eq_true_eq] at this;exact this
theorem wf_u8 {x : Int} (h : (Lit.int .u8 x).wf = true) : 0 ≤ x ∧ x ≤ 255 := by
 have : (decide (0 ≤ x) && decide (x ≤ 255)) = true := h;simp only [Bool.and_eq_true, decide_eq_true_eq] at this;exact this
theorem row_of {c : List PV} (h : F2 CtV0 [.i .i64, .i .i64, .i .i64] c) : ∃ p : Pt, c = p.row := by
 cases h with
 | cons h1 h =>
  cases h with
  | cons h2 h =>
   cases h with
   | cons h3 h =>
    cases h;obtain ⟨a, rfl, _⟩ := h1;obtain ⟨b, rfl, _⟩ := h2;obtain ⟨c, rfl, _⟩ := h3;exact ⟨⟨a, b, c⟩, rfl⟩
theorem rows_of : ∀ {els : List (List PV)}, (∀ c ∈ els, F2 CtV0 [.i .i64, .i .i64, .i .i64] c) → ∃ l : List Pt, els = rows l
 | [], _ => ⟨[], rfl⟩
 | c :: els, h => by
  obtain ⟨p, rfl⟩ := row_of (h c (by simp));obtain ⟨l, rfl⟩ := rows_of (fun c hc => h c (List.mem_cons_of_mem _ hc));exact ⟨p :: l, rfl⟩
theorem snap_of {v : PV} (h : ArgV (true, snapC) v) : ∃ s : Snap, s.in64 ∧ v = .agg s.cells := by
 obtain ⟨qs, rfl, h⟩ := h;cases h with
 | cons h1 h =>
  cases h with
  | cons h2 h =>
   cases h with
   | cons h3 h =>
    cases h with
    | cons h4 h =>
     cases h;obtain ⟨a, rfl, w1⟩ := h1;obtain ⟨b, rfl, w2⟩ := h2;obtain ⟨c, rfl, w3⟩ := h3;obtain ⟨els, rfl, _, h4⟩ := h4;obtain ⟨l, rfl⟩ := rows_of h4;exact ⟨⟨a, ⟨⟨b, c⟩, l⟩⟩, ⟨wf_u8 w1, wf_i64 w2, wf_i64 w3⟩, rfl⟩
theorem Try.own : ownKnob Try.prog.godebug = none := by kernel_rfl
theorem Try.laidOut : laidOutB Try.prog = true := by kernel_rfl
theorem args3 : argCs Try.prog Try.f3.params.toList = some [(true, snapC), (true, snapC)] := by kernel_rfl
theorem vs3 : VS D 3 = true := by kernel_rfl
theorem res3 : Try.f3.resultTypes = #[4] := by kernel_rfl
theorem bool4 : Try.prog.underlying 4 = some .bool := by kernel_rfl
theorem read3 : (Try.f3.params.toList.all fun t => Try.prog.readableRec t && Nat.blt t Try.prog.types.size) = true := by kernel_rfl
theorem len3 : Try.f3.params.toList.length = 2 := by kernel_rfl
end Go.Proofs.Ythaokoopmhgfiaa
