/-
  No cell of these rows narrows 'for every input' (looked for: loops, veiled, ifaces, maps, wideKeys, modest, calm, conditions, laid).
  DERIVED. THE GIVEN ROWS OF THIS SEAT. 4 by the template 'for every input the law returns true; each argument reads behind the call as it read before'; 0 by the template 'total and deterministic' (their statements: YtfghdmmapmdcgaaGreatTotals.lean).
  GIVEN WITH THE SEED: the statements are not yours to turn. If you find one false, say at which input.
  Laid BY PROGRAM, IN A SANDBOX (cutbox-rows.mjs): the forced cells as the released guide's own fill.sh prints them over the translation 62ee4066ff077157… (all of the seat's roots in one cut). By AI agents, Wed Nov 11 2026. No macro, syntax, notation, axiom, sorry.
-/
import Derived.Test.YtfghdmmapmdcgaaGreatChecked
import GoSem.Claim
import GoSem.ClaimJoined
import GoSem.ClaimMapViews
import Derived.JoinedTies
import Derived.KernelRfl
namespace Go.Proofs.YtfghdmmapmdcgaaGreat
/- THE CELL 'sum', in the pinned program and in every row, IS THE sha256 OF THE DUMP (.gsa) THAT YtfghdmmapmdcgaaGreatProg.lean LOADS. Nothing in Lean hashes anything: it is a label: what it is worth is what the hold of that sum in a sandbox is worth. -/
noncomputable def Tryz.pinned : Pinned := { name := "ytfghdmmapmdcgaagreat", sum := "62ee4066ff07715740b5d9de8d257b99b0d66484095683f1323ec11d59d57d64", checked := Tryz.checked }
namespace Rows
def none {H : Type} : Left H := { results := [], args := [] }

/-- 'pelotonlaw22.BoundCounts': WHATEVER THE INPUT: true; the input reads as it did. -/
def boundCountsSpec : ChangeSpec := { name := "boundCounts", fn := fun _ => fun
  | [d1, d2] => { results := [.lit (.bool true)], args := [d1, d2] }
  | _ => none }
def boundCountsRow : OpenClaim := { program := "ytfghdmmapmdcgaagreat", sum := "62ee4066ff07715740b5d9de8d257b99b0d66484095683f1323ec11d59d57d64", func := "peloton/pelotonlaw22.BoundCounts", spec := "boundCounts", inPlace := ["math/bits.Add64"], unfollowed := true, recurses := true, plainKeys := false, apart := false }
def BoundCountsSaid : Prop := boundCountsRow.holds Tryz.pinned (OpenSpec.ofChange boundCountsSpec)

/-- ITS FALSE NEIGHBOUR: 'it returns false'. Refute it at one input. -/
def boundCountsWrong : ChangeSpec := { name := "boundCounts", fn := fun _ => fun
  | [d1, d2] => { results := [.lit (.bool false)], args := [d1, d2] }
  | _ => none }
def BoundCountsWrongFalsely : Prop := boundCountsRow.holds Tryz.pinned (OpenSpec.ofChange boundCountsWrong)

/-- 'pelotonlaw20.ChooseMoves': WHATEVER THE INPUT: true; the input reads as it did. -/
def chooseMovesSpec : ChangeSpec := { name := "chooseMoves", fn := fun _ => fun
  | [d1, d2] => { results := [.lit (.bool true)], args := [d1, d2] }
  | _ => none }
def chooseMovesRow : OpenClaim := { program := "ytfghdmmapmdcgaagreat", sum := "62ee4066ff07715740b5d9de8d257b99b0d66484095683f1323ec11d59d57d64", func := "peloton/pelotonlaw20.ChooseMoves", spec := "chooseMoves", inPlace := ["math/bits.Add64"], unfollowed := true, recurses := true, plainKeys := false, apart := false }
def ChooseMovesSaid : Prop := chooseMovesRow.holds Tryz.pinned (OpenSpec.ofChange chooseMovesSpec)

/-- ITS FALSE NEIGHBOUR: 'it returns false'. Refute it at one input. -/
def chooseMovesWrong : ChangeSpec := { name := "chooseMoves", fn := fun _ => fun
  | [d1, d2] => { results := [.lit (.bool false)], args := [d1, d2] }
  | _ => none }
def ChooseMovesWrongFalsely : Prop := chooseMovesRow.holds Tryz.pinned (OpenSpec.ofChange chooseMovesWrong)

/-- 'pelotonlaw20.ChooseNews': WHATEVER THE INPUT: true; the input reads as it did. -/
def chooseNewsSpec : ChangeSpec := { name := "chooseNews", fn := fun _ => fun
  | [d1, d2, d3, d4] => { results := [.lit (.bool true)], args := [d1, d2, d3, d4] }
  | _ => none }
def chooseNewsRow : OpenClaim := { program := "ytfghdmmapmdcgaagreat", sum := "62ee4066ff07715740b5d9de8d257b99b0d66484095683f1323ec11d59d57d64", func := "peloton/pelotonlaw20.ChooseNews", spec := "chooseNews", inPlace := ["math/bits.Add64"], unfollowed := true, recurses := true, plainKeys := false, apart := false }
def ChooseNewsSaid : Prop := chooseNewsRow.holds Tryz.pinned (OpenSpec.ofChange chooseNewsSpec)

/-- ITS FALSE NEIGHBOUR: 'it returns false'. Refute it at one input. -/
def chooseNewsWrong : ChangeSpec := { name := "chooseNews", fn := fun _ => fun
  | [d1, d2, d3, d4] => { results := [.lit (.bool false)], args := [d1, d2, d3, d4] }
  | _ => none }
def ChooseNewsWrongFalsely : Prop := chooseNewsRow.holds Tryz.pinned (OpenSpec.ofChange chooseNewsWrong)

/-- 'pelotonlaw20.ChooseEdits': WHATEVER THE INPUT: true; the input reads as it did. -/
def chooseEditsSpec : ChangeSpec := { name := "chooseEdits", fn := fun _ => fun
  | [d1, d2, d3] => { results := [.lit (.bool true)], args := [d1, d2, d3] }
  | _ => none }
def chooseEditsRow : OpenClaim := { program := "ytfghdmmapmdcgaagreat", sum := "62ee4066ff07715740b5d9de8d257b99b0d66484095683f1323ec11d59d57d64", func := "peloton/pelotonlaw20.ChooseEdits", spec := "chooseEdits", inPlace := ["math/bits.Add64", "slices.overlaps[peloton/api.Point]"], unfollowed := true, recurses := true, plainKeys := false, apart := false }
def ChooseEditsSaid : Prop := chooseEditsRow.holds Tryz.pinned (OpenSpec.ofChange chooseEditsSpec)

/-- ITS FALSE NEIGHBOUR: 'it returns false'. Refute it at one input. -/
def chooseEditsWrong : ChangeSpec := { name := "chooseEdits", fn := fun _ => fun
  | [d1, d2, d3] => { results := [.lit (.bool false)], args := [d1, d2, d3] }
  | _ => none }
def ChooseEditsWrongFalsely : Prop := chooseEditsRow.holds Tryz.pinned (OpenSpec.ofChange chooseEditsWrong)

/- THE SECOND FORM. 'bulk': how many values and letters a reading holds, each counted each time it is reached (what is shared counts as often as it is met; a slice's spare places count too). A statement '..UptoSaid' is the law's where the arguments, and the package variables that the reading takes, are together of bulk at most 1048576: NARROWER than '..Said'. Prove '..Said' where nothing that the law and all that it calls make is longer than what came in: it says more and counts as full. Else prove '..UptoSaid'. A law counts once. -/
mutual
def uptoBulk {H : Type} : DataW H → Nat
  | .lit (.string bytes) => bytes.length + 1
  | .lit _ => 1
  | .nil => 1
  | .ptr d => uptoBulk d + 1
  | .slice elems spare => uptoBulkAll elems + uptoBulkAll spare + 1
  | .agg parts => uptoBulkAll parts + 1
  | .iface _ d => uptoBulk d + 1
  | .map entries => uptoBulkEntries entries + 1
  | .held _ => 1
def uptoBulkAll {H : Type} : List (DataW H) → Nat
  | [] => 0
  | d :: r => uptoBulk d + uptoBulkAll r
def uptoBulkEntries {H : Type} : List (Lit × DataW H) → Nat
  | [] => 0
  | x :: r => uptoBulkEntry x + uptoBulkEntries r
def uptoBulkEntry {H : Type} : Lit × DataW H → Nat
  | (.string bytes, d) => bytes.length + uptoBulk d + 1
  | (_, d) => uptoBulk d + 1
 end
def uptoSmall : (H : Type) → List (DataW H) → Bool := fun _ ds => decide (uptoBulkAll ds ≤ 1048576)
def OpenSpec.upto (s : _root_.Go.ChangeSpec) : _root_.Go.OpenSpec := { _root_.Go.OpenSpec.ofChange s with cond := some uptoSmall }

/-- 'pelotonlaw22.BoundCounts', WHERE WHAT IT READS IS OF BULK AT MOST 1048576: true; the input reads as it did. -/
def boundCountsUptoRow : OpenClaim := { program := "ytfghdmmapmdcgaagreat", sum := "62ee4066ff07715740b5d9de8d257b99b0d66484095683f1323ec11d59d57d64", func := "peloton/pelotonlaw22.BoundCounts", spec := "boundCounts", inPlace := ["math/bits.Add64"], unfollowed := true, recurses := true, plainKeys := false, apart := false, narrowed := true }
def BoundCountsUptoSaid : Prop := boundCountsUptoRow.holds Tryz.pinned (OpenSpec.upto boundCountsSpec)

/-- 'pelotonlaw20.ChooseMoves', WHERE WHAT IT READS IS OF BULK AT MOST 1048576: true; the input reads as it did. -/
def chooseMovesUptoRow : OpenClaim := { program := "ytfghdmmapmdcgaagreat", sum := "62ee4066ff07715740b5d9de8d257b99b0d66484095683f1323ec11d59d57d64", func := "peloton/pelotonlaw20.ChooseMoves", spec := "chooseMoves", inPlace := ["math/bits.Add64"], unfollowed := true, recurses := true, plainKeys := false, apart := false, narrowed := true }
def ChooseMovesUptoSaid : Prop := chooseMovesUptoRow.holds Tryz.pinned (OpenSpec.upto chooseMovesSpec)

/-- 'pelotonlaw20.ChooseNews', WHERE WHAT IT READS IS OF BULK AT MOST 1048576: true; the input reads as it did. -/
def chooseNewsUptoRow : OpenClaim := { program := "ytfghdmmapmdcgaagreat", sum := "62ee4066ff07715740b5d9de8d257b99b0d66484095683f1323ec11d59d57d64", func := "peloton/pelotonlaw20.ChooseNews", spec := "chooseNews", inPlace := ["math/bits.Add64"], unfollowed := true, recurses := true, plainKeys := false, apart := false, narrowed := true }
def ChooseNewsUptoSaid : Prop := chooseNewsUptoRow.holds Tryz.pinned (OpenSpec.upto chooseNewsSpec)

/-- 'pelotonlaw20.ChooseEdits', WHERE WHAT IT READS IS OF BULK AT MOST 1048576: true; the input reads as it did. -/
def chooseEditsUptoRow : OpenClaim := { program := "ytfghdmmapmdcgaagreat", sum := "62ee4066ff07715740b5d9de8d257b99b0d66484095683f1323ec11d59d57d64", func := "peloton/pelotonlaw20.ChooseEdits", spec := "chooseEdits", inPlace := ["math/bits.Add64", "slices.overlaps[peloton/api.Point]"], unfollowed := true, recurses := true, plainKeys := false, apart := false, narrowed := true }
def ChooseEditsUptoSaid : Prop := chooseEditsUptoRow.holds Tryz.pinned (OpenSpec.upto chooseEditsSpec)

end Rows
end Go.Proofs.YtfghdmmapmdcgaaGreat
