/-
  No cell of these rows narrows 'for every input' (looked for: loops, veiled, ifaces, maps, wideKeys, modest, calm, conditions, laid).
  DERIVED. THE GIVEN ROWS OF THIS SEAT. 1 by the template 'for every input the law returns true; each argument reads behind the call as it read before'; 0 by the template 'total and deterministic' (their statements: YtfmbgbicbpoolaaGreatTotals.lean).
  GIVEN WITH THE SEED: the statements are not yours to turn. If you find one false, say at which input.
  Laid BY PROGRAM, IN A SANDBOX (cutbox-rows.mjs): the forced cells as the released guide's own fill.sh prints them over the translation b7e78b9b151edf5d… (all of the seat's roots in one cut). By AI agents, Wed Nov 11 2026. No macro, syntax, notation, axiom, sorry.
-/
import Derived.Test.YtfmbgbicbpoolaaGreatChecked
import GoSem.Claim
import GoSem.ClaimJoined
import GoSem.ClaimMapViews
import Derived.JoinedTies
import Derived.KernelRfl
namespace Go.Proofs.YtfmbgbicbpoolaaGreat
/- THE CELL 'sum', in the pinned program and in every row, IS THE sha256 OF THE DUMP (.gsa) THAT YtfmbgbicbpoolaaGreatProg.lean LOADS. Nothing in Lean hashes anything: it is a label: what it is worth is what the hold of that sum in a sandbox is worth. -/
noncomputable def Tryz.pinned : Pinned := { name := "ytfmbgbicbpoolaagreat", sum := "b7e78b9b151edf5d95d2eb41c9550332c91ce5c8fe3ca888c1eb4db45baab361", checked := Tryz.checked }
namespace Rows
def none {H : Type} : Left H := { results := [], args := [] }

/-- 'pelotonlaw20.ChooseNames': WHATEVER THE INPUT: true; the input reads as it did. -/
def chooseNamesSpec : ChangeSpec := { name := "chooseNames", fn := fun _ => fun
  | [] => { results := [.lit (.bool true)], args := [] }
  | _ => none }
def chooseNamesRow : OpenClaim := { program := "ytfmbgbicbpoolaagreat", sum := "b7e78b9b151edf5d95d2eb41c9550332c91ce5c8fe3ca888c1eb4db45baab361", func := "peloton/pelotonlaw20.ChooseNames", spec := "chooseNames", inPlace := ["math/bits.Add64", "slices.overlaps[peloton/api.Point]"], unfollowed := true, recurses := true, plainKeys := false, apart := false }
def ChooseNamesSaid : Prop := chooseNamesRow.holds Tryz.pinned (OpenSpec.ofChange chooseNamesSpec)

/-- ITS FALSE NEIGHBOUR: 'it returns false'. Refute it at one input. -/
def chooseNamesWrong : ChangeSpec := { name := "chooseNames", fn := fun _ => fun
  | [] => { results := [.lit (.bool false)], args := [] }
  | _ => none }
def ChooseNamesWrongFalsely : Prop := chooseNamesRow.holds Tryz.pinned (OpenSpec.ofChange chooseNamesWrong)

/- THE SECOND FORM. 'bulk': how many values and letters a reading holds, each counted each time it is reached (what is shared counts as often as it is met; a slice's spare places count too). A statement '..UptoSaid' is the law's where the arguments, and the package variables that the reading takes, are together of bulk at most 1048576: NARROWER than '..Said'. Prove '..Said' where nothing that the law and all that it calls make is longer than what came in: it says more and counts as full. Else prove '..UptoSaid'. A law counts once. -/
mutual
def uptoBulk {H : Type} : DataW H → Nat
  | .lit (.string bytes) => bytes.length + 1
  | .lit _ => 1
  | .nil => 1
  | .ptr d => uptoBulk d + 1
  | .slice elems spare => uptoBulkAll elems + uptoBulkAll spare + 1
  | .agg parts => uptoBulkAll parts + 1
  | .iface _ d => uptoBulk d + 1
  | .map entries => uptoBulkEntries entries + 1
  | .held _ => 1
def uptoBulkAll {H : Type} : List (DataW H) → Nat
  | [] => 0
  | d :: r => uptoBulk d + uptoBulkAll r
def uptoBulkEntries {H : Type} : List (Lit × DataW H) → Nat
  | [] => 0
  | x :: r => uptoBulkEntry x + uptoBulkEntries r
def uptoBulkEntry {H : Type} : Lit × DataW H → Nat
  | (.string bytes, d) => bytes.length + uptoBulk d + 1
  | (_, d) => uptoBulk d + 1
 end
def uptoSmall : (H : Type) → List (DataW H) → Bool := fun _ ds => decide (uptoBulkAll ds ≤ 1048576)
def OpenSpec.upto (s : _root_.Go.ChangeSpec) : _root_.Go.OpenSpec := { _root_.Go.OpenSpec.ofChange s with cond := some uptoSmall }

/-- 'pelotonlaw20.ChooseNames', WHERE WHAT IT READS IS OF BULK AT MOST 1048576: true; the input reads as it did. -/
def chooseNamesUptoRow : OpenClaim := { program := "ytfmbgbicbpoolaagreat", sum := "b7e78b9b151edf5d95d2eb41c9550332c91ce5c8fe3ca888c1eb4db45baab361", func := "peloton/pelotonlaw20.ChooseNames", spec := "chooseNames", inPlace := ["math/bits.Add64", "slices.overlaps[peloton/api.Point]"], unfollowed := true, recurses := true, plainKeys := false, apart := false, narrowed := true }
def ChooseNamesUptoSaid : Prop := chooseNamesUptoRow.holds Tryz.pinned (OpenSpec.upto chooseNamesSpec)

end Rows
end Go.Proofs.YtfmbgbicbpoolaaGreat
