/-
  No cell of these rows narrows 'for every input' (looked for: loops, veiled, ifaces, maps, wideKeys, modest, calm, conditions, laid).
  DERIVED. THE GIVEN ROWS OF THIS SEAT. 6 by the template 'for every input the law returns true; each argument reads behind the call as it read before'; 0 by the template 'total and deterministic' (their statements: YtoeigdpfcnaaeaaGreatTotals.lean).
  GIVEN WITH THE SEED: the statements are not yours to turn. If you find one false, say at which input.
  Laid BY PROGRAM, IN A SANDBOX (cutbox-rows.mjs): the forced cells as the released guide's own fill.sh prints them over the translation f7db71c13378c688… (all of the seat's roots in one cut). By AI agents, Wed Nov 11 2026. No macro, syntax, notation, axiom, sorry.
-/
import Derived.Test.YtoeigdpfcnaaeaaGreatChecked
import GoSem.Claim
import GoSem.ClaimJoined
import GoSem.ClaimMapViews
import Derived.JoinedTies
import Derived.KernelRfl
namespace Go.Proofs.YtoeigdpfcnaaeaaGreat
/- THE CELL 'sum', in the pinned program and in every row, IS THE sha256 OF THE DUMP (.gsa) THAT YtoeigdpfcnaaeaaGreatProg.lean LOADS. Nothing in Lean hashes anything: it is a label: what it is worth is what the hold of that sum in a sandbox is worth. -/
noncomputable def Tryz.pinned : Pinned := { name := "ytoeigdpfcnaaeaagreat", sum := "f7db71c13378c688200d11beed066bc4b289acdbe67dc4d5d84393822e236363", checked := Tryz.checked }
namespace Rows
def none {H : Type} : Left H := { results := [], args := [] }

/-- 'pelotonlaw22.BoundEvents': WHATEVER THE INPUT: true; the input reads as it did. -/
def boundEventsSpec : ChangeSpec := { name := "boundEvents", fn := fun _ => fun
  | [d1, d2, d3, d4] => { results := [.lit (.bool true)], args := [d1, d2, d3, d4] }
  | _ => none }
def boundEventsRow : OpenClaim := { program := "ytoeigdpfcnaaeaagreat", sum := "f7db71c13378c688200d11beed066bc4b289acdbe67dc4d5d84393822e236363", func := "peloton/pelotonlaw22.BoundEvents", spec := "boundEvents", inPlace := ["math/bits.Add64"], unfollowed := true, recurses := true, plainKeys := false, apart := false }
def BoundEventsSaid : Prop := boundEventsRow.holds Tryz.pinned (OpenSpec.ofChange boundEventsSpec)

/-- ITS FALSE NEIGHBOUR: 'it returns false'. Refute it at one input. -/
def boundEventsWrong : ChangeSpec := { name := "boundEvents", fn := fun _ => fun
  | [d1, d2, d3, d4] => { results := [.lit (.bool false)], args := [d1, d2, d3, d4] }
  | _ => none }
def BoundEventsWrongFalsely : Prop := boundEventsRow.holds Tryz.pinned (OpenSpec.ofChange boundEventsWrong)

/-- 'pelotonlaw22.BoundMost': WHATEVER THE INPUT: true; the input reads as it did. -/
def boundMostSpec : ChangeSpec := { name := "boundMost", fn := fun _ => fun
  | [d1, d2, d3, d4] => { results := [.lit (.bool true)], args := [d1, d2, d3, d4] }
  | _ => none }
def boundMostRow : OpenClaim := { program := "ytoeigdpfcnaaeaagreat", sum := "f7db71c13378c688200d11beed066bc4b289acdbe67dc4d5d84393822e236363", func := "peloton/pelotonlaw22.BoundMost", spec := "boundMost", inPlace := ["math/bits.Add64"], unfollowed := true, recurses := true, plainKeys := false, apart := false }
def BoundMostSaid : Prop := boundMostRow.holds Tryz.pinned (OpenSpec.ofChange boundMostSpec)

/-- ITS FALSE NEIGHBOUR: 'it returns false'. Refute it at one input. -/
def boundMostWrong : ChangeSpec := { name := "boundMost", fn := fun _ => fun
  | [d1, d2, d3, d4] => { results := [.lit (.bool false)], args := [d1, d2, d3, d4] }
  | _ => none }
def BoundMostWrongFalsely : Prop := boundMostRow.holds Tryz.pinned (OpenSpec.ofChange boundMostWrong)

/-- 'pelotonlaw22.BoundParts': WHATEVER THE INPUT: true; the input reads as it did. -/
def boundPartsSpec : ChangeSpec := { name := "boundParts", fn := fun _ => fun
  | [d1, d2, d3, d4, d5] => { results := [.lit (.bool true)], args := [d1, d2, d3, d4, d5] }
  | _ => none }
def boundPartsRow : OpenClaim := { program := "ytoeigdpfcnaaeaagreat", sum := "f7db71c13378c688200d11beed066bc4b289acdbe67dc4d5d84393822e236363", func := "peloton/pelotonlaw22.BoundParts", spec := "boundParts", inPlace := ["math/bits.Add64"], unfollowed := true, recurses := true, plainKeys := false, apart := false }
def BoundPartsSaid : Prop := boundPartsRow.holds Tryz.pinned (OpenSpec.ofChange boundPartsSpec)

/-- ITS FALSE NEIGHBOUR: 'it returns false'. Refute it at one input. -/
def boundPartsWrong : ChangeSpec := { name := "boundParts", fn := fun _ => fun
  | [d1, d2, d3, d4, d5] => { results := [.lit (.bool false)], args := [d1, d2, d3, d4, d5] }
  | _ => none }
def BoundPartsWrongFalsely : Prop := boundPartsRow.holds Tryz.pinned (OpenSpec.ofChange boundPartsWrong)

/-- 'pelotonlaw20.ChooseAlone': WHATEVER THE INPUT: true; the input reads as it did. -/
def chooseAloneSpec : ChangeSpec := { name := "chooseAlone", fn := fun _ => fun
  | [d1, d2] => { results := [.lit (.bool true)], args := [d1, d2] }
  | _ => none }
def chooseAloneRow : OpenClaim := { program := "ytoeigdpfcnaaeaagreat", sum := "f7db71c13378c688200d11beed066bc4b289acdbe67dc4d5d84393822e236363", func := "peloton/pelotonlaw20.ChooseAlone", spec := "chooseAlone", inPlace := ["math/bits.Add64", "slices.overlaps[peloton/api.Point]"], unfollowed := true, recurses := true, plainKeys := false, apart := false }
def ChooseAloneSaid : Prop := chooseAloneRow.holds Tryz.pinned (OpenSpec.ofChange chooseAloneSpec)

/-- ITS FALSE NEIGHBOUR: 'it returns false'. Refute it at one input. -/
def chooseAloneWrong : ChangeSpec := { name := "chooseAlone", fn := fun _ => fun
  | [d1, d2] => { results := [.lit (.bool false)], args := [d1, d2] }
  | _ => none }
def ChooseAloneWrongFalsely : Prop := chooseAloneRow.holds Tryz.pinned (OpenSpec.ofChange chooseAloneWrong)

/-- 'pelotonlaw20.ChooseSame': WHATEVER THE INPUT: true; the input reads as it did. -/
def chooseSameSpec : ChangeSpec := { name := "chooseSame", fn := fun _ => fun
  | [d1, d2, d3] => { results := [.lit (.bool true)], args := [d1, d2, d3] }
  | _ => none }
def chooseSameRow : OpenClaim := { program := "ytoeigdpfcnaaeaagreat", sum := "f7db71c13378c688200d11beed066bc4b289acdbe67dc4d5d84393822e236363", func := "peloton/pelotonlaw20.ChooseSame", spec := "chooseSame", inPlace := ["math/bits.Add64", "slices.overlaps[peloton/api.Point]"], unfollowed := true, recurses := true, plainKeys := false, apart := false }
def ChooseSameSaid : Prop := chooseSameRow.holds Tryz.pinned (OpenSpec.ofChange chooseSameSpec)

/-- ITS FALSE NEIGHBOUR: 'it returns false'. Refute it at one input. -/
def chooseSameWrong : ChangeSpec := { name := "chooseSame", fn := fun _ => fun
  | [d1, d2, d3] => { results := [.lit (.bool false)], args := [d1, d2, d3] }
  | _ => none }
def ChooseSameWrongFalsely : Prop := chooseSameRow.holds Tryz.pinned (OpenSpec.ofChange chooseSameWrong)

/-- 'pelotonlaw22.BoundCerts': WHATEVER THE INPUT: true; the input reads as it did. -/
def boundCertsSpec : ChangeSpec := { name := "boundCerts", fn := fun _ => fun
  | [d1, d2] => { results := [.lit (.bool true)], args := [d1, d2] }
  | _ => none }
def boundCertsRow : OpenClaim := { program := "ytoeigdpfcnaaeaagreat", sum := "f7db71c13378c688200d11beed066bc4b289acdbe67dc4d5d84393822e236363", func := "peloton/pelotonlaw22.BoundCerts", spec := "boundCerts", inPlace := ["math/bits.Add64", "slices.overlaps[peloton/api.Point]"], unfollowed := true, recurses := true, plainKeys := false, apart := false }
def BoundCertsSaid : Prop := boundCertsRow.holds Tryz.pinned (OpenSpec.ofChange boundCertsSpec)

/-- ITS FALSE NEIGHBOUR: 'it returns false'. Refute it at one input. -/
def boundCertsWrong : ChangeSpec := { name := "boundCerts", fn := fun _ => fun
  | [d1, d2] => { results := [.lit (.bool false)], args := [d1, d2] }
  | _ => none }
def BoundCertsWrongFalsely : Prop := boundCertsRow.holds Tryz.pinned (OpenSpec.ofChange boundCertsWrong)

/- THE SECOND FORM. 'bulk': how many values and letters a reading holds, each counted each time it is reached (what is shared counts as often as it is met; a slice's spare places count too). A statement '..UptoSaid' is the law's where the arguments, and the package variables that the reading takes, are together of bulk at most 1048576: NARROWER than '..Said'. Prove '..Said' where nothing that the law and all that it calls make is longer than what came in: it says more and counts as full. Else prove '..UptoSaid'. A law counts once. -/
mutual
def uptoBulk {H : Type} : DataW H → Nat
  | .lit (.string bytes) => bytes.length + 1
  | .lit _ => 1
  | .nil => 1
  | .ptr d => uptoBulk d + 1
  | .slice elems spare => uptoBulkAll elems + uptoBulkAll spare + 1
  | .agg parts => uptoBulkAll parts + 1
  | .iface _ d => uptoBulk d + 1
  | .map entries => uptoBulkEntries entries + 1
  | .held _ => 1
def uptoBulkAll {H : Type} : List (DataW H) → Nat
  | [] => 0
  | d :: r => uptoBulk d + uptoBulkAll r
def uptoBulkEntries {H : Type} : List (Lit × DataW H) → Nat
  | [] => 0
  | x :: r => uptoBulkEntry x + uptoBulkEntries r
def uptoBulkEntry {H : Type} : Lit × DataW H → Nat
  | (.string bytes, d) => bytes.length + uptoBulk d + 1
  | (_, d) => uptoBulk d + 1
 end
def uptoSmall : (H : Type) → List (DataW H) → Bool := fun _ ds => decide (uptoBulkAll ds ≤ 1048576)
def OpenSpec.upto (s : _root_.Go.ChangeSpec) : _root_.Go.OpenSpec := { _root_.Go.OpenSpec.ofChange s with cond := some uptoSmall }

/-- 'pelotonlaw22.BoundEvents', WHERE WHAT IT READS IS OF BULK AT MOST 1048576: true; the input reads as it did. -/
def boundEventsUptoRow : OpenClaim := { program := "ytoeigdpfcnaaeaagreat", sum := "f7db71c13378c688200d11beed066bc4b289acdbe67dc4d5d84393822e236363", func := "peloton/pelotonlaw22.BoundEvents", spec := "boundEvents", inPlace := ["math/bits.Add64"], unfollowed := true, recurses := true, plainKeys := false, apart := false, narrowed := true }
def BoundEventsUptoSaid : Prop := boundEventsUptoRow.holds Tryz.pinned (OpenSpec.upto boundEventsSpec)

/-- 'pelotonlaw22.BoundMost', WHERE WHAT IT READS IS OF BULK AT MOST 1048576: true; the input reads as it did. -/
def boundMostUptoRow : OpenClaim := { program := "ytoeigdpfcnaaeaagreat", sum := "f7db71c13378c688200d11beed066bc4b289acdbe67dc4d5d84393822e236363", func := "peloton/pelotonlaw22.BoundMost", spec := "boundMost", inPlace := ["math/bits.Add64"], unfollowed := true, recurses := true, plainKeys := false, apart := false, narrowed := true }
def BoundMostUptoSaid : Prop := boundMostUptoRow.holds Tryz.pinned (OpenSpec.upto boundMostSpec)

/-- 'pelotonlaw22.BoundParts', WHERE WHAT IT READS IS OF BULK AT MOST 1048576: true; the input reads as it did. -/
def boundPartsUptoRow : OpenClaim := { program := "ytoeigdpfcnaaeaagreat", sum := "f7db71c13378c688200d11beed066bc4b289acdbe67dc4d5d84393822e236363", func := "peloton/pelotonlaw22.BoundParts", spec := "boundParts", inPlace := ["math/bits.Add64"], unfollowed := true, recurses := true, plainKeys := false, apart := false, narrowed := true }
def BoundPartsUptoSaid : Prop := boundPartsUptoRow.holds Tryz.pinned (OpenSpec.upto boundPartsSpec)

/-- 'pelotonlaw20.ChooseAlone', WHERE WHAT IT READS IS OF BULK AT MOST 1048576: true; the input reads as it did. -/
def chooseAloneUptoRow : OpenClaim := { program := "ytoeigdpfcnaaeaagreat", sum := "f7db71c13378c688200d11beed066bc4b289acdbe67dc4d5d84393822e236363", func := "peloton/pelotonlaw20.ChooseAlone", spec := "chooseAlone", inPlace := ["math/bits.Add64", "slices.overlaps[peloton/api.Point]"], unfollowed := true, recurses := true, plainKeys := false, apart := false, narrowed := true }
def ChooseAloneUptoSaid : Prop := chooseAloneUptoRow.holds Tryz.pinned (OpenSpec.upto chooseAloneSpec)

/-- 'pelotonlaw20.ChooseSame', WHERE WHAT IT READS IS OF BULK AT MOST 1048576: true; the input reads as it did. -/
def chooseSameUptoRow : OpenClaim := { program := "ytoeigdpfcnaaeaagreat", sum := "f7db71c13378c688200d11beed066bc4b289acdbe67dc4d5d84393822e236363", func := "peloton/pelotonlaw20.ChooseSame", spec := "chooseSame", inPlace := ["math/bits.Add64", "slices.overlaps[peloton/api.Point]"], unfollowed := true, recurses := true, plainKeys := false, apart := false, narrowed := true }
def ChooseSameUptoSaid : Prop := chooseSameUptoRow.holds Tryz.pinned (OpenSpec.upto chooseSameSpec)

/-- 'pelotonlaw22.BoundCerts', WHERE WHAT IT READS IS OF BULK AT MOST 1048576: true; the input reads as it did. -/
def boundCertsUptoRow : OpenClaim := { program := "ytoeigdpfcnaaeaagreat", sum := "f7db71c13378c688200d11beed066bc4b289acdbe67dc4d5d84393822e236363", func := "peloton/pelotonlaw22.BoundCerts", spec := "boundCerts", inPlace := ["math/bits.Add64", "slices.overlaps[peloton/api.Point]"], unfollowed := true, recurses := true, plainKeys := false, apart := false, narrowed := true }
def BoundCertsUptoSaid : Prop := boundCertsUptoRow.holds Tryz.pinned (OpenSpec.upto boundCertsSpec)

end Rows
end Go.Proofs.YtoeigdpfcnaaeaaGreat
