import Derived.Test.YtfghdmmapmdcgaaGreatCC
set_option linter.unusedVariables false
set_option linter.unusedSimpArgs false
set_option linter.defProp false
noncomputable section
namespace Go.Proofs.YtfghdmmapmdcgaaGreat
open Go.Sym Bnd
set_option maxRecDepth 100000
theorem add64 (x y : Nat) : RF.ev .add64 [U x, U y, U 0] = some (.agg [U ((x + y) % 18446744073709551616), U ((x + y) / 18446744073709551616)]) := rfl
end Go.Proofs.YtfghdmmapmdcgaaGreat
