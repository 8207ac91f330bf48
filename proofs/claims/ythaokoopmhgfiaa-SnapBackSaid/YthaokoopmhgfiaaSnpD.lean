import Derived.Test.YthaokoopmhgfiaaChecked
import Derived.KernelRfl
import Derived.Test.YthaokoopmhgfiaaM5
set_option linter.unusedVariables false
set_option linter.unusedSimpArgs false
set_option linter.defProp false
noncomputable section
namespace Go.Proofs.Ythaokoopmhgfiaa
open Go.Sym Go.Abu Go.Pev
noncomputable def D : Dcf := mkD Try.prog [26, 34] [(20, 0, [some (5, 1)])] [(20, [[some (5, 1)]]), (32, [[some (55, 3)]]), (33, [[some (5, 1)]]), (41, [[some (5, 1)]])] [(20, [false])]
end Go.Proofs.Ythaokoopmhgfiaa
