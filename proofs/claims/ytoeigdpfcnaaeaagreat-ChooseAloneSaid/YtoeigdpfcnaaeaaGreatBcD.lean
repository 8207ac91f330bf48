import Derived.Test.YtoeigdpfcnaaeaaGreatProg
import Derived.KernelRfl
import Derived.Test.YtoeigdpfcnaaeaaGreatM3
set_option linter.unusedVariables false
set_option linter.unusedSimpArgs false
set_option linter.defProp false
noncomputable section
namespace Go.Proofs.YtoeigdpfcnaaeaaGreat
open Go.Sym
noncomputable def D0:Dcf:=mkZ Tryz.prog [120,154,155,157,158,161,164,168,176,181,182,183,184,186,187,188,190,191,214,246,247,249,252,253,254,256,262,266,269,270,271,298,329,330,331,344,351,355,356,392,394,399,401,402,405,406,407,410,420,424,426,427,435,437,438,446,447] [(66,[[some 3]]),(136,[[some 2]]),(153,[[some 1]]),(179,[[some 1]]),(268,[[some 3]]),(277,[[some 3]]),(283,[[none,none,none,none,none,none,none,none,none,none,some 3]]),(287,[[some 3]]),(290,[[none,none,none,none,none,none,none,none,none,none,some 3]]),(291,[[none,none,none,none,none,none,none,none,none,none,some 3]]),(293,[[none,none,none,none,none,none,none,none,none,none,some 3],[]]),(294,[[none,none,none,none,none,none,none,none,none,none,some 3],[],[]]),(361,[[some 1]]),(365,[[some 3]]),(366,[[some 3]]),(367,[[some 5]]),(368,[[some 1]]),(370,[[some 3]]),(377,[[none,some 3]]),(378,[[some 1,some 1,some 1,some 5,some 1]]),(404,[[none,none,none,some 5,some 1]]),(423,[[some 3]]),(428,[[some 1,some 1,some 1]]),(440,[[some 1,some 1,none]]),(449,[[some 1]])] [(156,⟨0,0,.pre 1,false⟩),(257,⟨4,0,.map false 1 false,false⟩),(268,⟨0,0,.lst 3,true⟩),(277,⟨0,0,.lst 3,true⟩),(321,⟨2,1,.lst 3,false⟩),(370,⟨0,0,.lst 3,true⟩),(423,⟨0,0,.lst 3,true⟩)]
end Go.Proofs.YtoeigdpfcnaaeaaGreat
