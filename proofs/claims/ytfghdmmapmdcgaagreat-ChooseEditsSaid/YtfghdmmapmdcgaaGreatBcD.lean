import Derived.Test.YtfghdmmapmdcgaaGreatProg
import Derived.KernelRfl
import Derived.Test.YtfghdmmapmdcgaaGreatM3
set_option linter.unusedVariables false
set_option linter.unusedSimpArgs false
set_option linter.defProp false
noncomputable section
namespace Go.Proofs.YtfghdmmapmdcgaaGreat
open Go.Sym
noncomputable def D0:Dcf:=mkZ Tryz.prog [139,158,159,161,162,164,166,182,186,187,188,189,195,196,197,203,204,219,236,237,251,252,253,256,257,273,274,275,318,319,330,331,332,351,352,353,362,363,366,377,379,380,381,383,385,399,400,401,404,405,407,408,410,411] [(67,[[some 3]]),(112,[[none,none,none,none,none,none,none,none,none,none,some 3]]),(120,[[some 1]]),(170,[[some 2]]),(184,[[some 1]]),(200,[[some 1]]),(207,[[some 3]]),(208,[[none,some 3]]),(209,[[some 1,some 1,some 1,some 5,some 1]]),(215,[[none,none,none,none,none,none,none,none,none,none,some 3]]),(272,[[some 3]]),(282,[[some 3]]),(284,[[some 1]]),(286,[[some 1,some 1,some 1]]),(291,[[some 3]]),(292,[[some 3]]),(293,[[some 5]]),(294,[[some 1]]),(298,[[some 3]]),(308,[[none,none,none,none,none,none,none,none,none,none,some 3]]),(310,[[none,none,none,none,none,none,none,none,none,none,some 3],[]]),(311,[[none,none,none,none,none,none,none,none,none,none,some 3],[],[]]),(358,[[some 1]]),(361,[[some 3]]),(378,[[none,none,none,some 5,some 1]]),(413,[[some 1,some 1,none]]),(422,[[some 1]])] [(160,⟨0,0,.pre 1,false⟩),(221,⟨4,0,.map false 1 false,false⟩),(272,⟨0,0,.lst 3,true⟩),(282,⟨0,0,.lst 3,true⟩),(298,⟨0,0,.lst 3,true⟩),(350,⟨2,1,.lst 3,false⟩),(361,⟨0,0,.lst 3,true⟩)]
end Go.Proofs.YtfghdmmapmdcgaaGreat
