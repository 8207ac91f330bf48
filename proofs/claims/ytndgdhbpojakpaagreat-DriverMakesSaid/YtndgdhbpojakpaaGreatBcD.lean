import Derived.Test.YtndgdhbpojakpaaGreatProg
import Derived.KernelRfl
import Derived.Test.YtndgdhbpojakpaaGreatM3
import Derived.Test.YtndgdhbpojakpaaGreatN1
set_option linter.unusedVariables false
set_option linter.unusedSimpArgs false
set_option linter.defProp false
noncomputable section
namespace Go.Proofs.YtndgdhbpojakpaaGreat
open Go.Sym
noncomputable def D0:Dcf:=mkZ Tryz.prog [76,118,175,180,181,189,191,206,207,209,210,211,213,218,219,241,243,252,253,254,255,256,259,268,271,272,274,276,277,278,279,291,292,313,316,324,325,326,348,359,368,370] [(33,[[none,none,none,none,none,none,none,none,none,none,none,none,some 1]]),(43,[[some 3]]),(66,[[none,none,none,none,none,none,none,none,none,none,some 3]]),(84,[[none,none,none,none,none,none,none,none,none,none,none,none,some 1],[]]),(93,[[some 3]]),(95,[[some 1]]),(96,[[some 3]]),(115,[[none,some 3]]),(116,[[some 1,some 1,some 1,some 5,some 1]]),(136,[[none,none,none,none,none,none,none,none,none,none,some 3],[],[]]),(147,[[some 3]]),(148,[[some 1]]),(149,[[some 5]]),(150,[[some 3]]),(153,[[some 2]]),(174,[[some 1,some 1,some 1]]),(184,[[some 1]]),(194,[[none,none,none,none,none,none,none,none,none,none,some 3]]),(258,[[none,none,none,some 5,some 1]]),(262,[[none,none,none,none,none,none,none,none,none,none,some 3]]),(263,[[none,none,none,none,none,none,none,none,none,none,some 3],[]]),(290,[[some 3]]),(315,[[some 1,some 1,none]]),(345,[[some 3]]),(357,[[some 1]])] [(208,⟨0,0,.pre 1,false⟩),(247,⟨4,0,.map false 1 false,false⟩),(285,⟨2,1,.lst 3,false⟩),(290,⟨0,0,.lst 3,true⟩),(345,⟨0,0,.lst 3,true⟩)]
end Go.Proofs.YtndgdhbpojakpaaGreat
