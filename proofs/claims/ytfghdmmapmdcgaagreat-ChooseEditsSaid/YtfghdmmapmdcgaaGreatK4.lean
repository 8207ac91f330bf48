import Derived.Test.YtfghdmmapmdcgaaGreatBcD
set_option linter.unusedVariables false
set_option linter.unusedSimpArgs false
set_option linter.defProp false
noncomputable section
namespace Go.Proofs.YtfghdmmapmdcgaaGreat
open Go.Sym Go.Sym.KP
def acy:K:=
 S 3 1<|S 3 2<|C 1 3<|l oG [x 5,y 0]<|B 6 (H [i 0,i 0]<|D [x 7,i 16])<|C 2 3<|l oG [x 7,y 9223372036854775807]<|B 8 (H [i 0,i 0]<|D [x 9,i 16])<|C 1 4<|l oG [x 9,y 0]<|B 10 (H [i 0,i 0]<|D [x 11,i 16])<|C 2 4<|l oG [x 11,y 9223372036854775807]<|B 12 (H [i 0,i 0]<|D [x 13,i 16])<|B 0 (C 2 3<|l (.conv .i64) [x 13]<|l (.un .neg) [x 14]<|C 2 4<|l (.conv .i64) [x 16]<|M [15,17]<|D [x 18,i 0])<|C 2 3<|l (.conv .i64) [x 13]<|C 2 4<|l (.conv .i64) [x 15]<|M [14,16]<|D [x 17,i 0]
def MF:List (Nat×List Hint×K):=[
(425,[n,n,n],acy)]
def ahG:TabL D0 MF:=by
 unfold MF
 (repeat refine .cons (by as_aux_lemma=>kernel_rfl) ?_)
 exact .nil
end Go.Proofs.YtfghdmmapmdcgaaGreat
