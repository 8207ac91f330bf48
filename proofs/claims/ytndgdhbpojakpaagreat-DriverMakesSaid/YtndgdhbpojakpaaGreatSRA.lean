import Derived.Test.YtndgdhbpojakpaaGreatT1
import Derived.Test.YtndgdhbpojakpaaGreatM3
import Derived.Test.YtndgdhbpojakpaaGreatC1
set_option linter.unusedVariables false
set_option linter.unusedSimpArgs false
set_option linter.defProp false
noncomputable section
namespace Go.Proofs.YtndgdhbpojakpaaGreat
open Go.Sym Bnd
set_option maxRecDepth 100000
def S0 (g:Nat):Bool:=!Ov [126,75,36,40,14,16,18,20,3,4,7,9] g
def Zk:(tab.all λe=>!S0 e.1||d8 S0 e.2)=true:=by kernel_rfl
def ec {α:Type}:∀{l:List (Nat×α)} {g:Nat} {a:α},Go.Sym.look l g=some a->(g,a)∈l
 |[],_,_,h=>by cases h
 |(x,b)::l,g,a,h=>by
  rw[dx] at h;split at h
  .rename_i e;subst e;cases h;exact List.mem_cons_self ..
  .exact cA _ (ec h)
def Zl (g:Nat)(k:K)(hg:S0 g=true)(h:D.T g=some k):d8 S0 k=true:=by
 have:=aQ.1 Zk _ (ec h);simpa [hg] using this
end Go.Proofs.YtndgdhbpojakpaaGreat
