import Derived.Test.YtfghdmmapmdcgaaGreatK1
import Derived.Test.YtfghdmmapmdcgaaGreatK2
import Derived.Test.YtfghdmmapmdcgaaGreatK3
import Derived.Test.YtfghdmmapmdcgaaGreatK4
set_option linter.unusedVariables false
set_option linter.unusedSimpArgs false
set_option linter.defProp false
noncomputable section
namespace Go.Proofs.YtfghdmmapmdcgaaGreat
open Go.Sym
set_option maxRecDepth 100000
def tab:List (Nat×K):=M8 (tq1++(tq2++(tq3++(tq4++(tq5++(tq6++(tq7++(tq8++(tq9++(Mk++(Ml++(Mn++(Mp++(Mq++(Ms++(Mv++(Mw++(My++(Mz++(MA++(MB++(MC++(ME++(MF))))))))))))))))))))))))
def Xg:TabL D0 (tq1++(tq2++(tq3++(tq4++(tq5++(tq6++(tq7++(tq8++(tq9++(Mk++(Ml++(Mn++(Mp++(Mq++(Ms++(Mv++(Mw++(My++(Mz++(MA++(MB++(MC++(ME++(MF)))))))))))))))))))))))):=uq1.app (uq2.app (uq3.app (uq4.app (uq5.app (uq6.app (uq7.app (uq8.app (uq9.app (ahr.app (ahs.app (aht.app (ahu.app (ahv.app (ahw.app (ahx.app (ahy.app (ahA.app (ahB.app (ahC.app (ahD.app (ahE.app (ahF.app (ahG)))))))))))))))))))))))
def D:Dt:={D0 with T:=Go.Sym.look tab,X:=JC 160 272 3}
def cK (g:Nat)(vs:List PV)(m:Nat):Bool:=match shs D.toDcf g with
 |some (ss,n)=>lL ss vs&& Nat.beq n m
 |none=>false
def an {g:FuncId}{vs rs:List PV}{k:K}(hd:∃N,den (aY D) N k [] vs=some rs)(h:Go.Sym.look tab g=some k:=by rfl)(hl:rs.length=oB k:=by first|rfl|(split<;>rfl)|(split<;>split<;>rfl)|(split<;>first|rfl|(split<;>first|rfl|split<;>rfl)))(ha:cK g vs (oB k)=true:=by kernel_rfl):Ans D g vs rs:=by
 unfold cK at ha;split at ha
 .rename_i ss n e;rw[aM] at ha;have hn:=bo ha.2;exact Go.Sym.ans_of (show Kok D g k from h) e ha.1 hd (hl.trans hn.symm)
 .cases ha
def am {g:FuncId}{vs rs:List PV}{k:K}(hd:den (aY D) 1 k [] vs=some rs)(h:Go.Sym.look tab g=some k:=by rfl)(hl:rs.length=oB k:=by first|rfl|(split<;>rfl)|(split<;>split<;>rfl)|(split<;>first|rfl|(split<;>first|rfl|split<;>rfl)))(ha:cK g vs (oB k)=true:=by kernel_rfl):Ans D g vs rs:=an ⟨1,hd⟩ h hl ha
end Go.Proofs.YtfghdmmapmdcgaaGreat
