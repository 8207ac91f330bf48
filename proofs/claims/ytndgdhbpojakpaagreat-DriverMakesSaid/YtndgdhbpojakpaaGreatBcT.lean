import Derived.Test.YtndgdhbpojakpaaGreatK1
import Derived.Test.YtndgdhbpojakpaaGreatK2
import Derived.Test.YtndgdhbpojakpaaGreatK3
set_option linter.unusedVariables false
set_option linter.unusedSimpArgs false
set_option linter.defProp false
noncomputable section
namespace Go.Proofs.YtndgdhbpojakpaaGreat
open Go.Sym
set_option maxRecDepth 100000
def tab:List (Nat×K):=H9 (tq1++(tq2++(tq3++(tq4++(tq5++(tq6++(tq7++(tq8++(tq9++(Hk++(Hr++(Hs++(Ht++(Hu++(Hv++(Hw++(Hy++(Hz++(HB++(HC++(HE++(HG++(HH++(HI))))))))))))))))))))))))
def IB:TabL D0 (tq1++(tq2++(tq3++(tq4++(tq5++(tq6++(tq7++(tq8++(tq9++(Hk++(Hr++(Hs++(Ht++(Hu++(Hv++(Hw++(Hy++(Hz++(HB++(HC++(HE++(HG++(HH++(HI)))))))))))))))))))))))):=uq1.app (uq2.app (uq3.app (uq4.app (uq5.app (uq6.app (uq7.app (uq8.app (uq9.app (ada.app (adb.app (ade.app (adf.app (adj.app (adk.app (adl.app (adm.app (adr.app (adv.app (adw.app (adB.app (adG.app (adK.app (adN)))))))))))))))))))))))
def D:Dt:={D0 with T:=Go.Sym.look tab,X:=Mp 208 126}
def cK (g:Nat)(vs:List PV)(m:Nat):Bool:=match shs D.toDcf g with
 |some (ss,n)=>jC ss vs&& Nat.beq n m
 |none=>false
def an {g:FuncId}{vs rs:List PV}{k:K}(hd:∃N,den (PhiS D) N k [] vs=some rs)(h:Go.Sym.look tab g=some k:=by rfl)(hl:rs.length=lO k:=by first|rfl|(split<;>rfl)|(split<;>split<;>rfl)|(split<;>first|rfl|(split<;>first|rfl|split<;>rfl)))(ha:cK g vs (lO k)=true:=by kernel_rfl):Ans D g vs rs:=by
 unfold cK at ha;split at ha
 .rename_i ss n e;rw[aF] at ha;have hn:=ba ha.2;exact Go.Sym.ans_of (show Kok D g k from h) e ha.1 hd (hl.trans hn.symm)
 .cases ha
def am {g:FuncId}{vs rs:List PV}{k:K}(hd:den (PhiS D) 1 k [] vs=some rs)(h:Go.Sym.look tab g=some k:=by rfl)(hl:rs.length=lO k:=by first|rfl|(split<;>rfl)|(split<;>split<;>rfl)|(split<;>first|rfl|(split<;>first|rfl|split<;>rfl)))(ha:cK g vs (lO k)=true:=by kernel_rfl):Ans D g vs rs:=an ⟨1,hd⟩ h hl ha
end Go.Proofs.YtndgdhbpojakpaaGreat
