import Derived.Test.YtoeigdpfcnaaeaaGreatK1
import Derived.Test.YtoeigdpfcnaaeaaGreatK2
set_option linter.unusedVariables false
set_option linter.unusedSimpArgs false
set_option linter.defProp false
noncomputable section
namespace Go.Proofs.YtoeigdpfcnaaeaaGreat
open Go.Sym
set_option maxRecDepth 100000
def tab:List (Nat×K):=Pe (tq1++(tq2++(tq3++(tq4++(tq5++(tq6++(tq7++(tq8++(tq9++(Oo++(Ou++(Ov++(Ox++(OB++(OC++(OE++(OF++(OG++(OH++(OI++(OJ++(OL++(OM)))))))))))))))))))))))
def PB:TabL D0 (tq1++(tq2++(tq3++(tq4++(tq5++(tq6++(tq7++(tq8++(tq9++(Oo++(Ou++(Ov++(Ox++(OB++(OC++(OE++(OF++(OG++(OH++(OI++(OJ++(OL++(OM))))))))))))))))))))))):=uq1.app (uq2.app (uq3.app (uq4.app (uq5.app (uq6.app (uq7.app (uq8.app (uq9.app (ake.app (akf.app (aki.app (akj.app (akl.app (akm.app (ako.app (akr.app (aks.app (aku.app (akw.app (aky.app (akz.app (akA))))))))))))))))))))))
def D:Dt:={D0 with T:=Go.Sym.look tab,X:=ahJ 156 48,loud:=true}
def cK (g:Nat)(vs:List PV)(m:Nat):Bool:=match shs D.toDcf g with
 |some (ss,n)=>m7 ss vs&& Nat.beq n m
 |none=>false
def an {g:FuncId}{vs rs:List PV}{k:K}(hd:∃N,den (bx D) N k [] vs=some rs)(h:Go.Sym.look tab g=some k:=by rfl)(hl:rs.length=pQ k:=by first|rfl|(split<;>rfl)|(split<;>split<;>rfl)|(split<;>first|rfl|(split<;>first|rfl|split<;>rfl)))(ha:cK g vs (pQ k)=true:=by kernel_rfl):Ans D g vs rs:=by
 unfold cK at ha;split at ha
 .rename_i ss n e;rw[aJ] at ha;have hn:=bm ha.2;exact Go.Sym.ans_of (show Kok D g k from h) e ha.1 hd (hl.trans hn.symm)
 .cases ha
def am {g:FuncId}{vs rs:List PV}{k:K}(hd:den (bx D) 1 k [] vs=some rs)(h:Go.Sym.look tab g=some k:=by rfl)(hl:rs.length=pQ k:=by first|rfl|(split<;>rfl)|(split<;>split<;>rfl)|(split<;>first|rfl|(split<;>first|rfl|split<;>rfl)))(ha:cK g vs (pQ k)=true:=by kernel_rfl):Ans D g vs rs:=an ⟨1,hd⟩ h hl ha
end Go.Proofs.YtoeigdpfcnaaeaaGreat
