import Derived.Test.YtoeigdpfcnaaeaaGreatK1
import Derived.Test.YtoeigdpfcnaaeaaGreatK2
set_option linter.unusedVariables false
set_option linter.unusedSimpArgs false
set_option linter.defProp false
noncomputable section
namespace Go.Proofs.YtoeigdpfcnaaeaaGreat
open Go.Sym
set_option maxRecDepth 100000
def tab:List (Nat×K):=RN (tq1++(tq2++(tq3++(tq4++(tq5++(tq6++(tq7++(tq8++(tq9++(QW++(QY++(QZ++(Q0++(Q2++(Q5++(Q7++(Q8++(Q9++(Ra++(Rb++(Rc++(Rf++(Rg)))))))))))))))))))))))
def Sk:TabL D0 (tq1++(tq2++(tq3++(tq4++(tq5++(tq6++(tq7++(tq8++(tq9++(QW++(QY++(QZ++(Q0++(Q2++(Q5++(Q7++(Q8++(Q9++(Ra++(Rb++(Rc++(Rf++(Rg))))))))))))))))))))))):=uq1.app (uq2.app (uq3.app (uq4.app (uq5.app (uq6.app (uq7.app (uq8.app (uq9.app (an7.app (an8.app (an9.app (aoa.app (aob.app (aoc.app (aod.app (aof.app (aog.app (aoh.app (aoi.app (aoj.app (aok.app (aol))))))))))))))))))))))
def D:Dt:={D0 with T:=Go.Sym.look tab,X:=Ns 156 268 48,loud:=true}
def cK (g:Nat)(vs:List PV)(m:Nat):Bool:=match shs D.toDcf g with
 |some (ss,n)=>nR ss vs&& Nat.beq n m
 |none=>false
def an {g:FuncId}{vs rs:List PV}{k:K}(hd:∃N,den (bo D) N k [] vs=some rs)(h:Go.Sym.look tab g=some k:=by rfl)(hl:rs.length=qM k:=by first|rfl|(split<;>rfl)|(split<;>split<;>rfl)|(split<;>first|rfl|(split<;>first|rfl|split<;>rfl)))(ha:cK g vs (qM k)=true:=by kernel_rfl):Ans D g vs rs:=by
 unfold cK at ha;split at ha
 .rename_i ss n e;rw[aJ] at ha;have hn:=bB ha.2;exact Go.Sym.ans_of (show Kok D g k from h) e ha.1 hd (hl.trans hn.symm)
 .cases ha
def am {g:FuncId}{vs rs:List PV}{k:K}(hd:den (bo D) 1 k [] vs=some rs)(h:Go.Sym.look tab g=some k:=by rfl)(hl:rs.length=qM k:=by first|rfl|(split<;>rfl)|(split<;>split<;>rfl)|(split<;>first|rfl|(split<;>first|rfl|split<;>rfl)))(ha:cK g vs (qM k)=true:=by kernel_rfl):Ans D g vs rs:=an ⟨1,hd⟩ h hl ha
end Go.Proofs.YtoeigdpfcnaaeaaGreat
