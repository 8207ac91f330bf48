import Derived.Test.YtoeigdpfcnaaeaaGreatM3
import Derived.Test.YtoeigdpfcnaaeaaGreatP1
set_option linter.unusedVariables false
set_option linter.unusedSimpArgs false
set_option linter.defProp false
noncomputable section
namespace Go.Proofs.YtoeigdpfcnaaeaaGreat
open Go.Sym Bnd
def I64 (n:Int):Prop:= -9223372036854775808<=n/\ n<=9223372036854775807
def R (r:Rt):PV:= .agg [.i64 r.num,.i64 r.den]
def aS (r:Rt):Prop:=I64 r.num/\ I64 r.den
def rok (r:Rt):Bool:=decide (1<=r.den)&& !decide (r.num= -9223372036854775808)&& decide (Nat.gcd r.num.natAbs r.den.natAbs=1)
def row (p:Pt):List PV:=[.i64 p.id,.i64 p.a,.i64 p.b]
abbrev sl {α:Type}(f:α->List PV)(l:List α):PV:= .sl (l.map f)
def F (l:List Pt):PV:= .agg [sl row l]
def sC (l:List Pt):Bool:=l.all Pt.ok
def iO (l:List Pt):Prop:=∀(i:Nat) (p q:Pt),l[i]?=some p->l[i+1]?=some q->p.id<q.id
def okF (l:List Pt):Prop:=l.length<=64/\ sC l=true/\ iO l
def crs (r s:Rt):Int:=r.num*s.den-s.num*r.den
def mkR (n d:Int):Rt:=⟨(if(decide (n<0) !=decide (d<0))=true then-((n.natAbs/Nat.gcd n.natAbs d.natAbs:Nat):Int) else((n.natAbs/Nat.gcd n.natAbs d.natAbs:Nat):Int)),((d.natAbs/Nat.gcd n.natAbs d.natAbs:Nat):Int)⟩
end Go.Proofs.YtoeigdpfcnaaeaaGreat
