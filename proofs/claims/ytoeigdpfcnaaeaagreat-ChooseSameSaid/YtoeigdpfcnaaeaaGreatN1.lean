import Derived.Test.YtoeigdpfcnaaeaaGreatM3
import Derived.Test.YtoeigdpfcnaaeaaGreatP1
set_option linter.unusedVariables false
set_option linter.unusedSimpArgs false
set_option linter.defProp false
noncomputable section
namespace Go.Proofs.YtoeigdpfcnaaeaaGreat
open Go.Sym Bnd
def I64 (n:Int):Prop:= -9223372036854775808<=n/\ n<=9223372036854775807
def R (r:Rt):PV:= .agg [.i64 r.num,.i64 r.den]
def aS (r:Rt):Prop:=I64 r.num/\ I64 r.den
def rok (r:Rt):Bool:=decide (1<=r.den)&& !decide (r.num= -9223372036854775808)&& decide (Nat.gcd r.num.natAbs r.den.natAbs=1)
def row (p:Pt):List PV:=[.i64 p.id,.i64 p.a,.i64 p.b]
abbrev sl {α:Type}(f:α->List PV)(l:List α):PV:= .sl (l.map f)
def F (l:List Pt):PV:= .agg [sl row l]
def tu (l:List Pt):Bool:=l.all Pt.ok
def iX (l:List Pt):Prop:=∀(i:Nat) (p q:Pt),l[i]?=some p->l[i+1]?=some q->p.id<q.id
def okF (l:List Pt):Prop:=l.length<=64/\ tu l=true/\ iX l
def crs (r s:Rt):Int:=r.num*s.den-s.num*r.den
def mkR (n d:Int):Rt:=⟨(if(decide (n<0) !=decide (d<0))=true then-((n.natAbs/Nat.gcd n.natAbs d.natAbs:Nat):Int) else((n.natAbs/Nat.gcd n.natAbs d.natAbs:Nat):Int)),((d.natAbs/Nat.gcd n.natAbs d.natAbs:Nat):Int)⟩
def abB {p q:Pt}(h:row p=row q):p=q:=by cases p;cases q;unfold row at h;simp only[qw,PV.v.injEq,Value.int.injEq,iE,eC] at h;obtain⟨rfl,rfl,rfl⟩:=h;rfl
def MI:∀{l k:List Pt},l.map row=k.map row->l=k|[],[],_=>rfl|p::l,q::k,h=>by rw[bI,bI,qw] at h;rw[abB h.1,MI h.2]|[],_::_,h=>by cases h|_::_,[],h=>by cases h
def mL (l:List Pt)(t:Rt):Prop:=okF l/\ aS t/\ rok t=true
open Classical in def C6 (vs:List PV):Option (List PV):=if h:∃x:List Pt×Rt,vs=[F x.1,R x.2]/\ mL x.1 x.2 then some [sl row (eF (Classical.choose h).2 (Classical.choose h).1),.i64 0] else none
def ahW {l k:List Pt}{t s:Rt}(h:[F l,R t]=[F k,R s]):l=k/\ t=s:=by unfold F R sl at h;simp only[qw,PV.agg.injEq,PV.sl.injEq,PV.v.injEq,Value.int.injEq,iE,eC] at h;have⟨h1,h2,h3⟩:=h;refine⟨MI h1,?_⟩;cases t;cases s;cases h2;cases h3;rfl
def abC {l:List Pt}{t:Rt}(h:mL l t):C6 [F l,R t]=some [sl row (eF t l),.i64 0]:=by have hx:∃x:List Pt×Rt,[F l,R t]=[F x.1,R x.2]/\ mL x.1 x.2:=⟨(l,t),rfl,h⟩;unfold C6;rw[dif_pos hx];have⟨h1,h2⟩:=ahW (lw hx).1;rw[<-h1,<-h2]
def Vt {vs rs:List PV}(h:C6 vs=some rs):∃l t,vs=[F l,R t]/\ mL l t/\ rs=[sl row (eF t l),.i64 0]:=by unfold C6 at h;split at h;rename_i hx;have⟨h1,h2⟩:=lw hx;cases h;exact⟨_,_,h1,h2,rfl⟩;cases h
open Go.Sym
def MJ (a b c g:FuncId)(vs:List PV):Option (List PV):=match Nat.beq g c with|true=>C6 vs|false=>AH a b 3 g vs
end Go.Proofs.YtoeigdpfcnaaeaaGreat
