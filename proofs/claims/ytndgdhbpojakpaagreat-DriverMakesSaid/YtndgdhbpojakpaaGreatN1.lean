import Derived.Test.YtndgdhbpojakpaaGreatM3
import Derived.Test.YtndgdhbpojakpaaGreatP1
set_option linter.unusedVariables false
set_option linter.unusedSimpArgs false
set_option linter.defProp false
noncomputable section
namespace Go.Proofs.YtndgdhbpojakpaaGreat
open Go.Sym Bnd
def I64 (n:Int):Prop:= -9223372036854775808<=n/\ n<=9223372036854775807
def R (r:Rt):PV:= .agg [.i64 r.num,.i64 r.den]
def bi (r:Rt):Prop:=I64 r.num/\ I64 r.den
def rok (r:Rt):Bool:=decide (1<=r.den)&& !decide (r.num= -9223372036854775808)&& decide (Nat.gcd r.num.natAbs r.den.natAbs=1)
def row (p:Pt):List PV:=[.i64 p.id,.i64 p.a,.i64 p.b]
abbrev sl {α:Type}(f:α->List PV)(l:List α):PV:= .sl (l.map f)
def F (l:List Pt):PV:= .agg [sl row l]
def vt (l:List Pt):Bool:=l.all Pt.ok
def g9 (l:List Pt):Prop:=∀(i:Nat) (p q:Pt),l[i]?=some p->l[i+1]?=some q->p.id<q.id
def okF (l:List Pt):Prop:=l.length<=64/\ vt l=true/\ g9 l
def crs (r s:Rt):Int:=r.num*s.den-s.num*r.den
def mkR (n d:Int):Rt:=⟨(if(decide (n<0) !=decide (d<0))=true then-((n.natAbs/Nat.gcd n.natAbs d.natAbs:Nat):Int) else((n.natAbs/Nat.gcd n.natAbs d.natAbs:Nat):Int)),((d.natAbs/Nat.gcd n.natAbs d.natAbs:Nat):Int)⟩
def mZ (l:List Pt)(t:Rt):Prop:=okF l/\ bi t/\ rok t=true
open Classical in
def ur (vs:List PV):Option (List PV):=if h:∃x:List Pt×Rt,vs=[F x.1,R x.2]/\ mZ x.1 x.2 then some [sl row (dq (Classical.choose h).2 (Classical.choose h).1),.i64 0] else none
def Rs {p q:Pt}(h:row p=row q):p=q:=by
 cases p;cases q;unfold row at h;simp only[lU,PV.v.injEq,Value.int.injEq,gC,dT] at h;obtain⟨rfl,rfl,rfl⟩:=h;rfl
def Fa:∀{l k:List Pt},l.map row=k.map row->l=k
 |[],[],_=>rfl
 |p::l,q::k,h=>by
  rw[bO,bO,lU] at h;rw[Rs h.1,Fa h.2]
 |[],_::_,h=>by cases h
 |_::_,[],h=>by cases h
def Zg {l k:List Pt}{t s:Rt}(h:[F l,R t]=[F k,R s]):l=k/\ t=s:=by
 unfold F R sl at h;simp only[lU,PV.agg.injEq,PV.sl.injEq,PV.v.injEq,Value.int.injEq,gC,dT] at h;obtain⟨h1,h2,h3⟩:=h;refine⟨Fa h1,?_⟩;cases t;cases s;cases h2;cases h3;rfl
def Ru {l:List Pt}{t:Rt}(h:mZ l t):ur [F l,R t]=some [sl row (dq t l),.i64 0]:=by
 have hx:∃x:List Pt×Rt,[F l,R t]=[F x.1,R x.2]/\ mZ x.1 x.2:=⟨(l,t),rfl,h⟩;unfold ur;rw[dif_pos hx];obtain⟨h1,h2⟩:=Zg (it hx).1;rw[<-h1,<-h2]
def Mo {vs rs:List PV}(h:ur vs=some rs):∃l t,vs=[F l,R t]/\ mZ l t/\ rs=[sl row (dq t l),.i64 0]:=by
 unfold ur at h;split at h
 .rename_i hx;obtain⟨h1,h2⟩:=it hx;cases h;exact⟨_,_,h1,h2,rfl⟩
 .cases h
def Mp (a b g:FuncId)(vs:List PV):Option (List PV):=match Nat.beq g b with
 |true=>ur vs
 |false=>ko a g vs
end Go.Proofs.YtndgdhbpojakpaaGreat
