import Derived.Test.YtoeigdpfcnaaeaaGreatM3
import Derived.Test.YtoeigdpfcnaaeaaGreatP1
set_option linter.unusedVariables false
set_option linter.unusedSimpArgs false
set_option linter.defProp false
noncomputable section
namespace Go.Proofs.YtoeigdpfcnaaeaaGreat
open Go.Sym Bnd
def I64 (n:Int):Prop:= -9223372036854775808<=n/\ n<=9223372036854775807
def R (r:Rt):PV:= .agg [.i64 r.num,.i64 r.den]
def aS (r:Rt):Prop:=I64 r.num/\ I64 r.den
def rok (r:Rt):Bool:=decide (1<=r.den)&& !decide (r.num= -9223372036854775808)&& decide (Nat.gcd r.num.natAbs r.den.natAbs=1)
def row (p:Pt):List PV:=[.i64 p.id,.i64 p.a,.i64 p.b]
abbrev sl {α:Type}(f:α->List PV)(l:List α):PV:= .sl (l.map f)
def F (l:List Pt):PV:= .agg [sl row l]
def An (l:List Pt):Bool:=l.all Pt.ok
def jY (l:List Pt):Prop:=∀(i:Nat) (p q:Pt),l[i]?=some p->l[i+1]?=some q->p.id<q.id
def okF (l:List Pt):Prop:=l.length<=64/\ An l=true/\ jY l
def crs (r s:Rt):Int:=r.num*s.den-s.num*r.den
def mkR (n d:Int):Rt:=⟨(if(decide (n<0) !=decide (d<0))=true then-((n.natAbs/Nat.gcd n.natAbs d.natAbs:Nat):Int) else((n.natAbs/Nat.gcd n.natAbs d.natAbs:Nat):Int)),((d.natAbs/Nat.gcd n.natAbs d.natAbs:Nat):Int)⟩
def YY {p q:Pt}(h:row p=row q):p=q:=by
 cases p;cases q;unfold row at h;simp only[qb,PV.v.injEq,Value.int.injEq,ju,ic] at h;obtain⟨rfl,rfl,rfl⟩:=h;rfl
def KW:∀{l k:List Pt},l.map row=k.map row->l=k
 |[],[],_=>rfl
 |p::l,q::k,h=>by
  rw[bY,bY,qb] at h;rw[YY h.1,KW h.2]
 |[],_::_,h=>by cases h
 |_::_,[],h=>by cases h
structure Mt where
 time:Rt
 i:Int
 j:Int
def cR (m:Mt):List PV:=[.i64 m.time.num,.i64 m.time.den,.i64 m.i,.i64 m.j]
def gQ (p q:Pt):Mt:=⟨mkR (p.a-q.a) (q.b-p.b),p.id,q.id⟩
def rawM:List Pt->List Mt
 |[]=>[]
 |p::l=>(l.filter λq=>decide (p.b≠q.b)).map (gQ p)++rawM l
def ltM (x y:Mt):Bool:=decide (crs x.time y.time<0)||decide (crs x.time y.time=0)&&(decide (x.i<y.i)||decide (x.i=y.i)&& decide (x.j<y.j))
def srtM (l:List Pt):List Mt:=(rawM l).mergeSort λx y=>!ltM y x
open Classical in
def zr (vs:List PV):Option (List PV):=if h:∃l,vs=[F l]/\ okF l then some [sl cR (srtM (Classical.choose h))] else none
def ahI {l k:List Pt}(h:[F l]=[F k]):l=k:=by
 unfold F sl at h;simp only[qb,PV.agg.injEq,PV.sl.injEq,ju] at h;exact KW h
def YZ {l:List Pt}(h:okF l):zr [F l]=some [sl cR (srtM l)]:=by
 have hx:∃k,[F l]=[F k]/\ okF k:=⟨l,rfl,h⟩;unfold zr;rw[dif_pos hx,<-ahI (kP hx).1]
def Tl {vs rs:List PV}(h:zr vs=some rs):∃l,vs=[F l]/\ okF l/\ rs=[sl cR (srtM l)]:=by
 unfold zr at h;split at h
 .rename_i hx;obtain⟨h1,h2⟩:=kP hx;cases h;exact⟨_,h1,h2,rfl⟩
 .cases h
def ahJ (a b g:FuncId)(vs:List PV):Option (List PV):=match Nat.beq g b with
 |true=>zr vs
 |false=>uz a g vs
end Go.Proofs.YtoeigdpfcnaaeaaGreat
