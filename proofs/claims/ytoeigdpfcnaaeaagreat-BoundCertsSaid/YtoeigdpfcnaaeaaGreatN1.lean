import Derived.Test.YtoeigdpfcnaaeaaGreatM3
import Derived.Test.YtoeigdpfcnaaeaaGreatP1
set_option linter.unusedVariables false
set_option linter.unusedSimpArgs false
set_option linter.defProp false
noncomputable section
namespace Go.Proofs.YtoeigdpfcnaaeaaGreat
open Go.Sym Bnd
def I64 (n:Int):Prop:= -9223372036854775808<=n/\ n<=9223372036854775807
def R (r:Rt):PV:= .agg [.i64 r.num,.i64 r.den]
def aR (r:Rt):Prop:=I64 r.num/\ I64 r.den
def rok (r:Rt):Bool:=decide (1<=r.den)&& !decide (r.num= -9223372036854775808)&& decide (Nat.gcd r.num.natAbs r.den.natAbs=1)
def row (p:Pt):Γ:=[.i64 p.id,.i64 p.a,.i64 p.b]
abbrev sl {α:Type}(f:α->Γ)(l:List α):PV:= .sl (l.map f)
def F (l:Δ):PV:= .agg [sl row l]
def tZ (l:Δ):Bool:=l.all Pt.ok
def jh (l:Δ):Prop:=∀(i:Nat) (p q:Pt),l[i]?=some p->l[i+1]?=some q->p.id<q.id
def okF (l:Δ):Prop:=l.length<=64/\ tZ l=true/\ jh l
def crs (r s:Rt):Int:=r.num*s.den-s.num*r.den
def mkR (n d:Int):Rt:=⟨(if(decide (n<0) !=decide (d<0))=true then-((n.natAbs/Nat.gcd n.natAbs d.natAbs:Nat):Int) else((n.natAbs/Nat.gcd n.natAbs d.natAbs:Nat):Int)),((d.natAbs/Nat.gcd n.natAbs d.natAbs:Nat):Int)⟩
def acG {p q:Pt}(h:row p=row q):p=q:=by cases p;cases q;unfold row at h;simp only[qY,PV.v.injEq,Value.int.injEq,iL,iN] at h;obtain⟨rfl,rfl,rfl⟩:=h;rfl
def Nr:∀{l k:Δ},l.map row=k.map row->l=k|[],[],_=>rfl|p::l,q::k,h=>by rw[bK,bK,qY] at h;rw[acG h.1,Nr h.2]|[],_::_,h=>by cases h|_::_,[],h=>by cases h
structure Mt where
 time:Rt
 i:Int
 j:Int
def mU (m:Mt):Γ:=[.i64 m.time.num,.i64 m.time.den,.i64 m.i,.i64 m.j]
def uX (p q:Pt):Mt:=⟨mkR (p.a-q.a) (q.b-p.b),p.id,q.id⟩
def rawM:Δ->List Mt|[]=>[]|p::l=>(l.filter λq=>decide (p.b≠q.b)).map (uX p)++rawM l
def ltM (x y:Mt):Bool:=decide (crs x.time y.time<0)||decide (crs x.time y.time=0)&&(decide (x.i<y.i)||decide (x.i=y.i)&& decide (x.j<y.j))
def srtM (l:Δ):List Mt:=(rawM l).mergeSort λx y=>!ltM y x
open Classical in def DE (vs:List PV):Option (List PV):=if h:∃l,vs=[F l]/\ okF l then some [sl mU (srtM (Classical.choose h))] else none
def alm {l k:Δ}(h:[F l]=[F k]):l=k:=by unfold F sl at h;simp only[qY,PV.agg.injEq,PV.sl.injEq,iL] at h;exact Nr h
def acH {l:Δ}(h:okF l):DE [F l]=some [sl mU (srtM l)]:=by have hx:∃k,[F l]=[F k]/\ okF k:=⟨l,rfl,h⟩;unfold DE;rw[dif_pos hx,<-alm (lN hx).1]
def Wg {vs rs:Γ}(h:DE vs=some rs):∃l,vs=[F l]/\ okF l/\ rs=[sl mU (srtM l)]:=by unfold DE at h;split at h;rename_i hx;have⟨h1,h2⟩:=lN hx;cases h;exact⟨_,h1,h2,rfl⟩;cases h
open Go.Sym
def Ns (a b c g:FuncId)(vs:Γ):Option Γ:=match Nat.beq g c with|true=>DE vs|false=>Be a b 3 g vs
end Go.Proofs.YtoeigdpfcnaaeaaGreat
