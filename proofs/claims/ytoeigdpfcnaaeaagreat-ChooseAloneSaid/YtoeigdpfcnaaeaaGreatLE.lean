import Derived.Test.YtoeigdpfcnaaeaaGreatY1
import Derived.Test.YtoeigdpfcnaaeaaGreatIN2
import Derived.Test.YtoeigdpfcnaaeaaGreatSO
import Derived.Test.YtoeigdpfcnaaeaaGreatM3
import Derived.Test.YtoeigdpfcnaaeaaGreatRows
import Derived.Test.YtoeigdpfcnaaeaaGreatChecked
set_option linter.unusedVariables false
set_option linter.unusedSimpArgs false
set_option linter.defProp false
noncomputable section
namespace Go.Proofs.YtoeigdpfcnaaeaaGreat
open Go.Sym Bnd
open Go.ChangeShapes Go.WideShapes Go.ChangeAt Go.RowKit
set_option maxRecDepth 100000
def clK:List Ct:=[.p (.i .i64),.p (.i .i64),.sl [.i .i64,.i .i64,.i .i64],.p (.i .i64),.sl [.i .i64,.i .i64,.i .i64],.sl [.i .i64],.sl [.b],.sl [.i .i64],.sl [.i .i64,.i .i64,.i .i64,.i .i64,.i .i64],.sl [.i .i64],.sl [.i .i64,.i .i64,.i .i64]]
def khK:List Ct:=clK++[.sl [.i .i64]]
def ktK:List Ct:=clK++[.sl [.i .i64],.sl [.i .i64]]
def htK:List Ct:=clK++[.p (.i .i64),.sl [.i .i64,.i .i64,.i .i64]]
def VM:List Ct:= .p (.i .u8)::(khK++(ktK++(htK++khK)))
def afM:List Ct:=[.p (.i .u8),.p (.i .i64),.p (.i .i64),.p (.i .i64),.p (.i .i64),.p (.i .i64),.p (.i .i64)]
def afN {x:Int}(h:(Lit.int .i64 x).wf=true):I64 x:=by have:(decide (-9223372036854775808<=x)&& decide (x<=9223372036854775807))=true:=h;simp only[aJ,aa] at this;exact this
def ahW {x:Int}(h:(Lit.int .u8 x).wf=true):0<=x/\ x<=255:=by have:(decide (0<=x)&& decide (x<=255))=true:=h;simp only[aJ,aa] at this;exact this
def df {α β:Type}{R:α->β->Prop}{a:α}{l:List α}{ys:List β}(h:F2 R (a::l) ys):∃b k,ys=b::k/\ R a b/\ F2 R l k:=by cases h with|cons h1 h2=>exact⟨_,_,rfl,h1,h2⟩
def f2_nil {α β:Type}{R:α->β->Prop}{ys:List β}(h:F2 R [] ys):ys=[]:=by cases h;rfl
def oj {α β:Type}{R:α->β->Prop}:∀{a b:List α} {ys:List β},F2 R (a++b) ys->∃x y,ys=x++y/\ F2 R a x/\ F2 R b y|[],b,ys,h=>⟨[],ys,rfl,.nil,h⟩|c::a,b,ys,h=>by obtain⟨z,k,rfl,h1,h2⟩:=df h;obtain⟨x,y,rfl,h3,h4⟩:=oj h2;exact⟨z::x,y,rfl,.cons h1 h3,h4⟩
def MJ {α:Type}{es:List Ct0}{f:α->List PV}{P:α->Prop}(h1:∀c,F2 jN es c->∃a,c=f a/\ P a):∀{els:List (List PV)},(∀c∈els,F2 jN es c)->∃l:List α,els=l.map f/\∀a∈l,P a|[],_=>⟨[],rfl,by simp⟩|c::els,h=>by obtain⟨a,rfl,ha⟩:=h1 c (h c (by simp));obtain⟨l,rfl,hl⟩:=MJ h1 (λc hc=>h c (aV _ hc));exact⟨a::l,rfl,by simpa using⟨ha,hl⟩⟩
def lE {α:Type}{es:List Ct0}{f:α->List PV}{P:α->Prop}(h1:∀c,F2 jN es c->∃a,c=f a/\ P a){p:PV}(h:CtV (.sl es) p):∃l:List α,p=sl f l/\∀a∈l,P a:=by obtain⟨els,rfl,_,h⟩:=h;obtain⟨l,rfl,hl⟩:=MJ h1 h;exact⟨l,rfl,hl⟩
def iZ {p:PV}(h:jN (.i .i64) p):∃x:Int,p= .i64 x/\ I64 x:=by obtain⟨x,rfl,h⟩:=h;exact⟨x,rfl,afN h⟩
def vZ (c:List PV)(h:F2 jN [.i .i64] c):∃a:Int,c=I1 a/\ True:=by obtain⟨p,k,rfl,h1,h⟩:=df h;cases f2_nil h;obtain⟨x,rfl,_⟩:=iZ h1;exact⟨x,rfl,trivial⟩
def ahX (c:List PV)(h:F2 jN [.b] c):∃a:Bool,c=B1 a/\ True:=by obtain⟨p,k,rfl,h1,h⟩:=df h;cases f2_nil h;obtain⟨x,rfl⟩:=h1;exact⟨x,rfl,trivial⟩
def afO {c:List PV}(h:F2 jN [.i .i64,.i .i64] c):∃a b:Int,c=[.i64 a,.i64 b]/\ I64 a/\ I64 b:=by obtain⟨p,k,rfl,h1,h⟩:=df h;obtain⟨q,k,rfl,h2,h⟩:=df h;cases f2_nil h;obtain⟨x,rfl,k1⟩:=iZ h1;obtain⟨y,rfl,k2⟩:=iZ h2;exact⟨x,y,rfl,k1,k2⟩
def zh {c:List PV}(h:F2 jN [.i .i64,.i .i64,.i .i64] c):∃a b d:Int,c=[.i64 a,.i64 b,.i64 d]:=by obtain⟨p,k,rfl,h1,h⟩:=df h;obtain⟨x,y,rfl,_⟩:=afO h;obtain⟨z,rfl,_⟩:=iZ h1;exact⟨z,x,y,rfl⟩
def afP (c:List PV)(h:F2 jN [.i .i64,.i .i64,.i .i64,.i .i64,.i .i64] c):∃a:Evt,c=bY a/\ aS a.time:=by obtain⟨p,k,rfl,h1,h⟩:=df h;obtain⟨q,k,rfl,h2,h⟩:=df h;obtain⟨x,y,z,rfl⟩:=zh h;obtain⟨a,rfl,k1⟩:=iZ h1;obtain⟨b,rfl,k2⟩:=iZ h2;exact⟨⟨⟨a,b⟩,x,⟨y,z⟩⟩,rfl,k1,k2⟩
def Pj {qs:List PV}(h:F2 CtV clK qs):∃c:Clock,fD c/\ qs=clC c:=by obtain⟨_,_,rfl,a1,h⟩:=df h;obtain⟨_,_,rfl,a2,h⟩:=df h;obtain⟨_,_,rfl,a3,h⟩:=df h;obtain⟨_,_,rfl,a4,h⟩:=df h;obtain⟨_,_,rfl,a5,h⟩:=df h;obtain⟨_,_,rfl,a6,h⟩:=df h;obtain⟨_,_,rfl,a7,h⟩:=df h;obtain⟨_,_,rfl,a8,h⟩:=df h;obtain⟨_,_,rfl,a9,h⟩:=df h;obtain⟨_,_,rfl,a10,h⟩:=df h;obtain⟨_,_,rfl,a11,h⟩:=df h;cases f2_nil h;obtain⟨n,rfl,n1⟩:=iZ a1;obtain⟨d,rfl,d1⟩:=iZ a2;obtain⟨pts,rfl,_⟩:=lE (f:=row) (P:=λ_=>True) (λc h=>by obtain⟨a,b,d,rfl⟩:=zh h;exact⟨⟨a,b,d⟩,rfl,trivial⟩) a3;obtain⟨nx,rfl,_⟩:=iZ a4;obtain⟨cl,rfl,_⟩:=lE (f:=hrow) (P:=λ_=>True) (λc h=>by obtain⟨a,b,d,rfl⟩:=zh h;exact⟨⟨a,⟨b,d⟩⟩,rfl,trivial⟩) a5;obtain⟨us,rfl,_⟩:=lE vZ a6;obtain⟨ud,rfl,_⟩:=lE ahX a7;obtain⟨fr,rfl,_⟩:=lE vZ a8;obtain⟨hp,rfl,hh⟩:=lE afP a9;obtain⟨wh,rfl,_⟩:=lE vZ a10;obtain⟨du,rfl,_⟩:=lE (f:=cU) (P:=λ_=>True) (λc h=>by obtain⟨a,b,d,rfl⟩:=zh h;exact⟨⟨a,⟨b,d⟩⟩,rfl,trivial⟩) a11;exact⟨⟨⟨n,d⟩,pts,⟨nx,cl⟩,⟨⟨us,ud,fr⟩,hp,wh⟩,du⟩,⟨⟨n1,d1⟩,hh⟩,rfl⟩
def Yu {qs:List PV}(h:F2 CtV khK qs):∃k:KHeap,fD k.c/\ qs=khC k:=by obtain⟨x,y,rfl,h1,hb⟩:=oj h;obtain⟨c,c1,rfl⟩:=Pj h1;obtain⟨_,_,rfl,a1,hc⟩:=df hb;cases f2_nil hc;obtain⟨l,rfl,_⟩:=lE vZ a1;exact⟨⟨c,l⟩,c1,rfl⟩
def ahY {qs:List PV}(h:F2 CtV ktK qs):∃k:KTourn,fD k.c/\ qs=ktC k:=by obtain⟨x,y,rfl,h1,hb⟩:=oj h;obtain⟨c,c1,rfl⟩:=Pj h1;obtain⟨_,_,rfl,a1,hc⟩:=df hb;obtain⟨_,_,rfl,a2,hd⟩:=df hc;cases f2_nil hd;obtain⟨l,rfl,_⟩:=lE vZ a1;obtain⟨m,rfl,_⟩:=lE vZ a2;exact⟨⟨c,⟨l,m⟩⟩,c1,rfl⟩
def ahZ {qs:List PV}(h:F2 CtV htK qs):∃k:Heater,fD k.c/\ qs=htC k:=by obtain⟨x,y,rfl,h1,hb⟩:=oj h;obtain⟨c,c1,rfl⟩:=Pj h1;obtain⟨_,_,rfl,a1,hc⟩:=df hb;obtain⟨_,_,rfl,a2,hd⟩:=df hc;cases f2_nil hd;obtain⟨l,rfl,_⟩:=iZ a1;obtain⟨m,rfl,_⟩:=lE (f:=dD) (P:=λ_=>True) (λc h=>by obtain⟨a,b,d,rfl⟩:=zh h;exact⟨⟨a,b,d⟩,rfl,trivial⟩) a2;exact⟨⟨c,⟨l,m⟩⟩,c1,rfl⟩
def afQ {qs:List PV}(h:F2 CtV VM qs):∃c:Choice,Cho64 c/\ qs=bh c:=by obtain⟨_,_,rfl,a1,h1⟩:=df h;obtain⟨_,_,rfl,b1,h2⟩:=oj h1;obtain⟨_,_,rfl,b2,h3⟩:=oj h2;obtain⟨_,_,rfl,b3,b4⟩:=oj h3;obtain⟨t,rfl,t1⟩:=a1;obtain⟨k1,u1,rfl⟩:=Yu b1;obtain⟨k2,u2,rfl⟩:=ahY b2;obtain⟨k3,u3,rfl⟩:=ahZ b3;obtain⟨k4,u4,rfl⟩:=Yu b4;exact⟨⟨t,k1,k2,k3,k4⟩,⟨ahW t1,u1,u2,u3,u4⟩,rfl⟩
def Zs {v:PV}(h:Lv (true,VM) v):∃c:Choice,Cho64 c/\ v=CHO c:=by obtain⟨qs,rfl,h⟩:=h;obtain⟨c,c1,rfl⟩:=afQ h;exact⟨c,c1,rfl⟩
def afR {v:PV}(h:Lv (true,afM) v):∃a:Ask,aS a.t/\ v=AP a:=by obtain⟨qs,rfl,h⟩:=h;obtain⟨_,_,rfl,a0,h⟩:=df h;obtain⟨_,_,rfl,a1,h⟩:=df h;obtain⟨_,_,rfl,a2,h⟩:=df h;obtain⟨_,_,rfl,a3,h⟩:=df h;obtain⟨_,_,rfl,a4,h⟩:=df h;obtain⟨_,_,rfl,a5,h⟩:=df h;obtain⟨_,_,rfl,a6,h⟩:=df h;cases f2_nil h;obtain⟨k,rfl,_⟩:=a0;obtain⟨x1,rfl,_⟩:=iZ a1;obtain⟨x2,rfl,_⟩:=iZ a2;obtain⟨x3,rfl,_⟩:=iZ a3;obtain⟨x4,rfl,_⟩:=iZ a4;obtain⟨x5,rfl,i5⟩:=iZ a5;obtain⟨x6,rfl,i6⟩:=iZ a6;exact⟨⟨k,⟨x1,x2,x3⟩,x4,⟨x5,x6⟩⟩,⟨i5,i6⟩,rfl⟩
def alq:DtOk D where
 T:=λg k h=>by
  obtain⟨f,hs,e⟩:=aaz.ok g k h;exact⟨f,hs,(congrFun (congrFun (congrFun (T6 _ _ _ _ true false) f) g) hs).trans e⟩
 X:=λg vs rs _ h=>by
  cases e:Nat.beq g 268 with
  |true=>
   have h:zN 156 268 3 g vs=some rs:=h;unfold zN at h;rw[e] at h;have hg:=bz e;subst hg;exact aaa (fn:=Tryz.f268) (by omega) Tryz.func268 (by simp[Tryz.f268]) (by decide) rfl (by kernel_rfl) (by kernel_rfl) (by kernel_rfl) ak6 ak7 h
  |false=>
   have h:xU 156 g vs=some rs:=by
    have h:zN 156 268 3 g vs=some rs:=h;unfold zN at h;rwa [e] at h
   have hg:Nat.beq g 156=true:=by
    cases e:Nat.beq g 156 with
    |true=>rfl
    |false=>
     unfold xU at h;rw[e] at h;cases h
   have hg:=bz hg;subst hg;exact WK (fn:=Tryz.f156) Tryz.func156 (by simp[Tryz.f156]) (by decide) rfl (by kernel_rfl) YU YT h
 fol:=by kernel_rfl
def o0:Value:= .int .i64 0
def s0:Value:= .slice none 0 0
def ah0:Tryz.prog.underlying 4=some .bool:=by kernel_rfl
def alr:ownKnob Tryz.prog.godebug=none:=by kernel_rfl
def VN:laidOutB Tryz.prog=true:=by kernel_rfl
def afS {a b:Bool}(h:a=true)(k:b=true):(a&& b)=true:=by rw[h,k];rfl
end Go.Proofs.YtoeigdpfcnaaeaaGreat
