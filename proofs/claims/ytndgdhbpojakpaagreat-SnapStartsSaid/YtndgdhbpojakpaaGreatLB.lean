import Derived.Test.YtndgdhbpojakpaaGreatT1
import Derived.Test.YtndgdhbpojakpaaGreatSRH
import Derived.Test.YtndgdhbpojakpaaGreatM3
import Derived.Test.YtndgdhbpojakpaaGreatRows
import Derived.Test.YtndgdhbpojakpaaGreatChecked
set_option linter.unusedVariables false
set_option linter.unusedSimpArgs false
set_option linter.defProp false
noncomputable section
namespace Go.Proofs.YtndgdhbpojakpaaGreat
open Go.Sym Bnd
open Go.ChangeShapes Go.WideShapes Go.ChangeAt Go.RowKit
set_option maxRecDepth 100000
def clK:List Ct:=[.p (.i .i64),.p (.i .i64),.sl [.i .i64,.i .i64,.i .i64],.p (.i .i64),.sl [.i .i64,.i .i64,.i .i64],.sl [.i .i64],.sl [.b],.sl [.i .i64],.sl [.i .i64,.i .i64,.i .i64,.i .i64,.i .i64],.sl [.i .i64],.sl [.i .i64,.i .i64,.i .i64]]
def khK:List Ct:=clK++[.sl [.i .i64]]
def ktK:List Ct:=clK++[.sl [.i .i64],.sl [.i .i64]]
def htK:List Ct:=clK++[.p (.i .i64),.sl [.i .i64,.i .i64,.i .i64]]
def Yh:List Ct:= .p (.i .u8)::(khK++(ktK++(htK++khK)))
def liK:List Ct:=clK++[.sl [.i .i64],.sl [.i .i64]]
def dvK:List Ct:=Yh++liK
def moK:List Ct:=[.p (.i .i64),.p (.i .i64),.sl [.i .i64,.i .i64,.i .i64]]
def snK:List Ct:= .p (.i .u8)::moK
def Yi {x:Int}(h:(Lit.int .i64 x).wf=true):I64 x:=by
 have:(decide (-9223372036854775808<=x)&& decide (x<=9223372036854775807))=true:=h;simp only[aF,aa] at this;exact this
def ZJ {x:Int}(h:(Lit.int .u8 x).wf=true):0<=x/\ x<=255:=by
 have:(decide (0<=x)&& decide (x<=255))=true:=h;simp only[aF,aa] at this;exact this
def cF {α β:Type}{R:α->β->Prop}{a:α}{l:List α}{ys:List β}(h:F2 R (a::l) ys):∃b k,ys=b::k/\ R a b/\ F2 R l k:=by
 cases h with|cons h1 h2=>exact⟨_,_,rfl,h1,h2⟩
def f2_nil {α β:Type}{R:α->β->Prop}{ys:List β}(h:F2 R [] ys):ys=[]:=by cases h;rfl
def iv {α β:Type}{R:α->β->Prop}:∀{a b:List α} {ys:List β},F2 R (a++b) ys->∃x y,ys=x++y/\ F2 R a x/\ F2 R b y
 |[],b,ys,h=>⟨[],ys,rfl,.nil,h⟩
 |c::a,b,ys,h=>by
  obtain⟨z,k,rfl,h1,h2⟩:=cF h;obtain⟨x,y,rfl,h3,h4⟩:=iv h2;exact⟨z::x,y,rfl,.cons h1 h3,h4⟩
def FH {α:Type}{es:List Ct0}{f:α->List PV}{P:α->Prop}(h1:∀c,F2 gI es c->∃a,c=f a/\ P a):∀{els:List (List PV)},(∀c∈els,F2 gI es c)->∃l:List α,els=l.map f/\∀a∈l,P a
 |[],_=>⟨[],rfl,by simp⟩
 |c::els,h=>by
  obtain⟨a,rfl,ha⟩:=h1 c (h c (by simp));obtain⟨l,rfl,hl⟩:=FH h1 (λc hc=>h c (cz _ hc));exact⟨a::l,rfl,by simpa using⟨ha,hl⟩⟩
def gq {α:Type}{es:List Ct0}{f:α->List PV}{P:α->Prop}(h1:∀c,F2 gI es c->∃a,c=f a/\ P a){p:PV}(h:CtV (.sl es) p):∃l:List α,p=sl f l/\∀a∈l,P a:=by
 obtain⟨els,rfl,_,h⟩:=h;obtain⟨l,rfl,hl⟩:=FH h1 h;exact⟨l,rfl,hl⟩
def iI {p:PV}(h:gI (.i .i64) p):∃x:Int,p= .i64 x/\ I64 x:=by
 obtain⟨x,rfl,h⟩:=h;exact⟨x,rfl,Yi h⟩
def mZ (c:List PV)(h:F2 gI [.i .i64] c):∃a:Int,c=I1 a/\ True:=by
 obtain⟨p,k,rfl,h1,h⟩:=cF h;cases f2_nil h;obtain⟨x,rfl,_⟩:=iI h1;exact⟨x,rfl,trivial⟩
def ZK (c:List PV)(h:F2 gI [.b] c):∃a:Bool,c=B1 a/\ True:=by
 obtain⟨p,k,rfl,h1,h⟩:=cF h;cases f2_nil h;obtain⟨x,rfl⟩:=h1;exact⟨x,rfl,trivial⟩
def Yj {c:List PV}(h:F2 gI [.i .i64,.i .i64] c):∃a b:Int,c=[.i64 a,.i64 b]/\ I64 a/\ I64 b:=by
 obtain⟨p,k,rfl,h1,h⟩:=cF h;obtain⟨q,k,rfl,h2,h⟩:=cF h;cases f2_nil h;obtain⟨x,rfl,k1⟩:=iI h1;obtain⟨y,rfl,k2⟩:=iI h2;exact⟨x,y,rfl,k1,k2⟩
def qI {c:List PV}(h:F2 gI [.i .i64,.i .i64,.i .i64] c):∃a b d:Int,c=[.i64 a,.i64 b,.i64 d]:=by
 obtain⟨p,k,rfl,h1,h⟩:=cF h;obtain⟨x,y,rfl,_⟩:=Yj h;obtain⟨z,rfl,_⟩:=iI h1;exact⟨z,x,y,rfl⟩
def Yk (c:List PV)(h:F2 gI [.i .i64,.i .i64,.i .i64,.i .i64,.i .i64] c):∃a:Evt,c=cx a/\ bg a.time:=by
 obtain⟨p,k,rfl,h1,h⟩:=cF h;obtain⟨q,k,rfl,h2,h⟩:=cF h;obtain⟨x,y,z,rfl⟩:=qI h;obtain⟨a,rfl,k1⟩:=iI h1;obtain⟨b,rfl,k2⟩:=iI h2;exact⟨⟨⟨a,b⟩,x,⟨y,z⟩⟩,rfl,k1,k2⟩
def Ah {qs:List PV}(h:F2 CtV clK qs):∃c:Clock,fu c/\ qs=clC c:=by
 obtain⟨_,_,rfl,a1,h⟩:=cF h;obtain⟨_,_,rfl,a2,h⟩:=cF h;obtain⟨_,_,rfl,a3,h⟩:=cF h;obtain⟨_,_,rfl,a4,h⟩:=cF h;obtain⟨_,_,rfl,a5,h⟩:=cF h;obtain⟨_,_,rfl,a6,h⟩:=cF h;obtain⟨_,_,rfl,a7,h⟩:=cF h;obtain⟨_,_,rfl,a8,h⟩:=cF h;obtain⟨_,_,rfl,a9,h⟩:=cF h;obtain⟨_,_,rfl,a10,h⟩:=cF h;obtain⟨_,_,rfl,a11,h⟩:=cF h;cases f2_nil h;obtain⟨n,rfl,n1⟩:=iI a1;obtain⟨d,rfl,d1⟩:=iI a2;obtain⟨pts,rfl,_⟩:=gq (f:=row) (P:=λ_=>True) (λc h=>by obtain⟨a,b,d,rfl⟩:=qI h;exact⟨⟨a,b,d⟩,rfl,trivial⟩) a3;obtain⟨nx,rfl,_⟩:=iI a4;obtain⟨cl,rfl,_⟩:=gq (f:=hrow) (P:=λ_=>True) (λc h=>by obtain⟨a,b,d,rfl⟩:=qI h;exact⟨⟨a,⟨b,d⟩⟩,rfl,trivial⟩) a5;obtain⟨us,rfl,_⟩:=gq mZ a6;obtain⟨ud,rfl,_⟩:=gq ZK a7;obtain⟨fr,rfl,_⟩:=gq mZ a8;obtain⟨hp,rfl,hh⟩:=gq Yk a9;obtain⟨wh,rfl,_⟩:=gq mZ a10;obtain⟨du,rfl,_⟩:=gq (f:=cT) (P:=λ_=>True) (λc h=>by obtain⟨a,b,d,rfl⟩:=qI h;exact⟨⟨a,⟨b,d⟩⟩,rfl,trivial⟩) a11;exact⟨⟨⟨n,d⟩,pts,⟨nx,cl⟩,⟨⟨us,ud,fr⟩,hp,wh⟩,du⟩,⟨⟨n1,d1⟩,hh⟩,rfl⟩
def Pl {qs:List PV}(h:F2 CtV khK qs):∃k:KHeap,fu k.clock/\ qs=khC k:=by
 obtain⟨x,y,rfl,h1,hb⟩:=iv h;obtain⟨c,c1,rfl⟩:=Ah h1;obtain⟨_,_,rfl,a1,hc⟩:=cF hb;cases f2_nil hc;obtain⟨l,rfl,_⟩:=gq mZ a1;exact⟨⟨c,l⟩,c1,rfl⟩
def ZL {qs:List PV}(h:F2 CtV ktK qs):∃k:KTourn,fu k.clock/\ qs=ktC k:=by
 obtain⟨x,y,rfl,h1,hb⟩:=iv h;obtain⟨c,c1,rfl⟩:=Ah h1;obtain⟨_,_,rfl,a1,hc⟩:=cF hb;obtain⟨_,_,rfl,a2,hd⟩:=cF hc;cases f2_nil hd;obtain⟨l,rfl,_⟩:=gq mZ a1;obtain⟨m,rfl,_⟩:=gq mZ a2;exact⟨⟨c,⟨l,m⟩⟩,c1,rfl⟩
def ZM {qs:List PV}(h:F2 CtV htK qs):∃k:Heater,fu k.clock/\ qs=htC k:=by
 obtain⟨x,y,rfl,h1,hb⟩:=iv h;obtain⟨c,c1,rfl⟩:=Ah h1;obtain⟨_,_,rfl,a1,hc⟩:=cF hb;obtain⟨_,_,rfl,a2,hd⟩:=cF hc;cases f2_nil hd;obtain⟨l,rfl,_⟩:=iI a1;obtain⟨m,rfl,_⟩:=gq (f:=c8) (P:=λ_=>True) (λc h=>by obtain⟨a,b,d,rfl⟩:=qI h;exact⟨⟨a,b,d⟩,rfl,trivial⟩) a2;exact⟨⟨c,⟨l,m⟩⟩,c1,rfl⟩
def Yl {qs:List PV}(h:F2 CtV Yh qs):∃c:Choice,Cho64 c/\ qs=Mo c:=by
 obtain⟨_,_,rfl,a1,h1⟩:=cF h;obtain⟨_,_,rfl,b1,h2⟩:=iv h1;obtain⟨_,_,rfl,b2,h3⟩:=iv h2;obtain⟨_,_,rfl,b3,b4⟩:=iv h3;obtain⟨t,rfl,t1⟩:=a1;obtain⟨k1,u1,rfl⟩:=Pl b1;obtain⟨k2,u2,rfl⟩:=ZL b2;obtain⟨k3,u3,rfl⟩:=ZM b3;obtain⟨k4,u4,rfl⟩:=Pl b4;exact⟨⟨t,k1,k2,k3,k4⟩,⟨ZJ t1,u1,u2,u3,u4⟩,rfl⟩
def ZN {qs:List PV}(h:F2 CtV liK qs):∃k:LS,fu k.clock/\ qs=liC k:=by
 obtain⟨x,y,rfl,h1,hb⟩:=iv h;obtain⟨c,c1,rfl⟩:=Ah h1;obtain⟨_,_,rfl,a1,hc⟩:=cF hb;obtain⟨_,_,rfl,a2,hd⟩:=cF hc;cases f2_nil hd;obtain⟨l,rfl,_⟩:=gq mZ a1;obtain⟨m,rfl,_⟩:=gq mZ a2;exact⟨⟨c,l,m⟩,c1,rfl⟩
def ZO {v:PV}(h:EQ (true,dvK) v):∃d:Drv,D64 d/\ v=DV d:=by
 obtain⟨qs,rfl,h⟩:=h;obtain⟨x,y,rfl,h1,h2⟩:=iv h;obtain⟨c,c1,rfl⟩:=Yl h1;obtain⟨k,k1,rfl⟩:=ZN h2;exact⟨⟨c,k⟩,⟨c1,k1⟩,rfl⟩
def ZP {qs:List PV}(h:F2 CtV moK qs):∃m:Mod,bg m.now/\ qs=moC m:=by
 obtain⟨_,_,rfl,a1,h1⟩:=cF h;obtain⟨_,_,rfl,a2,h2⟩:=cF h1;obtain⟨_,_,rfl,a3,h3⟩:=cF h2;cases f2_nil h3;obtain⟨n,rfl,n1⟩:=iI a1;obtain⟨d,rfl,d1⟩:=iI a2;obtain⟨pts,rfl,_⟩:=gq (f:=row) (P:=λ_=>True) (λc h=>by obtain⟨a,b,d,rfl⟩:=qI h;exact⟨⟨a,b,d⟩,rfl,trivial⟩) a3;exact⟨⟨⟨n,d⟩,pts⟩,⟨n1,d1⟩,rfl⟩
def ZQ {v:PV}(h:EQ (true,snK) v):∃(g:Int) (m:Mod),bg m.now/\ v=SN g m:=by
 obtain⟨qs,rfl,h⟩:=h;obtain⟨_,_,rfl,a1,h1⟩:=cF h;obtain⟨t,rfl,t1⟩:=a1;obtain⟨m,m1,rfl⟩:=ZP h1;exact⟨t,m,m1,rfl⟩
def adj:DtOk D where
 T:=λg k h=>Ih.ok g k h
 X:=λg vs rs _ h=>by
  have h:(match Nat.beq g 126 with|true=>t7 vs|false=>j9 208 g vs)=some rs:=h
  cases e:Nat.beq g 126 with
  |true=>
   have hg:=ba e;subst hg;exact Rf adu adv h
  |false=>
   rw[e] at h;have hg:Nat.beq g 208=true:=by
    cases e:Nat.beq g 208 with
    |true=>rfl
    |false=>
     have h:j9 208 g vs=some rs:=h;unfold j9 at h;rw[e] at h;cases h
   have hg:=ba hg;subst hg;exact EW (fn:=Tryz.f208) Tryz.func208 (by simp[Tryz.f208]) (by decide) rfl (by kernel_rfl) H6 H5 h
 fol:=by kernel_rfl
def o0:Value:= .int .i64 0
def s0:Value:= .slice none 0 0
def ZR:Tryz.prog.underlying 4=some .bool:=by kernel_rfl
def adk:ownKnob Tryz.prog.godebug=none:=by kernel_rfl
def Na:laidOutB Tryz.prog=true:=by kernel_rfl
def Ym {a b:Bool}(h:a=true)(k:b=true):(a&& b)=true:=by rw[h,k];rfl
end Go.Proofs.YtndgdhbpojakpaaGreat
