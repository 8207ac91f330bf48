import Derived.Test.YtndgdhbpojakpaaGreatT1
import Derived.Test.YtndgdhbpojakpaaGreatSRH
import Derived.Test.YtndgdhbpojakpaaGreatM3
import Derived.Test.YtndgdhbpojakpaaGreatRows
import Derived.Test.YtndgdhbpojakpaaGreatChecked
set_option linter.unusedVariables false
set_option linter.unusedSimpArgs false
set_option linter.defProp false
noncomputable section
namespace Go.Proofs.YtndgdhbpojakpaaGreat
open Go.Sym Bnd
open Go.ChangeShapes Go.WideShapes Go.ChangeAt Go.RowKit
set_option maxRecDepth 100000
def clK:List Ct:=[.p (.i .i64),.p (.i .i64),.sl [.i .i64,.i .i64,.i .i64],.p (.i .i64),.sl [.i .i64,.i .i64,.i .i64],.sl [.i .i64],.sl [.b],.sl [.i .i64],.sl [.i .i64,.i .i64,.i .i64,.i .i64,.i .i64],.sl [.i .i64],.sl [.i .i64,.i .i64,.i .i64]]
def khK:List Ct:=clK++[.sl [.i .i64]]
def ktK:List Ct:=clK++[.sl [.i .i64],.sl [.i .i64]]
def htK:List Ct:=clK++[.p (.i .i64),.sl [.i .i64,.i .i64,.i .i64]]
def YC:List Ct:= .p (.i .u8)::(khK++(ktK++(htK++khK)))
def liK:List Ct:=clK++[.sl [.i .i64],.sl [.i .i64]]
def dvK:List Ct:=YC++liK
def moK:List Ct:=[.p (.i .i64),.p (.i .i64),.sl [.i .i64,.i .i64,.i .i64]]
def YD {x:Int}(h:(Lit.int .i64 x).wf=true):I64 x:=by
 have:(decide (-9223372036854775808<=x)&& decide (x<=9223372036854775807))=true:=h;simp only[aF,aa] at this;exact this
def Z5 {x:Int}(h:(Lit.int .u8 x).wf=true):0<=x/\ x<=255:=by
 have:(decide (0<=x)&& decide (x<=255))=true:=h;simp only[aF,aa] at this;exact this
def cD {α β:Type}{R:α->β->Prop}{a:α}{l:List α}{ys:List β}(h:F2 R (a::l) ys):∃b k,ys=b::k/\ R a b/\ F2 R l k:=by
 cases h with|cons h1 h2=>exact⟨_,_,rfl,h1,h2⟩
def f2_nil {α β:Type}{R:α->β->Prop}{ys:List β}(h:F2 R [] ys):ys=[]:=by cases h;rfl
def iC {α β:Type}{R:α->β->Prop}:∀{a b:List α} {ys:List β},F2 R (a++b) ys->∃x y,ys=x++y/\ F2 R a x/\ F2 R b y
 |[],b,ys,h=>⟨[],ys,rfl,.nil,h⟩
 |c::a,b,ys,h=>by
  obtain⟨z,k,rfl,h1,h2⟩:=cD h;obtain⟨x,y,rfl,h3,h4⟩:=iC h2;exact⟨z::x,y,rfl,.cons h1 h3,h4⟩
def FX {α:Type}{es:List Ct0}{f:α->List PV}{P:α->Prop}(h1:∀c,F2 gM es c->∃a,c=f a/\ P a):∀{els:List (List PV)},(∀c∈els,F2 gM es c)->∃l:List α,els=l.map f/\∀a∈l,P a
 |[],_=>⟨[],rfl,by simp⟩
 |c::els,h=>by
  obtain⟨a,rfl,ha⟩:=h1 c (h c (by simp));obtain⟨l,rfl,hl⟩:=FX h1 (λc hc=>h c (cA _ hc));exact⟨a::l,rfl,by simpa using⟨ha,hl⟩⟩
def gu {α:Type}{es:List Ct0}{f:α->List PV}{P:α->Prop}(h1:∀c,F2 gM es c->∃a,c=f a/\ P a){p:PV}(h:CtV (.sl es) p):∃l:List α,p=sl f l/\∀a∈l,P a:=by
 obtain⟨els,rfl,_,h⟩:=h;obtain⟨l,rfl,hl⟩:=FX h1 h;exact⟨l,rfl,hl⟩
def iN {p:PV}(h:gM (.i .i64) p):∃x:Int,p= .i64 x/\ I64 x:=by
 obtain⟨x,rfl,h⟩:=h;exact⟨x,rfl,YD h⟩
def nf (c:List PV)(h:F2 gM [.i .i64] c):∃a:Int,c=I1 a/\ True:=by
 obtain⟨p,k,rfl,h1,h⟩:=cD h;cases f2_nil h;obtain⟨x,rfl,_⟩:=iN h1;exact⟨x,rfl,trivial⟩
def Z6 (c:List PV)(h:F2 gM [.b] c):∃a:Bool,c=B1 a/\ True:=by
 obtain⟨p,k,rfl,h1,h⟩:=cD h;cases f2_nil h;obtain⟨x,rfl⟩:=h1;exact⟨x,rfl,trivial⟩
def YE {c:List PV}(h:F2 gM [.i .i64,.i .i64] c):∃a b:Int,c=[.i64 a,.i64 b]/\ I64 a/\ I64 b:=by
 obtain⟨p,k,rfl,h1,h⟩:=cD h;obtain⟨q,k,rfl,h2,h⟩:=cD h;cases f2_nil h;obtain⟨x,rfl,k1⟩:=iN h1;obtain⟨y,rfl,k2⟩:=iN h2;exact⟨x,y,rfl,k1,k2⟩
def qR {c:List PV}(h:F2 gM [.i .i64,.i .i64,.i .i64] c):∃a b d:Int,c=[.i64 a,.i64 b,.i64 d]:=by
 obtain⟨p,k,rfl,h1,h⟩:=cD h;obtain⟨x,y,rfl,_⟩:=YE h;obtain⟨z,rfl,_⟩:=iN h1;exact⟨z,x,y,rfl⟩
def YF (c:List PV)(h:F2 gM [.i .i64,.i .i64,.i .i64,.i .i64,.i .i64] c):∃a:Evt,c=cw a/\ bi a.time:=by
 obtain⟨p,k,rfl,h1,h⟩:=cD h;obtain⟨q,k,rfl,h2,h⟩:=cD h;obtain⟨x,y,z,rfl⟩:=qR h;obtain⟨a,rfl,k1⟩:=iN h1;obtain⟨b,rfl,k2⟩:=iN h2;exact⟨⟨⟨a,b⟩,x,⟨y,z⟩⟩,rfl,k1,k2⟩
def Ay {qs:List PV}(h:F2 CtV clK qs):∃c:Clock,fw c/\ qs=clC c:=by
 obtain⟨_,_,rfl,a1,h⟩:=cD h;obtain⟨_,_,rfl,a2,h⟩:=cD h;obtain⟨_,_,rfl,a3,h⟩:=cD h;obtain⟨_,_,rfl,a4,h⟩:=cD h;obtain⟨_,_,rfl,a5,h⟩:=cD h;obtain⟨_,_,rfl,a6,h⟩:=cD h;obtain⟨_,_,rfl,a7,h⟩:=cD h;obtain⟨_,_,rfl,a8,h⟩:=cD h;obtain⟨_,_,rfl,a9,h⟩:=cD h;obtain⟨_,_,rfl,a10,h⟩:=cD h;obtain⟨_,_,rfl,a11,h⟩:=cD h;cases f2_nil h;obtain⟨n,rfl,n1⟩:=iN a1;obtain⟨d,rfl,d1⟩:=iN a2;obtain⟨pts,rfl,_⟩:=gu (f:=row) (P:=λ_=>True) (λc h=>by obtain⟨a,b,d,rfl⟩:=qR h;exact⟨⟨a,b,d⟩,rfl,trivial⟩) a3;obtain⟨nx,rfl,_⟩:=iN a4;obtain⟨cl,rfl,_⟩:=gu (f:=hrow) (P:=λ_=>True) (λc h=>by obtain⟨a,b,d,rfl⟩:=qR h;exact⟨⟨a,⟨b,d⟩⟩,rfl,trivial⟩) a5;obtain⟨us,rfl,_⟩:=gu nf a6;obtain⟨ud,rfl,_⟩:=gu Z6 a7;obtain⟨fr,rfl,_⟩:=gu nf a8;obtain⟨hp,rfl,hh⟩:=gu YF a9;obtain⟨wh,rfl,_⟩:=gu nf a10;obtain⟨du,rfl,_⟩:=gu (f:=cF) (P:=λ_=>True) (λc h=>by obtain⟨a,b,d,rfl⟩:=qR h;exact⟨⟨a,⟨b,d⟩⟩,rfl,trivial⟩) a11;exact⟨⟨⟨n,d⟩,pts,⟨nx,cl⟩,⟨⟨us,ud,fr⟩,hp,wh⟩,du⟩,⟨⟨n1,d1⟩,hh⟩,rfl⟩
def PK {qs:List PV}(h:F2 CtV khK qs):∃k:KHeap,fw k.clock/\ qs=khC k:=by
 obtain⟨x,y,rfl,h1,hb⟩:=iC h;obtain⟨c,c1,rfl⟩:=Ay h1;obtain⟨_,_,rfl,a1,hc⟩:=cD hb;cases f2_nil hc;obtain⟨l,rfl,_⟩:=gu nf a1;exact⟨⟨c,l⟩,c1,rfl⟩
def Z7 {qs:List PV}(h:F2 CtV ktK qs):∃k:KTourn,fw k.clock/\ qs=ktC k:=by
 obtain⟨x,y,rfl,h1,hb⟩:=iC h;obtain⟨c,c1,rfl⟩:=Ay h1;obtain⟨_,_,rfl,a1,hc⟩:=cD hb;obtain⟨_,_,rfl,a2,hd⟩:=cD hc;cases f2_nil hd;obtain⟨l,rfl,_⟩:=gu nf a1;obtain⟨m,rfl,_⟩:=gu nf a2;exact⟨⟨c,⟨l,m⟩⟩,c1,rfl⟩
def Z8 {qs:List PV}(h:F2 CtV htK qs):∃k:Heater,fw k.clock/\ qs=htC k:=by
 obtain⟨x,y,rfl,h1,hb⟩:=iC h;obtain⟨c,c1,rfl⟩:=Ay h1;obtain⟨_,_,rfl,a1,hc⟩:=cD hb;obtain⟨_,_,rfl,a2,hd⟩:=cD hc;cases f2_nil hd;obtain⟨l,rfl,_⟩:=iN a1;obtain⟨m,rfl,_⟩:=gu (f:=cL) (P:=λ_=>True) (λc h=>by obtain⟨a,b,d,rfl⟩:=qR h;exact⟨⟨a,b,d⟩,rfl,trivial⟩) a2;exact⟨⟨c,⟨l,m⟩⟩,c1,rfl⟩
def YG {qs:List PV}(h:F2 CtV YC qs):∃c:Choice,Cho64 c/\ qs=MP c:=by
 obtain⟨_,_,rfl,a1,h1⟩:=cD h;obtain⟨_,_,rfl,b1,h2⟩:=iC h1;obtain⟨_,_,rfl,b2,h3⟩:=iC h2;obtain⟨_,_,rfl,b3,b4⟩:=iC h3;obtain⟨t,rfl,t1⟩:=a1;obtain⟨k1,u1,rfl⟩:=PK b1;obtain⟨k2,u2,rfl⟩:=Z7 b2;obtain⟨k3,u3,rfl⟩:=Z8 b3;obtain⟨k4,u4,rfl⟩:=PK b4;exact⟨⟨t,k1,k2,k3,k4⟩,⟨Z5 t1,u1,u2,u3,u4⟩,rfl⟩
def Z9 {qs:List PV}(h:F2 CtV liK qs):∃k:LS,fw k.clock/\ qs=liC k:=by
 obtain⟨x,y,rfl,h1,hb⟩:=iC h;obtain⟨c,c1,rfl⟩:=Ay h1;obtain⟨_,_,rfl,a1,hc⟩:=cD hb;obtain⟨_,_,rfl,a2,hd⟩:=cD hc;cases f2_nil hd;obtain⟨l,rfl,_⟩:=gu nf a1;obtain⟨m,rfl,_⟩:=gu nf a2;exact⟨⟨c,l,m⟩,c1,rfl⟩
def aaa {v:PV}(h:zm (true,dvK) v):∃d:Drv,D64 d/\ v=DV d:=by
 obtain⟨qs,rfl,h⟩:=h;obtain⟨x,y,rfl,h1,h2⟩:=iC h;obtain⟨c,c1,rfl⟩:=YG h1;obtain⟨k,k1,rfl⟩:=Z9 h2;exact⟨⟨c,k⟩,⟨c1,k1⟩,rfl⟩
def aab {qs:List PV}(h:F2 CtV moK qs):∃m:Mod,bi m.now/\ qs=moC m:=by
 obtain⟨_,_,rfl,a1,h1⟩:=cD h;obtain⟨_,_,rfl,a2,h2⟩:=cD h1;obtain⟨_,_,rfl,a3,h3⟩:=cD h2;cases f2_nil h3;obtain⟨n,rfl,n1⟩:=iN a1;obtain⟨d,rfl,d1⟩:=iN a2;obtain⟨pts,rfl,_⟩:=gu (f:=row) (P:=λ_=>True) (λc h=>by obtain⟨a,b,d,rfl⟩:=qR h;exact⟨⟨a,b,d⟩,rfl,trivial⟩) a3;exact⟨⟨⟨n,d⟩,pts⟩,⟨n1,d1⟩,rfl⟩
def YH {v:PV}(h:zm (true,moK) v):∃m:Mod,bi m.now/\ v=MO m:=by
 obtain⟨qs,rfl,h⟩:=h;obtain⟨m,m1,rfl⟩:=aab h;exact⟨m,m1,rfl⟩
def YI {v:PV}(h:zm (false,[.p (.i .u8)]) v):∃a:Int,v= .v (.int .u8 a):=by
 obtain⟨_,_,e,a1,h⟩:=cD h;cases f2_nil h;cases e;obtain⟨t,rfl,_⟩:=a1;exact⟨t,rfl⟩
def adO:DtOk D where
 T:=λg k h=>IB.ok g k h
 X:=λg vs rs _ h=>by
  have h:(match Nat.beq g 126 with|true=>ur vs|false=>ko 208 g vs)=some rs:=h
  cases e:Nat.beq g 126 with
  |true=>
   have hg:=ba e;subst hg;exact RB adZ ad0 h
  |false=>
   rw[e] at h;have hg:Nat.beq g 208=true:=by
    cases e:Nat.beq g 208 with
    |true=>rfl
    |false=>
     have h:ko 208 g vs=some rs:=h;unfold ko at h;rw[e] at h;cases h
   have hg:=ba hg;subst hg;exact E9 (fn:=Tryz.f208) Tryz.func208 (by simp[Tryz.f208]) (by decide) rfl (by kernel_rfl) Io In h
 fol:=by kernel_rfl
def o0:Value:= .int .i64 0
def s0:Value:= .slice none 0 0
def aac:Tryz.prog.underlying 4=some .bool:=by kernel_rfl
def adP:ownKnob Tryz.prog.godebug=none:=by kernel_rfl
def Nw:laidOutB Tryz.prog=true:=by kernel_rfl
def YJ {a b:Bool}(h:a=true)(k:b=true):(a&& b)=true:=by rw[h,k];rfl
end Go.Proofs.YtndgdhbpojakpaaGreat
