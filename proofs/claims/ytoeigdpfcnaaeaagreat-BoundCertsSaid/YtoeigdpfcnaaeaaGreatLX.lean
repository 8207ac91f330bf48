import Derived.Test.YtoeigdpfcnaaeaaGreatY1
import Derived.Test.YtoeigdpfcnaaeaaGreatW1
import Derived.Test.YtoeigdpfcnaaeaaGreatIN2
import Derived.Test.YtoeigdpfcnaaeaaGreatSO
import Derived.Test.YtoeigdpfcnaaeaaGreatM3
import Derived.Test.YtoeigdpfcnaaeaaGreatRows
import Derived.Test.YtoeigdpfcnaaeaaGreatChecked
set_option linter.unusedVariables false
set_option linter.unusedSimpArgs false
set_option linter.defProp false
noncomputable section
namespace Go.Proofs.YtoeigdpfcnaaeaaGreat
open Go.Sym Bnd
open Go.ChangeShapes Go.WideShapes Go.ChangeAt Go.RowKit
set_option maxRecDepth 100000
def clK:List Ct:=[.p (.i .i64),.p (.i .i64),.sl [.i .i64,.i .i64,.i .i64],.p (.i .i64),.sl [.i .i64,.i .i64,.i .i64],.sl [.i .i64],.sl [.b],.sl [.i .i64],.sl [.i .i64,.i .i64,.i .i64,.i .i64,.i .i64],.sl [.i .i64],.sl [.i .i64,.i .i64,.i .i64]]
def khK:List Ct:=clK++[.sl [.i .i64]]
def ktK:List Ct:=clK++[.sl [.i .i64],.sl [.i .i64]]
def htK:List Ct:=clK++[.p (.i .i64),.sl [.i .i64,.i .i64,.i .i64]]
def Ya:List Ct:= .p (.i .u8)::(khK++(ktK++(htK++khK)))
def aiE {x:Int}(h:(Lit.int .i64 x).wf=true):I64 x:=by
 have:(decide (-9223372036854775808<=x)&& decide (x<=9223372036854775807))=true:=h;simp only[aJ,aa] at this;exact this
def akO {x:Int}(h:(Lit.int .u8 x).wf=true):0<=x/\ x<=255:=by
 have:(decide (0<=x)&& decide (x<=255))=true:=h;simp only[aJ,aa] at this;exact this
def dt {α β:Type}{R:α->β->Prop}{a:α}{l:List α}{ys:List β}(h:F2 R (a::l) ys):∃b k,ys=b::k/\ R a b/\ F2 R l k:=by
 cases h with|cons h1 h2=>exact⟨_,_,rfl,h1,h2⟩
def f2_nil {α β:Type}{R:α->β->Prop}{ys:List β}(h:F2 R [] ys):ys=[]:=by cases h;rfl
def pM {α β:Type}{R:α->β->Prop}:∀{a b:List α} {ys:List β},F2 R (a++b) ys->∃x y,ys=x++y/\ F2 R a x/\ F2 R b y
 |[],b,ys,h=>⟨[],ys,rfl,.nil,h⟩
 |c::a,b,ys,h=>by
  obtain⟨z,k,rfl,h1,h2⟩:=dt h;obtain⟨x,y,rfl,h3,h4⟩:=pM h2;exact⟨z::x,y,rfl,.cons h1 h3,h4⟩
def OF {α:Type}{es:List Ct0}{f:α->List PV}{P:α->Prop}(h1:∀c,F2 jU es c->∃a,c=f a/\ P a):∀{els:List (List PV)},(∀c∈els,F2 jU es c)->∃l:List α,els=l.map f/\∀a∈l,P a
 |[],_=>⟨[],rfl,by simp⟩
 |c::els,h=>by
  obtain⟨a,rfl,ha⟩:=h1 c (h c (by simp));obtain⟨l,rfl,hl⟩:=OF h1 (λc hc=>h c (aS _ hc));exact⟨a::l,rfl,by simpa using⟨ha,hl⟩⟩
def lI {α:Type}{es:List Ct0}{f:α->List PV}{P:α->Prop}(h1:∀c,F2 jU es c->∃a,c=f a/\ P a){p:PV}(h:CtV (.sl es) p):∃l:List α,p=sl f l/\∀a∈l,P a:=by
 obtain⟨els,rfl,_,h⟩:=h;obtain⟨l,rfl,hl⟩:=OF h1 h;exact⟨l,rfl,hl⟩
def jt {p:PV}(h:jU (.i .i64) p):∃x:Int,p= .i64 x/\ I64 x:=by
 obtain⟨x,rfl,h⟩:=h;exact⟨x,rfl,aiE h⟩
def xF (c:List PV)(h:F2 jU [.i .i64] c):∃a:Int,c=I1 a/\ True:=by
 obtain⟨p,k,rfl,h1,h⟩:=dt h;cases f2_nil h;obtain⟨x,rfl,_⟩:=jt h1;exact⟨x,rfl,trivial⟩
def akP (c:List PV)(h:F2 jU [.b] c):∃a:Bool,c=B1 a/\ True:=by
 obtain⟨p,k,rfl,h1,h⟩:=dt h;cases f2_nil h;obtain⟨x,rfl⟩:=h1;exact⟨x,rfl,trivial⟩
def aiF {c:List PV}(h:F2 jU [.i .i64,.i .i64] c):∃a b:Int,c=[.i64 a,.i64 b]/\ I64 a/\ I64 b:=by
 obtain⟨p,k,rfl,h1,h⟩:=dt h;obtain⟨q,k,rfl,h2,h⟩:=dt h;cases f2_nil h;obtain⟨x,rfl,k1⟩:=jt h1;obtain⟨y,rfl,k2⟩:=jt h2;exact⟨x,y,rfl,k1,k2⟩
def AL {c:List PV}(h:F2 jU [.i .i64,.i .i64,.i .i64] c):∃a b d:Int,c=[.i64 a,.i64 b,.i64 d]:=by
 obtain⟨p,k,rfl,h1,h⟩:=dt h;obtain⟨x,y,rfl,_⟩:=aiF h;obtain⟨z,rfl,_⟩:=jt h1;exact⟨z,x,y,rfl⟩
def aiG (c:List PV)(h:F2 jU [.i .i64,.i .i64,.i .i64,.i .i64,.i .i64] c):∃a:Evt,c=cg a/\ aR a.time:=by
 obtain⟨p,k,rfl,h1,h⟩:=dt h;obtain⟨q,k,rfl,h2,h⟩:=dt h;obtain⟨x,y,z,rfl⟩:=AL h;obtain⟨a,rfl,k1⟩:=jt h1;obtain⟨b,rfl,k2⟩:=jt h2;exact⟨⟨⟨a,b⟩,x,⟨y,z⟩⟩,rfl,k1,k2⟩
def Ri {qs:List PV}(h:F2 CtV clK qs):∃c:Clock,fS c/\ qs=clC c:=by
 obtain⟨_,_,rfl,a1,h⟩:=dt h;obtain⟨_,_,rfl,a2,h⟩:=dt h;obtain⟨_,_,rfl,a3,h⟩:=dt h;obtain⟨_,_,rfl,a4,h⟩:=dt h;obtain⟨_,_,rfl,a5,h⟩:=dt h;obtain⟨_,_,rfl,a6,h⟩:=dt h;obtain⟨_,_,rfl,a7,h⟩:=dt h;obtain⟨_,_,rfl,a8,h⟩:=dt h;obtain⟨_,_,rfl,a9,h⟩:=dt h;obtain⟨_,_,rfl,a10,h⟩:=dt h;obtain⟨_,_,rfl,a11,h⟩:=dt h;cases f2_nil h;obtain⟨n,rfl,n1⟩:=jt a1;obtain⟨d,rfl,d1⟩:=jt a2;obtain⟨pts,rfl,_⟩:=lI (f:=row) (P:=λ_=>True) (λc h=>by obtain⟨a,b,d,rfl⟩:=AL h;exact⟨⟨a,b,d⟩,rfl,trivial⟩) a3;obtain⟨nx,rfl,_⟩:=jt a4;obtain⟨cl,rfl,_⟩:=lI (f:=hrow) (P:=λ_=>True) (λc h=>by obtain⟨a,b,d,rfl⟩:=AL h;exact⟨⟨a,⟨b,d⟩⟩,rfl,trivial⟩) a5;obtain⟨us,rfl,_⟩:=lI xF a6;obtain⟨ud,rfl,_⟩:=lI akP a7;obtain⟨fr,rfl,_⟩:=lI xF a8;obtain⟨hp,rfl,hh⟩:=lI aiG a9;obtain⟨wh,rfl,_⟩:=lI xF a10;obtain⟨du,rfl,_⟩:=lI (f:=cZ) (P:=λ_=>True) (λc h=>by obtain⟨a,b,d,rfl⟩:=AL h;exact⟨⟨a,⟨b,d⟩⟩,rfl,trivial⟩) a11;exact⟨⟨⟨n,d⟩,pts,⟨nx,cl⟩,⟨⟨us,ud,fr⟩,hp,wh⟩,du⟩,⟨⟨n1,d1⟩,hh⟩,rfl⟩
def aaV {qs:List PV}(h:F2 CtV khK qs):∃k:KHeap,fS k.c/\ qs=khC k:=by
 obtain⟨x,y,rfl,h1,hb⟩:=pM h;obtain⟨c,c1,rfl⟩:=Ri h1;obtain⟨_,_,rfl,a1,hc⟩:=dt hb;cases f2_nil hc;obtain⟨l,rfl,_⟩:=lI xF a1;exact⟨⟨c,l⟩,c1,rfl⟩
def akQ {qs:List PV}(h:F2 CtV ktK qs):∃k:KTourn,fS k.c/\ qs=ktC k:=by
 obtain⟨x,y,rfl,h1,hb⟩:=pM h;obtain⟨c,c1,rfl⟩:=Ri h1;obtain⟨_,_,rfl,a1,hc⟩:=dt hb;obtain⟨_,_,rfl,a2,hd⟩:=dt hc;cases f2_nil hd;obtain⟨l,rfl,_⟩:=lI xF a1;obtain⟨m,rfl,_⟩:=lI xF a2;exact⟨⟨c,⟨l,m⟩⟩,c1,rfl⟩
def akR {qs:List PV}(h:F2 CtV htK qs):∃k:Heater,fS k.c/\ qs=htC k:=by
 obtain⟨x,y,rfl,h1,hb⟩:=pM h;obtain⟨c,c1,rfl⟩:=Ri h1;obtain⟨_,_,rfl,a1,hc⟩:=dt hb;obtain⟨_,_,rfl,a2,hd⟩:=dt hc;cases f2_nil hd;obtain⟨l,rfl,_⟩:=jt a1;obtain⟨m,rfl,_⟩:=lI (f:=dY) (P:=λ_=>True) (λc h=>by obtain⟨a,b,d,rfl⟩:=AL h;exact⟨⟨a,b,d⟩,rfl,trivial⟩) a2;exact⟨⟨c,⟨l,m⟩⟩,c1,rfl⟩
def aiH {qs:List PV}(h:F2 CtV Ya qs):∃c:Choice,Cho64 c/\ qs=bk c:=by
 obtain⟨_,_,rfl,a1,h1⟩:=dt h;obtain⟨_,_,rfl,b1,h2⟩:=pM h1;obtain⟨_,_,rfl,b2,h3⟩:=pM h2;obtain⟨_,_,rfl,b3,b4⟩:=pM h3;obtain⟨t,rfl,t1⟩:=a1;obtain⟨k1,u1,rfl⟩:=aaV b1;obtain⟨k2,u2,rfl⟩:=akQ b2;obtain⟨k3,u3,rfl⟩:=akR b3;obtain⟨k4,u4,rfl⟩:=aaV b4;exact⟨⟨t,k1,k2,k3,k4⟩,⟨akO t1,u1,u2,u3,u4⟩,rfl⟩
def abW {v:PV}(h:Nj (true,Ya) v):∃c:Choice,Cho64 c/\ v=CHO c:=by
 obtain⟨qs,rfl,h⟩:=h;obtain⟨c,c1,rfl⟩:=aiH h;exact⟨c,c1,rfl⟩
def Rj:List Ct0:=[.i .u8,.i .i64,.i .i64,.i .i64,.i .i64,.i .i64,.i .i64]
def abX (c:List PV)(h:F2 jU Rj c):∃a:Ask,c=vr a/\ aR a.t:=by
 obtain⟨_,_,rfl,a0,h⟩:=dt h;obtain⟨_,_,rfl,a1,h⟩:=dt h;obtain⟨_,_,rfl,a2,h⟩:=dt h;obtain⟨_,_,rfl,a3,h⟩:=dt h;obtain⟨_,_,rfl,a4,h⟩:=dt h;obtain⟨_,_,rfl,a5,h⟩:=dt h;obtain⟨_,_,rfl,a6,h⟩:=dt h;cases f2_nil h;obtain⟨k,rfl,_⟩:=a0;obtain⟨x1,rfl,_⟩:=jt a1;obtain⟨x2,rfl,_⟩:=jt a2;obtain⟨x3,rfl,_⟩:=jt a3;obtain⟨x4,rfl,_⟩:=jt a4;obtain⟨x5,rfl,i5⟩:=jt a5;obtain⟨x6,rfl,i6⟩:=jt a6;exact⟨⟨k,⟨x1,x2,x3⟩,x4,⟨x5,x6⟩⟩,rfl,i5,i6⟩
def abY {v:PV}(h:Nj (false,[.sl Rj]) v):∃l:List Ask,(∀a∈l,aR a.t)/\ v=sl vr l:=by
 obtain⟨_,_,e,a1,h⟩:=dt h;cases f2_nil h;cases e;obtain⟨l,rfl,hl⟩:=lI abX a1;exact⟨l,hl,rfl⟩
def aoo:DtOk D where
 T:=λg k h=>by
  obtain⟨f,hs,e⟩:=Sk.ok g k h;exact⟨f,hs,(iM (iM (iM (We _ _ _ _ true false) f) g) hs).trans e⟩
 X:=λg vs rs _ h=>by
  have h:Ns 156 268 48 g vs=some rs:=h;unfold Ns at h;cases e:Nat.beq g 48 with
  |true=>
   rw[e] at h;have hg:=bB e;subst hg;exact acY h
  |false=>
   rw[e] at h;cases e:Nat.beq g 268 with
   |true=>
    have h:Be 156 268 3 g vs=some rs:=h;unfold Be at h;rw[e] at h;have hg:=bB e;subst hg;exact acF (fn:=Tryz.f268) (by omega) Tryz.func268 (by simp[Tryz.f268]) (by decide) rfl (by kernel_rfl) (by kernel_rfl) (by kernel_rfl) an4 an5 h
   |false=>
    have h:zm 156 g vs=some rs:=by
     have h:Be 156 268 3 g vs=some rs:=h;unfold Be at h;rwa [e] at h
    have hg:Nat.beq g 156=true:=by
     cases e:Nat.beq g 156 with
     |true=>rfl
     |false=>
      unfold zm at h;rw[e] at h;cases h
    have hg:=bB hg;subst hg;exact Y1 (fn:=Tryz.f156) Tryz.func156 (by simp[Tryz.f156]) (by decide) rfl (by kernel_rfl) abn abm h
 fol:=by kernel_rfl
def o0:Value:= .int .i64 0
def s0:Value:= .slice none 0 0
def akS:Tryz.prog.underlying 4=some .bool:=by kernel_rfl
def aop:ownKnob Tryz.prog.godebug=none:=by kernel_rfl
def Yb:laidOutB Tryz.prog=true:=by kernel_rfl
def aiI {a b:Bool}(h:a=true)(k:b=true):(a&& b)=true:=by rw[h,k];rfl
end Go.Proofs.YtoeigdpfcnaaeaaGreat
