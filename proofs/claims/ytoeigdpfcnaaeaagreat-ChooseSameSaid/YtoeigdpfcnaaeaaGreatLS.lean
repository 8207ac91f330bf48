import Derived.Test.YtoeigdpfcnaaeaaGreatY1
import Derived.Test.YtoeigdpfcnaaeaaGreatS1
import Derived.Test.YtoeigdpfcnaaeaaGreatIN2
import Derived.Test.YtoeigdpfcnaaeaaGreatSO
import Derived.Test.YtoeigdpfcnaaeaaGreatM3
import Derived.Test.YtoeigdpfcnaaeaaGreatRows
import Derived.Test.YtoeigdpfcnaaeaaGreatChecked
set_option linter.unusedVariables false
set_option linter.unusedSimpArgs false
set_option linter.defProp false
noncomputable section
namespace Go.Proofs.YtoeigdpfcnaaeaaGreat
open Go.Sym Bnd
open Go.ChangeShapes Go.WideShapes Go.ChangeAt Go.RowKit
set_option maxRecDepth 100000
def ahk {x:Int}(h:(Lit.int .i64 x).wf=true):I64 x:=by
 have:(decide (-9223372036854775808<=x)&& decide (x<=9223372036854775807))=true:=h;simp only[aJ,aa] at this;exact this
def gH {α β:Type}{R:α->β->Prop}{a:α}{l:List α}{ys:List β}(h:F2 R (a::l) ys):∃b k,ys=b::k/\ R a b/\ F2 R l k:=by
 cases h with|cons h1 h2=>exact⟨_,_,rfl,h1,h2⟩
def f2_nil {α β:Type}{R:α->β->Prop}{ys:List β}(h:F2 R [] ys):ys=[]:=by cases h;rfl
def N1 {α:Type}{es:List Ct0}{f:α->List PV}{P:α->Prop}(h1:∀c,F2 lr es c->∃a,c=f a/\ P a):∀{els:List (List PV)},(∀c∈els,F2 lr es c)->∃l:List α,els=l.map f/\∀a∈l,P a
 |[],_=>⟨[],rfl,by simp⟩
 |c::els,h=>by
  obtain⟨a,rfl,ha⟩:=h1 c (h c (by simp));obtain⟨l,rfl,hl⟩:=N1 h1 (λc hc=>h c (aR _ hc));exact⟨a::l,rfl,by simpa using⟨ha,hl⟩⟩
def UQ {α:Type}{es:List Ct0}{f:α->List PV}{P:α->Prop}(h1:∀c,F2 lr es c->∃a,c=f a/\ P a){p:PV}(h:CtV (.sl es) p):∃l:List α,p=sl f l/\∀a∈l,P a:=by
 obtain⟨els,rfl,_,h⟩:=h;obtain⟨l,rfl,hl⟩:=N1 h1 h;exact⟨l,rfl,hl⟩
def m7 {p:PV}(h:lr (.i .i64) p):∃x:Int,p= .i64 x/\ I64 x:=by
 obtain⟨x,rfl,h⟩:=h;exact⟨x,rfl,ahk h⟩
def ahl {c:List PV}(h:F2 lr [.i .i64,.i .i64] c):∃a b:Int,c=[.i64 a,.i64 b]/\ I64 a/\ I64 b:=by
 obtain⟨p,k,rfl,h1,h⟩:=gH h;obtain⟨q,k,rfl,h2,h⟩:=gH h;cases f2_nil h;obtain⟨x,rfl,k1⟩:=m7 h1;obtain⟨y,rfl,k2⟩:=m7 h2;exact⟨x,y,rfl,k1,k2⟩
def ahm {c:List PV}(h:F2 lr [.i .i64,.i .i64,.i .i64] c):∃a b d:Int,c=[.i64 a,.i64 b,.i64 d]:=by
 obtain⟨p,k,rfl,h1,h⟩:=gH h;obtain⟨x,y,rfl,_⟩:=ahl h;obtain⟨z,rfl,_⟩:=m7 h1;exact⟨z,x,y,rfl⟩
def ahn {v:PV}(h:Gj (true,[.sl [.i .i64,.i .i64,.i .i64]]) v):∃l:List Pt,v=F l:=by
 obtain⟨qs,rfl,h⟩:=h;obtain⟨_,_,rfl,a1,h1⟩:=gH h;cases f2_nil h1;obtain⟨pts,rfl,_⟩:=UQ (f:=row) (P:=λ_=>True) (λc h=>by obtain⟨a,b,d,rfl⟩:=ahm h;exact⟨⟨a,b,d⟩,rfl,trivial⟩) a1;exact⟨pts,rfl⟩
def aho {v:PV}(h:Gj (true,[.p (.i .i64),.p (.i .i64)]) v):∃t:Rt,aS t/\ v=R t:=by
 obtain⟨qs,rfl,h⟩:=h;obtain⟨_,_,rfl,a1,h1⟩:=gH h;obtain⟨_,_,rfl,a2,h2⟩:=gH h1;cases f2_nil h2;obtain⟨n,rfl,n1⟩:=m7 a1;obtain⟨d,rfl,d1⟩:=m7 a2;exact⟨⟨n,d⟩,⟨n1,d1⟩,rfl⟩
def Qz:List Ct0:=[.i .u8,.i .i64,.i .i64,.i .i64,.i .i64,.i .i64,.i .i64]
def aaS (c:List PV)(h:F2 lr Qz c):∃a:Ask,c=wo a/\ aS a.t:=by
 obtain⟨_,_,rfl,a0,h⟩:=gH h;obtain⟨_,_,rfl,a1,h⟩:=gH h;obtain⟨_,_,rfl,a2,h⟩:=gH h;obtain⟨_,_,rfl,a3,h⟩:=gH h;obtain⟨_,_,rfl,a4,h⟩:=gH h;obtain⟨_,_,rfl,a5,h⟩:=gH h;obtain⟨_,_,rfl,a6,h⟩:=gH h;cases f2_nil h;obtain⟨k,rfl,_⟩:=a0;obtain⟨x1,rfl,_⟩:=m7 a1;obtain⟨x2,rfl,_⟩:=m7 a2;obtain⟨x3,rfl,_⟩:=m7 a3;obtain⟨x4,rfl,_⟩:=m7 a4;obtain⟨x5,rfl,i5⟩:=m7 a5;obtain⟨x6,rfl,i6⟩:=m7 a6;exact⟨⟨k,⟨x1,x2,x3⟩,x4,⟨x5,x6⟩⟩,rfl,i5,i6⟩
def aaT {v:PV}(h:Gj (false,[.sl Qz]) v):∃l:List Ask,(∀a∈l,aS a.t)/\ v=sl wo l:=by
 obtain⟨_,_,e,a1,h⟩:=gH h;cases f2_nil h;cases e;obtain⟨l,rfl,hl⟩:=UQ aaS a1;exact⟨l,hl,rfl⟩
def amU:DtOk D where
 T:=λg k h=>by
  obtain⟨f,hs,e⟩:=Ry.ok g k h;exact⟨f,hs,(iF (iF (iF (Vr _ _ _ _ true false) f) g) hs).trans e⟩
 X:=λg vs rs _ h=>by
  have h:MJ 156 268 174 g vs=some rs:=h;unfold MJ at h;cases e:Nat.beq g 174 with
  |true=>
   rw[e] at h;have hg:=bw e;subst hg;exact abI am5 am6 h
  |false=>
   rw[e] at h;cases e:Nat.beq g 268 with
   |true=>
    have h:AH 156 268 3 g vs=some rs:=h;unfold AH at h;rw[e] at h;have hg:=bw e;subst hg;exact abA (fn:=Tryz.f268) (by omega) Tryz.func268 (by simp[Tryz.f268]) (by decide) rfl (by kernel_rfl) (by kernel_rfl) (by kernel_rfl) amC amD h
   |false=>
    have h:yJ 156 g vs=some rs:=by
     have h:AH 156 268 3 g vs=some rs:=h;unfold AH at h;rwa [e] at h
    have hg:Nat.beq g 156=true:=by
     cases e:Nat.beq g 156 with
     |true=>rfl
     |false=>
      unfold yJ at h;rw[e] at h;cases h
    have hg:=bw hg;subst hg;exact Yd (fn:=Tryz.f156) Tryz.func156 (by simp[Tryz.f156]) (by decide) rfl (by kernel_rfl) aaj aai h
 fol:=by kernel_rfl
def o0:Value:= .int .i64 0
def s0:Value:= .slice none 0 0
def ajw:Tryz.prog.underlying 4=some .bool:=by kernel_rfl
def amV:ownKnob Tryz.prog.godebug=none:=by kernel_rfl
def Xg:laidOutB Tryz.prog=true:=by kernel_rfl
def ahp {a b:Bool}(h:a=true)(k:b=true):(a&& b)=true:=by rw[h,k];rfl
end Go.Proofs.YtoeigdpfcnaaeaaGreat
