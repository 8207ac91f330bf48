import Derived.Test.YtoeigdpfcnaaeaaGreatT1
import Derived.Test.YtoeigdpfcnaaeaaGreatW1
import Derived.Test.YtoeigdpfcnaaeaaGreatM3
import Derived.Test.YtoeigdpfcnaaeaaGreatRows
import Derived.Test.YtoeigdpfcnaaeaaGreatChecked
set_option linter.unusedVariables false
set_option linter.unusedSimpArgs false
set_option linter.defProp false
noncomputable section
namespace Go.Proofs.YtoeigdpfcnaaeaaGreat
open Go.Sym Bnd
open Go.ChangeShapes Go.WideShapes Go.ChangeAt Go.RowKit
set_option maxRecDepth 100000
def ae8 {x:Int}(h:(Lit.int .i64 x).wf=true):I64 x:=by
 have:(decide (-9223372036854775808<=x)&& decide (x<=9223372036854775807))=true:=h;simp only[aJ,aa] at this;exact this
def kF {α β:Type}{R:α->β->Prop}{a:α}{l:List α}{ys:List β}(h:F2 R (a::l) ys):∃b k,ys=b::k/\ R a b/\ F2 R l k:=by
 cases h with|cons h1 h2=>exact⟨_,_,rfl,h1,h2⟩
def f2_nil {α β:Type}{R:α->β->Prop}{ys:List β}(h:F2 R [] ys):ys=[]:=by cases h;rfl
def L7 {α:Type}{es:List Ct0}{f:α->List PV}{P:α->Prop}(h1:∀c,F2 lB es c->∃a,c=f a/\ P a):∀{els:List (List PV)},(∀c∈els,F2 lB es c)->∃l:List α,els=l.map f/\∀a∈l,P a
 |[],_=>⟨[],rfl,by simp⟩
 |c::els,h=>by
  obtain⟨a,rfl,ha⟩:=h1 c (h c (by simp));obtain⟨l,rfl,hl⟩:=L7 h1 (λc hc=>h c (aU _ hc));exact⟨a::l,rfl,by simpa using⟨ha,hl⟩⟩
def ae9 {α:Type}{es:List Ct0}{f:α->List PV}{P:α->Prop}(h1:∀c,F2 lB es c->∃a,c=f a/\ P a){p:PV}(h:CtV (.sl es) p):∃l:List α,p=sl f l/\∀a∈l,P a:=by
 obtain⟨els,rfl,_,h⟩:=h;obtain⟨l,rfl,hl⟩:=L7 h1 h;exact⟨l,rfl,hl⟩
def yO {p:PV}(h:lB (.i .i64) p):∃x:Int,p= .i64 x/\ I64 x:=by
 obtain⟨x,rfl,h⟩:=h;exact⟨x,rfl,ae8 h⟩
def afa {c:List PV}(h:F2 lB [.i .i64,.i .i64] c):∃a b:Int,c=[.i64 a,.i64 b]/\ I64 a/\ I64 b:=by
 obtain⟨p,k,rfl,h1,h⟩:=kF h;obtain⟨q,k,rfl,h2,h⟩:=kF h;cases f2_nil h;obtain⟨x,rfl,k1⟩:=yO h1;obtain⟨y,rfl,k2⟩:=yO h2;exact⟨x,y,rfl,k1,k2⟩
def afb {c:List PV}(h:F2 lB [.i .i64,.i .i64,.i .i64] c):∃a b d:Int,c=[.i64 a,.i64 b,.i64 d]:=by
 obtain⟨p,k,rfl,h1,h⟩:=kF h;obtain⟨x,y,rfl,_⟩:=afa h;obtain⟨z,rfl,_⟩:=yO h1;exact⟨z,x,y,rfl⟩
def afc {v:PV}(h:Ej (false,[.p (.i .u8)]) v):∃a:Int,v= .v (.int .u8 a):=by
 obtain⟨_,_,e,a1,h⟩:=kF h;cases f2_nil h;cases e;obtain⟨t,rfl,_⟩:=a1;exact⟨t,rfl⟩
def afd {v:PV}(h:Ej (true,[.sl [.i .i64,.i .i64,.i .i64]]) v):∃l:List Pt,v=F l:=by
 obtain⟨qs,rfl,h⟩:=h;obtain⟨_,_,rfl,a1,h1⟩:=kF h;cases f2_nil h1;obtain⟨pts,rfl,_⟩:=ae9 (f:=row) (P:=λ_=>True) (λc h=>by obtain⟨a,b,d,rfl⟩:=afb h;exact⟨⟨a,b,d⟩,rfl,trivial⟩) a1;exact⟨pts,rfl⟩
def SA {v:PV}(h:Ej (true,[.p (.i .i64),.p (.i .i64)]) v):∃t:Rt,aS t/\ v=R t:=by
 obtain⟨qs,rfl,h⟩:=h;obtain⟨_,_,rfl,a1,h1⟩:=kF h;obtain⟨_,_,rfl,a2,h2⟩:=kF h1;cases f2_nil h2;obtain⟨n,rfl,n1⟩:=yO a1;obtain⟨d,rfl,d1⟩:=yO a2;exact⟨⟨n,d⟩,⟨n1,d1⟩,rfl⟩
def akD:DtOk D where
 T:=λg k h=>by
  obtain⟨f,hs,e⟩:=PB.ok g k h;exact⟨f,hs,(hZ (hZ (hZ (Ti _ _ _ _ true false) f) g) hs).trans e⟩
 X:=λg vs rs _ h=>by
  have h:(match Nat.beq g 48 with|true=>zr vs|false=>uz 156 g vs)=some rs:=h
  cases e:Nat.beq g 48 with
  |true=>
   rw[e] at h;have hg:=bm e;subst hg;exact Zg h
  |false=>
   rw[e] at h;have hg:Nat.beq g 156=true:=by
    cases e:Nat.beq g 156 with
    |true=>rfl
    |false=>
     have h:uz 156 g vs=some rs:=h;unfold uz at h;rw[e] at h;cases h
   have hg:=bm hg;subst hg;exact VQ (fn:=Tryz.f156) Tryz.func156 (by simp[Tryz.f156]) (by decide) rfl (by kernel_rfl) XJ XI h
 fol:=by kernel_rfl
def o0:Value:= .int .i64 0
def s0:Value:= .slice none 0 0
def ahd:Tryz.prog.underlying 4=some .bool:=by kernel_rfl
def akE:ownKnob Tryz.prog.godebug=none:=by kernel_rfl
def UU:laidOutB Tryz.prog=true:=by kernel_rfl
def afe {a b:Bool}(h:a=true)(k:b=true):(a&& b)=true:=by rw[h,k];rfl
end Go.Proofs.YtoeigdpfcnaaeaaGreat
