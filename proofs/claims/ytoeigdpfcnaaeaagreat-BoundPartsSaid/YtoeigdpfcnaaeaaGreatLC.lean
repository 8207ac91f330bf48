import Derived.Test.YtoeigdpfcnaaeaaGreatW1
import Derived.Test.YtoeigdpfcnaaeaaGreatM3
import Derived.Test.YtoeigdpfcnaaeaaGreatRows
import Derived.Test.YtoeigdpfcnaaeaaGreatChecked
set_option linter.unusedVariables false
set_option linter.unusedSimpArgs false
set_option linter.defProp false
noncomputable section
namespace Go.Proofs.YtoeigdpfcnaaeaaGreat
open Go.Sym Bnd
open Go.ChangeShapes Go.WideShapes Go.ChangeAt Go.RowKit
set_option maxRecDepth 100000
def acb {x:Int}(h:(Lit.int .i64 x).wf=true):I64 x:=by
 have:(decide (-9223372036854775808<=x)&& decide (x<=9223372036854775807))=true:=h;simp only[aH,aa] at this;exact this
def ja {α β:Type}{R:α->β->Prop}{a:α}{l:List α}{ys:List β}(h:F2 R (a::l) ys):∃b k,ys=b::k/\ R a b/\ F2 R l k:=by
 cases h with|cons h1 h2=>exact⟨_,_,rfl,h1,h2⟩
def f2_nil {α β:Type}{R:α->β->Prop}{ys:List β}(h:F2 R [] ys):ys=[]:=by cases h;rfl
def J2 {α:Type}{es:List Ct0}{f:α->List PV}{P:α->Prop}(h1:∀c,F2 j6 es c->∃a,c=f a/\ P a):∀{els:List (List PV)},(∀c∈els,F2 j6 es c)->∃l:List α,els=l.map f/\∀a∈l,P a
 |[],_=>⟨[],rfl,by simp⟩
 |c::els,h=>by
  obtain⟨a,rfl,ha⟩:=h1 c (h c (by simp));obtain⟨l,rfl,hl⟩:=J2 h1 (λc hc=>h c (aN _ hc));exact⟨a::l,rfl,by simpa using⟨ha,hl⟩⟩
def acd {α:Type}{es:List Ct0}{f:α->List PV}{P:α->Prop}(h1:∀c,F2 j6 es c->∃a,c=f a/\ P a){p:PV}(h:CtV (.sl es) p):∃l:List α,p=sl f l/\∀a∈l,P a:=by
 obtain⟨els,rfl,_,h⟩:=h;obtain⟨l,rfl,hl⟩:=J2 h1 h;exact⟨l,rfl,hl⟩
def xu {p:PV}(h:j6 (.i .i64) p):∃x:Int,p= .i64 x/\ I64 x:=by
 obtain⟨x,rfl,h⟩:=h;exact⟨x,rfl,acb h⟩
def ace {c:List PV}(h:F2 j6 [.i .i64,.i .i64] c):∃a b:Int,c=[.i64 a,.i64 b]/\ I64 a/\ I64 b:=by
 obtain⟨p,k,rfl,h1,h⟩:=ja h;obtain⟨q,k,rfl,h2,h⟩:=ja h;cases f2_nil h;obtain⟨x,rfl,k1⟩:=xu h1;obtain⟨y,rfl,k2⟩:=xu h2;exact⟨x,y,rfl,k1,k2⟩
def acf {c:List PV}(h:F2 j6 [.i .i64,.i .i64,.i .i64] c):∃a b d:Int,c=[.i64 a,.i64 b,.i64 d]:=by
 obtain⟨p,k,rfl,h1,h⟩:=ja h;obtain⟨x,y,rfl,_⟩:=ace h;obtain⟨z,rfl,_⟩:=xu h1;exact⟨z,x,y,rfl⟩
def acg {v:PV}(h:CJ (false,[.p (.i .u8)]) v):∃a:Int,v= .v (.int .u8 a):=by
 obtain⟨_,_,e,a1,h⟩:=ja h;cases f2_nil h;cases e;obtain⟨t,rfl,_⟩:=a1;exact⟨t,rfl⟩
def ach {v:PV}(h:CJ (true,[.sl [.i .i64,.i .i64,.i .i64]]) v):∃l:List Pt,v=F l:=by
 obtain⟨qs,rfl,h⟩:=h;obtain⟨_,_,rfl,a1,h1⟩:=ja h;cases f2_nil h1;obtain⟨pts,rfl,_⟩:=acd (f:=row) (P:=λ_=>True) (λc h=>by obtain⟨a,b,d,rfl⟩:=acf h;exact⟨⟨a,b,d⟩,rfl,trivial⟩) a1;exact⟨pts,rfl⟩
def HI {v:PV}(h:CJ (true,[.p (.i .i64),.p (.i .i64)]) v):∃t:Rt,aQ t/\ v=R t:=by
 obtain⟨qs,rfl,h⟩:=h;obtain⟨_,_,rfl,a1,h1⟩:=ja h;obtain⟨_,_,rfl,a2,h2⟩:=ja h1;cases f2_nil h2;obtain⟨n,rfl,n1⟩:=xu a1;obtain⟨d,rfl,d1⟩:=xu a2;exact⟨⟨n,d⟩,⟨n1,d1⟩,rfl⟩
def ahC:DtOk D where
 T:=λg k h=>by
  obtain⟨f,hs,e⟩:=Nb.ok g k h;exact⟨f,hs,(gC (gC (gC (Qx _ _ _ _ true false) f) g) hs).trans e⟩
 X:=λg vs rs _ h=>by
  have h:(match Nat.beq g 48 with|true=>xV vs|false=>sV 156 g vs)=some rs:=h
  cases e:Nat.beq g 48 with
  |true=>
   rw[e] at h;have hg:=bg e;subst hg;exact WI h
  |false=>
   rw[e] at h;have hg:Nat.beq g 156=true:=by
    cases e:Nat.beq g 156 with
    |true=>rfl
    |false=>
     have h:sV 156 g vs=some rs:=h;unfold sV at h;rw[e] at h;cases h
   have hg:=bg hg;subst hg;exact Tc (fn:=Tryz.f156) Tryz.func156 (by simp[Tryz.f156]) (by decide) rfl (by kernel_rfl) U6 U5 h
 fol:=by kernel_rfl
def o0:Value:= .int .i64 0
def s0:Value:= .slice none 0 0
def aed:Tryz.prog.underlying 4=some .bool:=by kernel_rfl
def ahD:ownKnob Tryz.prog.godebug=none:=by kernel_rfl
def R4:laidOutB Tryz.prog=true:=by kernel_rfl
def aci {a b:Bool}(h:a=true)(k:b=true):(a&& b)=true:=by rw[h,k];rfl
end Go.Proofs.YtoeigdpfcnaaeaaGreat
