import Derived.Test.YtfghdmmapmdcgaaGreatX2
import Derived.Test.YtfghdmmapmdcgaaGreatSO
import Derived.Test.YtfghdmmapmdcgaaGreatIN2
import Derived.Test.YtfghdmmapmdcgaaGreatM3
import Derived.Test.YtfghdmmapmdcgaaGreatRows
import Derived.Test.YtfghdmmapmdcgaaGreatChecked
set_option linter.unusedVariables false
set_option linter.unusedSimpArgs false
set_option linter.defProp false
noncomputable section
namespace Go.Proofs.YtfghdmmapmdcgaaGreat
open Go.Sym Bnd
open Go.ChangeShapes Go.WideShapes Go.ChangeAt Go.RowKit
set_option maxRecDepth 100000
def clK:List Ct:=[.p (.i .i64),.p (.i .i64),.sl [.i .i64,.i .i64,.i .i64],.p (.i .i64),.sl [.i .i64,.i .i64,.i .i64],.sl [.i .i64],.sl [.b],.sl [.i .i64],.sl [.i .i64,.i .i64,.i .i64,.i .i64,.i .i64],.sl [.i .i64],.sl [.i .i64,.i .i64,.i .i64]]
def khK:List Ct:=clK++[.sl [.i .i64]]
def ktK:List Ct:=clK++[.sl [.i .i64],.sl [.i .i64]]
def htK:List Ct:=clK++[.p (.i .i64),.sl [.i .i64,.i .i64,.i .i64]]
def acz:List Ct:= .p (.i .u8)::(khK++(ktK++(htK++khK)))
def aen:B6 Tryz.prog Tryz.f6.params.toList=some [(true,acz),(true,[.p (.i .i64),.p (.i .i64),.p (.i .i64)]),(false,[.p (.i .i64)])]:=by kernel_rfl
def acA {x:Int}(h:(Lit.int .i64 x).wf=true):I64 x:=by
 have:(decide (-9223372036854775808<=x)&& decide (x<=9223372036854775807))=true:=h;simp only[aM,aa] at this;exact this
def aeo {x:Int}(h:(Lit.int .u8 x).wf=true):0<=x/\ x<=255:=by
 have:(decide (0<=x)&& decide (x<=255))=true:=h;simp only[aM,aa] at this;exact this
def c6 {α β:Type}{R:α->β->Prop}{a:α}{l:List α}{ys:List β}(h:F2 R (a::l) ys):∃b k,ys=b::k/\ R a b/\ F2 R l k:=by
 cases h with|cons h1 h2=>exact⟨_,_,rfl,h1,h2⟩
def f2_nil {α β:Type}{R:α->β->Prop}{ys:List β}(h:F2 R [] ys):ys=[]:=by cases h;rfl
def nj {α β:Type}{R:α->β->Prop}:∀{a b:List α} {ys:List β},F2 R (a++b) ys->∃x y,ys=x++y/\ F2 R a x/\ F2 R b y
 |[],b,ys,h=>⟨[],ys,rfl,.nil,h⟩
 |c::a,b,ys,h=>by
  obtain⟨z,k,rfl,h1,h2⟩:=c6 h;obtain⟨x,y,rfl,h3,h4⟩:=nj h2;exact⟨z::x,y,rfl,.cons h1 h3,h4⟩
def Kz {α:Type}{es:List Ct0}{f:α->List PV}{P:α->Prop}(h1:∀c,F2 i9 es c->∃a,c=f a/\ P a):∀{els:List (List PV)},(∀c∈els,F2 i9 es c)->∃l:List α,els=l.map f/\∀a∈l,P a
 |[],_=>⟨[],rfl,by simp⟩
 |c::els,h=>by
  obtain⟨a,rfl,ha⟩:=h1 c (h c (by simp));obtain⟨l,rfl,hl⟩:=Kz h1 (λc hc=>h c (bJ _ hc));exact⟨a::l,rfl,by simpa using⟨ha,hl⟩⟩
def kH {α:Type}{es:List Ct0}{f:α->List PV}{P:α->Prop}(h1:∀c,F2 i9 es c->∃a,c=f a/\ P a){p:PV}(h:CtV (.sl es) p):∃l:List α,p=sl f l/\∀a∈l,P a:=by
 obtain⟨els,rfl,_,h⟩:=h;obtain⟨l,rfl,hl⟩:=Kz h1 h;exact⟨l,rfl,hl⟩
def jk {p:PV}(h:i9 (.i .i64) p):∃x:Int,p= .i64 x/\ I64 x:=by
 obtain⟨x,rfl,h⟩:=h;exact⟨x,rfl,acA h⟩
def ux (c:List PV)(h:F2 i9 [.i .i64] c):∃a:Int,c=I1 a/\ True:=by
 obtain⟨p,k,rfl,h1,h⟩:=c6 h;cases f2_nil h;obtain⟨x,rfl,_⟩:=jk h1;exact⟨x,rfl,trivial⟩
def uy (c:List PV)(h:F2 i9 [.b] c):∃a:Bool,c=B1 a/\ True:=by
 obtain⟨p,k,rfl,h1,h⟩:=c6 h;cases f2_nil h;obtain⟨x,rfl⟩:=h1;exact⟨x,rfl,trivial⟩
def acB {c:List PV}(h:F2 i9 [.i .i64,.i .i64] c):∃a b:Int,c=[.i64 a,.i64 b]/\ I64 a/\ I64 b:=by
 obtain⟨p,k,rfl,h1,h⟩:=c6 h;obtain⟨q,k,rfl,h2,h⟩:=c6 h;cases f2_nil h;obtain⟨x,rfl,k1⟩:=jk h1;obtain⟨y,rfl,k2⟩:=jk h2;exact⟨x,y,rfl,k1,k2⟩
def xY {c:List PV}(h:F2 i9 [.i .i64,.i .i64,.i .i64] c):∃a b d:Int,c=[.i64 a,.i64 b,.i64 d]:=by
 obtain⟨p,k,rfl,h1,h⟩:=c6 h;obtain⟨x,y,rfl,_⟩:=acB h;obtain⟨z,rfl,_⟩:=jk h1;exact⟨z,x,y,rfl⟩
def acC (c:List PV)(h:F2 i9 [.i .i64,.i .i64,.i .i64,.i .i64,.i .i64] c):∃a:Evt,c=bO a/\ aX a.time:=by
 obtain⟨p,k,rfl,h1,h⟩:=c6 h;obtain⟨q,k,rfl,h2,h⟩:=c6 h;obtain⟨x,y,z,rfl⟩:=xY h;obtain⟨a,rfl,k1⟩:=jk h1;obtain⟨b,rfl,k2⟩:=jk h2;exact⟨⟨⟨a,b⟩,x,⟨y,z⟩⟩,rfl,k1,k2⟩
def MG {qs:List PV}(h:F2 CtV clK qs):∃c:Clock,ij c/\ qs=clC c:=by
 obtain⟨_,_,rfl,a1,h⟩:=c6 h;obtain⟨_,_,rfl,a2,h⟩:=c6 h;obtain⟨_,_,rfl,a3,h⟩:=c6 h;obtain⟨_,_,rfl,a4,h⟩:=c6 h;obtain⟨_,_,rfl,a5,h⟩:=c6 h;obtain⟨_,_,rfl,a6,h⟩:=c6 h;obtain⟨_,_,rfl,a7,h⟩:=c6 h;obtain⟨_,_,rfl,a8,h⟩:=c6 h;obtain⟨_,_,rfl,a9,h⟩:=c6 h;obtain⟨_,_,rfl,a10,h⟩:=c6 h;obtain⟨_,_,rfl,a11,h⟩:=c6 h;cases f2_nil h;obtain⟨n,rfl,n1⟩:=jk a1;obtain⟨d,rfl,d1⟩:=jk a2;obtain⟨pts,rfl,_⟩:=kH (f:=row) (P:=λ_=>True) (λc h=>by obtain⟨a,b,d,rfl⟩:=xY h;exact⟨⟨a,b,d⟩,rfl,trivial⟩) a3;obtain⟨nx,rfl,_⟩:=jk a4;obtain⟨cl,rfl,_⟩:=kH (f:=hrow) (P:=λ_=>True) (λc h=>by obtain⟨a,b,d,rfl⟩:=xY h;exact⟨⟨a,⟨b,d⟩⟩,rfl,trivial⟩) a5;obtain⟨us,rfl,_⟩:=kH ux a6;obtain⟨ud,rfl,_⟩:=kH uy a7;obtain⟨fr,rfl,_⟩:=kH ux a8;obtain⟨hp,rfl,hh⟩:=kH acC a9;obtain⟨wh,rfl,_⟩:=kH ux a10;obtain⟨du,rfl,_⟩:=kH (f:=cE) (P:=λ_=>True) (λc h=>by obtain⟨a,b,d,rfl⟩:=xY h;exact⟨⟨a,⟨b,d⟩⟩,rfl,trivial⟩) a11;exact⟨⟨⟨n,d⟩,pts,⟨nx,cl⟩,⟨⟨us,ud,fr⟩,hp,wh⟩,du⟩,⟨⟨n1,d1⟩,hh⟩,rfl⟩
def Vi {qs:List PV}(h:F2 CtV khK qs):∃k:KHeap,ij k.clock/\ qs=khC k:=by
 obtain⟨x,y,rfl,h1,hb⟩:=nj h;obtain⟨c,c1,rfl⟩:=MG h1;obtain⟨_,_,rfl,a1,hc⟩:=c6 hb;cases f2_nil hc;obtain⟨l,rfl,_⟩:=kH ux a1;exact⟨⟨c,l⟩,c1,rfl⟩
def aep {qs:List PV}(h:F2 CtV ktK qs):∃k:KTourn,ij k.clock/\ qs=ktC k:=by
 obtain⟨x,y,rfl,h1,hb⟩:=nj h;obtain⟨c,c1,rfl⟩:=MG h1;obtain⟨_,_,rfl,a1,hc⟩:=c6 hb;obtain⟨_,_,rfl,a2,hd⟩:=c6 hc;cases f2_nil hd;obtain⟨l,rfl,_⟩:=kH ux a1;obtain⟨m,rfl,_⟩:=kH ux a2;exact⟨⟨c,⟨l,m⟩⟩,c1,rfl⟩
def aeq {qs:List PV}(h:F2 CtV htK qs):∃k:Heater,ij k.clock/\ qs=htC k:=by
 obtain⟨x,y,rfl,h1,hb⟩:=nj h;obtain⟨c,c1,rfl⟩:=MG h1;obtain⟨_,_,rfl,a1,hc⟩:=c6 hb;obtain⟨_,_,rfl,a2,hd⟩:=c6 hc;cases f2_nil hd;obtain⟨l,rfl,_⟩:=jk a1;obtain⟨m,rfl,_⟩:=kH (f:=dG) (P:=λ_=>True) (λc h=>by obtain⟨a,b,d,rfl⟩:=xY h;exact⟨⟨a,b,d⟩,rfl,trivial⟩) a2;exact⟨⟨c,⟨l,m⟩⟩,c1,rfl⟩
def acD {v:PV}(h:Da (true,acz) v):∃c:Choice,Cho64 c/\ v=CHO c:=by
 obtain⟨qs,rfl,h⟩:=h;obtain⟨_,_,rfl,a1,h1⟩:=c6 h;obtain⟨_,_,rfl,b1,h2⟩:=nj h1;obtain⟨_,_,rfl,b2,h3⟩:=nj h2;obtain⟨_,_,rfl,b3,b4⟩:=nj h3;obtain⟨t,rfl,t1⟩:=a1;obtain⟨k1,u1,rfl⟩:=Vi b1;obtain⟨k2,u2,rfl⟩:=aep b2;obtain⟨k3,u3,rfl⟩:=aeq b3;obtain⟨k4,u4,rfl⟩:=Vi b4;exact⟨⟨t,k1,k2,k3,k4⟩,⟨aeo t1,u1,u2,u3,u4⟩,rfl⟩
def aer {v:PV}(h:Da (true,[.p (.i .i64),.p (.i .i64),.p (.i .i64)]) v):∃p:Pt,v=PP p:=by
 obtain⟨qs,rfl,h⟩:=h;obtain⟨_,_,rfl,a1,h1⟩:=c6 h;obtain⟨_,_,rfl,a2,h2⟩:=c6 h1;obtain⟨_,_,rfl,a3,h3⟩:=c6 h2;cases f2_nil h3;obtain⟨a,rfl,_⟩:=jk a1;obtain⟨b,rfl,_⟩:=jk a2;obtain⟨d,rfl,_⟩:=jk a3;exact⟨⟨a,b,d⟩,rfl⟩
def aes {v:PV}(h:Da (false,[.p (.i .i64)]) v):∃a:Int,v= .i64 a:=by
 obtain⟨_,_,e,a1,h⟩:=c6 h;cases f2_nil h;cases e;obtain⟨a,rfl,_⟩:=jk a1;exact⟨a,rfl⟩
def ahH:DtOk D where
 T:=λg k h=>Xg.ok g k h
 X:=λg vs rs _ h=>by
  cases e:Nat.beq g 272 with
  |true=>
   have hg:=bo e;subst hg;exact WY (fn:=Tryz.f272) (by omega) Tryz.func272 (by simp[Tryz.f272]) (by decide) rfl (by kernel_rfl) (by kernel_rfl) (by kernel_rfl) aho ahp h
  |false=>
   have h:wD 160 g vs=some rs:=by
    have h:JC 160 272 3 g vs=some rs:=h;unfold JC at h;rwa [e] at h
   have hg:Nat.beq g 160=true:=by
    cases e:Nat.beq g 160 with
    |true=>rfl
    |false=>
     unfold wD at h;rw[e] at h;cases h
   have hg:=bo hg;subst hg;exact TV (fn:=Tryz.f160) Tryz.func160 (by simp[Tryz.f160]) (by decide) rfl (by kernel_rfl) VH VG h
 fol:=by kernel_rfl
def o0:Value:= .int .i64 0
def s0:Value:= .slice none 0 0
def aet:Tryz.prog.underlying 4=some .bool:=by kernel_rfl
def ahI:Tryz.f6.resultTypes=#[4]:=by kernel_rfl
def aeu:(Tryz.f6.params.toList.all λt=>Tryz.prog.readableRec t&& Nat.blt t Tryz.prog.types.size)=true:=by kernel_rfl
def ahJ:Tryz.f6.params.toList.length=3:=by kernel_rfl
def aev:D.lend 6=none:=by kernel_rfl
def ahK:ownKnob Tryz.prog.godebug=none:=by kernel_rfl
def SX:laidOutB Tryz.prog=true:=by kernel_rfl
set_option maxRecDepth 100000 in
def Wd (os:Os)(started:os.Started)(H:Type)(enc:TypeId×Value->H):
  ReturnsInHanded {} Tryz.checked os 6 .any (Rows.chooseEditsSpec.pre6 enc Tryz.prog Tryz.f6 Rows.chooseEditsRow.domain false) (Rows.chooseEditsSpec.post enc Tryz.prog Tryz.f6 false true false false):=by
 refine returnsInHanded_of_change (C:=Tryz.checked) ahK started (by kernel_rfl) Tryz.func6
  (ChangeSpec.witness6 (enc:=enc) (C:=Tryz.checked) false ⟨#[],#[.agg #[.int .u8 0,o0,o0,s0,o0,s0,s0,s0,s0,s0,s0,s0,s0,o0,o0,s0,o0,s0,s0,s0,s0,s0,s0,s0,s0,s0,o0,o0,s0,o0,s0,s0,s0,s0,s0,s0,s0,o0,s0,o0,o0,s0,o0,s0,s0,s0,s0,s0,s0,s0,s0],.agg #[o0,o0,o0],o0],[]⟩ 8 (by kernel_rfl) (by kernel_rfl) (by kernel_rfl) (by kernel_rfl)) ?_
 intro W base args ds gs before hval0 hW hcnd _;have hW':=hW;obtain⟨p,q,hA0,hV,rfl,hfz,hnd⟩:=hW;refine(Go.Sym.link (D:=D) (x:= .bool true) ahH aev (fn:=Tryz.f6) Tryz.func6 rfl aen hval0 hA0 ?_).mono λe W' ⟨he,hb⟩=>⟨_,he,?_⟩
 .intro vs hvs;obtain⟨_,_,rfl,h1,ha⟩:=c6 hvs;obtain⟨_,_,rfl,h2,hb⟩:=c6 ha;obtain⟨_,_,rfl,h3,hd⟩:=c6 hb;cases f2_nil hd;obtain⟨c,hc,rfl⟩:=acD h1;obtain⟨p,rfl⟩:=aer h2;obtain⟨a,rfl⟩:=aes h3;exact c6n hc
 .exact Go.Sym.post_true SX hW' rfl ahI aet aeu (λds hd=>by
   rw[ahJ] at hd
   match ds,hd with
   |[d1,d2,d3],_=>rfl) hb
def acE {a b:Bool}(h:a=true)(k:b=true):(a&& b)=true:=by rw[h,k];rfl
set_option maxHeartbeats 400000000 in
def acF:joinedFacts Tryz.prog 6 Tryz.f6 Rows.chooseEditsSpec Rows.chooseEditsRow=true:=by
 unfold joinedFacts
 repeat' with_reducible apply acE
 all_goals (as_aux_lemma=>kernel_rfl)
def acG:Tryz.prog.funcNamed Rows.chooseEditsRow.func=some 6:=by kernel_rfl
def Ka:Tryz.f6.isInstance Tryz.prog Rows.chooseEditsRow.origin Rows.chooseEditsRow.targs:=ba (by kernel_rfl)
def MH:Tryz.f6.isWrapper Tryz.prog Rows.chooseEditsRow.wrapper Rows.chooseEditsRow.mainSum:=by unfold Func.isWrapper;rw[ac (by decide+kernel)];exact⟨rfl,rfl⟩
theorem chooseEdits_holds:Rows.ChooseEditsSaid:=
 OpenClaim.holds_of_wide 6 Tryz.f6 rfl rfl rfl rfl rfl rfl rfl ⟨rfl,rfl,rfl,rfl,rfl⟩ rfl rfl rfl rfl rfl acG Tryz.func6 acF Ka MH
  (λos started H enc _=>Wd os started H enc)
#print axioms chooseEdits_holds
end Go.Proofs.YtfghdmmapmdcgaaGreat
