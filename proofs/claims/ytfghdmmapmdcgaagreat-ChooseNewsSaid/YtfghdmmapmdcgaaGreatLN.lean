import Derived.Test.YtfghdmmapmdcgaaGreatE3
import Derived.Test.YtfghdmmapmdcgaaGreatSO
import Derived.Test.YtfghdmmapmdcgaaGreatM3
import Derived.Test.YtfghdmmapmdcgaaGreatRows
import Derived.Test.YtfghdmmapmdcgaaGreatChecked
set_option linter.unusedVariables false
set_option linter.unusedSimpArgs false
set_option linter.defProp false
noncomputable section
namespace Go.Proofs.YtfghdmmapmdcgaaGreat
open Go.Sym Bnd
open Go.ChangeShapes Go.WideShapes Go.ChangeAt Go.RowKit
set_option maxRecDepth 100000
def clK:List Ct:=[.p (.i .i64),.p (.i .i64),.sl [.i .i64,.i .i64,.i .i64],.p (.i .i64),.sl [.i .i64,.i .i64,.i .i64],.sl [.i .i64],.sl [.b],.sl [.i .i64],.sl [.i .i64,.i .i64,.i .i64,.i .i64,.i .i64],.sl [.i .i64],.sl [.i .i64,.i .i64,.i .i64]]
def khK:List Ct:=clK++[.sl [.i .i64]]
def ktK:List Ct:=clK++[.sl [.i .i64],.sl [.i .i64]]
def htK:List Ct:=clK++[.p (.i .i64),.sl [.i .i64,.i .i64,.i .i64]]
def Kd:List Ct:= .p (.i .u8)::(khK++(ktK++(htK++khK)))
theorem Lp:kw Tryz.prog Tryz.f5.params.toList=some [(false,[.p (.i .u8)]),(true,[.sl [.i .i64,.i .i64,.i .i64]]),(true,[.p (.i .i64),.p (.i .i64)]),(true,Kd)]:=by kernel_rfl
theorem Ke {x:Int}(h:(Lit.int .i64 x).wf=true):I64 x:=by
 have:(decide (-9223372036854775808≤x)&& decide (x≤9223372036854775807))=true:=h;simp only[Bool.and_eq_true,decide_eq_true_eq] at this;exact this
theorem Lq {x:Int}(h:(Lit.int .u8 x).wf=true):0≤x∧x≤255:=by
 have:(decide (0≤x)&& decide (x≤255))=true:=h;simp only[Bool.and_eq_true,decide_eq_true_eq] at this;exact this
theorem aj {α β:Type}{R:α→β→Prop}{a:α}{l:List α}{ys:List β}(h:F2 R (a::l) ys): ∃b k,ys=b::k∧R a b∧F2 R l k:=by
 cases h with|cons h1 h2=>exact⟨_,_,rfl,h1,h2⟩
theorem f2_nil {α β:Type}{R:α→β→Prop}{ys:List β}(h:F2 R [] ys):ys=[]:=by cases h;rfl
theorem cA {α β:Type}{R:α→β→Prop}: ∀{a b:List α} {ys:List β},F2 R (a++b) ys→ ∃x y,ys=x++y∧F2 R a x∧F2 R b y
 |[],b,ys,h=>⟨[],ys,rfl,.nil,h⟩
 |c::a,b,ys,h=>by
  obtain⟨z,k,rfl,h1,h2⟩:=aj h;obtain⟨x,y,rfl,h3,h4⟩:=cA h2;exact⟨z::x,y,rfl,.cons h1 h3,h4⟩
theorem rO {α:Type}{es:List Ct0}{f:α→List PV}{P:α→Prop}(h1: ∀c,F2 CtV0 es c→ ∃a,c=f a∧P a): ∀{els:List (List PV)},(∀c∈els,F2 CtV0 es c)→ ∃l:List α,els=l.map f∧ ∀a∈l,P a
 |[],_=>⟨[],rfl,by simp⟩
 |c::els,h=>by
  obtain⟨a,rfl,ha⟩:=h1 c (h c (by simp));obtain⟨l,rfl,hl⟩:=rO h1 (fun c hc=>h c (List.mem_cons_of_mem _ hc));exact⟨a::l,rfl,by simpa using⟨ha,hl⟩⟩
theorem bD {α:Type}{es:List Ct0}{f:α→List PV}{P:α→Prop}(h1: ∀c,F2 CtV0 es c→ ∃a,c=f a∧P a){p:PV}(h:CtV (.sl es) p): ∃l:List α,p=sl f l∧ ∀a∈l,P a:=by
 obtain⟨els,rfl,_,h⟩:=h;obtain⟨l,rfl,hl⟩:=rO h1 h;exact⟨l,rfl,hl⟩
theorem bL {p:PV}(h:CtV0 (.i .i64) p): ∃x:Int,p= .i64 x∧I64 x:=by
 obtain⟨x,rfl,h⟩:=h;exact⟨x,rfl,Ke h⟩
theorem eU (c:List PV)(h:F2 CtV0 [.i .i64] c): ∃a:Int,c=I1 a∧True:=by
 obtain⟨p,k,rfl,h1,h⟩:=aj h;cases f2_nil h;obtain⟨x,rfl,_⟩:=bL h1;exact⟨x,rfl,trivial⟩
theorem eV (c:List PV)(h:F2 CtV0 [.b] c): ∃a:Bool,c=B1 a∧True:=by
 obtain⟨p,k,rfl,h1,h⟩:=aj h;cases f2_nil h;obtain⟨x,rfl⟩:=h1;exact⟨x,rfl,trivial⟩
theorem Kf {c:List PV}(h:F2 CtV0 [.i .i64,.i .i64] c): ∃a b:Int,c=[.i64 a,.i64 b]∧I64 a∧I64 b:=by
 obtain⟨p,k,rfl,h1,h⟩:=aj h;obtain⟨q,k,rfl,h2,h⟩:=aj h;cases f2_nil h;obtain⟨x,rfl,k1⟩:=bL h1;obtain⟨y,rfl,k2⟩:=bL h2;exact⟨x,y,rfl,k1,k2⟩
theorem eW {c:List PV}(h:F2 CtV0 [.i .i64,.i .i64,.i .i64] c): ∃a b d:Int,c=[.i64 a,.i64 b,.i64 d]:=by
 obtain⟨p,k,rfl,h1,h⟩:=aj h;obtain⟨x,y,rfl,_⟩:=Kf h;obtain⟨z,rfl,_⟩:=bL h1;exact⟨z,x,y,rfl⟩
theorem Kg (c:List PV)(h:F2 CtV0 [.i .i64,.i .i64,.i .i64,.i .i64,.i .i64] c): ∃a:Evt,c=erow a∧In64 a.time:=by
 obtain⟨p,k,rfl,h1,h⟩:=aj h;obtain⟨q,k,rfl,h2,h⟩:=aj h;obtain⟨x,y,z,rfl⟩:=eW h;obtain⟨a,rfl,k1⟩:=bL h1;obtain⟨b,rfl,k2⟩:=bL h2;exact⟨⟨⟨a,b⟩,x,⟨y,z⟩⟩,rfl,k1,k2⟩
theorem wL {qs:List PV}(h:F2 CtV clK qs): ∃c:Clock,aE c∧qs=clC c:=by
 obtain⟨_,_,rfl,a1,h⟩:=aj h;obtain⟨_,_,rfl,a2,h⟩:=aj h;obtain⟨_,_,rfl,a3,h⟩:=aj h;obtain⟨_,_,rfl,a4,h⟩:=aj h;obtain⟨_,_,rfl,a5,h⟩:=aj h;obtain⟨_,_,rfl,a6,h⟩:=aj h;obtain⟨_,_,rfl,a7,h⟩:=aj h;obtain⟨_,_,rfl,a8,h⟩:=aj h;obtain⟨_,_,rfl,a9,h⟩:=aj h;obtain⟨_,_,rfl,a10,h⟩:=aj h;obtain⟨_,_,rfl,a11,h⟩:=aj h;cases f2_nil h;obtain⟨n,rfl,n1⟩:=bL a1;obtain⟨d,rfl,d1⟩:=bL a2;obtain⟨pts,rfl,_⟩:=bD (f:=row) (P:=fun _=>True) (fun c h=>by obtain⟨a,b,d,rfl⟩:=eW h;exact⟨⟨a,b,d⟩,rfl,trivial⟩) a3;obtain⟨nx,rfl,_⟩:=bL a4;obtain⟨cl,rfl,_⟩:=bD (f:=hrow) (P:=fun _=>True) (fun c h=>by obtain⟨a,b,d,rfl⟩:=eW h;exact⟨⟨a,⟨b,d⟩⟩,rfl,trivial⟩) a5;obtain⟨us,rfl,_⟩:=bD eU a6;obtain⟨ud,rfl,_⟩:=bD eV a7;obtain⟨fr,rfl,_⟩:=bD eU a8;obtain⟨hp,rfl,hh⟩:=bD Kg a9;obtain⟨wh,rfl,_⟩:=bD eU a10;obtain⟨du,rfl,_⟩:=bD (f:=am) (P:=fun _=>True) (fun c h=>by obtain⟨a,b,d,rfl⟩:=eW h;exact⟨⟨a,⟨b,d⟩⟩,rfl,trivial⟩) a11;exact⟨⟨⟨n,d⟩,pts,⟨nx,cl⟩,⟨⟨us,ud,fr⟩,hp,wh⟩,du⟩,⟨⟨n1,d1⟩,hh⟩,rfl⟩
theorem Du {qs:List PV}(h:F2 CtV khK qs): ∃k:KHeap,aE k.clock∧qs=khC k:=by
 obtain⟨x,y,rfl,h1,hb⟩:=cA h;obtain⟨c,c1,rfl⟩:=wL h1;obtain⟨_,_,rfl,a1,hc⟩:=aj hb;cases f2_nil hc;obtain⟨l,rfl,_⟩:=bD eU a1;exact⟨⟨c,l⟩,c1,rfl⟩
theorem Lr {qs:List PV}(h:F2 CtV ktK qs): ∃k:KTourn,aE k.clock∧qs=ktC k:=by
 obtain⟨x,y,rfl,h1,hb⟩:=cA h;obtain⟨c,c1,rfl⟩:=wL h1;obtain⟨_,_,rfl,a1,hc⟩:=aj hb;obtain⟨_,_,rfl,a2,hd⟩:=aj hc;cases f2_nil hd;obtain⟨l,rfl,_⟩:=bD eU a1;obtain⟨m,rfl,_⟩:=bD eU a2;exact⟨⟨c,⟨l,m⟩⟩,c1,rfl⟩
theorem Ls {qs:List PV}(h:F2 CtV htK qs): ∃k:Heater,aE k.clock∧qs=htC k:=by
 obtain⟨x,y,rfl,h1,hb⟩:=cA h;obtain⟨c,c1,rfl⟩:=wL h1;obtain⟨_,_,rfl,a1,hc⟩:=aj hb;obtain⟨_,_,rfl,a2,hd⟩:=aj hc;cases f2_nil hd;obtain⟨l,rfl,_⟩:=bL a1;obtain⟨m,rfl,_⟩:=bD (f:=nrow) (P:=fun _=>True) (fun c h=>by obtain⟨a,b,d,rfl⟩:=eW h;exact⟨⟨a,b,d⟩,rfl,trivial⟩) a2;exact⟨⟨c,⟨l,m⟩⟩,c1,rfl⟩
theorem Kh {v:PV}(h:ArgV (true,Kd) v): ∃c:Choice,Cho64 c∧v=CHO c:=by
 obtain⟨qs,rfl,h⟩:=h;obtain⟨_,_,rfl,a1,h1⟩:=aj h;obtain⟨_,_,rfl,b1,h2⟩:=cA h1;obtain⟨_,_,rfl,b2,h3⟩:=cA h2;obtain⟨_,_,rfl,b3,b4⟩:=cA h3;obtain⟨t,rfl,t1⟩:=a1;obtain⟨k1,u1,rfl⟩:=Du b1;obtain⟨k2,u2,rfl⟩:=Lr b2;obtain⟨k3,u3,rfl⟩:=Ls b3;obtain⟨k4,u4,rfl⟩:=Du b4;exact⟨⟨t,k1,k2,k3,k4⟩,⟨Lq t1,u1,u2,u3,u4⟩,rfl⟩
theorem Ki {v:PV}(h:ArgV (false,[.p (.i .u8)]) v): ∃n:Int,v= .v (.int .u8 n):=by
 cases h with
 |cons h1 h=>
  cases h;obtain⟨n,rfl,_⟩:=h1;exact⟨n,rfl⟩
theorem Kj {v:PV}(h:ArgV (true,[.sl [.i .i64,.i .i64,.i .i64]]) v): ∃l:List Pt,v=F l:=by
 obtain⟨qs,rfl,h⟩:=h;obtain⟨_,_,rfl,a1,h1⟩:=aj h;cases f2_nil h1;obtain⟨pts,rfl,_⟩:=bD (f:=row) (P:=fun _=>True) (fun c h=>by obtain⟨a,b,d,rfl⟩:=eW h;exact⟨⟨a,b,d⟩,rfl,trivial⟩) a1;exact⟨pts,rfl⟩
theorem Kk {v:PV}(h:ArgV (true,[.p (.i .i64),.p (.i .i64)]) v): ∃t:Rt,In64 t∧v=R t:=by
 obtain⟨qs,rfl,h⟩:=h;obtain⟨_,_,rfl,a1,h1⟩:=aj h;obtain⟨_,_,rfl,a2,h2⟩:=aj h1;cases f2_nil h2;obtain⟨n,rfl,n1⟩:=bL a1;obtain⟨d,rfl,d1⟩:=bL a2;exact⟨⟨n,d⟩,⟨n1,d1⟩,rfl⟩
theorem LP {g:FuncId}(h:Nat.beq g 160=true):D.T g=none:=by
 have:g=160:=Nat.eq_of_beq_eq_true h;subst this;have h:D.T 160=none:=by kernel_rfl
 exact h
theorem WG:DtOk D where
 T:=fun g k h=>Ho.ok g k h
 X:=fun g vs rs _ h=>by
  have hg:Nat.beq g 160=true:=by
   cases e:Nat.beq g 160 with
   |true=>rfl
   |false=>
    have h:fY 160 g vs=some rs:=h;unfold fY at h;rw[e] at h;cases h
  have hg:=Nat.eq_of_beq_eq_true hg;subst hg;exact Cq (fn:=Tryz.f160) Tryz.func160 (by simp[Tryz.f160]) (by decide) rfl (by kernel_rfl) DL DK h
 fol:=by kernel_rfl
theorem Lt:Tryz.prog.underlying 4=some .bool:=by kernel_rfl
theorem WH:Tryz.f5.resultTypes=#[4]:=by kernel_rfl
theorem Lu:(Tryz.f5.params.toList.all fun t=>Tryz.prog.readableRec t&& Nat.blt t Tryz.prog.types.size)=true:=by kernel_rfl
theorem WI:Tryz.f5.params.toList.length=4:=by kernel_rfl
theorem Lv:D.lend 5=none:=by kernel_rfl
theorem WJ:ownKnob Tryz.prog.godebug=none:=by kernel_rfl
theorem BK:laidOutB Tryz.prog=true:=by kernel_rfl
set_option maxRecDepth 100000 in
theorem GN (os:Os)(started:os.Started)(H:Type)(enc:TypeId×Value→H):
  ReturnsInHanded {} Tryz.checked os 5 .any (Rows.chooseNewsSpec.pre6 enc Tryz.prog Tryz.f5 Rows.chooseNewsRow.domain false) (Rows.chooseNewsSpec.post enc Tryz.prog Tryz.f5 false true false false):=by
 refine returnsInHanded_of_change (C:=Tryz.checked) WJ started (by kernel_rfl) Tryz.func5
  (ChangeSpec.witness6 (enc:=enc) (C:=Tryz.checked) false ⟨#[],#[.int .u8 0,.agg #[.slice none 0 0],.agg #[.int .i64 0,.int .i64 0],.agg #[.int .u8 0,.int .i64 0,.int .i64 0,.slice none 0 0,.int .i64 0,.slice none 0 0,.slice none 0 0,.slice none 0 0,.slice none 0 0,.slice none 0 0,.slice none 0 0,.slice none 0 0,.slice none 0 0,.int .i64 0,.int .i64 0,.slice none 0 0,.int .i64 0,.slice none 0 0,.slice none 0 0,.slice none 0 0,.slice none 0 0,.slice none 0 0,.slice none 0 0,.slice none 0 0,.slice none 0 0,.slice none 0 0,.int .i64 0,.int .i64 0,.slice none 0 0,.int .i64 0,.slice none 0 0,.slice none 0 0,.slice none 0 0,.slice none 0 0,.slice none 0 0,.slice none 0 0,.slice none 0 0,.int .i64 0,.slice none 0 0,.int .i64 0,.int .i64 0,.slice none 0 0,.int .i64 0,.slice none 0 0,.slice none 0 0,.slice none 0 0,.slice none 0 0,.slice none 0 0,.slice none 0 0,.slice none 0 0,.slice none 0 0]],[]⟩ 8 (by kernel_rfl) (by kernel_rfl) (by kernel_rfl) (by kernel_rfl)) ?_
 intro W base args ds gs before hval0 hW hcnd _;have hW':=hW;obtain⟨p,q,hA0,hV,rfl,hfz,hnd⟩:=hW;refine(Go.Sym.link (D:=D) (x:= .bool true) WG Lv (fn:=Tryz.f5) Tryz.func5 rfl Lp hval0 hA0 ?_).mono fun e W' ⟨he,hb⟩=>⟨_,he,?_⟩
 ·intro vs hvs;obtain⟨_,_,rfl,h1,ha⟩:=aj hvs;obtain⟨_,_,rfl,h2,hb⟩:=aj ha;obtain⟨_,_,rfl,h3,hq⟩:=aj hb;obtain⟨_,_,rfl,h4,hd⟩:=aj hq;cases f2_nil hd;obtain⟨n,rfl⟩:=Ki h1;obtain⟨l,rfl⟩:=Kj h2;obtain⟨t,ht,rfl⟩:=Kk h3;obtain⟨c,hc,rfl⟩:=Kh h4;exact sU n l ht hc
 ·exact Go.Sym.post_true BK hW' rfl WH Lt Lu (fun ds hd=>by
   rw[WI] at hd
   match ds,hd with
   |[d1,d2,d3,d4],_=>rfl) hb
theorem Kl {a b:Bool}(h:a=true)(k:b=true):(a&& b)=true:=by rw[h,k];rfl
set_option maxHeartbeats 400000000 in
theorem Km:joinedFacts Tryz.prog 5 Tryz.f5 Rows.chooseNewsSpec Rows.chooseNewsRow=true:=by
 unfold joinedFacts
 repeat' with_reducible apply Kl
 all_goals (as_aux_lemma=>kernel_rfl)
theorem Kn:Tryz.prog.funcNamed Rows.chooseNewsRow.func=some 5:=by kernel_rfl
theorem rk:Tryz.f5.isInstance Tryz.prog Rows.chooseNewsRow.origin Rows.chooseNewsRow.targs:=of_decide_eq_true (by kernel_rfl)
theorem wM:Tryz.f5.isWrapper Tryz.prog Rows.chooseNewsRow.wrapper Rows.chooseNewsRow.mainSum:=by unfold Func.isWrapper;rw[if_neg (by decide+kernel)];exact⟨rfl,rfl⟩
theorem chooseNews_holds:Rows.ChooseNewsSaid:=
 OpenClaim.holds_of_wide 5 Tryz.f5 rfl rfl rfl rfl rfl rfl rfl ⟨rfl,rfl,rfl,rfl,rfl⟩ rfl rfl rfl rfl rfl Kn Tryz.func5 Km rk wM
  (fun os started H enc _=>GN os started H enc)
#print axioms chooseNews_holds
end Go.Proofs.YtfghdmmapmdcgaaGreat
