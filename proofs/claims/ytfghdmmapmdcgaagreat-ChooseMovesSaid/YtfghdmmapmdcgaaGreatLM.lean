import Derived.Test.YtfghdmmapmdcgaaGreatF2
import Derived.Test.YtfghdmmapmdcgaaGreatSO
import Derived.Test.YtfghdmmapmdcgaaGreatM3
import Derived.Test.YtfghdmmapmdcgaaGreatRows
import Derived.Test.YtfghdmmapmdcgaaGreatChecked
set_option linter.unusedVariables false
set_option linter.unusedSimpArgs false
set_option linter.defProp false
noncomputable section
namespace Go.Proofs.YtfghdmmapmdcgaaGreat
open Go.Sym Bnd
open Go.ChangeShapes Go.WideShapes Go.ChangeAt Go.RowKit
set_option maxRecDepth 100000
def clK:List Ct:=[.p (.i .i64),.p (.i .i64),.sl [.i .i64,.i .i64,.i .i64],.p (.i .i64),.sl [.i .i64,.i .i64,.i .i64],.sl [.i .i64],.sl [.b],.sl [.i .i64],.sl [.i .i64,.i .i64,.i .i64,.i .i64,.i .i64],.sl [.i .i64],.sl [.i .i64,.i .i64,.i .i64]]
def khK:List Ct:=clK++[.sl [.i .i64]]
def ktK:List Ct:=clK++[.sl [.i .i64],.sl [.i .i64]]
def htK:List Ct:=clK++[.p (.i .i64),.sl [.i .i64,.i .i64,.i .i64]]
def Rz:List Ct:= .p (.i .u8)::(khK++(ktK++(htK++khK)))
theorem S6:sV Tryz.prog Tryz.f4.params.toList=some [(true,Rz),(true,[.p (.i .i64),.p (.i .i64)])]:=by kernel_rfl
theorem RA {x:Int}(h:(Lit.int .i64 x).wf=true):I64 x:=by
 have:(decide (-9223372036854775808≤x)&& decide (x≤9223372036854775807))=true:=h;simp only[au,decide_eq_true_eq] at this;exact this
theorem S7 {x:Int}(h:(Lit.int .u8 x).wf=true):0≤x∧x≤255:=by
 have:(decide (0≤x)&& decide (x≤255))=true:=h;simp only[au,decide_eq_true_eq] at this;exact this
theorem b6 {α β:Type}{R:α→β→Prop}{a:α}{l:List α}{ys:List β}(h:F2 R (a::l) ys): ∃b k,ys=b::k∧R a b∧F2 R l k:=by
 cases h with|cons h1 h2=>exact⟨_,_,rfl,h1,h2⟩
theorem f2_nil {α β:Type}{R:α→β→Prop}{ys:List β}(h:F2 R [] ys):ys=[]:=by cases h;rfl
theorem hM {α β:Type}{R:α→β→Prop}: ∀{a b:List α} {ys:List β},F2 R (a++b) ys→ ∃x y,ys=x++y∧F2 R a x∧F2 R b y
 |[],b,ys,h=>⟨[],ys,rfl,.nil,h⟩
 |c::a,b,ys,h=>by
  obtain⟨z,k,rfl,h1,h2⟩:=b6 h;obtain⟨x,y,rfl,h3,h4⟩:=hM h2;exact⟨z::x,y,rfl,.cons h1 h3,h4⟩
theorem AK {α:Type}{es:List Ct0}{f:α→List PV}{P:α→Prop}(h1: ∀c,F2 CtV0 es c→ ∃a,c=f a∧P a): ∀{els:List (List PV)},(∀c∈els,F2 CtV0 es c)→ ∃l:List α,els=l.map f∧ ∀a∈l,P a
 |[],_=>⟨[],rfl,by simp⟩
 |c::els,h=>by
  obtain⟨a,rfl,ha⟩:=h1 c (h c (by simp));obtain⟨l,rfl,hl⟩:=AK h1 (fun c hc=>h c (aF _ hc));exact⟨a::l,rfl,by simpa using⟨ha,hl⟩⟩
theorem fQ {α:Type}{es:List Ct0}{f:α→List PV}{P:α→Prop}(h1: ∀c,F2 CtV0 es c→ ∃a,c=f a∧P a){p:PV}(h:CtV (.sl es) p): ∃l:List α,p=sl f l∧ ∀a∈l,P a:=by
 obtain⟨els,rfl,_,h⟩:=h;obtain⟨l,rfl,hl⟩:=AK h1 h;exact⟨l,rfl,hl⟩
theorem fR {p:PV}(h:CtV0 (.i .i64) p): ∃x:Int,p= .i64 x∧I64 x:=by
 obtain⟨x,rfl,h⟩:=h;exact⟨x,rfl,RA h⟩
theorem my (c:List PV)(h:F2 CtV0 [.i .i64] c): ∃a:Int,c=I1 a∧True:=by
 obtain⟨p,k,rfl,h1,h⟩:=b6 h;cases f2_nil h;obtain⟨x,rfl,_⟩:=fR h1;exact⟨x,rfl,trivial⟩
theorem mz (c:List PV)(h:F2 CtV0 [.b] c): ∃a:Bool,c=B1 a∧True:=by
 obtain⟨p,k,rfl,h1,h⟩:=b6 h;cases f2_nil h;obtain⟨x,rfl⟩:=h1;exact⟨x,rfl,trivial⟩
theorem RB {c:List PV}(h:F2 CtV0 [.i .i64,.i .i64] c): ∃a b:Int,c=[.i64 a,.i64 b]∧I64 a∧I64 b:=by
 obtain⟨p,k,rfl,h1,h⟩:=b6 h;obtain⟨q,k,rfl,h2,h⟩:=b6 h;cases f2_nil h;obtain⟨x,rfl,k1⟩:=fR h1;obtain⟨y,rfl,k2⟩:=fR h2;exact⟨x,y,rfl,k1,k2⟩
theorem oV {c:List PV}(h:F2 CtV0 [.i .i64,.i .i64,.i .i64] c): ∃a b d:Int,c=[.i64 a,.i64 b,.i64 d]:=by
 obtain⟨p,k,rfl,h1,h⟩:=b6 h;obtain⟨x,y,rfl,_⟩:=RB h;obtain⟨z,rfl,_⟩:=fR h1;exact⟨z,x,y,rfl⟩
theorem RC (c:List PV)(h:F2 CtV0 [.i .i64,.i .i64,.i .i64,.i .i64,.i .i64] c): ∃a:Evt,c=erow a∧In64 a.time:=by
 obtain⟨p,k,rfl,h1,h⟩:=b6 h;obtain⟨q,k,rfl,h2,h⟩:=b6 h;obtain⟨x,y,z,rfl⟩:=oV h;obtain⟨a,rfl,k1⟩:=fR h1;obtain⟨b,rfl,k2⟩:=fR h2;exact⟨⟨⟨a,b⟩,x,⟨y,z⟩⟩,rfl,k1,k2⟩
theorem Ev {qs:List PV}(h:F2 CtV clK qs): ∃c:Clock,c6 c∧qs=clC c:=by
 obtain⟨_,_,rfl,a1,h⟩:=b6 h;obtain⟨_,_,rfl,a2,h⟩:=b6 h;obtain⟨_,_,rfl,a3,h⟩:=b6 h;obtain⟨_,_,rfl,a4,h⟩:=b6 h;obtain⟨_,_,rfl,a5,h⟩:=b6 h;obtain⟨_,_,rfl,a6,h⟩:=b6 h;obtain⟨_,_,rfl,a7,h⟩:=b6 h;obtain⟨_,_,rfl,a8,h⟩:=b6 h;obtain⟨_,_,rfl,a9,h⟩:=b6 h;obtain⟨_,_,rfl,a10,h⟩:=b6 h;obtain⟨_,_,rfl,a11,h⟩:=b6 h;cases f2_nil h;obtain⟨n,rfl,n1⟩:=fR a1;obtain⟨d,rfl,d1⟩:=fR a2;obtain⟨pts,rfl,_⟩:=fQ (f:=row) (P:=fun _=>True) (fun c h=>by obtain⟨a,b,d,rfl⟩:=oV h;exact⟨⟨a,b,d⟩,rfl,trivial⟩) a3;obtain⟨nx,rfl,_⟩:=fR a4;obtain⟨cl,rfl,_⟩:=fQ (f:=hrow) (P:=fun _=>True) (fun c h=>by obtain⟨a,b,d,rfl⟩:=oV h;exact⟨⟨a,⟨b,d⟩⟩,rfl,trivial⟩) a5;obtain⟨us,rfl,_⟩:=fQ my a6;obtain⟨ud,rfl,_⟩:=fQ mz a7;obtain⟨fr,rfl,_⟩:=fQ my a8;obtain⟨hp,rfl,hh⟩:=fQ RC a9;obtain⟨wh,rfl,_⟩:=fQ my a10;obtain⟨du,rfl,_⟩:=fQ (f:=bF) (P:=fun _=>True) (fun c h=>by obtain⟨a,b,d,rfl⟩:=oV h;exact⟨⟨a,⟨b,d⟩⟩,rfl,trivial⟩) a11;exact⟨⟨⟨n,d⟩,pts,⟨nx,cl⟩,⟨⟨us,ud,fr⟩,hp,wh⟩,du⟩,⟨⟨n1,d1⟩,hh⟩,rfl⟩
theorem La {qs:List PV}(h:F2 CtV khK qs): ∃k:KHeap,c6 k.clock∧qs=khC k:=by
 obtain⟨x,y,rfl,h1,hb⟩:=hM h;obtain⟨c,c1,rfl⟩:=Ev h1;obtain⟨_,_,rfl,a1,hc⟩:=b6 hb;cases f2_nil hc;obtain⟨l,rfl,_⟩:=fQ my a1;exact⟨⟨c,l⟩,c1,rfl⟩
theorem S8 {qs:List PV}(h:F2 CtV ktK qs): ∃k:KTourn,c6 k.clock∧qs=ktC k:=by
 obtain⟨x,y,rfl,h1,hb⟩:=hM h;obtain⟨c,c1,rfl⟩:=Ev h1;obtain⟨_,_,rfl,a1,hc⟩:=b6 hb;obtain⟨_,_,rfl,a2,hd⟩:=b6 hc;cases f2_nil hd;obtain⟨l,rfl,_⟩:=fQ my a1;obtain⟨m,rfl,_⟩:=fQ my a2;exact⟨⟨c,⟨l,m⟩⟩,c1,rfl⟩
theorem S9 {qs:List PV}(h:F2 CtV htK qs): ∃k:Heater,c6 k.clock∧qs=htC k:=by
 obtain⟨x,y,rfl,h1,hb⟩:=hM h;obtain⟨c,c1,rfl⟩:=Ev h1;obtain⟨_,_,rfl,a1,hc⟩:=b6 hb;obtain⟨_,_,rfl,a2,hd⟩:=b6 hc;cases f2_nil hd;obtain⟨l,rfl,_⟩:=fR a1;obtain⟨m,rfl,_⟩:=fQ (f:=nrow) (P:=fun _=>True) (fun c h=>by obtain⟨a,b,d,rfl⟩:=oV h;exact⟨⟨a,b,d⟩,rfl,trivial⟩) a2;exact⟨⟨c,⟨l,m⟩⟩,c1,rfl⟩
theorem RD {v:PV}(h:ArgV (true,Rz) v): ∃c:Choice,Cho64 c∧v=CHO c:=by
 obtain⟨qs,rfl,h⟩:=h;obtain⟨_,_,rfl,a1,h1⟩:=b6 h;obtain⟨_,_,rfl,b1,h2⟩:=hM h1;obtain⟨_,_,rfl,b2,h3⟩:=hM h2;obtain⟨_,_,rfl,b3,b4⟩:=hM h3;obtain⟨t,rfl,t1⟩:=a1;obtain⟨k1,u1,rfl⟩:=La b1;obtain⟨k2,u2,rfl⟩:=S8 b2;obtain⟨k3,u3,rfl⟩:=S9 b3;obtain⟨k4,u4,rfl⟩:=La b4;exact⟨⟨t,k1,k2,k3,k4⟩,⟨S7 t1,u1,u2,u3,u4⟩,rfl⟩
theorem RE {v:PV}(h:ArgV (true,[.p (.i .i64),.p (.i .i64)]) v): ∃t:Rt,In64 t∧v=R t:=by
 obtain⟨qs,rfl,h⟩:=h;obtain⟨_,_,rfl,a1,h1⟩:=b6 h;obtain⟨_,_,rfl,a2,h2⟩:=b6 h1;cases f2_nil h2;obtain⟨n,rfl,n1⟩:=fR a1;obtain⟨d,rfl,d1⟩:=fR a2;exact⟨⟨n,d⟩,⟨n1,d1⟩,rfl⟩
theorem abs:DtOk D where
 T:=fun g k h=>O6.ok g k h
 X:=fun g vs rs _ h=>by
  have hg:Nat.beq g 160=true:=by
   cases e:Nat.beq g 160 with
   |true=>rfl
   |false=>
    have h:nZ 160 g vs=some rs:=h;unfold nZ at h;rw[e] at h;cases h
  have hg:=aS hg;subst hg;exact J2 (fn:=Tryz.f160) Tryz.func160 (by simp[Tryz.f160]) (by decide) rfl (by kernel_rfl) Lw Lv h
 fol:=by kernel_rfl
theorem Ta:Tryz.prog.underlying 4=some .bool:=by kernel_rfl
theorem abt:Tryz.f4.resultTypes=#[4]:=by kernel_rfl
theorem Tb:(Tryz.f4.params.toList.all fun t=>Tryz.prog.readableRec t&& Nat.blt t Tryz.prog.types.size)=true:=by kernel_rfl
theorem abu:Tryz.f4.params.toList.length=2:=by kernel_rfl
theorem Tc:D.lend 4=none:=by kernel_rfl
theorem abv:ownKnob Tryz.prog.godebug=none:=by kernel_rfl
theorem Jh:laidOutB Tryz.prog=true:=by kernel_rfl
set_option maxRecDepth 100000 in
theorem Oq (os:Os)(started:os.Started)(H:Type)(enc:TypeId×Value→H):
  ReturnsInHanded {} Tryz.checked os 4 .any (Rows.chooseMovesSpec.pre6 enc Tryz.prog Tryz.f4 Rows.chooseMovesRow.domain false) (Rows.chooseMovesSpec.post enc Tryz.prog Tryz.f4 false true false false):=by
 refine returnsInHanded_of_change (C:=Tryz.checked) abv started (by kernel_rfl) Tryz.func4
  (ChangeSpec.witness6 (enc:=enc) (C:=Tryz.checked) false ⟨#[],#[.agg #[.int .u8 0,.int .i64 0,.int .i64 0,.slice none 0 0,.int .i64 0,.slice none 0 0,.slice none 0 0,.slice none 0 0,.slice none 0 0,.slice none 0 0,.slice none 0 0,.slice none 0 0,.slice none 0 0,.int .i64 0,.int .i64 0,.slice none 0 0,.int .i64 0,.slice none 0 0,.slice none 0 0,.slice none 0 0,.slice none 0 0,.slice none 0 0,.slice none 0 0,.slice none 0 0,.slice none 0 0,.slice none 0 0,.int .i64 0,.int .i64 0,.slice none 0 0,.int .i64 0,.slice none 0 0,.slice none 0 0,.slice none 0 0,.slice none 0 0,.slice none 0 0,.slice none 0 0,.slice none 0 0,.int .i64 0,.slice none 0 0,.int .i64 0,.int .i64 0,.slice none 0 0,.int .i64 0,.slice none 0 0,.slice none 0 0,.slice none 0 0,.slice none 0 0,.slice none 0 0,.slice none 0 0,.slice none 0 0,.slice none 0 0],.agg #[.int .i64 0,.int .i64 0]],[]⟩ 8 (by kernel_rfl) (by kernel_rfl) (by kernel_rfl) (by kernel_rfl)) ?_
 intro W base args ds gs before hval0 hW hcnd _;have hW':=hW;obtain⟨p,q,hA0,hV,rfl,hfz,hnd⟩:=hW;refine(Go.Sym.link (D:=D) (x:= .bool true) abs Tc (fn:=Tryz.f4) Tryz.func4 rfl S6 hval0 hA0 ?_).mono fun e W' ⟨he,hb⟩=>⟨_,he,?_⟩
 ·intro vs hvs;obtain⟨_,_,rfl,h1,ha⟩:=b6 hvs;obtain⟨_,_,rfl,h2,hb⟩:=b6 ha;cases f2_nil hb;obtain⟨c,hc,rfl⟩:=RD h1;obtain⟨t,ht,rfl⟩:=RE h2;exact chooseMoves ht hc
 ·exact Go.Sym.post_true Jh hW' rfl abt Ta Tb (fun ds hd=>by
   rw[abu] at hd
   match ds,hd with
   |[d1,d2],_=>rfl) hb
theorem RG {a b:Bool}(h:a=true)(k:b=true):(a&& b)=true:=by rw[h,k];rfl
set_option maxHeartbeats 400000000 in
theorem RH:joinedFacts Tryz.prog 4 Tryz.f4 Rows.chooseMovesSpec Rows.chooseMovesRow=true:=by
 unfold joinedFacts
 repeat' with_reducible apply RG
 all_goals (as_aux_lemma=>kernel_rfl)
theorem RI:Tryz.prog.funcNamed Rows.chooseMovesRow.func=some 4:=by kernel_rfl
theorem Ag:Tryz.f4.isInstance Tryz.prog Rows.chooseMovesRow.origin Rows.chooseMovesRow.targs:=of_decide_eq_true (by kernel_rfl)
theorem Ew:Tryz.f4.isWrapper Tryz.prog Rows.chooseMovesRow.wrapper Rows.chooseMovesRow.mainSum:=by unfold Func.isWrapper;rw[if_neg (by decide+kernel)];exact⟨rfl,rfl⟩
theorem chooseMoves_holds:Rows.ChooseMovesSaid:=
 OpenClaim.holds_of_wide 4 Tryz.f4 rfl rfl rfl rfl rfl rfl rfl ⟨rfl,rfl,rfl,rfl,rfl⟩ rfl rfl rfl rfl rfl RI Tryz.func4 RH Ag Ew
  (fun os started H enc _=>Oq os started H enc)
#print axioms chooseMoves_holds
end Go.Proofs.YtfghdmmapmdcgaaGreat
