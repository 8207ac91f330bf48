import Derived.Test.YtoeigdpfcnaaeaaGreatLC
set_option linter.unusedVariables false
set_option linter.unusedSimpArgs false
set_option linter.defProp false
noncomputable section
namespace Go.Proofs.YtoeigdpfcnaaeaaGreat
open Go.Sym Bnd
open Go.ChangeShapes Go.WideShapes Go.ChangeAt Go.RowKit
set_option maxRecDepth 100000
def aea:BC Tryz.prog Tryz.f5.params.toList=some [(false,[.p (.i .u8)]),(true,[.sl [.i .i64,.i .i64,.i .i64]]),(true,[.p (.i .i64),.p (.i .i64)]),(true,[.p (.i .i64),.p (.i .i64)]),(true,[.p (.i .i64),.p (.i .i64)])]:=by kernel_rfl
def ahA:Tryz.f5.resultTypes=#[4]:=by kernel_rfl
def aeb:(Tryz.f5.params.toList.all λt=>Tryz.prog.readableRec t&& Nat.blt t Tryz.prog.types.size)=true:=by kernel_rfl
def ahB:Tryz.f5.params.toList.length=5:=by kernel_rfl
def aec:D.lend 5=none:=by kernel_rfl
def Vy (os:Os)(started:os.Started)(H:Type)(enc:TypeId×Value->H):
  ReturnsInHanded {} Tryz.checked os 5 .any (Rows.boundPartsSpec.pre6 enc Tryz.prog Tryz.f5 Rows.boundPartsRow.domain false) (Rows.boundPartsSpec.post enc Tryz.prog Tryz.f5 false true false false):=by
 refine returnsInHanded_of_change (C:=Tryz.checked) ahD started (by kernel_rfl) Tryz.func5
  (ChangeSpec.witness6 (enc:=enc) (C:=Tryz.checked) false ⟨#[],#[.int .u8 0,.agg #[s0],.agg #[o0,o0],.agg #[o0,o0],.agg #[o0,o0]],[]⟩ 8 (by kernel_rfl) (by kernel_rfl) (by kernel_rfl) (by kernel_rfl)) ?_
 intro W base args ds gs before hval0 hW hcnd _;have hW':=hW;obtain⟨p,q,hA0,hV,rfl,hfz,hnd⟩:=hW;refine(Go.Sym.link (D:=D) (x:= .bool true) ahC aec (fn:=Tryz.f5) Tryz.func5 rfl aea hval0 hA0 ?_).mono λe W' ⟨he,hb⟩=>⟨_,he,?_⟩
 .intro vs hvs;obtain⟨_,_,rfl,h1,ha⟩:=ja hvs;obtain⟨_,_,rfl,h2,hb⟩:=ja ha;obtain⟨_,_,rfl,h3,hc⟩:=ja hb;obtain⟨_,_,rfl,h4,hd⟩:=ja hc;obtain⟨_,_,rfl,h5,he⟩:=ja hd;cases f2_nil he;obtain⟨t,rfl⟩:=acg h1;obtain⟨l,rfl⟩:=ach h2;obtain⟨a,ia,rfl⟩:=HI h3;obtain⟨m,im,rfl⟩:=HI h4;obtain⟨b,ib,rfl⟩:=HI h5;exact Na ia im ib
 .exact Go.Sym.post_true R4 hW' rfl ahA aed aeb (λds hd=>by
   rw[ahB] at hd
   match ds,hd with
   |[d1,d2,d3,d4,d5],_=>rfl) hb
set_option maxHeartbeats 400000000 in
def ab9:joinedFacts Tryz.prog 5 Tryz.f5 Rows.boundPartsSpec Rows.boundPartsRow=true:=by
 unfold joinedFacts
 repeat' with_reducible apply aci
 all_goals (as_aux_lemma=>kernel_rfl)
def aca:Tryz.prog.funcNamed Rows.boundPartsRow.func=some 5:=by kernel_rfl
def Jw:Tryz.f5.isInstance Tryz.prog Rows.boundPartsRow.origin Rows.boundPartsRow.targs:=aT (by kernel_rfl)
def Mm:Tryz.f5.isWrapper Tryz.prog Rows.boundPartsRow.wrapper Rows.boundPartsRow.mainSum:=by unfold Func.isWrapper;rw[ac (by decide+kernel)];exact⟨rfl,rfl⟩
theorem boundParts_holds:Rows.BoundPartsSaid:=
 OpenClaim.holds_of_wide 5 Tryz.f5 rfl rfl rfl rfl rfl rfl rfl ⟨rfl,rfl,rfl,rfl,rfl⟩ rfl rfl rfl rfl rfl aca Tryz.func5 ab9 Jw Mm
  (λos started H enc _=>Vy os started H enc)
#print axioms boundParts_holds
end Go.Proofs.YtoeigdpfcnaaeaaGreat
