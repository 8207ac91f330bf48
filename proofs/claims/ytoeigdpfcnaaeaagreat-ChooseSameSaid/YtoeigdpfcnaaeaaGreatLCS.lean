import Derived.Test.YtoeigdpfcnaaeaaGreatLS
set_option linter.unusedVariables false
set_option linter.unusedSimpArgs false
set_option linter.defProp false
noncomputable section
namespace Go.Proofs.YtoeigdpfcnaaeaaGreat
open Go.Sym Bnd
open Go.ChangeShapes Go.WideShapes Go.ChangeAt Go.RowKit
set_option maxRecDepth 100000
def ajt:E8 Tryz.prog Tryz.f7.params.toList=some [(true,[.sl [.i .i64,.i .i64,.i .i64]]),(true,[.p (.i .i64),.p (.i .i64)]),(false,[.sl Qz])]:=by kernel_rfl
def amS:Tryz.f7.resultTypes=#[4]:=by kernel_rfl
def aju:(Tryz.f7.params.toList.all λt=>Tryz.prog.readableRec t&& Nat.blt t Tryz.prog.types.size)=true:=by kernel_rfl
def amT:Tryz.f7.params.toList.length=3:=by kernel_rfl
def ajv:D.lend 7=none:=by kernel_rfl
def aaR (os:Os)(started:os.Started)(H:Type)(enc:TypeId×Value->H):
  ReturnsInHanded {} Tryz.checked os 7 .any (Rows.chooseSameSpec.pre6 enc Tryz.prog Tryz.f7 Rows.chooseSameRow.domain false) (Rows.chooseSameSpec.post enc Tryz.prog Tryz.f7 false true false false):=by
 refine returnsInHanded_of_change (C:=Tryz.checked) amV started (by kernel_rfl) Tryz.func7
  (ChangeSpec.witness6 (enc:=enc) (C:=Tryz.checked) false ⟨#[],#[.agg #[s0],.agg #[o0,o0],s0],[]⟩ 8 (by kernel_rfl) (by kernel_rfl) (by kernel_rfl) (by kernel_rfl)) ?_
 intro W base args ds gs before hval0 hW hcnd _;have hW':=hW;obtain⟨p,q,hA0,hV,rfl,hfz,hnd⟩:=hW;refine(Go.Sym.link (D:=D) (x:= .bool true) amU ajv (fn:=Tryz.f7) Tryz.func7 rfl ajt hval0 hA0 ?_).mono λe W' ⟨he,hb⟩=>⟨_,he,?_⟩
 .intro vs hvs;obtain⟨_,_,rfl,h1,ha⟩:=gH hvs;obtain⟨_,_,rfl,h2,hb⟩:=gH ha;obtain⟨_,_,rfl,h3,hc⟩:=gH hb;cases f2_nil hc;obtain⟨l,rfl⟩:=ahn h1;obtain⟨a,ia,rfl⟩:=aho h2;obtain⟨k,ik,rfl⟩:=aaT h3;exact Rx ia ik
 .exact Go.Sym.post_true Xg hW' rfl amS ajw aju (λds hd=>by
   rw[amT] at hd
   match ds,hd with
   |[d1,d2,d3],_=>rfl) hb
set_option maxHeartbeats 400000000 in
def ahi:joinedFacts Tryz.prog 7 Tryz.f7 Rows.chooseSameSpec Rows.chooseSameRow=true:=by
 unfold joinedFacts
 repeat' with_reducible apply ahp
 all_goals (as_aux_lemma=>kernel_rfl)
def ahj:Tryz.prog.funcNamed Rows.chooseSameRow.func=some 7:=by kernel_rfl
def Nz:Tryz.f7.isInstance Tryz.prog Rows.chooseSameRow.origin Rows.chooseSameRow.targs:=bb (by kernel_rfl)
def Qy:Tryz.f7.isWrapper Tryz.prog Rows.chooseSameRow.wrapper Rows.chooseSameRow.mainSum:=by unfold Func.isWrapper;rw[ac (by decide+kernel)];exact⟨rfl,rfl⟩
theorem chooseSame_holds:Rows.ChooseSameSaid:=
 OpenClaim.holds_of_wide 7 Tryz.f7 rfl rfl rfl rfl rfl rfl rfl ⟨rfl,rfl,rfl,rfl,rfl⟩ rfl rfl rfl rfl rfl ahj Tryz.func7 ahi Nz Qy
  (λos started H enc _=>aaR os started H enc)
#print axioms chooseSame_holds
end Go.Proofs.YtoeigdpfcnaaeaaGreat
