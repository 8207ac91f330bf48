import Derived.Test.YtoeigdpfcnaaeaaGreatLC
set_option linter.unusedVariables false
set_option linter.unusedSimpArgs false
set_option linter.defProp false
noncomputable section
namespace Go.Proofs.YtoeigdpfcnaaeaaGreat
open Go.Sym Bnd
open Go.ChangeShapes Go.WideShapes Go.ChangeAt Go.RowKit
set_option maxRecDepth 100000
def aeG:BY Tryz.prog Tryz.f4.params.toList=some [(false,[.p (.i .u8)]),(true,[.sl [.i .i64,.i .i64,.i .i64]]),(true,[.p (.i .i64),.p (.i .i64)]),(true,[.p (.i .i64),.p (.i .i64)])]:=by kernel_rfl
def ah7:Tryz.f4.resultTypes=#[4]:=by kernel_rfl
def aeH:(Tryz.f4.params.toList.all λt=>Tryz.prog.readableRec t&& Nat.blt t Tryz.prog.types.size)=true:=by kernel_rfl
def ah8:Tryz.f4.params.toList.length=4:=by kernel_rfl
def aeI:D.lend 4=none:=by kernel_rfl
def V1 (os:Os)(started:os.Started)(H:Type)(enc:TypeId×Value->H):
  ReturnsInHanded {} Tryz.checked os 4 .any (Rows.boundMostSpec.pre6 enc Tryz.prog Tryz.f4 Rows.boundMostRow.domain false) (Rows.boundMostSpec.post enc Tryz.prog Tryz.f4 false true false false):=by
 refine returnsInHanded_of_change (C:=Tryz.checked) aia started (by kernel_rfl) Tryz.func4
  (ChangeSpec.witness6 (enc:=enc) (C:=Tryz.checked) false ⟨#[],#[.int .u8 0,.agg #[s0],.agg #[o0,o0],.agg #[o0,o0]],[]⟩ 8 (by kernel_rfl) (by kernel_rfl) (by kernel_rfl) (by kernel_rfl)) ?_
 intro W base args ds gs before hval0 hW hcnd _;have hW':=hW;obtain⟨p,q,hA0,hV,rfl,hfz,hnd⟩:=hW;refine(Go.Sym.link (D:=D) (x:= .bool true) ah9 aeI (fn:=Tryz.f4) Tryz.func4 rfl aeG hval0 hA0 ?_).mono λe W' ⟨he,hb⟩=>⟨_,he,?_⟩
 .intro vs hvs;obtain⟨_,_,rfl,h1,ha⟩:=jS hvs;obtain⟨_,_,rfl,h2,hb⟩:=jS ha;obtain⟨_,_,rfl,h3,hc⟩:=jS hb;obtain⟨_,_,rfl,h4,hd⟩:=jS hc;cases f2_nil hd;obtain⟨t,rfl⟩:=acJ h1;obtain⟨l,rfl⟩:=acK h2;obtain⟨a,ia,rfl⟩:=Qj h3;obtain⟨b,ib,rfl⟩:=Qj h4;exact Rx ia ib
 .exact Go.Sym.post_true SE hW' rfl ah7 aeJ aeH (λds hd=>by
   rw[ah8] at hd
   match ds,hd with
   |[d1,d2,d3,d4],_=>rfl) hb
set_option maxHeartbeats 400000000 in
def acD:joinedFacts Tryz.prog 4 Tryz.f4 Rows.boundMostSpec Rows.boundMostRow=true:=by
 unfold joinedFacts
 repeat' with_reducible apply acL
 all_goals (as_aux_lemma=>kernel_rfl)
def acE:Tryz.prog.funcNamed Rows.boundMostRow.func=some 4:=by kernel_rfl
def JQ:Tryz.f4.isInstance Tryz.prog Rows.boundMostRow.origin Rows.boundMostRow.targs:=aT (by kernel_rfl)
def MH:Tryz.f4.isWrapper Tryz.prog Rows.boundMostRow.wrapper Rows.boundMostRow.mainSum:=by unfold Func.isWrapper;rw[ac (by decide+kernel)];exact⟨rfl,rfl⟩
theorem boundMost_holds:Rows.BoundMostSaid:=
 OpenClaim.holds_of_wide 4 Tryz.f4 rfl rfl rfl rfl rfl rfl rfl ⟨rfl,rfl,rfl,rfl,rfl⟩ rfl rfl rfl rfl rfl acE Tryz.func4 acD JQ MH
  (λos started H enc _=>V1 os started H enc)
#print axioms boundMost_holds
end Go.Proofs.YtoeigdpfcnaaeaaGreat
