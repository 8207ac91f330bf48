import Derived.Test.YtoeigdpfcnaaeaaGreatLCE
set_option linter.unusedVariables false
set_option linter.unusedSimpArgs false
set_option linter.defProp false
noncomputable section
namespace Go.Proofs.YtoeigdpfcnaaeaaGreat
open Go.Sym Bnd
open Go.ChangeShapes Go.WideShapes Go.ChangeAt Go.RowKit
set_option maxRecDepth 100000
def aha:Da Tryz.prog Tryz.f3.params.toList=some [(false,[.p (.i .u8)]),(true,[.sl [.i .i64,.i .i64,.i .i64]]),(true,[.p (.i .i64),.p (.i .i64)]),(true,[.p (.i .i64),.p (.i .i64)])]:=by kernel_rfl
def akB:Tryz.f3.resultTypes=#[4]:=by kernel_rfl
def ahb:(Tryz.f3.params.toList.all λt=>Tryz.prog.readableRec t&& Nat.blt t Tryz.prog.types.size)=true:=by kernel_rfl
def akC:Tryz.f3.params.toList.length=4:=by kernel_rfl
def ahc:D.lend 3=none:=by kernel_rfl
def Yi (os:Os)(started:os.Started)(H:Type)(enc:TypeId×Value->H):
  ReturnsInHanded {} Tryz.checked os 3 .any (Rows.boundEventsSpec.pre6 enc Tryz.prog Tryz.f3 Rows.boundEventsRow.domain false) (Rows.boundEventsSpec.post enc Tryz.prog Tryz.f3 false true false false):=by
 refine returnsInHanded_of_change (C:=Tryz.checked) akE started (by kernel_rfl) Tryz.func3
  (ChangeSpec.witness6 (enc:=enc) (C:=Tryz.checked) false ⟨#[],#[.int .u8 0,.agg #[s0],.agg #[o0,o0],.agg #[o0,o0]],[]⟩ 8 (by kernel_rfl) (by kernel_rfl) (by kernel_rfl) (by kernel_rfl)) ?_
 intro W base args ds gs before hval0 hW hcnd _;have hW':=hW;obtain⟨p,q,hA0,hV,rfl,hfz,hnd⟩:=hW;refine(Go.Sym.link (D:=D) (x:= .bool true) akD ahc (fn:=Tryz.f3) Tryz.func3 rfl aha hval0 hA0 ?_).mono λe W' ⟨he,hb⟩=>⟨_,he,?_⟩
 .intro vs hvs;obtain⟨_,_,rfl,h1,ha⟩:=kF hvs;obtain⟨_,_,rfl,h2,hb⟩:=kF ha;obtain⟨_,_,rfl,h3,hc⟩:=kF hb;obtain⟨_,_,rfl,h4,hd⟩:=kF hc;cases f2_nil hd;obtain⟨t,rfl⟩:=afc h1;obtain⟨l,rfl⟩:=afd h2;obtain⟨a,ia,rfl⟩:=SA h3;obtain⟨b,ib,rfl⟩:=SA h4;exact LF ia ib
 .exact Go.Sym.post_true UU hW' rfl akB ahd ahb (λds hd=>by
   rw[akC] at hd
   match ds,hd with
   |[d1,d2,d3,d4],_=>rfl) hb
set_option maxHeartbeats 400000000 in
def ae6:joinedFacts Tryz.prog 3 Tryz.f3 Rows.boundEventsSpec Rows.boundEventsRow=true:=by
 unfold joinedFacts
 repeat' with_reducible apply afe
 all_goals (as_aux_lemma=>kernel_rfl)
def ae7:Tryz.prog.funcNamed Rows.boundEventsRow.func=some 3:=by kernel_rfl
def Lw:Tryz.f3.isInstance Tryz.prog Rows.boundEventsRow.origin Rows.boundEventsRow.targs:=aX (by kernel_rfl)
def ON:Tryz.f3.isWrapper Tryz.prog Rows.boundEventsRow.wrapper Rows.boundEventsRow.mainSum:=by unfold Func.isWrapper;rw[ac (by decide+kernel)];exact⟨rfl,rfl⟩
theorem boundEvents_holds:Rows.BoundEventsSaid:=
 OpenClaim.holds_of_wide 3 Tryz.f3 rfl rfl rfl rfl rfl rfl rfl ⟨rfl,rfl,rfl,rfl,rfl⟩ rfl rfl rfl rfl rfl ae7 Tryz.func3 ae6 Lw ON
  (λos started H enc _=>Yi os started H enc)
#print axioms boundEvents_holds
end Go.Proofs.YtoeigdpfcnaaeaaGreat
