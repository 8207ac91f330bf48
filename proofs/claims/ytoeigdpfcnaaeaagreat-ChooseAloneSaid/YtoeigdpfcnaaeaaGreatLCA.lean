import Derived.Test.YtoeigdpfcnaaeaaGreatLE
set_option linter.unusedVariables false
set_option linter.unusedSimpArgs false
set_option linter.defProp false
noncomputable section
namespace Go.Proofs.YtoeigdpfcnaaeaaGreat
open Go.Sym Bnd
open Go.ChangeShapes Go.WideShapes Go.ChangeAt Go.RowKit
set_option maxRecDepth 100000
def ahT:D7 Tryz.prog Tryz.f6.params.toList=some [(true,VM),(true,afM)]:=by kernel_rfl
def alo:Tryz.f6.resultTypes=#[4]:=by kernel_rfl
def ahU:(Tryz.f6.params.toList.all λt=>Tryz.prog.readableRec t&& Nat.blt t Tryz.prog.types.size)=true:=by kernel_rfl
def alp:Tryz.f6.params.toList.length=2:=by kernel_rfl
def ahV:D.lend 6=none:=by kernel_rfl
def Zr (os:Os)(started:os.Started)(H:Type)(enc:TypeId×Value->H):
  ReturnsInHanded {} Tryz.checked os 6 .any (Rows.chooseAloneSpec.pre6 enc Tryz.prog Tryz.f6 Rows.chooseAloneRow.domain false) (Rows.chooseAloneSpec.post enc Tryz.prog Tryz.f6 false true false false):=by
 refine returnsInHanded_of_change (C:=Tryz.checked) alr started (by kernel_rfl) Tryz.func6
  (ChangeSpec.witness6 (enc:=enc) (C:=Tryz.checked) false ⟨#[],#[.agg #[.int .u8 0,o0,o0,s0,o0,s0,s0,s0,s0,s0,s0,s0,s0,o0,o0,s0,o0,s0,s0,s0,s0,s0,s0,s0,s0,s0,o0,o0,s0,o0,s0,s0,s0,s0,s0,s0,s0,o0,s0,o0,o0,s0,o0,s0,s0,s0,s0,s0,s0,s0,s0],.agg #[.int .u8 0,o0,o0,o0,o0,o0,o0]],[]⟩ 8 (by kernel_rfl) (by kernel_rfl) (by kernel_rfl) (by kernel_rfl)) ?_
 intro W base args ds gs before hval0 hW hcnd _;have hW':=hW;obtain⟨p,q,hA0,hV,rfl,hfz,hnd⟩:=hW;refine(Go.Sym.link (D:=D) (x:= .bool true) alq ahV (fn:=Tryz.f6) Tryz.func6 rfl ahT hval0 hA0 ?_).mono λe W' ⟨he,hb⟩=>⟨_,he,?_⟩
 .intro vs hvs;obtain⟨_,_,rfl,h1,ha⟩:=df hvs;obtain⟨_,_,rfl,h2,hb⟩:=df ha;cases f2_nil hb;obtain⟨c,hc,rfl⟩:=Zs h1;obtain⟨a,hi,rfl⟩:=afR h2;exact Mp hc hi
 .exact Go.Sym.post_true VN hW' rfl alo ah0 ahU (λds hd=>by
   rw[alp] at hd
   match ds,hd with
   |[d1,d2],_=>rfl) hb
set_option maxHeartbeats 400000000 in
def afK:joinedFacts Tryz.prog 6 Tryz.f6 Rows.chooseAloneSpec Rows.chooseAloneRow=true:=by
 unfold joinedFacts
 repeat' with_reducible apply afS
 all_goals (as_aux_lemma=>kernel_rfl)
def afL:Tryz.prog.funcNamed Rows.chooseAloneRow.func=some 6:=by kernel_rfl
def Mi:Tryz.f6.isInstance Tryz.prog Rows.chooseAloneRow.origin Rows.chooseAloneRow.targs:=ba (by kernel_rfl)
def Pi:Tryz.f6.isWrapper Tryz.prog Rows.chooseAloneRow.wrapper Rows.chooseAloneRow.mainSum:=by unfold Func.isWrapper;rw[ac (by decide+kernel)];exact⟨rfl,rfl⟩
theorem chooseAlone_holds:Rows.ChooseAloneSaid:=
 OpenClaim.holds_of_wide 6 Tryz.f6 rfl rfl rfl rfl rfl rfl rfl ⟨rfl,rfl,rfl,rfl,rfl⟩ rfl rfl rfl rfl rfl afL Tryz.func6 afK Mi Pi
  (λos started H enc _=>Zr os started H enc)
#print axioms chooseAlone_holds
end Go.Proofs.YtoeigdpfcnaaeaaGreat
