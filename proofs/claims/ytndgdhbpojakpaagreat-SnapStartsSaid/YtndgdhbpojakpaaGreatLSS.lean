import Derived.Test.YtndgdhbpojakpaaGreatLB
set_option linter.unusedVariables false
set_option linter.unusedSimpArgs false
set_option linter.defProp false
noncomputable section
namespace Go.Proofs.YtndgdhbpojakpaaGreat
open Go.Sym Bnd
open Go.ChangeShapes Go.WideShapes Go.ChangeAt Go.RowKit
set_option maxRecDepth 100000
def ZS:xX Tryz.prog Tryz.f3.params.toList=some [(true,dvK),(true,snK)]:=by kernel_rfl
def adl:Tryz.f3.resultTypes=#[4]:=by kernel_rfl
def ZT:(Tryz.f3.params.toList.all λt=>Tryz.prog.readableRec t&& Nat.blt t Tryz.prog.types.size)=true:=by kernel_rfl
def adm:Tryz.f3.params.toList.length=2:=by kernel_rfl
def ZU:D.lend 3=none:=by kernel_rfl
def Qp (os:Os)(started:os.Started)(H:Type)(enc:TypeId×Value->H):
  ReturnsInHanded {} Tryz.checked os 3 .any (Rows.snapStartsSpec.pre6 enc Tryz.prog Tryz.f3 Rows.snapStartsRow.domain false) (Rows.snapStartsSpec.post enc Tryz.prog Tryz.f3 false true false false):=by
 refine returnsInHanded_of_change (C:=Tryz.checked) adk started (by kernel_rfl) Tryz.func3
  (ChangeSpec.witness6 (enc:=enc) (C:=Tryz.checked) false ⟨#[],#[.agg #[.int .u8 0,o0,o0,s0,o0,s0,s0,s0,s0,s0,s0,s0,s0,o0,o0,s0,o0,s0,s0,s0,s0,s0,s0,s0,s0,s0,o0,o0,s0,o0,s0,s0,s0,s0,s0,s0,s0,o0,s0,o0,o0,s0,o0,s0,s0,s0,s0,s0,s0,s0,s0,o0,o0,s0,o0,s0,s0,s0,s0,s0,s0,s0,s0,s0],.agg #[.int .u8 0,o0,o0,s0]],[]⟩ 8 (by kernel_rfl) (by kernel_rfl) (by kernel_rfl) (by kernel_rfl)) ?_
 intro W base args ds gs before hval0 hW hcnd _;have hW':=hW;obtain⟨p,q,hA0,hV,rfl,hfz,hnd⟩:=hW;refine(Go.Sym.link (D:=D) (x:= .bool true) adj ZU (fn:=Tryz.f3) Tryz.func3 rfl ZS hval0 hA0 ?_).mono λe W' ⟨he,hb⟩=>⟨_,he,?_⟩
 .intro vs hvs;obtain⟨_,_,rfl,h1,ha⟩:=cF hvs;obtain⟨_,_,rfl,h2,hb⟩:=cF ha;cases f2_nil hb;obtain⟨d,hd,rfl⟩:=ZO h1;obtain⟨g,m,hm,rfl⟩:=ZQ h2;exact Ig hd hm
 .exact Go.Sym.post_true Na hW' rfl adl ZR ZT (λds hd=>by
   rw[adm] at hd
   match ds,hd with
   |[d1,d2],_=>rfl) hb
set_option maxHeartbeats 400000000 in
def Yn:joinedFacts Tryz.prog 3 Tryz.f3 Rows.snapStartsSpec Rows.snapStartsRow=true:=by
 unfold joinedFacts
 repeat' with_reducible apply Ym
 all_goals (as_aux_lemma=>kernel_rfl)
def Yo:Tryz.prog.funcNamed Rows.snapStartsRow.func=some 3:=by kernel_rfl
def Fk:Tryz.f3.isInstance Tryz.prog Rows.snapStartsRow.origin Rows.snapStartsRow.targs:=aU (by kernel_rfl)
def Hr:Tryz.f3.isWrapper Tryz.prog Rows.snapStartsRow.wrapper Rows.snapStartsRow.mainSum:=by unfold Func.isWrapper;rw[ac (by decide+kernel)];exact⟨rfl,rfl⟩
theorem snapStarts_holds:Rows.SnapStartsSaid:=
 OpenClaim.holds_of_wide 3 Tryz.f3 rfl rfl rfl rfl rfl rfl rfl ⟨rfl,rfl,rfl,rfl,rfl⟩ rfl rfl rfl rfl rfl Yo Tryz.func3 Yn Fk Hr
  (λos started H enc _=>Qp os started H enc)
#print axioms snapStarts_holds
end Go.Proofs.YtndgdhbpojakpaaGreat
