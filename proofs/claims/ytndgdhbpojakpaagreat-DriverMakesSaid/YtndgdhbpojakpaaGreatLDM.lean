import Derived.Test.YtndgdhbpojakpaaGreatLB
set_option linter.unusedVariables false
set_option linter.unusedSimpArgs false
set_option linter.defProp false
noncomputable section
namespace Go.Proofs.YtndgdhbpojakpaaGreat
open Go.Sym Bnd
open Go.ChangeShapes Go.WideShapes Go.ChangeAt Go.RowKit
set_option maxRecDepth 100000
def aad:ye Tryz.prog Tryz.f4.params.toList=some [(false,[.p (.i .u8)]),(true,moK),(true,dvK)]:=by kernel_rfl
def adQ:Tryz.f4.resultTypes=#[4]:=by kernel_rfl
def aae:(Tryz.f4.params.toList.all λt=>Tryz.prog.readableRec t&& Nat.blt t Tryz.prog.types.size)=true:=by kernel_rfl
def adR:Tryz.f4.params.toList.length=3:=by kernel_rfl
def aaf:D.lend 4=none:=by kernel_rfl
def QJ (os:Os)(started:os.Started)(H:Type)(enc:TypeId×Value->H):
  ReturnsInHanded {} Tryz.checked os 4 .any (Rows.driverMakesSpec.pre6 enc Tryz.prog Tryz.f4 Rows.driverMakesRow.domain false) (Rows.driverMakesSpec.post enc Tryz.prog Tryz.f4 false true false false):=by
 refine returnsInHanded_of_change (C:=Tryz.checked) adP started (by kernel_rfl) Tryz.func4
  (ChangeSpec.witness6 (enc:=enc) (C:=Tryz.checked) false ⟨#[],#[.int .u8 0,.agg #[o0,o0,s0],.agg #[.int .u8 0,o0,o0,s0,o0,s0,s0,s0,s0,s0,s0,s0,s0,o0,o0,s0,o0,s0,s0,s0,s0,s0,s0,s0,s0,s0,o0,o0,s0,o0,s0,s0,s0,s0,s0,s0,s0,o0,s0,o0,o0,s0,o0,s0,s0,s0,s0,s0,s0,s0,s0,o0,o0,s0,o0,s0,s0,s0,s0,s0,s0,s0,s0,s0]],[]⟩ 8 (by kernel_rfl) (by kernel_rfl) (by kernel_rfl) (by kernel_rfl)) ?_
 intro W base args ds gs before hval0 hW hcnd _;have hW':=hW;obtain⟨p,q,hA0,hV,rfl,hfz,hnd⟩:=hW;refine(Go.Sym.link (D:=D) (x:= .bool true) adO aaf (fn:=Tryz.f4) Tryz.func4 rfl aad hval0 hA0 ?_).mono λe W' ⟨he,hb⟩=>⟨_,he,?_⟩
 .intro vs hvs;obtain⟨_,_,rfl,h1,ha⟩:=cD hvs;obtain⟨_,_,rfl,h2,hb⟩:=cD ha;obtain⟨_,_,rfl,h3,hc⟩:=cD hb;cases f2_nil hc;obtain⟨g,rfl⟩:=YI h1;obtain⟨m,hm,rfl⟩:=YH h2;obtain⟨d,hd,rfl⟩:=aaa h3;exact FG g hm hd
 .exact Go.Sym.post_true Nw hW' rfl adQ aac aae (λds hd=>by
   rw[adR] at hd
   match ds,hd with
   |[d1,d2,d3],_=>rfl) hb
set_option maxHeartbeats 400000000 in
def YK:joinedFacts Tryz.prog 4 Tryz.f4 Rows.driverMakesSpec Rows.driverMakesRow=true:=by
 unfold joinedFacts
 repeat' with_reducible apply YJ
 all_goals (as_aux_lemma=>kernel_rfl)
def YL:Tryz.prog.funcNamed Rows.driverMakesRow.func=some 4:=by kernel_rfl
def Fy:Tryz.f4.isInstance Tryz.prog Rows.driverMakesRow.origin Rows.driverMakesRow.targs:=aU (by kernel_rfl)
def HJ:Tryz.f4.isWrapper Tryz.prog Rows.driverMakesRow.wrapper Rows.driverMakesRow.mainSum:=by unfold Func.isWrapper;rw[ac (by decide+kernel)];exact⟨rfl,rfl⟩
theorem driverMakes_holds:Rows.DriverMakesSaid:=
 OpenClaim.holds_of_wide 4 Tryz.f4 rfl rfl rfl rfl rfl rfl rfl ⟨rfl,rfl,rfl,rfl,rfl⟩ rfl rfl rfl rfl rfl YL Tryz.func4 YK Fy HJ
  (λos started H enc _=>QJ os started H enc)
#print axioms driverMakes_holds
end Go.Proofs.YtndgdhbpojakpaaGreat
