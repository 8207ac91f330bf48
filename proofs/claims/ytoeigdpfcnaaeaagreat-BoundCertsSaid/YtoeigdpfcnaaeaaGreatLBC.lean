import Derived.Test.YtoeigdpfcnaaeaaGreatLX
set_option linter.unusedVariables false
set_option linter.unusedSimpArgs false
set_option linter.defProp false
noncomputable section
namespace Go.Proofs.YtoeigdpfcnaaeaaGreat
open Go.Sym Bnd
open Go.ChangeShapes Go.WideShapes Go.ChangeAt Go.RowKit
set_option maxRecDepth 100000
def akL:FE Tryz.prog Tryz.f8.params.toList=some [(true,Ya),(false,[.sl Rj])]:=by kernel_rfl
def aom:Tryz.f8.resultTypes=#[4]:=by kernel_rfl
def akM:(Tryz.f8.params.toList.all λt=>Tryz.prog.readableRec t&& Nat.blt t Tryz.prog.types.size)=true:=by kernel_rfl
def aon:Tryz.f8.params.toList.length=2:=by kernel_rfl
def akN:D.lend 8=none:=by kernel_rfl
def abV (os:Os)(started:os.Started)(H:Type)(enc:TypeId×Value->H):
  ReturnsInHanded {} Tryz.checked os 8 .any (Rows.boundCertsSpec.pre6 enc Tryz.prog Tryz.f8 Rows.boundCertsRow.domain false) (Rows.boundCertsSpec.post enc Tryz.prog Tryz.f8 false true false false):=by
 refine returnsInHanded_of_change (C:=Tryz.checked) aop started (by kernel_rfl) Tryz.func8
  (ChangeSpec.witness6 (enc:=enc) (C:=Tryz.checked) false ⟨#[],#[.agg #[.int .u8 0,o0,o0,s0,o0,s0,s0,s0,s0,s0,s0,s0,s0,o0,o0,s0,o0,s0,s0,s0,s0,s0,s0,s0,s0,s0,o0,o0,s0,o0,s0,s0,s0,s0,s0,s0,s0,o0,s0,o0,o0,s0,o0,s0,s0,s0,s0,s0,s0,s0,s0],s0],[]⟩ 8 (by kernel_rfl) (by kernel_rfl) (by kernel_rfl) (by kernel_rfl)) ?_
 intro W base args ds gs before hval0 hW hcnd _;have hW':=hW;obtain⟨p,q,hA0,hV,rfl,hfz,hnd⟩:=hW;refine(Go.Sym.link (D:=D) (x:= .bool true) aoo akN (fn:=Tryz.f8) Tryz.func8 rfl akL hval0 hA0 ?_).mono λe W' ⟨he,hb⟩=>⟨_,he,?_⟩
 .intro vs hvs;obtain⟨_,_,rfl,h1,ha⟩:=dt hvs;obtain⟨_,_,rfl,h2,hb⟩:=dt ha;cases f2_nil hb;obtain⟨c,hc,rfl⟩:=abW h1;obtain⟨a,hi,rfl⟩:=abY h2;exact Sj hc hi
 .exact Go.Sym.post_true Yb hW' rfl aom akS akM (λds hd=>by
   rw[aon] at hd
   match ds,hd with
   |[d1,d2],_=>rfl) hb
set_option maxHeartbeats 400000000 in
def aiC:joinedFacts Tryz.prog 8 Tryz.f8 Rows.boundCertsSpec Rows.boundCertsRow=true:=by
 unfold joinedFacts
 repeat' with_reducible apply aiI
 all_goals (as_aux_lemma=>kernel_rfl)
def aiD:Tryz.prog.funcNamed Rows.boundCertsRow.func=some 8:=by kernel_rfl
def Od:Tryz.f8.isInstance Tryz.prog Rows.boundCertsRow.origin Rows.boundCertsRow.targs:=aZ (by kernel_rfl)
def Rh:Tryz.f8.isWrapper Tryz.prog Rows.boundCertsRow.wrapper Rows.boundCertsRow.mainSum:=by unfold Func.isWrapper;rw[ac (by decide+kernel)];exact⟨rfl,rfl⟩
theorem boundCerts_holds:Rows.BoundCertsSaid:=
 OpenClaim.holds_of_wide 8 Tryz.f8 rfl rfl rfl rfl rfl rfl rfl ⟨rfl,rfl,rfl,rfl,rfl⟩ rfl rfl rfl rfl rfl aiD Tryz.func8 aiC Od Rh
  (λos started H enc _=>abV os started H enc)
#print axioms boundCerts_holds
end Go.Proofs.YtoeigdpfcnaaeaaGreat
