import Derived.Test.YtndgdhbpojakpaaGreatSRF
set_option linter.unusedVariables false
set_option linter.unusedSimpArgs false
set_option linter.defProp false
noncomputable section
namespace Go.Proofs.YtndgdhbpojakpaaGreat
open Go.Sym Bnd
open Go.Shelf Go.RowKit Go.Lib
set_option maxRecDepth 100000
def MB {w:World}{S:Nat->Prop}{v:Value}{cs:List PV}(h:RT w S v (.agg cs)):∃a:Array Value,v= .agg a/\ RTs w S a.toList cs:=by
 cases h with
 |agg h _=>exact⟨_,rfl,h⟩
def RB (hC:Ip)(hN:Iq){vs rs:List PV}(hx:ur vs=some rs):gj D.toDcf 126 vs rs:=by
 obtain⟨l,t,rfl,h,rfl⟩:=Mo hx;refine⟨Tryz.f126,Tryz.func126,by simp[Tryz.f126],by decide,by kernel_rfl,?_⟩;rw[show D.toDcf.lend 126=none by kernel_rfl]
 intro w S vs hvs hS;obtain⟨vs⟩:=vs;cases hvs with
 |cons h1 hvs=>
  cases hvs with
  |cons h2 hvs=>
   cases hvs;obtain⟨a,rfl,g1⟩:=MB h1;obtain⟨b,rfl,g2⟩:=MB h2;obtain⟨a⟩:=a;obtain⟨b⟩:=b;cases g1 with
   |cons hv g1=>
    cases g1;cases g2 with
    |cons e1 g2=>
     cases g2 with
     |cons e2 g2=>
      cases g2;rw[jz e1,jz e2];refine(OC hC hN h hv hS).mono ?_;rintro e w' ⟨u,rfl,S',r1,r2,r3,r4,r5⟩;refine⟨_,S',[u,.int .i64 0],[],rfl,⟨rfl,?_,jR,(λ_ h=>by cases h),⟨r3,(sub_kp hS r2).get⟩,r4,λB hB=>(r5 B hB).imp_right .inl,r2⟩⟩;have hs:D.toDcf.slots 126=[]:=by kernel_rfl
      rw[show Tryz.f126.resultTypes.toList=[24,65] from rfl,hs]
      have a24:bF D.toDcf.P 24=some false:=by kernel_rfl
      have a65:bF D.toDcf.P 65=some false:=by kernel_rfl
      refine .cons (Bs:=[]) ?_ (.cons (Bs:=[]) ?_ .nil)
      .unfold RR;rw[a24];exact .inl ⟨rfl,rfl,r1,rfl⟩
      .unfold RR;rw[a65];exact .inl ⟨rfl,rfl,.v rfl,rfl⟩
end Go.Proofs.YtndgdhbpojakpaaGreat
