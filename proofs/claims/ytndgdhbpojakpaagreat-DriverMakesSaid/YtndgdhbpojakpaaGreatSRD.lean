import Derived.Test.YtndgdhbpojakpaaGreatSRC
set_option linter.unusedVariables false
set_option linter.unusedSimpArgs false
set_option linter.defProp false
noncomputable section
namespace Go.Proofs.YtndgdhbpojakpaaGreat
open Go.Sym Bnd
open Go.Shelf Go.RowKit Go.Lib
set_option maxRecDepth 100000
def Fj {w:World}{S:Nat->Prop}:∀{l:List Pt} {vs:List Value},RTs w S vs (l.map row).flatten->vs=l.flatMap kI
 |[],_,h=>by cases h;rfl
 |p::l,_,h=>by
  rw[bO,dz] at h;have h:RTs w S _ (.i64 p.id:: .i64 p.a:: .i64 p.b::(l.map row).flatten):=h;cases h with
  |cons h1 h=>
   cases h with
   |cons h2 h=>
    cases h with
    |cons h3 h=>
     rw[jz h1,jz h2,jz h3,Fj h];rfl
def Fk {w:World}{S:Nat->Prop}:∀{l:List Pt},RTs w S (l.flatMap kI) (l.map row).flatten
 |[]=> .nil
 |_::_=> .cons (.v rfl) (.cons (.v rfl) (.cons (.v rfl) Fk))
def MA {l:List Pt}(hl:l.length<=1000){w:World}{S:Nat->Prop}{v:Value}(hv:RT w S v (sl row l))(hS:∀B,S B->B<w.heap.size):
  Calls Tryz.prog 43 #[v] w λe w'=>∃u,e= .returned u/\(∃q os,w'=Go.Sort.grow (w.drewN q) os)/\
   ((l=[]/\ fm u)\/∃B cap arr,u= .slice (some ⟨B,0,none⟩) l.length cap/\ l.length<=cap/\ cap*3<=arr.size/\ Row w' B arr/\ w.heap.size<=B/\ B<w'.heap.size/\ arr.toList.take (l.length*3)=l.flatMap kI):=by
 obtain⟨fn,h1,_,_,_,h5⟩:=(inW (by decide) (d67 hl)).plain (by kernel_rfl);have hf:D.toDcf.P.funcs[43]?=some Tryz.f43:=Tryz.func43;rw[hf] at h1;cases h1;refine(h5 w S _ (.cons hv .nil) hS).mono ?_;rintro e w' ⟨u,S',us,Bs,rfl,a⟩;have hr:=a.rr;have hs:D.toDcf.slots 43=[[some 3]]:=by kernel_rfl
 rw[show Tryz.f43.resultTypes.toList=[24] from rfl,hs] at hr
 have a24:bF D.toDcf.P 24=some false:=by kernel_rfl
 refine⟨u,rfl,wI a.fr,?_⟩;cases hr with
 |cons hr h2=>
  cases h2;unfold RR at hr;rw[a24] at hr;rcases hr with⟨h,_⟩|hr
  .cases h
  .generalize he:sl row l=P at hr;cases hr with
   |own hz h t=>
    cases t;cases he;obtain⟨cap,arr,rfl,⟨q1,q2⟩,q3,q4,q5,q6⟩:=h;rw[aj] at q1 q6;have ho:=a.own _ (cC.2 rfl);exact .inr ⟨_,cap,arr,by rw[a.u,aj];rfl,q1,q3,q4,ho.1.resolve_right (λh=>h),ho.2.2,Fj q6⟩
   |none hz h t=>
    cases t;have hl:l=[]:=by
     cases l with
     |nil=>rfl
     |cons=>cases he
    refine .inl ⟨hl,?_⟩;rw[a.u];exact h
end Go.Proofs.YtndgdhbpojakpaaGreat
