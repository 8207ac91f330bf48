import Derived.Test.YtndgdhbpojakpaaGreatSRA
import Derived.Test.YtndgdhbpojakpaaGreatSO
import Derived.Test.YtndgdhbpojakpaaGreatSF
set_option linter.unusedVariables false
set_option linter.unusedSimpArgs false
set_option linter.defProp false
noncomputable section
namespace Go.Proofs.YtndgdhbpojakpaaGreat
open Go.Sym Bnd
open Go.Sort Go.Shelf
set_option maxRecDepth 100000
def D1:Dt:={D with X:=ko 208}
def adY:DtOk D1 where
 T:=λg k h=>IB.ok g k h
 X:=λg vs rs _ h=>by
  have hg:Nat.beq g 208=true:=by
   cases e:Nat.beq g 208 with
   |true=>rfl
   |false=>
    have h:ko 208 g vs=some rs:=h;unfold ko at h;rw[e] at h;cases h
  have hg:=ba hg;subst hg;exact E9 (fn:=Tryz.f208) Tryz.func208 (by simp[Tryz.f208]) (by decide) rfl (by kernel_rfl) Io In h
 fol:=by kernel_rfl
def inW {g:FuncId}{vs rs:List PV}(hg:S0 g=true)(h:Ans D g vs rs):gj D.toDcf g vs rs:=
 P4 adY (Ow (S:=S0) (λg hg=>by
  funext vs
  show(match Nat.beq g 126 with|true=>ur vs|false=>ko 208 g vs)=_
  cases e:Nat.beq g 126 with
  |true=>
   have:=ba e;subst this;exact absurd hg (by decide)
  |false=>rfl) Zl hg h)
def wI {w w':World}(h:Frm w.heap.size (λ_=>False) w w'):∃q os,w'=Go.Sort.grow (w.drewN q) os:=by
 obtain⟨h1,h2,h3,h4,h5,h6⟩:=h;refine⟨w'.drawn-w.drawn,w'.heap.extract w.heap.size w'.heap.size,?_⟩;have hh:w'.heap=w.heap++w'.heap.extract w.heap.size w'.heap.size:=by
  apply Array.ext_getElem?;intro k;by_cases hk:k<w.heap.size
  .rw[nS hk];exact h5 k hk (λh=>h)
  .rw[Array.getElem?_append_right (by omega),Array.getElem?_extract];by_cases hk2:k<w'.heap.size
   .rw[ad (by omega)]
    congr 1
    omega
   .rw[ac (by omega),qD (by omega)]
 cases w';cases w;simp only at h1 h2 h3 h6 hh;subst h1 h2 h3;unfold Go.Sort.grow World.drewN;simp only at*;rw[<-hh]
 congr 1
 omega
def jz {w:World}{S:Nat->Prop}{v:Value}{k:IntKind}{n:Int}(h:RT w S v (.v (.int k n))):v= .int k n:=by
 cases h with
 |v h=>rfl
def Qf {g:FuncId}{ps:List PV}{n:Int}{t:TypeId}{fn:Func}(h:gj D.toDcf g ps [.i64 n])(hl:D.lend g=none)(hf:D.P.funcs[g]?=some fn)(ht:fn.resultTypes=#[t])(hs:D.slots g=[])(ha:bF D.P t=some false){w:World}{S:Nat->Prop}{vs:Array Value}(hv:F2 (RT w S) vs.toList ps)(hS:∀B,S B->B<w.heap.size):
  Calls D.P g vs w λe w'=>e= .returned (.int .i64 n)/\∃q os,w'=Go.Sort.grow (w.drewN q) os:=by
 obtain⟨fn',h1,_,_,_,h5⟩:=h.plain hl;rw[hf] at h1;cases h1;refine(h5 w S vs hv hS).mono ?_;rintro e w' ⟨u,S',us,Bs,rfl,a⟩;have hr:=a.rr;rw[ht,hs] at hr;cases hr with
 |cons hr ht=>
  cases ht;unfold RR at hr;rw[ha] at hr;rcases hr with⟨_,_,h,_⟩|h
  .have e:=jz h;subst e;have:=a.u;exact⟨by rw[this];rfl,wI a.fr⟩
  .cases h
end Go.Proofs.YtndgdhbpojakpaaGreat
