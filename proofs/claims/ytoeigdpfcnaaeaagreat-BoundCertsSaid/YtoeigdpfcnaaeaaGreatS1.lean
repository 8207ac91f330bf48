import Derived.Test.YtoeigdpfcnaaeaaGreatBcT
import Derived.Test.YtoeigdpfcnaaeaaGreatM3
import Derived.Shelf.Sort.Plain
import Derived.Lib.Walk
import Derived.LoopN
set_option linter.unusedVariables false
set_option linter.unusedSimpArgs false
set_option linter.defProp false
noncomputable section
namespace Go.Proofs.YtoeigdpfcnaaeaaGreat
open Go.Sym Bnd
open Go.Sort Go.Shelf
set_option maxRecDepth 100000
def S0 (g:Nat):Bool:=Nn [66,95,114,115,117,119,166,192,193,213,215,216,219,220,244,278,279,280,281,299,310,328,360,362,363,395,421] g
def ajh:(tab.all λe=>!S0 e.1||fY S0 e.2)=true:=by kernel_rfl
def gc {α:Type}:∀{l:List (Nat×α)} {g:Nat} {a:α},Go.Sym.look l g=some a->(g,a)∈l|[],_,_,h=>by cases h|(x,b)::l,g,a,h=>by rw[eY] at h;split at h;rename_i e;subst e;cases h;exact b7 ..;exact aS _ (gc h)
def aji (g:Nat)(k:K)(hg:S0 g=true)(h:D.T g=some k):fY S0 k=true:=by have:=aV.1 ajh _ (gc h);simpa [hg] using this
def D1:Dt:={D with X:=λ_ _=>none,loud:=false}
def aox:DtOk D1 where
 T:=λg k h=>Sk.ok g k h
 X:=λg vs rs _ h=>by cases h
 fol:=by kernel_rfl
def NJ:∀{l:Ω} {g:Nat},Nn l g=true->g∈l|[],_,h=>by cases h|x::l,g,h=>by unfold Nn at h;cases e:Nat.beq x g with|true=>rw[bB e];exact b7 ..|false=>rw[e] at h;exact aS _ (NJ h)
def noX:∀g,S0 g=true->D.X g=λ_=>none:=λg hg=>by have h:=NJ hg;revert g;suffices∀g∈[66,95,114,115,117,119,166,192,193,213,215,216,219,220,244,278,279,280,281,299,310,328,360,362,363,395,421],D.X g=λ_=>none fromλg _ h=>this g h;(repeat refine List.forall_mem_cons.2 ⟨(by funext vs;rfl),?_⟩);intro x h;cases h
def inW {g:FuncId}{vs rs:Γ}(hg:S0 g=true)(h:Ans D g vs rs):jD D1.toDcf g vs rs:=abb aox (Y3 false (Y2 (S:=S0) noX aji hg h))
def NK {w w':World}(h:Frm w.heap.size (D1.lf none w) w w'):∃q os,w'=Go.Sort.grow (w.drewN q) os:=by (have hl:∀B,¬D1.lf none w B:=λB h=>h.elim (λ⟨_,h⟩=>by cases h) λh=>by cases h.1);have⟨h1,h2,h3,h4,h5,h6⟩:=h;have h6:=h6 (hl _);refine⟨w'.drawn-w.drawn,w'.heap.extract w.heap.size w'.heap.size,?_⟩;(have hh:w'.heap=w.heap++w'.heap.extract w.heap.size w'.heap.size:=by apply Array.ext_getElem?;intro k;by_cases hk:k<w.heap.size;rw[th hk];exact h5 k hk (hl _);rw[Array.getElem?_append_right ω,Array.getElem?_extract];by_cases hk2:k<w'.heap.size;rw[ad ω];congr 1;omega;rw[ac ω,xa ω]);cases w';cases w;simp only at h1 h2 h3 h6 hh;subst h1 h2 h3;unfold Go.Sort.grow World.drewN;simp only at*;rw[<-hh];congr 1;omega
def nO {w:World}{S:Ξ}{v:Value}{k:IntKind}{n:Int}(h:RT w S v (.v (.int k n))):v= .int k n:=by cases h with|v h=>rfl
end Go.Proofs.YtoeigdpfcnaaeaaGreat
