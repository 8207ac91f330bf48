import Derived.Test.YtoeigdpfcnaaeaaGreatBcT
import Derived.Test.YtoeigdpfcnaaeaaGreatM3
import Derived.Shelf.Sort.Plain
import Derived.Lib.Walk
import Derived.LoopN
set_option linter.unusedVariables false
set_option linter.unusedSimpArgs false
set_option linter.defProp false
noncomputable section
namespace Go.Proofs.YtoeigdpfcnaaeaaGreat
open Go.Sym Bnd
open Go.Sort Go.Shelf
set_option maxRecDepth 100000
def S0 (g:Nat):Bool:=KS [66,95,114,115,117,119,166,192,193,213,215,216,219,220,244,278,279,280,281,299,310,328,360,362,363,395,421] g
def afO:(tab.all λe=>!S0 e.1||fo S0 e.2)=true:=by kernel_rfl
def fB {α:Type}:∀{l:List (Nat×α)} {g:Nat} {a:α},Go.Sym.look l g=some a->(g,a)∈l
 |[],_,_,h=>by cases h
 |(x,b)::l,g,a,h=>by
  rw[ee] at h;split at h
  .rename_i e;subst e;cases h;exact cq ..
  .exact aU _ (fB h)
def afP (g:Nat)(k:K)(hg:S0 g=true)(h:D.T g=some k):fo S0 k=true:=by
 have:=aV.1 afO _ (fB h);simpa [hg] using this
def D1:Dt:={D with X:=λ_ _=>none,loud:=false}
def akM:DtOk D1 where
 T:=λg k h=>PB.ok g k h
 X:=λg vs rs _ h=>by cases h
 fol:=by kernel_rfl
def Lh:∀{l:List Nat} {g:Nat},KS l g=true->g∈l
 |[],_,h=>by cases h
 |x::l,g,h=>by
  unfold KS at h;cases e:Nat.beq x g with
  |true=>rw[bm e];exact cq ..
  |false=>rw[e] at h;exact aU _ (Lh h)
def noX:∀g,S0 g=true->D.X g=λ_=>none:=λg hg=>by
 have h:=Lh hg
 revert g
 suffices∀g∈[66,95,114,115,117,119,166,192,193,213,215,216,219,220,244,278,279,280,281,299,310,328,360,362,363,395,421],D.X g=λ_=>none fromλg _ h=>this g h
 repeat refine List.forall_mem_cons.2 ⟨(by funext vs;rfl),?_⟩
 intro x h;cases h
def inW {g:FuncId}{vs rs:List PV}(hg:S0 g=true)(h:Ans D g vs rs):jo D1.toDcf g vs rs:=
 XA akM (VT false (VS (S:=S0) noX afP hg h))
def Li {w w':World}(h:Frm w.heap.size (D1.lf none w) w w'):∃q os,w'=Go.Sort.grow (w.drewN q) os:=by
 have hl:∀B,¬D1.lf none w B:=λB h=>h.elim (λ⟨_,h⟩=>by cases h) λh=>by cases h.1
 obtain⟨h1,h2,h3,h4,h5,h6⟩:=h;have h6:=h6 (hl _);refine⟨w'.drawn-w.drawn,w'.heap.extract w.heap.size w'.heap.size,?_⟩;have hh:w'.heap=w.heap++w'.heap.extract w.heap.size w'.heap.size:=by
  apply Array.ext_getElem?;intro k;by_cases hk:k<w.heap.size
  .rw[rM hk];exact h5 k hk (hl _)
  .rw[Array.getElem?_append_right (by omega),Array.getElem?_extract];by_cases hk2:k<w'.heap.size
   .rw[ad (by omega)]
    congr 1
    omega
   .rw[ac (by omega),uZ (by omega)]
 cases w';cases w;simp only at h1 h2 h3 h6 hh;subst h1 h2 h3;unfold Go.Sort.grow World.drewN;simp only at*;rw[<-hh]
 congr 1
 omega
def mX {w:World}{S:Nat->Prop}{v:Value}{k:IntKind}{n:Int}(h:RT w S v (.v (.int k n))):v= .int k n:=by
 cases h with
 |v h=>rfl
end Go.Proofs.YtoeigdpfcnaaeaaGreat
