import Derived.Test.YtndgdhbpojakpaaGreatE1
import Derived.Test.YtndgdhbpojakpaaGreatR1
set_option linter.unusedVariables false
set_option linter.unusedSimpArgs false
set_option linter.defProp false
noncomputable section
namespace Go.Proofs.YtndgdhbpojakpaaGreat
open Go.Sym Bnd
set_option maxRecDepth 100000
section
variable {α:Type}{nu:α->Int}
def Asc (nu:α->Int)(l:List α):Prop:=l.Pairwise λa b=>nu a<nu b
def wQ {l:List α}(h:Asc nu l){i j:Nat}{a b:α}(hij:i<j)(ha:l[i]?=some a)(hb:l[j]?=some b):nu a<nu b:=by
 unfold Asc at h;rw[d6] at h
 grind
def LBn (nu:α->Int)(l:List α)(id:Int)(m:Nat):Prop:=m<=l.length/\∀(k:Nat) (p:α),l[k]?=some p->(k<m->nu p<id)/\(m<=k->id<=nu p)
def uN {N:Nat}{f:JT}{K0:K}{e:List PV}{l:List α}{id:Int}(hs:Asc nu l)
  (key:∀(i j:Nat) (p:α) (self:JT),i<j->j<=l.length->l[(i+j)/2]?=some p->den (PhiS D) N K0 ([f]++[self]) (e++[.i64 (i:Int),.i64 (j:Int)])=if nu p<id then self [.i64 (((i+j)/2+1:Nat):Int),.i64 (j:Int)] else self [.i64 (i:Int),.i64 (((i+j)/2:Nat):Int)])
  (out:∀(i j:Nat) (self:JT),¬i<j->den (PhiS D) N K0 ([f]++[self]) (e++[.i64 (i:Int),.i64 (j:Int)])=f [.i64 (i:Int)]):∀(m i j:Nat),j-i<m->i<=j->j<=l.length->(∀(k:Nat) (p:α),l[k]?=some p->(k<i->nu p<id)/\(j<=k->id<=nu p))->
  ∃P,LBn nu l id P/\ denW (PhiS D) N K0 [f] e m [.i64 (i:Int),.i64 (j:Int)]=f [.i64 (P:Int)]
 |0,i,j,h,_,_,_=>by omega
 |m+1,i,j,h,hij,hj,hb=>by
  rw[bF];by_cases hlt:i<j
  .obtain⟨p,hp⟩:∃p,l[(i+j)/2]?=some p:=⟨l[(i+j)/2]'(by omega),ak _⟩;rw[key i j p _ hlt hj hp];by_cases c:nu p<id
   .rw[ad c];refine uN hs key out m _ j (by omega) (by omega) hj λk q hq=>⟨λhk=>?_,(hb k q hq).2⟩;by_cases e:k=(i+j)/2
    .subst e;rw[hp] at hq;cases hq;exact c
    .have:=wQ hs (show k<(i+j)/2 by omega) hq hp;omega
   .rw[ac c];refine uN hs key out m i _ (by omega) (by omega) (by omega) λk q hq=>⟨(hb k q hq).1,λhk=>?_⟩;by_cases e:k=(i+j)/2
    .subst e;rw[hp] at hq;cases hq;omega
    .have:=wQ hs (show(i+j)/2<k by omega) hp hq;omega
  .exact⟨i,⟨by omega,λk p hp=>⟨(hb k p hp).1,λh=>(hb k p hp).2 (by omega)⟩⟩,out i j _ hlt⟩
def SU {l:List α}{id:Int}{P i:Nat}{a:α}(h:LBn nu l id P)(hs:Asc nu l)(ha:l[i]?=some a)(e:nu a=id):P=i:=by
 obtain⟨h1,h2⟩:=h;by_cases c:i<P
 .grind
 .by_cases d:P<i
  .have hi:=cw ha;obtain⟨b,hb⟩:∃b,l[P]?=some b:=⟨l[P]'(by omega),ak _⟩;have:=(h2 P b hb).2 (aD _);have:=wQ hs d hb ha;omega
  .omega
end
def ltS (a b:Int):(sgn (a-b)<0)=(a<b):=by
 unfold sgn
 grind
def eqS (a b:Int):(sgn (a-b)=0)=(a=b):=by
 unfold sgn
 grind
def tq {c:Certs}(h:cS c):Asc (·.number) c.list:=(L8.1 h).2.2.2.2.imp λh=>h.1
open Classical in
def acD {c:Certs}{i:Nat}{x:Held}(h:cS c)(hx:c.list[i]?=some x):Ans D 145 [CS c,.i64 x.number] [.i64 (i:Int),.i64 0]:=by
 have hl:=h.1;have hs:=tq h;have m1:=phi (Gr (c:=c) (by omega));rw[aq h] at m1;have e0:okE true=0:=rfl;rw[e0] at m1;obtain⟨P,h1,h2⟩:=uN (N:=1001) (f:=mj (PhiS D) 1001 tz [] [CS c,.i64 x.number,CS c,.i64 0,.bool false,sl hrow c.list,.i64 (c.list.length:Int)]) (K0:=oT) (e:=[CS c,.i64 x.number,CS c,.i64 0,.bool false,sl hrow c.list,.i64 (c.list.length:Int)]) (l:=c.list) (nu:=(·.number)) (id:=x.number) hs (λi j p self hij hj hp=>by
  unfold oT;simp only[dQ,bV,EV,aa,bc hij,Mm (show i<1000000 by omega) (show j<1000000 by omega),cy (show-9223372036854775808<=(((i+j)/2:Nat):Int) by omega) (by omega),au,eb,aO hp (eS p),aL hp,ji,iR,phi (sS _ _),Cd,up1 (show(i+j)/2<1000000000 by omega),ltS]) (λi j self hij=>by
  unfold oT;simp only[dQ,bV,EV,aa];rw[ac (by omega)]) 1001 0 c.list.length (by omega) (by omega) (aD _) (λk p hp=>⟨λh=>by omega,λh=>by have:=cw hp;omega⟩)
 have:=SU h1 hs hx rfl;subst this;have hP:=cw hx;refine an ⟨1001,?_⟩;unfold M7;simp only[au,ii,m1,eb,EV,aj,az,aK,aw,ax];refine h2.trans ?_;unfold tz;simp only[EV,aa];rw[ad (by omega)];simp only[EV,au,eb,aO hx (eS x),aL hx,ji,iR,phi (sS _ _),wY,eqS,az,aK,aw,ax]
def Qa {α:Type}{nu:α->Int}{l:List α}(hs:Asc nu l){i:Nat}{a:α}(ha:l[i]?=some a):l.findIdx? (λb=>decide (nu b=nu a))=some i:=by
 obtain⟨h1,h2⟩:=aC.1 ha;rw[b8];refine⟨h1,by rw[h2];simp,λj hj h=>?_⟩;have:=wQ hs hj (ak (Nat.lt_trans hj h1)) ha
 grind
def acE {c:Certs}{i:Nat}{x:Held}(h:cS c)(hx:c.list[i]?=some x):Ans D 102 [CS c,.i64 x.number] [.i64 (i:Int)]:=by
 have hl:=h.1;refine an ⟨1001,?_⟩;unfold M3;simp[ii,EV];refine(jb (m:=1001) (l:=c.list) (p:=λb=>decide (b.number=x.number)) (st:=λi=>[.i64 (i:Int)]) (ret:=λi=>some [.i64 (i:Int)]) (fin:=some [.i64 (-1)]) (λk g self hg=>?_) (λself=>?_) (by omega)).trans ?_
 .unfold tw;simp only[eb,EV,aj,aa,bc (aJ hg),aO hg (eS _),aL hg,Gj,up1 (show k<1000000000 by have:=aJ hg;omega)]
 .unfold tw;simp[eb,EV,BO]
 .rw[Qa (tq h) hx];rfl
def C0:Crt:=⟨0,0⟩
def ZB:RF.ev .agg [.i64 0,.i64 0]=some (CP C0):=rfl
end Go.Proofs.YtndgdhbpojakpaaGreat
