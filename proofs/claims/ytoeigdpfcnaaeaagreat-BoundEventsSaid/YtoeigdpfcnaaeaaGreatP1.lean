import Derived.Test.YtoeigdpfcnaaeaaGreatA1
set_option linter.unusedVariables false
set_option linter.unusedSimpArgs false
set_option linter.defProp false
noncomputable section
namespace Bnd
open Go
def m8 {α:Type}[DecidableEq α]:∀{l k:List α},l.Nodup->(∀x∈l,x∈k)->k.length<=l.length->l.Perm k
 |[],k,_,_,h=>by
  have:=cX.1 (by simpa using h)
  rw[this]
 |a::l,k,hn,hs,h=>by
  have ha:=hs a (by simp);have hp:=xY ha;rw[cj] at hn;refine(List.Perm.cons a (m8 hn.2 (λx hx=>?_) ?_)).trans hp.symm
  .have hne:x≠a:=λe=>hn.1 (e▸hx);exact(lG hne).2 (hs x (by simp[hx]))
  .have:=hp.length_eq;simp at this h;omega
def vC {α:Type}[DecidableEq α]:∀{l k:List α},l.Nodup->(∀x∈l,x∈k)->l.length<=k.length
 |[],_,_,_=>by simp
 |a::l,k,hn,hs=>by
  have ha:=hs a (by simp);have hp:=xY ha;rw[cj] at hn;have:=vC (l:=l) (k:=k.erase a) hn.2 (λx hx=>by
   have hne:x≠a:=λe=>hn.1 (e▸hx);exact(lG hne).2 (hs x (by simp[hx])))
  have:=hp.length_eq;simp at this|-;omega
def VU {α:Type}[DecidableEq α]{l k:List α}(hl:l.Nodup)(hk:k.Nodup)(h:l.length=k.length)(P:α->Prop):(∀x∈l,x∈k/\ P x)↔∀x∈k,x∈l/\ P x:=by
 constructor
 .intro a x hx;have hp:=m8 hl (λx hx=>(a x hx).1) (by omega)
  grind
 .intro a x hx;have hp:=m8 hk (λx hx=>(a x hx).1) (by omega)
  grind
def dL {α:Type}{l:List α}:l.Nodup↔∀(i j:Nat) (x:α),l[i]?=some x->l[j]?=some x->i=j:=by
 constructor
 .intro h i j x hi hj;have hi':=(aC.1 hi).1;exact(List.getElem?_inj hi' h).1 (hi.trans hj.symm)
 .intro h;induction l with
  |nil=>exact nK
  |cons a l ih=>
   rw[cj];constructor
   .intro ha;obtain⟨j,hj⟩:=aK.1 ha;have:=h 0 (j+1) a rfl (by simpa using hj)
    omega
   .refine ih λi j x hi hj=>?_;have:=h (i+1) (j+1) x (by simpa using hi) (by simpa using hj)
    omega
def qA {α:Type}{l:List α}:l.Nodup↔∀(i j:Nat) (x:α),j<i->l[i]?=some x->l[j]?≠some x:=by
 rw[dL]
 grind
end Bnd
namespace Bnd
open Go
structure Rt where
 num:Int
 den:Int
 deriving DecidableEq
structure Pt where
 id:Int
 a:Int
 b:Int
 deriving DecidableEq
def KX (n:Int):Bool:=decide (-1048576<=n)&& decide (n<=1048576)
def Pt.ok (p:Pt):Bool:=decide (0<=p.id)&& decide (p.id<=65535)&& KX p.a&& KX p.b
def far (t:Rt)(p q:Pt):Int:=(p.a-q.a)*t.den+(p.b-q.b)*t.num
def leads (t:Rt)(p q:Pt):Bool:=if far t p q≠0 then decide (0<far t p q) else if p.b≠q.b then decide (q.b<p.b) else decide (p.id<q.id)
def zY (t:Rt)(p q r:Pt):far t p q+far t q r=far t p r:=by
 unfold far
 grind
def sK (t:Rt)(p q:Pt):far t q p= -far t p q:=by
 have h1:=zY t p q p;have h2:far t p p=0:=by unfold far;simp
 omega
def leads_iff {t:Rt}{p q:Pt}:leads t p q=true↔0<far t p q\/far t p q=0/\(q.b<p.b\/p.b=q.b/\ p.id<q.id):=by
 unfold leads
 grind
def uB (t:Rt)(p:Pt):leads t p p=false:=by
 rw[<-oD,leads_iff];have:=sK t p p;omega
def lT {t:Rt}{p q r:Pt}(h:leads t p q=true)(k:leads t q r=true):leads t p r=true:=by
 rw[leads_iff] at h k|-;have:=zY t p q r;omega
def fY {t:Rt}{p q:Pt}(h:leads t p q=true):leads t q p=false:=by
 rw[<-oD,leads_iff];rw[leads_iff] at h;have:=sK t p q;omega
def leads_total {t:Rt}{p q:Pt}(h:p.id≠q.id):leads t p q=true\/leads t q p=true:=by
 rw[leads_iff,leads_iff];have:=sK t p q;omega
def Db {t:Rt}{p q:Pt}(h:p.id≠q.id):leads t q p=!leads t p q:=by
 cases e:leads t p q with
 |true=>exact fY e
 |false=>
  rcases leads_total (t:=t) h with h|h
  .grind
  .exact h
end Bnd
namespace Bnd
open Go
section
variable (ld:Nat->Nat->Bool)
structure Lin (n:Nat):Prop where
 asymm:∀i j,ld i j=true->ld j i=false
 trans:∀i j k,ld i j=true->ld j k=true->ld i k=true
 total:∀i j,i<n->j<n->i≠j->ld i j=true\/ld j i=true
def so (a b k:Nat):Prop:=a<=k/\ k<b/\∀j,a<=j->j<b->j≠k->ld k j=true
def kK (a b:Nat)(x:Int):Prop:=(b<=a/\ x= -1)\/∃k:Nat,x=k/\ so ld a b k
def xK (k a:Nat):Prop:=a<=k/\(∀j,a<=j->j<k->ld j k=false)/\(a=0\/ld (a-1) k=true)
def xL (b k h:Nat):Prop:=k<h/\ h<=b/\(∀j,k<j->j<h->ld j k=false)/\(h=b\/ld h k=true)
def pT (b k:Nat)(x:Int×Int):Prop:=∃a h,xK ld k a/\ xL ld b k h/\ kK ld a k x.1/\ kK ld (k+1) h x.2
def nc (n:Nat)(root:Int)(l:List (Int×Int)):Prop:=kK ld 0 n root/\ l.length=n/\∀k x,l[k]?=some x->pT ld n k x
variable {ld}
def VV {n a b k k':Nat}(L:Lin ld n)(h:so ld a b k)(h':so ld a b k'):k=k':=by
 by_cases e:k=k'
 .exact e
 .have h1:=h.2.2 k' h'.1 h'.2.1 (by omega);have h2:=h'.2.2 k h.1 h.2.1 e;rw[L.asymm _ _ h1] at h2;cases h2
def zt {n a b:Nat}{x y:Int}(L:Lin ld n)(h:kK ld a b x)(k:kK ld a b y):x=y:=by
 rcases h with⟨h1,rfl⟩|⟨i,rfl,h⟩<;>rcases k with⟨k1,rfl⟩|⟨j,rfl,k⟩
 .rfl
 .have:=k.1;have:=k.2.1;omega
 .have:=h.1;have:=h.2.1;omega
 .rw[VV L h k]
def wd {k a a':Nat}(h:xK ld k a)(h':xK ld k a'):a=a':=by
 rcases fR a a' with g|g|g
 .exfalso;have:=h.2.1 (a'-1) (by omega) (by have:=h'.1;omega);rcases h'.2.2 with e|e
  .omega
  .grind
 .exact g
 .exfalso;have:=h'.2.1 (a-1) (by omega) (by have:=h.1;omega);rcases h.2.2 with e|e
  .omega
  .grind
def wg {b k h h':Nat}(g:xL ld b k h)(g':xL ld b k h'):h=h':=by
 obtain⟨a1,a2,a3,a4⟩:=g;obtain⟨b1,b2,b3,b4⟩:=g'
 grind
def Tn {n b k:Nat}{x y:Int×Int}(L:Lin ld n)(h:pT ld b k x)(h':pT ld b k y):x=y:=by
 obtain⟨a,c,h1,h2,h3,h4⟩:=h;obtain⟨a',c',k1,k2,k3,k4⟩:=h';rw[wd k1 h1] at k3;rw[wg k2 h2] at k4;exact Prod.ext (zt L h3 k3) (zt L h4 k4)
def Fc {n:Nat}{r r':Int}{l l':List (Int×Int)}(L:Lin ld n)(h:nc ld n r l)(h':nc ld n r' l'):r=r'/\ l=l':=by
 refine⟨zt L h.1 h'.1,c8 λk=>?_⟩;cases e:l[k]? with
 |none=>
  rw[fi] at e;rw[bD (by have:=h.2.1;have:=h'.2.1;omega)]
 |some x=>
  have hk:=(aC.1 e).1;have hk':k<l'.length:=by have:=h.2.1;have:=h'.2.1;omega
  rw[ai hk'];have:=Tn L (h.2.2 k x e) (h'.2.2 k _ (ai hk'));rw[this]
def qB (ld:Nat->Nat->Bool):Nat->Nat->Option Nat->Option Nat
 |0,_,best=>best
 |m+1,i,best=>qB ld m (i+1) (match best with|none=>some i|some b=>if ld i b then some i else some b)
def lk:Option Nat->Int
 |none=> -1
 |some k=>k
def Dc {n:Nat}(L:Lin ld n){a:Nat}:∀(m i:Nat) (best:Option Nat),i+m<=n->a<=i->kK ld a i (lk best)->kK ld a (i+m) (lk (qB ld m i best))
 |0,i,best,_,_,h=>h
 |m+1,i,best,hm,ha,h=>by
  unfold qB;rw[show i+(m+1)=(i+1)+m by omega]
  refine Dc L m (i+1) _ (by omega) (by omega) ?_;rcases h with⟨h1,h2⟩|⟨k,h1,h2⟩
  .cases best with
   |some b=>simp[lk] at h2
   |none=>exact .inr ⟨i,rfl,by omega,by omega,λj h3 h4 h5=>by omega⟩
  .cases best with
   |none=>simp[lk] at h1
   |some b=>
    have hb:b=k:=by simp[lk] at h1;omega
    subst hb;obtain⟨h3,h4,h5⟩:=h2;cases e:ld i b with
    |true=>
     simp[e];refine .inr ⟨i,rfl,by omega,by omega,λj j1 j2 j3=>?_⟩;by_cases hj:j=b
     .rw[hj];exact e
     .exact L.trans _ _ _ e (h5 j j1 (by omega) hj)
    |false=>
     simp[e];refine .inr ⟨b,rfl,by omega,by omega,λj j1 j2 j3=>?_⟩;by_cases hj:j=i
     .subst hj;rcases L.total b j (by omega) (by omega) (by omega) with g|g
      .exact g
      .rw[e] at g;cases g
     .exact h5 j j1 (by omega) j3
def xM (ld:Nat->Nat->Bool)(a b:Nat):Option Nat:=qB ld (b-a) a none
def KY {n:Nat}(L:Lin ld n){a b:Nat}(hb:b<=n)(h:a<=b):kK ld a b (lk (xM ld a b)):=by
 have:=Dc L (a:=a) (b-a) a none (by omega) (aB _) (.inl ⟨aB _,rfl⟩);rwa [show a+(b-a)=b by omega] at this
def grow (ld:Nat->Nat->Bool):Nat->Nat->Nat->List (Int×Int)->List (Int×Int)×Int
 |0,_,_,l=>(l,-1)
 |f+1,a,b,l=>match xM ld a b with
  |none=>(l,-1)
  |some i=>
   let r:=grow ld f a i l
   let l1:=r.1.modify i λx=>(r.2,x.2)
   let s:=grow ld f (i+1) b l1
   (s.1.modify i λx=>(x.1,s.2),i)
def Pn (ld:Nat->Nat->Bool)(n a b:Nat):Prop:=a<=b/\ b<=n/\(a=0\/∀j,a<=j->j<b->ld (a-1) j=true)/\(b=n\/∀j,a<=j->j<b->ld b j=true)
def sI {n:Nat}(L:Lin ld n):∀(f a b:Nat) (l:List (Int×Int)),b-a<f->l.length=n->Pn ld n a b->
  kK ld a b (grow ld f a b l).2/\(grow ld f a b l).1.length=n/\(∀k,k<a\/b<=k->(grow ld f a b l).1[k]?=l[k]?)/\∀k x,a<=k->k<b->(grow ld f a b l).1[k]?=some x->pT ld n k x
 |0,a,b,l,h,_,_=>by omega
 |f+1,a,b,l,h,hl,E=>by
  obtain⟨e1,e2,e3,e4⟩:=E;have ht:=KY L e2 e1;unfold grow;cases e:xM ld a b with
  |none=>
   rw[e] at ht;rcases ht with⟨t1,_⟩|⟨k,t1,_⟩
   .exact⟨.inl ⟨t1,rfl⟩,hl,λk _=>rfl,λk x h1 h2=>by omega⟩
   .simp[lk] at t1
  |some i=>
   rw[e] at ht;rcases ht with⟨_,t1⟩|⟨k,t1,t2⟩
   .simp[lk] at t1
   .have hk:i=k:=by simp[lk] at t1;omega
    subst hk;have ht:=t2;obtain⟨t3,t4,t5⟩:=t2;have E1:Pn ld n a i:=⟨t3,by omega,by
     rcases e3 with e3|e3
     .exact .inl e3
     .exact .inr λj j1 j2=>e3 j j1 (by omega),.inr λj j1 j2=>t5 j j1 (by omega) (by omega)⟩
    have E2:Pn ld n (i+1) b:=⟨by omega,e2,.inr λj j1 j2=>by
     rw[dD];exact t5 j (by omega) j2 (by omega),by
     rcases e4 with e4|e4
     .exact .inl e4
     .exact .inr λj j1 j2=>e4 j (by omega) j2⟩
    obtain⟨g1,g2,g3,g4⟩:=sI L f a i l (by omega) hl E1;simp only;generalize hr:grow ld f a i l=r at g1 g2 g3 g4;have hl1:(r.1.modify i λx=>(r.2,x.2)).length=n:=by rw[dS,g2]
    obtain⟨k1,k2,k3,k4⟩:=sI L f (i+1) b (r.1.modify i λx=>(r.2,x.2)) (by omega) hl1 E2;generalize hs:grow ld f (i+1) b (r.1.modify i λx=>(r.2,x.2))=s at k1 k2 k3 k4;refine⟨.inr ⟨i,rfl,ht⟩,by rw[dS,k2],λk hk=>?_,λk x h1 h2 hx=>?_⟩
    .rw[eL _ _ (by omega:i≠k),k3 k (by omega),eL _ _ (by omega:i≠k),g3 k (by omega)]
    .by_cases hk:k=i
     .subst hk;rw[gN,k3 k (by omega),gN] at hx;obtain⟨y,hy⟩:∃y,r.1[k]?=some y:=⟨r.1[k]'(by omega),ai _⟩;rw[hy] at hx;simp at hx;subst hx;refine⟨a,b,⟨h1,λj j1 j2=>L.asymm _ _ (t5 j j1 (by omega) (by omega)),?_⟩,⟨h2,e2,λj j1 j2=>L.asymm _ _ (t5 j (by omega) j2 (by omega)),?_⟩,g1,k1⟩
      .rcases e3 with e3|e3
       .exact .inl e3
       .exact .inr (e3 k h1 h2)
      .rcases e4 with e4|e4
       .exact .inl e4
       .exact .inr (e4 k h1 h2)
     .rw[eL _ _ (by omega:i≠k)] at hx;by_cases hlt:k<i
      .rw[k3 k (by omega),eL _ _ (by omega:i≠k)] at hx;exact g4 k x h1 hlt hx
      .exact k4 k x (by omega) h2 hx
end
end Bnd
namespace Bnd
open Go
section
variable {ld:Nat->Nat->Bool}
def popAll (ld:Nat->Nat->Bool)(i:Nat):List Nat->Int->List Nat×Int
 |[],y=>([],y)
 |e::es,y=>if ld e i then(e::es,y) else popAll ld i es e
def uC (ld:Nat->Nat->Bool)(i:Nat)(s:List Nat×Int×List (Int×Int)):List Nat×Int×List (Int×Int):=
 match popAll ld i s.1 (-1) with
 |([],y)=>([i],i,s.2.2++[(y,-1)])
 |(e::es,y)=>(i::e::es,s.2.1,(s.2.2.modify e λx=>(x.1,i))++[(y,-1)])
def Opn (ld:Nat->Nat->Bool)(i k:Nat):Prop:=k<i/\∀j,k<j->j<i->ld j k=false
structure CInv (ld:Nat->Nat->Bool)(i:Nat)(s:List Nat×Int×List (Int×Int)):Prop where
 desc:s.1.Pairwise (· >·)
 mem:∀k,k∈s.1↔Opn ld i k
 root:kK ld 0 i s.2.1
 len:s.2.2.length=i
 node:∀k x,s.2.2[k]?=some x->pT ld i k x
def pU (i:Nat):∀(l:List Nat) (y:Int),∃gone,l=gone++(popAll ld i l y).1/\(∀k∈gone,ld k i=false)/\(∀e es,(popAll ld i l y).1=e::es->ld e i=true)/\((gone=[]/\(popAll ld i l y).2=y)\/∃g k,gone=g++[k]/\(popAll ld i l y).2=(k:Nat))
 |[],y=>⟨[],rfl,by simp,by simp[popAll],.inl ⟨rfl,rfl⟩⟩
 |e::es,y=>by
  unfold popAll;cases h:ld e i with
  |true=>exact⟨[],rfl,by simp,λa b hab=>by simp at hab;rw[<-hab.1];exact h,.inl ⟨rfl,rfl⟩⟩
  |false=>
   simp;obtain⟨gone,h1,h2,h3,h4⟩:=pU i es (e:Nat);refine⟨e::gone,by rw[aL,<-h1],λk hk=>?_,h3,.inr ?_⟩
   .rcases bz.1 hk with rfl|hk
    .exact h
    .exact h2 k hk
   .rcases h4 with⟨rfl,h4⟩|⟨g,k,rfl,h4⟩
    .exact⟨[],e,rfl,h4⟩
    .exact⟨e::g,k,rfl,h4⟩
def Y0 {n i c:Nat}(L:Lin ld n)(h:∀k,c<=k->Opn ld i k->ld i k=true):∀(d k:Nat),i-k=d->c<=k->k<i->ld i k=true:=by
 intro d;induction d using Nat.strongRecOn with
 |ind d ih=>
  intro k hd hc hk;by_cases ho:∀j,k<j->j<i->ld j k=false
  .exact h k hc ⟨hk,ho⟩
  .simp at ho;obtain⟨j,h1,h2,h3⟩:=ho;exact L.trans _ _ _ (ih (i-j) (by omega) j rfl (by omega) h2) h3
def zu {n i k:Nat}(L:Lin ld n)(hi:i<=n)(h:Opn ld i k):∀j,k<j->j<i->ld k j=true:=λj h1 h2=>by
 rcases L.total k j (by omega) (by omega) (by omega) with g|g
 .exact g
 .rw[h.2 j h1 h2] at g;cases g
def To {n i c k:Nat}(L:Lin ld n)(hi:i<=n)(hc:c<=k)(h:Opn ld i k)(hf:∀j,c<=j->j<k->¬Opn ld i j):so ld c i k:=by
 refine⟨hc,h.1,λj h1 h2 h3=>?_⟩;have:∀d j,k-j=d->c<=j->j<k->ld k j=true:=by
  intro d;induction d using Nat.strongRecOn with
  |ind d ih=>
   intro j hd hc hj;have:=hf j hc hj;unfold Opn at this;simp at this;obtain⟨m,m1,m2,m3⟩:=this (by have:=h.1;omega);rcases fR m k with g|g|g
   .exact L.trans _ _ _ (ih (k-m) (by omega) m rfl (by omega) g) m3
   .grind
   .exact L.trans _ _ _ (zu L hi h m g m2) m3
 rcases qh j k with g|g
 .grind
 .exact zu L hi h j (by omega) h2
def VW {n i:Nat}(L:Lin ld n)(hi:i<n){s:List Nat×Int×List (Int×Int)}(I:CInv ld i s):CInv ld (i+1) (uC ld i s):=by
 obtain⟨edge,root,nodes⟩:=s;obtain⟨desc,mem,hroot,len,node⟩:=I;simp only at desc mem hroot len node;obtain⟨gone,p1,p2,p3,p4⟩:=pU (ld:=ld) i edge (-1);unfold uC;simp only;generalize hp:popAll ld i edge (-1)=pr at p1 p2 p3 p4;obtain⟨kept,y⟩:=pr;simp only at p1 p2 p3 p4;have memg:∀k∈gone,Opn ld i k:=λk hk=>(mem k).1 (by rw[p1];exact dP _ hk);have memk:∀k∈kept,Opn ld i k:=λk hk=>(mem k).1 (by rw[p1];exact gq _ hk);have both:∀k,Opn ld i k->k∈gone\/k∈kept:=λk hk=>by
  grind
 have goneLed:∀k∈gone,ld i k=true:=λk hk=>by
  have:=(memg k hk).1;rcases L.total k i (by omega) hi (by omega) with g|g
  .grind
  .exact g
 rw[p1,xX] at desc;obtain⟨d1,d2,d3⟩:=desc;have keptLead:∀k∈kept,ld k i=true:=λk hk=>by
  cases kept with
  |nil=>cases hk
  |cons e es=>
   have he:=p3 e es rfl;rcases bz.1 hk with rfl|hk
   .exact he
   .have:k<e:=(gr.1 d2).1 k hk;exact L.trans _ _ _ (zu L (by omega) (memk k (aU _ hk)) e this (memk e (by simp)).1) he
 have opn1:∀k,Opn ld (i+1) k↔k=i\/k∈kept:=λk=>by
  constructor
  .rintro⟨h1,h2⟩;by_cases e:k=i
   .exact .inl e
   .rcases both k ⟨by omega,λj a b=>h2 j a (by omega)⟩ with g|g
    .have:=goneLed k g;rw[h2 i (by omega) (by omega)] at this;cases this
    .exact .inr g
  .rintro(rfl|h)
   .exact⟨by omega,λj a b=>by omega⟩
   .obtain⟨h1,h2⟩:=memk k h;refine⟨by omega,λj a b=>?_⟩;by_cases e:j=i
    .subst e;exact L.asymm _ _ (keptLead k h)
    .exact h2 j a (by omega)
 have behind:∀c,(∀k∈kept,k<c)->∀k,c<=k->k<i->ld i k=true:=λc hc k h1 h2=>
  Y0 L (λk a b=>by
   rcases both k b with g|g
   .exact goneLed k g
   .have:=hc k g;omega) _ k rfl h1 h2
 have hy:∀c,(∀k∈kept,k<c)->(∀k∈gone,c<=k)->c<=i->kK ld c i y:=λc h1 h2 h3=>by
  rcases p4 with⟨rfl,rfl⟩|⟨g,k,rfl,rfl⟩
  .left
   refine⟨?_,rfl⟩;rcases qh c i with hlt|hge
   .exfalso;have:Opn ld i (i-1):=⟨by omega,λj a b=>by omega⟩;rcases both _ this with g|g
    .cases g
    .have:=h1 _ g;omega
   .exact hge
  .right
   refine⟨k,rfl,To L (by omega) (h2 k (by simp)) (memg k (by simp)) λj j1 j2 hj=>?_⟩;rcases both j hj with g'|g'
   .rcases b9.1 g' with g'|g'
    .have:=(xX.1 d1).2.2 j g' k (by simp);omega
    .simp at g';omega
   .have:=h1 j g';omega
 have keep:∀k x,nodes[k]?=some x->(∀e es,kept=e::es->k≠e)->pT ld (i+1) k x:=λk x hx hne=>by
  obtain⟨a,h,n1,n2,n3,n4⟩:=node k x hx;obtain⟨q1,q2,q3,q4⟩:=n2;by_cases hh:h=i/\ Opn ld i k
  .obtain⟨rfl,ho⟩:=hh;rcases both k ho with g|g
   .exact⟨a,h,n1,⟨q1,by omega,q3,.inr (goneLed k g)⟩,n3,n4⟩
   ·
    cases kept with
    |nil=>cases g
    |cons e es=>
     have hke:=hne e es rfl;have hk':k<e:=by
      rcases bz.1 g with g|g
      .omega
      .exact(gr.1 d2).1 k g
     have he:=memk e (by simp);have hki:=keptLead e (by simp);refine⟨a,h+1,n1,⟨by omega,by omega,((opn1 k).2 (.inr g)).2,.inl rfl⟩,n3,?_⟩;rcases n4 with⟨n4,_⟩|⟨m,n4,t1,t2,t3⟩
     .have:=he.1;omega
     .refine .inr ⟨m,n4,t1,by omega,λj j1 j2 j3=>?_⟩;by_cases hj:j=h
      .subst hj;by_cases hem:e=m
       .rw[<-hem];exact hki
       .exact L.trans _ _ _ (t3 e (by omega) he.1 hem) hki
      .exact t3 j j1 (by omega) j3
  .refine⟨a,h,n1,⟨q1,by omega,q3,?_⟩,n3,n4⟩;rcases q4 with q4|q4
   .exfalso;subst q4;exact hh ⟨rfl,q1,q3⟩
   .exact .inr q4
 have new:∀c,(∀k∈kept,k<c)->(∀k∈gone,c<=k)->c<=i->(c=0\/ld (c-1) i=true)->pT ld (i+1) i (y,-1):=λc h1 h2 h3 h4=>
  ⟨c,i+1,⟨h3,λj a b=>L.asymm _ _ (behind c h1 j a b),h4⟩,⟨by omega,by omega,λj a b=>by omega,.inl rfl⟩,hy c h1 h2 h3,.inl ⟨by omega,rfl⟩⟩
 cases kept with
 |nil=>
  have hn0:pT ld (i+1) i (y,-1):=new 0 (by simp) (by simp) (by omega) (.inl rfl);refine⟨by simp,λk=>?_,?_,by simp[len],λk x hx=>?_⟩
  .rw[opn1 k];simp
  .exact .inr ⟨i,rfl,by omega,by omega,λj j1 j2 j3=>behind 0 (by simp) j (by omega) (by omega)⟩
  .rw[ja] at hx;split at hx
   .exact keep k x hx (by simp)
   .rename_i hk;have:k=i:=by
     have:=(aC.1 hx).1;simp only[aN] at this;omega
    subst this;rw[len] at hx;simp at hx;rw[<-hx];exact hn0
 |cons e es=>
  have he:=memk e (by simp);have hei:=keptLead e (by simp);have hes:∀k∈e::es,k<e+1:=λk hk=>by
   rcases bz.1 hk with rfl|hk
   .omega
   .have:k<e:=(gr.1 d2).1 k hk;omega
  have hn0:pT ld (i+1) i (y,-1):=new (e+1) hes (λk hk=>by have:=d3 k hk e (by simp);omega) he.1 (.inr (by rw[dD];exact hei));refine⟨?_,λk=>?_,?_,by simp[len],λk x hx=>?_⟩
  .rw[gr];exact⟨λk hk=>(memk k hk).1,d2⟩
  .rw[opn1 k,bz]
  .rcases hroot with⟨r1,_⟩|⟨m,r1,t1,t2,t3⟩
   .have:=he.1;omega
   .refine .inr ⟨m,r1,t1,by omega,λj j1 j2 j3=>?_⟩;by_cases hj:j=i
    .subst hj;by_cases hem:e=m
     .rw[<-hem];exact hei
     .exact L.trans _ _ _ (t3 e (by omega) he.1 hem) hei
    .exact t3 j j1 (by omega) j3
  .simp only at hx;rw[ja] at hx;split at hx
   .rename_i hk;rw[dS,len] at hk;by_cases hke:k=e
    .subst hke;rw[gN] at hx;obtain⟨z,hz⟩:∃z,nodes[k]?=some z:=⟨nodes[k]'(by omega),ai _⟩;rw[hz] at hx;simp only[Option.map_eq_map,cD,bZ] at hx;subst hx;obtain⟨a,h,n1,n2,n3,n4⟩:=node k z hz;refine⟨a,i+1,n1,⟨by omega,by omega,((opn1 k).2 (.inr (by simp))).2,.inl rfl⟩,n3,.inr ⟨i,rfl,by omega,by omega,λj j1 j2 j3=>behind (k+1) hes j j1 (by omega)⟩⟩
    .rw[eL _ _ (by omega:e≠k)] at hx;exact keep k x hx (by intro e' es' h;simp at h;omega)
   .rename_i hk;rw[dS,len] at hx hk;have:k=i:=by
     have:=(aC.1 hx).1;simp only[aN] at this;omega
    subst this;simp at hx;rw[<-hx];exact hn0
def cmake (ld:Nat->Nat->Bool):Nat->List Nat×Int×List (Int×Int)
 |0=>([],-1,[])
 |i+1=>uC ld i (cmake ld i)
def jh {n:Nat}(L:Lin ld n):∀i,i<=n->CInv ld i (cmake ld i)
 |0,_=>⟨.nil,λk=>by simp[cmake,Opn],.inl ⟨aB _,rfl⟩,rfl,λk x h=>by simp[cmake] at h⟩
 |i+1,h=>VW L (by omega) (jh L i (by omega))
def nI {n:Nat}(L:Lin ld n):nc ld n (cmake ld n).2.1 (cmake ld n).2.2:=by
 have:=jh L n (aB _);exact⟨this.root,this.len,this.node⟩
end
end Bnd
namespace Bnd
open Go
section
variable {ld:Nat->Nat->Bool}
def Below (l:List (Int×Int))(i j:Nat):Prop:=∃x,l[j]?=some x/\(x.1=(i:Int)\/x.2=(i:Int))
def uW {n:Nat}(L:Lin ld n){root:Int}{l:List (Int×Int)}(C:nc ld n root l){i j:Nat}(h:Below l i j):
  ld j i=true/\((i<j/\ xL ld n i j/\∃a,xK ld i a/\(a=0\/ld (a-1) j=true))\/(j<i/\ xK ld i (j+1)/\∃b,xL ld n i b/\(b=n\/ld b j=true))):=by
 obtain⟨x,hx,h⟩:=h;obtain⟨a,b,⟨a1,a2,a3⟩,⟨b1,b2,b3,b4⟩,l1,l2⟩:=C.2.2 j x hx;have hj:j<n:=by have:=(aC.1 hx).1;have:=C.2.1;omega
 rcases h with h|h
 .rw[h] at l1;rcases l1 with⟨_,l1⟩|⟨k,l1,t1,t2,t3⟩
  .omega
  .have:i=k:=by omega
   subst this;have led:∀m,a<=m->m<j->ld j m=true:=λm m1 m2=>by
    rcases L.total j m hj (by omega) (by omega) with g|g
    .exact g
    .grind
   have hji:=led i t1 t2;refine⟨hji,.inl ⟨t2,⟨t2,by omega,λm m1 m2=>L.asymm _ _ (t3 m (by omega) m2 (by omega)),.inr hji⟩,a,⟨t1,λm m1 m2=>L.asymm _ _ (t3 m m1 (by omega) (by omega)),?_⟩,a3⟩⟩;rcases a3 with a3|a3
   .grind
   .exact .inr (L.trans _ _ _ a3 hji)
 .rw[h] at l2;rcases l2 with⟨_,l2⟩|⟨k,l2,t1,t2,t3⟩
  .omega
  .have:i=k:=by omega
   subst this;have led:∀m,j<m->m<b->ld j m=true:=λm m1 m2=>by
    rcases L.total j m hj (by omega) (by omega) with g|g
    .exact g
    .rw[b3 m m1 m2] at g;cases g
   have hji:=led i t1 t2;refine⟨hji,.inr ⟨by omega,⟨t1,λm m1 m2=>L.asymm _ _ (t3 m m1 (by omega) (by omega)),.inr (by rw[dD];exact hji)⟩,b,⟨t2,b2,λm m1 m2=>L.asymm _ _ (t3 m (by omega) m2 (by omega)),?_⟩,b4⟩⟩;rcases b4 with b4|b4
   .exact .inl b4
   .exact .inr (L.trans _ _ _ b4 hji)
def Dd {n:Nat}(L:Lin ld n){root:Int}{l:List (Int×Int)}(C:nc ld n root l){i j j':Nat}(h:Below l i j)(h':Below l i j'):j=j':=by
 have hj:j<n:=by obtain⟨x,hx,_⟩:=h;have:=(aC.1 hx).1;have:=C.2.1;omega
 have hj':j'<n:=by obtain⟨x,hx,_⟩:=h';have:=(aC.1 hx).1;have:=C.2.1;omega
 obtain⟨_,h⟩:=uW L C h;obtain⟨_,h'⟩:=uW L C h';rcases h with⟨_,h1,a,h2,h3⟩|⟨_,h1,b,h2,h3⟩<;>rcases h' with⟨_,k1,c,k2,k3⟩|⟨_,k1,d,k2,k3⟩
 .exact wg h1 k1
 .exfalso;have e1:=wd h2 k1;have e2:=wg h1 k2;subst e1;subst e2;rw[dD] at h3;rcases h3 with h3|h3
  .omega
  .rcases k3 with k3|k3
   .omega
   .rw[L.asymm _ _ h3] at k3;cases k3
 .exfalso;have e1:=wd k2 h1;have e2:=wg k1 h2;subst e1;subst e2;rw[dD] at k3;rcases k3 with k3|k3
  .omega
  .rcases h3 with h3|h3
   .omega
   .rw[L.asymm _ _ h3] at k3;cases k3
 .have:=wd h1 k1;omega
end
end Bnd
namespace Bnd
open Go
def pV (t:Rt)(l:List Pt):List Pt:=l.mergeSort λp q=>!leads t q p
def Ids (l:List Pt):Prop:=(l.map Pt.id).Nodup
def Ids.inj {l:List Pt}(h:Ids l){p q:Pt}(hp:p∈l)(hq:q∈l)(e:p.id=q.id):p=q:=by
 obtain⟨i,hi⟩:=aK.1 hp;obtain⟨j,hj⟩:=aK.1 hq;have:=dL.1 h i j p.id (by rw[a8,hi];rfl) (by rw[a8,hj,e];rfl)
 grind
def Ids.perm {l k:List Pt}(h:Ids l)(p:l.Perm k):Ids k:=(p.map Pt.id).nodup_iff.1 h
def Ids.tail {p:Pt}{l:List Pt}(h:Ids (p::l)):Ids l:=(cj.1 h).2
def Ids.filter {l:List Pt}(h:Ids l)(f:Pt->Bool):Ids (l.filter f):=wx ((mf (l:=l) (p:=f)).map Pt.id) h
def Ids.nodup {l:List Pt}(h:Ids l):l.Nodup:=by
 rw[dL];intro i j x hi hj;exact dL.1 h i j x.id (by rw[a8,hi];rfl) (by rw[a8,hj];rfl)
def jZ (t:Rt)(l:List Pt):(pV t l).Perm l:=mi ..
def zw {t:Rt}{l:List Pt}(h:Ids l):(pV t l).Pairwise λp q=>leads t p q=true:=by
 have h1:(pV t l).Pairwise λp q=>(!leads t q p)=true:=by
  refine nL (λa b c h1 h2=>?_) (λa b=>?_) l
  .simp[<-oD,leads_iff] at h1 h2|-;have:=zY t c b a
   grind
  .cases e:leads t b a with
   |false=>rfl
   |true=>rw[fY e];rfl
 have h2:(pV t l).Pairwise λp q=>p.id≠q.id:=by
  have:=h.perm (jZ t l).symm;unfold Ids List.Nodup at this
  grind
 refine List.Pairwise.imp₂ (λp q a b=>?_) h1 h2;rw[Db b] at a;simpa using a
def rank (t:Rt)(l:List Pt)(p:Pt):Nat:=(l.filter λq=>decide (q.id≠p.id)&& leads t q p).length
def Tp {t:Rt}{l k:List Pt}(h:l.Perm k)(p:Pt):rank t l p=rank t k p:=(h.filter _).length_eq
def AB {t:Rt}:∀{l:List Pt},l.Pairwise (λp q=>leads t p q=true)->Ids l->∀{i:Nat} {p:Pt},l[i]?=some p->rank t l p=i
 |[],_,_,i,p,h=>by simp at h
 |q::l,ho,hi,i,p,h=>by
  rw[gr] at ho;unfold Ids at hi;rw[bY,cj] at hi;cases i with
  |zero=>
   simp at h;subst h;unfold rank;rw[cX,n7];intro x hx;simp only[aJ,aa,not_and,oD];intro hne;rcases bz.1 hx with rfl|hx
   .exact absurd rfl hne
   .exact fY (ho.1 x hx)
  |succ i=>
   simp at h;have hm:=ax h;have ih:=AB ho.2 hi.2 h;unfold rank at ih|-;rw[cS,ad,aZ,ih];simp only[aJ,aa];exact⟨λe=>hi.1 (by rw[e];exact bk.2 ⟨p,hm,rfl⟩),ho.1 p hm⟩
def ordered (t:Rt)(l:List Pt):List Pt->List Int->List Int
 |[],out=>out
 |p::ps,out=>ordered t l ps (out.set (rank t l p) p.id)
def De {t:Rt}{l s:List Pt}(hs:s.Perm l)(ho:s.Pairwise λp q=>leads t p q=true)(hi:Ids l):∀(done rest:List Pt) (out:List Int),done++rest=l->out.length=l.length->(∀(k:Nat) (p:Pt),s[k]?=some p->p∈done->out[k]?=some p.id)->ordered t l rest out=s.map Pt.id
 |done,[],out,h,hl,hk=>by
  rw[bc] at h;subst h;unfold ordered;refine c8 λk=>?_;rw[a8];cases e:s[k]? with
  |none=>
   rw[fi] at e;rw[bD (by have:=hs.length_eq;omega)];rfl
  |some p=>exact hk k p e (hs.mem_iff.1 (ax e))
 |done,p::rest,out,h,hl,hk=>by
  unfold ordered;refine De hs ho hi (done++[p]) rest _ (by simpa using h) (by simpa using hl) λk q hq hm=>?_
  have hpl:p∈l:=by rw[<-h];simp
  obtain⟨j,hj⟩:=aK.1 (hs.mem_iff.2 hpl);have hr:=(Tp hs p).symm.trans (AB ho (hi.perm hs.symm) hj);rw[hr];by_cases e:k=j
  .subst e;rw[hj] at hq;cases hq;rw[bv];have:=(aC.1 hj).1;have:=hs.length_eq;omega
  .rw[bB (by omega)];refine hk k q hq ?_;rcases b9.1 hm with hm|hm
   .exact hm
   .simp at hm;subst hm;exact absurd (dL.1 (hi.perm hs.symm).nodup _ _ _ hq hj) e
def Po {t:Rt}{l:List Pt}(hi:Ids l){out:List Int}(ho:out.length=l.length):ordered t l l out=(pV t l).map Pt.id:=
 De (jZ t l) (zw hi) hi [] l out rfl ho (λ_ _ _ h=>by cases h)
def fZ (x:Int)(d:Nat):Int:=x.fdiv (2^(min d 64))% 2
def iC (l:List Int)(d:Nat)(b:Int):List Int:=l.filter λx=>decide (fZ x d=b)
def xN {l:List Int}{d:Nat}{b:Int}:(iC l d b).length<=l.length:=gn ..
def i7:List Int->Int->Nat->List (Int×Int)
 |[],_,_=>[]
 |o::os,from',d=>(o,from')::(i7 (iC os d 0) o (d+1)++i7 (iC os d 1) o (d+1))
termination_by l _ _=>l.length
decreasing_by all_goals exact rS xN
def df (t:Rt):List Pt->Pt->Pt
 |[],b=>b
 |p::ps,b=>df t ps (if leads t p b then p else b)
def side (l:List Pt)(top:Int)(d:Nat)(b:Int):List Pt:=l.filter λp=>decide (p.id≠top)&& decide (fZ p.id d=b)
def topP_mem (t:Rt):∀(l:List Pt) (b:Pt),df t l b=b\/df t l b∈l
 |[],b=> .inl rfl
 |p::ps,b=>by
  unfold df;rcases topP_mem t ps (if leads t p b then p else b) with h|h
  .rw[h];split
   .exact .inr (by simp)
   .exact .inl rfl
  .exact .inr (by simp[h])
def qC {t:Rt}{p:Pt}{l:List Pt}{d:Nat}{b:Int}:(side (p::l) (df t l p).id d b).length<l.length+1:=by
 have hm:df t l p∈p::l:=by
  rcases topP_mem t l p with h|h
  .rw[h];simp
  .simp[h]
 have:∀(k:List Pt) (x:Pt),x∈k->(side k x.id d b).length<k.length:=by
  intro k;induction k with
  |nil=>intro x h;cases h
  |cons y k ih=>
   unfold side at ih|-
   grind
 grind
def ek (t:Rt):List Pt->Int->Nat->List (Int×Int)
 |[],_,_=>[]
 |p::l,from',d=>((df t l p).id,from')::(ek t (side (p::l) (df t l p).id d 0) (df t l p).id (d+1)++ek t (side (p::l) (df t l p).id d 1) (df t l p).id (d+1))
termination_by l _ _=>l.length
decreasing_by all_goals exact qC
def tv {t:Rt}:∀(l:List Pt) (b:Pt),Ids (b::l)->∀q∈b::l,q≠df t l b->leads t (df t l b) q=true
 |[],b,_,q,hq,hne=>by simp at hq hne;exact absurd hq hne
 |p::ps,b,hi,q,hq,hne=>by
  unfold df at hne|-;have hpb:b.id≠p.id:=λe=>(cj.1 hi).1 (by rw[e];simp);have hi1:=hi.tail;have hi2:Ids (b::ps):=by
   unfold Ids at hi|-;rw[bY,bY,cj,cj] at hi;rw[bY,cj];exact⟨λe=>hi.1 (aU _ e),hi.2.2⟩
  cases e:leads t p b with
  |true=>
   simp only[e,az] at hne|-;have ih:=tv (t:=t) ps p hi1;by_cases hb:q=b
   .subst hb;by_cases hp:p=df t ps p
    .rw[<-hp];exact e
    .exact lT (ih p (by simp) hp) e
   .refine ih q ?_ hne;rcases bz.1 hq with h|h
    .exact absurd h hb
    .exact h
  |false=>
   simp[e] at hne|-;have ih:=tv (t:=t) ps b hi2;by_cases hb:q=p
   .subst hb;have e':leads t b q=true:=by rw[Db (λh=>hpb h.symm),e];rfl
    by_cases hp:b=df t ps b
    .rw[<-hp];exact e'
    .exact lT (ih b (by simp) hp) e'
   .refine ih q ?_ hne;rcases bz.1 hq with h|h
    .exact h▸(by simp)
    .rcases bz.1 h with h|h
     .exact absurd h hb
     .exact aU _ h
def Mq {t:Rt}:∀(n:Nat) (l s:List Pt) (from':Int) (d:Nat),l.length<=n->s.Perm l->s.Pairwise (λp q=>leads t p q=true)->Ids l->i7 (s.map Pt.id) from' d=ek t l from' d:=by
 intro n;induction n with
 |zero=>
  intro l s from' d h hs _ _;have hl:l=[]:=cX.1 (by omega);subst hl;rw[hs.eq_nil];unfold ek;rw[tI];unfold i7;rfl
 |succ n ih=>
  intro l s from' d h hs ho hi;cases l with
  |nil=>
   grind
  |cons p l=>
   cases s with
   |nil=>have:=hs.length_eq;simp at this
   |cons o os=>
    rw[gr] at ho;have his:Ids (o::os):=hi.perm hs.symm;have ho':o=df t l p:=by
     by_cases e:o=df t l p
     .exact e
     .exfalso;have h1:=tv (t:=t) l p hi o (hs.mem_iff.1 (by simp)) e;have hm:df t l p∈o::os:=hs.mem_iff.2 (by
       rcases topP_mem t l p with h|h
       .rw[h];simp
       .simp[h])
      rcases bz.1 hm with hm|hm
      .grind
      .have:=ho.1 _ hm;rw[fY h1] at this;cases this
    rw[bY];unfold i7 ek;rw[<-ho'];have sd:∀b,(os.filter λq=>decide (fZ q.id d=b)).Perm (side (p::l) o.id d b):=λb=>by
     have:=hs.filter (λp=>decide (p.id≠o.id)&& decide (fZ p.id d=b));rw[cS,ac (by simp)] at this;refine List.Perm.trans (List.Perm.of_eq ?_) this;refine ky λq hq=>?_;have:q.id≠o.id:=λe=>(cj.1 his).1 (by rw[<-e];exact bk.2 ⟨q,hq,rfl⟩);rw[aq this,gI]
    have go:∀b,i7 (iC (os.map Pt.id) d b) o.id (d+1)=ek t (side (p::l) o.id d b) o.id (d+1):=λb=>by
     unfold iC;rw[List.filter_map];refine ih _ _ _ _ ?_ (sd b) (ho.2.sublist mf) (hi.filter _);have:=qC (t:=t) (p:=p) (l:=l) (d:=d) (b:=b);rw[<-ho'] at this;simp only[aZ] at h;omega
    rw[go 0,go 1]
end Bnd
namespace Bnd
open Go
def nodeV (wins places:List Int)(i:Nat):Int:=if i<wins.length then(wins[i]?).getD (-1) else(places[i-wins.length]?).getD (-1)
def mD (won:Int->Int->Int)(wins places:List Int):Prop:=∀i,i<wins.length->nodeV wins places i=won (nodeV wins places (2*i+1)) (nodeV wins places (2*i+2))
def tz (won:Int->Int->Int)(places:List Int):Nat->List Int->List Int
 |0,w=>w
 |i+1,w=>tz won places i (w.set i (won (nodeV w places (2*i+1)) (nodeV w places (2*i+2))))
def o8 {w places:List Int}{i j:Nat}{x:Int}(h:i≠j):nodeV (w.set i x) places j=nodeV w places j:=by
 unfold nodeV
 grind
def Mr {won:Int->Int->Int}{places:List Int}:∀(i:Nat) (w v:List Int),i<=w.length->v.length=w.length->mD won v places->(∀j,i<=j->v[j]?=w[j]?)->tz won places i w=v
 |0,w,v,_,hl,_,h=>by
  unfold tz;exact(c8 λj=>h j (by omega)).symm
 |i+1,w,v,hi,hl,hf,h=>by
  unfold tz;refine Mr i _ v (by simp;omega) (by simpa using hl) hf λj hj=>?_
  have nv:∀m,i<m->nodeV v places m=nodeV w places m:=λm hm=>by
   unfold nodeV;rw[hl,h m (by omega)]
  by_cases e:j=i
  .subst e;rw[bv (by omega),<-nv _ (by omega),<-nv _ (by omega),<-hf j (by omega)];unfold nodeV;rw[ad (by omega),ai (show j<v.length by omega)]
   rfl
  .rw[bB (by omega)];exact h j (by omega)
def Fe {won:Int->Int->Int}{places:List Int}:∀(i:Nat) (w:List Int),i<=w.length->(∀j,i<=j->j<w.length->nodeV w places j=won (nodeV w places (2*j+1)) (nodeV w places (2*j+2)))->mD won (tz won places i w) places
 |0,w,_,h=>λj hj=>h j (by omega) hj
 |i+1,w,hi,h=>by
  unfold tz;refine Fe i _ (by simp;omega) λj hj hl=>?_;rw[aP] at hl;by_cases e:j=i
  .subst e;rw[o8 (show j≠2*j+1 by omega),o8 (show j≠2*j+2 by omega)]
   have:∀x:Int,nodeV (w.set j x) places j=x:=λx=>by
    unfold nodeV;rw[aP,ad hl,bv hl];rfl
   rw[this]
  .rw[o8 (show i≠j by omega),o8 (show i≠2*j+1 by omega),o8 (show i≠2*j+2 by omega)]
   exact h j (by omega) hl
def VX {won:Int->Int->Int}{places v:List Int}{w:List Int}(hl:v.length=w.length):tz won places w.length w=v↔mD won v places:=by
 constructor
 .intro h;rw[<-h];exact Fe _ w (aB _) λj h1 h2=>by omega
 .intro h;exact Mr _ w v (aB _) hl h λj hj=>by rw[bD (by omega),bD (by omega)]
structure Match (wins places:List Int):Prop where
 len:places.length=wins.length+1
 once:∀(i j:Nat) (x:Int),0<=x->places[i]?=some x->places[j]?=some x->i=j
 pick:∀i,i<wins.length->nodeV wins places i=nodeV wins places (2*i+1)\/nodeV wins places i=nodeV wins places (2*i+2)
def anc (q:Nat):Nat->Nat
 |0=>q
 |k+1=>(anc q k-1)/2
def xO {wins places:List Int}(M:Match wins places){z:Int}(hz:0<=z){q:Nat}(hq:places[q]?=some z):∀(d i:Nat),2*places.length-i=d->i<2*places.length->nodeV wins places i=z->∃k,i=anc (wins.length+q) k/\∀k',k'<k->nodeV wins places (anc (wins.length+q) k')=z/\ 0<anc (wins.length+q) k':=by
 intro d;induction d using Nat.strongRecOn with
 |ind d ih=>
  intro i hd hi hv;by_cases hlt:i<wins.length
  .have hl:=M.len;have step:∀c,(c=2*i+1\/c=2*i+2)->nodeV wins places c=z->∃k,i=anc (wins.length+q) k/\∀k',k'<k->nodeV wins places (anc (wins.length+q) k')=z/\ 0<anc (wins.length+q) k':=λc hc hvc=>by
    obtain⟨k,h1,h2⟩:=ih (2*places.length-c) (by omega) c rfl (by omega) hvc;refine⟨k+1,by unfold anc;rw[<-h1];omega,λk' hk'=>?_⟩
    grind
   rcases M.pick i hlt with h|h
   .grind
   .grind
  .refine⟨0,?_,λk' h=>by omega⟩;unfold nodeV at hv;rw[ac hlt] at hv;cases e:places[i-wins.length]? with
   |none=>rw[e] at hv;simp at hv;omega
   |some x=>
    rw[e] at hv;simp only[cC] at hv;subst hv;have:=M.once _ _ x hz e hq;simp only[anc];omega
def Bb {q:Nat}:∀{k:Nat},(∀k',k'<k->0<anc q k')->∀{j:Nat},j<k->anc q k<anc q j
 |0,_,j,h=>by omega
 |k+1,hp,j,h=>by
  have h0:=hp k (by omega);have h1:anc q (k+1)<anc q k:=by show(anc q k-1)/2<anc q k;omega
  by_cases e:j=k
  .subst e;exact h1
  .have:=Bb (q:=q) (k:=k) (λk' hk'=>hp k' (by omega)) (j:=j) (by omega);omega
def Tq {wins places:List Int}(M:Match wins places){z:Int}(hz:0<=z){i j c e:Nat}(hi:i<wins.length)(hj:j<wins.length)(hc:c=2*i+1\/c=2*i+2)(he:e=2*j+1\/e=2*j+2)
  (vc:nodeV wins places c=z) (ve:nodeV wins places e=z) (vi:nodeV wins places i≠z) (vj:nodeV wins places j≠z):i=j:=by
 have hl:=M.len;have leaf:∀(d i:Nat),2*places.length-i=d->i<2*places.length->nodeV wins places i=z->∃q:Nat,places[q]?=some z:=by
  intro d;induction d using Nat.strongRecOn with
  |ind d ih=>
   intro i hd hi hv;by_cases hlt:i<wins.length
   .rcases M.pick i hlt with h|h
    .grind
    .exact ih _ (by omega) (2*i+2) rfl (by omega) (by rw[<-h];exact hv)
   .unfold nodeV at hv;rw[ac hlt] at hv;cases e:places[i-wins.length]? with
    |none=>rw[e] at hv;simp at hv;omega
    |some x=>rw[e] at hv;simp only[cC] at hv;exact⟨_,by rw[e,hv]⟩
 obtain⟨q,hq⟩:=leaf _ c rfl (by omega) vc;obtain⟨k,k1,k2⟩:=xO M hz hq _ c rfl (by omega) vc;obtain⟨m,m1,m2⟩:=xO M hz hq _ e rfl (by omega) ve;rcases fR k m with g|g|g
 .exfalso;have hp:anc (wins.length+q) (k+1)=i:=by show(anc (wins.length+q) k-1)/2=i;rw[<-k1];omega
  by_cases hkm:k+1=m
  .subst hkm;rw[hp] at m1;subst m1;exact vi ve
  .have:=(m2 (k+1) (by omega)).1;rw[hp] at this;exact vi this
 .subst g;rw[<-m1] at k1;omega
 .exfalso;have hp:anc (wins.length+q) (m+1)=j:=by show(anc (wins.length+q) m-1)/2=j;rw[<-m1];omega
  by_cases hkm:m+1=k
  .subst hkm;rw[hp] at k1;subst k1;exact vj vc
  .have:=(k2 (m+1) (by omega)).1;rw[hp] at this;exact vj this
def KZ {wins places:List Int}(M:Match wins places){z:Int}(hz:0<=z){i:Nat}(hi:i<wins.length)(h1:nodeV wins places (2*i+1)=z)(h2:nodeV wins places (2*i+2)=z):False:=by
 have hl:=M.len;have leaf:∀(d i:Nat),2*places.length-i=d->i<2*places.length->nodeV wins places i=z->∃q:Nat,places[q]?=some z:=by
  intro d;induction d using Nat.strongRecOn with
  |ind d ih=>
   intro i hd hi hv;by_cases hlt:i<wins.length
   .rcases M.pick i hlt with h|h
    .grind
    .grind
   .unfold nodeV at hv
    grind
 obtain⟨q,hq⟩:=leaf _ (2*i+1) rfl (by omega) h1;obtain⟨k,k1,k2⟩:=xO M hz hq _ _ rfl (by omega) h1;obtain⟨m,m1,m2⟩:=xO M hz hq _ _ rfl (by omega) h2;have hk:anc (wins.length+q) (k+1)=i:=by show(anc (wins.length+q) k-1)/2=i;rw[<-k1];omega
 have hm:anc (wins.length+q) (m+1)=i:=by show(anc (wins.length+q) m-1)/2=i;rw[<-m1];omega
 rcases fR k m with g|g|g
 .by_cases e:k+1=m
  .subst e;omega
  .have:=Bb (q:=wins.length+q) (k:=m) (λk' h=>(m2 k' h).2) (j:=k+1) (by omega);omega
 .subst g;omega
 .by_cases e:m+1=k
  .subst e;omega
  .have:=Bb (q:=wins.length+q) (k:=k) (λk' h=>(k2 k' h).2) (j:=m+1) (by omega);omega
end Bnd
namespace Bnd
open Go
def Ff {x y:Nat}:x*y=(x/4294967296)*(y/4294967296)*18446744073709551616+((x% 4294967296)*(y/4294967296)+(x/4294967296)*(y% 4294967296))*4294967296+(x% 4294967296)*(y% 4294967296):=by
 have e1:x=(x/4294967296)*4294967296+x% 4294967296:=by omega
 have e2:y=(y/4294967296)*4294967296+y% 4294967296:=by omega
 grind
def rh {a b:Nat}(h:a<4294967296)(k:b<4294967296):a*b<=18446744065119617025:=by
 have:=eV (show a<=4294967295 by omega) (show b<=4294967295 by omega)
 omega
def afL {x y:Nat}(hx:x<18446744073709551616)(hy:y<18446744073709551616):
  (x/4294967296)*(y/4294967296)+((x/4294967296)*(y% 4294967296)+(x% 4294967296)*(y% 4294967296)/4294967296)/4294967296+
   (((x/4294967296)*(y% 4294967296)+(x% 4294967296)*(y% 4294967296)/4294967296)% 4294967296+(x% 4294967296)*(y/4294967296))/4294967296=x*y/18446744073709551616:=by
 rw[Ff (x:=x) (y:=y)]
 grind
def LC {a:Nat}(h:a<18446744073709551616):(BitVec.ofInt 64 (a:Int)&&& BitVec.ofInt 64 4294967295).toNat=a% 4294967296:=by
 rw[BitVec.toNat_and,rk,rk];rw[show((a:Int)%((2^ 64:Nat):Int)).toNat=a by omega,show(4294967295%((2^ 64:Nat):Int)).toNat=2^ 32-1 by decide,Nat.and_two_pow_sub_one_eq_mod]
end Bnd
namespace Bnd
open Go
def pX:List Bool->List Int->Option (List Bool)
 |l,[]=>some l
 |l,x::xs=>if 0<=x/\ x<l.length/\ l[x.toNat]?=some false then pX (l.set x.toNat true) xs else none
def nf:∀{xs:List Int} {l l':List Bool},pX l xs=some l'↔(∀x∈xs,0<=x/\ x<l.length/\ l[x.toNat]?=some false)/\ xs.Nodup/\ l'.length=l.length/\∀i:Nat,i<l.length->l'[i]?=if(i:Int)∈xs then some true else l[i]?
 |[],l,l'=>by
  simp[pX];constructor
  .rintro rfl;exact⟨rfl,λ_ _=>rfl⟩
  .rintro⟨h1,h2⟩;refine c8 λi=>?_;by_cases hi:i<l.length
   .exact(h2 i hi).symm
   .rw[bD (by omega),bD (by omega)]
 |x::xs,l,l'=>by
  unfold pX;by_cases hc:0<=x/\ x<l.length/\ l[x.toNat]?=some false
  .rw[ad hc,nf];obtain⟨c1,c2,c3⟩:=hc;rw[aP];constructor
   .rintro⟨h1,h2,h3,h4⟩;have hx:x∉xs:=λhm=>by
     have:=(h1 x hm).2.2;rw[bv (by omega)] at this;cases this
    refine⟨λy hy=>?_,cj.2 ⟨hx,h2⟩,h3,λi hi=>?_⟩
    .rcases bz.1 hy with rfl|hy
     .exact⟨c1,c2,c3⟩
     .obtain⟨g1,g2,g3⟩:=h1 y hy;have:x≠y:=λe=>hx (e▸hy);rw[bB (by omega)] at g3;exact⟨g1,g2,g3⟩
    .rw[h4 i hi];by_cases e:x=i
     .subst e;rw[ac hx,ad (by simp)];rw[aG,bv (by omega)]
     .have:(i:Int)∈x::xs↔(i:Int)∈xs:=by
       rw[bz];exact⟨λh=>h.resolve_left (λe'=>e e'.symm),.inr⟩
      rw[bB (by omega)];by_cases hm:(i:Int)∈xs
      .rw[ad hm,ad (this.2 hm)]
      .rw[ac hm,ac (λh=>hm (this.1 h))]
   .rintro⟨h1,h2,h3,h4⟩;rw[cj] at h2;refine⟨λy hy=>?_,h2.2,h3,λi hi=>?_⟩
    .obtain⟨g1,g2,g3⟩:=h1 y (by simp[hy]);have:x≠y:=λe=>h2.1 (e▸hy);rw[bB (by omega)];exact⟨g1,g2,g3⟩
    .rw[h4 i hi];by_cases e:x=i
     .subst e;rw[ac h2.1,ad (by simp),aG,bv (by omega)]
     .have:(i:Int)∈x::xs↔(i:Int)∈xs:=by
       rw[bz];exact⟨λh=>h.resolve_left (λe'=>e e'.symm),.inr⟩
      rw[bB (by omega)];by_cases hm:(i:Int)∈xs
      .rw[ad hm,ad (this.2 hm)]
      .rw[ac hm,ac (λh=>hm (this.1 h))]
  .rw[ac hc];constructor
   .intro h;cases h
   .rintro⟨h1,_⟩;exact absurd (h1 x (by simp)) hc
structure Slots where
 u:List Int
 v:List Bool
 f:List Int
 deriving DecidableEq
def Slots.okP (s:Slots):Prop:=1<=s.u.length/\ s.u.length<=200/\ s.v.length=s.u.length/\(∃l,pX s.v s.f=some l/\ false∉l)/\∀(i:Nat) (u:Int),s.u[i]?=some u->0<=u/\ u<=1000000/\¬(u=0/\ s.v[i]?=some true)
def Slots.okR (s:Slots):Prop:=1<=s.u.length/\ s.u.length<=200/\ s.v.length=s.u.length/\ s.f.length<=s.u.length/\∃l,pX (List.replicate s.u.length false) s.f=some l/\∀(i:Nat) (u:Int) (b c:Bool),s.u[i]?=some u->s.v[i]?=some b->l[i]?=some c->0<=u/\ u<=1000000/\ b≠c/\¬(b=true/\ u<1)
def ik {xs:List Int}{n:Nat}(h:xs.Nodup)(hb:∀x∈xs,0<=x/\ x<n):xs.length<=n:=by
 have:=vC (l:=xs) (k:=(List.range n).map λi:Nat=>(i:Int)) h λx hx=>by
  obtain⟨h1,h2⟩:=hb x hx;exact bk.2 ⟨x.toNat,dc.2 (by omega),by omega⟩
 grind
def Slots.ok_iff (s:Slots):s.okP↔s.okR:=by
 unfold Slots.okP Slots.okR;constructor
 .rintro⟨h1,h2,h3,⟨l,h4,h5⟩,h6⟩;obtain⟨m1,m2,m3,m4⟩:=nf.1 h4;have hr:pX (List.replicate s.u.length false) s.f=some ((List.range s.u.length).map λi:Nat=>decide ((i:Int)∈s.f)):=by
   rw[nf]
   grind
  refine⟨h1,h2,h3,ik m2 λx hx=>⟨(m1 x hx).1,by have:=(m1 x hx).2.1;omega⟩,_,hr,λi u b c hu hb hc=>?_⟩;have hi:=(aC.1 hu).1;obtain⟨g1,g2,g3⟩:=h6 i u hu;rw[a8,jw hi] at hc;simp only[cD,bZ] at hc;have hl:=m4 i (by omega);refine⟨g1,g2,?_,?_⟩
  .by_cases e:(i:Int)∈s.f
   .have:=(m1 _ e).2.2;rw[aG,hb] at this;cases this;rw[<-hc];simp[e]
   .rw[ac e,hb] at hl;rw[<-hc];cases b with
    |true=>simp[e]
    |false=>exact absurd (ax hl) h5
  .rintro⟨rfl,h⟩;exact g3 ⟨by omega,hb⟩
 .rintro⟨h1,h2,h3,h4,l,h5,h6⟩;obtain⟨m1,m2,m3,m4⟩:=nf.1 h5;rw[aQ] at m3 m4;have facts:∀i:Nat,i<s.u.length->∃u b,s.u[i]?=some u/\ s.v[i]?=some b/\ l[i]?=some (decide ((i:Int)∈s.f))/\ 0<=u/\ u<=1000000/\ b=!decide ((i:Int)∈s.f)/\¬(b=true/\ u<1):=λi hi=>by
   have hl:=m4 i hi;rw[eM,ad hi] at hl;have hl':l[i]?=some (decide ((i:Int)∈s.f)):=by
    rw[hl];by_cases e:(i:Int)∈s.f<;>simp[e]
   obtain⟨g1,g2,g3,g4⟩:=h6 i _ _ _ (ai hi) (ai (by omega)) hl';refine⟨_,_,ai hi,ai (by omega),hl',g1,g2,?_,g4⟩
   revert g3
   cases s.v[i]<;>cases decide ((i:Int)∈s.f)<;>simp
  refine⟨h1,h2,h3,⟨List.replicate s.v.length true,?_,by simp[fD]⟩,λi u hu=>?_⟩
  .rw[nf];refine⟨λx hx=>?_,m2,by simp,λi hi=>?_⟩
   .obtain⟨g1,g2,_⟩:=m1 x hx;rw[aQ] at g2;obtain⟨u,b,q1,q2,_,_,_,q3,_⟩:=facts x.toNat (by omega);refine⟨g1,by omega,?_⟩;rw[q2,q3,show((x.toNat:Nat):Int)=x by omega]
    simp[hx]
   .obtain⟨u,b,q1,q2,_,_,_,q3,_⟩:=facts i (by omega);rw[eM,ad hi,q2,q3];by_cases e:(i:Int)∈s.f<;>simp[e]
  .have hi:=(aC.1 hu).1;obtain⟨u',b,q1,q2,_,q4,q5,q3,q6⟩:=facts i hi;rw[hu] at q1;cases q1;refine⟨q4,q5,?_⟩;rintro⟨rfl,hb⟩;rw[q2] at hb;cases hb;exact q6 ⟨rfl,by omega⟩
end Bnd
namespace Bnd
open Go
def luk (ps:List (Int×Int))(k:Int)(v:Int):Int:=ps.foldl (λv x=>if x.1=k then x.2 else v) v
def qR {t:Rt}:∀(n:Nat) (l:List Pt) (from':Int) (d:Nat),l.length<=n->Ids l->∀x∈ek t l from' d,∃p∈l,p.id=x.1/\(x.2=from'\/∃q∈l,q.id=x.2/\ leads t q p=true):=by
 intro n;induction n with
 |zero=>
  intro l from' d h _ x hx;have hl:l=[]:=cX.1 (by omega);subst hl;unfold ek at hx;cases hx
 |succ n ih=>
  intro l from' d h hi x hx;cases l with
  |nil=>unfold ek at hx;cases hx
  |cons p l=>
   unfold ek at hx;have htm:df t l p∈p::l:=by
    rcases topP_mem t l p with h|h
    .rw[h];simp
    .simp[h]
   rcases bz.1 hx with rfl|hx
   .grind
   .have go:∀b,x∈ek t (side (p::l) (df t l p).id d b) (df t l p).id (d+1)->∃p'∈p::l,p'.id=x.1/\(x.2=from'\/∃q∈p::l,q.id=x.2/\ leads t q p'=true):=λb hb=>by
     have hlen:=qC (t:=t) (p:=p) (l:=l) (d:=d) (b:=b);obtain⟨p',hp',e,hh⟩:=ih (side (p::l) (df t l p).id d b) _ _ (by simp only[aZ] at h;omega) (hi.filter _) x hb;obtain⟨hm,hc⟩:=bF.1 hp';refine⟨p',hm,e,.inr ?_⟩;rcases hh with hh|⟨q,hq,e',hl⟩
     .refine⟨_,htm,hh.symm,tv l p hi p' hm λe=>?_⟩
      grind
     .exact⟨q,(bF.1 hq).1,e',hl⟩
    rcases b9.1 hx with hx|hx
    .exact go 0 hx
    .exact go 1 hx
def luk_mem {ps:List (Int×Int)}{k v:Int}:luk ps k v=v\/(k,luk ps k v)∈ps:=by
 induction ps generalizing v with
 |nil=>exact .inl rfl
 |cons x ps ih=>
  unfold luk at ih|-;rcases ih (v:=if x.1=k then x.2 else v) with h|h
  .by_cases e:x.1=k
   .grind
   .grind
  .grind
def Pp {t:Rt}:∀(n:Nat) (l:List Pt) (from':Int) (d:Nat),l.length<=n->Ids l->(∀p∈l,0<=p.id)->∀p∈l,∃f,(p.id,f)∈ek t l from' d:=by
 intro n;induction n with
 |zero=>
  grind
 |succ n ih=>
  intro l from' d h hi h0 q hq;cases l with
  |nil=>cases hq
  |cons p l=>
   unfold ek;by_cases e:q.id=(df t l p).id
   .grind
   .have hb:fZ q.id d=0\/fZ q.id d=1:=by unfold fZ;omega
    have go:∀b,fZ q.id d=b->∃f,(q.id,f)∈ek t (side (p::l) (df t l p).id d b) (df t l p).id (d+1):=λb hb=>by
     have hlen:=qC (t:=t) (p:=p) (l:=l) (d:=d) (b:=b);exact ih (side (p::l) (df t l p).id d b) _ _ (by simp at h;omega) (hi.filter _) (λp hp=>h0 p (bF.1 hp).1) q (bF.2 ⟨hq,by simp[e,hb]⟩)
    grind
end Bnd
namespace Bnd
open Go
def Ek:∀{ps:List (Int×Int)} {k v:Int},(∃f,(k,f)∈ps)->(k,luk ps k v)∈ps
 |[],k,v,⟨f,h⟩=>by cases h
 |x::ps,k,v,⟨f,h⟩=>by
  unfold luk;rw[c6];rcases luk_mem (ps:=ps) (k:=k) (v:=if x.1=k then x.2 else v) with e|e
  .unfold luk at e;rw[e];by_cases hx:x.1=k
   .rw[ad hx];subst hx;simp
   .rw[ac hx] at e|-;rcases bz.1 h with h|h
    .rw[<-h] at hx;exact absurd rfl hx
    .have:=Ek (v:=v) ⟨f,h⟩;unfold luk at this;rw[e] at this;exact aU _ this
  .exact aU _ e
end Bnd
namespace Bnd
open Go
def upArr:List (Int×Int)->Nat->List Int->List Int
 |[],_,up=>up
 |x::l,j,up=>upArr l (j+1) ((if 0<=x.2 then(if 0<=x.1 then up.set x.1.toNat j else up).set x.2.toNat j else(if 0<=x.1 then up.set x.1.toNat j else up)))
def Fg:∀(l:List (Int×Int)) (j:Nat) (up:List Int),(upArr l j up).length=up.length
 |[],j,up=>rfl
 |x::l,j,up=>by
  unfold upArr;rw[Fg l]
  repeat' split
  all_goals simp
def oB (x:Int×Int)(i:Nat):Prop:=x.1=(i:Int)\/x.2=(i:Int)
instance (x:Int×Int) (i:Nat):Decidable (oB x i):=by unfold oB;infer_instance
def Fh:∀(l:List (Int×Int)) (j:Nat) (up:List Int) (i:Nat),i<up.length->
  (∀(k:Nat) (x:Int×Int),l[k]?=some x->oB x i->∀(k':Nat) (x':Int×Int),l[k']?=some x'->oB x' i->k=k')->
  (upArr l j up)[i]?=match l.findIdx? (λx=>decide (oB x i)) with|some k=>some ((j+k:Nat):Int)|none=>up[i]?
 |[],j,up,i,_,_=>rfl
 |x::l,j,up,i,hi,hu=>by
  unfold upArr;have hl:∀up':List Int,up'.length=up.length->(∀(k:Nat) (x':Int×Int),l[k]?=some x'->oB x' i->∀(k':Nat) (x'':Int×Int),l[k']?=some x''->oB x'' i->k=k')->(upArr l (j+1) up')[i]?=match l.findIdx? (λx=>decide (oB x i)) with|some k=>some ((j+1+k:Nat):Int)|none=>up'[i]?:=
   λup' h1 h2=>Fh l (j+1) up' i (by omega) h2
  have hu':∀(k:Nat) (x':Int×Int),l[k]?=some x'->oB x' i->∀(k':Nat) (x'':Int×Int),l[k']?=some x''->oB x'' i->k=k':=λk x' h1 h2 k' x'' h3 h4=>by
   have:=hu (k+1) x' (by simpa using h1) h2 (k'+1) x'' (by simpa using h3) h4
   omega
  rw[hl _ (by repeat' split
              all_goals simp) hu',rz]
  by_cases hc:oB x i
  .rw[aq hc];simp;have hn:l.findIdx? (λx=>decide (oB x i))=none:=by
    rw[fh];intro y hy;obtain⟨k,hk⟩:=aK.1 hy;refine ak λh=>?_;have:=hu 0 x rfl hc (k+1) y (by simpa using hk) h
    omega
   rw[hn];simp only;rcases hc with h|h
   .rw[h];by_cases c:0<=x.2
    .rw[ad c,ad (by omega)];by_cases e:x.2.toNat=i
     .rw[e,bv (by simpa using hi)]
     .rw[bB e,aG,bv hi]
    .rw[ac c,ad (by omega),aG,bv hi]
   .rw[h,ad (by omega),aG,bv];split
    .simpa using hi
    .exact hi
  .rw[ak hc];simp only[au,aw];have hset:(if 0<=x.2 then(if 0<=x.1 then up.set x.1.toNat j else up).set x.2.toNat j else(if 0<=x.1 then up.set x.1.toNat j else up))[i]?=up[i]?:=by
    have a1:0<=x.1->x.1.toNat≠i:=λh e=>hc (.inl (by omega));have a2:0<=x.2->x.2.toNat≠i:=λh e=>hc (.inr (by omega));by_cases c1:0<=x.1<;>by_cases c2:0<=x.2
    .rw[ad c2,ad c1,bB (a2 c2),bB (a1 c1)]
    .rw[ac c2,ad c1,bB (a1 c1)]
    .rw[ad c2,ac c1,bB (a2 c2)]
    .rw[ac c2,ac c1]
   rw[hset];cases l.findIdx? (λx=>decide (oB x i)) with
   |none=>rfl
   |some k=>simp only[cD];rw[show j+1+k=j+(k+1) by omega]
def AC {α:Type}{p:α->Bool}:∀{l:List α},(∀(k k':Nat) (x x':α),l[k]?=some x->p x=true->l[k']?=some x'->p x'=true->k=k')->(l.filter p)=match l.findIdx? p with|some k=>(l[k]?).toList|none=>[]
 |[],_=>rfl
 |a::l,h=>by
  have h':∀(k k':Nat) (x x':α),l[k]?=some x->p x=true->l[k']?=some x'->p x'=true->k=k':=λk k' x x' h1 h2 h3 h4=>by
   have:=h (k+1) (k'+1) x x' (by simpa using h1) h2 (by simpa using h3) h4
   omega
  rw[cS,rz];cases e:p a with
  |true=>
   simp only[];have:l.filter p=[]:=by
    rw[n7];intro x hx hp;obtain⟨k,hk⟩:=aK.1 hx;have:=h 0 (k+1) a x rfl e (by simpa using hk) hp
    omega
   rw[this];rfl
  |false=>
   simp;rw[AC h'];cases l.findIdx? p with
   |none=>rfl
   |some k=>simp
end Bnd
namespace Bnd
open Go
def gK (l:List Int):Prop:=∀(i:Nat),i<l.length->∀x,l[i]?=some x->0<=x->∀j,j<i->l[j]?≠some x
def zx {l:List Int}:gK l↔∀(i j:Nat) (x:Int),0<=x->l[i]?=some x->l[j]?=some x->i=j:=by
 constructor
 .intro h i j x hx hi hj;have hi':=(aC.1 hi).1;have hj':=(aC.1 hj).1;rcases fR i j with g|g|g
  .exact absurd hi (h j hj' x hj hx i g)
  .exact g
  .exact absurd hj (h i hi' x hi hx j g)
 .intro h i _ x hi hx j hj e
  grind
def Ao {wins places:List Int}{i:Nat}{x:Int}(h:wins[i]?=some x):nodeV wins places i=x:=by
 unfold nodeV
 grind
def Em {wins places:List Int}{i:Nat}{x:Int}(hi:¬i<wins.length)(h:places[i-wins.length]?=some x):nodeV wins places i=x:=by
 unfold nodeV
 grind
def pY (wins places:List Int)(i:Nat):Prop:=nodeV wins places i=nodeV wins places (2*i+1)\/nodeV wins places i=nodeV wins places (2*i+2)
def sL (wins places:List Int):Prop:=(1<=places.length/\ places.length<=64/\ places.length=wins.length+1)/\ gK places/\∀x∈places,-1<=x/\ x<=65535
def l7 (wins places:List Int):Prop:=sL wins places/\∀i,i<wins.length->pY wins places i/\¬(nodeV wins places i<0/\ 0<=max (nodeV wins places (2*i+1)) (nodeV wins places (2*i+2)))
def Bc (wins places:List Int):Prop:=sL wins places/\∀i,i<wins.length->pY wins places i/\¬(nodeV wins places i= -1/\(nodeV wins places (2*i+1)≠ -1\/nodeV wins places (2*i+2)≠ -1))
def K3 {wins places:List Int}(hb:sL wins places)(hp:∀i,i<wins.length->pY wins places i):∀(d i:Nat),2*places.length-i=d-> -1<=nodeV wins places i:=by
 intro d;induction d using Nat.strongRecOn with
 |ind d ih=>
  intro i hd;by_cases hlt:i<wins.length
  .have:=hb.1.2.2;rcases hp i hlt with h|h
   .grind
   .grind
  .unfold nodeV;rw[ac hlt];cases e:places[i-wins.length]? with
   |none=>simp
   |some x=>exact(hb.2.2 x (ax e)).1
def VY {wins places:List Int}:l7 wins places↔Bc wins places:=by
 constructor
 .rintro⟨hb,h⟩;refine⟨hb,λi hi=>⟨(h i hi).1,λhn=>(h i hi).2 ?_⟩⟩;have g:=λi=>K3 hb (λi hi=>(h i hi).1) _ i rfl;have:=g (2*i+1);have:=g (2*i+2);omega
 .rintro⟨hb,h⟩;refine⟨hb,λi hi=>⟨(h i hi).1,λhn=>(h i hi).2 ?_⟩⟩;have g:=λi=>K3 hb (λi hi=>(h i hi).1) _ i rfl;have:=g i;have:=g (2*i+1);have:=g (2*i+2);omega
def zy {wins places:List Int}(h:l7 wins places):Match wins places:=⟨h.1.1.2.2,zx.1 h.1.2.1,λi hi=>(h.2 i hi).1⟩
end Bnd
namespace Bnd
open Go
def playD (won:Int->Int->Int)(places:List Int)(m:Nat):Nat->List Int
 |0=>List.replicate m 0
 |k+1=>(playD won places m k).set (m-1-k) (won (nodeV (playD won places m k) places (2*(m-1-k)+1)) (nodeV (playD won places m k) places (2*(m-1-k)+2)))
def it {won:Int->Int->Int}{places:List Int}{m:Nat}:∀k,(playD won places m k).length=m
 |0=>by simp[playD]
 |k+1=>by simp[playD,it k]
def Df {won:Int->Int->Int}{places:List Int}{m:Nat}:∀k,k<=m->tz won places (m-k) (playD won places m k)=tz won places m (List.replicate m 0)
 |0,_=>rfl
 |k+1,h=>by
  rw[<-Df k (by omega)];have e:m-k=(m-(k+1))+1:=by omega
  have e2:m-1-k=m-(k+1):=by omega
  conv=>rhs;rw[e];unfold tz
  conv=>lhs;unfold playD;rw[e2]
def uD {won:Int->Int->Int}{places v:List Int}{m:Nat}(h:v.length=m):playD won places m m=v↔mD won v places:=by
 have:=Df (won:=won) (places:=places) m (aB m);rw[js] at this;rw[show playD won places m m=tz won places 0 (playD won places m m) from rfl,this,<-VX (w:=List.replicate m 0) (by simpa using h)]
 simp
def Ms {P:Int->Prop}(h0:P (-1)){wins places:List Int}(hp:∀x∈places,P x){i:Nat}(h:¬i<wins.length):P (nodeV wins places i):=by
 unfold nodeV
 grind
def Ap {P:Int->Prop}(h0:P (-1)){won:Int->Int->Int}(hw:∀a b,P a->P b->P (won a b)){places:List Int}(hp:∀x∈places,P x){m:Nat}:∀k,k<=m->∀j,m-k<=j->P (nodeV (playD won places m k) places j)
 |0,_,j,hj=>Ms h0 hp (wins:=playD won places m 0) (by rw[it];omega)
 |k+1,hk,j,hj=>by
  have ih:=Ap h0 hw hp (m:=m) k (by omega);unfold playD;by_cases e:m-1-k=j
  .subst e;have:nodeV ((playD won places m k).set (m-1-k) (won (nodeV (playD won places m k) places (2*(m-1-k)+1)) (nodeV (playD won places m k) places (2*(m-1-k)+2)))) places (m-1-k)=won (nodeV (playD won places m k) places (2*(m-1-k)+1)) (nodeV (playD won places m k) places (2*(m-1-k)+2)):=by
    unfold nodeV;rw[aP,it,ad (by omega),bv (by rw[it];omega)];rfl
   rw[this];exact hw _ _ (ih _ (by omega)) (ih _ (by omega))
  .rw[o8 e];exact ih j (by omega)
def Y1 {P:Int->Prop}(h0:P (-1)){wins places:List Int}(hl:places.length=wins.length+1)(hp:∀x∈places,P x)(hk:∀i,i<wins.length->pY wins places i):∀(d i:Nat),2*places.length-i=d->P (nodeV wins places i):=by
 intro d;induction d using Nat.strongRecOn with
 |ind d ih=>
  intro i hd;by_cases hlt:i<wins.length
  .rcases hk i hlt with h|h
   .grind
   .grind
  .exact Ms h0 hp hlt
end Bnd
