import Derived.Test.YtndgdhbpojakpaaGreatA1
set_option linter.unusedVariables false
set_option linter.unusedSimpArgs false
set_option linter.defProp false
noncomputable section
namespace Bnd
open Go
def jD {α:Type}[DecidableEq α]:∀{l k:List α},l.Nodup->(∀x∈l,x∈k)->k.length<=l.length->l.Perm k
 |[],k,_,_,h=>by
  have:=c8.1 (by simpa using h)
  rw[this]
 |a::l,k,hn,hs,h=>by
  have ha:=hs a (by simp);have hp:=sN ha;rw[bW] at hn;refine(List.Perm.cons a (jD hn.2 (λx hx=>?_) ?_)).trans hp.symm
  .have hne:x≠a:=λe=>hn.1 (e▸hx);exact(lY hne).2 (hs x (by simp[hx]))
  .have:=hp.length_eq;simp at this h;omega
def zn {α:Type}[DecidableEq α]:∀{l k:List α},l.Nodup->(∀x∈l,x∈k)->l.length<=k.length
 |[],_,_,_=>by simp
 |a::l,k,hn,hs=>by
  have ha:=hs a (by simp);have hp:=sN ha;rw[bW] at hn;have:=zn (l:=l) (k:=k.erase a) hn.2 (λx hx=>by
   have hne:x≠a:=λe=>hn.1 (e▸hx);exact(lY hne).2 (hs x (by simp[hx])))
  have:=hp.length_eq;simp at this|-;omega
def Ox {α:Type}[DecidableEq α]{l k:List α}(hl:l.Nodup)(hk:k.Nodup)(h:l.length=k.length)(P:α->Prop):(∀x∈l,x∈k/\ P x)↔∀x∈k,x∈l/\ P x:=by
 constructor
 .intro a x hx;have hp:=jD hl (λx hx=>(a x hx).1) (by omega)
  grind
 .intro a x hx;have hp:=jD hk (λx hx=>(a x hx).1) (by omega)
  grind
def dt {α:Type}{l:List α}:l.Nodup↔∀(i j:Nat) (x:α),l[i]?=some x->l[j]?=some x->i=j:=by
 constructor
 .intro h i j x hi hj;have hi':=(aC.1 hi).1;exact(List.getElem?_inj hi' h).1 (hi.trans hj.symm)
 .intro h;induction l with
  |nil=>exact jR
  |cons a l ih=>
   rw[bW];constructor
   .intro ha;obtain⟨j,hj⟩:=aN.1 ha;have:=h 0 (j+1) a rfl (by simpa using hj)
    omega
   .refine ih λi j x hi hj=>?_;have:=h (i+1) (j+1) x (by simpa using hi) (by simpa using hj)
    omega
def mF {α:Type}{l:List α}:l.Nodup↔∀(i j:Nat) (x:α),j<i->l[i]?=some x->l[j]?≠some x:=by
 rw[dt]
 grind
end Bnd
namespace Bnd
open Go
structure Rt where
 num:Int
 den:Int
 deriving DecidableEq
structure Pt where
 id:Int
 a:Int
 b:Int
 deriving DecidableEq
def Fb (n:Int):Bool:=decide (-1048576<=n)&& decide (n<=1048576)
def Pt.ok (p:Pt):Bool:=decide (0<=p.id)&& decide (p.id<=65535)&& Fb p.a&& Fb p.b
def far (t:Rt)(p q:Pt):Int:=(p.a-q.a)*t.den+(p.b-q.b)*t.num
def leads (t:Rt)(p q:Pt):Bool:=if far t p q≠0 then decide (0<far t p q) else if p.b≠q.b then decide (q.b<p.b) else decide (p.id<q.id)
def zo (t:Rt)(p q r:Pt):far t p q+far t q r=far t p r:=by
 unfold far
 grind
def zr (t:Rt)(p q:Pt):far t q p= -far t p q:=by
 have h1:=zo t p q p;have h2:far t p p=0:=by unfold far;simp
 omega
def iv {t:Rt}{p q:Pt}:leads t p q=true↔0<far t p q\/far t p q=0/\(q.b<p.b\/p.b=q.b/\ p.id<q.id):=by
 unfold leads
 grind
def qh (t:Rt)(p:Pt):leads t p p=false:=by
 rw[<-kM,iv];have:=zr t p p;omega
def ki {t:Rt}{p q r:Pt}(h:leads t p q=true)(k:leads t q r=true):leads t p r=true:=by
 rw[iv] at h k|-;have:=zo t p q r;omega
def iV {t:Rt}{p q:Pt}(h:leads t p q=true):leads t q p=false:=by
 rw[<-kM,iv];rw[iv] at h;have:=zr t p q;omega
def leads_total {t:Rt}{p q:Pt}(h:p.id≠q.id):leads t p q=true\/leads t q p=true:=by
 rw[iv,iv];have:=zr t p q;omega
def om {t:Rt}{p q:Pt}(h:p.id≠q.id):leads t q p=!leads t p q:=by
 cases e:leads t p q with
 |true=>exact iV e
 |false=>
  rcases leads_total (t:=t) h with h|h
  .grind
  .exact h
end Bnd
namespace Bnd
open Go
section
variable (ld:Nat->Nat->Bool)
structure Lin (n:Nat):Prop where
 asymm:∀i j,ld i j=true->ld j i=false
 trans:∀i j k,ld i j=true->ld j k=true->ld i k=true
 total:∀i j,i<n->j<n->i≠j->ld i j=true\/ld j i=true
def AM (a b k:Nat):Prop:=a<=k/\ k<b/\∀j,a<=j->j<b->j≠k->ld k j=true
def jE (a b:Nat)(x:Int):Prop:=(b<=a/\ x= -1)\/∃k:Nat,x=k/\ AM ld a b k
def Fc (k a:Nat):Prop:=a<=k/\(∀j,a<=j->j<k->ld j k=false)/\(a=0\/ld (a-1) k=true)
def Fe (b k h:Nat):Prop:=k<h/\ h<=b/\(∀j,k<j->j<h->ld j k=false)/\(h=b\/ld h k=true)
def lP (b k:Nat)(x:Int×Int):Prop:=∃a h,Fc ld k a/\ Fe ld b k h/\ jE ld a k x.1/\ jE ld (k+1) h x.2
def ut (n:Nat)(root:Int)(l:List (Int×Int)):Prop:=jE ld 0 n root/\ l.length=n/\∀k x,l[k]?=some x->lP ld n k x
variable {ld}
def Oy {n a b k k':Nat}(L:Lin ld n)(h:AM ld a b k)(h':AM ld a b k'):k=k':=by
 by_cases e:k=k'
 .exact e
 .have h1:=h.2.2 k' h'.1 h'.2.1 (by omega);have h2:=h'.2.2 k h.1 h.2.1 e;rw[L.asymm _ _ h1] at h2;cases h2
def uu {n a b:Nat}{x y:Int}(L:Lin ld n)(h:jE ld a b x)(k:jE ld a b y):x=y:=by
 rcases h with⟨h1,rfl⟩|⟨i,rfl,h⟩<;>rcases k with⟨k1,rfl⟩|⟨j,rfl,k⟩
 .rfl
 .have:=k.1;have:=k.2.1;omega
 .have:=h.1;have:=h.2.1;omega
 .rw[Oy L h k]
def vu {k a a':Nat}(h:Fc ld k a)(h':Fc ld k a'):a=a':=by
 rcases ey a a' with g|g|g
 .exfalso;have:=h.2.1 (a'-1) (by omega) (by have:=h'.1;omega);rcases h'.2.2 with e|e
  .omega
  .grind
 .exact g
 .exfalso;have:=h'.2.1 (a-1) (by omega) (by have:=h.1;omega);rcases h.2.2 with e|e
  .omega
  .grind
def vw {b k h h':Nat}(g:Fe ld b k h)(g':Fe ld b k h'):h=h':=by
 obtain⟨a1,a2,a3,a4⟩:=g;obtain⟨b1,b2,b3,b4⟩:=g'
 grind
def Mq {n b k:Nat}{x y:Int×Int}(L:Lin ld n)(h:lP ld b k x)(h':lP ld b k y):x=y:=by
 obtain⟨a,c,h1,h2,h3,h4⟩:=h;obtain⟨a',c',k1,k2,k3,k4⟩:=h';rw[vu k1 h1] at k3;rw[vw k2 h2] at k4;exact Prod.ext (uu L h3 k3) (uu L h4 k4)
def Mr {n:Nat}{r r':Int}{l l':List (Int×Int)}(L:Lin ld n)(h:ut ld n r l)(h':ut ld n r' l'):r=r'/\ l=l':=by
 refine⟨uu L h.1 h'.1,cB λk=>?_⟩;cases e:l[k]? with
 |none=>
  rw[oy] at e;rw[bI (by have:=h.2.1;have:=h'.2.1;omega)]
 |some x=>
  have hk:=(aC.1 e).1;have hk':k<l'.length:=by have:=h.2.1;have:=h'.2.1;omega
  rw[ak hk'];have:=Mq L (h.2.2 k x e) (h'.2.2 k _ (ak hk'));rw[this]
def mG (ld:Nat->Nat->Bool):Nat->Nat->Option Nat->Option Nat
 |0,_,best=>best
 |m+1,i,best=>mG ld m (i+1) (match best with|none=>some i|some b=>if ld i b then some i else some b)
def lk:Option Nat->Int
 |none=> -1
 |some k=>k
def yf {n:Nat}(L:Lin ld n){a:Nat}:∀(m i:Nat) (best:Option Nat),i+m<=n->a<=i->jE ld a i (lk best)->jE ld a (i+m) (lk (mG ld m i best))
 |0,i,best,_,_,h=>h
 |m+1,i,best,hm,ha,h=>by
  unfold mG;rw[show i+(m+1)=(i+1)+m by omega]
  refine yf L m (i+1) _ (by omega) (by omega) ?_;rcases h with⟨h1,h2⟩|⟨k,h1,h2⟩
  .cases best with
   |some b=>simp[lk] at h2
   |none=>exact .inr ⟨i,rfl,by omega,by omega,λj h3 h4 h5=>by omega⟩
  .cases best with
   |none=>simp[lk] at h1
   |some b=>
    have hb:b=k:=by simp[lk] at h1;omega
    subst hb;obtain⟨h3,h4,h5⟩:=h2;cases e:ld i b with
    |true=>
     simp[e];refine .inr ⟨i,rfl,by omega,by omega,λj j1 j2 j3=>?_⟩;by_cases hj:j=b
     .rw[hj];exact e
     .exact L.trans _ _ _ e (h5 j j1 (by omega) hj)
    |false=>
     simp[e];refine .inr ⟨b,rfl,by omega,by omega,λj j1 j2 j3=>?_⟩;by_cases hj:j=i
     .subst hj;rcases L.total b j (by omega) (by omega) (by omega) with g|g
      .exact g
      .rw[e] at g;cases g
     .exact h5 j j1 (by omega) j3
def sF (ld:Nat->Nat->Bool)(a b:Nat):Option Nat:=mG ld (b-a) a none
def Ff {n:Nat}(L:Lin ld n){a b:Nat}(hb:b<=n)(h:a<=b):jE ld a b (lk (sF ld a b)):=by
 have:=yf L (a:=a) (b-a) a none (by omega) (aD _) (.inl ⟨aD _,rfl⟩);rwa [show a+(b-a)=b by omega] at this
def grow (ld:Nat->Nat->Bool):Nat->Nat->Nat->List (Int×Int)->List (Int×Int)×Int
 |0,_,_,l=>(l,-1)
 |f+1,a,b,l=>match sF ld a b with
  |none=>(l,-1)
  |some i=>
   let r:=grow ld f a i l
   let l1:=r.1.modify i λx=>(r.2,x.2)
   let s:=grow ld f (i+1) b l1
   (s.1.modify i λx=>(x.1,s.2),i)
def Ij (ld:Nat->Nat->Bool)(n a b:Nat):Prop:=a<=b/\ b<=n/\(a=0\/∀j,a<=j->j<b->ld (a-1) j=true)/\(b=n\/∀j,a<=j->j<b->ld b j=true)
def kX {n:Nat}(L:Lin ld n):∀(f a b:Nat) (l:List (Int×Int)),b-a<f->l.length=n->Ij ld n a b->
  jE ld a b (grow ld f a b l).2/\(grow ld f a b l).1.length=n/\(∀k,k<a\/b<=k->(grow ld f a b l).1[k]?=l[k]?)/\∀k x,a<=k->k<b->(grow ld f a b l).1[k]?=some x->lP ld n k x
 |0,a,b,l,h,_,_=>by omega
 |f+1,a,b,l,h,hl,E=>by
  obtain⟨e1,e2,e3,e4⟩:=E;have ht:=Ff L e2 e1;unfold grow;cases e:sF ld a b with
  |none=>
   rw[e] at ht;rcases ht with⟨t1,_⟩|⟨k,t1,_⟩
   .exact⟨.inl ⟨t1,rfl⟩,hl,λk _=>rfl,λk x h1 h2=>by omega⟩
   .simp[lk] at t1
  |some i=>
   rw[e] at ht;rcases ht with⟨_,t1⟩|⟨k,t1,t2⟩
   .simp[lk] at t1
   .have hk:i=k:=by simp[lk] at t1;omega
    subst hk;have ht:=t2;obtain⟨t3,t4,t5⟩:=t2;have E1:Ij ld n a i:=⟨t3,by omega,by
     rcases e3 with e3|e3
     .exact .inl e3
     .exact .inr λj j1 j2=>e3 j j1 (by omega),.inr λj j1 j2=>t5 j j1 (by omega) (by omega)⟩
    have E2:Ij ld n (i+1) b:=⟨by omega,e2,.inr λj j1 j2=>by
     rw[dJ];exact t5 j (by omega) j2 (by omega),by
     rcases e4 with e4|e4
     .exact .inl e4
     .exact .inr λj j1 j2=>e4 j (by omega) j2⟩
    obtain⟨g1,g2,g3,g4⟩:=kX L f a i l (by omega) hl E1;simp only;generalize hr:grow ld f a i l=r at g1 g2 g3 g4;have hl1:(r.1.modify i λx=>(r.2,x.2)).length=n:=by rw[dc,g2]
    obtain⟨k1,k2,k3,k4⟩:=kX L f (i+1) b (r.1.modify i λx=>(r.2,x.2)) (by omega) hl1 E2;generalize hs:grow ld f (i+1) b (r.1.modify i λx=>(r.2,x.2))=s at k1 k2 k3 k4;refine⟨.inr ⟨i,rfl,ht⟩,by rw[dc,k2],λk hk=>?_,λk x h1 h2 hx=>?_⟩
    .rw[dN _ _ (by omega:i≠k),k3 k (by omega),dN _ _ (by omega:i≠k),g3 k (by omega)]
    .by_cases hk:k=i
     .subst hk;rw[fj,k3 k (by omega),fj] at hx;obtain⟨y,hy⟩:∃y,r.1[k]?=some y:=⟨r.1[k]'(by omega),ak _⟩;rw[hy] at hx;simp at hx;subst hx;refine⟨a,b,⟨h1,λj j1 j2=>L.asymm _ _ (t5 j j1 (by omega) (by omega)),?_⟩,⟨h2,e2,λj j1 j2=>L.asymm _ _ (t5 j (by omega) j2 (by omega)),?_⟩,g1,k1⟩
      .rcases e3 with e3|e3
       .exact .inl e3
       .exact .inr (e3 k h1 h2)
      .rcases e4 with e4|e4
       .exact .inl e4
       .exact .inr (e4 k h1 h2)
     .rw[dN _ _ (by omega:i≠k)] at hx;by_cases hlt:k<i
      .rw[k3 k (by omega),dN _ _ (by omega:i≠k)] at hx;exact g4 k x h1 hlt hx
      .exact k4 k x (by omega) h2 hx
end
end Bnd
namespace Bnd
open Go
section
variable {ld:Nat->Nat->Bool}
def popAll (ld:Nat->Nat->Bool)(i:Nat):List Nat->Int->List Nat×Int
 |[],y=>([],y)
 |e::es,y=>if ld e i then(e::es,y) else popAll ld i es e
def qi (ld:Nat->Nat->Bool)(i:Nat)(s:List Nat×Int×List (Int×Int)):List Nat×Int×List (Int×Int):=
 match popAll ld i s.1 (-1) with
 |([],y)=>([i],i,s.2.2++[(y,-1)])
 |(e::es,y)=>(i::e::es,s.2.1,(s.2.2.modify e λx=>(x.1,i))++[(y,-1)])
def Opn (ld:Nat->Nat->Bool)(i k:Nat):Prop:=k<i/\∀j,k<j->j<i->ld j k=false
structure CInv (ld:Nat->Nat->Bool)(i:Nat)(s:List Nat×Int×List (Int×Int)):Prop where
 desc:s.1.Pairwise (· >·)
 mem:∀k,k∈s.1↔Opn ld i k
 root:jE ld 0 i s.2.1
 len:s.2.2.length=i
 node:∀k x,s.2.2[k]?=some x->lP ld i k x
def lQ (i:Nat):∀(l:List Nat) (y:Int),∃gone,l=gone++(popAll ld i l y).1/\(∀k∈gone,ld k i=false)/\(∀e es,(popAll ld i l y).1=e::es->ld e i=true)/\((gone=[]/\(popAll ld i l y).2=y)\/∃g k,gone=g++[k]/\(popAll ld i l y).2=(k:Nat))
 |[],y=>⟨[],rfl,by simp,by simp[popAll],.inl ⟨rfl,rfl⟩⟩
 |e::es,y=>by
  unfold popAll;cases h:ld e i with
  |true=>exact⟨[],rfl,by simp,λa b hab=>by simp at hab;rw[<-hab.1];exact h,.inl ⟨rfl,rfl⟩⟩
  |false=>
   simp;obtain⟨gone,h1,h2,h3,h4⟩:=lQ i es (e:Nat);refine⟨e::gone,by rw[dR,<-h1],λk hk=>?_,h3,.inr ?_⟩
   .rcases bz.1 hk with rfl|hk
    .exact h
    .exact h2 k hk
   .rcases h4 with⟨rfl,h4⟩|⟨g,k,rfl,h4⟩
    .exact⟨[],e,rfl,h4⟩
    .exact⟨e::g,k,rfl,h4⟩
def Rv {n i c:Nat}(L:Lin ld n)(h:∀k,c<=k->Opn ld i k->ld i k=true):∀(d k:Nat),i-k=d->c<=k->k<i->ld i k=true:=by
 intro d;induction d using Nat.strongRecOn with
 |ind d ih=>
  intro k hd hc hk;by_cases ho:∀j,k<j->j<i->ld j k=false
  .exact h k hc ⟨hk,ho⟩
  .simp at ho;obtain⟨j,h1,h2,h3⟩:=ho;exact L.trans _ _ _ (ih (i-j) (by omega) j rfl (by omega) h2) h3
def uv {n i k:Nat}(L:Lin ld n)(hi:i<=n)(h:Opn ld i k):∀j,k<j->j<i->ld k j=true:=λj h1 h2=>by
 rcases L.total k j (by omega) (by omega) (by omega) with g|g
 .exact g
 .rw[h.2 j h1 h2] at g;cases g
def Ms {n i c k:Nat}(L:Lin ld n)(hi:i<=n)(hc:c<=k)(h:Opn ld i k)(hf:∀j,c<=j->j<k->¬Opn ld i j):AM ld c i k:=by
 refine⟨hc,h.1,λj h1 h2 h3=>?_⟩;have:∀d j,k-j=d->c<=j->j<k->ld k j=true:=by
  intro d;induction d using Nat.strongRecOn with
  |ind d ih=>
   intro j hd hc hj;have:=hf j hc hj;unfold Opn at this;simp at this;obtain⟨m,m1,m2,m3⟩:=this (by have:=h.1;omega);rcases ey m k with g|g|g
   .exact L.trans _ _ _ (ih (k-m) (by omega) m rfl (by omega) g) m3
   .grind
   .exact L.trans _ _ _ (uv L hi h m g m2) m3
 rcases pK j k with g|g
 .grind
 .exact uv L hi h j (by omega) h2
def Oz {n i:Nat}(L:Lin ld n)(hi:i<n){s:List Nat×Int×List (Int×Int)}(I:CInv ld i s):CInv ld (i+1) (qi ld i s):=by
 obtain⟨edge,root,nodes⟩:=s;obtain⟨desc,mem,hroot,len,node⟩:=I;simp only at desc mem hroot len node;obtain⟨gone,p1,p2,p3,p4⟩:=lQ (ld:=ld) i edge (-1);unfold qi;simp only;generalize hp:popAll ld i edge (-1)=pr at p1 p2 p3 p4;obtain⟨kept,y⟩:=pr;simp only at p1 p2 p3 p4;have memg:∀k∈gone,Opn ld i k:=λk hk=>(mem k).1 (by rw[p1];exact ee _ hk);have memk:∀k∈kept,Opn ld i k:=λk hk=>(mem k).1 (by rw[p1];exact fZ _ hk);have both:∀k,Opn ld i k->k∈gone\/k∈kept:=λk hk=>by
  grind
 have goneLed:∀k∈gone,ld i k=true:=λk hk=>by
  have:=(memg k hk).1;rcases L.total k i (by omega) hi (by omega) with g|g
  .grind
  .exact g
 rw[p1,sM] at desc;obtain⟨d1,d2,d3⟩:=desc;have keptLead:∀k∈kept,ld k i=true:=λk hk=>by
  cases kept with
  |nil=>cases hk
  |cons e es=>
   have he:=p3 e es rfl;rcases bz.1 hk with rfl|hk
   .exact he
   .have:k<e:=(fU.1 d2).1 k hk;exact L.trans _ _ _ (uv L (by omega) (memk k (cA _ hk)) e this (memk e (by simp)).1) he
 have opn1:∀k,Opn ld (i+1) k↔k=i\/k∈kept:=λk=>by
  constructor
  .rintro⟨h1,h2⟩;by_cases e:k=i
   .exact .inl e
   .rcases both k ⟨by omega,λj a b=>h2 j a (by omega)⟩ with g|g
    .have:=goneLed k g;rw[h2 i (by omega) (by omega)] at this;cases this
    .exact .inr g
  .rintro(rfl|h)
   .exact⟨by omega,λj a b=>by omega⟩
   .obtain⟨h1,h2⟩:=memk k h;refine⟨by omega,λj a b=>?_⟩;by_cases e:j=i
    .subst e;exact L.asymm _ _ (keptLead k h)
    .exact h2 j a (by omega)
 have behind:∀c,(∀k∈kept,k<c)->∀k,c<=k->k<i->ld i k=true:=λc hc k h1 h2=>
  Rv L (λk a b=>by
   rcases both k b with g|g
   .exact goneLed k g
   .have:=hc k g;omega) _ k rfl h1 h2
 have hy:∀c,(∀k∈kept,k<c)->(∀k∈gone,c<=k)->c<=i->jE ld c i y:=λc h1 h2 h3=>by
  rcases p4 with⟨rfl,rfl⟩|⟨g,k,rfl,rfl⟩
  .left
   refine⟨?_,rfl⟩;rcases pK c i with hlt|hge
   .exfalso;have:Opn ld i (i-1):=⟨by omega,λj a b=>by omega⟩;rcases both _ this with g|g
    .cases g
    .have:=h1 _ g;omega
   .exact hge
  .right
   refine⟨k,rfl,Ms L (by omega) (h2 k (by simp)) (memg k (by simp)) λj j1 j2 hj=>?_⟩;rcases both j hj with g'|g'
   .rcases b5.1 g' with g'|g'
    .have:=(sM.1 d1).2.2 j g' k (by simp);omega
    .simp at g';omega
   .have:=h1 j g';omega
 have keep:∀k x,nodes[k]?=some x->(∀e es,kept=e::es->k≠e)->lP ld (i+1) k x:=λk x hx hne=>by
  obtain⟨a,h,n1,n2,n3,n4⟩:=node k x hx;obtain⟨q1,q2,q3,q4⟩:=n2;by_cases hh:h=i/\ Opn ld i k
  .obtain⟨rfl,ho⟩:=hh;rcases both k ho with g|g
   .exact⟨a,h,n1,⟨q1,by omega,q3,.inr (goneLed k g)⟩,n3,n4⟩
   ·
    cases kept with
    |nil=>cases g
    |cons e es=>
     have hke:=hne e es rfl;have hk':k<e:=by
      rcases bz.1 g with g|g
      .omega
      .exact(fU.1 d2).1 k g
     have he:=memk e (by simp);have hki:=keptLead e (by simp);refine⟨a,h+1,n1,⟨by omega,by omega,((opn1 k).2 (.inr g)).2,.inl rfl⟩,n3,?_⟩;rcases n4 with⟨n4,_⟩|⟨m,n4,t1,t2,t3⟩
     .have:=he.1;omega
     .refine .inr ⟨m,n4,t1,by omega,λj j1 j2 j3=>?_⟩;by_cases hj:j=h
      .subst hj;by_cases hem:e=m
       .rw[<-hem];exact hki
       .exact L.trans _ _ _ (t3 e (by omega) he.1 hem) hki
      .exact t3 j j1 (by omega) j3
  .refine⟨a,h,n1,⟨q1,by omega,q3,?_⟩,n3,n4⟩;rcases q4 with q4|q4
   .exfalso;subst q4;exact hh ⟨rfl,q1,q3⟩
   .exact .inr q4
 have new:∀c,(∀k∈kept,k<c)->(∀k∈gone,c<=k)->c<=i->(c=0\/ld (c-1) i=true)->lP ld (i+1) i (y,-1):=λc h1 h2 h3 h4=>
  ⟨c,i+1,⟨h3,λj a b=>L.asymm _ _ (behind c h1 j a b),h4⟩,⟨by omega,by omega,λj a b=>by omega,.inl rfl⟩,hy c h1 h2 h3,.inl ⟨by omega,rfl⟩⟩
 cases kept with
 |nil=>
  have hn0:lP ld (i+1) i (y,-1):=new 0 (by simp) (by simp) (by omega) (.inl rfl);refine⟨by simp,λk=>?_,?_,by simp[len],λk x hx=>?_⟩
  .rw[opn1 k];simp
  .exact .inr ⟨i,rfl,by omega,by omega,λj j1 j2 j3=>behind 0 (by simp) j (by omega) (by omega)⟩
  .rw[gn] at hx;split at hx
   .exact keep k x hx (by simp)
   .rename_i hk;have:k=i:=by
     have:=(aC.1 hx).1;simp only[aS] at this;omega
    subst this;rw[len] at hx;simp at hx;rw[<-hx];exact hn0
 |cons e es=>
  have he:=memk e (by simp);have hei:=keptLead e (by simp);have hes:∀k∈e::es,k<e+1:=λk hk=>by
   rcases bz.1 hk with rfl|hk
   .omega
   .have:k<e:=(fU.1 d2).1 k hk;omega
  have hn0:lP ld (i+1) i (y,-1):=new (e+1) hes (λk hk=>by have:=d3 k hk e (by simp);omega) he.1 (.inr (by rw[dJ];exact hei));refine⟨?_,λk=>?_,?_,by simp[len],λk x hx=>?_⟩
  .rw[fU];exact⟨λk hk=>(memk k hk).1,d2⟩
  .rw[opn1 k,bz]
  .rcases hroot with⟨r1,_⟩|⟨m,r1,t1,t2,t3⟩
   .have:=he.1;omega
   .refine .inr ⟨m,r1,t1,by omega,λj j1 j2 j3=>?_⟩;by_cases hj:j=i
    .subst hj;by_cases hem:e=m
     .rw[<-hem];exact hei
     .exact L.trans _ _ _ (t3 e (by omega) he.1 hem) hei
    .exact t3 j j1 (by omega) j3
  .simp only at hx;rw[gn] at hx;split at hx
   .rename_i hk;rw[dc,len] at hk;by_cases hke:k=e
    .subst hke;rw[fj] at hx;obtain⟨z,hz⟩:∃z,nodes[k]?=some z:=⟨nodes[k]'(by omega),ak _⟩;rw[hz] at hx;simp only[Option.map_eq_map,bX,bS] at hx;subst hx;obtain⟨a,h,n1,n2,n3,n4⟩:=node k z hz;refine⟨a,i+1,n1,⟨by omega,by omega,((opn1 k).2 (.inr (by simp))).2,.inl rfl⟩,n3,.inr ⟨i,rfl,by omega,by omega,λj j1 j2 j3=>behind (k+1) hes j j1 (by omega)⟩⟩
    .rw[dN _ _ (by omega:e≠k)] at hx;exact keep k x hx (by intro e' es' h;simp at h;omega)
   .rename_i hk;rw[dc,len] at hx hk;have:k=i:=by
     have:=(aC.1 hx).1;simp only[aS] at this;omega
    subst this;simp at hx;rw[<-hx];exact hn0
def cmake (ld:Nat->Nat->Bool):Nat->List Nat×Int×List (Int×Int)
 |0=>([],-1,[])
 |i+1=>qi ld i (cmake ld i)
def gq {n:Nat}(L:Lin ld n):∀i,i<=n->CInv ld i (cmake ld i)
 |0,_=>⟨.nil,λk=>by simp[cmake,Opn],.inl ⟨aD _,rfl⟩,rfl,λk x h=>by simp[cmake] at h⟩
 |i+1,h=>Oz L (by omega) (gq L i (by omega))
def oo {n:Nat}(L:Lin ld n):ut ld n (cmake ld n).2.1 (cmake ld n).2.2:=by
 have:=gq L n (aD _);exact⟨this.root,this.len,this.node⟩
end
end Bnd
namespace Bnd
open Go
section
variable {ld:Nat->Nat->Bool}
def Below (l:List (Int×Int))(i j:Nat):Prop:=∃x,l[j]?=some x/\(x.1=(i:Int)\/x.2=(i:Int))
def qB {n:Nat}(L:Lin ld n){root:Int}{l:List (Int×Int)}(C:ut ld n root l){i j:Nat}(h:Below l i j):
  ld j i=true/\((i<j/\ Fe ld n i j/\∃a,Fc ld i a/\(a=0\/ld (a-1) j=true))\/(j<i/\ Fc ld i (j+1)/\∃b,Fe ld n i b/\(b=n\/ld b j=true))):=by
 obtain⟨x,hx,h⟩:=h;obtain⟨a,b,⟨a1,a2,a3⟩,⟨b1,b2,b3,b4⟩,l1,l2⟩:=C.2.2 j x hx;have hj:j<n:=by have:=(aC.1 hx).1;have:=C.2.1;omega
 rcases h with h|h
 .rw[h] at l1;rcases l1 with⟨_,l1⟩|⟨k,l1,t1,t2,t3⟩
  .omega
  .have:i=k:=by omega
   subst this;have led:∀m,a<=m->m<j->ld j m=true:=λm m1 m2=>by
    rcases L.total j m hj (by omega) (by omega) with g|g
    .exact g
    .grind
   have hji:=led i t1 t2;refine⟨hji,.inl ⟨t2,⟨t2,by omega,λm m1 m2=>L.asymm _ _ (t3 m (by omega) m2 (by omega)),.inr hji⟩,a,⟨t1,λm m1 m2=>L.asymm _ _ (t3 m m1 (by omega) (by omega)),?_⟩,a3⟩⟩;rcases a3 with a3|a3
   .grind
   .exact .inr (L.trans _ _ _ a3 hji)
 .rw[h] at l2;rcases l2 with⟨_,l2⟩|⟨k,l2,t1,t2,t3⟩
  .omega
  .have:i=k:=by omega
   subst this;have led:∀m,j<m->m<b->ld j m=true:=λm m1 m2=>by
    rcases L.total j m hj (by omega) (by omega) with g|g
    .exact g
    .rw[b3 m m1 m2] at g;cases g
   have hji:=led i t1 t2;refine⟨hji,.inr ⟨by omega,⟨t1,λm m1 m2=>L.asymm _ _ (t3 m m1 (by omega) (by omega)),.inr (by rw[dJ];exact hji)⟩,b,⟨t2,b2,λm m1 m2=>L.asymm _ _ (t3 m (by omega) m2 (by omega)),?_⟩,b4⟩⟩;rcases b4 with b4|b4
   .exact .inl b4
   .exact .inr (L.trans _ _ _ b4 hji)
def Ik {n:Nat}(L:Lin ld n){root:Int}{l:List (Int×Int)}(C:ut ld n root l){i j j':Nat}(h:Below l i j)(h':Below l i j'):j=j':=by
 have hj:j<n:=by obtain⟨x,hx,_⟩:=h;have:=(aC.1 hx).1;have:=C.2.1;omega
 have hj':j'<n:=by obtain⟨x,hx,_⟩:=h';have:=(aC.1 hx).1;have:=C.2.1;omega
 obtain⟨_,h⟩:=qB L C h;obtain⟨_,h'⟩:=qB L C h';rcases h with⟨_,h1,a,h2,h3⟩|⟨_,h1,b,h2,h3⟩<;>rcases h' with⟨_,k1,c,k2,k3⟩|⟨_,k1,d,k2,k3⟩
 .exact vw h1 k1
 .exfalso;have e1:=vu h2 k1;have e2:=vw h1 k2;subst e1;subst e2;rw[dJ] at h3;rcases h3 with h3|h3
  .omega
  .rcases k3 with k3|k3
   .omega
   .rw[L.asymm _ _ h3] at k3;cases k3
 .exfalso;have e1:=vu k2 h1;have e2:=vw k1 h2;subst e1;subst e2;rw[dJ] at k3;rcases k3 with k3|k3
  .omega
  .rcases h3 with h3|h3
   .omega
   .rw[L.asymm _ _ h3] at k3;cases k3
 .have:=vu h1 k1;omega
end
end Bnd
namespace Bnd
open Go
def dq (t:Rt)(l:List Pt):List Pt:=l.mergeSort λp q=>!leads t q p
def Ids (l:List Pt):Prop:=(l.map Pt.id).Nodup
def Ids.inj {l:List Pt}(h:Ids l){p q:Pt}(hp:p∈l)(hq:q∈l)(e:p.id=q.id):p=q:=by
 obtain⟨i,hi⟩:=aN.1 hp;obtain⟨j,hj⟩:=aN.1 hq;have:=dt.1 h i j p.id (by rw[aT,hi];rfl) (by rw[aT,hj,e];rfl)
 grind
def Ids.perm {l k:List Pt}(h:Ids l)(p:l.Perm k):Ids k:=(p.map Pt.id).nodup_iff.1 h
def Ids.tail {p:Pt}{l:List Pt}(h:Ids (p::l)):Ids l:=(bW.1 h).2
def Ids.filter {l:List Pt}(h:Ids l)(f:Pt->Bool):Ids (l.filter f):=List.Pairwise.sublist ((sV (l:=l) (p:=f)).map Pt.id) h
def Ids.nodup {l:List Pt}(h:Ids l):l.Nodup:=by
 rw[dt];intro i j x hi hj;exact dt.1 h i j x.id (by rw[aT,hi];rfl) (by rw[aT,hj];rfl)
def dQ (t:Rt)(l:List Pt):(dq t l).Perm l:=sX ..
def ux {t:Rt}{l:List Pt}(h:Ids l):(dq t l).Pairwise λp q=>leads t p q=true:=by
 have h1:(dq t l).Pairwise λp q=>(!leads t q p)=true:=by
  refine pO (λa b c h1 h2=>?_) (λa b=>?_) l
  .simp[<-kM,iv] at h1 h2|-;have:=zo t c b a
   grind
  .cases e:leads t b a with
   |false=>rfl
   |true=>rw[iV e];rfl
 have h2:(dq t l).Pairwise λp q=>p.id≠q.id:=by
  have:=h.perm (dQ t l).symm;unfold Ids List.Nodup at this
  grind
 refine List.Pairwise.imp₂ (λp q a b=>?_) h1 h2;rw[om b] at a;simpa using a
def rank (t:Rt)(l:List Pt)(p:Pt):Nat:=(l.filter λq=>decide (q.id≠p.id)&& leads t q p).length
def Mu {t:Rt}{l k:List Pt}(h:l.Perm k)(p:Pt):rank t l p=rank t k p:=(h.filter _).length_eq
def vN {t:Rt}:∀{l:List Pt},l.Pairwise (λp q=>leads t p q=true)->Ids l->∀{i:Nat} {p:Pt},l[i]?=some p->rank t l p=i
 |[],_,_,i,p,h=>by simp at h
 |q::l,ho,hi,i,p,h=>by
  rw[fU] at ho;unfold Ids at hi;rw[bO,bW] at hi;cases i with
  |zero=>
   simp at h;subst h;unfold rank;rw[c8,qF];intro x hx;simp only[aF,aa,not_and,kM];intro hne;rcases bz.1 hx with rfl|hx
   .exact absurd rfl hne
   .exact iV (ho.1 x hx)
  |succ i=>
   simp at h;have hm:=aB h;have ih:=vN ho.2 hi.2 h;unfold rank at ih|-;rw[cS,ad,bj,ih];simp only[aF,aa];exact⟨λe=>hi.1 (by rw[e];exact bg.2 ⟨p,hm,rfl⟩),ho.1 p hm⟩
def ordered (t:Rt)(l:List Pt):List Pt->List Int->List Int
 |[],out=>out
 |p::ps,out=>ordered t l ps (out.set (rank t l p) p.id)
def yg {t:Rt}{l s:List Pt}(hs:s.Perm l)(ho:s.Pairwise λp q=>leads t p q=true)(hi:Ids l):∀(done rest:List Pt) (out:List Int),done++rest=l->out.length=l.length->(∀(k:Nat) (p:Pt),s[k]?=some p->p∈done->out[k]?=some p.id)->ordered t l rest out=s.map Pt.id
 |done,[],out,h,hl,hk=>by
  rw[aP] at h;subst h;unfold ordered;refine cB λk=>?_;rw[aT];cases e:s[k]? with
  |none=>
   rw[oy] at e;rw[bI (by have:=hs.length_eq;omega)];rfl
  |some p=>exact hk k p e (hs.mem_iff.1 (aB e))
 |done,p::rest,out,h,hl,hk=>by
  unfold ordered;refine yg hs ho hi (done++[p]) rest _ (by simpa using h) (by simpa using hl) λk q hq hm=>?_
  have hpl:p∈l:=by rw[<-h];simp
  obtain⟨j,hj⟩:=aN.1 (hs.mem_iff.2 hpl);have hr:=(Mu hs p).symm.trans (vN ho (hi.perm hs.symm) hj);rw[hr];by_cases e:k=j
  .subst e;rw[hj] at hq;cases hq;rw[bk];have:=(aC.1 hj).1;have:=hs.length_eq;omega
  .rw[bA (by omega)];refine hk k q hq ?_;rcases b5.1 hm with hm|hm
   .exact hm
   .simp at hm;subst hm;exact absurd (dt.1 (hi.perm hs.symm).nodup _ _ _ hq hj) e
def Il {t:Rt}{l:List Pt}(hi:Ids l){out:List Int}(ho:out.length=l.length):ordered t l l out=(dq t l).map Pt.id:=
 yg (dQ t l) (ux hi) hi [] l out rfl ho (λ_ _ _ h=>by cases h)
def fO (x:Int)(d:Nat):Int:=x.fdiv (2^(min d 64))% 2
def fY (l:List Int)(d:Nat)(b:Int):List Int:=l.filter λx=>decide (fO x d=b)
def sG {l:List Int}{d:Nat}{b:Int}:(fY l d b).length<=l.length:=ru ..
def gk:List Int->Int->Nat->List (Int×Int)
 |[],_,_=>[]
 |o::os,from',d=>(o,from')::(gk (fY os d 0) o (d+1)++gk (fY os d 1) o (d+1))
termination_by l _ _=>l.length
decreasing_by all_goals exact nZ sG
def d7 (t:Rt):List Pt->Pt->Pt
 |[],b=>b
 |p::ps,b=>d7 t ps (if leads t p b then p else b)
def gc (l:List Pt)(top:Int)(d:Nat)(b:Int):List Pt:=l.filter λp=>decide (p.id≠top)&& decide (fO p.id d=b)
def topP_mem (t:Rt):∀(l:List Pt) (b:Pt),d7 t l b=b\/d7 t l b∈l
 |[],b=> .inl rfl
 |p::ps,b=>by
  unfold d7;rcases topP_mem t ps (if leads t p b then p else b) with h|h
  .rw[h];split
   .exact .inr (by simp)
   .exact .inl rfl
  .exact .inr (by simp[h])
def oI {t:Rt}{p:Pt}{l:List Pt}{d:Nat}{b:Int}:(gc (p::l) (d7 t l p).id d b).length<l.length+1:=by
 have hm:d7 t l p∈p::l:=by
  rcases topP_mem t l p with h|h
  .rw[h];simp
  .simp[h]
 have:∀(k:List Pt) (x:Pt),x∈k->(gc k x.id d b).length<k.length:=by
  intro k;induction k with
  |nil=>intro x h;cases h
  |cons y k ih=>
   unfold gc at ih|-
   grind
 grind
def eQ (t:Rt):List Pt->Int->Nat->List (Int×Int)
 |[],_,_=>[]
 |p::l,from',d=>((d7 t l p).id,from')::(eQ t (gc (p::l) (d7 t l p).id d 0) (d7 t l p).id (d+1)++eQ t (gc (p::l) (d7 t l p).id d 1) (d7 t l p).id (d+1))
termination_by l _ _=>l.length
decreasing_by all_goals exact oI
def sH {t:Rt}:∀(l:List Pt) (b:Pt),Ids (b::l)->∀q∈b::l,q≠d7 t l b->leads t (d7 t l b) q=true
 |[],b,_,q,hq,hne=>by simp at hq hne;exact absurd hq hne
 |p::ps,b,hi,q,hq,hne=>by
  unfold d7 at hne|-;have hpb:b.id≠p.id:=λe=>(bW.1 hi).1 (by rw[e];simp);have hi1:=hi.tail;have hi2:Ids (b::ps):=by
   unfold Ids at hi|-;rw[bO,bO,bW,bW] at hi;rw[bO,bW];exact⟨λe=>hi.1 (cA _ e),hi.2.2⟩
  cases e:leads t p b with
  |true=>
   simp only[e,ay] at hne|-;have ih:=sH (t:=t) ps p hi1;by_cases hb:q=b
   .subst hb;by_cases hp:p=d7 t ps p
    .rw[<-hp];exact e
    .exact ki (ih p (by simp) hp) e
   .refine ih q ?_ hne;rcases bz.1 hq with h|h
    .exact absurd h hb
    .exact h
  |false=>
   simp[e] at hne|-;have ih:=sH (t:=t) ps b hi2;by_cases hb:q=p
   .subst hb;have e':leads t b q=true:=by rw[om (λh=>hpb h.symm),e];rfl
    by_cases hp:b=d7 t ps b
    .rw[<-hp];exact e'
    .exact ki (ih b (by simp) hp) e'
   .refine ih q ?_ hne;rcases bz.1 hq with h|h
    .exact h▸(by simp)
    .rcases bz.1 h with h|h
     .exact absurd h hb
     .exact cA _ h
def Gh {t:Rt}:∀(n:Nat) (l s:List Pt) (from':Int) (d:Nat),l.length<=n->s.Perm l->s.Pairwise (λp q=>leads t p q=true)->Ids l->gk (s.map Pt.id) from' d=eQ t l from' d:=by
 intro n;induction n with
 |zero=>
  intro l s from' d h hs _ _;have hl:l=[]:=c8.1 (by omega);subst hl;rw[hs.eq_nil];unfold eQ;rw[pF];unfold gk;rfl
 |succ n ih=>
  intro l s from' d h hs ho hi;cases l with
  |nil=>
   grind
  |cons p l=>
   cases s with
   |nil=>have:=hs.length_eq;simp at this
   |cons o os=>
    rw[fU] at ho;have his:Ids (o::os):=hi.perm hs.symm;have ho':o=d7 t l p:=by
     by_cases e:o=d7 t l p
     .exact e
     .exfalso;have h1:=sH (t:=t) l p hi o (hs.mem_iff.1 (by simp)) e;have hm:d7 t l p∈o::os:=hs.mem_iff.2 (by
       rcases topP_mem t l p with h|h
       .rw[h];simp
       .simp[h])
      rcases bz.1 hm with hm|hm
      .grind
      .have:=ho.1 _ hm;rw[iV h1] at this;cases this
    rw[bO];unfold gk eQ;rw[<-ho'];have sd:∀b,(os.filter λq=>decide (fO q.id d=b)).Perm (gc (p::l) o.id d b):=λb=>by
     have:=hs.filter (λp=>decide (p.id≠o.id)&& decide (fO p.id d=b));rw[cS,ac (by simp)] at this;refine List.Perm.trans (List.Perm.of_eq ?_) this;refine List.filter_congr λq hq=>?_;have:q.id≠o.id:=λe=>(bW.1 his).1 (by rw[<-e];exact bg.2 ⟨q,hq,rfl⟩);rw[aq this,eF]
    have go:∀b,gk (fY (os.map Pt.id) d b) o.id (d+1)=eQ t (gc (p::l) o.id d b) o.id (d+1):=λb=>by
     unfold fY;rw[List.filter_map];refine ih _ _ _ _ ?_ (sd b) (ho.2.sublist sV) (hi.filter _);have:=oI (t:=t) (p:=p) (l:=l) (d:=d) (b:=b);rw[<-ho'] at this;simp only[bj] at h;omega
    rw[go 0,go 1]
end Bnd
namespace Bnd
open Go
def nodeV (wins places:List Int)(i:Nat):Int:=if i<wins.length then(wins[i]?).getD (-1) else(places[i-wins.length]?).getD (-1)
def kq (won:Int->Int->Int)(wins places:List Int):Prop:=∀i,i<wins.length->nodeV wins places i=won (nodeV wins places (2*i+1)) (nodeV wins places (2*i+2))
def py (won:Int->Int->Int)(places:List Int):Nat->List Int->List Int
 |0,w=>w
 |i+1,w=>py won places i (w.set i (won (nodeV w places (2*i+1)) (nodeV w places (2*i+2))))
def lb {w places:List Int}{i j:Nat}{x:Int}(h:i≠j):nodeV (w.set i x) places j=nodeV w places j:=by
 unfold nodeV
 grind
def Gi {won:Int->Int->Int}{places:List Int}:∀(i:Nat) (w v:List Int),i<=w.length->v.length=w.length->kq won v places->(∀j,i<=j->v[j]?=w[j]?)->py won places i w=v
 |0,w,v,_,hl,_,h=>by
  unfold py;exact(cB λj=>h j (by omega)).symm
 |i+1,w,v,hi,hl,hf,h=>by
  unfold py;refine Gi i _ v (by simp;omega) (by simpa using hl) hf λj hj=>?_
  have nv:∀m,i<m->nodeV v places m=nodeV w places m:=λm hm=>by
   unfold nodeV;rw[hl,h m (by omega)]
  by_cases e:j=i
  .subst e;rw[bk (by omega),<-nv _ (by omega),<-nv _ (by omega),<-hf j (by omega)];unfold nodeV;rw[ad (by omega),ak (show j<v.length by omega)]
   rfl
  .rw[bA (by omega)];exact h j (by omega)
def Aa {won:Int->Int->Int}{places:List Int}:∀(i:Nat) (w:List Int),i<=w.length->(∀j,i<=j->j<w.length->nodeV w places j=won (nodeV w places (2*j+1)) (nodeV w places (2*j+2)))->kq won (py won places i w) places
 |0,w,_,h=>λj hj=>h j (by omega) hj
 |i+1,w,hi,h=>by
  unfold py;refine Aa i _ (by simp;omega) λj hj hl=>?_;rw[bK] at hl;by_cases e:j=i
  .subst e;rw[lb (show j≠2*j+1 by omega),lb (show j≠2*j+2 by omega)]
   have:∀x:Int,nodeV (w.set j x) places j=x:=λx=>by
    unfold nodeV;rw[bK,ad hl,bk hl];rfl
   rw[this]
  .rw[lb (show i≠j by omega),lb (show i≠2*j+1 by omega),lb (show i≠2*j+2 by omega)]
   exact h j (by omega) hl
def OA {won:Int->Int->Int}{places v:List Int}{w:List Int}(hl:v.length=w.length):py won places w.length w=v↔kq won v places:=by
 constructor
 .intro h;rw[<-h];exact Aa _ w (aD _) λj h1 h2=>by omega
 .intro h;exact Gi _ w v (aD _) hl h λj hj=>by rw[bI (by omega),bI (by omega)]
structure Match (wins places:List Int):Prop where
 len:places.length=wins.length+1
 once:∀(i j:Nat) (x:Int),0<=x->places[i]?=some x->places[j]?=some x->i=j
 pick:∀i,i<wins.length->nodeV wins places i=nodeV wins places (2*i+1)\/nodeV wins places i=nodeV wins places (2*i+2)
def anc (q:Nat):Nat->Nat
 |0=>q
 |k+1=>(anc q k-1)/2
def sI {wins places:List Int}(M:Match wins places){z:Int}(hz:0<=z){q:Nat}(hq:places[q]?=some z):∀(d i:Nat),2*places.length-i=d->i<2*places.length->nodeV wins places i=z->∃k,i=anc (wins.length+q) k/\∀k',k'<k->nodeV wins places (anc (wins.length+q) k')=z/\ 0<anc (wins.length+q) k':=by
 intro d;induction d using Nat.strongRecOn with
 |ind d ih=>
  intro i hd hi hv;by_cases hlt:i<wins.length
  .have hl:=M.len;have step:∀c,(c=2*i+1\/c=2*i+2)->nodeV wins places c=z->∃k,i=anc (wins.length+q) k/\∀k',k'<k->nodeV wins places (anc (wins.length+q) k')=z/\ 0<anc (wins.length+q) k':=λc hc hvc=>by
    obtain⟨k,h1,h2⟩:=ih (2*places.length-c) (by omega) c rfl (by omega) hvc;refine⟨k+1,by unfold anc;rw[<-h1];omega,λk' hk'=>?_⟩
    grind
   rcases M.pick i hlt with h|h
   .grind
   .grind
  .refine⟨0,?_,λk' h=>by omega⟩;unfold nodeV at hv;rw[ac hlt] at hv;cases e:places[i-wins.length]? with
   |none=>rw[e] at hv;simp at hv;omega
   |some x=>
    rw[e] at hv;simp only[cp] at hv;subst hv;have:=M.once _ _ x hz e hq;simp only[anc];omega
def wG {q:Nat}:∀{k:Nat},(∀k',k'<k->0<anc q k')->∀{j:Nat},j<k->anc q k<anc q j
 |0,_,j,h=>by omega
 |k+1,hp,j,h=>by
  have h0:=hp k (by omega);have h1:anc q (k+1)<anc q k:=by show(anc q k-1)/2<anc q k;omega
  by_cases e:j=k
  .subst e;exact h1
  .have:=wG (q:=q) (k:=k) (λk' hk'=>hp k' (by omega)) (j:=j) (by omega);omega
def Mv {wins places:List Int}(M:Match wins places){z:Int}(hz:0<=z){i j c e:Nat}(hi:i<wins.length)(hj:j<wins.length)(hc:c=2*i+1\/c=2*i+2)(he:e=2*j+1\/e=2*j+2)
  (vc:nodeV wins places c=z) (ve:nodeV wins places e=z) (vi:nodeV wins places i≠z) (vj:nodeV wins places j≠z):i=j:=by
 have hl:=M.len;have leaf:∀(d i:Nat),2*places.length-i=d->i<2*places.length->nodeV wins places i=z->∃q:Nat,places[q]?=some z:=by
  intro d;induction d using Nat.strongRecOn with
  |ind d ih=>
   intro i hd hi hv;by_cases hlt:i<wins.length
   .rcases M.pick i hlt with h|h
    .grind
    .exact ih _ (by omega) (2*i+2) rfl (by omega) (by rw[<-h];exact hv)
   .unfold nodeV at hv;rw[ac hlt] at hv;cases e:places[i-wins.length]? with
    |none=>rw[e] at hv;simp at hv;omega
    |some x=>rw[e] at hv;simp only[cp] at hv;exact⟨_,by rw[e,hv]⟩
 obtain⟨q,hq⟩:=leaf _ c rfl (by omega) vc;obtain⟨k,k1,k2⟩:=sI M hz hq _ c rfl (by omega) vc;obtain⟨m,m1,m2⟩:=sI M hz hq _ e rfl (by omega) ve;rcases ey k m with g|g|g
 .exfalso;have hp:anc (wins.length+q) (k+1)=i:=by show(anc (wins.length+q) k-1)/2=i;rw[<-k1];omega
  by_cases hkm:k+1=m
  .subst hkm;rw[hp] at m1;subst m1;exact vi ve
  .have:=(m2 (k+1) (by omega)).1;rw[hp] at this;exact vi this
 .subst g;rw[<-m1] at k1;omega
 .exfalso;have hp:anc (wins.length+q) (m+1)=j:=by show(anc (wins.length+q) m-1)/2=j;rw[<-m1];omega
  by_cases hkm:m+1=k
  .subst hkm;rw[hp] at k1;subst k1;exact vj vc
  .have:=(k2 (m+1) (by omega)).1;rw[hp] at this;exact vj this
def Fg {wins places:List Int}(M:Match wins places){z:Int}(hz:0<=z){i:Nat}(hi:i<wins.length)(h1:nodeV wins places (2*i+1)=z)(h2:nodeV wins places (2*i+2)=z):False:=by
 have hl:=M.len;have leaf:∀(d i:Nat),2*places.length-i=d->i<2*places.length->nodeV wins places i=z->∃q:Nat,places[q]?=some z:=by
  intro d;induction d using Nat.strongRecOn with
  |ind d ih=>
   intro i hd hi hv;by_cases hlt:i<wins.length
   .rcases M.pick i hlt with h|h
    .grind
    .grind
   .unfold nodeV at hv
    grind
 obtain⟨q,hq⟩:=leaf _ (2*i+1) rfl (by omega) h1;obtain⟨k,k1,k2⟩:=sI M hz hq _ _ rfl (by omega) h1;obtain⟨m,m1,m2⟩:=sI M hz hq _ _ rfl (by omega) h2;have hk:anc (wins.length+q) (k+1)=i:=by show(anc (wins.length+q) k-1)/2=i;rw[<-k1];omega
 have hm:anc (wins.length+q) (m+1)=i:=by show(anc (wins.length+q) m-1)/2=i;rw[<-m1];omega
 rcases ey k m with g|g|g
 .by_cases e:k+1=m
  .subst e;omega
  .have:=wG (q:=wins.length+q) (k:=m) (λk' h=>(m2 k' h).2) (j:=k+1) (by omega);omega
 .subst g;omega
 .by_cases e:m+1=k
  .subst e;omega
  .have:=wG (q:=wins.length+q) (k:=k) (λk' h=>(k2 k' h).2) (j:=m+1) (by omega);omega
end Bnd
namespace Bnd
open Go
def Ab {x y:Nat}:x*y=(x/4294967296)*(y/4294967296)*18446744073709551616+((x% 4294967296)*(y/4294967296)+(x/4294967296)*(y% 4294967296))*4294967296+(x% 4294967296)*(y% 4294967296):=by
 have e1:x=(x/4294967296)*4294967296+x% 4294967296:=by omega
 have e2:y=(y/4294967296)*4294967296+y% 4294967296:=by omega
 grind
def ny {a b:Nat}(h:a<4294967296)(k:b<4294967296):a*b<=18446744065119617025:=by
 have:=mM (show a<=4294967295 by omega) (show b<=4294967295 by omega)
 omega
def Zh {x y:Nat}(hx:x<18446744073709551616)(hy:y<18446744073709551616):
  (x/4294967296)*(y/4294967296)+((x/4294967296)*(y% 4294967296)+(x% 4294967296)*(y% 4294967296)/4294967296)/4294967296+
   (((x/4294967296)*(y% 4294967296)+(x% 4294967296)*(y% 4294967296)/4294967296)% 4294967296+(x% 4294967296)*(y/4294967296))/4294967296=x*y/18446744073709551616:=by
 rw[Ab (x:=x) (y:=y)]
 grind
def FD {a:Nat}(h:a<18446744073709551616):(BitVec.ofInt 64 (a:Int)&&& BitVec.ofInt 64 4294967295).toNat=a% 4294967296:=by
 rw[BitVec.toNat_and,nz,nz];rw[show((a:Int)%((2^ 64:Nat):Int)).toNat=a by omega,show(4294967295%((2^ 64:Nat):Int)).toNat=2^ 32-1 by decide,Nat.and_two_pow_sub_one_eq_mod]
end Bnd
namespace Bnd
open Go
def lR:List Bool->List Int->Option (List Bool)
 |l,[]=>some l
 |l,x::xs=>if 0<=x/\ x<l.length/\ l[x.toNat]?=some false then lR (l.set x.toNat true) xs else none
def jG:∀{xs:List Int} {l l':List Bool},lR l xs=some l'↔(∀x∈xs,0<=x/\ x<l.length/\ l[x.toNat]?=some false)/\ xs.Nodup/\ l'.length=l.length/\∀i:Nat,i<l.length->l'[i]?=if(i:Int)∈xs then some true else l[i]?
 |[],l,l'=>by
  simp[lR];constructor
  .rintro rfl;exact⟨rfl,λ_ _=>rfl⟩
  .rintro⟨h1,h2⟩;refine cB λi=>?_;by_cases hi:i<l.length
   .exact(h2 i hi).symm
   .rw[bI (by omega),bI (by omega)]
 |x::xs,l,l'=>by
  unfold lR;by_cases hc:0<=x/\ x<l.length/\ l[x.toNat]?=some false
  .rw[ad hc,jG];obtain⟨c1,c2,c3⟩:=hc;rw[bK];constructor
   .rintro⟨h1,h2,h3,h4⟩;have hx:x∉xs:=λhm=>by
     have:=(h1 x hm).2.2;rw[bk (by omega)] at this;cases this
    refine⟨λy hy=>?_,bW.2 ⟨hx,h2⟩,h3,λi hi=>?_⟩
    .rcases bz.1 hy with rfl|hy
     .exact⟨c1,c2,c3⟩
     .obtain⟨g1,g2,g3⟩:=h1 y hy;have:x≠y:=λe=>hx (e▸hy);rw[bA (by omega)] at g3;exact⟨g1,g2,g3⟩
    .rw[h4 i hi];by_cases e:x=i
     .subst e;rw[ac hx,ad (by simp)];rw[aG,bk (by omega)]
     .have:(i:Int)∈x::xs↔(i:Int)∈xs:=by
       rw[bz];exact⟨λh=>h.resolve_left (λe'=>e e'.symm),.inr⟩
      rw[bA (by omega)];by_cases hm:(i:Int)∈xs
      .rw[ad hm,ad (this.2 hm)]
      .rw[ac hm,ac (λh=>hm (this.1 h))]
   .rintro⟨h1,h2,h3,h4⟩;rw[bW] at h2;refine⟨λy hy=>?_,h2.2,h3,λi hi=>?_⟩
    .obtain⟨g1,g2,g3⟩:=h1 y (by simp[hy]);have:x≠y:=λe=>h2.1 (e▸hy);rw[bA (by omega)];exact⟨g1,g2,g3⟩
    .rw[h4 i hi];by_cases e:x=i
     .subst e;rw[ac h2.1,ad (by simp),aG,bk (by omega)]
     .have:(i:Int)∈x::xs↔(i:Int)∈xs:=by
       rw[bz];exact⟨λh=>h.resolve_left (λe'=>e e'.symm),.inr⟩
      rw[bA (by omega)];by_cases hm:(i:Int)∈xs
      .rw[ad hm,ad (this.2 hm)]
      .rw[ac hm,ac (λh=>hm (this.1 h))]
  .rw[ac hc];constructor
   .intro h;cases h
   .rintro⟨h1,_⟩;exact absurd (h1 x (by simp)) hc
structure Slots where
 uses:List Int
 used:List Bool
 free:List Int
 deriving DecidableEq
def Slots.okP (s:Slots):Prop:=1<=s.uses.length/\ s.uses.length<=200/\ s.used.length=s.uses.length/\(∃l,lR s.used s.free=some l/\ false∉l)/\∀(i:Nat) (u:Int),s.uses[i]?=some u->0<=u/\ u<=1000000/\¬(u=0/\ s.used[i]?=some true)
def Slots.okR (s:Slots):Prop:=1<=s.uses.length/\ s.uses.length<=200/\ s.used.length=s.uses.length/\ s.free.length<=s.uses.length/\∃l,lR (List.replicate s.uses.length false) s.free=some l/\∀(i:Nat) (u:Int) (b c:Bool),s.uses[i]?=some u->s.used[i]?=some b->l[i]?=some c->0<=u/\ u<=1000000/\ b≠c/\¬(b=true/\ u<1)
def ic {xs:List Int}{n:Nat}(h:xs.Nodup)(hb:∀x∈xs,0<=x/\ x<n):xs.length<=n:=by
 have:=zn (l:=xs) (k:=(List.range n).map λi:Nat=>(i:Int)) h λx hx=>by
  obtain⟨h1,h2⟩:=hb x hx;exact bg.2 ⟨x.toNat,de.2 (by omega),by omega⟩
 grind
def Slots.ok_iff (s:Slots):s.okP↔s.okR:=by
 unfold Slots.okP Slots.okR;constructor
 .rintro⟨h1,h2,h3,⟨l,h4,h5⟩,h6⟩;obtain⟨m1,m2,m3,m4⟩:=jG.1 h4;have hr:lR (List.replicate s.uses.length false) s.free=some ((List.range s.uses.length).map λi:Nat=>decide ((i:Int)∈s.free)):=by
   rw[jG]
   grind
  refine⟨h1,h2,h3,ic m2 λx hx=>⟨(m1 x hx).1,by have:=(m1 x hx).2.1;omega⟩,_,hr,λi u b c hu hb hc=>?_⟩;have hi:=(aC.1 hu).1;obtain⟨g1,g2,g3⟩:=h6 i u hu;rw[aT,fq hi] at hc;simp only[bX,bS] at hc;have hl:=m4 i (by omega);refine⟨g1,g2,?_,?_⟩
  .by_cases e:(i:Int)∈s.free
   .have:=(m1 _ e).2.2;rw[aG,hb] at this;cases this;rw[<-hc];simp[e]
   .rw[ac e,hb] at hl;rw[<-hc];cases b with
    |true=>simp[e]
    |false=>exact absurd (aB hl) h5
  .rintro⟨rfl,h⟩;exact g3 ⟨by omega,hb⟩
 .rintro⟨h1,h2,h3,h4,l,h5,h6⟩;obtain⟨m1,m2,m3,m4⟩:=jG.1 h5;rw[aI] at m3 m4;have facts:∀i:Nat,i<s.uses.length->∃u b,s.uses[i]?=some u/\ s.used[i]?=some b/\ l[i]?=some (decide ((i:Int)∈s.free))/\ 0<=u/\ u<=1000000/\ b=!decide ((i:Int)∈s.free)/\¬(b=true/\ u<1):=λi hi=>by
   have hl:=m4 i hi;rw[dO,ad hi] at hl;have hl':l[i]?=some (decide ((i:Int)∈s.free)):=by
    rw[hl];by_cases e:(i:Int)∈s.free<;>simp[e]
   obtain⟨g1,g2,g3,g4⟩:=h6 i _ _ _ (ak hi) (ak (by omega)) hl';refine⟨_,_,ak hi,ak (by omega),hl',g1,g2,?_,g4⟩
   revert g3
   cases s.used[i]<;>cases decide ((i:Int)∈s.free)<;>simp
  refine⟨h1,h2,h3,⟨List.replicate s.used.length true,?_,by simp[eO]⟩,λi u hu=>?_⟩
  .rw[jG];refine⟨λx hx=>?_,m2,by simp,λi hi=>?_⟩
   .obtain⟨g1,g2,_⟩:=m1 x hx;rw[aI] at g2;obtain⟨u,b,q1,q2,_,_,_,q3,_⟩:=facts x.toNat (by omega);refine⟨g1,by omega,?_⟩;rw[q2,q3,show((x.toNat:Nat):Int)=x by omega]
    simp[hx]
   .obtain⟨u,b,q1,q2,_,_,_,q3,_⟩:=facts i (by omega);rw[dO,ad hi,q2,q3];by_cases e:(i:Int)∈s.free<;>simp[e]
  .have hi:=(aC.1 hu).1;obtain⟨u',b,q1,q2,_,q4,q5,q3,q6⟩:=facts i hi;rw[hu] at q1;cases q1;refine⟨q4,q5,?_⟩;rintro⟨rfl,hb⟩;rw[q2] at hb;cases hb;exact q6 ⟨rfl,by omega⟩
end Bnd
namespace Bnd
open Go
def luk (ps:List (Int×Int))(k:Int)(v:Int):Int:=ps.foldl (λv x=>if x.1=k then x.2 else v) v
def m6 {t:Rt}:∀(n:Nat) (l:List Pt) (from':Int) (d:Nat),l.length<=n->Ids l->∀x∈eQ t l from' d,∃p∈l,p.id=x.1/\(x.2=from'\/∃q∈l,q.id=x.2/\ leads t q p=true):=by
 intro n;induction n with
 |zero=>
  intro l from' d h _ x hx;have hl:l=[]:=c8.1 (by omega);subst hl;unfold eQ at hx;cases hx
 |succ n ih=>
  intro l from' d h hi x hx;cases l with
  |nil=>unfold eQ at hx;cases hx
  |cons p l=>
   unfold eQ at hx;have htm:d7 t l p∈p::l:=by
    rcases topP_mem t l p with h|h
    .rw[h];simp
    .simp[h]
   rcases bz.1 hx with rfl|hx
   .grind
   .have go:∀b,x∈eQ t (gc (p::l) (d7 t l p).id d b) (d7 t l p).id (d+1)->∃p'∈p::l,p'.id=x.1/\(x.2=from'\/∃q∈p::l,q.id=x.2/\ leads t q p'=true):=λb hb=>by
     have hlen:=oI (t:=t) (p:=p) (l:=l) (d:=d) (b:=b);obtain⟨p',hp',e,hh⟩:=ih (gc (p::l) (d7 t l p).id d b) _ _ (by simp only[bj] at h;omega) (hi.filter _) x hb;obtain⟨hm,hc⟩:=cq.1 hp';refine⟨p',hm,e,.inr ?_⟩;rcases hh with hh|⟨q,hq,e',hl⟩
     .refine⟨_,htm,hh.symm,sH l p hi p' hm λe=>?_⟩
      grind
     .exact⟨q,(cq.1 hq).1,e',hl⟩
    rcases b5.1 hx with hx|hx
    .exact go 0 hx
    .exact go 1 hx
def luk_mem {ps:List (Int×Int)}{k v:Int}:luk ps k v=v\/(k,luk ps k v)∈ps:=by
 induction ps generalizing v with
 |nil=>exact .inl rfl
 |cons x ps ih=>
  unfold luk at ih|-;rcases ih (v:=if x.1=k then x.2 else v) with h|h
  .by_cases e:x.1=k
   .grind
   .grind
  .grind
def Im {t:Rt}:∀(n:Nat) (l:List Pt) (from':Int) (d:Nat),l.length<=n->Ids l->(∀p∈l,0<=p.id)->∀p∈l,∃f,(p.id,f)∈eQ t l from' d:=by
 intro n;induction n with
 |zero=>
  grind
 |succ n ih=>
  intro l from' d h hi h0 q hq;cases l with
  |nil=>cases hq
  |cons p l=>
   unfold eQ;by_cases e:q.id=(d7 t l p).id
   .grind
   .have hb:fO q.id d=0\/fO q.id d=1:=by unfold fO;omega
    have go:∀b,fO q.id d=b->∃f,(q.id,f)∈eQ t (gc (p::l) (d7 t l p).id d b) (d7 t l p).id (d+1):=λb hb=>by
     have hlen:=oI (t:=t) (p:=p) (l:=l) (d:=d) (b:=b);exact ih (gc (p::l) (d7 t l p).id d b) _ _ (by simp at h;omega) (hi.filter _) (λp hp=>h0 p (cq.1 hp).1) q (cq.2 ⟨hq,by simp[e,hb]⟩)
    grind
end Bnd
namespace Bnd
open Go
def Gj:∀{ps:List (Int×Int)} {k v:Int},(∃f,(k,f)∈ps)->(k,luk ps k v)∈ps
 |[],k,v,⟨f,h⟩=>by cases h
 |x::ps,k,v,⟨f,h⟩=>by
  unfold luk;rw[cH];rcases luk_mem (ps:=ps) (k:=k) (v:=if x.1=k then x.2 else v) with e|e
  .unfold luk at e;rw[e];by_cases hx:x.1=k
   .rw[ad hx];subst hx;simp
   .rw[ac hx] at e|-;rcases bz.1 h with h|h
    .rw[<-h] at hx;exact absurd rfl hx
    .have:=Gj (v:=v) ⟨f,h⟩;unfold luk at this;rw[e] at this;exact cA _ this
  .exact cA _ e
end Bnd
namespace Bnd
open Go
def upArr:List (Int×Int)->Nat->List Int->List Int
 |[],_,up=>up
 |x::l,j,up=>upArr l (j+1) ((if 0<=x.2 then(if 0<=x.1 then up.set x.1.toNat j else up).set x.2.toNat j else(if 0<=x.1 then up.set x.1.toNat j else up)))
def Ac:∀(l:List (Int×Int)) (j:Nat) (up:List Int),(upArr l j up).length=up.length
 |[],j,up=>rfl
 |x::l,j,up=>by
  unfold upArr;rw[Ac l]
  repeat' split
  all_goals simp
def kH (x:Int×Int)(i:Nat):Prop:=x.1=(i:Int)\/x.2=(i:Int)
instance (x:Int×Int) (i:Nat):Decidable (kH x i):=by unfold kH;infer_instance
def Ad:∀(l:List (Int×Int)) (j:Nat) (up:List Int) (i:Nat),i<up.length->
  (∀(k:Nat) (x:Int×Int),l[k]?=some x->kH x i->∀(k':Nat) (x':Int×Int),l[k']?=some x'->kH x' i->k=k')->
  (upArr l j up)[i]?=match l.findIdx? (λx=>decide (kH x i)) with|some k=>some ((j+k:Nat):Int)|none=>up[i]?
 |[],j,up,i,_,_=>rfl
 |x::l,j,up,i,hi,hu=>by
  unfold upArr;have hl:∀up':List Int,up'.length=up.length->(∀(k:Nat) (x':Int×Int),l[k]?=some x'->kH x' i->∀(k':Nat) (x'':Int×Int),l[k']?=some x''->kH x'' i->k=k')->(upArr l (j+1) up')[i]?=match l.findIdx? (λx=>decide (kH x i)) with|some k=>some ((j+1+k:Nat):Int)|none=>up'[i]?:=
   λup' h1 h2=>Ad l (j+1) up' i (by omega) h2
  have hu':∀(k:Nat) (x':Int×Int),l[k]?=some x'->kH x' i->∀(k':Nat) (x'':Int×Int),l[k']?=some x''->kH x'' i->k=k':=λk x' h1 h2 k' x'' h3 h4=>by
   have:=hu (k+1) x' (by simpa using h1) h2 (k'+1) x'' (by simpa using h3) h4
   omega
  rw[hl _ (by repeat' split
              all_goals simp) hu',nC]
  by_cases hc:kH x i
  .rw[aq hc];simp;have hn:l.findIdx? (λx=>decide (kH x i))=none:=by
    rw[gm];intro y hy;obtain⟨k,hk⟩:=aN.1 hy;refine ai λh=>?_;have:=hu 0 x rfl hc (k+1) y (by simpa using hk) h
    omega
   rw[hn];simp only;rcases hc with h|h
   .rw[h];by_cases c:0<=x.2
    .rw[ad c,ad (by omega)];by_cases e:x.2.toNat=i
     .rw[e,bk (by simpa using hi)]
     .rw[bA e,aG,bk hi]
    .rw[ac c,ad (by omega),aG,bk hi]
   .rw[h,ad (by omega),aG,bk];split
    .simpa using hi
    .exact hi
  .rw[ai hc];simp only[aw,ax];have hset:(if 0<=x.2 then(if 0<=x.1 then up.set x.1.toNat j else up).set x.2.toNat j else(if 0<=x.1 then up.set x.1.toNat j else up))[i]?=up[i]?:=by
    have a1:0<=x.1->x.1.toNat≠i:=λh e=>hc (.inl (by omega));have a2:0<=x.2->x.2.toNat≠i:=λh e=>hc (.inr (by omega));by_cases c1:0<=x.1<;>by_cases c2:0<=x.2
    .rw[ad c2,ad c1,bA (a2 c2),bA (a1 c1)]
    .rw[ac c2,ad c1,bA (a1 c1)]
    .rw[ad c2,ac c1,bA (a2 c2)]
    .rw[ac c2,ac c1]
   rw[hset];cases l.findIdx? (λx=>decide (kH x i)) with
   |none=>rfl
   |some k=>simp only[bX];rw[show j+1+k=j+(k+1) by omega]
def vO {α:Type}{p:α->Bool}:∀{l:List α},(∀(k k':Nat) (x x':α),l[k]?=some x->p x=true->l[k']?=some x'->p x'=true->k=k')->(l.filter p)=match l.findIdx? p with|some k=>(l[k]?).toList|none=>[]
 |[],_=>rfl
 |a::l,h=>by
  have h':∀(k k':Nat) (x x':α),l[k]?=some x->p x=true->l[k']?=some x'->p x'=true->k=k':=λk k' x x' h1 h2 h3 h4=>by
   have:=h (k+1) (k'+1) x x' (by simpa using h1) h2 (by simpa using h3) h4
   omega
  rw[cS,nC];cases e:p a with
  |true=>
   simp only[];have:l.filter p=[]:=by
    rw[qF];intro x hx hp;obtain⟨k,hk⟩:=aN.1 hx;have:=h 0 (k+1) a x rfl e (by simpa using hk) hp
    omega
   rw[this];rfl
  |false=>
   simp;rw[vO h'];cases l.findIdx? p with
   |none=>rfl
   |some k=>simp
end Bnd
namespace Bnd
open Go
def ja (l:List Int):Prop:=∀(i:Nat),i<l.length->∀x,l[i]?=some x->0<=x->∀j,j<i->l[j]?≠some x
def uy {l:List Int}:ja l↔∀(i j:Nat) (x:Int),0<=x->l[i]?=some x->l[j]?=some x->i=j:=by
 constructor
 .intro h i j x hx hi hj;have hi':=(aC.1 hi).1;have hj':=(aC.1 hj).1;rcases ey i j with g|g|g
  .exact absurd hi (h j hj' x hj hx i g)
  .exact g
  .exact absurd hj (h i hi' x hi hx j g)
 .intro h i _ x hi hx j hj e
  grind
def vz {wins places:List Int}{i:Nat}{x:Int}(h:wins[i]?=some x):nodeV wins places i=x:=by
 unfold nodeV
 grind
def zt {wins places:List Int}{i:Nat}{x:Int}(hi:¬i<wins.length)(h:places[i-wins.length]?=some x):nodeV wins places i=x:=by
 unfold nodeV
 grind
def lS (wins places:List Int)(i:Nat):Prop:=nodeV wins places i=nodeV wins places (2*i+1)\/nodeV wins places i=nodeV wins places (2*i+2)
def oJ (wins places:List Int):Prop:=(1<=places.length/\ places.length<=64/\ places.length=wins.length+1)/\ ja places/\∀x∈places,-1<=x/\ x<=65535
def iZ (wins places:List Int):Prop:=oJ wins places/\∀i,i<wins.length->lS wins places i/\¬(nodeV wins places i<0/\ 0<=max (nodeV wins places (2*i+1)) (nodeV wins places (2*i+2)))
def wH (wins places:List Int):Prop:=oJ wins places/\∀i,i<wins.length->lS wins places i/\¬(nodeV wins places i= -1/\(nodeV wins places (2*i+1)≠ -1\/nodeV wins places (2*i+2)≠ -1))
def Fh {wins places:List Int}(hb:oJ wins places)(hp:∀i,i<wins.length->lS wins places i):∀(d i:Nat),2*places.length-i=d-> -1<=nodeV wins places i:=by
 intro d;induction d using Nat.strongRecOn with
 |ind d ih=>
  intro i hd;by_cases hlt:i<wins.length
  .have:=hb.1.2.2;rcases hp i hlt with h|h
   .grind
   .grind
  .unfold nodeV;rw[ac hlt];cases e:places[i-wins.length]? with
   |none=>simp
   |some x=>exact(hb.2.2 x (aB e)).1
def OB {wins places:List Int}:iZ wins places↔wH wins places:=by
 constructor
 .rintro⟨hb,h⟩;refine⟨hb,λi hi=>⟨(h i hi).1,λhn=>(h i hi).2 ?_⟩⟩;have g:=λi=>Fh hb (λi hi=>(h i hi).1) _ i rfl;have:=g (2*i+1);have:=g (2*i+2);omega
 .rintro⟨hb,h⟩;refine⟨hb,λi hi=>⟨(h i hi).1,λhn=>(h i hi).2 ?_⟩⟩;have g:=λi=>Fh hb (λi hi=>(h i hi).1) _ i rfl;have:=g i;have:=g (2*i+1);have:=g (2*i+2);omega
def uz {wins places:List Int}(h:iZ wins places):Match wins places:=⟨h.1.1.2.2,uy.1 h.1.2.1,λi hi=>(h.2 i hi).1⟩
end Bnd
namespace Bnd
open Go
def playD (won:Int->Int->Int)(places:List Int)(m:Nat):Nat->List Int
 |0=>List.replicate m 0
 |k+1=>(playD won places m k).set (m-1-k) (won (nodeV (playD won places m k) places (2*(m-1-k)+1)) (nodeV (playD won places m k) places (2*(m-1-k)+2)))
def fP {won:Int->Int->Int}{places:List Int}{m:Nat}:∀k,(playD won places m k).length=m
 |0=>by simp[playD]
 |k+1=>by simp[playD,fP k]
def yh {won:Int->Int->Int}{places:List Int}{m:Nat}:∀k,k<=m->py won places (m-k) (playD won places m k)=py won places m (List.replicate m 0)
 |0,_=>rfl
 |k+1,h=>by
  rw[<-yh k (by omega)];have e:m-k=(m-(k+1))+1:=by omega
  have e2:m-1-k=m-(k+1):=by omega
  conv=>rhs;rw[e];unfold py
  conv=>lhs;unfold playD;rw[e2]
def Ae {won:Int->Int->Int}{places v:List Int}{m:Nat}(h:v.length=m):playD won places m m=v↔kq won v places:=by
 have:=yh (won:=won) (places:=places) m (aD m);rw[fe] at this;rw[show playD won places m m=py won places 0 (playD won places m m) from rfl,this,<-OA (w:=List.replicate m 0) (by simpa using h)]
 simp
def Gk {P:Int->Prop}(h0:P (-1)){wins places:List Int}(hp:∀x∈places,P x){i:Nat}(h:¬i<wins.length):P (nodeV wins places i):=by
 unfold nodeV
 grind
def vA {P:Int->Prop}(h0:P (-1)){won:Int->Int->Int}(hw:∀a b,P a->P b->P (won a b)){places:List Int}(hp:∀x∈places,P x){m:Nat}:∀k,k<=m->∀j,m-k<=j->P (nodeV (playD won places m k) places j)
 |0,_,j,hj=>Gk h0 hp (wins:=playD won places m 0) (by rw[fP];omega)
 |k+1,hk,j,hj=>by
  have ih:=vA h0 hw hp (m:=m) k (by omega);unfold playD;by_cases e:m-1-k=j
  .subst e;have:nodeV ((playD won places m k).set (m-1-k) (won (nodeV (playD won places m k) places (2*(m-1-k)+1)) (nodeV (playD won places m k) places (2*(m-1-k)+2)))) places (m-1-k)=won (nodeV (playD won places m k) places (2*(m-1-k)+1)) (nodeV (playD won places m k) places (2*(m-1-k)+2)):=by
    unfold nodeV;rw[bK,fP,ad (by omega),bk (by rw[fP];omega)];rfl
   rw[this];exact hw _ _ (ih _ (by omega)) (ih _ (by omega))
  .rw[lb e];exact ih j (by omega)
def Rx {P:Int->Prop}(h0:P (-1)){wins places:List Int}(hl:places.length=wins.length+1)(hp:∀x∈places,P x)(hk:∀i,i<wins.length->lS wins places i):∀(d i:Nat),2*places.length-i=d->P (nodeV wins places i):=by
 intro d;induction d using Nat.strongRecOn with
 |ind d ih=>
  intro i hd;by_cases hlt:i<wins.length
  .rcases hk i hlt with h|h
   .grind
   .grind
  .exact Gk h0 hp hlt
end Bnd
