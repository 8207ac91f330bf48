import Derived.Test.YtoeigdpfcnaaeaaGreatA1
set_option linter.unusedVariables false
set_option linter.unusedSimpArgs false
set_option linter.defProp false
noncomputable section
namespace Bnd
open Go
def lV {α:Type}[DecidableEq α]:∀{l k:List α},l.Nodup->(∀x∈l,x∈k)->k.length<=l.length->l.Perm k
 |[],k,_,_,h=>by
  have:=cJ.1 (by simpa using h)
  rw[this]
 |a::l,k,hn,hs,h=>by
  have ha:=hs a (by simp);have hp:=xa ha;rw[bZ] at hn;refine(List.Perm.cons a (lV hn.2 (λx hx=>?_) ?_)).trans hp.symm
  .have hne:x≠a:=λe=>hn.1 (e▸hx);exact(kC hne).2 (hs x (by simp[hx]))
  .have:=hp.length_eq;simp at this h;omega
def rE {α:Type}[DecidableEq α]:∀{l k:List α},l.Nodup->(∀x∈l,x∈k)->l.length<=k.length
 |[],_,_,_=>by simp
 |a::l,k,hn,hs=>by
  have ha:=hs a (by simp);have hp:=xa ha;rw[bZ] at hn;have:=rE (l:=l) (k:=k.erase a) hn.2 (λx hx=>by
   have hne:x≠a:=λe=>hn.1 (e▸hx);exact(kC hne).2 (hs x (by simp[hx])))
  have:=hp.length_eq;simp at this|-;omega
def TL {α:Type}[DecidableEq α]{l k:List α}(hl:l.Nodup)(hk:k.Nodup)(h:l.length=k.length)(P:α->Prop):(∀x∈l,x∈k/\ P x)↔∀x∈k,x∈l/\ P x:=by
 constructor
 .intro a x hx;have hp:=lV hl (λx hx=>(a x hx).1) (by omega)
  grind
 .intro a x hx;have hp:=lV hk (λx hx=>(a x hx).1) (by omega)
  grind
def dr {α:Type}{l:List α}:l.Nodup↔∀(i j:Nat) (x:α),l[i]?=some x->l[j]?=some x->i=j:=by
 constructor
 .intro h i j x hi hj;have hi':=(aC.1 hi).1;exact(List.getElem?_inj hi' h).1 (hi.trans hj.symm)
 .intro h;induction l with
  |nil=>exact mG
  |cons a l ih=>
   rw[bZ];constructor
   .intro ha;obtain⟨j,hj⟩:=aI.1 ha;have:=h 0 (j+1) a rfl (by simpa using hj)
    omega
   .refine ih λi j x hi hj=>?_;have:=h (i+1) (j+1) x (by simpa using hi) (by simpa using hj)
    omega
def pE {α:Type}{l:List α}:l.Nodup↔∀(i j:Nat) (x:α),j<i->l[i]?=some x->l[j]?≠some x:=by
 rw[dr]
 grind
end Bnd
namespace Bnd
open Go
structure Rt where
 num:Int
 den:Int
 deriving DecidableEq
structure Pt where
 id:Int
 a:Int
 b:Int
 deriving DecidableEq
def Jk (n:Int):Bool:=decide (-1048576<=n)&& decide (n<=1048576)
def Pt.ok (p:Pt):Bool:=decide (0<=p.id)&& decide (p.id<=65535)&& Jk p.a&& Jk p.b
def far (t:Rt)(p q:Pt):Int:=(p.a-q.a)*t.den+(p.b-q.b)*t.num
def leads (t:Rt)(p q:Pt):Bool:=if far t p q≠0 then decide (0<far t p q) else if p.b≠q.b then decide (q.b<p.b) else decide (p.id<q.id)
def rF (t:Rt)(p q r:Pt):far t p q+far t q r=far t p r:=by
 unfold far
 grind
def nW (t:Rt)(p q:Pt):far t q p= -far t p q:=by
 have h1:=rF t p q p;have h2:far t p p=0:=by unfold far;simp
 omega
def leads_iff {t:Rt}{p q:Pt}:leads t p q=true↔0<far t p q\/far t p q=0/\(q.b<p.b\/p.b=q.b/\ p.id<q.id):=by
 unfold leads
 grind
def tK (t:Rt)(p:Pt):leads t p p=false:=by
 rw[<-nJ,leads_iff];have:=nW t p p;omega
def jH {t:Rt}{p q r:Pt}(h:leads t p q=true)(k:leads t q r=true):leads t p r=true:=by
 rw[leads_iff] at h k|-;have:=rF t p q r;omega
def fy {t:Rt}{p q:Pt}(h:leads t p q=true):leads t q p=false:=by
 rw[<-nJ,leads_iff];rw[leads_iff] at h;have:=nW t p q;omega
def leads_total {t:Rt}{p q:Pt}(h:p.id≠q.id):leads t p q=true\/leads t q p=true:=by
 rw[leads_iff,leads_iff];have:=nW t p q;omega
def BZ {t:Rt}{p q:Pt}(h:p.id≠q.id):leads t q p=!leads t p q:=by
 cases e:leads t p q with
 |true=>exact fy e
 |false=>
  rcases leads_total (t:=t) h with h|h
  .grind
  .exact h
end Bnd
namespace Bnd
open Go
section
variable (ld:Nat->Nat->Bool)
structure Lin (n:Nat):Prop where
 asymm:∀i j,ld i j=true->ld j i=false
 trans:∀i j k,ld i j=true->ld j k=true->ld i k=true
 total:∀i j,i<n->j<n->i≠j->ld i j=true\/ld j i=true
def rj (a b k:Nat):Prop:=a<=k/\ k<b/\∀j,a<=j->j<b->j≠k->ld k j=true
def jV (a b:Nat)(x:Int):Prop:=(b<=a/\ x= -1)\/∃k:Nat,x=k/\ rj ld a b k
def wO (k a:Nat):Prop:=a<=k/\(∀j,a<=j->j<k->ld j k=false)/\(a=0\/ld (a-1) k=true)
def wP (b k h:Nat):Prop:=k<h/\ h<=b/\(∀j,k<j->j<h->ld j k=false)/\(h=b\/ld h k=true)
def oJ (b k:Nat)(x:Int×Int):Prop:=∃a h,wO ld k a/\ wP ld b k h/\ jV ld a k x.1/\ jV ld (k+1) h x.2
def lX (n:Nat)(root:Int)(l:List (Int×Int)):Prop:=jV ld 0 n root/\ l.length=n/\∀k x,l[k]?=some x->oJ ld n k x
variable {ld}
def TM {n a b k k':Nat}(L:Lin ld n)(h:rj ld a b k)(h':rj ld a b k'):k=k':=by
 by_cases e:k=k'
 .exact e
 .have h1:=h.2.2 k' h'.1 h'.2.1 (by omega);have h2:=h'.2.2 k h.1 h.2.1 e;rw[L.asymm _ _ h1] at h2;cases h2
def yn {n a b:Nat}{x y:Int}(L:Lin ld n)(h:jV ld a b x)(k:jV ld a b y):x=y:=by
 rcases h with⟨h1,rfl⟩|⟨i,rfl,h⟩<;>rcases k with⟨k1,rfl⟩|⟨j,rfl,k⟩
 .rfl
 .have:=k.1;have:=k.2.1;omega
 .have:=h.1;have:=h.2.1;omega
 .rw[TM L h k]
def vg {k a a':Nat}(h:wO ld k a)(h':wO ld k a'):a=a':=by
 rcases ef a a' with g|g|g
 .exfalso;have:=h.2.1 (a'-1) (by omega) (by have:=h'.1;omega);rcases h'.2.2 with e|e
  .omega
  .grind
 .exact g
 .exfalso;have:=h'.2.1 (a-1) (by omega) (by have:=h.1;omega);rcases h.2.2 with e|e
  .omega
  .grind
def vk {b k h h':Nat}(g:wP ld b k h)(g':wP ld b k h'):h=h':=by
 obtain⟨a1,a2,a3,a4⟩:=g;obtain⟨b1,b2,b3,b4⟩:=g'
 grind
def QV {n b k:Nat}{x y:Int×Int}(L:Lin ld n)(h:oJ ld b k x)(h':oJ ld b k y):x=y:=by
 obtain⟨a,c,h1,h2,h3,h4⟩:=h;obtain⟨a',c',k1,k2,k3,k4⟩:=h';rw[vg k1 h1] at k3;rw[vk k2 h2] at k4;exact Prod.ext (yn L h3 k3) (yn L h4 k4)
def D4 {n:Nat}{r r':Int}{l l':List (Int×Int)}(L:Lin ld n)(h:lX ld n r l)(h':lX ld n r' l'):r=r'/\ l=l':=by
 refine⟨yn L h.1 h'.1,cZ λk=>?_⟩;cases e:l[k]? with
 |none=>
  rw[iD] at e;rw[bD (by have:=h.2.1;have:=h'.2.1;omega)]
 |some x=>
  have hk:=(aC.1 e).1;have hk':k<l'.length:=by have:=h.2.1;have:=h'.2.1;omega
  rw[ah hk'];have:=QV L (h.2.2 k x e) (h'.2.2 k _ (ah hk'));rw[this]
def pF (ld:Nat->Nat->Bool):Nat->Nat->Option Nat->Option Nat
 |0,_,best=>best
 |m+1,i,best=>pF ld m (i+1) (match best with|none=>some i|some b=>if ld i b then some i else some b)
def lk:Option Nat->Int
 |none=> -1
 |some k=>k
def B3 {n:Nat}(L:Lin ld n){a:Nat}:∀(m i:Nat) (best:Option Nat),i+m<=n->a<=i->jV ld a i (lk best)->jV ld a (i+m) (lk (pF ld m i best))
 |0,i,best,_,_,h=>h
 |m+1,i,best,hm,ha,h=>by
  unfold pF;rw[show i+(m+1)=(i+1)+m by omega]
  refine B3 L m (i+1) _ (by omega) (by omega) ?_;rcases h with⟨h1,h2⟩|⟨k,h1,h2⟩
  .cases best with
   |some b=>simp[lk] at h2
   |none=>exact .inr ⟨i,rfl,by omega,by omega,λj h3 h4 h5=>by omega⟩
  .cases best with
   |none=>simp[lk] at h1
   |some b=>
    have hb:b=k:=by simp[lk] at h1;omega
    subst hb;obtain⟨h3,h4,h5⟩:=h2;cases e:ld i b with
    |true=>
     simp[e];refine .inr ⟨i,rfl,by omega,by omega,λj j1 j2 j3=>?_⟩;by_cases hj:j=b
     .rw[hj];exact e
     .exact L.trans _ _ _ e (h5 j j1 (by omega) hj)
    |false=>
     simp[e];refine .inr ⟨b,rfl,by omega,by omega,λj j1 j2 j3=>?_⟩;by_cases hj:j=i
     .subst hj;rcases L.total b j (by omega) (by omega) (by omega) with g|g
      .exact g
      .rw[e] at g;cases g
     .exact h5 j j1 (by omega) j3
def wQ (ld:Nat->Nat->Bool)(a b:Nat):Option Nat:=pF ld (b-a) a none
def Jl {n:Nat}(L:Lin ld n){a b:Nat}(hb:b<=n)(h:a<=b):jV ld a b (lk (wQ ld a b)):=by
 have:=B3 L (a:=a) (b-a) a none (by omega) (aB _) (.inl ⟨aB _,rfl⟩);rwa [show a+(b-a)=b by omega] at this
def grow (ld:Nat->Nat->Bool):Nat->Nat->Nat->List (Int×Int)->List (Int×Int)×Int
 |0,_,_,l=>(l,-1)
 |f+1,a,b,l=>match wQ ld a b with
  |none=>(l,-1)
  |some i=>
   let r:=grow ld f a i l
   let l1:=r.1.modify i λx=>(r.2,x.2)
   let s:=grow ld f (i+1) b l1
   (s.1.modify i λx=>(x.1,s.2),i)
def Nj (ld:Nat->Nat->Bool)(n a b:Nat):Prop:=a<=b/\ b<=n/\(a=0\/∀j,a<=j->j<b->ld (a-1) j=true)/\(b=n\/∀j,a<=j->j<b->ld b j=true)
def rI {n:Nat}(L:Lin ld n):∀(f a b:Nat) (l:List (Int×Int)),b-a<f->l.length=n->Nj ld n a b->
  jV ld a b (grow ld f a b l).2/\(grow ld f a b l).1.length=n/\(∀k,k<a\/b<=k->(grow ld f a b l).1[k]?=l[k]?)/\∀k x,a<=k->k<b->(grow ld f a b l).1[k]?=some x->oJ ld n k x
 |0,a,b,l,h,_,_=>by omega
 |f+1,a,b,l,h,hl,E=>by
  obtain⟨e1,e2,e3,e4⟩:=E;have ht:=Jl L e2 e1;unfold grow;cases e:wQ ld a b with
  |none=>
   rw[e] at ht;rcases ht with⟨t1,_⟩|⟨k,t1,_⟩
   .exact⟨.inl ⟨t1,rfl⟩,hl,λk _=>rfl,λk x h1 h2=>by omega⟩
   .simp[lk] at t1
  |some i=>
   rw[e] at ht;rcases ht with⟨_,t1⟩|⟨k,t1,t2⟩
   .simp[lk] at t1
   .have hk:i=k:=by simp[lk] at t1;omega
    subst hk;have ht:=t2;obtain⟨t3,t4,t5⟩:=t2;have E1:Nj ld n a i:=⟨t3,by omega,by
     rcases e3 with e3|e3
     .exact .inl e3
     .exact .inr λj j1 j2=>e3 j j1 (by omega),.inr λj j1 j2=>t5 j j1 (by omega) (by omega)⟩
    have E2:Nj ld n (i+1) b:=⟨by omega,e2,.inr λj j1 j2=>by
     rw[di];exact t5 j (by omega) j2 (by omega),by
     rcases e4 with e4|e4
     .exact .inl e4
     .exact .inr λj j1 j2=>e4 j (by omega) j2⟩
    obtain⟨g1,g2,g3,g4⟩:=rI L f a i l (by omega) hl E1;simp only;generalize hr:grow ld f a i l=r at g1 g2 g3 g4;have hl1:(r.1.modify i λx=>(r.2,x.2)).length=n:=by rw[dQ,g2]
    obtain⟨k1,k2,k3,k4⟩:=rI L f (i+1) b (r.1.modify i λx=>(r.2,x.2)) (by omega) hl1 E2;generalize hs:grow ld f (i+1) b (r.1.modify i λx=>(r.2,x.2))=s at k1 k2 k3 k4;refine⟨.inr ⟨i,rfl,ht⟩,by rw[dQ,k2],λk hk=>?_,λk x h1 h2 hx=>?_⟩
    .rw[eI _ _ (by omega:i≠k),k3 k (by omega),eI _ _ (by omega:i≠k),g3 k (by omega)]
    .by_cases hk:k=i
     .subst hk;rw[gl,k3 k (by omega),gl] at hx;obtain⟨y,hy⟩:∃y,r.1[k]?=some y:=⟨r.1[k]'(by omega),ah _⟩;rw[hy] at hx;simp at hx;subst hx;refine⟨a,b,⟨h1,λj j1 j2=>L.asymm _ _ (t5 j j1 (by omega) (by omega)),?_⟩,⟨h2,e2,λj j1 j2=>L.asymm _ _ (t5 j (by omega) j2 (by omega)),?_⟩,g1,k1⟩
      .rcases e3 with e3|e3
       .exact .inl e3
       .exact .inr (e3 k h1 h2)
      .rcases e4 with e4|e4
       .exact .inl e4
       .exact .inr (e4 k h1 h2)
     .rw[eI _ _ (by omega:i≠k)] at hx;by_cases hlt:k<i
      .rw[k3 k (by omega),eI _ _ (by omega:i≠k)] at hx;exact g4 k x h1 hlt hx
      .exact k4 k x (by omega) h2 hx
end
end Bnd
namespace Bnd
open Go
section
variable {ld:Nat->Nat->Bool}
def popAll (ld:Nat->Nat->Bool)(i:Nat):List Nat->Int->List Nat×Int
 |[],y=>([],y)
 |e::es,y=>if ld e i then(e::es,y) else popAll ld i es e
def tL (ld:Nat->Nat->Bool)(i:Nat)(s:List Nat×Int×List (Int×Int)):List Nat×Int×List (Int×Int):=
 match popAll ld i s.1 (-1) with
 |([],y)=>([i],i,s.2.2++[(y,-1)])
 |(e::es,y)=>(i::e::es,s.2.1,(s.2.2.modify e λx=>(x.1,i))++[(y,-1)])
def Opn (ld:Nat->Nat->Bool)(i k:Nat):Prop:=k<i/\∀j,k<j->j<i->ld j k=false
structure CInv (ld:Nat->Nat->Bool)(i:Nat)(s:List Nat×Int×List (Int×Int)):Prop where
 desc:s.1.Pairwise (· >·)
 mem:∀k,k∈s.1↔Opn ld i k
 root:jV ld 0 i s.2.1
 len:s.2.2.length=i
 node:∀k x,s.2.2[k]?=some x->oJ ld i k x
def oO (i:Nat):∀(l:List Nat) (y:Int),∃gone,l=gone++(popAll ld i l y).1/\(∀k∈gone,ld k i=false)/\(∀e es,(popAll ld i l y).1=e::es->ld e i=true)/\((gone=[]/\(popAll ld i l y).2=y)\/∃g k,gone=g++[k]/\(popAll ld i l y).2=(k:Nat))
 |[],y=>⟨[],rfl,by simp,by simp[popAll],.inl ⟨rfl,rfl⟩⟩
 |e::es,y=>by
  unfold popAll;cases h:ld e i with
  |true=>exact⟨[],rfl,by simp,λa b hab=>by simp at hab;rw[<-hab.1];exact h,.inl ⟨rfl,rfl⟩⟩
  |false=>
   simp;obtain⟨gone,h1,h2,h3,h4⟩:=oO i es (e:Nat);refine⟨e::gone,by rw[aQ,<-h1],λk hk=>?_,h3,.inr ?_⟩
   .rcases bf.1 hk with rfl|hk
    .exact h
    .exact h2 k hk
   .rcases h4 with⟨rfl,h4⟩|⟨g,k,rfl,h4⟩
    .exact⟨[],e,rfl,h4⟩
    .exact⟨e::g,k,rfl,h4⟩
def WN {n i c:Nat}(L:Lin ld n)(h:∀k,c<=k->Opn ld i k->ld i k=true):∀(d k:Nat),i-k=d->c<=k->k<i->ld i k=true:=by
 intro d;induction d using Nat.strongRecOn with
 |ind d ih=>
  intro k hd hc hk;by_cases ho:∀j,k<j->j<i->ld j k=false
  .exact h k hc ⟨hk,ho⟩
  .simp at ho;obtain⟨j,h1,h2,h3⟩:=ho;exact L.trans _ _ _ (ih (i-j) (by omega) j rfl (by omega) h2) h3
def yp {n i k:Nat}(L:Lin ld n)(hi:i<=n)(h:Opn ld i k):∀j,k<j->j<i->ld k j=true:=λj h1 h2=>by
 rcases L.total k j (by omega) (by omega) (by omega) with g|g
 .exact g
 .rw[h.2 j h1 h2] at g;cases g
def QW {n i c k:Nat}(L:Lin ld n)(hi:i<=n)(hc:c<=k)(h:Opn ld i k)(hf:∀j,c<=j->j<k->¬Opn ld i j):rj ld c i k:=by
 refine⟨hc,h.1,λj h1 h2 h3=>?_⟩;have:∀d j,k-j=d->c<=j->j<k->ld k j=true:=by
  intro d;induction d using Nat.strongRecOn with
  |ind d ih=>
   intro j hd hc hj;have:=hf j hc hj;unfold Opn at this;simp at this;obtain⟨m,m1,m2,m3⟩:=this (by have:=h.1;omega);rcases ef m k with g|g|g
   .exact L.trans _ _ _ (ih (k-m) (by omega) m rfl (by omega) g) m3
   .grind
   .exact L.trans _ _ _ (yp L hi h m g m2) m3
 rcases sV j k with g|g
 .grind
 .exact yp L hi h j (by omega) h2
def TN {n i:Nat}(L:Lin ld n)(hi:i<n){s:List Nat×Int×List (Int×Int)}(I:CInv ld i s):CInv ld (i+1) (tL ld i s):=by
 obtain⟨edge,root,nodes⟩:=s;obtain⟨desc,mem,hroot,len,node⟩:=I;simp only at desc mem hroot len node;obtain⟨gone,p1,p2,p3,p4⟩:=oO (ld:=ld) i edge (-1);unfold tL;simp only;generalize hp:popAll ld i edge (-1)=pr at p1 p2 p3 p4;obtain⟨kept,y⟩:=pr;simp only at p1 p2 p3 p4;have memg:∀k∈gone,Opn ld i k:=λk hk=>(mem k).1 (by rw[p1];exact db _ hk);have memk:∀k∈kept,Opn ld i k:=λk hk=>(mem k).1 (by rw[p1];exact ew _ hk);have both:∀k,Opn ld i k->k∈gone\/k∈kept:=λk hk=>by
  grind
 have goneLed:∀k∈gone,ld i k=true:=λk hk=>by
  have:=(memg k hk).1;rcases L.total k i (by omega) hi (by omega) with g|g
  .grind
  .exact g
 rw[p1,wZ] at desc;obtain⟨d1,d2,d3⟩:=desc;have keptLead:∀k∈kept,ld k i=true:=λk hk=>by
  cases kept with
  |nil=>cases hk
  |cons e es=>
   have he:=p3 e es rfl;rcases bf.1 hk with rfl|hk
   .exact he
   .have:k<e:=(fV.1 d2).1 k hk;exact L.trans _ _ _ (yp L (by omega) (memk k (aO _ hk)) e this (memk e (by simp)).1) he
 have opn1:∀k,Opn ld (i+1) k↔k=i\/k∈kept:=λk=>by
  constructor
  .rintro⟨h1,h2⟩;by_cases e:k=i
   .exact .inl e
   .rcases both k ⟨by omega,λj a b=>h2 j a (by omega)⟩ with g|g
    .have:=goneLed k g;rw[h2 i (by omega) (by omega)] at this;cases this
    .exact .inr g
  .rintro(rfl|h)
   .exact⟨by omega,λj a b=>by omega⟩
   .obtain⟨h1,h2⟩:=memk k h;refine⟨by omega,λj a b=>?_⟩;by_cases e:j=i
    .subst e;exact L.asymm _ _ (keptLead k h)
    .exact h2 j a (by omega)
 have behind:∀c,(∀k∈kept,k<c)->∀k,c<=k->k<i->ld i k=true:=λc hc k h1 h2=>
  WN L (λk a b=>by
   rcases both k b with g|g
   .exact goneLed k g
   .have:=hc k g;omega) _ k rfl h1 h2
 have hy:∀c,(∀k∈kept,k<c)->(∀k∈gone,c<=k)->c<=i->jV ld c i y:=λc h1 h2 h3=>by
  rcases p4 with⟨rfl,rfl⟩|⟨g,k,rfl,rfl⟩
  .left
   refine⟨?_,rfl⟩;rcases sV c i with hlt|hge
   .exfalso;have:Opn ld i (i-1):=⟨by omega,λj a b=>by omega⟩;rcases both _ this with g|g
    .cases g
    .have:=h1 _ g;omega
   .exact hge
  .right
   refine⟨k,rfl,QW L (by omega) (h2 k (by simp)) (memg k (by simp)) λj j1 j2 hj=>?_⟩;rcases both j hj with g'|g'
   .rcases bR.1 g' with g'|g'
    .have:=(wZ.1 d1).2.2 j g' k (by simp);omega
    .simp at g';omega
   .have:=h1 j g';omega
 have keep:∀k x,nodes[k]?=some x->(∀e es,kept=e::es->k≠e)->oJ ld (i+1) k x:=λk x hx hne=>by
  obtain⟨a,h,n1,n2,n3,n4⟩:=node k x hx;obtain⟨q1,q2,q3,q4⟩:=n2;by_cases hh:h=i/\ Opn ld i k
  .obtain⟨rfl,ho⟩:=hh;rcases both k ho with g|g
   .exact⟨a,h,n1,⟨q1,by omega,q3,.inr (goneLed k g)⟩,n3,n4⟩
   ·
    cases kept with
    |nil=>cases g
    |cons e es=>
     have hke:=hne e es rfl;have hk':k<e:=by
      rcases bf.1 g with g|g
      .omega
      .exact(fV.1 d2).1 k g
     have he:=memk e (by simp);have hki:=keptLead e (by simp);refine⟨a,h+1,n1,⟨by omega,by omega,((opn1 k).2 (.inr g)).2,.inl rfl⟩,n3,?_⟩;rcases n4 with⟨n4,_⟩|⟨m,n4,t1,t2,t3⟩
     .have:=he.1;omega
     .refine .inr ⟨m,n4,t1,by omega,λj j1 j2 j3=>?_⟩;by_cases hj:j=h
      .subst hj;by_cases hem:e=m
       .rw[<-hem];exact hki
       .exact L.trans _ _ _ (t3 e (by omega) he.1 hem) hki
      .exact t3 j j1 (by omega) j3
  .refine⟨a,h,n1,⟨q1,by omega,q3,?_⟩,n3,n4⟩;rcases q4 with q4|q4
   .exfalso;subst q4;exact hh ⟨rfl,q1,q3⟩
   .exact .inr q4
 have new:∀c,(∀k∈kept,k<c)->(∀k∈gone,c<=k)->c<=i->(c=0\/ld (c-1) i=true)->oJ ld (i+1) i (y,-1):=λc h1 h2 h3 h4=>
  ⟨c,i+1,⟨h3,λj a b=>L.asymm _ _ (behind c h1 j a b),h4⟩,⟨by omega,by omega,λj a b=>by omega,.inl rfl⟩,hy c h1 h2 h3,.inl ⟨by omega,rfl⟩⟩
 cases kept with
 |nil=>
  have hn0:oJ ld (i+1) i (y,-1):=new 0 (by simp) (by simp) (by omega) (.inl rfl);refine⟨by simp,λk=>?_,?_,by simp[len],λk x hx=>?_⟩
  .rw[opn1 k];simp
  .exact .inr ⟨i,rfl,by omega,by omega,λj j1 j2 j3=>behind 0 (by simp) j (by omega) (by omega)⟩
  .rw[iC] at hx;split at hx
   .exact keep k x hx (by simp)
   .rename_i hk;have:k=i:=by
     have:=(aC.1 hx).1;simp only[aK] at this;omega
    subst this;rw[len] at hx;simp at hx;rw[<-hx];exact hn0
 |cons e es=>
  have he:=memk e (by simp);have hei:=keptLead e (by simp);have hes:∀k∈e::es,k<e+1:=λk hk=>by
   rcases bf.1 hk with rfl|hk
   .omega
   .have:k<e:=(fV.1 d2).1 k hk;omega
  have hn0:oJ ld (i+1) i (y,-1):=new (e+1) hes (λk hk=>by have:=d3 k hk e (by simp);omega) he.1 (.inr (by rw[di];exact hei));refine⟨?_,λk=>?_,?_,by simp[len],λk x hx=>?_⟩
  .rw[fV];exact⟨λk hk=>(memk k hk).1,d2⟩
  .rw[opn1 k,bf]
  .rcases hroot with⟨r1,_⟩|⟨m,r1,t1,t2,t3⟩
   .have:=he.1;omega
   .refine .inr ⟨m,r1,t1,by omega,λj j1 j2 j3=>?_⟩;by_cases hj:j=i
    .subst hj;by_cases hem:e=m
     .rw[<-hem];exact hei
     .exact L.trans _ _ _ (t3 e (by omega) he.1 hem) hei
    .exact t3 j j1 (by omega) j3
  .simp only at hx;rw[iC] at hx;split at hx
   .rename_i hk;rw[dQ,len] at hk;by_cases hke:k=e
    .subst hke;rw[gl] at hx;obtain⟨z,hz⟩:∃z,nodes[k]?=some z:=⟨nodes[k]'(by omega),ah _⟩;rw[hz] at hx;simp only[Option.map_eq_map,cj,bX] at hx;subst hx;obtain⟨a,h,n1,n2,n3,n4⟩:=node k z hz;refine⟨a,i+1,n1,⟨by omega,by omega,((opn1 k).2 (.inr (by simp))).2,.inl rfl⟩,n3,.inr ⟨i,rfl,by omega,by omega,λj j1 j2 j3=>behind (k+1) hes j j1 (by omega)⟩⟩
    .rw[eI _ _ (by omega:e≠k)] at hx;exact keep k x hx (by intro e' es' h;simp at h;omega)
   .rename_i hk;rw[dQ,len] at hx hk;have:k=i:=by
     have:=(aC.1 hx).1;simp only[aK] at this;omega
    subst this;simp at hx;rw[<-hx];exact hn0
def cmake (ld:Nat->Nat->Bool):Nat->List Nat×Int×List (Int×Int)
 |0=>([],-1,[])
 |i+1=>tL ld i (cmake ld i)
def iF {n:Nat}(L:Lin ld n):∀i,i<=n->CInv ld i (cmake ld i)
 |0,_=>⟨.nil,λk=>by simp[cmake,Opn],.inl ⟨aB _,rfl⟩,rfl,λk x h=>by simp[cmake] at h⟩
 |i+1,h=>TN L (by omega) (iF L i (by omega))
def mu {n:Nat}(L:Lin ld n):lX ld n (cmake ld n).2.1 (cmake ld n).2.2:=by
 have:=iF L n (aB _);exact⟨this.root,this.len,this.node⟩
end
end Bnd
namespace Bnd
open Go
section
variable {ld:Nat->Nat->Bool}
def Below (l:List (Int×Int))(i j:Nat):Prop:=∃x,l[j]?=some x/\(x.1=(i:Int)\/x.2=(i:Int))
def uq {n:Nat}(L:Lin ld n){root:Int}{l:List (Int×Int)}(C:lX ld n root l){i j:Nat}(h:Below l i j):
  ld j i=true/\((i<j/\ wP ld n i j/\∃a,wO ld i a/\(a=0\/ld (a-1) j=true))\/(j<i/\ wO ld i (j+1)/\∃b,wP ld n i b/\(b=n\/ld b j=true))):=by
 obtain⟨x,hx,h⟩:=h;obtain⟨a,b,⟨a1,a2,a3⟩,⟨b1,b2,b3,b4⟩,l1,l2⟩:=C.2.2 j x hx;have hj:j<n:=by have:=(aC.1 hx).1;have:=C.2.1;omega
 rcases h with h|h
 .rw[h] at l1;rcases l1 with⟨_,l1⟩|⟨k,l1,t1,t2,t3⟩
  .omega
  .have:i=k:=by omega
   subst this;have led:∀m,a<=m->m<j->ld j m=true:=λm m1 m2=>by
    rcases L.total j m hj (by omega) (by omega) with g|g
    .exact g
    .grind
   have hji:=led i t1 t2;refine⟨hji,.inl ⟨t2,⟨t2,by omega,λm m1 m2=>L.asymm _ _ (t3 m (by omega) m2 (by omega)),.inr hji⟩,a,⟨t1,λm m1 m2=>L.asymm _ _ (t3 m m1 (by omega) (by omega)),?_⟩,a3⟩⟩;rcases a3 with a3|a3
   .grind
   .exact .inr (L.trans _ _ _ a3 hji)
 .rw[h] at l2;rcases l2 with⟨_,l2⟩|⟨k,l2,t1,t2,t3⟩
  .omega
  .have:i=k:=by omega
   subst this;have led:∀m,j<m->m<b->ld j m=true:=λm m1 m2=>by
    rcases L.total j m hj (by omega) (by omega) with g|g
    .exact g
    .rw[b3 m m1 m2] at g;cases g
   have hji:=led i t1 t2;refine⟨hji,.inr ⟨by omega,⟨t1,λm m1 m2=>L.asymm _ _ (t3 m m1 (by omega) (by omega)),.inr (by rw[di];exact hji)⟩,b,⟨t2,b2,λm m1 m2=>L.asymm _ _ (t3 m (by omega) m2 (by omega)),?_⟩,b4⟩⟩;rcases b4 with b4|b4
   .exact .inl b4
   .exact .inr (L.trans _ _ _ b4 hji)
def B4 {n:Nat}(L:Lin ld n){root:Int}{l:List (Int×Int)}(C:lX ld n root l){i j j':Nat}(h:Below l i j)(h':Below l i j'):j=j':=by
 have hj:j<n:=by obtain⟨x,hx,_⟩:=h;have:=(aC.1 hx).1;have:=C.2.1;omega
 have hj':j'<n:=by obtain⟨x,hx,_⟩:=h';have:=(aC.1 hx).1;have:=C.2.1;omega
 obtain⟨_,h⟩:=uq L C h;obtain⟨_,h'⟩:=uq L C h';rcases h with⟨_,h1,a,h2,h3⟩|⟨_,h1,b,h2,h3⟩<;>rcases h' with⟨_,k1,c,k2,k3⟩|⟨_,k1,d,k2,k3⟩
 .exact vk h1 k1
 .exfalso;have e1:=vg h2 k1;have e2:=vk h1 k2;subst e1;subst e2;rw[di] at h3;rcases h3 with h3|h3
  .omega
  .rcases k3 with k3|k3
   .omega
   .rw[L.asymm _ _ h3] at k3;cases k3
 .exfalso;have e1:=vg k2 h1;have e2:=vk k1 h2;subst e1;subst e2;rw[di] at k3;rcases k3 with k3|k3
  .omega
  .rcases h3 with h3|h3
   .omega
   .rw[L.asymm _ _ h3] at k3;cases k3
 .have:=vg h1 k1;omega
end
end Bnd
namespace Bnd
open Go
def oP (t:Rt)(l:List Pt):List Pt:=l.mergeSort λp q=>!leads t q p
def Ids (l:List Pt):Prop:=(l.map Pt.id).Nodup
def Ids.inj {l:List Pt}(h:Ids l){p q:Pt}(hp:p∈l)(hq:q∈l)(e:p.id=q.id):p=q:=by
 obtain⟨i,hi⟩:=aI.1 hp;obtain⟨j,hj⟩:=aI.1 hq;have:=dr.1 h i j p.id (by rw[ba,hi];rfl) (by rw[ba,hj,e];rfl)
 grind
def Ids.perm {l k:List Pt}(h:Ids l)(p:l.Perm k):Ids k:=(p.map Pt.id).nodup_iff.1 h
def Ids.tail {p:Pt}{l:List Pt}(h:Ids (p::l)):Ids l:=(bZ.1 h).2
def Ids.filter {l:List Pt}(h:Ids l)(f:Pt->Bool):Ids (l.filter f):=vu ((kY (l:=l) (p:=f)).map Pt.id) h
def Ids.nodup {l:List Pt}(h:Ids l):l.Nodup:=by
 rw[dr];intro i j x hi hj;exact dr.1 h i j x.id (by rw[ba,hi];rfl) (by rw[ba,hj];rfl)
def jt (t:Rt)(l:List Pt):(oP t l).Perm l:=k9 ..
def yq {t:Rt}{l:List Pt}(h:Ids l):(oP t l).Pairwise λp q=>leads t p q=true:=by
 have h1:(oP t l).Pairwise λp q=>(!leads t q p)=true:=by
  refine mH (λa b c h1 h2=>?_) (λa b=>?_) l
  .simp[<-nJ,leads_iff] at h1 h2|-;have:=rF t c b a
   grind
  .cases e:leads t b a with
   |false=>rfl
   |true=>rw[fy e];rfl
 have h2:(oP t l).Pairwise λp q=>p.id≠q.id:=by
  have:=h.perm (jt t l).symm;unfold Ids List.Nodup at this
  grind
 refine List.Pairwise.imp₂ (λp q a b=>?_) h1 h2;rw[BZ b] at a;simpa using a
def rank (t:Rt)(l:List Pt)(p:Pt):Nat:=(l.filter λq=>decide (q.id≠p.id)&& leads t q p).length
def QX {t:Rt}{l k:List Pt}(h:l.Perm k)(p:Pt):rank t l p=rank t k p:=(h.filter _).length_eq
def zz {t:Rt}:∀{l:List Pt},l.Pairwise (λp q=>leads t p q=true)->Ids l->∀{i:Nat} {p:Pt},l[i]?=some p->rank t l p=i
 |[],_,_,i,p,h=>by simp at h
 |q::l,ho,hi,i,p,h=>by
  rw[fV] at ho;unfold Ids at hi;rw[bH,bZ] at hi;cases i with
  |zero=>
   simp at h;subst h;unfold rank;rw[cJ,mZ];intro x hx;simp only[aH,aa,not_and,nJ];intro hne;rcases bf.1 hx with rfl|hx
   .exact absurd rfl hne
   .exact fy (ho.1 x hx)
  |succ i=>
   simp at h;have hm:=au h;have ih:=zz ho.2 hi.2 h;unfold rank at ih|-;rw[cO,ad,aV,ih];simp only[aH,aa];exact⟨λe=>hi.1 (by rw[e];exact bb.2 ⟨p,hm,rfl⟩),ho.1 p hm⟩
def ordered (t:Rt)(l:List Pt):List Pt->List Int->List Int
 |[],out=>out
 |p::ps,out=>ordered t l ps (out.set (rank t l p) p.id)
def B5 {t:Rt}{l s:List Pt}(hs:s.Perm l)(ho:s.Pairwise λp q=>leads t p q=true)(hi:Ids l):∀(done rest:List Pt) (out:List Int),done++rest=l->out.length=l.length->(∀(k:Nat) (p:Pt),s[k]?=some p->p∈done->out[k]?=some p.id)->ordered t l rest out=s.map Pt.id
 |done,[],out,h,hl,hk=>by
  rw[aZ] at h;subst h;unfold ordered;refine cZ λk=>?_;rw[ba];cases e:s[k]? with
  |none=>
   rw[iD] at e;rw[bD (by have:=hs.length_eq;omega)];rfl
  |some p=>exact hk k p e (hs.mem_iff.1 (au e))
 |done,p::rest,out,h,hl,hk=>by
  unfold ordered;refine B5 hs ho hi (done++[p]) rest _ (by simpa using h) (by simpa using hl) λk q hq hm=>?_
  have hpl:p∈l:=by rw[<-h];simp
  obtain⟨j,hj⟩:=aI.1 (hs.mem_iff.2 hpl);have hr:=(QX hs p).symm.trans (zz ho (hi.perm hs.symm) hj);rw[hr];by_cases e:k=j
  .subst e;rw[hj] at hq;cases hq;rw[bi];have:=(aC.1 hj).1;have:=hs.length_eq;omega
  .rw[bx (by omega)];refine hk k q hq ?_;rcases bR.1 hm with hm|hm
   .exact hm
   .simp at hm;subst hm;exact absurd (dr.1 (hi.perm hs.symm).nodup _ _ _ hq hj) e
def Nk {t:Rt}{l:List Pt}(hi:Ids l){out:List Int}(ho:out.length=l.length):ordered t l l out=(oP t l).map Pt.id:=
 B5 (jt t l) (yq hi) hi [] l out rfl ho (λ_ _ _ h=>by cases h)
def fA (x:Int)(d:Nat):Int:=x.fdiv (2^(min d 64))% 2
def gZ (l:List Int)(d:Nat)(b:Int):List Int:=l.filter λx=>decide (fA x d=b)
def wR {l:List Int}{d:Nat}{b:Int}:(gZ l d b).length<=l.length:=fU ..
def iA:List Int->Int->Nat->List (Int×Int)
 |[],_,_=>[]
 |o::os,from',d=>(o,from')::(iA (gZ os d 0) o (d+1)++iA (gZ os d 1) o (d+1))
termination_by l _ _=>l.length
decreasing_by all_goals exact qQ wR
def dh (t:Rt):List Pt->Pt->Pt
 |[],b=>b
 |p::ps,b=>dh t ps (if leads t p b then p else b)
def side (l:List Pt)(top:Int)(d:Nat)(b:Int):List Pt:=l.filter λp=>decide (p.id≠top)&& decide (fA p.id d=b)
def topP_mem (t:Rt):∀(l:List Pt) (b:Pt),dh t l b=b\/dh t l b∈l
 |[],b=> .inl rfl
 |p::ps,b=>by
  unfold dh;rcases topP_mem t ps (if leads t p b then p else b) with h|h
  .rw[h];split
   .exact .inr (by simp)
   .exact .inl rfl
  .exact .inr (by simp[h])
def pG {t:Rt}{p:Pt}{l:List Pt}{d:Nat}{b:Int}:(side (p::l) (dh t l p).id d b).length<l.length+1:=by
 have hm:dh t l p∈p::l:=by
  rcases topP_mem t l p with h|h
  .rw[h];simp
  .simp[h]
 have:∀(k:List Pt) (x:Pt),x∈k->(side k x.id d b).length<k.length:=by
  intro k;induction k with
  |nil=>intro x h;cases h
  |cons y k ih=>
   unfold side at ih|-
   grind
 grind
def d9 (t:Rt):List Pt->Int->Nat->List (Int×Int)
 |[],_,_=>[]
 |p::l,from',d=>((dh t l p).id,from')::(d9 t (side (p::l) (dh t l p).id d 0) (dh t l p).id (d+1)++d9 t (side (p::l) (dh t l p).id d 1) (dh t l p).id (d+1))
termination_by l _ _=>l.length
decreasing_by all_goals exact pG
def sI {t:Rt}:∀(l:List Pt) (b:Pt),Ids (b::l)->∀q∈b::l,q≠dh t l b->leads t (dh t l b) q=true
 |[],b,_,q,hq,hne=>by simp at hq hne;exact absurd hq hne
 |p::ps,b,hi,q,hq,hne=>by
  unfold dh at hne|-;have hpb:b.id≠p.id:=λe=>(bZ.1 hi).1 (by rw[e];simp);have hi1:=hi.tail;have hi2:Ids (b::ps):=by
   unfold Ids at hi|-;rw[bH,bH,bZ,bZ] at hi;rw[bH,bZ];exact⟨λe=>hi.1 (aO _ e),hi.2.2⟩
  cases e:leads t p b with
  |true=>
   simp only[e,az] at hne|-;have ih:=sI (t:=t) ps p hi1;by_cases hb:q=b
   .subst hb;by_cases hp:p=dh t ps p
    .rw[<-hp];exact e
    .exact jH (ih p (by simp) hp) e
   .refine ih q ?_ hne;rcases bf.1 hq with h|h
    .exact absurd h hb
    .exact h
  |false=>
   simp[e] at hne|-;have ih:=sI (t:=t) ps b hi2;by_cases hb:q=p
   .subst hb;have e':leads t b q=true:=by rw[BZ (λh=>hpb h.symm),e];rfl
    by_cases hp:b=dh t ps b
    .rw[<-hp];exact e'
    .exact jH (ih b (by simp) hp) e'
   .refine ih q ?_ hne;rcases bf.1 hq with h|h
    .exact h▸(by simp)
    .rcases bf.1 h with h|h
     .exact absurd h hb
     .exact aO _ h
def KF {t:Rt}:∀(n:Nat) (l s:List Pt) (from':Int) (d:Nat),l.length<=n->s.Perm l->s.Pairwise (λp q=>leads t p q=true)->Ids l->iA (s.map Pt.id) from' d=d9 t l from' d:=by
 intro n;induction n with
 |zero=>
  intro l s from' d h hs _ _;have hl:l=[]:=cJ.1 (by omega);subst hl;rw[hs.eq_nil];unfold d9;rw[sT];unfold iA;rfl
 |succ n ih=>
  intro l s from' d h hs ho hi;cases l with
  |nil=>
   grind
  |cons p l=>
   cases s with
   |nil=>have:=hs.length_eq;simp at this
   |cons o os=>
    rw[fV] at ho;have his:Ids (o::os):=hi.perm hs.symm;have ho':o=dh t l p:=by
     by_cases e:o=dh t l p
     .exact e
     .exfalso;have h1:=sI (t:=t) l p hi o (hs.mem_iff.1 (by simp)) e;have hm:dh t l p∈o::os:=hs.mem_iff.2 (by
       rcases topP_mem t l p with h|h
       .rw[h];simp
       .simp[h])
      rcases bf.1 hm with hm|hm
      .grind
      .have:=ho.1 _ hm;rw[fy h1] at this;cases this
    rw[bH];unfold iA d9;rw[<-ho'];have sd:∀b,(os.filter λq=>decide (fA q.id d=b)).Perm (side (p::l) o.id d b):=λb=>by
     have:=hs.filter (λp=>decide (p.id≠o.id)&& decide (fA p.id d=b));rw[cO,ac (by simp)] at this;refine List.Perm.trans (List.Perm.of_eq ?_) this;refine jM λq hq=>?_;have:q.id≠o.id:=λe=>(bZ.1 his).1 (by rw[<-e];exact bb.2 ⟨q,hq,rfl⟩);rw[aq this,fG]
    have go:∀b,iA (gZ (os.map Pt.id) d b) o.id (d+1)=d9 t (side (p::l) o.id d b) o.id (d+1):=λb=>by
     unfold gZ;rw[List.filter_map];refine ih _ _ _ _ ?_ (sd b) (ho.2.sublist kY) (hi.filter _);have:=pG (t:=t) (p:=p) (l:=l) (d:=d) (b:=b);rw[<-ho'] at this;simp only[aV] at h;omega
    rw[go 0,go 1]
end Bnd
namespace Bnd
open Go
def nodeV (wins places:List Int)(i:Nat):Int:=if i<wins.length then(wins[i]?).getD (-1) else(places[i-wins.length]?).getD (-1)
def lw (won:Int->Int->Int)(wins places:List Int):Prop:=∀i,i<wins.length->nodeV wins places i=won (nodeV wins places (2*i+1)) (nodeV wins places (2*i+2))
def sJ (won:Int->Int->Int)(places:List Int):Nat->List Int->List Int
 |0,w=>w
 |i+1,w=>sJ won places i (w.set i (won (nodeV w places (2*i+1)) (nodeV w places (2*i+2))))
def nX {w places:List Int}{i j:Nat}{x:Int}(h:i≠j):nodeV (w.set i x) places j=nodeV w places j:=by
 unfold nodeV
 grind
def KG {won:Int->Int->Int}{places:List Int}:∀(i:Nat) (w v:List Int),i<=w.length->v.length=w.length->lw won v places->(∀j,i<=j->v[j]?=w[j]?)->sJ won places i w=v
 |0,w,v,_,hl,_,h=>by
  unfold sJ;exact(cZ λj=>h j (by omega)).symm
 |i+1,w,v,hi,hl,hf,h=>by
  unfold sJ;refine KG i _ v (by simp;omega) (by simpa using hl) hf λj hj=>?_
  have nv:∀m,i<m->nodeV v places m=nodeV w places m:=λm hm=>by
   unfold nodeV;rw[hl,h m (by omega)]
  by_cases e:j=i
  .subst e;rw[bi (by omega),<-nv _ (by omega),<-nv _ (by omega),<-hf j (by omega)];unfold nodeV;rw[ad (by omega),ah (show j<v.length by omega)]
   rfl
  .rw[bx (by omega)];exact h j (by omega)
def D5 {won:Int->Int->Int}{places:List Int}:∀(i:Nat) (w:List Int),i<=w.length->(∀j,i<=j->j<w.length->nodeV w places j=won (nodeV w places (2*j+1)) (nodeV w places (2*j+2)))->lw won (sJ won places i w) places
 |0,w,_,h=>λj hj=>h j (by omega) hj
 |i+1,w,hi,h=>by
  unfold sJ;refine D5 i _ (by simp;omega) λj hj hl=>?_;rw[a8] at hl;by_cases e:j=i
  .subst e;rw[nX (show j≠2*j+1 by omega),nX (show j≠2*j+2 by omega)]
   have:∀x:Int,nodeV (w.set j x) places j=x:=λx=>by
    unfold nodeV;rw[a8,ad hl,bi hl];rfl
   rw[this]
  .rw[nX (show i≠j by omega),nX (show i≠2*j+1 by omega),nX (show i≠2*j+2 by omega)]
   exact h j (by omega) hl
def TO {won:Int->Int->Int}{places v:List Int}{w:List Int}(hl:v.length=w.length):sJ won places w.length w=v↔lw won v places:=by
 constructor
 .intro h;rw[<-h];exact D5 _ w (aB _) λj h1 h2=>by omega
 .intro h;exact KG _ w v (aB _) hl h λj hj=>by rw[bD (by omega),bD (by omega)]
structure Match (wins places:List Int):Prop where
 len:places.length=wins.length+1
 once:∀(i j:Nat) (x:Int),0<=x->places[i]?=some x->places[j]?=some x->i=j
 pick:∀i,i<wins.length->nodeV wins places i=nodeV wins places (2*i+1)\/nodeV wins places i=nodeV wins places (2*i+2)
def anc (q:Nat):Nat->Nat
 |0=>q
 |k+1=>(anc q k-1)/2
def wS {wins places:List Int}(M:Match wins places){z:Int}(hz:0<=z){q:Nat}(hq:places[q]?=some z):∀(d i:Nat),2*places.length-i=d->i<2*places.length->nodeV wins places i=z->∃k,i=anc (wins.length+q) k/\∀k',k'<k->nodeV wins places (anc (wins.length+q) k')=z/\ 0<anc (wins.length+q) k':=by
 intro d;induction d using Nat.strongRecOn with
 |ind d ih=>
  intro i hd hi hv;by_cases hlt:i<wins.length
  .have hl:=M.len;have step:∀c,(c=2*i+1\/c=2*i+2)->nodeV wins places c=z->∃k,i=anc (wins.length+q) k/\∀k',k'<k->nodeV wins places (anc (wins.length+q) k')=z/\ 0<anc (wins.length+q) k':=λc hc hvc=>by
    obtain⟨k,h1,h2⟩:=ih (2*places.length-c) (by omega) c rfl (by omega) hvc;refine⟨k+1,by unfold anc;rw[<-h1];omega,λk' hk'=>?_⟩
    grind
   rcases M.pick i hlt with h|h
   .grind
   .grind
  .refine⟨0,?_,λk' h=>by omega⟩;unfold nodeV at hv;rw[ac hlt] at hv;cases e:places[i-wins.length]? with
   |none=>rw[e] at hv;simp at hv;omega
   |some x=>
    rw[e] at hv;simp only[cA] at hv;subst hv;have:=M.once _ _ x hz e hq;simp only[anc];omega
def Af {q:Nat}:∀{k:Nat},(∀k',k'<k->0<anc q k')->∀{j:Nat},j<k->anc q k<anc q j
 |0,_,j,h=>by omega
 |k+1,hp,j,h=>by
  have h0:=hp k (by omega);have h1:anc q (k+1)<anc q k:=by show(anc q k-1)/2<anc q k;omega
  by_cases e:j=k
  .subst e;exact h1
  .have:=Af (q:=q) (k:=k) (λk' hk'=>hp k' (by omega)) (j:=j) (by omega);omega
def QY {wins places:List Int}(M:Match wins places){z:Int}(hz:0<=z){i j c e:Nat}(hi:i<wins.length)(hj:j<wins.length)(hc:c=2*i+1\/c=2*i+2)(he:e=2*j+1\/e=2*j+2)
  (vc:nodeV wins places c=z) (ve:nodeV wins places e=z) (vi:nodeV wins places i≠z) (vj:nodeV wins places j≠z):i=j:=by
 have hl:=M.len;have leaf:∀(d i:Nat),2*places.length-i=d->i<2*places.length->nodeV wins places i=z->∃q:Nat,places[q]?=some z:=by
  intro d;induction d using Nat.strongRecOn with
  |ind d ih=>
   intro i hd hi hv;by_cases hlt:i<wins.length
   .rcases M.pick i hlt with h|h
    .grind
    .exact ih _ (by omega) (2*i+2) rfl (by omega) (by rw[<-h];exact hv)
   .unfold nodeV at hv;rw[ac hlt] at hv;cases e:places[i-wins.length]? with
    |none=>rw[e] at hv;simp at hv;omega
    |some x=>rw[e] at hv;simp only[cA] at hv;exact⟨_,by rw[e,hv]⟩
 obtain⟨q,hq⟩:=leaf _ c rfl (by omega) vc;obtain⟨k,k1,k2⟩:=wS M hz hq _ c rfl (by omega) vc;obtain⟨m,m1,m2⟩:=wS M hz hq _ e rfl (by omega) ve;rcases ef k m with g|g|g
 .exfalso;have hp:anc (wins.length+q) (k+1)=i:=by show(anc (wins.length+q) k-1)/2=i;rw[<-k1];omega
  by_cases hkm:k+1=m
  .subst hkm;rw[hp] at m1;subst m1;exact vi ve
  .have:=(m2 (k+1) (by omega)).1;rw[hp] at this;exact vi this
 .subst g;rw[<-m1] at k1;omega
 .exfalso;have hp:anc (wins.length+q) (m+1)=j:=by show(anc (wins.length+q) m-1)/2=j;rw[<-m1];omega
  by_cases hkm:m+1=k
  .subst hkm;rw[hp] at k1;subst k1;exact vj vc
  .have:=(k2 (m+1) (by omega)).1;rw[hp] at this;exact vj this
def Jm {wins places:List Int}(M:Match wins places){z:Int}(hz:0<=z){i:Nat}(hi:i<wins.length)(h1:nodeV wins places (2*i+1)=z)(h2:nodeV wins places (2*i+2)=z):False:=by
 have hl:=M.len;have leaf:∀(d i:Nat),2*places.length-i=d->i<2*places.length->nodeV wins places i=z->∃q:Nat,places[q]?=some z:=by
  intro d;induction d using Nat.strongRecOn with
  |ind d ih=>
   intro i hd hi hv;by_cases hlt:i<wins.length
   .rcases M.pick i hlt with h|h
    .grind
    .grind
   .unfold nodeV at hv
    grind
 obtain⟨q,hq⟩:=leaf _ (2*i+1) rfl (by omega) h1;obtain⟨k,k1,k2⟩:=wS M hz hq _ _ rfl (by omega) h1;obtain⟨m,m1,m2⟩:=wS M hz hq _ _ rfl (by omega) h2;have hk:anc (wins.length+q) (k+1)=i:=by show(anc (wins.length+q) k-1)/2=i;rw[<-k1];omega
 have hm:anc (wins.length+q) (m+1)=i:=by show(anc (wins.length+q) m-1)/2=i;rw[<-m1];omega
 rcases ef k m with g|g|g
 .by_cases e:k+1=m
  .subst e;omega
  .have:=Af (q:=wins.length+q) (k:=m) (λk' h=>(m2 k' h).2) (j:=k+1) (by omega);omega
 .subst g;omega
 .by_cases e:m+1=k
  .subst e;omega
  .have:=Af (q:=wins.length+q) (k:=k) (λk' h=>(k2 k' h).2) (j:=m+1) (by omega);omega
end Bnd
namespace Bnd
open Go
def D6 {x y:Nat}:x*y=(x/4294967296)*(y/4294967296)*18446744073709551616+((x% 4294967296)*(y/4294967296)+(x/4294967296)*(y% 4294967296))*4294967296+(x% 4294967296)*(y% 4294967296):=by
 have e1:x=(x/4294967296)*4294967296+x% 4294967296:=by omega
 have e2:y=(y/4294967296)*4294967296+y% 4294967296:=by omega
 grind
def qm {a b:Nat}(h:a<4294967296)(k:b<4294967296):a*b<=18446744065119617025:=by
 have:=dS (show a<=4294967295 by omega) (show b<=4294967295 by omega)
 omega
def adi {x y:Nat}(hx:x<18446744073709551616)(hy:y<18446744073709551616):
  (x/4294967296)*(y/4294967296)+((x/4294967296)*(y% 4294967296)+(x% 4294967296)*(y% 4294967296)/4294967296)/4294967296+
   (((x/4294967296)*(y% 4294967296)+(x% 4294967296)*(y% 4294967296)/4294967296)% 4294967296+(x% 4294967296)*(y/4294967296))/4294967296=x*y/18446744073709551616:=by
 rw[D6 (x:=x) (y:=y)]
 grind
def JW {a:Nat}(h:a<18446744073709551616):(BitVec.ofInt 64 (a:Int)&&& BitVec.ofInt 64 4294967295).toNat=a% 4294967296:=by
 rw[BitVec.toNat_and,qq,qq];rw[show((a:Int)%((2^ 64:Nat):Int)).toNat=a by omega,show(4294967295%((2^ 64:Nat):Int)).toNat=2^ 32-1 by decide,Nat.and_two_pow_sub_one_eq_mod]
end Bnd
namespace Bnd
open Go
def oQ:List Bool->List Int->Option (List Bool)
 |l,[]=>some l
 |l,x::xs=>if 0<=x/\ x<l.length/\ l[x.toNat]?=some false then oQ (l.set x.toNat true) xs else none
def lY:∀{xs:List Int} {l l':List Bool},oQ l xs=some l'↔(∀x∈xs,0<=x/\ x<l.length/\ l[x.toNat]?=some false)/\ xs.Nodup/\ l'.length=l.length/\∀i:Nat,i<l.length->l'[i]?=if(i:Int)∈xs then some true else l[i]?
 |[],l,l'=>by
  simp[oQ];constructor
  .rintro rfl;exact⟨rfl,λ_ _=>rfl⟩
  .rintro⟨h1,h2⟩;refine cZ λi=>?_;by_cases hi:i<l.length
   .exact(h2 i hi).symm
   .rw[bD (by omega),bD (by omega)]
 |x::xs,l,l'=>by
  unfold oQ;by_cases hc:0<=x/\ x<l.length/\ l[x.toNat]?=some false
  .rw[ad hc,lY];obtain⟨c1,c2,c3⟩:=hc;rw[a8];constructor
   .rintro⟨h1,h2,h3,h4⟩;have hx:x∉xs:=λhm=>by
     have:=(h1 x hm).2.2;rw[bi (by omega)] at this;cases this
    refine⟨λy hy=>?_,bZ.2 ⟨hx,h2⟩,h3,λi hi=>?_⟩
    .rcases bf.1 hy with rfl|hy
     .exact⟨c1,c2,c3⟩
     .obtain⟨g1,g2,g3⟩:=h1 y hy;have:x≠y:=λe=>hx (e▸hy);rw[bx (by omega)] at g3;exact⟨g1,g2,g3⟩
    .rw[h4 i hi];by_cases e:x=i
     .subst e;rw[ac hx,ad (by simp)];rw[aF,bi (by omega)]
     .have:(i:Int)∈x::xs↔(i:Int)∈xs:=by
       rw[bf];exact⟨λh=>h.resolve_left (λe'=>e e'.symm),.inr⟩
      rw[bx (by omega)];by_cases hm:(i:Int)∈xs
      .rw[ad hm,ad (this.2 hm)]
      .rw[ac hm,ac (λh=>hm (this.1 h))]
   .rintro⟨h1,h2,h3,h4⟩;rw[bZ] at h2;refine⟨λy hy=>?_,h2.2,h3,λi hi=>?_⟩
    .obtain⟨g1,g2,g3⟩:=h1 y (by simp[hy]);have:x≠y:=λe=>h2.1 (e▸hy);rw[bx (by omega)];exact⟨g1,g2,g3⟩
    .rw[h4 i hi];by_cases e:x=i
     .subst e;rw[ac h2.1,ad (by simp),aF,bi (by omega)]
     .have:(i:Int)∈x::xs↔(i:Int)∈xs:=by
       rw[bf];exact⟨λh=>h.resolve_left (λe'=>e e'.symm),.inr⟩
      rw[bx (by omega)];by_cases hm:(i:Int)∈xs
      .rw[ad hm,ad (this.2 hm)]
      .rw[ac hm,ac (λh=>hm (this.1 h))]
  .rw[ac hc];constructor
   .intro h;cases h
   .rintro⟨h1,_⟩;exact absurd (h1 x (by simp)) hc
structure Slots where
 uses:List Int
 used:List Bool
 free:List Int
 deriving DecidableEq
def Slots.okP (s:Slots):Prop:=1<=s.uses.length/\ s.uses.length<=200/\ s.used.length=s.uses.length/\(∃l,oQ s.used s.free=some l/\ false∉l)/\∀(i:Nat) (u:Int),s.uses[i]?=some u->0<=u/\ u<=1000000/\¬(u=0/\ s.used[i]?=some true)
def Slots.okR (s:Slots):Prop:=1<=s.uses.length/\ s.uses.length<=200/\ s.used.length=s.uses.length/\ s.free.length<=s.uses.length/\∃l,oQ (List.replicate s.uses.length false) s.free=some l/\∀(i:Nat) (u:Int) (b c:Bool),s.uses[i]?=some u->s.used[i]?=some b->l[i]?=some c->0<=u/\ u<=1000000/\ b≠c/\¬(b=true/\ u<1)
def iG {xs:List Int}{n:Nat}(h:xs.Nodup)(hb:∀x∈xs,0<=x/\ x<n):xs.length<=n:=by
 have:=rE (l:=xs) (k:=(List.range n).map λi:Nat=>(i:Int)) h λx hx=>by
  obtain⟨h1,h2⟩:=hb x hx;exact bb.2 ⟨x.toNat,cR.2 (by omega),by omega⟩
 grind
def Slots.ok_iff (s:Slots):s.okP↔s.okR:=by
 unfold Slots.okP Slots.okR;constructor
 .rintro⟨h1,h2,h3,⟨l,h4,h5⟩,h6⟩;obtain⟨m1,m2,m3,m4⟩:=lY.1 h4;have hr:oQ (List.replicate s.uses.length false) s.free=some ((List.range s.uses.length).map λi:Nat=>decide ((i:Int)∈s.free)):=by
   rw[lY]
   grind
  refine⟨h1,h2,h3,iG m2 λx hx=>⟨(m1 x hx).1,by have:=(m1 x hx).2.1;omega⟩,_,hr,λi u b c hu hb hc=>?_⟩;have hi:=(aC.1 hu).1;obtain⟨g1,g2,g3⟩:=h6 i u hu;rw[ba,iW hi] at hc;simp only[cj,bX] at hc;have hl:=m4 i (by omega);refine⟨g1,g2,?_,?_⟩
  .by_cases e:(i:Int)∈s.free
   .have:=(m1 _ e).2.2;rw[aF,hb] at this;cases this;rw[<-hc];simp[e]
   .rw[ac e,hb] at hl;rw[<-hc];cases b with
    |true=>simp[e]
    |false=>exact absurd (au hl) h5
  .rintro⟨rfl,h⟩;exact g3 ⟨by omega,hb⟩
 .rintro⟨h1,h2,h3,h4,l,h5,h6⟩;obtain⟨m1,m2,m3,m4⟩:=lY.1 h5;rw[aR] at m3 m4;have facts:∀i:Nat,i<s.uses.length->∃u b,s.uses[i]?=some u/\ s.used[i]?=some b/\ l[i]?=some (decide ((i:Int)∈s.free))/\ 0<=u/\ u<=1000000/\ b=!decide ((i:Int)∈s.free)/\¬(b=true/\ u<1):=λi hi=>by
   have hl:=m4 i hi;rw[eJ,ad hi] at hl;have hl':l[i]?=some (decide ((i:Int)∈s.free)):=by
    rw[hl];by_cases e:(i:Int)∈s.free<;>simp[e]
   obtain⟨g1,g2,g3,g4⟩:=h6 i _ _ _ (ah hi) (ah (by omega)) hl';refine⟨_,_,ah hi,ah (by omega),hl',g1,g2,?_,g4⟩
   revert g3
   cases s.used[i]<;>cases decide ((i:Int)∈s.free)<;>simp
  refine⟨h1,h2,h3,⟨List.replicate s.used.length true,?_,by simp[fi]⟩,λi u hu=>?_⟩
  .rw[lY];refine⟨λx hx=>?_,m2,by simp,λi hi=>?_⟩
   .obtain⟨g1,g2,_⟩:=m1 x hx;rw[aR] at g2;obtain⟨u,b,q1,q2,_,_,_,q3,_⟩:=facts x.toNat (by omega);refine⟨g1,by omega,?_⟩;rw[q2,q3,show((x.toNat:Nat):Int)=x by omega]
    simp[hx]
   .obtain⟨u,b,q1,q2,_,_,_,q3,_⟩:=facts i (by omega);rw[eJ,ad hi,q2,q3];by_cases e:(i:Int)∈s.free<;>simp[e]
  .have hi:=(aC.1 hu).1;obtain⟨u',b,q1,q2,_,q4,q5,q3,q6⟩:=facts i hi;rw[hu] at q1;cases q1;refine⟨q4,q5,?_⟩;rintro⟨rfl,hb⟩;rw[q2] at hb;cases hb;exact q6 ⟨rfl,by omega⟩
end Bnd
namespace Bnd
open Go
def luk (ps:List (Int×Int))(k:Int)(v:Int):Int:=ps.foldl (λv x=>if x.1=k then x.2 else v) v
def p8 {t:Rt}:∀(n:Nat) (l:List Pt) (from':Int) (d:Nat),l.length<=n->Ids l->∀x∈d9 t l from' d,∃p∈l,p.id=x.1/\(x.2=from'\/∃q∈l,q.id=x.2/\ leads t q p=true):=by
 intro n;induction n with
 |zero=>
  intro l from' d h _ x hx;have hl:l=[]:=cJ.1 (by omega);subst hl;unfold d9 at hx;cases hx
 |succ n ih=>
  intro l from' d h hi x hx;cases l with
  |nil=>unfold d9 at hx;cases hx
  |cons p l=>
   unfold d9 at hx;have htm:dh t l p∈p::l:=by
    rcases topP_mem t l p with h|h
    .rw[h];simp
    .simp[h]
   rcases bf.1 hx with rfl|hx
   .grind
   .have go:∀b,x∈d9 t (side (p::l) (dh t l p).id d b) (dh t l p).id (d+1)->∃p'∈p::l,p'.id=x.1/\(x.2=from'\/∃q∈p::l,q.id=x.2/\ leads t q p'=true):=λb hb=>by
     have hlen:=pG (t:=t) (p:=p) (l:=l) (d:=d) (b:=b);obtain⟨p',hp',e,hh⟩:=ih (side (p::l) (dh t l p).id d b) _ _ (by simp only[aV] at h;omega) (hi.filter _) x hb;obtain⟨hm,hc⟩:=bk.1 hp';refine⟨p',hm,e,.inr ?_⟩;rcases hh with hh|⟨q,hq,e',hl⟩
     .refine⟨_,htm,hh.symm,sI l p hi p' hm λe=>?_⟩
      grind
     .exact⟨q,(bk.1 hq).1,e',hl⟩
    rcases bR.1 hx with hx|hx
    .exact go 0 hx
    .exact go 1 hx
def luk_mem {ps:List (Int×Int)}{k v:Int}:luk ps k v=v\/(k,luk ps k v)∈ps:=by
 induction ps generalizing v with
 |nil=>exact .inl rfl
 |cons x ps ih=>
  unfold luk at ih|-;rcases ih (v:=if x.1=k then x.2 else v) with h|h
  .by_cases e:x.1=k
   .grind
   .grind
  .grind
def Nl {t:Rt}:∀(n:Nat) (l:List Pt) (from':Int) (d:Nat),l.length<=n->Ids l->(∀p∈l,0<=p.id)->∀p∈l,∃f,(p.id,f)∈d9 t l from' d:=by
 intro n;induction n with
 |zero=>
  grind
 |succ n ih=>
  intro l from' d h hi h0 q hq;cases l with
  |nil=>cases hq
  |cons p l=>
   unfold d9;by_cases e:q.id=(dh t l p).id
   .grind
   .have hb:fA q.id d=0\/fA q.id d=1:=by unfold fA;omega
    have go:∀b,fA q.id d=b->∃f,(q.id,f)∈d9 t (side (p::l) (dh t l p).id d b) (dh t l p).id (d+1):=λb hb=>by
     have hlen:=pG (t:=t) (p:=p) (l:=l) (d:=d) (b:=b);exact ih (side (p::l) (dh t l p).id d b) _ _ (by simp at h;omega) (hi.filter _) (λp hp=>h0 p (bk.1 hp).1) q (bk.2 ⟨hq,by simp[e,hb]⟩)
    grind
end Bnd
namespace Bnd
open Go
def C9:∀{ps:List (Int×Int)} {k v:Int},(∃f,(k,f)∈ps)->(k,luk ps k v)∈ps
 |[],k,v,⟨f,h⟩=>by cases h
 |x::ps,k,v,⟨f,h⟩=>by
  unfold luk;rw[da];rcases luk_mem (ps:=ps) (k:=k) (v:=if x.1=k then x.2 else v) with e|e
  .unfold luk at e;rw[e];by_cases hx:x.1=k
   .rw[ad hx];subst hx;simp
   .rw[ac hx] at e|-;rcases bf.1 h with h|h
    .rw[<-h] at hx;exact absurd rfl hx
    .have:=C9 (v:=v) ⟨f,h⟩;unfold luk at this;rw[e] at this;exact aO _ this
  .exact aO _ e
end Bnd
namespace Bnd
open Go
def upArr:List (Int×Int)->Nat->List Int->List Int
 |[],_,up=>up
 |x::l,j,up=>upArr l (j+1) ((if 0<=x.2 then(if 0<=x.1 then up.set x.1.toNat j else up).set x.2.toNat j else(if 0<=x.1 then up.set x.1.toNat j else up)))
def D7:∀(l:List (Int×Int)) (j:Nat) (up:List Int),(upArr l j up).length=up.length
 |[],j,up=>rfl
 |x::l,j,up=>by
  unfold upArr;rw[D7 l]
  repeat' split
  all_goals simp
def nF (x:Int×Int)(i:Nat):Prop:=x.1=(i:Int)\/x.2=(i:Int)
instance (x:Int×Int) (i:Nat):Decidable (nF x i):=by unfold nF;infer_instance
def D8:∀(l:List (Int×Int)) (j:Nat) (up:List Int) (i:Nat),i<up.length->
  (∀(k:Nat) (x:Int×Int),l[k]?=some x->nF x i->∀(k':Nat) (x':Int×Int),l[k']?=some x'->nF x' i->k=k')->
  (upArr l j up)[i]?=match l.findIdx? (λx=>decide (nF x i)) with|some k=>some ((j+k:Nat):Int)|none=>up[i]?
 |[],j,up,i,_,_=>rfl
 |x::l,j,up,i,hi,hu=>by
  unfold upArr;have hl:∀up':List Int,up'.length=up.length->(∀(k:Nat) (x':Int×Int),l[k]?=some x'->nF x' i->∀(k':Nat) (x'':Int×Int),l[k']?=some x''->nF x'' i->k=k')->(upArr l (j+1) up')[i]?=match l.findIdx? (λx=>decide (nF x i)) with|some k=>some ((j+1+k:Nat):Int)|none=>up'[i]?:=
   λup' h1 h2=>D8 l (j+1) up' i (by omega) h2
  have hu':∀(k:Nat) (x':Int×Int),l[k]?=some x'->nF x' i->∀(k':Nat) (x'':Int×Int),l[k']?=some x''->nF x'' i->k=k':=λk x' h1 h2 k' x'' h3 h4=>by
   have:=hu (k+1) x' (by simpa using h1) h2 (k'+1) x'' (by simpa using h3) h4
   omega
  rw[hl _ (by repeat' split
              all_goals simp) hu',qx]
  by_cases hc:nF x i
  .rw[aq hc];simp;have hn:l.findIdx? (λx=>decide (nF x i))=none:=by
    rw[iB];intro y hy;obtain⟨k,hk⟩:=aI.1 hy;refine ak λh=>?_;have:=hu 0 x rfl hc (k+1) y (by simpa using hk) h
    omega
   rw[hn];simp only;rcases hc with h|h
   .rw[h];by_cases c:0<=x.2
    .rw[ad c,ad (by omega)];by_cases e:x.2.toNat=i
     .rw[e,bi (by simpa using hi)]
     .rw[bx e,aF,bi hi]
    .rw[ac c,ad (by omega),aF,bi hi]
   .rw[h,ad (by omega),aF,bi];split
    .simpa using hi
    .exact hi
  .rw[ak hc];simp only[aw,ax];have hset:(if 0<=x.2 then(if 0<=x.1 then up.set x.1.toNat j else up).set x.2.toNat j else(if 0<=x.1 then up.set x.1.toNat j else up))[i]?=up[i]?:=by
    have a1:0<=x.1->x.1.toNat≠i:=λh e=>hc (.inl (by omega));have a2:0<=x.2->x.2.toNat≠i:=λh e=>hc (.inr (by omega));by_cases c1:0<=x.1<;>by_cases c2:0<=x.2
    .rw[ad c2,ad c1,bx (a2 c2),bx (a1 c1)]
    .rw[ac c2,ad c1,bx (a1 c1)]
    .rw[ad c2,ac c1,bx (a2 c2)]
    .rw[ac c2,ac c1]
   rw[hset];cases l.findIdx? (λx=>decide (nF x i)) with
   |none=>rfl
   |some k=>simp only[cj];rw[show j+1+k=j+(k+1) by omega]
def zA {α:Type}{p:α->Bool}:∀{l:List α},(∀(k k':Nat) (x x':α),l[k]?=some x->p x=true->l[k']?=some x'->p x'=true->k=k')->(l.filter p)=match l.findIdx? p with|some k=>(l[k]?).toList|none=>[]
 |[],_=>rfl
 |a::l,h=>by
  have h':∀(k k':Nat) (x x':α),l[k]?=some x->p x=true->l[k']?=some x'->p x'=true->k=k':=λk k' x x' h1 h2 h3 h4=>by
   have:=h (k+1) (k'+1) x x' (by simpa using h1) h2 (by simpa using h3) h4
   omega
  rw[cO,qx];cases e:p a with
  |true=>
   simp only[];have:l.filter p=[]:=by
    rw[mZ];intro x hx hp;obtain⟨k,hk⟩:=aI.1 hx;have:=h 0 (k+1) a x rfl e (by simpa using hk) hp
    omega
   rw[this];rfl
  |false=>
   simp;rw[zA h'];cases l.findIdx? p with
   |none=>rfl
   |some k=>simp
end Bnd
namespace Bnd
open Go
def g9 (l:List Int):Prop:=∀(i:Nat),i<l.length->∀x,l[i]?=some x->0<=x->∀j,j<i->l[j]?≠some x
def yr {l:List Int}:g9 l↔∀(i j:Nat) (x:Int),0<=x->l[i]?=some x->l[j]?=some x->i=j:=by
 constructor
 .intro h i j x hx hi hj;have hi':=(aC.1 hi).1;have hj':=(aC.1 hj).1;rcases ef i j with g|g|g
  .exact absurd hi (h j hj' x hj hx i g)
  .exact g
  .exact absurd hj (h i hi' x hi hx j g)
 .intro h i _ x hi hx j hj e
  grind
def zh {wins places:List Int}{i:Nat}{x:Int}(h:wins[i]?=some x):nodeV wins places i=x:=by
 unfold nodeV
 grind
def Da {wins places:List Int}{i:Nat}{x:Int}(hi:¬i<wins.length)(h:places[i-wins.length]?=some x):nodeV wins places i=x:=by
 unfold nodeV
 grind
def oR (wins places:List Int)(i:Nat):Prop:=nodeV wins places i=nodeV wins places (2*i+1)\/nodeV wins places i=nodeV wins places (2*i+2)
def rK (wins places:List Int):Prop:=(1<=places.length/\ places.length<=64/\ places.length=wins.length+1)/\ g9 places/\∀x∈places,-1<=x/\ x<=65535
def kU (wins places:List Int):Prop:=rK wins places/\∀i,i<wins.length->oR wins places i/\¬(nodeV wins places i<0/\ 0<=max (nodeV wins places (2*i+1)) (nodeV wins places (2*i+2)))
def Ag (wins places:List Int):Prop:=rK wins places/\∀i,i<wins.length->oR wins places i/\¬(nodeV wins places i= -1/\(nodeV wins places (2*i+1)≠ -1\/nodeV wins places (2*i+2)≠ -1))
def Jn {wins places:List Int}(hb:rK wins places)(hp:∀i,i<wins.length->oR wins places i):∀(d i:Nat),2*places.length-i=d-> -1<=nodeV wins places i:=by
 intro d;induction d using Nat.strongRecOn with
 |ind d ih=>
  intro i hd;by_cases hlt:i<wins.length
  .have:=hb.1.2.2;rcases hp i hlt with h|h
   .grind
   .grind
  .unfold nodeV;rw[ac hlt];cases e:places[i-wins.length]? with
   |none=>simp
   |some x=>exact(hb.2.2 x (au e)).1
def TP {wins places:List Int}:kU wins places↔Ag wins places:=by
 constructor
 .rintro⟨hb,h⟩;refine⟨hb,λi hi=>⟨(h i hi).1,λhn=>(h i hi).2 ?_⟩⟩;have g:=λi=>Jn hb (λi hi=>(h i hi).1) _ i rfl;have:=g (2*i+1);have:=g (2*i+2);omega
 .rintro⟨hb,h⟩;refine⟨hb,λi hi=>⟨(h i hi).1,λhn=>(h i hi).2 ?_⟩⟩;have g:=λi=>Jn hb (λi hi=>(h i hi).1) _ i rfl;have:=g i;have:=g (2*i+1);have:=g (2*i+2);omega
def yu {wins places:List Int}(h:kU wins places):Match wins places:=⟨h.1.1.2.2,yr.1 h.1.2.1,λi hi=>(h.2 i hi).1⟩
end Bnd
namespace Bnd
open Go
def playD (won:Int->Int->Int)(places:List Int)(m:Nat):Nat->List Int
 |0=>List.replicate m 0
 |k+1=>(playD won places m k).set (m-1-k) (won (nodeV (playD won places m k) places (2*(m-1-k)+1)) (nodeV (playD won places m k) places (2*(m-1-k)+2)))
def ju {won:Int->Int->Int}{places:List Int}{m:Nat}:∀k,(playD won places m k).length=m
 |0=>by simp[playD]
 |k+1=>by simp[playD,ju k]
def B6 {won:Int->Int->Int}{places:List Int}{m:Nat}:∀k,k<=m->sJ won places (m-k) (playD won places m k)=sJ won places m (List.replicate m 0)
 |0,_=>rfl
 |k+1,h=>by
  rw[<-B6 k (by omega)];have e:m-k=(m-(k+1))+1:=by omega
  have e2:m-1-k=m-(k+1):=by omega
  conv=>rhs;rw[e];unfold sJ
  conv=>lhs;unfold playD;rw[e2]
def tM {won:Int->Int->Int}{places v:List Int}{m:Nat}(h:v.length=m):playD won places m m=v↔lw won v places:=by
 have:=B6 (won:=won) (places:=places) m (aB m);rw[iS] at this;rw[show playD won places m m=sJ won places 0 (playD won places m m) from rfl,this,<-TO (w:=List.replicate m 0) (by simpa using h)]
 simp
def KI {P:Int->Prop}(h0:P (-1)){wins places:List Int}(hp:∀x∈places,P x){i:Nat}(h:¬i<wins.length):P (nodeV wins places i):=by
 unfold nodeV
 grind
def Db {P:Int->Prop}(h0:P (-1)){won:Int->Int->Int}(hw:∀a b,P a->P b->P (won a b)){places:List Int}(hp:∀x∈places,P x){m:Nat}:∀k,k<=m->∀j,m-k<=j->P (nodeV (playD won places m k) places j)
 |0,_,j,hj=>KI h0 hp (wins:=playD won places m 0) (by rw[ju];omega)
 |k+1,hk,j,hj=>by
  have ih:=Db h0 hw hp (m:=m) k (by omega);unfold playD;by_cases e:m-1-k=j
  .subst e;have:nodeV ((playD won places m k).set (m-1-k) (won (nodeV (playD won places m k) places (2*(m-1-k)+1)) (nodeV (playD won places m k) places (2*(m-1-k)+2)))) places (m-1-k)=won (nodeV (playD won places m k) places (2*(m-1-k)+1)) (nodeV (playD won places m k) places (2*(m-1-k)+2)):=by
    unfold nodeV;rw[a8,ju,ad (by omega),bi (by rw[ju];omega)];rfl
   rw[this];exact hw _ _ (ih _ (by omega)) (ih _ (by omega))
  .rw[nX e];exact ih j (by omega)
def WO {P:Int->Prop}(h0:P (-1)){wins places:List Int}(hl:places.length=wins.length+1)(hp:∀x∈places,P x)(hk:∀i,i<wins.length->oR wins places i):∀(d i:Nat),2*places.length-i=d->P (nodeV wins places i):=by
 intro d;induction d using Nat.strongRecOn with
 |ind d ih=>
  intro i hd;by_cases hlt:i<wins.length
  .rcases hk i hlt with h|h
   .grind
   .grind
  .exact KI h0 hp hlt
end Bnd
