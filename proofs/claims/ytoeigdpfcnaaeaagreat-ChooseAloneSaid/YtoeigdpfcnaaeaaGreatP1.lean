import Derived.Test.YtoeigdpfcnaaeaaGreatA1
set_option linter.unusedVariables false
set_option linter.unusedSimpArgs false
set_option linter.defProp false
noncomputable section
namespace Bnd
open Go
def jA {α:Type}[DecidableEq α]:∀{l k:List α},l.Nodup->(∀x∈l,x∈k)->k.length<=l.length->l.Perm k|[],k,_,_,h=>by have:=cS.1 (by simpa using h);rw[this]|a::l,k,hn,hs,h=>by have ha:=hs a (by simp);have hp:=yj ha;rw[bW] at hn;refine(List.Perm.cons a (jA hn.2 (λx hx=>?_) ?_)).trans hp.symm;have hne:x≠a:=λe=>hn.1 (e▸hx);exact(lA hne).2 (hs x (by simp[hx]));have:=hp.length_eq;simp at this h;omega
def qe {α:Type}[DecidableEq α]:∀{l k:List α},l.Nodup->(∀x∈l,x∈k)->l.length<=k.length|[],_,_,_=>by simp|a::l,k,hn,hs=>by have ha:=hs a (by simp);have hp:=yj ha;rw[bW] at hn;have:=qe (l:=l) (k:=k.erase a) hn.2 (λx hx=>by have hne:x≠a:=λe=>hn.1 (e▸hx);exact(lA hne).2 (hs x (by simp[hx])));have:=hp.length_eq;simp at this|-;omega
def WL {α:Type}[DecidableEq α]{l k:List α}(hl:l.Nodup)(hk:k.Nodup)(h:l.length=k.length)(P:α->Prop):(∀x∈l,x∈k/\ P x)↔∀x∈k,x∈l/\ P x:=by constructor;intro a x hx;have hp:=jA hl (λx hx=>(a x hx).1) ω;grind;intro a x hx;have hp:=jA hk (λx hx=>(a x hx).1) ω;grind
def cz {α:Type}{l:List α}:l.Nodup↔∀(i j:Nat) (x:α),l[i]?=some x->l[j]?=some x->i=j:=by constructor;intro h i j x hi hj;have hi':=(aD.1 hi).1;exact(List.getElem?_inj hi' h).1 (hi.trans hj.symm);intro h;induction l with|nil=>exact qF|cons a l ih=>rw[bW];constructor;intro ha;have⟨j,hj⟩:=aG.1 ha;have:=h 0 (j+1) a rfl (by simpa using hj);omega;refine ih λi j x hi hj=>?_;have:=h (i+1) (j+1) x (by simpa using hi) (by simpa using hj);omega
def qq {α:Type}{l:List α}:l.Nodup↔∀(i j:Nat) (x:α),j<i->l[i]?=some x->l[j]?≠some x:=by rw[cz];grind
end Bnd
namespace Bnd
open Go
structure Rt where
 num:Int
 den:Int
 deriving DecidableEq
structure Pt where
 id:Int
 a:Int
 b:Int
 deriving DecidableEq
def LC (n:Int):Bool:=decide (-1048576<=n)&& decide (n<=1048576)
def Pt.ok (p:Pt):Bool:=decide (0<=p.id)&& decide (p.id<=65535)&& LC p.a&& LC p.b
def far (t:Rt)(p q:Pt):Int:=(p.a-q.a)*t.den+(p.b-q.b)*t.num
def leads (t:Rt)(p q:Pt):Bool:=if far t p q≠0 then decide (0<far t p q) else if p.b≠q.b then decide (q.b<p.b) else decide (p.id<q.id)
def As (t:Rt)(p q r:Pt):far t p q+far t q r=far t p r:=by unfold far;grind
def sD (t:Rt)(p q:Pt):far t q p= -far t p q:=by have h1:=As t p q p;(have h2:far t p p=0:=by unfold far;simp);omega
def leads_iff {t:Rt}{p q:Pt}:leads t p q=true↔0<far t p q\/far t p q=0/\(q.b<p.b\/p.b=q.b/\ p.id<q.id):=by unfold leads;grind
def uH (t:Rt)(p:Pt):leads t p p=false:=by rw[<-ov,leads_iff];have:=sD t p p;omega
def ea {t:Rt}{p q r:Pt}(h:leads t p q=true)(k:leads t q r=true):leads t p r=true:=by rw[leads_iff] at h k|-;have:=As t p q r;omega
def fB {t:Rt}{p q:Pt}(h:leads t p q=true):leads t q p=false:=by rw[<-ov,leads_iff];rw[leads_iff] at h;have:=sD t p q;omega
def leads_total {t:Rt}{p q:Pt}(h:p.id≠q.id):leads t p q=true\/leads t q p=true:=by rw[leads_iff,leads_iff];have:=sD t p q;omega
def D8 {t:Rt}{p q:Pt}(h:p.id≠q.id):leads t q p=!leads t p q:=by cases e:leads t p q with|true=>exact fB e|false=>rcases leads_total (t:=t) h with h|h;grind;exact h
end Bnd
namespace Bnd
open Go
section
variable (ld:Nat->Nat->Bool)
structure Lin (n:Nat):Prop where
 asymm:∀i j,ld i j=true->ld j i=false
 trans:∀i j k,ld i j=true->ld j k=true->ld i k=true
 total:∀i j,i<n->j<n->i≠j->ld i j=true\/ld j i=true
def qO (a b k:Nat):Prop:=a<=k/\ k<b/\∀j,a<=j->j<b->j≠k->ld k j=true
def j0 (a b:Nat)(x:Int):Prop:=(b<=a/\ x= -1)\/∃k:Nat,x=k/\ qO ld a b k
def vz (k a:Nat):Prop:=a<=k/\(∀j,a<=j->j<k->ld j k=false)/\(a=0\/ld (a-1) k=true)
def vA (b k h:Nat):Prop:=k<h/\ h<=b/\(∀j,k<j->j<h->ld j k=false)/\(h=b\/ld h k=true)
def pG (b k:Nat)(x:Int×Int):Prop:=∃a h,vz ld k a/\ vA ld b k h/\ j0 ld a k x.1/\ j0 ld (k+1) h x.2
def kK (n:Nat)(root:Int)(l:List (Int×Int)):Prop:=j0 ld 0 n root/\ l.length=n/\∀k x,l[k]?=some x->pG ld n k x
variable {ld}
def WM {n a b k k':Nat}(L:Lin ld n)(h:qO ld a b k)(h':qO ld a b k'):k=k':=by by_cases e:k=k';exact e;have h1:=h.2.2 k' h'.1 h'.2.1 ω;have h2:=h'.2.2 k h.1 h.2.1 e;rw[L.asymm _ _ h1] at h2;cases h2
def oP {n a b:Nat}{x y:Int}(L:Lin ld n)(h:j0 ld a b x)(k:j0 ld a b y):x=y:=by rcases h with⟨h1,rfl⟩|⟨i,rfl,h⟩<;>rcases k with⟨k1,rfl⟩|⟨j,rfl,k⟩;rfl;have:=k.1;have:=k.2.1;omega;have:=h.1;have:=h.2.1;omega;rw[WM L h k]
def sE {k a a':Nat}(h:vz ld k a)(h':vz ld k a'):a=a':=by rcases gc a a' with g|g|g;exfalso;have:=h.2.1 (a'-1) ω (by have:=h'.1;omega);rcases h'.2.2 with e|e;omega;grind;exact g;exfalso;have:=h'.2.1 (a-1) ω (by have:=h.1;omega);rcases h.2.2 with e|e;omega;grind
def sF {b k h h':Nat}(g:vA ld b k h)(g':vA ld b k h'):h=h':=by have⟨a1,a2,a3,a4⟩:=g;have⟨b1,b2,b3,b4⟩:=g';grind
def T7 {n b k:Nat}{x y:Int×Int}(L:Lin ld n)(h:pG ld b k x)(h':pG ld b k y):x=y:=by have⟨a,c,h1,h2,h3,h4⟩:=h;have⟨a',c',k1,k2,k3,k4⟩:=h';rw[sE k1 h1] at k3;rw[sF k2 h2] at k4;exact Prod.ext (oP L h3 k3) (oP L h4 k4)
def F8 {n:Nat}{r r':Int}{l l':List (Int×Int)}(L:Lin ld n)(h:kK ld n r l)(h':kK ld n r' l'):r=r'/\ l=l':=by refine⟨oP L h.1 h'.1,cI λk=>?_⟩;cases e:l[k]? with|none=>rw[gC] at e;rw[bC (by have:=h.2.1;have:=h'.2.1;omega)]|some x=>have hk:=(aD.1 e).1;(have hk':k<l'.length:=by have:=h.2.1;have:=h'.2.1;omega);rw[ah hk'];have:=T7 L (h.2.2 k x e) (h'.2.2 k _ (ah hk'));rw[this]
def qr (ld:Nat->Nat->Bool):Nat->Nat->Option Nat->Option Nat|0,_,best=>best|m+1,i,best=>qr ld m (i+1) (match best with|none=>some i|some b=>if ld i b then some i else some b)
def lk:Option Nat->Int|none=> -1|some k=>k
def D9 {n:Nat}(L:Lin ld n){a:Nat}:∀(m i:Nat) (best:Option Nat),i+m<=n->a<=i->j0 ld a i (lk best)->j0 ld a (i+m) (lk (qr ld m i best))|0,i,best,_,_,h=>h|m+1,i,best,hm,ha,h=>by unfold qr;rw[show i+(m+1)=(i+1)+m from ω];refine D9 L m (i+1) _ ω ω ?_;rcases h with⟨h1,h2⟩|⟨k,h1,h2⟩;(cases best with|some b=>simp[lk] at h2|none=>exact .inr ⟨i,rfl,ω,ω,λj h3 h4 h5=>ω⟩);cases best with|none=>simp[lk] at h1|some b=>(have hb:b=k:=by simp[lk] at h1;omega);subst hb;have⟨h3,h4,h5⟩:=h2;cases e:ld i b with|true=>simp[e];refine .inr ⟨i,rfl,ω,ω,λj j1 j2 j3=>?_⟩;by_cases hj:j=b;rw[hj];exact e;exact L.trans _ _ _ e (h5 j j1 ω hj)|false=>simp[e];refine .inr ⟨b,rfl,ω,ω,λj j1 j2 j3=>?_⟩;by_cases hj:j=i;subst hj;rcases L.total b j ω ω ω with g|g;exact g;rw[e] at g;cases g;exact h5 j j1 ω j3
def xW (ld:Nat->Nat->Bool)(a b:Nat):Option Nat:=qr ld (b-a) a none
def LD {n:Nat}(L:Lin ld n){a b:Nat}(hb:b<=n)(h:a<=b):j0 ld a b (lk (xW ld a b)):=by have:=D9 L (a:=a) (b-a) a none ω (aC _) (.inl ⟨aC _,rfl⟩);rwa [show a+(b-a)=b from ω] at this
def grow (ld:Nat->Nat->Bool):Nat->Nat->Nat->List (Int×Int)->List (Int×Int)×Int|0,_,_,l=>(l,-1)|f+1,a,b,l=>match xW ld a b with|none=>(l,-1)|some i=>let r:=grow ld f a i l;let l1:=r.1.modify i λx=>(r.2,x.2);let s:=grow ld f (i+1) b l1;(s.1.modify i λx=>(x.1,s.2),i)
def PT (ld:Nat->Nat->Bool)(n a b:Nat):Prop:=a<=b/\ b<=n/\(a=0\/∀j,a<=j->j<b->ld (a-1) j=true)/\(b=n\/∀j,a<=j->j<b->ld b j=true)
def sA {n:Nat}(L:Lin ld n):∀(f a b:Nat) (l:List (Int×Int)),b-a<f->l.length=n->PT ld n a b->j0 ld a b (grow ld f a b l).2/\(grow ld f a b l).1.length=n/\(∀k,k<a\/b<=k->(grow ld f a b l).1[k]?=l[k]?)/\∀k x,a<=k->k<b->(grow ld f a b l).1[k]?=some x->pG ld n k x|0,a,b,l,h,_,_=>ω|f+1,a,b,l,h,hl,E=>by have⟨e1,e2,e3,e4⟩:=E;have ht:=LD L e2 e1;unfold grow;cases e:xW ld a b with|none=>rw[e] at ht;rcases ht with⟨t1,_⟩|⟨k,t1,_⟩;exact⟨.inl ⟨t1,rfl⟩,hl,λk _=>rfl,λk x h1 h2=>ω⟩;simp[lk] at t1|some i=>rw[e] at ht;rcases ht with⟨_,t1⟩|⟨k,t1,t2⟩;simp[lk] at t1;(have hk:i=k:=by simp[lk] at t1;omega);subst hk;have ht:=t2;have⟨t3,t4,t5⟩:=t2;have E1:PT ld n a i:=⟨t3,ω,by rcases e3 with e3|e3;exact .inl e3;exact .inr λj j1 j2=>e3 j j1 ω,.inr λj j1 j2=>t5 j j1 ω ω⟩;have E2:PT ld n (i+1) b:=⟨ω,e2,.inr λj j1 j2=>by rw[dR];exact t5 j ω j2 ω,by rcases e4 with e4|e4;exact .inl e4;exact .inr λj j1 j2=>e4 j ω j2⟩;have⟨g1,g2,g3,g4⟩:=sA L f a i l ω hl E1;simp only;generalize hr:grow ld f a i l=r at g1 g2 g3 g4;(have hl1:(r.1.modify i λx=>(r.2,x.2)).length=n:=by rw[dQ,g2]);have⟨k1,k2,k3,k4⟩:=sA L f (i+1) b (r.1.modify i λx=>(r.2,x.2)) ω hl1 E2;generalize hs:grow ld f (i+1) b (r.1.modify i λx=>(r.2,x.2))=s at k1 k2 k3 k4;refine⟨.inr ⟨i,rfl,ht⟩,by rw[dQ,k2],λk hk=>?_,λk x h1 h2 hx=>?_⟩;rw[fu _ _ (ω:i≠k),k3 k ω,fu _ _ (ω:i≠k),g3 k ω];by_cases hk:k=i;subst hk;rw[gZ,k3 k ω,gZ] at hx;obtain⟨y,hy⟩:∃y,r.1[k]?=some y:=⟨r.1[k]' ω,ah _⟩;rw[hy] at hx;simp at hx;subst hx;refine⟨a,b,⟨h1,λj j1 j2=>L.asymm _ _ (t5 j j1 ω ω),?_⟩,⟨h2,e2,λj j1 j2=>L.asymm _ _ (t5 j ω j2 ω),?_⟩,g1,k1⟩;rcases e3 with e3|e3;exact .inl e3;exact .inr (e3 k h1 h2);rcases e4 with e4|e4;exact .inl e4;exact .inr (e4 k h1 h2);rw[fu _ _ (ω:i≠k)] at hx;by_cases hlt:k<i;rw[k3 k ω,fu _ _ (ω:i≠k)] at hx;exact g4 k x h1 hlt hx;exact k4 k x ω h2 hx
end
end Bnd
namespace Bnd
open Go
section
variable {ld:Nat->Nat->Bool}
def popAll (ld:Nat->Nat->Bool)(i:Nat):List Nat->Int->List Nat×Int|[],y=>([],y)|e::es,y=>if ld e i then(e::es,y) else popAll ld i es e
def uI (ld:Nat->Nat->Bool)(i:Nat)(s:List Nat×Int×List (Int×Int)):List Nat×Int×List (Int×Int):=match popAll ld i s.1 (-1) with|([],y)=>([i],i,s.2.2++[(y,-1)])|(e::es,y)=>(i::e::es,s.2.1,(s.2.2.modify e λx=>(x.1,i))++[(y,-1)])
def Opn (ld:Nat->Nat->Bool)(i k:Nat):Prop:=k<i/\∀j,k<j->j<i->ld j k=false
structure CInv (ld:Nat->Nat->Bool)(i:Nat)(s:List Nat×Int×List (Int×Int)):Prop where
 desc:s.1.Pairwise (· >·)
 mem:∀k,k∈s.1↔Opn ld i k
 root:j0 ld 0 i s.2.1
 len:s.2.2.length=i
 node:∀k x,s.2.2[k]?=some x->pG ld i k x
def pI (i:Nat):∀(l:List Nat) (y:Int),∃gone,l=gone++(popAll ld i l y).1/\(∀k∈gone,ld k i=false)/\(∀e es,(popAll ld i l y).1=e::es->ld e i=true)/\((gone=[]/\(popAll ld i l y).2=y)\/∃g k,gone=g++[k]/\(popAll ld i l y).2=(k:Nat))|[],y=>⟨[],rfl,by simp,by simp[popAll],.inl ⟨rfl,rfl⟩⟩|e::es,y=>by unfold popAll;cases h:ld e i with|true=>exact⟨[],rfl,by simp,λa b hab=>by simp at hab;rw[<-hab.1];exact h,.inl ⟨rfl,rfl⟩⟩|false=>simp;have⟨gone,h1,h2,h3,h4⟩:=pI i es (e:Nat);refine⟨e::gone,by rw[aY,<-h1],λk hk=>?_,h3,.inr ?_⟩;rcases bg.1 hk with rfl|hk;exact h;exact h2 k hk;rcases h4 with⟨rfl,h4⟩|⟨g,k,rfl,h4⟩;exact⟨[],e,rfl,h4⟩;exact⟨e::g,k,rfl,h4⟩
def aab {n i c:Nat}(L:Lin ld n)(h:∀k,c<=k->Opn ld i k->ld i k=true):∀(d k:Nat),i-k=d->c<=k->k<i->ld i k=true:=by intro d;induction d using Nat.strongRecOn with|ind d ih=>intro k hd hc hk;by_cases ho:∀j,k<j->j<i->ld j k=false;exact h k hc ⟨hk,ho⟩;simp at ho;have⟨j,h1,h2,h3⟩:=ho;exact L.trans _ _ _ (ih (i-j) ω j rfl ω h2) h3
def zO {n i k:Nat}(L:Lin ld n)(hi:i<=n)(h:Opn ld i k):∀j,k<j->j<i->ld k j=true:=λj h1 h2=>by rcases L.total k j ω ω ω with g|g;exact g;rw[h.2 j h1 h2] at g;cases g
def T8 {n i c k:Nat}(L:Lin ld n)(hi:i<=n)(hc:c<=k)(h:Opn ld i k)(hf:∀j,c<=j->j<k->¬Opn ld i j):qO ld c i k:=by refine⟨hc,h.1,λj h1 h2 h3=>?_⟩;(have:∀d j,k-j=d->c<=j->j<k->ld k j=true:=by intro d;induction d using Nat.strongRecOn with|ind d ih=>intro j hd hc hj;have:=hf j hc hj;unfold Opn at this;simp at this;have⟨m,m1,m2,m3⟩:=this (by have:=h.1;omega);rcases gc m k with g|g|g;exact L.trans _ _ _ (ih (k-m) ω m rfl ω g) m3;grind;exact L.trans _ _ _ (zO L hi h m g m2) m3);rcases tY j k with g|g;grind;exact zO L hi h j ω h2
def WN {n i:Nat}(L:Lin ld n)(hi:i<n){s:List Nat×Int×List (Int×Int)}(I:CInv ld i s):CInv ld (i+1) (uI ld i s):=by have⟨edge,root,nodes⟩:=s;have⟨desc,mem,hroot,len,node⟩:=I;simp only at desc mem hroot len node;have⟨gone,p1,p2,p3,p4⟩:=pI (ld:=ld) i edge (-1);unfold uI;simp only;generalize hp:popAll ld i edge (-1)=pr at p1 p2 p3 p4;have⟨kept,y⟩:=pr;simp only at p1 p2 p3 p4;have memg:∀k∈gone,Opn ld i k:=λk hk=>(mem k).1 (by rw[p1];exact c6 _ hk);have memk:∀k∈kept,Opn ld i k:=λk hk=>(mem k).1 (by rw[p1];exact fH _ hk);(have both:∀k,Opn ld i k->k∈gone\/k∈kept:=λk hk=>by grind);(have goneLed:∀k∈gone,ld i k=true:=λk hk=>by have:=(memg k hk).1;rcases L.total k i ω hi ω with g|g;grind;exact g);rw[p1,yi] at desc;have⟨d1,d2,d3⟩:=desc;(have keptLead:∀k∈kept,ld k i=true:=λk hk=>by cases kept with|nil=>cases hk|cons e es=>have he:=p3 e es rfl;rcases bg.1 hk with rfl|hk;exact he;have:k<e:=(dq.1 d2).1 k hk;exact L.trans _ _ _ (zO L ω (memk k (aV _ hk)) e this (memk e (by simp)).1) he);(have opn1:∀k,Opn ld (i+1) k↔k=i\/k∈kept:=λk=>by constructor;rintro⟨h1,h2⟩;by_cases e:k=i;exact .inl e;rcases both k ⟨ω,λj a b=>h2 j a ω⟩ with g|g;have:=goneLed k g;rw[h2 i ω ω] at this;cases this;exact .inr g;rintro(rfl|h);exact⟨ω,λj a b=>ω⟩;have⟨h1,h2⟩:=memk k h;refine⟨ω,λj a b=>?_⟩;by_cases e:j=i;subst e;exact L.asymm _ _ (keptLead k h);exact h2 j a ω);have behind:∀c,(∀k∈kept,k<c)->∀k,c<=k->k<i->ld i k=true:=λc hc k h1 h2=>aab L (λk a b=>by rcases both k b with g|g;exact goneLed k g;have:=hc k g;omega) _ k rfl h1 h2;(have hy:∀c,(∀k∈kept,k<c)->(∀k∈gone,c<=k)->c<=i->j0 ld c i y:=λc h1 h2 h3=>by rcases p4 with⟨rfl,rfl⟩|⟨g,k,rfl,rfl⟩;left;refine⟨?_,rfl⟩;rcases tY c i with hlt|hge;exfalso;have:Opn ld i (i-1):=⟨ω,λj a b=>ω⟩;rcases both _ this with g|g;cases g;have:=h1 _ g;omega;exact hge;right;refine⟨k,rfl,T8 L ω (h2 k (by simp)) (memg k (by simp)) λj j1 j2 hj=>?_⟩;rcases both j hj with g'|g';rcases bL.1 g' with g'|g';have:=(yi.1 d1).2.2 j g' k (by simp);omega;simp at g';omega;have:=h1 j g';omega);(have keep:∀k x,nodes[k]?=some x->(∀e es,kept=e::es->k≠e)->pG ld (i+1) k x:=λk x hx hne=>by have⟨a,h,n1,n2,n3,n4⟩:=node k x hx;have⟨q1,q2,q3,q4⟩:=n2;by_cases hh:h=i/\ Opn ld i k;obtain⟨rfl,ho⟩:=hh;rcases both k ho with g|g;exact⟨a,h,n1,⟨q1,ω,q3,.inr (goneLed k g)⟩,n3,n4⟩;(cases kept with|nil=>cases g|cons e es=>have hke:=hne e es rfl;(have hk':k<e:=by rcases bg.1 g with g|g;omega;exact(dq.1 d2).1 k g);have he:=memk e (by simp);have hki:=keptLead e (by simp);refine⟨a,h+1,n1,⟨ω,ω,((opn1 k).2 (.inr g)).2,.inl rfl⟩,n3,?_⟩;rcases n4 with⟨n4,_⟩|⟨m,n4,t1,t2,t3⟩;have:=he.1;omega;refine .inr ⟨m,n4,t1,ω,λj j1 j2 j3=>?_⟩;by_cases hj:j=h;subst hj;by_cases hem:e=m;rw[<-hem];exact hki;exact L.trans _ _ _ (t3 e ω he.1 hem) hki;exact t3 j j1 ω j3);refine⟨a,h,n1,⟨q1,ω,q3,?_⟩,n3,n4⟩;rcases q4 with q4|q4;exfalso;subst q4;exact hh ⟨rfl,q1,q3⟩;exact .inr q4);have new:∀c,(∀k∈kept,k<c)->(∀k∈gone,c<=k)->c<=i->(c=0\/ld (c-1) i=true)->pG ld (i+1) i (y,-1):=λc h1 h2 h3 h4=>⟨c,i+1,⟨h3,λj a b=>L.asymm _ _ (behind c h1 j a b),h4⟩,⟨ω,ω,λj a b=>ω,.inl rfl⟩,hy c h1 h2 h3,.inl ⟨ω,rfl⟩⟩;cases kept with|nil=>have hn0:pG ld (i+1) i (y,-1):=new 0 (by simp) (by simp) ω (.inl rfl);refine⟨by simp,λk=>?_,?_,by simp[len],λk x hx=>?_⟩;rw[opn1 k];simp;exact .inr ⟨i,rfl,ω,ω,λj j1 j2 j3=>behind 0 (by simp) j ω ω⟩;rw[jr] at hx;split at hx;exact keep k x hx (by simp);rename_i hk;(have:k=i:=by have:=(aD.1 hx).1;simp only[aM] at this;omega);subst this;rw[len] at hx;simp at hx;rw[<-hx];exact hn0|cons e es=>have he:=memk e (by simp);have hei:=keptLead e (by simp);(have hes:∀k∈e::es,k<e+1:=λk hk=>by rcases bg.1 hk with rfl|hk;omega;have:k<e:=(dq.1 d2).1 k hk;omega);have hn0:pG ld (i+1) i (y,-1):=new (e+1) hes (λk hk=>by have:=d3 k hk e (by simp);omega) he.1 (.inr (by rw[dR];exact hei));refine⟨?_,λk=>?_,?_,by simp[len],λk x hx=>?_⟩;rw[dq];exact⟨λk hk=>(memk k hk).1,d2⟩;rw[opn1 k,bg];rcases hroot with⟨r1,_⟩|⟨m,r1,t1,t2,t3⟩;have:=he.1;omega;refine .inr ⟨m,r1,t1,ω,λj j1 j2 j3=>?_⟩;by_cases hj:j=i;subst hj;by_cases hem:e=m;rw[<-hem];exact hei;exact L.trans _ _ _ (t3 e ω he.1 hem) hei;exact t3 j j1 ω j3;simp only at hx;rw[jr] at hx;split at hx;rename_i hk;rw[dQ,len] at hk;by_cases hke:k=e;subst hke;rw[gZ] at hx;obtain⟨z,hz⟩:∃z,nodes[k]?=some z:=⟨nodes[k]' ω,ah _⟩;rw[hz] at hx;simp only[Option.map_eq_map,cq,bU] at hx;subst hx;have⟨a,h,n1,n2,n3,n4⟩:=node k z hz;refine⟨a,i+1,n1,⟨ω,ω,((opn1 k).2 (.inr (by simp))).2,.inl rfl⟩,n3,.inr ⟨i,rfl,ω,ω,λj j1 j2 j3=>behind (k+1) hes j j1 ω⟩⟩;rw[fu _ _ (ω:e≠k)] at hx;exact keep k x hx (by intro e' es' h;simp at h;omega);rename_i hk;rw[dQ,len] at hx hk;(have:k=i:=by have:=(aD.1 hx).1;simp only[aM] at this;omega);subst this;simp at hx;rw[<-hx];exact hn0
def cmake (ld:Nat->Nat->Bool):Nat->List Nat×Int×List (Int×Int)|0=>([],-1,[])|i+1=>uI ld i (cmake ld i)
def iJ {n:Nat}(L:Lin ld n):∀i,i<=n->CInv ld i (cmake ld i)|0,_=>⟨.nil,λk=>by simp[cmake,Opn],.inl ⟨aC _,rfl⟩,rfl,λk x h=>by simp[cmake] at h⟩|i+1,h=>WN L ω (iJ L i ω)
def jl {n:Nat}(L:Lin ld n):kK ld n (cmake ld n).2.1 (cmake ld n).2.2:=by have:=iJ L n (aC _);exact⟨this.root,this.len,this.node⟩
end
end Bnd
namespace Bnd
open Go
section
variable {ld:Nat->Nat->Bool}
def Below (l:List (Int×Int))(i j:Nat):Prop:=∃x,l[j]?=some x/\(x.1=(i:Int)\/x.2=(i:Int))
def qP {n:Nat}(L:Lin ld n){root:Int}{l:List (Int×Int)}(C:kK ld n root l){i j:Nat}(h:Below l i j):ld j i=true/\((i<j/\ vA ld n i j/\∃a,vz ld i a/\(a=0\/ld (a-1) j=true))\/(j<i/\ vz ld i (j+1)/\∃b,vA ld n i b/\(b=n\/ld b j=true))):=by have⟨x,hx,h⟩:=h;have⟨a,b,⟨a1,a2,a3⟩,⟨b1,b2,b3,b4⟩,l1,l2⟩:=C.2.2 j x hx;(have hj:j<n:=by have:=(aD.1 hx).1;have:=C.2.1;omega);rcases h with h|h;rw[h] at l1;rcases l1 with⟨_,l1⟩|⟨k,l1,t1,t2,t3⟩;omega;(have:i=k:=ω);subst this;(have led:∀m,a<=m->m<j->ld j m=true:=λm m1 m2=>by rcases L.total j m hj ω ω with g|g;exact g;grind);have hji:=led i t1 t2;refine⟨hji,.inl ⟨t2,⟨t2,ω,λm m1 m2=>L.asymm _ _ (t3 m ω m2 ω),.inr hji⟩,a,⟨t1,λm m1 m2=>L.asymm _ _ (t3 m m1 ω ω),?_⟩,a3⟩⟩;rcases a3 with a3|a3;grind;exact .inr (L.trans _ _ _ a3 hji);rw[h] at l2;rcases l2 with⟨_,l2⟩|⟨k,l2,t1,t2,t3⟩;omega;(have:i=k:=ω);subst this;(have led:∀m,j<m->m<b->ld j m=true:=λm m1 m2=>by rcases L.total j m hj ω ω with g|g;exact g;rw[b3 m m1 m2] at g;cases g);have hji:=led i t1 t2;refine⟨hji,.inr ⟨ω,⟨t1,λm m1 m2=>L.asymm _ _ (t3 m m1 ω ω),.inr (by rw[dR];exact hji)⟩,b,⟨t2,b2,λm m1 m2=>L.asymm _ _ (t3 m ω m2 ω),?_⟩,b4⟩⟩;rcases b4 with b4|b4;exact .inl b4;exact .inr (L.trans _ _ _ b4 hji)
def Ea {n:Nat}(L:Lin ld n){root:Int}{l:List (Int×Int)}(C:kK ld n root l){i j j':Nat}(h:Below l i j)(h':Below l i j'):j=j':=by (have hj:j<n:=by have⟨x,hx,_⟩:=h;have:=(aD.1 hx).1;have:=C.2.1;omega);(have hj':j'<n:=by have⟨x,hx,_⟩:=h';have:=(aD.1 hx).1;have:=C.2.1;omega);have⟨_,h⟩:=qP L C h;have⟨_,h'⟩:=qP L C h';rcases h with⟨_,h1,a,h2,h3⟩|⟨_,h1,b,h2,h3⟩<;>rcases h' with⟨_,k1,c,k2,k3⟩|⟨_,k1,d,k2,k3⟩;exact sF h1 k1;exfalso;have e1:=sE h2 k1;have e2:=sF h1 k2;subst e1;subst e2;rw[dR] at h3;rcases h3 with h3|h3;omega;rcases k3 with k3|k3;omega;rw[L.asymm _ _ h3] at k3;cases k3;exfalso;have e1:=sE k2 h1;have e2:=sF k1 h2;subst e1;subst e2;rw[dR] at k3;rcases k3 with k3|k3;omega;rcases h3 with h3|h3;omega;rw[L.asymm _ _ h3] at k3;cases k3;have:=sE h1 k1;omega
end
end Bnd
namespace Bnd
open Go
def gY (t:Rt)(l:List Pt):List Pt:=l.mergeSort λp q=>!leads t q p
def Ids (l:List Pt):Prop:=(l.map Pt.id).Nodup
def Ids.inj {l:List Pt}(h:Ids l){p q:Pt}(hp:p∈l)(hq:q∈l)(e:p.id=q.id):p=q:=by have⟨i,hi⟩:=aG.1 hp;have⟨j,hj⟩:=aG.1 hq;have:=cz.1 h i j p.id (by rw[aZ,hi];rfl) (by rw[aZ,hj,e];rfl);grind
def Ids.perm {l k:List Pt}(h:Ids l)(p:l.Perm k):Ids k:=(p.map Pt.id).nodup_iff.1 h
def Ids.tail {p:Pt}{l:List Pt}(h:Ids (p::l)):Ids l:=(bW.1 h).2
def Ids.filter {l:List Pt}(h:Ids l)(f:Pt->Bool):Ids (l.filter f):=wO ((jE (l:=l) (p:=f)).map Pt.id) h
def Ids.nodup {l:List Pt}(h:Ids l):l.Nodup:=by rw[cz];intro i j x hi hj;exact cz.1 h i j x.id (by rw[aZ,hi];rfl) (by rw[aZ,hj];rfl)
def iw (t:Rt)(l:List Pt):(gY t l).Perm l:=yu ..
def uJ {t:Rt}{l:List Pt}(h:Ids l):(gY t l).Pairwise λp q=>leads t p q=true:=by (have h1:(gY t l).Pairwise λp q=>(!leads t q p)=true:=by refine t6 (λa b c h1 h2=>?_) (λa b=>?_) l;simp[<-ov,leads_iff] at h1 h2|-;have:=As t c b a;grind;cases e:leads t b a with|false=>rfl|true=>rw[fB e];rfl);(have h2:(gY t l).Pairwise λp q=>p.id≠q.id:=by have:=h.perm (iw t l).symm;unfold Ids List.Nodup at this;grind);refine List.Pairwise.imp₂ (λp q a b=>?_) h1 h2;rw[D8 b] at a;simpa using a
def rank (t:Rt)(l:List Pt)(p:Pt):Nat:=(l.filter λq=>decide (q.id≠p.id)&& leads t q p).length
def T9 {t:Rt}{l k:List Pt}(h:l.Perm k)(p:Pt):rank t l p=rank t k p:=(h.filter _).length_eq
def Be {t:Rt}:∀{l:List Pt},l.Pairwise (λp q=>leads t p q=true)->Ids l->∀{i:Nat} {p:Pt},l[i]?=some p->rank t l p=i|[],_,_,i,p,h=>by simp at h|q::l,ho,hi,i,p,h=>by rw[dq] at ho;unfold Ids at hi;rw[bK,bW] at hi;cases i with|zero=>simp at h;subst h;unfold rank;rw[cS,nN];intro x hx;simp only[aJ,aa,not_and,ov];intro hne;rcases bg.1 hx with rfl|hx;exact absurd rfl hne;exact fB (ho.1 x hx)|succ i=>simp at h;have hm:=ax h;have ih:=Be ho.2 hi.2 h;unfold rank at ih|-;rw[cB,ad,bu,ih];simp only[aJ,aa];exact⟨λe=>hi.1 (by rw[e];exact aW.2 ⟨p,hm,rfl⟩),ho.1 p hm⟩
def ordered (t:Rt)(l:List Pt):List Pt->List Int->List Int|[],out=>out|p::ps,out=>ordered t l ps (out.set (rank t l p) p.id)
def Eb {t:Rt}{l s:List Pt}(hs:s.Perm l)(ho:s.Pairwise λp q=>leads t p q=true)(hi:Ids l):∀(done rest:List Pt) (out:List Int),done++rest=l->out.length=l.length->(∀(k:Nat) (p:Pt),s[k]?=some p->p∈done->out[k]?=some p.id)->ordered t l rest out=s.map Pt.id|done,[],out,h,hl,hk=>(by rw[aR] at h;subst h;unfold ordered;refine cI λk=>?_;rw[aZ];cases e:s[k]? with|none=>rw[gC] at e;rw[bC (by have:=hs.length_eq;omega)];rfl|some p=>exact hk k p e (hs.mem_iff.1 (ax e)))|done,p::rest,out,h,hl,hk=>by unfold ordered;refine Eb hs ho hi (done++[p]) rest _ (by simpa using h) (by simpa using hl) λk q hq hm=>?_;(have hpl:p∈l:=by rw[<-h];simp);have⟨j,hj⟩:=aG.1 (hs.mem_iff.2 hpl);have hr:=(T9 hs p).symm.trans (Be ho (hi.perm hs.symm) hj);rw[hr];by_cases e:k=j;subst e;rw[hj] at hq;cases hq;rw[bi];have:=(aD.1 hj).1;have:=hs.length_eq;omega;rw[bA ω];refine hk k q hq ?_;rcases bL.1 hm with hm|hm;exact hm;simp at hm;subst hm;exact absurd (cz.1 (hi.perm hs.symm).nodup _ _ _ hq hj) e
def PU {t:Rt}{l:List Pt}(hi:Ids l){out:List Int}(ho:out.length=l.length):ordered t l l out=(gY t l).map Pt.id:=Eb (iw t l) (uJ hi) hi [] l out rfl ho (λ_ _ _ h=>by cases h)
def f8 (x:Int)(d:Nat):Int:=x.fdiv (2^(min d 64))% 2
def iP (l:List Int)(d:Nat)(b:Int):List Int:=l.filter λx=>decide (f8 x d=b)
def xX {l:List Int}{d:Nat}{b:Int}:(iP l d b).length<=l.length:=eP ..
def jm:List Int->Int->Nat->List (Int×Int)|[],_,_=>[]|o::os,from',d=>(o,from')::(jm (iP os d 0) o (d+1)++jm (iP os d 1) o (d+1)) termination_by l _ _=>l.length decreasing_by all_goals exact rL xX
def cy (t:Rt):List Pt->Pt->Pt|[],b=>b|p::ps,b=>cy t ps (if leads t p b then p else b)
def side (l:List Pt)(top:Int)(d:Nat)(b:Int):List Pt:=l.filter λp=>decide (p.id≠top)&& decide (f8 p.id d=b)
def topP_mem (t:Rt):∀(l:List Pt) (b:Pt),cy t l b=b\/cy t l b∈l|[],b=> .inl rfl|p::ps,b=>by unfold cy;rcases topP_mem t ps (if leads t p b then p else b) with h|h;rw[h];split;exact .inr (by simp);exact .inl rfl;exact .inr (by simp[h])
def qt {t:Rt}{p:Pt}{l:List Pt}{d:Nat}{b:Int}:(side (p::l) (cy t l p).id d b).length<l.length+1:=by (have hm:cy t l p∈p::l:=by rcases topP_mem t l p with h|h;rw[h];simp;simp[h]);(have:∀(k:List Pt) (x:Pt),x∈k->(side k x.id d b).length<k.length:=by intro k;induction k with|nil=>intro x h;cases h|cons y k ih=>unfold side at ih|-;grind);grind
def d7 (t:Rt):List Pt->Int->Nat->List (Int×Int)|[],_,_=>[]|p::l,from',d=>((cy t l p).id,from')::(d7 t (side (p::l) (cy t l p).id d 0) (cy t l p).id (d+1)++d7 t (side (p::l) (cy t l p).id d 1) (cy t l p).id (d+1)) termination_by l _ _=>l.length decreasing_by all_goals exact qt
def qu {t:Rt}:∀(l:List Pt) (b:Pt),Ids (b::l)->∀q∈b::l,q≠cy t l b->leads t (cy t l b) q=true|[],b,_,q,hq,hne=>by simp at hq hne;exact absurd hq hne|p::ps,b,hi,q,hq,hne=>by unfold cy at hne|-;have hpb:b.id≠p.id:=λe=>(bW.1 hi).1 (by rw[e];simp);have hi1:=hi.tail;(have hi2:Ids (b::ps):=by unfold Ids at hi|-;rw[bK,bK,bW,bW] at hi;rw[bK,bW];exact⟨λe=>hi.1 (aV _ e),hi.2.2⟩);cases e:leads t p b with|true=>simp only[e,aA] at hne|-;have ih:=qu (t:=t) ps p hi1;by_cases hb:q=b;subst hb;by_cases hp:p=cy t ps p;rw[<-hp];exact e;exact ea (ih p (by simp) hp) e;refine ih q ?_ hne;rcases bg.1 hq with h|h;exact absurd h hb;exact h|false=>simp[e] at hne|-;have ih:=qu (t:=t) ps b hi2;by_cases hb:q=p;subst hb;(have e':leads t b q=true:=by rw[D8 (λh=>hpb h.symm),e];rfl);by_cases hp:b=cy t ps b;rw[<-hp];exact e';exact ea (ih b (by simp) hp) e';refine ih q ?_ hne;rcases bg.1 hq with h|h;exact h▸(by simp);rcases bg.1 h with h|h;exact absurd h hb;exact aV _ h
def M3 {t:Rt}:∀(n:Nat) (l s:List Pt) (from':Int) (d:Nat),l.length<=n->s.Perm l->s.Pairwise (λp q=>leads t p q=true)->Ids l->jm (s.map Pt.id) from' d=d7 t l from' d:=by intro n;induction n with|zero=>intro l s from' d h hs _ _;have hl:l=[]:=cS.1 ω;subst hl;rw[hs.eq_nil];unfold d7;rw[tX];unfold jm;rfl|succ n ih=>intro l s from' d h hs ho hi;cases l with|nil=>grind|cons p l=>cases s with|nil=>have:=hs.length_eq;simp at this|cons o os=>rw[dq] at ho;have his:Ids (o::os):=hi.perm hs.symm;(have ho':o=cy t l p:=by by_cases e:o=cy t l p;exact e;exfalso;have h1:=qu (t:=t) l p hi o (hs.mem_iff.1 (by simp)) e;have hm:cy t l p∈o::os:=hs.mem_iff.2 (by rcases topP_mem t l p with h|h;rw[h];simp;simp[h]);rcases bg.1 hm with hm|hm;grind;have:=ho.1 _ hm;rw[fB h1] at this;cases this);rw[bK];unfold jm d7;rw[<-ho'];(have sd:∀b,(os.filter λq=>decide (f8 q.id d=b)).Perm (side (p::l) o.id d b):=λb=>by have:=hs.filter (λp=>decide (p.id≠o.id)&& decide (f8 p.id d=b));rw[cB,ac (by simp)] at this;refine List.Perm.trans (List.Perm.of_eq ?_) this;refine jb λq hq=>?_;have:q.id≠o.id:=λe=>(bW.1 his).1 (by rw[<-e];exact aW.2 ⟨q,hq,rfl⟩);rw[aq this,gU]);(have go:∀b,jm (iP (os.map Pt.id) d b) o.id (d+1)=d7 t (side (p::l) o.id d b) o.id (d+1):=λb=>by unfold iP;rw[List.filter_map];refine ih _ _ _ _ ?_ (sd b) (ho.2.sublist jE) (hi.filter _);have:=qt (t:=t) (p:=p) (l:=l) (d:=d) (b:=b);rw[<-ho'] at this;simp only[bu] at h;omega);rw[go 0,go 1]
end Bnd
namespace Bnd
open Go
def nodeV (wins places:List Int)(i:Nat):Int:=if i<wins.length then(wins[i]?).getD (-1) else(places[i-wins.length]?).getD (-1)
def jn (won:Int->Int->Int)(wins places:List Int):Prop:=∀i,i<wins.length->nodeV wins places i=won (nodeV wins places (2*i+1)) (nodeV wins places (2*i+2))
def tH (won:Int->Int->Int)(places:List Int):Nat->List Int->List Int|0,w=>w|i+1,w=>tH won places i (w.set i (won (nodeV w places (2*i+1)) (nodeV w places (2*i+2))))
def oQ {w places:List Int}{i j:Nat}{x:Int}(h:i≠j):nodeV (w.set i x) places j=nodeV w places j:=by unfold nodeV;grind
def M4 {won:Int->Int->Int}{places:List Int}:∀(i:Nat) (w v:List Int),i<=w.length->v.length=w.length->jn won v places->(∀j,i<=j->v[j]?=w[j]?)->tH won places i w=v|0,w,v,_,hl,_,h=>by unfold tH;exact(cI λj=>h j ω).symm|i+1,w,v,hi,hl,hf,h=>by unfold tH;refine M4 i _ v (by simp;omega) (by simpa using hl) hf λj hj=>?_;(have nv:∀m,i<m->nodeV v places m=nodeV w places m:=λm hm=>by unfold nodeV;rw[hl,h m ω]);by_cases e:j=i;subst e;rw[bi ω,<-nv _ ω,<-nv _ ω,<-hf j ω];unfold nodeV;rw[ad ω,ah (show j<v.length from ω)];rfl;rw[bA ω];exact h j ω
def F9 {won:Int->Int->Int}{places:List Int}:∀(i:Nat) (w:List Int),i<=w.length->(∀j,i<=j->j<w.length->nodeV w places j=won (nodeV w places (2*j+1)) (nodeV w places (2*j+2)))->jn won (tH won places i w) places|0,w,_,h=>λj hj=>h j ω hj|i+1,w,hi,h=>by unfold tH;refine F9 i _ (by simp;omega) λj hj hl=>?_;rw[aP] at hl;by_cases e:j=i;subst e;rw[oQ (show j≠2*j+1 from ω),oQ (show j≠2*j+2 from ω)];(have:∀x:Int,nodeV (w.set j x) places j=x:=λx=>by unfold nodeV;rw[aP,ad hl,bi hl];rfl);rw[this];rw[oQ (show i≠j from ω),oQ (show i≠2*j+1 from ω),oQ (show i≠2*j+2 from ω)];exact h j ω hl
def WO {won:Int->Int->Int}{places v:List Int}{w:List Int}(hl:v.length=w.length):tH won places w.length w=v↔jn won v places:=by constructor;intro h;rw[<-h];(exact F9 _ w (aC _) λj h1 h2=>ω);intro h;exact M4 _ w v (aC _) hl h λj hj=>by rw[bC ω,bC ω]
structure Match (wins places:List Int):Prop where
 len:places.length=wins.length+1
 once:∀(i j:Nat) (x:Int),0<=x->places[i]?=some x->places[j]?=some x->i=j
 pick:∀i,i<wins.length->nodeV wins places i=nodeV wins places (2*i+1)\/nodeV wins places i=nodeV wins places (2*i+2)
def anc (q:Nat):Nat->Nat|0=>q|k+1=>(anc q k-1)/2
def xY {wins places:List Int}(M:Match wins places){z:Int}(hz:0<=z){q:Nat}(hq:places[q]?=some z):∀(d i:Nat),2*places.length-i=d->i<2*places.length->nodeV wins places i=z->∃k,i=anc (wins.length+q) k/\∀k',k'<k->nodeV wins places (anc (wins.length+q) k')=z/\ 0<anc (wins.length+q) k':=by intro d;induction d using Nat.strongRecOn with|ind d ih=>intro i hd hi hv;by_cases hlt:i<wins.length;have hl:=M.len;(have step:∀c,(c=2*i+1\/c=2*i+2)->nodeV wins places c=z->∃k,i=anc (wins.length+q) k/\∀k',k'<k->nodeV wins places (anc (wins.length+q) k')=z/\ 0<anc (wins.length+q) k':=λc hc hvc=>by have⟨k,h1,h2⟩:=ih (2*places.length-c) ω c rfl ω hvc;refine⟨k+1,by unfold anc;rw[<-h1];omega,λk' hk'=>?_⟩;grind);rcases M.pick i hlt with h|h;grind;grind;refine⟨0,?_,λk' h=>ω⟩;unfold nodeV at hv;rw[ac hlt] at hv;cases e:places[i-wins.length]? with|none=>rw[e] at hv;simp at hv;omega|some x=>rw[e] at hv;simp only[cC] at hv;subst hv;have:=M.once _ _ x hz e hq;simp only[anc];omega
def B3 {q:Nat}:∀{k:Nat},(∀k',k'<k->0<anc q k')->∀{j:Nat},j<k->anc q k<anc q j|0,_,j,h=>ω|k+1,hp,j,h=>by have h0:=hp k ω;(have h1:anc q (k+1)<anc q k:=by show(anc q k-1)/2<anc q k;omega);by_cases e:j=k;subst e;exact h1;have:=B3 (q:=q) (k:=k) (λk' hk'=>hp k' ω) (j:=j) ω;omega
def Ua {wins places:List Int}(M:Match wins places){z:Int}(hz:0<=z){i j c e:Nat}(hi:i<wins.length)(hj:j<wins.length)(hc:c=2*i+1\/c=2*i+2)(he:e=2*j+1\/e=2*j+2) (vc:nodeV wins places c=z) (ve:nodeV wins places e=z) (vi:nodeV wins places i≠z) (vj:nodeV wins places j≠z):i=j:=by have hl:=M.len;(have leaf:∀(d i:Nat),2*places.length-i=d->i<2*places.length->nodeV wins places i=z->∃q:Nat,places[q]?=some z:=by intro d;induction d using Nat.strongRecOn with|ind d ih=>intro i hd hi hv;by_cases hlt:i<wins.length;rcases M.pick i hlt with h|h;grind;exact ih _ ω (2*i+2) rfl ω (by rw[<-h];exact hv);unfold nodeV at hv;rw[ac hlt] at hv;cases e:places[i-wins.length]? with|none=>rw[e] at hv;simp at hv;omega|some x=>rw[e] at hv;simp only[cC] at hv;exact⟨_,by rw[e,hv]⟩);have⟨q,hq⟩:=leaf _ c rfl ω vc;have⟨k,k1,k2⟩:=xY M hz hq _ c rfl ω vc;have⟨m,m1,m2⟩:=xY M hz hq _ e rfl ω ve;rcases gc k m with g|g|g;exfalso;(have hp:anc (wins.length+q) (k+1)=i:=by show(anc (wins.length+q) k-1)/2=i;rw[<-k1];omega);by_cases hkm:k+1=m;subst hkm;rw[hp] at m1;subst m1;exact vi ve;have:=(m2 (k+1) ω).1;rw[hp] at this;exact vi this;subst g;rw[<-m1] at k1;omega;exfalso;(have hp:anc (wins.length+q) (m+1)=j:=by show(anc (wins.length+q) m-1)/2=j;rw[<-m1];omega);by_cases hkm:m+1=k;subst hkm;rw[hp] at k1;subst k1;exact vj vc;have:=(k2 (m+1) ω).1;rw[hp] at this;exact vj this
def LF {wins places:List Int}(M:Match wins places){z:Int}(hz:0<=z){i:Nat}(hi:i<wins.length)(h1:nodeV wins places (2*i+1)=z)(h2:nodeV wins places (2*i+2)=z):False:=by have hl:=M.len;(have leaf:∀(d i:Nat),2*places.length-i=d->i<2*places.length->nodeV wins places i=z->∃q:Nat,places[q]?=some z:=by intro d;induction d using Nat.strongRecOn with|ind d ih=>intro i hd hi hv;by_cases hlt:i<wins.length;rcases M.pick i hlt with h|h;grind;grind;unfold nodeV at hv;grind);have⟨q,hq⟩:=leaf _ (2*i+1) rfl ω h1;have⟨k,k1,k2⟩:=xY M hz hq _ _ rfl ω h1;have⟨m,m1,m2⟩:=xY M hz hq _ _ rfl ω h2;(have hk:anc (wins.length+q) (k+1)=i:=by show(anc (wins.length+q) k-1)/2=i;rw[<-k1];omega);(have hm:anc (wins.length+q) (m+1)=i:=by show(anc (wins.length+q) m-1)/2=i;rw[<-m1];omega);rcases gc k m with g|g|g;by_cases e:k+1=m;subst e;omega;have:=B3 (q:=wins.length+q) (k:=m) (λk' h=>(m2 k' h).2) (j:=k+1) ω;omega;subst g;omega;by_cases e:m+1=k;subst e;omega;have:=B3 (q:=wins.length+q) (k:=k) (λk' h=>(k2 k' h).2) (j:=m+1) ω;omega
end Bnd
namespace Bnd
open Go
def Ga {x y:Nat}:x*y=(x/4294967296)*(y/4294967296)*18446744073709551616+((x% 4294967296)*(y/4294967296)+(x/4294967296)*(y% 4294967296))*4294967296+(x% 4294967296)*(y% 4294967296):=by (have e1:x=(x/4294967296)*4294967296+x% 4294967296:=ω);(have e2:y=(y/4294967296)*4294967296+y% 4294967296:=ω);grind
def ri {a b:Nat}(h:a<4294967296)(k:b<4294967296):a*b<=18446744065119617025:=by have:=it (show a<=4294967295 from ω) (show b<=4294967295 from ω);omega
def agr {x y:Nat}(hx:x<18446744073709551616)(hy:y<18446744073709551616):(x/4294967296)*(y/4294967296)+((x/4294967296)*(y% 4294967296)+(x% 4294967296)*(y% 4294967296)/4294967296)/4294967296+(((x/4294967296)*(y% 4294967296)+(x% 4294967296)*(y% 4294967296)/4294967296)% 4294967296+(x% 4294967296)*(y/4294967296))/4294967296=x*y/18446744073709551616:=by rw[Ga (x:=x) (y:=y)];grind
def Mn {a:Nat}(h:a<18446744073709551616):(BitVec.ofInt 64 (a:Int)&&& BitVec.ofInt 64 4294967295).toNat=a% 4294967296:=by rw[BitVec.toNat_and,ro,ro];rw[show((a:Int)%((2^ 64:Nat):Int)).toNat=a from ω,show(4294967295%((2^ 64:Nat):Int)).toNat=2^ 32-1 by decide,Nat.and_two_pow_sub_one_eq_mod]
end Bnd
namespace Bnd
open Go
def pJ:List Bool->List Int->Option (List Bool)|l,[]=>some l|l,x::xs=>if 0<=x/\ x<l.length/\ l[x.toNat]?=some false then pJ (l.set x.toNat true) xs else none
def mG:∀{xs:List Int} {l l':List Bool},pJ l xs=some l'↔(∀x∈xs,0<=x/\ x<l.length/\ l[x.toNat]?=some false)/\ xs.Nodup/\ l'.length=l.length/\∀i:Nat,i<l.length->l'[i]?=if(i:Int)∈xs then some true else l[i]?|[],l,l'=>by simp[pJ];constructor;rintro rfl;exact⟨rfl,λ_ _=>rfl⟩;rintro⟨h1,h2⟩;refine cI λi=>?_;by_cases hi:i<l.length;exact(h2 i hi).symm;rw[bC ω,bC ω]|x::xs,l,l'=>by unfold pJ;by_cases hc:0<=x/\ x<l.length/\ l[x.toNat]?=some false;rw[ad hc,mG];have⟨c1,c2,c3⟩:=hc;rw[aP];constructor;rintro⟨h1,h2,h3,h4⟩;(have hx:x∉xs:=λhm=>by have:=(h1 x hm).2.2;rw[bi ω] at this;cases this);refine⟨λy hy=>?_,bW.2 ⟨hx,h2⟩,h3,λi hi=>?_⟩;rcases bg.1 hy with rfl|hy;exact⟨c1,c2,c3⟩;have⟨g1,g2,g3⟩:=h1 y hy;have:x≠y:=λe=>hx (e▸hy);rw[bA ω] at g3;exact⟨g1,g2,g3⟩;rw[h4 i hi];by_cases e:x=i;subst e;rw[ac hx,ad (by simp)];rw[aH,bi ω];(have:(i:Int)∈x::xs↔(i:Int)∈xs:=by rw[bg];exact⟨λh=>h.resolve_left (λe'=>e e'.symm),.inr⟩);rw[bA ω];by_cases hm:(i:Int)∈xs;rw[ad hm,ad (this.2 hm)];rw[ac hm,ac (λh=>hm (this.1 h))];rintro⟨h1,h2,h3,h4⟩;rw[bW] at h2;refine⟨λy hy=>?_,h2.2,h3,λi hi=>?_⟩;have⟨g1,g2,g3⟩:=h1 y (by simp[hy]);have:x≠y:=λe=>h2.1 (e▸hy);rw[bA ω];exact⟨g1,g2,g3⟩;rw[h4 i hi];by_cases e:x=i;subst e;rw[ac h2.1,ad (by simp),aH,bi ω];(have:(i:Int)∈x::xs↔(i:Int)∈xs:=by rw[bg];exact⟨λh=>h.resolve_left (λe'=>e e'.symm),.inr⟩);rw[bA ω];by_cases hm:(i:Int)∈xs;rw[ad hm,ad (this.2 hm)];rw[ac hm,ac (λh=>hm (this.1 h))];rw[ac hc];constructor;intro h;cases h;rintro⟨h1,_⟩;exact absurd (h1 x (by simp)) hc
structure Slots where
 u:List Int
 v:List Bool
 f:List Int
 deriving DecidableEq
def Slots.okP (s:Slots):Prop:=1<=s.u.length/\ s.u.length<=200/\ s.v.length=s.u.length/\(∃l,pJ s.v s.f=some l/\ false∉l)/\∀(i:Nat) (u:Int),s.u[i]?=some u->0<=u/\ u<=1000000/\¬(u=0/\ s.v[i]?=some true)
def Slots.okR (s:Slots):Prop:=1<=s.u.length/\ s.u.length<=200/\ s.v.length=s.u.length/\ s.f.length<=s.u.length/\∃l,pJ (List.replicate s.u.length false) s.f=some l/\∀(i:Nat) (u:Int) (b c:Bool),s.u[i]?=some u->s.v[i]?=some b->l[i]?=some c->0<=u/\ u<=1000000/\ b≠c/\¬(b=true/\ u<1)
def jv {xs:List Int}{n:Nat}(h:xs.Nodup)(hb:∀x∈xs,0<=x/\ x<n):xs.length<=n:=by (have:=qe (l:=xs) (k:=(List.range n).map λi:Nat=>(i:Int)) h λx hx=>by have⟨h1,h2⟩:=hb x hx;exact aW.2 ⟨x.toNat,cX.2 ω,ω⟩);grind
def Slots.ok_iff (s:Slots):s.okP↔s.okR:=by unfold Slots.okP Slots.okR;constructor;rintro⟨h1,h2,h3,⟨l,h4,h5⟩,h6⟩;have⟨m1,m2,m3,m4⟩:=mG.1 h4;(have hr:pJ (List.replicate s.u.length false) s.f=some ((List.range s.u.length).map λi:Nat=>decide ((i:Int)∈s.f)):=by rw[mG];grind);refine⟨h1,h2,h3,jv m2 λx hx=>⟨(m1 x hx).1,by have:=(m1 x hx).2.1;omega⟩,_,hr,λi u b c hu hb hc=>?_⟩;have hi:=(aD.1 hu).1;have⟨g1,g2,g3⟩:=h6 i u hu;rw[aZ,jG hi] at hc;simp only[cq,bU] at hc;have hl:=m4 i ω;refine⟨g1,g2,?_,?_⟩;by_cases e:(i:Int)∈s.f;have:=(m1 _ e).2.2;rw[aH,hb] at this;cases this;rw[<-hc];simp[e];rw[ac e,hb] at hl;rw[<-hc];(cases b with|true=>simp[e]|false=>exact absurd (ax hl) h5);rintro⟨rfl,h⟩;exact g3 ⟨ω,hb⟩;rintro⟨h1,h2,h3,h4,l,h5,h6⟩;have⟨m1,m2,m3,m4⟩:=mG.1 h5;rw[aO] at m3 m4;(have facts:∀i:Nat,i<s.u.length->∃u b,s.u[i]?=some u/\ s.v[i]?=some b/\ l[i]?=some (decide ((i:Int)∈s.f))/\ 0<=u/\ u<=1000000/\ b=!decide ((i:Int)∈s.f)/\¬(b=true/\ u<1):=λi hi=>by have hl:=m4 i hi;rw[ek,ad hi] at hl;(have hl':l[i]?=some (decide ((i:Int)∈s.f)):=by rw[hl];by_cases e:(i:Int)∈s.f<;>simp[e]);have⟨g1,g2,g3,g4⟩:=h6 i _ _ _ (ah hi) (ah ω) hl';refine⟨_,_,ah hi,ah ω,hl',g1,g2,?_,g4⟩;revert g3;cases s.v[i]<;>cases decide ((i:Int)∈s.f)<;>simp);refine⟨h1,h2,h3,⟨List.replicate s.v.length true,?_,by simp[dC]⟩,λi u hu=>?_⟩;rw[mG];refine⟨λx hx=>?_,m2,by simp,λi hi=>?_⟩;have⟨g1,g2,_⟩:=m1 x hx;rw[aO] at g2;have⟨u,b,q1,q2,_,_,_,q3,_⟩:=facts x.toNat ω;refine⟨g1,ω,?_⟩;rw[q2,q3,show((x.toNat:Nat):Int)=x from ω];simp[hx];have⟨u,b,q1,q2,_,_,_,q3,_⟩:=facts i ω;rw[ek,ad hi,q2,q3];by_cases e:(i:Int)∈s.f<;>simp[e];have hi:=(aD.1 hu).1;have⟨u',b,q1,q2,_,q4,q5,q3,q6⟩:=facts i hi;rw[hu] at q1;cases q1;refine⟨q4,q5,?_⟩;rintro⟨rfl,hb⟩;rw[q2] at hb;cases hb;exact q6 ⟨rfl,ω⟩
end Bnd
namespace Bnd
open Go
def luk (ps:List (Int×Int))(k:Int)(v:Int):Int:=ps.foldl (λv x=>if x.1=k then x.2 else v) v
def nL {t:Rt}:∀(n:Nat) (l:List Pt) (from':Int) (d:Nat),l.length<=n->Ids l->∀x∈d7 t l from' d,∃p∈l,p.id=x.1/\(x.2=from'\/∃q∈l,q.id=x.2/\ leads t q p=true):=by intro n;induction n with|zero=>intro l from' d h _ x hx;have hl:l=[]:=cS.1 ω;subst hl;unfold d7 at hx;cases hx|succ n ih=>intro l from' d h hi x hx;cases l with|nil=>unfold d7 at hx;cases hx|cons p l=>unfold d7 at hx;(have htm:cy t l p∈p::l:=by rcases topP_mem t l p with h|h;rw[h];simp;simp[h]);rcases bg.1 hx with rfl|hx;grind;(have go:∀b,x∈d7 t (side (p::l) (cy t l p).id d b) (cy t l p).id (d+1)->∃p'∈p::l,p'.id=x.1/\(x.2=from'\/∃q∈p::l,q.id=x.2/\ leads t q p'=true):=λb hb=>by have hlen:=qt (t:=t) (p:=p) (l:=l) (d:=d) (b:=b);have⟨p',hp',e,hh⟩:=ih (side (p::l) (cy t l p).id d b) _ _ (by simp only[bu] at h;omega) (hi.filter _) x hb;have⟨hm,hc⟩:=be.1 hp';refine⟨p',hm,e,.inr ?_⟩;rcases hh with hh|⟨q,hq,e',hl⟩;refine⟨_,htm,hh.symm,qu l p hi p' hm λe=>?_⟩;grind;exact⟨q,(be.1 hq).1,e',hl⟩);rcases bL.1 hx with hx|hx;exact go 0 hx;exact go 1 hx
def luk_mem {ps:List (Int×Int)}{k v:Int}:luk ps k v=v\/(k,luk ps k v)∈ps:=by induction ps generalizing v with|nil=>exact .inl rfl|cons x ps ih=>unfold luk at ih|-;rcases ih (v:=if x.1=k then x.2 else v) with h|h;by_cases e:x.1=k;grind;grind;grind
def Ec {t:Rt}:∀(n:Nat) (l:List Pt) (from':Int) (d:Nat),l.length<=n->Ids l->(∀p∈l,0<=p.id)->∀p∈l,∃f,(p.id,f)∈d7 t l from' d:=by intro n;induction n with|zero=>grind|succ n ih=>intro l from' d h hi h0 q hq;cases l with|nil=>cases hq|cons p l=>unfold d7;by_cases e:q.id=(cy t l p).id;grind;(have hb:f8 q.id d=0\/f8 q.id d=1:=by unfold f8;omega);(have go:∀b,f8 q.id d=b->∃f,(q.id,f)∈d7 t (side (p::l) (cy t l p).id d b) (cy t l p).id (d+1):=λb hb=>by have hlen:=qt (t:=t) (p:=p) (l:=l) (d:=d) (b:=b);exact ih (side (p::l) (cy t l p).id d b) _ _ (by simp at h;omega) (hi.filter _) (λp hp=>h0 p (be.1 hp).1) q (be.2 ⟨hq,by simp[e,hb]⟩));grind
end Bnd
namespace Bnd
open Go
def AL:∀{ps:List (Int×Int)} {k v:Int},(∃f,(k,f)∈ps)->(k,luk ps k v)∈ps|[],k,v,⟨f,h⟩=>by cases h|x::ps,k,v,⟨f,h⟩=>by unfold luk;rw[di];rcases luk_mem (ps:=ps) (k:=k) (v:=if x.1=k then x.2 else v) with e|e;unfold luk at e;rw[e];by_cases hx:x.1=k;rw[ad hx];subst hx;simp;rw[ac hx] at e|-;rcases bg.1 h with h|h;rw[<-h] at hx;exact absurd rfl hx;have:=AL (v:=v) ⟨f,h⟩;unfold luk at this;rw[e] at this;exact aV _ this;exact aV _ e
end Bnd
namespace Bnd
open Go
def upArr:List (Int×Int)->Nat->List Int->List Int|[],_,up=>up|x::l,j,up=>upArr l (j+1) ((if 0<=x.2 then(if 0<=x.1 then up.set x.1.toNat j else up).set x.2.toNat j else(if 0<=x.1 then up.set x.1.toNat j else up)))
def zQ:∀(l:List (Int×Int)) (j:Nat) (up:List Int),(upArr l j up).length=up.length|[],j,up=>rfl|x::l,j,up=>by unfold upArr;rw[zQ l];(repeat' split);all_goals simp
def oq (x:Int×Int)(i:Nat):Prop:=x.1=(i:Int)\/x.2=(i:Int)
instance (x:Int×Int) (i:Nat):Decidable (oq x i):=by unfold oq;infer_instance
def zR:∀(l:List (Int×Int)) (j:Nat) (up:List Int) (i:Nat),i<up.length->
  (∀(k:Nat) (x:Int×Int),l[k]?=some x->oq x i->∀(k':Nat) (x':Int×Int),l[k']?=some x'->oq x' i->k=k')->
  (upArr l j up)[i]?=match l.findIdx? (λx=>decide (oq x i)) with|some k=>some ((j+k:Nat):Int)|none=>up[i]?
 |[],j,up,i,_,_=>rfl
 |x::l,j,up,i,hi,hu=>by
  unfold upArr;have hl:∀up':List Int,up'.length=up.length->(∀(k:Nat) (x':Int×Int),l[k]?=some x'->oq x' i->∀(k':Nat) (x'':Int×Int),l[k']?=some x''->oq x'' i->k=k')->(upArr l (j+1) up')[i]?=match l.findIdx? (λx=>decide (oq x i)) with|some k=>some ((j+1+k:Nat):Int)|none=>up'[i]?:=
   λup' h1 h2=>zR l (j+1) up' i (by omega) h2
  have hu':∀(k:Nat) (x':Int×Int),l[k]?=some x'->oq x' i->∀(k':Nat) (x'':Int×Int),l[k']?=some x''->oq x'' i->k=k':=λk x' h1 h2 k' x'' h3 h4=>by
   have:=hu (k+1) x' (by simpa using h1) h2 (k'+1) x'' (by simpa using h3) h4
   omega
  rw[hl _ (by repeat' split
              all_goals simp) hu',j9]
  by_cases hc:oq x i
  .rw[aq hc];simp;have hn:l.findIdx? (λx=>decide (oq x i))=none:=by
    rw[fG];intro y hy;obtain⟨k,hk⟩:=aG.1 hy;refine aj λh=>?_;have:=hu 0 x rfl hc (k+1) y (by simpa using hk) h
    omega
   rw[hn];simp only;rcases hc with h|h
   .rw[h];by_cases c:0<=x.2
    .rw[ad c,ad (by omega)];by_cases e:x.2.toNat=i
     .rw[e,bi (by simpa using hi)]
     .rw[bA e,aH,bi hi]
    .rw[ac c,ad (by omega),aH,bi hi]
   .rw[h,ad (by omega),aH,bi];split
    .simpa using hi
    .exact hi
  .rw[aj hc];simp only[au,aw];have hset:(if 0<=x.2 then(if 0<=x.1 then up.set x.1.toNat j else up).set x.2.toNat j else(if 0<=x.1 then up.set x.1.toNat j else up))[i]?=up[i]?:=by
    have a1:0<=x.1->x.1.toNat≠i:=λh e=>hc (.inl (by omega));have a2:0<=x.2->x.2.toNat≠i:=λh e=>hc (.inr (by omega));by_cases c1:0<=x.1<;>by_cases c2:0<=x.2
    .rw[ad c2,ad c1,bA (a2 c2),bA (a1 c1)]
    .rw[ac c2,ad c1,bA (a1 c1)]
    .rw[ad c2,ac c1,bA (a2 c2)]
    .rw[ac c2,ac c1]
   rw[hset];cases l.findIdx? (λx=>decide (oq x i)) with
   |none=>rfl
   |some k=>simp only[cq];rw[show j+1+k=j+(k+1) by omega]
def Bf {α:Type}{p:α->Bool}:∀{l:List α},(∀(k k':Nat) (x x':α),l[k]?=some x->p x=true->l[k']?=some x'->p x'=true->k=k')->(l.filter p)=match l.findIdx? p with|some k=>(l[k]?).toList|none=>[]
 |[],_=>rfl
 |a::l,h=>by
  have h':∀(k k':Nat) (x x':α),l[k]?=some x->p x=true->l[k']?=some x'->p x'=true->k=k':=λk k' x x' h1 h2 h3 h4=>by
   have:=h (k+1) (k'+1) x x' (by simpa using h1) h2 (by simpa using h3) h4
   omega
  rw[cB,j9];cases e:p a with
  |true=>
   simp only[];have:l.filter p=[]:=by
    rw[nN];intro x hx hp;obtain⟨k,hk⟩:=aG.1 hx;have:=h 0 (k+1) a x rfl e (by simpa using hk) hp
    omega
   rw[this];rfl
  |false=>
   simp;rw[Bf h'];cases l.findIdx? p with
   |none=>rfl
   |some k=>simp
end Bnd
namespace Bnd
open Go
def gf (l:List Int):Prop:=∀(i:Nat),i<l.length->∀x,l[i]?=some x->0<=x->∀j,j<i->l[j]?≠some x
def gy {l:List Int}:gf l↔∀(i j:Nat) (x:Int),0<=x->l[i]?=some x->l[j]?=some x->i=j:=by constructor;intro h i j x hx hi hj;have hi':=(aD.1 hi).1;have hj':=(aD.1 hj).1;rcases gc i j with g|g|g;exact absurd hi (h j hj' x hj hx i g);exact g;exact absurd hj (h i hi' x hi hx j g);intro h i _ x hi hx j hj e;grind
def AM {wins places:List Int}{i:Nat}{x:Int}(h:wins[i]?=some x):nodeV wins places i=x:=by unfold nodeV;grind
def AN {wins places:List Int}{i:Nat}{x:Int}(hi:¬i<wins.length)(h:places[i-wins.length]?=some x):nodeV wins places i=x:=by unfold nodeV;grind
def pK (wins places:List Int)(i:Nat):Prop:=nodeV wins places i=nodeV wins places (2*i+1)\/nodeV wins places i=nodeV wins places (2*i+2)
def sG (wins places:List Int):Prop:=(1<=places.length/\ places.length<=64/\ places.length=wins.length+1)/\ gf places/\∀x∈places,-1<=x/\ x<=65535
def lS (wins places:List Int):Prop:=sG wins places/\∀i,i<wins.length->pK wins places i/\¬(nodeV wins places i<0/\ 0<=max (nodeV wins places (2*i+1)) (nodeV wins places (2*i+2)))
def B4 (wins places:List Int):Prop:=sG wins places/\∀i,i<wins.length->pK wins places i/\¬(nodeV wins places i= -1/\(nodeV wins places (2*i+1)≠ -1\/nodeV wins places (2*i+2)≠ -1))
def LG {wins places:List Int}(hb:sG wins places)(hp:∀i,i<wins.length->pK wins places i):∀(d i:Nat),2*places.length-i=d-> -1<=nodeV wins places i:=by intro d;induction d using Nat.strongRecOn with|ind d ih=>intro i hd;by_cases hlt:i<wins.length;have:=hb.1.2.2;rcases hp i hlt with h|h;grind;grind;unfold nodeV;rw[ac hlt];cases e:places[i-wins.length]? with|none=>simp|some x=>exact(hb.2.2 x (ax e)).1
def WP {wins places:List Int}:lS wins places↔B4 wins places:=by constructor;rintro⟨hb,h⟩;refine⟨hb,λi hi=>⟨(h i hi).1,λhn=>(h i hi).2 ?_⟩⟩;have g:=λi=>LG hb (λi hi=>(h i hi).1) _ i rfl;have:=g (2*i+1);have:=g (2*i+2);omega;rintro⟨hb,h⟩;refine⟨hb,λi hi=>⟨(h i hi).1,λhn=>(h i hi).2 ?_⟩⟩;have g:=λi=>LG hb (λi hi=>(h i hi).1) _ i rfl;have:=g i;have:=g (2*i+1);have:=g (2*i+2);omega
def zS {wins places:List Int}(h:lS wins places):Match wins places:=⟨h.1.1.2.2,gy.1 h.1.2.1,λi hi=>(h.2 i hi).1⟩
end Bnd
namespace Bnd
open Go
def playD (won:Int->Int->Int)(places:List Int)(m:Nat):Nat->List Int|0=>List.replicate m 0|k+1=>(playD won places m k).set (m-1-k) (won (nodeV (playD won places m k) places (2*(m-1-k)+1)) (nodeV (playD won places m k) places (2*(m-1-k)+2)))
def j4 {won:Int->Int->Int}{places:List Int}{m:Nat}:∀k,(playD won places m k).length=m|0=>by simp[playD]|k+1=>by simp[playD,j4 k]
def Ed {won:Int->Int->Int}{places:List Int}{m:Nat}:∀k,k<=m->tH won places (m-k) (playD won places m k)=tH won places m (List.replicate m 0)|0,_=>rfl|k+1,h=>by rw[<-Ed k ω];(have e:m-k=(m-(k+1))+1:=ω);(have e2:m-1-k=m-(k+1):=ω);(conv=>rhs;rw[e];unfold tH);conv=>lhs;unfold playD;rw[e2]
def uK {won:Int->Int->Int}{places v:List Int}{m:Nat}(h:v.length=m):playD won places m m=v↔jn won v places:=by have:=Ed (won:=won) (places:=places) m (aC m);rw[fK] at this;rw[show playD won places m m=tH won places 0 (playD won places m m) from rfl,this,<-WO (w:=List.replicate m 0) (by simpa using h)];simp
def M5 {P:Int->Prop}(h0:P (-1)){wins places:List Int}(hp:∀x∈places,P x){i:Nat}(h:¬i<wins.length):P (nodeV wins places i):=by unfold nodeV;grind
def Fl {P:Int->Prop}(h0:P (-1)){won:Int->Int->Int}(hw:∀a b,P a->P b->P (won a b)){places:List Int}(hp:∀x∈places,P x){m:Nat}:∀k,k<=m->∀j,m-k<=j->P (nodeV (playD won places m k) places j)|0,_,j,hj=>M5 h0 hp (wins:=playD won places m 0) (by rw[j4];omega)|k+1,hk,j,hj=>by have ih:=Fl h0 hw hp (m:=m) k ω;unfold playD;by_cases e:m-1-k=j;subst e;(have:nodeV ((playD won places m k).set (m-1-k) (won (nodeV (playD won places m k) places (2*(m-1-k)+1)) (nodeV (playD won places m k) places (2*(m-1-k)+2)))) places (m-1-k)=won (nodeV (playD won places m k) places (2*(m-1-k)+1)) (nodeV (playD won places m k) places (2*(m-1-k)+2)):=by unfold nodeV;rw[aP,j4,ad ω,bi (by rw[j4];omega)];rfl);rw[this];exact hw _ _ (ih _ ω) (ih _ ω);rw[oQ e];exact ih j ω
def aac {P:Int->Prop}(h0:P (-1)){wins places:List Int}(hl:places.length=wins.length+1)(hp:∀x∈places,P x)(hk:∀i,i<wins.length->pK wins places i):∀(d i:Nat),2*places.length-i=d->P (nodeV wins places i):=by intro d;induction d using Nat.strongRecOn with|ind d ih=>intro i hd;by_cases hlt:i<wins.length;rcases hk i hlt with h|h;grind;grind;exact M5 h0 hp hlt
end Bnd
