import Derived.Test.YtfghdmmapmdcgaaGreatA1
set_option linter.unusedVariables false
set_option linter.unusedSimpArgs false
set_option linter.defProp false
noncomputable section
namespace Bnd
open Go
theorem sub_perm {α:Type}[DecidableEq α]: ∀{l k:List α},l.Nodup→(∀x∈l,x∈k)→k.length≤l.length→l.Perm k
 |[],k,_,_,h=>by
  have:k=[]:=bM.1 (by simpa using h)
  rw[this]
 |a::l,k,hn,hs,h=>by
  have ha:a∈k:=hs a (by simp);have hp:=oh ha;rw[bA] at hn;refine(List.Perm.cons a (sub_perm hn.2 (fun x hx=>?_) ?_)).trans hp.symm
  ·have hne:x≠a:=fun e=>hn.1 (e▸hx);exact(ja hne).2 (hs x (by simp[hx]))
  ·have:=hp.length_eq;simp only[aD] at this h;omega
theorem tY {α:Type}[DecidableEq α]: ∀{l k:List α},l.Nodup→(∀x∈l,x∈k)→l.length≤k.length
 |[],_,_,_=>by simp
 |a::l,k,hn,hs=>by
  have ha:a∈k:=hs a (by simp);have hp:=oh ha;rw[bA] at hn;have:=tY (l:=l) (k:=k.erase a) hn.2 (fun x hx=>by
   have hne:x≠a:=fun e=>hn.1 (e▸hx);exact(ja hne).2 (hs x (by simp[hx])))
  have:=hp.length_eq;simp only[aD] at this⊢;omega
theorem J3 {α:Type}[DecidableEq α]{l k:List α}(hl:l.Nodup)(hk:k.Nodup)(h:l.length=k.length)(P:α→Prop):(∀x∈l,x∈k∧P x)↔ ∀x∈k,x∈l∧P x:=by
 constructor
 ·intro a x hx;have hp:=sub_perm hl (fun x hx=>(a x hx).1) (by omega);have hx':=hp.mem_iff.2 hx;exact⟨hx',(a x hx').2⟩
 ·intro a x hx;have hp:=sub_perm hk (fun x hx=>(a x hx).1) (by omega);have hx':=hp.mem_iff.2 hx;exact⟨hx',(a x hx').2⟩
theorem nodup_get {α:Type}{l:List α}:l.Nodup↔ ∀(i j:Nat) (x:α),l[i]?=some x→l[j]?=some x→i=j:=by
 constructor
 ·intro h i j x hi hj;have hi':=(aj.1 hi).1;exact(List.getElem?_inj hi' h).1 (hi.trans hj.symm)
 ·intro h;induction l with
  |nil=>exact gN
  |cons a l ih=>
   rw[bA];constructor
   ·intro ha;obtain⟨j,hj⟩:=aA.1 ha;have:=h 0 (j+1) a rfl (by simpa using hj)
    omega
   ·refine ih fun i j x hi hj=>?_;have:=h (i+1) (j+1) x (by simpa using hi) (by simpa using hj)
    omega
theorem nodup_lt {α:Type}{l:List α}:l.Nodup↔ ∀(i j:Nat) (x:α),j<i→l[i]?=some x→l[j]?≠some x:=by
 rw[nodup_get];constructor
 ·intro h i j x hj hi e;have:=h i j x hi e;omega
 ·intro h i j x hi hj;rcases cq i j with g|g|g
  ·exact absurd hi (h j i x g hj)
  ·exact g
  ·exact absurd hj (h i j x g hi)
end Bnd
namespace Bnd
open Go
structure Rt where
 num:Int
 den:Int
 deriving DecidableEq
structure Pt where
 id:Int
 a:Int
 b:Int
 deriving DecidableEq
def zS (n:Int):Bool:=decide (-1048576≤n)&& decide (n≤1048576)
def Pt.ok (p:Pt):Bool:=decide (0≤p.id)&& decide (p.id≤65535)&& zS p.a&& zS p.b
def far (t:Rt)(p q:Pt):Int:=(p.a-q.a)*t.den+(p.b-q.b)*t.num
def leads (t:Rt)(p q:Pt):Bool:=if far t p q≠0 then decide (0<far t p q) else if p.b≠q.b then decide (q.b<p.b) else decide (p.id<q.id)
theorem tZ (t:Rt)(p q r:Pt):far t p q+far t q r=far t p r:=by
 unfold far;rw[show p.a-r.a=(p.a-q.a)+(q.a-r.a) by omega,show p.b-r.b=(p.b-q.b)+(q.b-r.b) by omega,l6,l6]
 omega
theorem iw (t:Rt)(p q:Pt):far t q p= -far t p q:=by
 have h1:=tZ t p q p;have h2:far t p p=0:=by unfold far;simp
 omega
theorem leads_iff {t:Rt}{p q:Pt}:leads t p q=true↔0<far t p q∨far t p q=0∧(q.b<p.b∨p.b=q.b∧p.id<q.id):=by
 unfold leads;split
 ·rw[decide_eq_true_eq];omega
 ·split
  ·rw[decide_eq_true_eq];omega
  ·rw[decide_eq_true_eq];omega
theorem leads_irr (t:Rt)(p:Pt):leads t p p=false:=by
 rw[←ig,leads_iff];have:=iw t p p;omega
theorem gU {t:Rt}{p q r:Pt}(h:leads t p q=true)(k:leads t q r=true):leads t p r=true:=by
 rw[leads_iff] at h k⊢;have:=tZ t p q r;omega
theorem cZ {t:Rt}{p q:Pt}(h:leads t p q=true):leads t q p=false:=by
 rw[←ig,leads_iff];rw[leads_iff] at h;have:=iw t p q;omega
theorem leads_total {t:Rt}{p q:Pt}(h:p.id≠q.id):leads t p q=true∨leads t q p=true:=by
 rw[leads_iff,leads_iff];have:=iw t p q;omega
theorem sW {t:Rt}{p q:Pt}(h:p.id≠q.id):leads t q p=!leads t p q:=by
 cases e:leads t p q with
 |true=>exact cZ e
 |false=>
  rcases leads_total (t:=t) h with h|h
  ·rw[h] at e;cases e
  ·exact h
end Bnd
namespace Bnd
open Go
section
variable (ld:Nat→Nat→Bool)
structure Lin (n:Nat):Prop where
 asymm: ∀i j,ld i j=true→ld j i=false
 trans: ∀i j k,ld i j=true→ld j k=true→ld i k=true
 total: ∀i j,i<n→j<n→i≠j→ld i j=true∨ld j i=true
def kg (a b k:Nat):Prop:=a≤k∧k<b∧ ∀j,a≤j→j<b→j≠k→ld k j=true
def IsLink (a b:Nat)(x:Int):Prop:=(b≤a∧x= -1)∨ ∃k:Nat,x=k∧kg ld a b k
def IsLo (k a:Nat):Prop:=a≤k∧(∀j,a≤j→j<k→ld j k=false)∧(a=0∨ld (a-1) k=true)
def IsHi (b k h:Nat):Prop:=k<h∧h≤b∧(∀j,k<j→j<h→ld j k=false)∧(h=b∨ld h k=true)
def iS (b k:Nat)(x:Int×Int):Prop:= ∃a h,IsLo ld k a∧IsHi ld b k h∧IsLink ld a k x.1∧IsLink ld (k+1) h x.2
def gt (n:Nat)(root:Int)(l:List (Int×Int)):Prop:=IsLink ld 0 n root∧l.length=n∧ ∀k x,l[k]?=some x→iS ld n k x
variable {ld}
theorem J4 {n a b k k':Nat}(L:Lin ld n)(h:kg ld a b k)(h':kg ld a b k'):k=k':=by
 by_cases e:k=k'
 ·exact e
 ·have h1:=h.2.2 k' h'.1 h'.2.1 (by omega);have h2:=h'.2.2 k h.1 h.2.1 e;rw[L.asymm _ _ h1] at h2;cases h2
theorem link_uniq {n a b:Nat}{x y:Int}(L:Lin ld n)(h:IsLink ld a b x)(k:IsLink ld a b y):x=y:=by
 rcases h with⟨h1,rfl⟩|⟨i,rfl,h⟩<;>rcases k with⟨k1,rfl⟩|⟨j,rfl,k⟩
 ·rfl
 ·have:=k.1;have:=k.2.1;omega
 ·have:=h.1;have:=h.2.1;omega
 ·rw[J4 L h k]
theorem mP {k a a':Nat}(h:IsLo ld k a)(h':IsLo ld k a'):a=a':=by
 rcases cq a a' with g|g|g
 ·exfalso;have:=h.2.1 (a'-1) (by omega) (by have:=h'.1;omega);rcases h'.2.2 with e|e
  ·omega
  ·rw[this] at e;cases e
 ·exact g
 ·exfalso;have:=h'.2.1 (a-1) (by omega) (by have:=h.1;omega);rcases h.2.2 with e|e
  ·omega
  ·rw[this] at e;cases e
theorem hi_uniq {b k h h':Nat}(g:IsHi ld b k h)(g':IsHi ld b k h'):h=h':=by
 obtain⟨a1,a2,a3,a4⟩:=g;obtain⟨b1,b2,b3,b4⟩:=g';rcases cq h h' with g|g|g
 ·exfalso;have:=b3 h a1 g;rcases a4 with e|e
  ·omega
  ·rw[this] at e;cases e
 ·exact g
 ·exfalso;have:=a3 h' b1 g;rcases b4 with e|e
  ·omega
  ·rw[this] at e;cases e
theorem Ij {n b k:Nat}{x y:Int×Int}(L:Lin ld n)(h:iS ld b k x)(h':iS ld b k y):x=y:=by
 obtain⟨a,c,h1,h2,h3,h4⟩:=h;obtain⟨a',c',k1,k2,k3,k4⟩:=h';rw[mP k1 h1] at k3;rw[hi_uniq k2 h2] at k4;exact Prod.ext (link_uniq L h3 k3) (link_uniq L h4 k4)
theorem uN {n:Nat}{r r':Int}{l l':List (Int×Int)}(L:Lin ld n)(h:gt ld n r l)(h':gt ld n r' l'):r=r'∧l=l':=by
 refine⟨link_uniq L h.1 h'.1,b9 fun k=>?_⟩;cases e:l[k]? with
 |none=>
  rw[cW] at e;rw[bk (by have:=h.2.1;have:=h'.2.1;omega)]
 |some x=>
  have hk:=(aj.1 e).1;have hk':k<l'.length:=by have:=h.2.1;have:=h'.2.1;omega
  rw[ac hk'];have:=Ij L (h.2.2 k x e) (h'.2.2 k _ (ac hk'));rw[this]
def topFrom (ld:Nat→Nat→Bool):Nat→Nat→Option Nat→Option Nat
 |0,_,best=>best
 |m+1,i,best=>topFrom ld m (i+1) (match best with|none=>some i|some b=>if ld i b then some i else some b)
def lk:Option Nat→Int
 |none=> -1
 |some k=>k
theorem sX {n:Nat}(L:Lin ld n){a:Nat}: ∀(m i:Nat) (best:Option Nat),i+m≤n→a≤i→IsLink ld a i (lk best)→IsLink ld a (i+m) (lk (topFrom ld m i best))
 |0,i,best,_,_,h=>h
 |m+1,i,best,hm,ha,h=>by
  unfold topFrom;rw[show i+(m+1)=(i+1)+m by omega]
  refine sX L m (i+1) _ (by omega) (by omega) ?_;rcases h with⟨h1,h2⟩|⟨k,h1,h2⟩
  ·cases best with
   |some b=>simp[lk] at h2
   |none=>exact .inr ⟨i,rfl,by omega,by omega,fun j h3 h4 h5=>by omega⟩
  ·cases best with
   |none=>simp[lk] at h1
   |some b=>
    have hb:b=k:=by simp only[lk] at h1;omega
    subst hb;obtain⟨h3,h4,h5⟩:=h2;cases e:ld i b with
    |true=>
     simp only[e,if_true];refine .inr ⟨i,rfl,by omega,by omega,fun j j1 j2 j3=>?_⟩;by_cases hj:j=b
     ·rw[hj];exact e
     ·exact L.trans _ _ _ e (h5 j j1 (by omega) hj)
    |false=>
     simp only[e,ad,if_false];refine .inr ⟨b,rfl,by omega,by omega,fun j j1 j2 j3=>?_⟩;by_cases hj:j=i
     ·subst hj;rcases L.total b j (by omega) (by omega) (by omega) with g|g
      ·exact g
      ·rw[e] at g;cases g
     ·exact h5 j j1 (by omega) j3
def n7 (ld:Nat→Nat→Bool)(a b:Nat):Option Nat:=topFrom ld (b-a) a none
theorem zT {n:Nat}(L:Lin ld n){a b:Nat}(hb:b≤n)(h:a≤b):IsLink ld a b (lk (n7 ld a b)):=by
 have:=sX L (a:=a) (b-a) a none (by omega) (am _) (.inl ⟨am _,rfl⟩);rwa [show a+(b-a)=b by omega] at this
def grow (ld:Nat→Nat→Bool):Nat→Nat→Nat→List (Int×Int)→List (Int×Int)×Int
 |0,_,_,l=>(l,-1)
 |f+1,a,b,l=>match n7 ld a b with
  |none=>(l,-1)
  |some i=>
   let r:=grow ld f a i l
   let l1:=r.1.modify i fun x=>(r.2,x.2)
   let s:=grow ld f (i+1) b l1
   (s.1.modify i fun x=>(x.1,s.2),i)
def E5 (ld:Nat→Nat→Bool)(n a b:Nat):Prop:=a≤b∧b≤n∧(a=0∨ ∀j,a≤j→j<b→ld (a-1) j=true)∧(b=n∨ ∀j,a≤j→j<b→ld b j=true)
theorem ir {n:Nat}(L:Lin ld n): ∀(f a b:Nat) (l:List (Int×Int)),b-a<f→l.length=n→E5 ld n a b→
  IsLink ld a b (grow ld f a b l).2∧(grow ld f a b l).1.length=n∧(∀k,k<a∨b≤k→(grow ld f a b l).1[k]?=l[k]?)∧ ∀k x,a≤k→k<b→(grow ld f a b l).1[k]?=some x→iS ld n k x
 |0,a,b,l,h,_,_=>by omega
 |f+1,a,b,l,h,hl,E=>by
  obtain⟨e1,e2,e3,e4⟩:=E;have ht:=zT L e2 e1;unfold grow;cases e:n7 ld a b with
  |none=>
   rw[e] at ht;rcases ht with⟨t1,_⟩|⟨k,t1,_⟩
   ·exact⟨.inl ⟨t1,rfl⟩,hl,fun k _=>rfl,fun k x h1 h2=>by omega⟩
   ·simp[lk] at t1
  |some i=>
   rw[e] at ht;rcases ht with⟨_,t1⟩|⟨k,t1,t2⟩
   ·simp[lk] at t1
   ·have hk:i=k:=by simp only[lk] at t1;omega
    subst hk;have ht:=t2;obtain⟨t3,t4,t5⟩:=t2;have E1:E5 ld n a i:=⟨t3,by omega,by
     rcases e3 with e3|e3
     ·exact .inl e3
     ·exact .inr fun j j1 j2=>e3 j j1 (by omega),.inr fun j j1 j2=>t5 j j1 (by omega) (by omega)⟩
    have E2:E5 ld n (i+1) b:=⟨by omega,e2,.inr fun j j1 j2=>by
     rw[cK];exact t5 j (by omega) j2 (by omega),by
     rcases e4 with e4|e4
     ·exact .inl e4
     ·exact .inr fun j j1 j2=>e4 j (by omega) j2⟩
    obtain⟨g1,g2,g3,g4⟩:=ir L f a i l (by omega) hl E1;simp only;generalize hr:grow ld f a i l=r at g1 g2 g3 g4;have hl1:(r.1.modify i fun x=>(r.2,x.2)).length=n:=by rw[bN,g2]
    obtain⟨k1,k2,k3,k4⟩:=ir L f (i+1) b (r.1.modify i fun x=>(r.2,x.2)) (by omega) hl1 E2;generalize hs:grow ld f (i+1) b (r.1.modify i fun x=>(r.2,x.2))=s at k1 k2 k3 k4;refine⟨.inr ⟨i,rfl,ht⟩,by rw[bN,k2],fun k hk=>?_,fun k x h1 h2 hx=>?_⟩
    ·rw[cM _ _ (by omega:i≠k),k3 k (by omega),cM _ _ (by omega:i≠k),g3 k (by omega)]
    ·by_cases hk:k=i
     ·subst hk;rw[dH,k3 k (by omega),dH] at hx;obtain⟨y,hy⟩: ∃y,r.1[k]?=some y:=⟨r.1[k]'(by omega),ac _⟩;rw[hy] at hx;simp only[Option.map_eq_map,aZ,aK] at hx;subst hx;refine⟨a,b,⟨h1,fun j j1 j2=>L.asymm _ _ (t5 j j1 (by omega) (by omega)),?_⟩,⟨h2,e2,fun j j1 j2=>L.asymm _ _ (t5 j (by omega) j2 (by omega)),?_⟩,g1,k1⟩
      ·rcases e3 with e3|e3
       ·exact .inl e3
       ·exact .inr (e3 k h1 h2)
      ·rcases e4 with e4|e4
       ·exact .inl e4
       ·exact .inr (e4 k h1 h2)
     ·rw[cM _ _ (by omega:i≠k)] at hx;by_cases hlt:k<i
      ·rw[k3 k (by omega),cM _ _ (by omega:i≠k)] at hx;exact g4 k x h1 hlt hx
      ·exact k4 k x (by omega) h2 hx
end
end Bnd
namespace Bnd
open Go
section
variable {ld:Nat→Nat→Bool}
def popAll (ld:Nat→Nat→Bool)(i:Nat):List Nat→Int→List Nat×Int
 |[],y=>([],y)
 |e::es,y=>if ld e i then(e::es,y) else popAll ld i es e
def lJ (ld:Nat→Nat→Bool)(i:Nat)(s:List Nat×Int×List (Int×Int)):List Nat×Int×List (Int×Int):=
 match popAll ld i s.1 (-1) with
 |([],y)=>([i],i,s.2.2++[(y,-1)])
 |(e::es,y)=>(i::e::es,s.2.1,(s.2.2.modify e fun x=>(x.1,i))++[(y,-1)])
def Opn (ld:Nat→Nat→Bool)(i k:Nat):Prop:=k<i∧ ∀j,k<j→j<i→ld j k=false
structure CInv (ld:Nat→Nat→Bool)(i:Nat)(s:List Nat×Int×List (Int×Int)):Prop where
 desc:s.1.Pairwise (· >·)
 mem: ∀k,k∈s.1↔Opn ld i k
 root:IsLink ld 0 i s.2.1
 len:s.2.2.length=i
 node: ∀k x,s.2.2[k]?=some x→iS ld i k x
theorem iT (i:Nat): ∀(l:List Nat) (y:Int),∃gone,l=gone++(popAll ld i l y).1∧(∀k∈gone,ld k i=false)∧(∀e es,(popAll ld i l y).1=e::es→ld e i=true)∧((gone=[]∧(popAll ld i l y).2=y)∨ ∃g k,gone=g++[k]∧(popAll ld i l y).2=(k:Nat))
 |[],y=>⟨[],rfl,by simp,by simp[popAll],.inl ⟨rfl,rfl⟩⟩
 |e::es,y=>by
  unfold popAll;cases h:ld e i with
  |true=>exact⟨[],rfl,by simp,fun a b hab=>by simp at hab;rw[←hab.1];exact h,.inl ⟨rfl,rfl⟩⟩
  |false=>
   simp only[ad,if_false];obtain⟨gone,h1,h2,h3,h4⟩:=iT i es (e:Nat);refine⟨e::gone,by rw[ay,←h1],fun k hk=>?_,h3,.inr ?_⟩
   ·rcases aT.1 hk with rfl|hk
    ·exact h
    ·exact h2 k hk
   ·rcases h4 with⟨rfl,h4⟩|⟨g,k,rfl,h4⟩
    ·exact⟨[],e,rfl,h4⟩
    ·exact⟨e::g,k,rfl,h4⟩
theorem O1 {n i c:Nat}(L:Lin ld n)(h: ∀k,c≤k→Opn ld i k→ld i k=true): ∀(d k:Nat),i-k=d→c≤k→k<i→ld i k=true:=by
 intro d;induction d using Nat.strongRecOn with
 |ind d ih=>
  intro k hd hc hk;by_cases ho: ∀j,k<j→j<i→ld j k=false
  ·exact h k hc ⟨hk,ho⟩
  ·simp only[i5,Bool.not_eq_false] at ho;obtain⟨j,h1,h2,h3⟩:=ho;exact L.trans _ _ _ (ih (i-j) (by omega) j rfl (by omega) h2) h3
theorem pB {n i k:Nat}(L:Lin ld n)(hi:i≤n)(h:Opn ld i k): ∀j,k<j→j<i→ld k j=true:=fun j h1 h2=>by
 rcases L.total k j (by omega) (by omega) (by omega) with g|g
 ·exact g
 ·rw[h.2 j h1 h2] at g;cases g
theorem Ik {n i c k:Nat}(L:Lin ld n)(hi:i≤n)(hc:c≤k)(h:Opn ld i k)(hf: ∀j,c≤j→j<k→¬Opn ld i j):kg ld c i k:=by
 refine⟨hc,h.1,fun j h1 h2 h3=>?_⟩;have: ∀d j,k-j=d→c≤j→j<k→ld k j=true:=by
  intro d;induction d using Nat.strongRecOn with
  |ind d ih=>
   intro j hd hc hj;have:=hf j hc hj;unfold Opn at this;simp only[not_and,i5,Bool.not_eq_false] at this;obtain⟨m,m1,m2,m3⟩:=this (by have:=h.1;omega);rcases cq m k with g|g|g
   ·exact L.trans _ _ _ (ih (k-m) (by omega) m rfl (by omega) g) m3
   ·rw[←g];exact m3
   ·exact L.trans _ _ _ (pB L hi h m g m2) m3
 rcases jh j k with g|g
 ·exact this _ j rfl h1 g
 ·exact pB L hi h j (by omega) h2
theorem J5 {n i:Nat}(L:Lin ld n)(hi:i<n){s:List Nat×Int×List (Int×Int)}(I:CInv ld i s):CInv ld (i+1) (lJ ld i s):=by
 obtain⟨edge,root,nodes⟩:=s;obtain⟨desc,mem,hroot,len,node⟩:=I;simp only at desc mem hroot len node;obtain⟨gone,p1,p2,p3,p4⟩:=iT (ld:=ld) i edge (-1);unfold lJ;simp only;generalize hp:popAll ld i edge (-1)=pr at p1 p2 p3 p4;obtain⟨kept,y⟩:=pr;simp only at p1 p2 p3 p4;have memg: ∀k∈gone,Opn ld i k:=fun k hk=>(mem k).1 (by rw[p1];exact b5 _ hk);have memk: ∀k∈kept,Opn ld i k:=fun k hk=>(mem k).1 (by rw[p1];exact cI _ hk);have both: ∀k,Opn ld i k→k∈gone∨k∈kept:=fun k hk=>by
  have:=(mem k).2 hk;rw[p1] at this;exact bh.1 this
 have goneLed: ∀k∈gone,ld i k=true:=fun k hk=>by
  have:=(memg k hk).1;rcases L.total k i (by omega) hi (by omega) with g|g
  ·rw[p2 k hk] at g;cases g
  ·exact g
 rw[p1,og] at desc;obtain⟨d1,d2,d3⟩:=desc;have keptLead: ∀k∈kept,ld k i=true:=fun k hk=>by
  cases kept with
  |nil=>cases hk
  |cons e es=>
   have he:=p3 e es rfl;rcases aT.1 hk with rfl|hk
   ·exact he
   ·have:k<e:=(dw.1 d2).1 k hk;exact L.trans _ _ _ (pB L (by omega) (memk k (aF _ hk)) e this (memk e (by simp)).1) he
 have opn1: ∀k,Opn ld (i+1) k↔k=i∨k∈kept:=fun k=>by
  constructor
  ·rintro⟨h1,h2⟩;by_cases e:k=i
   ·exact .inl e
   ·rcases both k ⟨by omega,fun j a b=>h2 j a (by omega)⟩ with g|g
    ·have:=goneLed k g;rw[h2 i (by omega) (by omega)] at this;cases this
    ·exact .inr g
  ·rintro(rfl|h)
   ·exact⟨by omega,fun j a b=>by omega⟩
   ·obtain⟨h1,h2⟩:=memk k h;refine⟨by omega,fun j a b=>?_⟩;by_cases e:j=i
    ·subst e;exact L.asymm _ _ (keptLead k h)
    ·exact h2 j a (by omega)
 have behind: ∀c,(∀k∈kept,k<c)→ ∀k,c≤k→k<i→ld i k=true:=fun c hc k h1 h2=>
  O1 L (fun k a b=>by
   rcases both k b with g|g
   ·exact goneLed k g
   ·have:=hc k g;omega) _ k rfl h1 h2
 have hy: ∀c,(∀k∈kept,k<c)→(∀k∈gone,c≤k)→c≤i→IsLink ld c i y:=fun c h1 h2 h3=>by
  rcases p4 with⟨rfl,rfl⟩|⟨g,k,rfl,rfl⟩
  ·left
   refine⟨?_,rfl⟩;rcases jh c i with hlt|hge
   ·exfalso;have:Opn ld i (i-1):=⟨by omega,fun j a b=>by omega⟩;rcases both _ this with g|g
    ·cases g
    ·have:=h1 _ g;omega
   ·exact hge
  ·right
   refine⟨k,rfl,Ik L (by omega) (h2 k (by simp)) (memg k (by simp)) fun j j1 j2 hj=>?_⟩;rcases both j hj with g'|g'
   ·rcases bh.1 g' with g'|g'
    ·have:=(og.1 d1).2.2 j g' k (by simp);omega
    ·simp at g';omega
   ·have:=h1 j g';omega
 have keep: ∀k x,nodes[k]?=some x→(∀e es,kept=e::es→k≠e)→iS ld (i+1) k x:=fun k x hx hne=>by
  obtain⟨a,h,n1,n2,n3,n4⟩:=node k x hx;obtain⟨q1,q2,q3,q4⟩:=n2;by_cases hh:h=i∧Opn ld i k
  ·obtain⟨rfl,ho⟩:=hh;rcases both k ho with g|g
   ·exact⟨a,h,n1,⟨q1,by omega,q3,.inr (goneLed k g)⟩,n3,n4⟩
   ·
    cases kept with
    |nil=>cases g
    |cons e es=>
     have hke:=hne e es rfl;have hk':k<e:=by
      rcases aT.1 g with g|g
      ·omega
      ·exact(dw.1 d2).1 k g
     have he:=memk e (by simp);have hki:=keptLead e (by simp);refine⟨a,h+1,n1,⟨by omega,by omega,((opn1 k).2 (.inr g)).2,.inl rfl⟩,n3,?_⟩;rcases n4 with⟨n4,_⟩|⟨m,n4,t1,t2,t3⟩
     ·have:=he.1;omega
     ·refine .inr ⟨m,n4,t1,by omega,fun j j1 j2 j3=>?_⟩;by_cases hj:j=h
      ·subst hj;by_cases hem:e=m
       ·rw[←hem];exact hki
       ·exact L.trans _ _ _ (t3 e (by omega) he.1 hem) hki
      ·exact t3 j j1 (by omega) j3
  ·refine⟨a,h,n1,⟨q1,by omega,q3,?_⟩,n3,n4⟩;rcases q4 with q4|q4
   ·exfalso;subst q4;exact hh ⟨rfl,q1,q3⟩
   ·exact .inr q4
 have new: ∀c,(∀k∈kept,k<c)→(∀k∈gone,c≤k)→c≤i→(c=0∨ld (c-1) i=true)→iS ld (i+1) i (y,-1):=fun c h1 h2 h3 h4=>
  ⟨c,i+1,⟨h3,fun j a b=>L.asymm _ _ (behind c h1 j a b),h4⟩,⟨by omega,by omega,fun j a b=>by omega,.inl rfl⟩,hy c h1 h2 h3,.inl ⟨by omega,rfl⟩⟩
 cases kept with
 |nil=>
  have hn0:iS ld (i+1) i (y,-1):=new 0 (by simp) (by simp) (by omega) (.inl rfl);refine⟨by simp,fun k=>?_,?_,by simp[len],fun k x hx=>?_⟩
  ·rw[opn1 k];simp
  ·exact .inr ⟨i,rfl,by omega,by omega,fun j j1 j2 j3=>behind 0 (by simp) j (by omega) (by omega)⟩
  ·rw[ef] at hx;split at hx
   ·exact keep k x hx (by simp)
   ·rename_i hk;have:k=i:=by
     have:=(aj.1 hx).1;simp only[az] at this;omega
    subst this;rw[len] at hx;simp at hx;rw[←hx];exact hn0
 |cons e es=>
  have he:=memk e (by simp);have hei:=keptLead e (by simp);have hes: ∀k∈e::es,k<e+1:=fun k hk=>by
   rcases aT.1 hk with rfl|hk
   ·omega
   ·have:k<e:=(dw.1 d2).1 k hk;omega
  have hn0:iS ld (i+1) i (y,-1):=new (e+1) hes (fun k hk=>by have:=d3 k hk e (by simp);omega) he.1 (.inr (by rw[cK];exact hei));refine⟨?_,fun k=>?_,?_,by simp[len],fun k x hx=>?_⟩
  ·rw[dw];exact⟨fun k hk=>(memk k hk).1,d2⟩
  ·rw[opn1 k,aT]
  ·rcases hroot with⟨r1,_⟩|⟨m,r1,t1,t2,t3⟩
   ·have:=he.1;omega
   ·refine .inr ⟨m,r1,t1,by omega,fun j j1 j2 j3=>?_⟩;by_cases hj:j=i
    ·subst hj;by_cases hem:e=m
     ·rw[←hem];exact hei
     ·exact L.trans _ _ _ (t3 e (by omega) he.1 hem) hei
    ·exact t3 j j1 (by omega) j3
  ·simp only at hx;rw[ef] at hx;split at hx
   ·rename_i hk;rw[bN,len] at hk;by_cases hke:k=e
    ·subst hke;rw[dH] at hx;obtain⟨z,hz⟩: ∃z,nodes[k]?=some z:=⟨nodes[k]'(by omega),ac _⟩;rw[hz] at hx;simp only[Option.map_eq_map,aZ,aK] at hx;subst hx;obtain⟨a,h,n1,n2,n3,n4⟩:=node k z hz;refine⟨a,i+1,n1,⟨by omega,by omega,((opn1 k).2 (.inr (by simp))).2,.inl rfl⟩,n3,.inr ⟨i,rfl,by omega,by omega,fun j j1 j2 j3=>behind (k+1) hes j j1 (by omega)⟩⟩
    ·rw[cM _ _ (by omega:e≠k)] at hx;exact keep k x hx (by intro e' es' h;simp at h;omega)
   ·rename_i hk;rw[bN,len] at hx hk;have:k=i:=by
     have:=(aj.1 hx).1;simp only[az] at this;omega
    subst this;simp at hx;rw[←hx];exact hn0
def cmake (ld:Nat→Nat→Bool):Nat→List Nat×Int×List (Int×Int)
 |0=>([],-1,[])
 |i+1=>lJ ld i (cmake ld i)
theorem ek {n:Nat}(L:Lin ld n): ∀i,i≤n→CInv ld i (cmake ld i)
 |0,_=>⟨.nil,fun k=>by simp[cmake,Opn],.inl ⟨am _,rfl⟩,rfl,fun k x h=>by simp[cmake] at h⟩
 |i+1,h=>J5 L (by omega) (ek L i (by omega))
theorem gL {n:Nat}(L:Lin ld n):gt ld n (cmake ld n).2.1 (cmake ld n).2.2:=by
 have:=ek L n (am _);exact⟨this.root,this.len,this.node⟩
end
end Bnd
namespace Bnd
open Go
section
variable {ld:Nat→Nat→Bool}
def Below (l:List (Int×Int))(i j:Nat):Prop:= ∃x,l[j]?=some x∧(x.1=(i:Int)∨x.2=(i:Int))
theorem lZ {n:Nat}(L:Lin ld n){root:Int}{l:List (Int×Int)}(C:gt ld n root l){i j:Nat}(h:Below l i j):
  ld j i=true∧((i<j∧IsHi ld n i j∧ ∃a,IsLo ld i a∧(a=0∨ld (a-1) j=true))∨(j<i∧IsLo ld i (j+1)∧ ∃b,IsHi ld n i b∧(b=n∨ld b j=true))):=by
 obtain⟨x,hx,h⟩:=h;obtain⟨a,b,⟨a1,a2,a3⟩,⟨b1,b2,b3,b4⟩,l1,l2⟩:=C.2.2 j x hx;have hj:j<n:=by have:=(aj.1 hx).1;have:=C.2.1;omega
 rcases h with h|h
 ·rw[h] at l1;rcases l1 with⟨_,l1⟩|⟨k,l1,t1,t2,t3⟩
  ·omega
  ·have:i=k:=by omega
   subst this;have led: ∀m,a≤m→m<j→ld j m=true:=fun m m1 m2=>by
    rcases L.total j m hj (by omega) (by omega) with g|g
    ·exact g
    ·rw[a2 m m1 m2] at g;cases g
   have hji:=led i t1 t2;refine⟨hji,.inl ⟨t2,⟨t2,by omega,fun m m1 m2=>L.asymm _ _ (t3 m (by omega) m2 (by omega)),.inr hji⟩,a,⟨t1,fun m m1 m2=>L.asymm _ _ (t3 m m1 (by omega) (by omega)),?_⟩,a3⟩⟩;rcases a3 with a3|a3
   ·exact .inl a3
   ·exact .inr (L.trans _ _ _ a3 hji)
 ·rw[h] at l2;rcases l2 with⟨_,l2⟩|⟨k,l2,t1,t2,t3⟩
  ·omega
  ·have:i=k:=by omega
   subst this;have led: ∀m,j<m→m<b→ld j m=true:=fun m m1 m2=>by
    rcases L.total j m hj (by omega) (by omega) with g|g
    ·exact g
    ·rw[b3 m m1 m2] at g;cases g
   have hji:=led i t1 t2;refine⟨hji,.inr ⟨by omega,⟨t1,fun m m1 m2=>L.asymm _ _ (t3 m m1 (by omega) (by omega)),.inr (by rw[cK];exact hji)⟩,b,⟨t2,b2,fun m m1 m2=>L.asymm _ _ (t3 m (by omega) m2 (by omega)),?_⟩,b4⟩⟩;rcases b4 with b4|b4
   ·exact .inl b4
   ·exact .inr (L.trans _ _ _ b4 hji)
theorem sY {n:Nat}(L:Lin ld n){root:Int}{l:List (Int×Int)}(C:gt ld n root l){i j j':Nat}(h:Below l i j)(h':Below l i j'):j=j':=by
 have hj:j<n:=by obtain⟨x,hx,_⟩:=h;have:=(aj.1 hx).1;have:=C.2.1;omega
 have hj':j'<n:=by obtain⟨x,hx,_⟩:=h';have:=(aj.1 hx).1;have:=C.2.1;omega
 obtain⟨_,h⟩:=lZ L C h;obtain⟨_,h'⟩:=lZ L C h';rcases h with⟨_,h1,a,h2,h3⟩|⟨_,h1,b,h2,h3⟩<;>rcases h' with⟨_,k1,c,k2,k3⟩|⟨_,k1,d,k2,k3⟩
 ·exact hi_uniq h1 k1
 ·exfalso;have e1:=mP h2 k1;have e2:=hi_uniq h1 k2;subst e1;subst e2;rw[cK] at h3;rcases h3 with h3|h3
  ·omega
  ·rcases k3 with k3|k3
   ·omega
   ·rw[L.asymm _ _ h3] at k3;cases k3
 ·exfalso;have e1:=mP k2 h1;have e2:=hi_uniq k1 h2;subst e1;subst e2;rw[cK] at k3;rcases k3 with k3|k3
  ·omega
  ·rcases h3 with h3|h3
   ·omega
   ·rw[L.asymm _ _ h3] at k3;cases k3
 ·have:=mP h1 k1;omega
end
end Bnd
namespace Bnd
open Go
def iW (t:Rt)(l:List Pt):List Pt:=l.mergeSort fun p q=>!leads t q p
def Ids (l:List Pt):Prop:=(l.map Pt.id).Nodup
theorem Ids.inj {l:List Pt}(h:Ids l){p q:Pt}(hp:p∈l)(hq:q∈l)(e:p.id=q.id):p=q:=by
 unfold Ids at h;obtain⟨i,hi⟩:=aA.1 hp;obtain⟨j,hj⟩:=aA.1 hq;have:=nodup_get.1 h i j p.id (by rw[aI,hi];rfl) (by rw[aI,hj,e];rfl);subst this;rw[hi] at hj;cases hj;rfl
theorem Ids.perm {l k:List Pt}(h:Ids l)(p:l.Perm k):Ids k:=(p.map Pt.id).nodup_iff.1 h
theorem Ids.tail {p:Pt}{l:List Pt}(h:Ids (p::l)):Ids l:=(bA.1 h).2
theorem Ids.filter {l:List Pt}(h:Ids l)(f:Pt→Bool):Ids (l.filter f):=List.Pairwise.sublist ((gc (l:=l) (p:=f)).map Pt.id) h
theorem Ids.nodup {l:List Pt}(h:Ids l):l.Nodup:=by
 rw[nodup_get];intro i j x hi hj;exact nodup_get.1 h i j x.id (by rw[aI,hi];rfl) (by rw[aI,hj];rfl)
theorem eS (t:Rt)(l:List Pt):(iW t l).Perm l:=ow ..
theorem pC {t:Rt}{l:List Pt}(h:Ids l):(iW t l).Pairwise fun p q=>leads t p q=true:=by
 have h1:(iW t l).Pairwise fun p q=>(!leads t q p)=true:=by
  refine lf (fun a b c h1 h2=>?_) (fun a b=>?_) l
  ·simp only[ai,←ig,leads_iff] at h1 h2⊢;have:=tZ t c b a;have:=iw t b a;have:=iw t c b;omega
  ·cases e:leads t b a with
   |false=>rfl
   |true=>rw[cZ e];rfl
 have h2:(iW t l).Pairwise fun p q=>p.id≠q.id:=by
  have:=h.perm (eS t l).symm;unfold Ids List.Nodup at this;rwa [dE] at this
 refine List.Pairwise.imp₂ (fun p q a b=>?_) h1 h2;rw[sW b] at a;simpa using a
def rank (t:Rt)(l:List Pt)(p:Pt):Nat:=(l.filter fun q=>decide (q.id≠p.id)&& leads t q p).length
theorem Il {t:Rt}{l k:List Pt}(h:l.Perm k)(p:Pt):rank t l p=rank t k p:=(h.filter _).length_eq
theorem qp {t:Rt}: ∀{l:List Pt},l.Pairwise (fun p q=>leads t p q=true)→Ids l→ ∀{i:Nat} {p:Pt},l[i]?=some p→rank t l p=i
 |[],_,_,i,p,h=>by simp at h
 |q::l,ho,hi,i,p,h=>by
  rw[dw] at ho;unfold Ids at hi;rw[bz,bA] at hi;cases i with
  |zero=>
   simp only[cL,aK] at h;subst h;unfold rank;rw[bM,l8];intro x hx;simp only[au,decide_eq_true_eq,not_and,ig];intro hne;rcases aT.1 hx with rfl|hx
   ·exact absurd rfl hne
   ·exact cZ (ho.1 x hx)
  |succ i=>
   simp only[lb] at h;have hm:=ah h;have ih:=qp ho.2 hi.2 h;unfold rank at ih⊢;rw[bE,if_pos,aD,ih];simp only[au,decide_eq_true_eq];exact⟨fun e=>hi.1 (by rw[e];exact aN.2 ⟨p,hm,rfl⟩),ho.1 p hm⟩
def ordered (t:Rt)(l:List Pt):List Pt→List Int→List Int
 |[],out=>out
 |p::ps,out=>ordered t l ps (out.set (rank t l p) p.id)
theorem sZ {t:Rt}{l s:List Pt}(hs:s.Perm l)(ho:s.Pairwise fun p q=>leads t p q=true)(hi:Ids l): ∀(done rest:List Pt) (out:List Int),done++rest=l→out.length=l.length→(∀(k:Nat) (p:Pt),s[k]?=some p→p∈done→out[k]?=some p.id)→ordered t l rest out=s.map Pt.id
 |done,[],out,h,hl,hk=>by
  rw[aJ] at h;subst h;unfold ordered;refine b9 fun k=>?_;rw[aI];cases e:s[k]? with
  |none=>
   rw[cW] at e;rw[bk (by have:=hs.length_eq;omega)];rfl
  |some p=>exact hk k p e (hs.mem_iff.1 (ah e))
 |done,p::rest,out,h,hl,hk=>by
  unfold ordered;refine sZ hs ho hi (done++[p]) rest _ (by simpa using h) (by simpa using hl) fun k q hq hm=>?_
  have hpl:p∈l:=by rw[←h];simp
  obtain⟨j,hj⟩:=aA.1 (hs.mem_iff.2 hpl);have hr:rank t l p=j:=(Il hs p).symm.trans (qp ho (hi.perm hs.symm) hj);rw[hr];by_cases e:k=j
  ·subst e;rw[hj] at hq;cases hq;rw[aC];have:=(aj.1 hj).1;have:=hs.length_eq;omega
  ·rw[aE (by omega)];refine hk k q hq ?_;rcases bh.1 hm with hm|hm
   ·exact hm
   ·simp only[bm] at hm;subst hm;exact absurd (nodup_get.1 (hi.perm hs.symm).nodup _ _ _ hq hj) e
theorem E6 {t:Rt}{l:List Pt}(hi:Ids l){out:List Int}(ho:out.length=l.length):ordered t l l out=(iW t l).map Pt.id:=
 sZ (eS t l) (pC hi) hi [] l out rfl ho (fun _ _ _ h=>by cases h)
def bitI (x:Int)(d:Nat):Int:=x.fdiv (2^(min d 64))% 2
def sideI (l:List Int)(d:Nat)(b:Int):List Int:=l.filter fun x=>decide (bitI x d=b)
theorem n9 {l:List Int}{d:Nat}{b:Int}:(sideI l d b).length≤l.length:=fx ..
def hangR:List Int→Int→Nat→List (Int×Int)
 |[],_,_=>[]
 |o::os,from',d=>(o,from')::(hangR (sideI os d 0) o (d+1)++hangR (sideI os d 1) o (d+1))
termination_by l _ _=>l.length
decreasing_by all_goals exact jX n9
def topP (t:Rt):List Pt→Pt→Pt
 |[],b=>b
 |p::ps,b=>topP t ps (if leads t p b then p else b)
def side (l:List Pt)(top:Int)(d:Nat)(b:Int):List Pt:=l.filter fun p=>decide (p.id≠top)&& decide (bitI p.id d=b)
theorem topP_mem (t:Rt): ∀(l:List Pt) (b:Pt),topP t l b=b∨topP t l b∈l
 |[],b=> .inl rfl
 |p::ps,b=>by
  unfold topP;rcases topP_mem t ps (if leads t p b then p else b) with h|h
  ·rw[h];split
   ·exact .inr (by simp)
   ·exact .inl rfl
  ·exact .inr (by simp[h])
theorem jo {t:Rt}{p:Pt}{l:List Pt}{d:Nat}{b:Int}:(side (p::l) (topP t l p).id d b).length<l.length+1:=by
 have hm:topP t l p∈p::l:=by
  rcases topP_mem t l p with h|h
  ·rw[h];simp
  ·simp[h]
 have: ∀(k:List Pt) (x:Pt),x∈k→(side k x.id d b).length<k.length:=by
  intro k;induction k with
  |nil=>intro x h;cases h
  |cons y k ih=>
   intro x h;unfold side at ih⊢;rw[bE];by_cases e:y.id=x.id
   ·rw[if_neg (by simp[e])];have:=fx (fun p=>decide (p.id≠x.id)&& decide (bitI p.id d=b)) k;rw[aD];omega
   ·have hx:x∈k:=by
     rcases aT.1 h with h|h
     ·exact absurd (by rw[h]) e
     ·exact h
    have:=ih x hx;split
    ·rw[aD,aD];omega
    ·rw[aD];omega
 exact this (p::l) _ hm
def hangP (t:Rt):List Pt→Int→Nat→List (Int×Int)
 |[],_,_=>[]
 |p::l,from',d=>((topP t l p).id,from')::(hangP t (side (p::l) (topP t l p).id d 0) (topP t l p).id (d+1)++hangP t (side (p::l) (topP t l p).id d 1) (topP t l p).id (d+1))
termination_by l _ _=>l.length
decreasing_by all_goals exact jo
theorem kP {t:Rt}: ∀(l:List Pt) (b:Pt),Ids (b::l)→ ∀q∈b::l,q≠topP t l b→leads t (topP t l b) q=true
 |[],b,_,q,hq,hne=>by simp[topP] at hq hne;exact absurd hq hne
 |p::ps,b,hi,q,hq,hne=>by
  unfold topP at hne⊢;have hpb:b.id≠p.id:=fun e=>(bA.1 hi).1 (by rw[e];simp);have hi1:Ids (p::ps):=hi.tail;have hi2:Ids (b::ps):=by
   unfold Ids at hi⊢;rw[bz,bz,bA,bA] at hi;rw[bz,bA];exact⟨fun e=>hi.1 (aF _ e),hi.2.2⟩
  cases e:leads t p b with
  |true=>
   simp only[e,if_true] at hne⊢;have ih:=kP (t:=t) ps p hi1;by_cases hb:q=b
   ·subst hb;by_cases hp:p=topP t ps p
    ·rw[←hp];exact e
    ·exact gU (ih p (by simp) hp) e
   ·refine ih q ?_ hne;rcases aT.1 hq with h|h
    ·exact absurd h hb
    ·exact h
  |false=>
   simp only[e,ad,if_false] at hne⊢;have ih:=kP (t:=t) ps b hi2;by_cases hb:q=p
   ·subst hb;have e':leads t b q=true:=by rw[sW (fun h=>hpb h.symm),e];rfl
    by_cases hp:b=topP t ps b
    ·rw[←hp];exact e'
    ·exact gU (ih b (by simp) hp) e'
   ·refine ih q ?_ hne;rcases aT.1 hq with h|h
    ·exact h▸(by simp)
    ·rcases aT.1 h with h|h
     ·exact absurd h hb
     ·exact aF _ h
theorem AV {t:Rt}: ∀(n:Nat) (l s:List Pt) (from':Int) (d:Nat),l.length≤n→s.Perm l→s.Pairwise (fun p q=>leads t p q=true)→Ids l→hangR (s.map Pt.id) from' d=hangP t l from' d:=by
 intro n;induction n with
 |zero=>
  intro l s from' d h hs _ _;have hl:l=[]:=bM.1 (by omega);subst hl;rw[hs.eq_nil];unfold hangP;rw[fy];unfold hangR;rfl
 |succ n ih=>
  intro l s from' d h hs ho hi;cases l with
  |nil=>
   rw[hs.eq_nil];unfold hangP;rw[fy];unfold hangR;rfl
  |cons p l=>
   cases s with
   |nil=>have:=hs.length_eq;simp at this
   |cons o os=>
    rw[dw] at ho;have his:Ids (o::os):=hi.perm hs.symm;have ho':o=topP t l p:=by
     by_cases e:o=topP t l p
     ·exact e
     ·exfalso;have h1:=kP (t:=t) l p hi o (hs.mem_iff.1 (by simp)) e;have hm:topP t l p∈o::os:=hs.mem_iff.2 (by
       rcases topP_mem t l p with h|h
       ·rw[h];simp
       ·simp[h])
      rcases aT.1 hm with hm|hm
      ·exact e hm.symm
      ·have:=ho.1 _ hm;rw[cZ h1] at this;cases this
    rw[bz];unfold hangR hangP;rw[←ho'];have sd: ∀b,(os.filter fun q=>decide (bitI q.id d=b)).Perm (side (p::l) o.id d b):=fun b=>by
     have:=hs.filter (fun p=>decide (p.id≠o.id)&& decide (bitI p.id d=b));rw[bE,if_neg (by simp)] at this;refine List.Perm.trans (List.Perm.of_eq ?_) this;refine fo fun q hq=>?_;have:q.id≠o.id:=fun e=>(bA.1 his).1 (by rw[←e];exact aN.2 ⟨q,hq,rfl⟩);rw[decide_eq_true this,cR]
    have go: ∀b,hangR (sideI (os.map Pt.id) d b) o.id (d+1)=hangP t (side (p::l) o.id d b) o.id (d+1):=fun b=>by
     unfold sideI;rw[List.filter_map];refine ih _ _ _ _ ?_ (sd b) (ho.2.sublist gc) (hi.filter _);have:=jo (t:=t) (p:=p) (l:=l) (d:=d) (b:=b);rw[←ho'] at this;simp only[aD] at h;omega
    rw[go 0,go 1]
end Bnd
namespace Bnd
open Go
def nodeV (wins places:List Int)(i:Nat):Int:=if i<wins.length then(wins[i]?).getD (-1) else(places[i-wins.length]?).getD (-1)
def gh (won:Int→Int→Int)(wins places:List Int):Prop:= ∀i,i<wins.length→nodeV wins places i=won (nodeV wins places (2*i+1)) (nodeV wins places (2*i+2))
def play (won:Int→Int→Int)(places:List Int):Nat→List Int→List Int
 |0,w=>w
 |i+1,w=>play won places i (w.set i (won (nodeV w places (2*i+1)) (nodeV w places (2*i+2))))
theorem nodeV_set {w places:List Int}{i j:Nat}{x:Int}(h:i≠j):nodeV (w.set i x) places j=nodeV w places j:=by
 unfold nodeV;rw[aB,aE h]
theorem play_ok {won:Int→Int→Int}{places:List Int}: ∀(i:Nat) (w v:List Int),i≤w.length→v.length=w.length→gh won v places→(∀j,i≤j→v[j]?=w[j]?)→play won places i w=v
 |0,w,v,_,hl,_,h=>by
  unfold play;exact(b9 fun j=>h j (by omega)).symm
 |i+1,w,v,hi,hl,hf,h=>by
  unfold play;refine play_ok i _ v (by simp;omega) (by simpa using hl) hf fun j hj=>?_
  have nv: ∀m,i<m→nodeV v places m=nodeV w places m:=fun m hm=>by
   unfold nodeV;rw[hl,h m (by omega)]
  by_cases e:j=i
  ·subst e;rw[aC (by omega),←nv _ (by omega),←nv _ (by omega),←hf j (by omega)];unfold nodeV;rw[if_pos (by omega),ac (show j<v.length by omega)]
   rfl
  ·rw[aE (by omega)];exact h j (by omega)
theorem play_fine {won:Int→Int→Int}{places:List Int}: ∀(i:Nat) (w:List Int),i≤w.length→(∀j,i≤j→j<w.length→nodeV w places j=won (nodeV w places (2*j+1)) (nodeV w places (2*j+2)))→gh won (play won places i w) places
 |0,w,_,h=>fun j hj=>h j (by omega) hj
 |i+1,w,hi,h=>by
  unfold play;refine play_fine i _ (by simp;omega) fun j hj hl=>?_;rw[aB] at hl;by_cases e:j=i
  ·subst e;rw[nodeV_set (show j≠2*j+1 by omega),nodeV_set (show j≠2*j+2 by omega)]
   have: ∀x:Int,nodeV (w.set j x) places j=x:=fun x=>by
    unfold nodeV;rw[aB,if_pos hl,aC hl];rfl
   rw[this]
  ·rw[nodeV_set (show i≠j by omega),nodeV_set (show i≠2*j+1 by omega),nodeV_set (show i≠2*j+2 by omega)]
   exact h j (by omega) hl
theorem J6 {won:Int→Int→Int}{places v:List Int}{w:List Int}(hl:v.length=w.length):play won places w.length w=v↔gh won v places:=by
 constructor
 ·intro h;rw[←h];exact play_fine _ w (am _) fun j h1 h2=>by omega
 ·intro h;exact play_ok _ w v (am _) hl h fun j hj=>by rw[bk (by omega),bk (by omega)]
structure Match (wins places:List Int):Prop where
 len:places.length=wins.length+1
 once: ∀(i j:Nat) (x:Int),0≤x→places[i]?=some x→places[j]?=some x→i=j
 pick: ∀i,i<wins.length→nodeV wins places i=nodeV wins places (2*i+1)∨nodeV wins places i=nodeV wins places (2*i+2)
def anc (q:Nat):Nat→Nat
 |0=>q
 |k+1=>(anc q k-1)/2
theorem oa {wins places:List Int}(M:Match wins places){z:Int}(hz:0≤z){q:Nat}(hq:places[q]?=some z): ∀(d i:Nat),2*places.length-i=d→i<2*places.length→nodeV wins places i=z→ ∃k,i=anc (wins.length+q) k∧ ∀k',k'<k→nodeV wins places (anc (wins.length+q) k')=z∧0<anc (wins.length+q) k':=by
 intro d;induction d using Nat.strongRecOn with
 |ind d ih=>
  intro i hd hi hv;by_cases hlt:i<wins.length
  ·have hl:=M.len;have step: ∀c,(c=2*i+1∨c=2*i+2)→nodeV wins places c=z→ ∃k,i=anc (wins.length+q) k∧ ∀k',k'<k→nodeV wins places (anc (wins.length+q) k')=z∧0<anc (wins.length+q) k':=fun c hc hvc=>by
    obtain⟨k,h1,h2⟩:=ih (2*places.length-c) (by omega) c rfl (by omega) hvc;refine⟨k+1,by unfold anc;rw[←h1];omega,fun k' hk'=>?_⟩;by_cases e:k'=k
    ·subst e;rw[←h1];exact⟨hvc,by omega⟩
    ·exact h2 k' (by omega)
   rcases M.pick i hlt with h|h
   ·exact step _ (.inl rfl) (by rw[←h];exact hv)
   ·exact step _ (.inr rfl) (by rw[←h];exact hv)
  ·refine⟨0,?_,fun k' h=>by omega⟩;unfold nodeV at hv;rw[if_neg hlt] at hv;cases e:places[i-wins.length]? with
   |none=>rw[e] at hv;simp at hv;omega
   |some x=>
    rw[e] at hv;simp only[bj] at hv;subst hv;have:=M.once _ _ x hz e hq;simp only[anc];omega
theorem qR {q:Nat}: ∀{k:Nat},(∀k',k'<k→0<anc q k')→ ∀{j:Nat},j<k→anc q k<anc q j
 |0,_,j,h=>by omega
 |k+1,hp,j,h=>by
  have h0:=hp k (by omega);have h1:anc q (k+1)<anc q k:=by show(anc q k-1)/2<anc q k;omega
  by_cases e:j=k
  ·subst e;exact h1
  ·have:=qR (q:=q) (k:=k) (fun k' hk'=>hp k' (by omega)) (j:=j) (by omega);omega
theorem Im {wins places:List Int}(M:Match wins places){z:Int}(hz:0≤z){i j c e:Nat}(hi:i<wins.length)(hj:j<wins.length)(hc:c=2*i+1∨c=2*i+2)(he:e=2*j+1∨e=2*j+2)
  (vc:nodeV wins places c=z) (ve:nodeV wins places e=z) (vi:nodeV wins places i≠z) (vj:nodeV wins places j≠z):i=j:=by
 have hl:=M.len;have leaf: ∀(d i:Nat),2*places.length-i=d→i<2*places.length→nodeV wins places i=z→ ∃q:Nat,places[q]?=some z:=by
  intro d;induction d using Nat.strongRecOn with
  |ind d ih=>
   intro i hd hi hv;by_cases hlt:i<wins.length
   ·rcases M.pick i hlt with h|h
    ·exact ih _ (by omega) (2*i+1) rfl (by omega) (by rw[←h];exact hv)
    ·exact ih _ (by omega) (2*i+2) rfl (by omega) (by rw[←h];exact hv)
   ·unfold nodeV at hv;rw[if_neg hlt] at hv;cases e:places[i-wins.length]? with
    |none=>rw[e] at hv;simp at hv;omega
    |some x=>rw[e] at hv;simp only[bj] at hv;exact⟨_,by rw[e,hv]⟩
 obtain⟨q,hq⟩:=leaf _ c rfl (by omega) vc;obtain⟨k,k1,k2⟩:=oa M hz hq _ c rfl (by omega) vc;obtain⟨m,m1,m2⟩:=oa M hz hq _ e rfl (by omega) ve;rcases cq k m with g|g|g
 ·exfalso;have hp:anc (wins.length+q) (k+1)=i:=by show(anc (wins.length+q) k-1)/2=i;rw[←k1];omega
  by_cases hkm:k+1=m
  ·subst hkm;rw[hp] at m1;subst m1;exact vi ve
  ·have:=(m2 (k+1) (by omega)).1;rw[hp] at this;exact vi this
 ·subst g;rw[←m1] at k1;omega
 ·exfalso;have hp:anc (wins.length+q) (m+1)=j:=by show(anc (wins.length+q) m-1)/2=j;rw[←m1];omega
  by_cases hkm:m+1=k
  ·subst hkm;rw[hp] at k1;subst k1;exact vj vc
  ·have:=(k2 (m+1) (by omega)).1;rw[hp] at this;exact vj this
theorem zU {wins places:List Int}(M:Match wins places){z:Int}(hz:0≤z){i:Nat}(hi:i<wins.length)(h1:nodeV wins places (2*i+1)=z)(h2:nodeV wins places (2*i+2)=z):False:=by
 have hl:=M.len;have leaf: ∀(d i:Nat),2*places.length-i=d→i<2*places.length→nodeV wins places i=z→ ∃q:Nat,places[q]?=some z:=by
  intro d;induction d using Nat.strongRecOn with
  |ind d ih=>
   intro i hd hi hv;by_cases hlt:i<wins.length
   ·rcases M.pick i hlt with h|h
    ·exact ih _ (by omega) (2*i+1) rfl (by omega) (by rw[←h];exact hv)
    ·exact ih _ (by omega) (2*i+2) rfl (by omega) (by rw[←h];exact hv)
   ·unfold nodeV at hv;rw[if_neg hlt] at hv;cases e:places[i-wins.length]? with
    |none=>rw[e] at hv;simp at hv;omega
    |some x=>rw[e] at hv;simp only[bj] at hv;exact⟨_,by rw[e,hv]⟩
 obtain⟨q,hq⟩:=leaf _ (2*i+1) rfl (by omega) h1;obtain⟨k,k1,k2⟩:=oa M hz hq _ _ rfl (by omega) h1;obtain⟨m,m1,m2⟩:=oa M hz hq _ _ rfl (by omega) h2;have hk:anc (wins.length+q) (k+1)=i:=by show(anc (wins.length+q) k-1)/2=i;rw[←k1];omega
 have hm:anc (wins.length+q) (m+1)=i:=by show(anc (wins.length+q) m-1)/2=i;rw[←m1];omega
 rcases cq k m with g|g|g
 ·by_cases e:k+1=m
  ·subst e;omega
  ·have:=qR (q:=wins.length+q) (k:=m) (fun k' h=>(m2 k' h).2) (j:=k+1) (by omega);omega
 ·subst g;omega
 ·by_cases e:m+1=k
  ·subst e;omega
  ·have:=qR (q:=wins.length+q) (k:=k) (fun k' h=>(k2 k' h).2) (j:=m+1) (by omega);omega
end Bnd
namespace Bnd
open Go
theorem uO {x y:Nat}:x*y=(x/4294967296)*(y/4294967296)*18446744073709551616+((x% 4294967296)*(y/4294967296)+(x/4294967296)*(y% 4294967296))*4294967296+(x% 4294967296)*(y% 4294967296):=by
 have e1:x=(x/4294967296)*4294967296+x% 4294967296:=by omega
 have e2:y=(y/4294967296)*4294967296+y% 4294967296:=by omega
 generalize x/4294967296=a at*;generalize x% 4294967296=b at*;generalize y/4294967296=c at*;generalize y% 4294967296=d at*;subst e1;subst e2;simp only[bw,l9];have h1:a*4294967296*(c*4294967296)=a*c*18446744073709551616:=by rw[Nat.mul_mul_mul_comm]
 have h2:a*4294967296*d=a*d*4294967296:=by rw[Nat.mul_right_comm]
 have h3:b*(c*4294967296)=b*c*4294967296:=by rw[Nat.mul_assoc]
 omega
theorem fU {a b:Nat}(h:a<4294967296)(k:b<4294967296):a*b≤18446744065119617025:=by
 have:=dx (show a≤4294967295 by omega) (show b≤4294967295 by omega)
 omega
theorem R3 {x y:Nat}(hx:x<18446744073709551616)(hy:y<18446744073709551616):
  (x/4294967296)*(y/4294967296)+((x/4294967296)*(y% 4294967296)+(x% 4294967296)*(y% 4294967296)/4294967296)/4294967296+
   (((x/4294967296)*(y% 4294967296)+(x% 4294967296)*(y% 4294967296)/4294967296)% 4294967296+(x% 4294967296)*(y/4294967296))/4294967296=x*y/18446744073709551616:=by
 rw[uO (x:=x) (y:=y)];have h1:=fU (a:=x% 4294967296) (b:=y% 4294967296) (by omega) (by omega);have h2:=fU (a:=x/4294967296) (b:=y% 4294967296) (by omega) (by omega);have h3:=fU (a:=x% 4294967296) (b:=y/4294967296) (by omega) (by omega);have h4:=fU (a:=x/4294967296) (b:=y/4294967296) (by omega) (by omega);omega
theorem Am {a:Nat}(h:a<18446744073709551616):(BitVec.ofInt 64 (a:Int)&&& BitVec.ofInt 64 4294967295).toNat=a% 4294967296:=by
 rw[kU,gA,gA];rw[show((a:Int)%((2^ 64:Nat):Int)).toNat=a by omega,show(4294967295%((2^ 64:Nat):Int)).toNat=2^ 32-1 by decide,Nat.and_two_pow_sub_one_eq_mod]
end Bnd
namespace Bnd
open Go
def markF:List Bool→List Int→Option (List Bool)
 |l,[]=>some l
 |l,x::xs=>if 0≤x∧x<l.length∧l[x.toNat]?=some false then markF (l.set x.toNat true) xs else none
theorem gu: ∀{xs:List Int} {l l':List Bool},markF l xs=some l'↔(∀x∈xs,0≤x∧x<l.length∧l[x.toNat]?=some false)∧xs.Nodup∧l'.length=l.length∧ ∀i:Nat,i<l.length→l'[i]?=if(i:Int)∈xs then some true else l[i]?
 |[],l,l'=>by
  simp only[markF,aK,List.not_mem_nil,false_implies,implies_true,gN,true_and,if_false];constructor
  ·rintro rfl;exact⟨rfl,fun _ _=>rfl⟩
  ·rintro⟨h1,h2⟩;refine b9 fun i=>?_;by_cases hi:i<l.length
   ·exact(h2 i hi).symm
   ·rw[bk (by omega),bk (by omega)]
 |x::xs,l,l'=>by
  unfold markF;by_cases hc:0≤x∧x<l.length∧l[x.toNat]?=some false
  ·rw[if_pos hc,gu];obtain⟨c1,c2,c3⟩:=hc;rw[aB];constructor
   ·rintro⟨h1,h2,h3,h4⟩;have hx:x∉xs:=fun hm=>by
     have:=(h1 x hm).2.2;rw[aC (by omega)] at this;cases this
    refine⟨fun y hy=>?_,bA.2 ⟨hx,h2⟩,h3,fun i hi=>?_⟩
    ·rcases aT.1 hy with rfl|hy
     ·exact⟨c1,c2,c3⟩
     ·obtain⟨g1,g2,g3⟩:=h1 y hy;have:x≠y:=fun e=>hx (e▸hy);rw[aE (by omega)] at g3;exact⟨g1,g2,g3⟩
    ·rw[h4 i hi];by_cases e:x=i
     ·subst e;rw[if_neg hx,if_pos (by simp)];rw[aq,aC (by omega)]
     ·have:(i:Int)∈x::xs↔(i:Int)∈xs:=by
       rw[aT];exact⟨fun h=>h.resolve_left (fun e'=>e e'.symm),.inr⟩
      rw[aE (by omega)];by_cases hm:(i:Int)∈xs
      ·rw[if_pos hm,if_pos (this.2 hm)]
      ·rw[if_neg hm,if_neg (fun h=>hm (this.1 h))]
   ·rintro⟨h1,h2,h3,h4⟩;rw[bA] at h2;refine⟨fun y hy=>?_,h2.2,h3,fun i hi=>?_⟩
    ·obtain⟨g1,g2,g3⟩:=h1 y (by simp[hy]);have:x≠y:=fun e=>h2.1 (e▸hy);rw[aE (by omega)];exact⟨g1,g2,g3⟩
    ·rw[h4 i hi];by_cases e:x=i
     ·subst e;rw[if_neg h2.1,if_pos (by simp),aq,aC (by omega)]
     ·have:(i:Int)∈x::xs↔(i:Int)∈xs:=by
       rw[aT];exact⟨fun h=>h.resolve_left (fun e'=>e e'.symm),.inr⟩
      rw[aE (by omega)];by_cases hm:(i:Int)∈xs
      ·rw[if_pos hm,if_pos (this.2 hm)]
      ·rw[if_neg hm,if_neg (fun h=>hm (this.1 h))]
  ·rw[if_neg hc];constructor
   ·intro h;cases h
   ·rintro⟨h1,_⟩;exact absurd (h1 x (by simp)) hc
structure Slots where
 uses:List Int
 used:List Bool
 free:List Int
 deriving DecidableEq
def Slots.okP (s:Slots):Prop:=1≤s.uses.length∧s.uses.length≤200∧s.used.length=s.uses.length∧(∃l,markF s.used s.free=some l∧false∉l)∧ ∀(i:Nat) (u:Int),s.uses[i]?=some u→0≤u∧u≤1000000∧¬(u=0∧s.used[i]?=some true)
def Slots.okR (s:Slots):Prop:=1≤s.uses.length∧s.uses.length≤200∧s.used.length=s.uses.length∧s.free.length≤s.uses.length∧ ∃l,markF (List.replicate s.uses.length false) s.free=some l∧ ∀(i:Nat) (u:Int) (b c:Bool),s.uses[i]?=some u→s.used[i]?=some b→l[i]?=some c→0≤u∧u≤1000000∧b≠c∧¬(b=true∧u<1)
theorem nodup_bound {xs:List Int}{n:Nat}(h:xs.Nodup)(hb: ∀x∈xs,0≤x∧x<n):xs.length≤n:=by
 have:=tY (l:=xs) (k:=(List.range n).map fun i:Nat=>(i:Int)) h fun x hx=>by
  obtain⟨h1,h2⟩:=hb x hx;exact aN.2 ⟨x.toNat,bT.2 (by omega),by omega⟩
 simpa using this
theorem Slots.ok_iff (s:Slots):s.okP↔s.okR:=by
 unfold Slots.okP Slots.okR;constructor
 ·rintro⟨h1,h2,h3,⟨l,h4,h5⟩,h6⟩;obtain⟨m1,m2,m3,m4⟩:=gu.1 h4;have hr:markF (List.replicate s.uses.length false) s.free=some ((List.range s.uses.length).map fun i:Nat=>decide ((i:Int)∈s.free)):=by
   rw[gu];refine⟨fun x hx=>?_,m2,by simp,fun i hi=>?_⟩
   ·obtain⟨g1,g2,_⟩:=m1 x hx;rw[aQ];refine⟨g1,by omega,?_⟩;rw[bX,if_pos (by omega)]
   ·rw[aQ] at hi;rw[aI,dI hi,bX,if_pos hi];by_cases e:(i:Int)∈s.free<;>simp[e]
  refine⟨h1,h2,h3,nodup_bound m2 fun x hx=>⟨(m1 x hx).1,by have:=(m1 x hx).2.1;omega⟩,_,hr,fun i u b c hu hb hc=>?_⟩;have hi:=(aj.1 hu).1;obtain⟨g1,g2,g3⟩:=h6 i u hu;rw[aI,dI hi] at hc;simp only[aZ,aK] at hc;have hl:=m4 i (by omega);refine⟨g1,g2,?_,?_⟩
  ·by_cases e:(i:Int)∈s.free
   ·have:=(m1 _ e).2.2;rw[aq,hb] at this;cases this;rw[←hc];simp[e]
   ·rw[if_neg e,hb] at hl;rw[←hc];cases b with
    |true=>simp[e]
    |false=>exact absurd (ah hl) h5
  ·rintro⟨rfl,h⟩;exact g3 ⟨by omega,hb⟩
 ·rintro⟨h1,h2,h3,h4,l,h5,h6⟩;obtain⟨m1,m2,m3,m4⟩:=gu.1 h5;rw[aQ] at m3 m4;have facts: ∀i:Nat,i<s.uses.length→ ∃u b,s.uses[i]?=some u∧s.used[i]?=some b∧l[i]?=some (decide ((i:Int)∈s.free))∧0≤u∧u≤1000000∧b=!decide ((i:Int)∈s.free)∧¬(b=true∧u<1):=fun i hi=>by
   have hl:=m4 i hi;rw[bX,if_pos hi] at hl;have hl':l[i]?=some (decide ((i:Int)∈s.free)):=by
    rw[hl];by_cases e:(i:Int)∈s.free<;>simp[e]
   obtain⟨g1,g2,g3,g4⟩:=h6 i _ _ _ (ac hi) (ac (by omega)) hl';refine⟨_,_,ac hi,ac (by omega),hl',g1,g2,?_,g4⟩
   revert g3
   cases s.used[i]<;>cases decide ((i:Int)∈s.free)<;>simp
  refine⟨h1,h2,h3,⟨List.replicate s.used.length true,?_,by simp[eV]⟩,fun i u hu=>?_⟩
  ·rw[gu];refine⟨fun x hx=>?_,m2,by simp,fun i hi=>?_⟩
   ·obtain⟨g1,g2,_⟩:=m1 x hx;rw[aQ] at g2;obtain⟨u,b,q1,q2,_,_,_,q3,_⟩:=facts x.toNat (by omega);refine⟨g1,by omega,?_⟩;rw[q2,q3,show((x.toNat:Nat):Int)=x by omega]
    simp[hx]
   ·obtain⟨u,b,q1,q2,_,_,_,q3,_⟩:=facts i (by omega);rw[bX,if_pos hi,q2,q3];by_cases e:(i:Int)∈s.free<;>simp[e]
  ·have hi:=(aj.1 hu).1;obtain⟨u',b,q1,q2,_,q4,q5,q3,q6⟩:=facts i hi;rw[hu] at q1;cases q1;refine⟨q4,q5,?_⟩;rintro⟨rfl,hb⟩;rw[q2] at hb;cases hb;exact q6 ⟨rfl,by omega⟩
end Bnd
namespace Bnd
open Go
def luk (ps:List (Int×Int))(k:Int)(v:Int):Int:=ps.foldl (fun v x=>if x.1=k then x.2 else v) v
theorem jx {t:Rt}: ∀(n:Nat) (l:List Pt) (from':Int) (d:Nat),l.length≤n→Ids l→ ∀x∈hangP t l from' d,∃p∈l,p.id=x.1∧(x.2=from'∨ ∃q∈l,q.id=x.2∧leads t q p=true):=by
 intro n;induction n with
 |zero=>
  intro l from' d h _ x hx;have hl:l=[]:=bM.1 (by omega);subst hl;unfold hangP at hx;cases hx
 |succ n ih=>
  intro l from' d h hi x hx;cases l with
  |nil=>unfold hangP at hx;cases hx
  |cons p l=>
   unfold hangP at hx;have htm:topP t l p∈p::l:=by
    rcases topP_mem t l p with h|h
    ·rw[h];simp
    ·simp[h]
   rcases aT.1 hx with rfl|hx
   ·exact⟨_,htm,rfl,.inl rfl⟩
   ·have go: ∀b,x∈hangP t (side (p::l) (topP t l p).id d b) (topP t l p).id (d+1)→ ∃p'∈p::l,p'.id=x.1∧(x.2=from'∨ ∃q∈p::l,q.id=x.2∧leads t q p'=true):=fun b hb=>by
     have hlen:=jo (t:=t) (p:=p) (l:=l) (d:=d) (b:=b);obtain⟨p',hp',e,hh⟩:=ih (side (p::l) (topP t l p).id d b) _ _ (by simp only[aD] at h;omega) (hi.filter _) x hb;obtain⟨hm,hc⟩:=aX.1 hp';refine⟨p',hm,e,.inr ?_⟩;rcases hh with hh|⟨q,hq,e',hl⟩
     ·refine⟨_,htm,hh.symm,kP l p hi p' hm fun e=>?_⟩;rw[←e] at hc;simp at hc
     ·exact⟨q,(aX.1 hq).1,e',hl⟩
    rcases bh.1 hx with hx|hx
    ·exact go 0 hx
    ·exact go 1 hx
theorem luk_mem {ps:List (Int×Int)}{k v:Int}:luk ps k v=v∨(k,luk ps k v)∈ps:=by
 induction ps generalizing v with
 |nil=>exact .inl rfl
 |cons x ps ih=>
  unfold luk at ih⊢;rw[bI];rcases ih (v:=if x.1=k then x.2 else v) with h|h
  ·by_cases e:x.1=k
   ·rw[if_pos e] at h⊢;rw[h];exact .inr (by rw[←e];simp)
   ·rw[if_neg e] at h⊢;exact .inl h
  ·exact .inr (aF _ h)
theorem E7 {t:Rt}: ∀(n:Nat) (l:List Pt) (from':Int) (d:Nat),l.length≤n→Ids l→(∀p∈l,0≤p.id)→ ∀p∈l,∃f,(p.id,f)∈hangP t l from' d:=by
 intro n;induction n with
 |zero=>
  intro l from' d h _ _ p hp;have hl:l=[]:=bM.1 (by omega);subst hl;cases hp
 |succ n ih=>
  intro l from' d h hi h0 q hq;cases l with
  |nil=>cases hq
  |cons p l=>
   unfold hangP;by_cases e:q.id=(topP t l p).id
   ·exact⟨from',by rw[e];simp⟩
   ·have hb:bitI q.id d=0∨bitI q.id d=1:=by unfold bitI;omega
    have go: ∀b,bitI q.id d=b→ ∃f,(q.id,f)∈hangP t (side (p::l) (topP t l p).id d b) (topP t l p).id (d+1):=fun b hb=>by
     have hlen:=jo (t:=t) (p:=p) (l:=l) (d:=d) (b:=b);exact ih (side (p::l) (topP t l p).id d b) _ _ (by simp only[aD] at h;omega) (hi.filter _) (fun p hp=>h0 p (aX.1 hp).1) q (aX.2 ⟨hq,by simp[e,hb]⟩)
    rcases hb with hb|hb
    ·obtain⟨f,hf⟩:=go 0 hb;exact⟨f,aF _ (b5 _ hf)⟩
    ·obtain⟨f,hf⟩:=go 1 hb;exact⟨f,aF _ (cI _ hf)⟩
end Bnd
namespace Bnd
open Go
theorem t6: ∀{ps:List (Int×Int)} {k v:Int},(∃f,(k,f)∈ps)→(k,luk ps k v)∈ps
 |[],k,v,⟨f,h⟩=>by cases h
 |x::ps,k,v,⟨f,h⟩=>by
  unfold luk;rw[bI];rcases luk_mem (ps:=ps) (k:=k) (v:=if x.1=k then x.2 else v) with e|e
  ·unfold luk at e;rw[e];by_cases hx:x.1=k
   ·rw[if_pos hx];subst hx;simp
   ·rw[if_neg hx] at e⊢;rcases aT.1 h with h|h
    ·rw[←h] at hx;exact absurd rfl hx
    ·have:=t6 (v:=v) ⟨f,h⟩;unfold luk at this;rw[e] at this;exact aF _ this
  ·exact aF _ e
end Bnd
namespace Bnd
open Go
def upArr:List (Int×Int)→Nat→List Int→List Int
 |[],_,up=>up
 |x::l,j,up=>upArr l (j+1) ((if 0≤x.2 then(if 0≤x.1 then up.set x.1.toNat j else up).set x.2.toNat j else(if 0≤x.1 then up.set x.1.toNat j else up)))
theorem uP: ∀(l:List (Int×Int)) (j:Nat) (up:List Int),(upArr l j up).length=up.length
 |[],j,up=>rfl
 |x::l,j,up=>by
  unfold upArr;rw[uP l]
  repeat' split
  all_goals simp
def ic (x:Int×Int)(i:Nat):Prop:=x.1=(i:Int)∨x.2=(i:Int)
instance (x:Int×Int) (i:Nat):Decidable (ic x i):=by unfold ic;infer_instance
theorem uQ: ∀(l:List (Int×Int)) (j:Nat) (up:List Int) (i:Nat),i<up.length→
  (∀(k:Nat) (x:Int×Int),l[k]?=some x→ic x i→ ∀(k':Nat) (x':Int×Int),l[k']?=some x'→ic x' i→k=k')→
  (upArr l j up)[i]?=match l.findIdx? (fun x=>decide (ic x i)) with|some k=>some ((j+k:Nat):Int)|none=>up[i]?
 |[],j,up,i,_,_=>rfl
 |x::l,j,up,i,hi,hu=>by
  unfold upArr;have hl: ∀up':List Int,up'.length=up.length→(∀(k:Nat) (x':Int×Int),l[k]?=some x'→ic x' i→ ∀(k':Nat) (x'':Int×Int),l[k']?=some x''→ic x'' i→k=k')→(upArr l (j+1) up')[i]?=match l.findIdx? (fun x=>decide (ic x i)) with|some k=>some ((j+1+k:Nat):Int)|none=>up'[i]?:=
   fun up' h1 h2=>uQ l (j+1) up' i (by omega) h2
  have hu': ∀(k:Nat) (x':Int×Int),l[k]?=some x'→ic x' i→ ∀(k':Nat) (x'':Int×Int),l[k']?=some x''→ic x'' i→k=k':=fun k x' h1 h2 k' x'' h3 h4=>by
   have:=hu (k+1) x' (by simpa using h1) h2 (k'+1) x'' (by simpa using h3) h4
   omega
  rw[hl _ (by repeat' split
              all_goals simp) hu',jM]
  by_cases hc:ic x i
  ·rw[decide_eq_true hc];simp only[if_true,fB];have hn:l.findIdx? (fun x=>decide (ic x i))=none:=by
    rw[bO];intro y hy;obtain⟨k,hk⟩:=aA.1 hy;refine decide_eq_false fun h=>?_;have:=hu 0 x rfl hc (k+1) y (by simpa using hk) h
    omega
   rw[hn];simp only;rcases hc with h|h
   ·rw[h];by_cases c:0≤x.2
    ·rw[if_pos c,if_pos (by omega)];by_cases e:x.2.toNat=i
     ·rw[e,aC (by simpa using hi)]
     ·rw[aE e,aq,aC hi]
    ·rw[if_neg c,if_pos (by omega),aq,aC hi]
   ·rw[h,if_pos (by omega),aq,aC];split
    ·simpa using hi
    ·exact hi
  ·rw[decide_eq_false hc];simp only[ad,if_false];have hset:(if 0≤x.2 then(if 0≤x.1 then up.set x.1.toNat j else up).set x.2.toNat j else(if 0≤x.1 then up.set x.1.toNat j else up))[i]?=up[i]?:=by
    have a1:0≤x.1→x.1.toNat≠i:=fun h e=>hc (.inl (by omega));have a2:0≤x.2→x.2.toNat≠i:=fun h e=>hc (.inr (by omega));by_cases c1:0≤x.1<;>by_cases c2:0≤x.2
    ·rw[if_pos c2,if_pos c1,aE (a2 c2),aE (a1 c1)]
    ·rw[if_neg c2,if_pos c1,aE (a1 c1)]
    ·rw[if_pos c2,if_neg c1,aE (a2 c2)]
    ·rw[if_neg c2,if_neg c1]
   rw[hset];cases l.findIdx? (fun x=>decide (ic x i)) with
   |none=>rfl
   |some k=>simp only[aZ];rw[show j+1+k=j+(k+1) by omega]
theorem qq {α:Type}{p:α→Bool}: ∀{l:List α},(∀(k k':Nat) (x x':α),l[k]?=some x→p x=true→l[k']?=some x'→p x'=true→k=k')→(l.filter p)=match l.findIdx? p with|some k=>(l[k]?).toList|none=>[]
 |[],_=>rfl
 |a::l,h=>by
  have h': ∀(k k':Nat) (x x':α),l[k]?=some x→p x=true→l[k']?=some x'→p x'=true→k=k':=fun k k' x x' h1 h2 h3 h4=>by
   have:=h (k+1) (k'+1) x x' (by simpa using h1) h2 (by simpa using h3) h4
   omega
  rw[bE,jM];cases e:p a with
  |true=>
   simp only[if_true];have:l.filter p=[]:=by
    rw[l8];intro x hx hp;obtain⟨k,hk⟩:=aA.1 hx;have:=h 0 (k+1) a x rfl e (by simpa using hk) hp
    omega
   rw[this];rfl
  |false=>
   simp only[ad,if_false];rw[qq h'];cases l.findIdx? p with
   |none=>rfl
   |some k=>simp
end Bnd
namespace Bnd
open Go
def dO (l:List Int):Prop:= ∀(i:Nat),i<l.length→ ∀x,l[i]?=some x→0≤x→ ∀j,j<i→l[j]?≠some x
theorem uR {l:List Int}:dO l↔ ∀(i j:Nat) (x:Int),0≤x→l[i]?=some x→l[j]?=some x→i=j:=by
 constructor
 ·intro h i j x hx hi hj;have hi':=(aj.1 hi).1;have hj':=(aj.1 hj).1;rcases cq i j with g|g|g
  ·exact absurd hi (h j hj' x hj hx i g)
  ·exact g
  ·exact absurd hj (h i hi' x hi hx j g)
 ·intro h i _ x hi hx j hj e;have:=h i j x hx hi e;omega
theorem qc {wins places:List Int}{i:Nat}{x:Int}(h:wins[i]?=some x):nodeV wins places i=x:=by
 have:=(aj.1 h).1;unfold nodeV;rw[if_pos this,h];rfl
theorem t7 {wins places:List Int}{i:Nat}{x:Int}(hi:¬i<wins.length)(h:places[i-wins.length]?=some x):nodeV wins places i=x:=by
 unfold nodeV;rw[if_neg hi,h];rfl
def pickA (wins places:List Int)(i:Nat):Prop:=nodeV wins places i=nodeV wins places (2*i+1)∨nodeV wins places i=nodeV wins places (2*i+2)
def ku (wins places:List Int):Prop:=(1≤places.length∧places.length≤64∧places.length=wins.length+1)∧dO places∧ ∀x∈places,-1≤x∧x≤65535
def f9 (wins places:List Int):Prop:=ku wins places∧ ∀i,i<wins.length→pickA wins places i∧¬(nodeV wins places i<0∧0≤max (nodeV wins places (2*i+1)) (nodeV wins places (2*i+2)))
def qU (wins places:List Int):Prop:=ku wins places∧ ∀i,i<wins.length→pickA wins places i∧¬(nodeV wins places i= -1∧(nodeV wins places (2*i+1)≠ -1∨nodeV wins places (2*i+2)≠ -1))
theorem zV {wins places:List Int}(hb:ku wins places)(hp: ∀i,i<wins.length→pickA wins places i): ∀(d i:Nat),2*places.length-i=d→ -1≤nodeV wins places i:=by
 intro d;induction d using Nat.strongRecOn with
 |ind d ih=>
  intro i hd;by_cases hlt:i<wins.length
  ·have:=hb.1.2.2;rcases hp i hlt with h|h
   ·rw[h];exact ih _ (by omega) _ rfl
   ·rw[h];exact ih _ (by omega) _ rfl
  ·unfold nodeV;rw[if_neg hlt];cases e:places[i-wins.length]? with
   |none=>simp
   |some x=>exact(hb.2.2 x (ah e)).1
theorem J7 {wins places:List Int}:f9 wins places↔qU wins places:=by
 constructor
 ·rintro⟨hb,h⟩;refine⟨hb,fun i hi=>⟨(h i hi).1,fun hn=>(h i hi).2 ?_⟩⟩;have g:=fun i=>zV hb (fun i hi=>(h i hi).1) _ i rfl;have:=g (2*i+1);have:=g (2*i+2);omega
 ·rintro⟨hb,h⟩;refine⟨hb,fun i hi=>⟨(h i hi).1,fun hn=>(h i hi).2 ?_⟩⟩;have g:=fun i=>zV hb (fun i hi=>(h i hi).1) _ i rfl;have:=g i;have:=g (2*i+1);have:=g (2*i+2);omega
theorem pD {wins places:List Int}(h:f9 wins places):Match wins places:=⟨h.1.1.2.2,uR.1 h.1.2.1,fun i hi=>(h.2 i hi).1⟩
end Bnd
namespace Bnd
open Go
def playD (won:Int→Int→Int)(places:List Int)(m:Nat):Nat→List Int
 |0=>List.replicate m 0
 |k+1=>(playD won places m k).set (m-1-k) (won (nodeV (playD won places m k) places (2*(m-1-k)+1)) (nodeV (playD won places m k) places (2*(m-1-k)+2)))
theorem dU {won:Int→Int→Int}{places:List Int}{m:Nat}: ∀k,(playD won places m k).length=m
 |0=>by simp[playD]
 |k+1=>by simp[playD,dU k]
theorem s8 {won:Int→Int→Int}{places:List Int}{m:Nat}: ∀k,k≤m→play won places (m-k) (playD won places m k)=play won places m (List.replicate m 0)
 |0,_=>rfl
 |k+1,h=>by
  rw[←s8 k (by omega)];have e:m-k=(m-(k+1))+1:=by omega
  have e2:m-1-k=m-(k+1):=by omega
  conv=>rhs;rw[e];unfold play
  conv=>lhs;unfold playD;rw[e2]
theorem lK {won:Int→Int→Int}{places v:List Int}{m:Nat}(h:v.length=m):playD won places m m=v↔gh won v places:=by
 have:=s8 (won:=won) (places:=places) m (am m);rw[fC] at this;rw[show playD won places m m=play won places 0 (playD won places m m) from rfl,this,←J6 (w:=List.replicate m 0) (by simpa using h)]
 simp
theorem AW {P:Int→Prop}(h0:P (-1)){wins places:List Int}(hp: ∀x∈places,P x){i:Nat}(h:¬i<wins.length):P (nodeV wins places i):=by
 unfold nodeV;rw[if_neg h];cases e:places[i-wins.length]? with
 |none=>exact h0
 |some x=>exact hp x (ah e)
theorem qd {P:Int→Prop}(h0:P (-1)){won:Int→Int→Int}(hw: ∀a b,P a→P b→P (won a b)){places:List Int}(hp: ∀x∈places,P x){m:Nat}: ∀k,k≤m→ ∀j,m-k≤j→P (nodeV (playD won places m k) places j)
 |0,_,j,hj=>AW h0 hp (wins:=playD won places m 0) (by rw[dU];omega)
 |k+1,hk,j,hj=>by
  have ih:=qd h0 hw hp (m:=m) k (by omega);unfold playD;by_cases e:m-1-k=j
  ·subst e;have:nodeV ((playD won places m k).set (m-1-k) (won (nodeV (playD won places m k) places (2*(m-1-k)+1)) (nodeV (playD won places m k) places (2*(m-1-k)+2)))) places (m-1-k)=won (nodeV (playD won places m k) places (2*(m-1-k)+1)) (nodeV (playD won places m k) places (2*(m-1-k)+2)):=by
    unfold nodeV;rw[aB,dU,if_pos (by omega),aC (by rw[dU];omega)];rfl
   rw[this];exact hw _ _ (ih _ (by omega)) (ih _ (by omega))
  ·rw[nodeV_set e];exact ih j (by omega)
theorem O2 {P:Int→Prop}(h0:P (-1)){wins places:List Int}(hl:places.length=wins.length+1)(hp: ∀x∈places,P x)(hk: ∀i,i<wins.length→pickA wins places i): ∀(d i:Nat),2*places.length-i=d→P (nodeV wins places i):=by
 intro d;induction d using Nat.strongRecOn with
 |ind d ih=>
  intro i hd;by_cases hlt:i<wins.length
  ·rcases hk i hlt with h|h
   ·rw[h];exact ih _ (by omega) _ rfl
   ·rw[h];exact ih _ (by omega) _ rfl
  ·exact AW h0 hp hlt
end Bnd
