import Derived.Test.YtfghdmmapmdcgaaGreatE1
import Derived.Test.YtfghdmmapmdcgaaGreatP1
import Derived.Test.YtfghdmmapmdcgaaGreatC3
import Derived.Test.YtfghdmmapmdcgaaGreatC2
set_option linter.unusedVariables false
set_option linter.unusedSimpArgs false
set_option linter.defProp false
noncomputable section
namespace Go.Proofs.YtfghdmmapmdcgaaGreat
open Go.Sym Bnd
def iD (s:Slots)(i:Nat):Slots:=⟨s.uses,s.used.set i false,s.free++[(i:Int)]⟩
def Rj {s:Slots}(h:SFine s){i:Nat}(hu:s.used[i]?=some true):SFine (iD s i):=by
 obtain⟨n1,n2,len,nd,rng,used,uses⟩:=h;have hi:=bb hu;have hni:(i:Int)∉s.free:=λhm=>by
  grind
 unfold iD;refine⟨n1,n2,by simpa using len,?_,λx hx=>?_,λj hj=>?_,λj v hv=>?_⟩
 .grind
 .grind
 .grind
 .obtain⟨q1,q2,q3⟩:=uses j v hv;refine⟨q1,q2,λh=>?_⟩;simp only at h;by_cases e:i=j
  .subst e;rw[be hi] at h;cases h
  .rw[bG e] at h;exact q3 h
def KY {s:Slots}{hp:List Evt}{wh:List Int}{x:Evt}(h:Plc s (hp++[x]) wh){j:Nat}{u:Int}(hx:x.hnd=⟨(j:Int),u⟩):Plc (iD s j) hp (wh.set j (-1)):=by
 obtain⟨j',u',e1,e2,e3,e4⟩:=h.at_ hp.length x (by simp);rw[hx] at e1;simp only[Hnd.mk.injEq] at e1;have:j'=j:=by omega
 subst this;have hul:=bb e2;have hw:=bb e4;have U:∀k:Nat,(s.used.set j' false)[k]?=if k=j' then some false else s.used[k]?:=λk=>by
  grind
 have W:∀k:Nat,(wh.set j' (-1))[k]?=if k=j' then some (-1) else wh[k]?:=λk=>by
  grind
 unfold iD;refine⟨by simpa using h.len,λm g hg=>?_,λk hk=>?_,λk hk=>?_⟩
 .have hm:=bb hg;obtain⟨i,v,g1,g2,g3,g4⟩:=h.at_ m g (by rw[aI hm];exact hg)
  grind
 .simp only[U] at hk;by_cases a:k=j'
  .subst a;rw[ad rfl] at hk;cases hk
  .rw[ac a] at hk;obtain⟨m,g,v,g1,g2,g3,g4⟩:=h.of_ k hk;have hm:=bb g2;rw[aB,aQ] at hm;have b:m≠hp.length:=λq=>by
    subst q;rw[bL (aC _),fL] at g2;simp only[ja,bW] at g2;subst g2;rw[hx] at g4;simp only[Hnd.mk.injEq] at g4;omega
   exact⟨m,g,v,by simp only[W,ac a,g1],by rw[aI (by omega)] at g2;exact g2,g3,g4⟩
 .simp only[U] at hk;by_cases a:k=j'
  .subst a;simp only[W,aA]
  .rw[ac a] at hk;simp only[W,ac a];exact h.off k hk
def kid (hp:List Evt)(i:Nat):Nat:=match hp[2*i+1]?,hp[2*i+2]? with
 |some a,some b=>if evLess b a=true then 2*i+2 else 2*i+1
 |_,_=>2*i+1
def mN (hp:List Evt)(i:Nat):kid hp i=2*i+1\/kid hp i=2*i+2:=by
 unfold kid
 grind
def W2 {hp:List Evt}{i:Nat}{x:Evt}:kid (hp.set i x) i=kid hp i:=by
 unfold kid
 grind
def Rk {hp:List Evt}{i c:Nat}{e k:Evt}(hc:c=2*i+1\/c=2*i+2)(he:hp[c]?=some e)(hk:hp[kid hp i]?=some k):evLess e k=false:=by
 have irr:∀x:Evt,evLess x x=false:=λx=>by
  cases h:evLess x x with
  |false=>rfl
  |true=>have:=oe h;rw[h] at this;cases this
 unfold kid at hk;split at hk
 .rename_i a b ha hb;split at hk
  .rename_i hl;rw[hb] at hk;cases hk;rcases hc with rfl|rfl
   .rw[ha] at he;cases he;exact oe hl
   .grind
  .grind
 .grind
def dr:Nat->List Evt->List Int->Nat->List Evt×List Int
 |0,hp,wh,_=>(hp,wh)
 |n+1,hp,wh,i=>match hp[i]?,hp[kid hp i]? with
  |some e,some c=>if evLess c e=true then dr n (dZ hp i (kid hp i) e c) (fF wh i (kid hp i) e c) (kid hp i) else(hp,wh)
  |_,_=>(hp,wh)
def Nk (hp:List Evt)(i:Nat):Prop:=
 (∀(c:Nat) (e p:Evt),0<c->(c-1)/2≠i->hp[c]?=some e->hp[(c-1)/2]?=some p->evLess e p=false)/\
 ∀(c:Nat) (e p:Evt),0<i->0<c->(c-1)/2=i->hp[c]?=some e->hp[(i-1)/2]?=some p->evLess e p=false
def W3 {hp:List Evt}{i:Nat}{e c:Evt}(ho:Nk hp i)(hi:hp[i]?=some e)(hk:hp[kid hp i]?=some c)(hl:evLess c e=true):Nk (dZ hp i (kid hp i) e c) (kid hp i):=by
 obtain⟨o1,o2⟩:=ho;have G:=swp_get hi hk;have ko:=mN hp i;have kl:=λ(d:Nat) (g:Evt) (hd:d=2*i+1\/d=2*i+2) (hg:hp[d]?=some g)=>Rk hd hg hk;refine⟨λd x q d0 dn hx hq=>?_,λd x q k0 d0 hd hx hq=>?_⟩
 .rw[G] at hx hq;rw[ac dn] at hq;by_cases a:d=kid hp i
  .rw[ad a] at hx;cases hx;rw[ad (by omega)] at hq;cases hq;exact oe hl
  .rw[ac a] at hx;by_cases b:d=i
   .subst b;rw[ad rfl] at hx;cases hx;rw[ac (by omega)] at hq;exact o2 _ _ _ d0 (by omega) (by omega) hk hq
   .rw[ac b] at hx;by_cases f:(d-1)/2=i
    .rw[ad f] at hq;cases hq;exact kl d x (by omega) hx
    .rw[ac f] at hq;exact o1 d x q d0 f hx hq
 .rw[G] at hx hq;rw[ac (by omega),ac (by omega)] at hx;rw[ac (by omega),ad (by omega)] at hq;cases hq;exact o1 d x c d0 (by omega) hx (by rw[hd];exact hk)
def Ax {s:Slots}:∀(n:Nat) (hp:List Evt) (wh:List Int) (i:Nat),hp.length<=n+i->i<hp.length->(∀x∈hp,rok x.time=true)->Nk hp i->Plc s hp wh->Ord (dr n hp wh i).1/\(dr n hp wh i).1.Perm hp/\ Plc s (dr n hp wh i).1 (dr n hp wh i).2
 |0,hp,wh,i,hn,hi,hr,ho,hP=>by omega
 |n+1,hp,wh,i,hn,hi,hr,ho,hP=>by
  obtain⟨e,he⟩:∃e,hp[i]?=some e:=⟨hp[i],ah _⟩;have ko:=mN hp i;unfold dr;rw[he];cases hk:hp[kid hp i]? with
  |none=>
   simp only;refine⟨λc x q c0 hx hq=>?_,.refl _,hP⟩;by_cases a:(c-1)/2=i
   .exfalso;have hc:=bb hx;have h1:=lg.1 hk;have hk':kid hp i=2*i+1\/∃a b,hp[2*i+1]?=some a/\ hp[2*i+2]?=some b:=by
     unfold kid;split
     .rename_i a b ha hb;exact .inr ⟨a,b,ha,hb⟩
     .exact .inl rfl
    rcases hk' with h2|⟨a',b',h3,h4⟩
    .omega
    .have:=bb h4;omega
   .exact ho.1 c x q c0 a hx hq
  |some c=>
   simp only;by_cases hl:evLess c e=true
   .rw[ad hl];have pm:=po he hk;have hkl:=bb hk;obtain⟨q1,q2,q3⟩:=Ax n (dZ hp i (kid hp i) e c) (fF wh i (kid hp i) e c) (kid hp i) (by rw[pm.length_eq];omega) (by rw[pm.length_eq];exact hkl) (λx hx=>hr x (pm.mem_iff.1 hx)) (W3 ho he hk hl) (vJ hP he hk (by omega));exact⟨q1,q2.trans pm,q3⟩
   .rw[ac hl];refine⟨λd x q d0 hx hq=>?_,.refl _,hP⟩;by_cases a:(d-1)/2=i
    .rw[a,he] at hq;cases hq;have h1:=Rk (c:=d) (by omega) hx hk;exact qN (hr x (ay hx)) (hr c (ay hk)) (hr e (ay he)) h1 (by simpa using hl)
    .exact ho.1 d x q d0 a hx hq
def D5 {n:Nat}{hp:List Evt}{wh:List Int}{i:Nat}(h:Ord hp):dr n hp wh i=(hp,wh):=by
 cases n with
 |zero=>rfl
 |succ n=>
  unfold dr;split
  .rename_i e c he hc;have ko:=mN hp i;rw[h (kid hp i) c e (by omega) hc (by rw[show(kid hp i-1)/2=i by omega];exact he)]
   rfl
  .rfl
def d9 (x:Evt):Nat->List Evt->List Int->Nat->List Evt×List Int×Nat
 |0,hp,wh,i=>(hp,wh,i)
 |n+1,hp,wh,i=>match hp[kid hp i]? with
  |some c=>if evLess c x=true then d9 x n (hp.set i c) (wh.set c.hnd.index.toNat (i:Int)) (kid hp i) else(hp,wh,i)
  |none=>(hp,wh,i)
def yE {x:Evt}:∀(n:Nat) (hp:List Evt) (wh:List Int) (i:Nat),i<hp.length->
  dr n (hp.set i x) (wh.set x.hnd.index.toNat (i:Int)) i=((d9 x n hp wh i).1.set (d9 x n hp wh i).2.2 x,(d9 x n hp wh i).2.1.set x.hnd.index.toNat ((d9 x n hp wh i).2.2:Int))
 |0,hp,wh,i,_=>rfl
 |n+1,hp,wh,i,hi=>by
  have hx:(hp.set i x)[i]?=some x:=be hi;have ko:=mN hp i;unfold dr d9;rw[hx,W2,bG (by omega)];cases hk:hp[kid hp i]? with
  |none=>rfl
  |some c=>
   simp only;by_cases hc:evLess c x=true
   .rw[ad hc,ad hc];have e1:dZ (hp.set i x) i (kid hp i) x c=(hp.set i c).set (kid hp i) x:=by unfold dZ;rw[j0]
    have e2:fF (wh.set x.hnd.index.toNat (i:Int)) i (kid hp i) x c=(wh.set c.hnd.index.toNat (i:Int)).set x.hnd.index.toNat ((kid hp i:Nat):Int):=by
     unfold fF;by_cases e:x.hnd.index.toNat=c.hnd.index.toNat
     .simp[e]
     .rw[qH _ _ e,j0]
    rw[e1,e2];exact yE n (hp.set i c) (wh.set c.hnd.index.toNat (i:Int)) (kid hp i) (by rw[aH];exact bb hk)
   .rw[ac hc,ac hc]
def kx (a:Agenda)(i j:Nat):Agenda:=match a.heap[a.heap.length-1]? with
 |some f=>if i=a.heap.length-1 then⟨iD a.slots j,a.heap.take (a.heap.length-1),a.wher.set j (-1)⟩ else
  let u:=upS (i+1) ((a.heap.take (a.heap.length-1)).set i f) ((a.wher.set j (-1)).set f.hnd.index.toNat (i:Int)) i
  let d:=dr (a.heap.length-1) u.1 u.2.1 u.2.2
  ⟨iD a.slots j,d.1,d.2⟩
 |none=>a
def Rl {a:Agenda}(h:dX a){i j:Nat}{u:Int}{e:Evt}(he:a.heap[i]?=some e)(hh:e.hnd=⟨(j:Int),u⟩):
  dX (kx a i j)/\((kx a i j).heap++[e]).Perm a.heap/\(kx a i j).wher.length=a.wher.length:=by
 have hs:=cZ.1 h.1;have hP:=jW hs h.2.1;have hl:=h.2.1.2.1;have hO:=xC h;have hi:=bb he;obtain⟨j',u',e1,e2,e3,e4⟩:=hP.at_ i e he;rw[hh] at e1;simp only[Hnd.mk.injEq] at e1;have:j'=j:=by omega
 subst this;have hs':=Rj hs e2;obtain⟨hp,f,hq⟩:∃hp f,a.heap=hp++[f]:=by
  rcases ib a.heap with h|⟨hp,f,h⟩
  .grind
  .grind
 have hn:a.heap.length-1=hp.length:=by rw[hq];simp
 have hn':a.heap.length=hp.length+1:=by rw[hq];simp
 have hlast:a.heap[a.heap.length-1]?=some f:=by rw[hn,hq];simp
 have htk:a.heap.take (a.heap.length-1)=hp:=by rw[hn,hq];simp
 have hr:∀x∈a.heap,mj x:=h.2.2.1;have hrk:∀x∈hp,rok x.time=true:=λx hx=>(hr x (by rw[hq];simp[hx])).1;have hfr:rok f.time=true:=(hr f (by rw[hq];simp)).1;have fin:∀(h1:List Evt) (w1:List Int),Ord h1->(h1++[e]).Perm a.heap->Plc (iD a.slots j') h1 w1->dX ⟨iD a.slots j',h1,w1⟩/\(h1++[e]).Perm a.heap/\ w1.length=a.wher.length:=λh1 w1 o p q=>by
  have pl:=p.length_eq;rw[aB,aQ] at pl;refine⟨⟨cZ.2 hs',Fy q ?_,λx hx=>hr x (p.mem_iff.1 (dg _ hx)),?_,λc x p' hx hp'=>?_⟩,p,?_⟩
  .unfold iD;simp only[aB,aQ];omega
  .have:=(p.map (·.number)).nodup_iff.2 h.2.2.2.1;rw[fJ,fG] at this;exact this.1
  .exact o (c+1) x p' (by omega) hx (by simpa using hp')
  .rw[q.len,hP.len];rfl
 unfold kx;rw[hlast];simp only;rw[htk,hn];by_cases hil:i=hp.length
 .rw[ad hil];subst hil;have:f=e:=by rw[hq] at he;simpa using he
  subst this;rw[hq] at hP;refine fin hp _ (λc x p c0 hx hp'=>?_) (by rw[hq]) (KY hP hh);have hc:=bb hx;exact hO c x p c0 (by rw[hq,aI hc];exact hx) (by rw[hq,aI (by omega)];exact hp')
 .rw[ac hil];have hil:i<hp.length:=by omega
  have hfn:a.heap[hp.length]?=some f:=by rw[hq];simp
  have hei:hp[i]?=some e:=by rw[hq,aI hil] at he;exact he
  have hw:=vJ hP he hfn (by omega);obtain⟨jf,uf,f1,f2,f3,f4⟩:=hP.at_ _ f hfn;have hjf:jf≠j':=λq=>by
   subst q;rw[f4] at e4;simp only[bW] at e4;omega
  have hset:(a.heap.set i f).set hp.length e=hp.set i f++[e]:=by
   rw[hq,pb _ _ hil,nR _ _ (by simp)];simp
  rw[hset,hh,f1] at hw;simp only[aG] at hw;have hw:=KY hw hh;rw[j0,qH _ _ (by omega)] at hw;rw[f1];simp only[aG];have hpm:(hp.set i f++[e]).Perm a.heap:=by
   rw[<-hset];exact po he hfn
  have G:∀m,(hp.set i f)[m]?=if m=i then some f else hp[m]?:=λm=>by
   by_cases q:m=i
   .subst q;rw[ad rfl,be hil]
   .rw[ac q,bG (λe=>q e.symm)]
  have H:∀{m:Nat} {x:Evt},hp[m]?=some x->a.heap[m]?=some x:=λ{m x} hx=>by rw[hq,aI (bb hx)];exact hx
  have hrs:∀x∈hp.set i f,rok x.time=true:=λx hx=>by
   rcases b6 hx with h1|h1
   .exact hrk x h1
   .rw[h1];exact hfr
  have her:rok e.time=true:=hrk e (ay hei);have kidp:∀(c:Nat) (x p:Evt),0<i->0<c->(c-1)/2=i->hp[c]?=some x->hp[(i-1)/2]?=some p->evLess x p=false:=λc x p i0 c0 hc hx hp'=>
   qN (hrk x (ay hx)) her (hrk p (ay hp')) (hO c x e c0 (H hx) (by rw[hc];exact he)) (hO i e p i0 he (H hp'))
  have other:∀(c:Nat) (x p:Evt),0<c->c≠i->(c-1)/2≠i->(hp.set i f)[c]?=some x->(hp.set i f)[(c-1)/2]?=some p->evLess x p=false:=λc x p c0 cn pn hx hp'=>by
   rw[G,ac cn] at hx;rw[G,ac pn] at hp';exact hO c x p c0 (H hx) (H hp')
  have hfi:(hp.set i f)[i]?=some f:=by rw[G,ad rfl]
  have hlen:(hp.set i f).length=hp.length:=aH;by_cases hc:∃p,0<i/\ hp[(i-1)/2]?=some p/\ evLess f p=true
  .obtain⟨p,i0,hpp,hfp⟩:=hc;obtain⟨q1,q2,q3,_,_⟩:=xB (s:=iD a.slots j') (i+1) (hp.set i f) _ i (by omega) (by omega) hrs ⟨λc x q c0 cn hx hq'=>by
    by_cases a1:(c-1)/2=i
    .rw[G,ad a1] at hq';cases hq';rw[G,ac cn] at hx;exact xz hfr (hrk p (ay hpp)) (hrk x (ay hx)) hfp (kidp c x p i0 c0 a1 hx hpp)
    .exact other c x q c0 cn a1 hx hq',λc x q i0 c0 hc hx hq'=>by
    rw[G,ac (by omega)] at hx;rw[G,ac (by omega)] at hq';exact kidp c x q i0 c0 hc hx hq'⟩ hw
   rw[D5 q1];exact fin _ _ q1 ((q2.append_right [e]).trans hpm) q3
  .have hu:upS (i+1) (hp.set i f) ((a.wher.set j' (-1)).set jf (i:Int)) i=(hp.set i f,(a.wher.set j' (-1)).set jf (i:Int),i):=by
    unfold upS;rw[hfi];cases hpp:(hp.set i f)[(i-1)/2]? with
    |none=>rfl
    |some p=>
     simp only;rw[ac];rintro⟨i0,hfp⟩;rw[G,ac (by omega)] at hpp;exact hc ⟨p,i0,hpp,hfp⟩
   rw[hu];obtain⟨q1,q2,q3⟩:=Ax (s:=iD a.slots j') hp.length (hp.set i f) _ i (by omega) (by omega) hrs ⟨λc x q c0 cn hx hq'=>by
    by_cases a1:c=i
    .subst a1;rw[hfi] at hx;cases hx;rw[G,ac (by omega)] at hq';cases hl':evLess f q with
     |false=>rfl
     |true=>exact absurd ⟨q,c0,hq',hl'⟩ hc
    .exact other c x q c0 a1 cn hx hq',λc x q i0 c0 hc hx hq'=>by
    rw[G,ac (by omega)] at hx;rw[G,ac (by omega)] at hq';exact kidp c x q i0 c0 hc hx hq'⟩ hw
   exact fin _ _ q1 ((q2.append_right [e]).trans hpm) q3
def yF {c:Certs}:dk c↔c.list.length<=200/\ 0<=c.next/\ c.next<=1000000/\(∀h∈c.list,h.cert.ok/\ 0<=h.number/\ h.number<c.next)/\ c.list.Pairwise λg h=>g.number<h.number/\ g.cert≠h.cert:=by
 constructor
 .intro hc;have hc':=hc;obtain⟨h1,h2,h3,h4⟩:=hc';refine⟨h1,h2,h3,λh hh=>?_,?_⟩
  .obtain⟨i,hi⟩:=aL.1 hh
   grind
  .rw[ec];intro i j hi hj hij;exact⟨tW hc j i _ _ hij (ah hi) (ah hj),(h4 j _ (ah hj)).2.2.2.2 i hij _ (ah hi)⟩
 .rintro⟨h1,h2,h3,h4,h5⟩;rw[ec] at h5;refine⟨h1,h2,h3,λi h hi=>?_⟩
  grind
def Di (c:Clock)(d:Due)(x:Held):Prop:=d.number=x.number/\(⟨(fT c x.cert).1,x.number,d.hnd⟩:Evt)∈c.agenda.heap
open Classical in
def wJ {c:Clock}(ha:dX c.agenda):∀(l:List Held) (left:List Due),foldO (d8 c) left l=some []↔(∀x∈l,cT c.pts x=true)/\ F2 (Di c) left (l.filter λx=>(fT c x.cert).2)
 |[],left=>by
  constructor
  .intro h;have h:some left=some []:=h;cases h;exact⟨λ_ h=>(by cases h),.nil⟩
  .rintro⟨_,h⟩;cases h;rfl
 |x::l,left=>by
  rw[foldO];have ds:d8 c left x=if cT c.pts x=true then(if(fT c x.cert).2=true then(match left with
    |[]=>none
    |d::rest=>if pT c.agenda d x.number (fT c x.cert).1 then some rest else none) else some left) else none:=rfl
  rw[ds];have fp:(fT c x.cert).2=true->(x::l).filter (λx=>(fT c x.cert).2)=x::l.filter λx=>(fT c x.cert).2:=λh=>dV (p:=λx:Held=>(fT c x.cert).2) h;have fn:¬(fT c x.cert).2=true->(x::l).filter (λx=>(fT c x.cert).2)=l.filter λx=>(fT c x.cert).2:=λh=>dU (p:=λx:Held=>(fT c x.cert).2) h;by_cases h1:cT c.pts x=true
  rotate_left
  .rw[ac h1];exact⟨λh=>(by cases h),λh=>absurd (h.1 x (gY ..)) h1⟩
  rw[ad h1];by_cases h2:(fT c x.cert).2=true
  .rw[ad h2,fp h2];cases left with
   |nil=>exact⟨λh=>(by cases h),λh=>(by cases h.2)⟩
   |cons d rest=>
    simp only;by_cases h3:pT c.agenda d x.number (fT c x.cert).1
    .rw[ad h3];simp only;rw[wJ ha l rest];constructor
     .rintro⟨a1,a2⟩;exact⟨λy hy=>(bB.1 hy).elim (λe=>e▸h1) (a1 y),.cons ((rj ha).1 h3) a2⟩
     .rintro⟨a1,a2⟩;cases a2 with
      |cons _ a2=>exact⟨λy hy=>a1 y (bJ _ hy),a2⟩
    .rw[ac h3];refine⟨λh=>(by cases h),λh=>?_⟩;cases h.2 with
     |cons a _=>exact absurd ((rj ha).2 a) h3
  .rw[ac h2,fn h2];simp only;rw[wJ ha l left];exact⟨λ⟨a1,a2⟩=>⟨λy hy=>(bB.1 hy).elim (λe=>e▸h1) (a1 y),a2⟩,λ⟨a1,a2⟩=>⟨λy hy=>a1 y (bJ _ hy),a2⟩⟩
def Dj {α β:Type}{R:α->β->Prop}{f:α->Bool}{g:β->Bool}(h:∀a b,R a b->f a=g b):∀{xs:List α} {ys:List β},F2 R xs ys->F2 R (xs.filter f) (ys.filter g)
 |[],_,.nil=> .nil
 |a::xs,b::ys,.cons r t=>by
  rw[cy,cy,<-h a b r];cases f a with
  |true=>exact .cons r (Dj h t)
  |false=>exact Dj h t
def JH {α β:Type}{R:α->β->Prop}:∀{xs:List α} {ys:List β},F2 R xs ys->xs.length=ys.length
 |_,_,.nil=>rfl
 |_,_,.cons _ t=>by rw[bA,bA,JH t]
def pI {c:Clock}:bx c↔rok c.now=true/\ okF c.pts/\ dk c.certs/\ dX c.agenda/\ c.agenda.wher.length=200/\ c.agenda.heap.length=c.due.length/\(∀x∈c.certs.list,cT c.pts x=true)/\ F2 (Di c) c.due (c.certs.list.filter λx=>(fT c x.cert).2):=by
 constructor
 .rintro⟨h1,h2,h3,h4,h5,h6,h7⟩;exact⟨h1,h2,h3,h4,h5,h6,(wJ h4 _ _).1 h7⟩
 .rintro⟨h1,h2,h3,h4,h5,h6,h7⟩;exact⟨h1,h2,h3,h4,h5,h6,(wJ h4 _ _).2 h7⟩
def cY (n:Int)(m:Int):Bool:=!decide (m=n)
def k9 (c:Clock)(n:Int):Agenda:=match c.due.find? λd=>decide (d.number=n) with
 |some d=>kx c.agenda ((c.agenda.wher[d.hnd.index.toNat]?).getD 0).toNat d.hnd.index.toNat
 |none=>c.agenda
def gI (c:Clock)(n:Int):Clock:=⟨c.now,c.pts,⟨c.certs.next,c.certs.list.filter λx=>cY n x.number⟩,k9 c n,c.due.filter λd=>cY n d.number⟩
def Cc {c:Clock}(h:bx c){d:Due}(hd:d∈c.due):∃(i j:Nat) (u:Int) (e:Evt),c.agenda.wher[j]?=some (i:Int)/\ c.agenda.heap[i]?=some e/\ e.hnd=⟨(j:Int),u⟩/\ d.hnd=⟨(j:Int),u⟩/\ e.number=d.number/\ c.agenda.slots.used[j]?=some true/\ c.agenda.slots.uses[j]?=some u:=by
 obtain⟨r1,r2⟩:=z7 h.2.2.2.1 _ _ h.2.2.2.2.2.2;obtain⟨t,ht⟩:=r2 d hd;obtain⟨i,hi⟩:=aL.1 ht;obtain⟨j,u,e1,e2,e3,e4⟩:=(jW (cZ.1 h.2.2.2.1.1) h.2.2.2.1.2.1).at_ i _ hi
 grind
def W4 {c:Clock}(h:bx c)(n:Int):bx (gI c n):=by
 have hnum:=qe h;have hnd:(c.due.map (·.number)).Nodup:=hnum.1.nodup_iff.2 h.2.2.2.1.2.2.2.1;have hat:=λd hd=>Cc h (d:=d) hd;obtain⟨h1,h2,h3,h4,h5,h6,h7,h8⟩:=pI.1 h;have hag:dX (k9 c n)/\(k9 c n).wher.length=200/\(k9 c n).heap.length=(c.due.filter λd=>cY n d.number).length/\∀e∈c.agenda.heap,e.number≠n->e∈(k9 c n).heap:=by
  unfold k9;cases hf:c.due.find? λd=>decide (d.number=n) with
  |none=>
   have hall:∀d∈c.due,¬d.number=n:=λd hd=>by simpa using gX.1 hf d hd
   refine⟨h4,h5,?_,λe he _=>he⟩;rw[ee.2 (λd hd=>by unfold cY;simp[hall d hd])];exact h6
  |some d=>
   have hd:=eX hf;have hdn:d.number=n:=by simpa using jw hf
   obtain⟨i,j,u,e,w1,w2,w3,w4,w5,_⟩:=hat d hd;simp only;rw[w4];simp only[aG];rw[w1];simp only[ct,aG];obtain⟨q1,q2,q3⟩:=Rl h4 w2 w3;refine⟨q1,q3.trans h5,?_,λe' he hne=>?_⟩
   .have a1:=q2.length_eq;rw[aB,aQ,h6] at a1;have a2:(c.due.filter λd=>cY n d.number).length+1=c.due.length:=by
     have:=rL (λd:Due=>cY n d.number) c.due;have a3:(c.due.filter λd=>!cY n d.number)=[d]:=by
      have sub:((c.due.filter λd=>!cY n d.number).map (·.number)).Nodup:=(iQ.map _).nodup hnd;have all:∀x∈c.due.filter (λd=>!cY n d.number),x.number=n:=λx hx=>by
       have:=(bE.1 hx).2;unfold cY at this;simpa using this
      have mem:d∈c.due.filter (λd=>!cY n d.number):=bE.2 ⟨hd,by unfold cY;simp[hdn]⟩;generalize c.due.filter (λd=>!cY n d.number)=l at sub all mem
      match l,sub,all,mem with
      |[],_,_,mem=>cases mem
      |[x],_,_,mem=>rw[cg] at mem;rw[mem]
      |x::y::r,sub,all,_=>
       exfalso;rw[bN,bN,cd] at sub;exact sub.1 (by rw[all x (by simp),all y (by simp)];simp)
     rw[a3,aQ] at this;omega
    omega
   .have:=q2.mem_iff.2 he;rcases b9.1 this with h|h
    .exact h
    .rw[cg] at h;exact absurd (by rw[h,w5,hdn]) hne
 obtain⟨g1,g2,g3,g4⟩:=hag;refine pI.2 ⟨h1,h2,?_,g1,g2,g3,λx hx=>h7 x (bE.1 hx).1,?_⟩
 .obtain⟨c1,c2,c3,c4,c5⟩:=yF.1 h3;exact yF.2 ⟨bM (eZ ..) c1,c2,c3,λx hx=>c4 x (bE.1 hx).1,c5.sublist iQ⟩
 .have:((gI c n).certs.list.filter λx=>(fT (gI c n) x.cert).2)=(c.certs.list.filter λx=>(fT c x.cert).2).filter λx=>cY n x.number:=by
   show(c.certs.list.filter λx=>cY n x.number).filter (λx=>(fT c x.cert).2)=_
   rw[qt,qt];exact bj (λp=>c.certs.list.filter p) (funext λx=>Bool.and_comm ..)
  rw[this];have h9:=Dj (f:=λd:Due=>cY n d.number) (g:=λx:Held=>cY n x.number) (λa b r=>by rw[r.1]) h8;have up:∀{xs:List Due} {ys:List Held},F2 (Di c) xs ys->(∀b∈ys,cY n b.number=true)->F2 (Di (gI c n)) xs ys:=by
   intro xs ys k;induction k with
   |nil=>exactλ_=> .nil
   |cons r t ih=>
    intro hb;refine .cons ⟨r.1,g4 _ r.2 ?_⟩ (ih λb h=>hb b (bJ _ h));have:=hb _ (gY ..);unfold cY at this;simpa using this
  exact up h9 λb hb=>(bE.1 hb).2
def Dk {α β:Type}{R:α->β->Prop}:∀{xs:List α} {ys:List β},F2 R xs ys->∀a∈xs,∃b∈ys,R a b
 |_,_,.nil,_,h=>by cases h
 |_,_,.cons r t,a,h=>by
  rcases bB.1 h with e|h
  .exact⟨_,gY ..,e▸r⟩
  .obtain⟨b,h1,h2⟩:=Dk t a h;exact⟨b,bJ _ h1,h2⟩
def D6 {α:Type}{nu:α->Int}{l:List α}(h:(l.map nu).Nodup){a b:α}(ha:a∈l)(hb:b∈l)(e:nu a=nu b):a=b:=by
 obtain⟨i,hi⟩:=aL.1 ha;obtain⟨j,hj⟩:=aL.1 hb;rw[List.Nodup,gk,ec] at h
 grind
def ae0 {c:Clock}(h:bx c){e:Evt}(he:e∈c.agenda.heap):∃x∈c.certs.list,x.number=e.number/\ fT c x.cert=(e.time,true):=by
 have hn:=(qe h).1;obtain⟨h1,h2,h3,h4,h5,h6,h7,h8⟩:=pI.1 h;have:=hn.mem_iff.2 (bh.2 ⟨e,he,rfl⟩);obtain⟨d,hd,hdn⟩:=bh.1 this;obtain⟨x,hx,r1,r2⟩:=Dk h8 d hd;have:=D6 (nu:=λe:Evt=>e.number) h4.2.2.2.1 r2 he (by simp only;rw[<-r1];exact hdn)
 grind
def yG {c:Clock}(h:bx c)(hn:aX c.now):ij c:=by
 refine⟨hn,λe he=>?_⟩;obtain⟨x,hx,_,hf⟩:=ae0 h he;have hk:=(pI.1 h).2.2.2.2.2.2.1 x hx;unfold cT at hk;rw[aM] at hk;have:=(ri h.2.1 hn h.1 hk.1 hk.2 (by unfold fT at hf;rw[hf])).2;unfold fT at hf
 grind
structure CAd (c:Clock)(x:Crt):Prop where
 ok:bx c
 cok:x.ok
 new:∀g∈c.certs.list,g.cert≠x
 low:inF c.pts x.low=true
 high:inF c.pts x.high=true
def oQ (c:Clock)(x:Crt):Prop:=(c.certs.list.length=200\/c.certs.next=1000000)\/((fT c x).2=true/\ gc c.agenda.slots=false)
def jQ (c:Clock)(x:Crt):Clock:=if(fT c x).2=true then qP c x (frL c) (frI c) ((c.agenda.slots.uses[frI c]?).getD 0) else sS c x
def CAd.add {c:Clock}{x:Crt}(h:CAd c x)(hf:¬oQ c x):CAdd c x:=by
 have h1:=h.ok.2.2.1.1;have h2:=h.ok.2.2.1.2.2.1;unfold oQ at hf;exact⟨h.ok,h.cok,h.new,by omega,by omega,h.low,h.high⟩
def yH {s:Slots}(hs:SFine s)(ho:gc s=true):∃(fr:List Int) (i:Nat) (u:Int),s.free=fr++[(i:Int)]/\ s.uses[i]?=some u/\ u<1000000:=by
 rcases free_last hs with e|⟨fr,i,u,e,hu,h1,h2⟩
 .unfold gc at ho;rw[e] at ho;cases ho
 .rw[vH e hu] at ho
  grind
def Ay {c:Clock}{x:Crt}(h:CAd c x)(hn:aX c.now)(hf:¬oQ c x):bx (jQ c x)/\(jQ c x).certs=xA c.certs x/\(jQ c x).pts=c.pts/\(jQ c x).now=c.now:=by
 have ha:=h.add hf;unfold jQ;by_cases h1:(fT c x).2=true
 .rw[ad h1];have ho:gc c.agenda.slots=true:=by
   cases q:gc c.agenda.slots with
   |true=>rfl
   |false=>exact absurd (.inr ⟨h1,q⟩) hf
  obtain⟨fr,i,u,e,hu,hm⟩:=yH (cZ.1 h.ok.2.2.2.1.1) ho;have e1:frL c=fr:=by unfold frL;rw[e];simp
  have e2:frI c=i:=by unfold frI;rw[e];simp
  rw[e1,e2,hu];exact⟨Sg ha hn e hu hm h1,rfl,rfl,rfl⟩
 .rw[ac h1];exact⟨Sf ha (by simpa using h1),rfl,rfl,rfl⟩
def dropL (es:List Crt)(l:List Held)(c:Clock):Clock:=l.foldl (λa x=>if x.cert∈es then a else gI a x.number) c
structure Sim (c a:Clock):Prop where
 ok:bx a
 pts:a.pts=c.pts
 now:a.now=c.now
def gM (es:List Crt):∀(l:List Held) (c:Clock),bx c->Sim c (dropL es l c)/\(dropL es l c).certs.next=c.certs.next/\(dropL es l c).certs.list=c.certs.list.filter λy=>l.all λx=>decide (x.cert∈es)||cY x.number y.number
 |[],c,h=>⟨⟨h,rfl,rfl⟩,rfl,(ee.2 λ_ _=>rfl).symm⟩
 |x::l,c,h=>by
  have e:dropL es (x::l) c=dropL es l (if x.cert∈es then c else gI c x.number):=rfl
  rw[e];by_cases hx:x.cert∈es
  .rw[ad hx];obtain⟨q1,q2,q3⟩:=gM es l c h;refine⟨q1,q2,q3.trans ?_⟩;exact jR λy _=>by rw[dt,au hx,Bool.true_or,gm]
  .rw[ac hx];obtain⟨q1,q2,q3⟩:=gM es l (gI c x.number) (W4 h _);refine⟨⟨q1.ok,q1.pts,q1.now⟩,q2,q3.trans ?_⟩;show(c.certs.list.filter λy=>cY x.number y.number).filter _=_
   rw[qt];exact jR λy _=>by rw[dt,aj hx,Bool.false_or,Bool.and_comm]
open Classical in
def addL:List Crt->Clock->Option Clock
 |[],c=>some c
 |x::xs,c=>if(c.certs.list.any λh=>decide (h.cert=x))=true then addL xs c else if oQ c x then none else addL xs (jQ c x)
structure EdgF (l:List Pt)(es:List Crt):Prop where
 ok:∀x∈es,x.ok
 low:∀x∈es,inF l x.low=true
 high:∀x∈es,inF l x.high=true
def JI {l:List Pt}{es:List Crt}(hE:EdgF l es){c:Clock}(h:bx c)(hp:c.pts=l){x:Crt}(hx:x∈es)(hn:(c.certs.list.any λh=>decide (h.cert=x))=false):CAd c x:=
 ⟨h,hE.ok x hx,λg hg e=>by rw[eg] at hn;exact hn g hg (by simp[e]),by rw[hp];exact hE.low x hx,by rw[hp];exact hE.high x hx⟩
def Dl {l:List Pt}:∀{es:List Crt} {c d:Clock},EdgF l es->bx c->aX c.now->c.pts=l->addL es c=some d->Sim c d
 |[],c,d,_,h,_,_,e=>by cases e;exact⟨h,rfl,rfl⟩
 |x::xs,c,d,hE,h,hn,hp,e=>by
  have hE':EdgF l xs:=⟨λy hy=>hE.ok y (bJ _ hy),λy hy=>hE.low y (bJ _ hy),λy hy=>hE.high y (bJ _ hy)⟩;unfold addL at e;split at e
  .exact Dl hE' h hn hp e
  .rename_i h1;split at e
   .cases e
   .rename_i h2;obtain⟨g1,_,g3,g4⟩:=Ay (JI hE h hp (gY ..) (by simpa using h1)) hn h2
    have:=Dl hE' g1 (by rw[g4];exact hn) (g3.trans hp) e;exact⟨this.ok,this.pts.trans g3,this.now.trans g4⟩
def Holds (c:Clock)(x:Crt):Prop:=leads c.now (ptOf c.pts x.high) (ptOf c.pts x.low)=true
structure Stl (l:List Pt)(c:Clock):Prop where
 ok:bx c
 n64:aX c.now
 pts:c.pts=l
 holds:∀x∈c.certs.list,Holds c x.cert
structure EdgH (l:List Pt)(E:Rt->List Crt):Prop where
 ok:∀t,rok t=true->aX t->EdgF l (E t)
 holds:∀t,rok t=true->aX t->∀x∈E t,leads t (ptOf l x.high) (ptOf l x.low)=true
end Go.Proofs.YtfghdmmapmdcgaaGreat
namespace Bnd
open Go
section
variable {ld ld':Nat->Nat->Bool}{n:Nat}
structure Rng (ld:Nat->Nat->Bool)(n a b:Nat):Prop where
 le:b<=n
 lo:a=0\/∀j,a<=j->j<b->ld (a-1) j=true
 hi:b=n\/∀j,a<=j->j<b->ld b j=true
end
end Bnd
namespace Go.Proofs.YtfghdmmapmdcgaaGreat
open Go.Sym Bnd
def led (t:Rt)(l:List Pt)(x:Int):Nat:=l.countP λq=>leads t (ptOf l x) q
structure HStl (l:List Pt)(c:Clock)(hp:List Int):Prop where
 ok:bx c
 n64:aX c.now
 pts:c.pts=l
 sub:∀y∈c.certs.list,y.cert∈dY hp
 nd:hp.Nodup
 inl:∀x∈hp,inF l x=true
 len:hp.length=l.length
end Go.Proofs.YtfghdmmapmdcgaaGreat
