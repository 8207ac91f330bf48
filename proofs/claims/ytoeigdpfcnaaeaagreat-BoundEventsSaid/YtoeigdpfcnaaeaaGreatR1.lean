import Derived.Test.YtoeigdpfcnaaeaaGreatE1
import Derived.Test.YtoeigdpfcnaaeaaGreatP1
import Derived.Test.YtoeigdpfcnaaeaaGreatC3
import Derived.Test.YtoeigdpfcnaaeaaGreatC2
set_option linter.unusedVariables false
set_option linter.unusedSimpArgs false
set_option linter.defProp false
noncomputable section
namespace Go.Proofs.YtoeigdpfcnaaeaaGreat
open Go.Sym Bnd
def i8 (s:Slots)(i:Nat):Slots:=⟨s.u,s.v.set i false,s.f++[(i:Int)]⟩
def Ts {s:Slots}(h:SFine s){i:Nat}(hu:s.v[i]?=some true):SFine (i8 s i):=by
 obtain⟨n1,n2,len,nd,rng,used,uses⟩:=h;have hi:=bo hu;have hni:(i:Int)∉s.f:=λhm=>by
  grind
 unfold i8;refine⟨n1,n2,by simpa using len,?_,λx hx=>?_,λj hj=>?_,λj v hv=>?_⟩
 .grind
 .grind
 .grind
 .obtain⟨q1,q2,q3⟩:=uses j v hv;refine⟨q1,q2,λh=>?_⟩;simp only at h;by_cases e:i=j
  .subst e;rw[bv hi] at h;cases h
  .rw[bB e] at h;exact q3 h
def Mu {s:Slots}{hp:List Evt}{wh:List Int}{x:Evt}(h:Plc s (hp++[x]) wh){j:Nat}{u:Int}(hx:x.h=⟨(j:Int),u⟩):Plc (i8 s j) hp (wh.set j (-1)):=by
 obtain⟨j',u',e1,e2,e3,e4⟩:=h.at_ hp.length x (by simp);rw[hx] at e1;simp only[Hnd.mk.injEq] at e1;have:j'=j:=by omega
 subst this;have hul:=bo e2;have hw:=bo e4;have U:∀k:Nat,(s.v.set j' false)[k]?=if k=j' then some false else s.v[k]?:=λk=>by
  grind
 have W:∀k:Nat,(wh.set j' (-1))[k]?=if k=j' then some (-1) else wh[k]?:=λk=>by
  grind
 unfold i8;refine⟨by simpa using h.len,λm g hg=>?_,λk hk=>?_,λk hk=>?_⟩
 .have hm:=bo hg;obtain⟨i,v,g1,g2,g3,g4⟩:=h.at_ m g (by rw[aH hm];exact hg)
  grind
 .simp only[U] at hk;by_cases a:k=j'
  .subst a;rw[ad rfl] at hk;cases hk
  .rw[ac a] at hk;obtain⟨m,g,v,g1,g2,g3,g4⟩:=h.of_ k hk;have hm:=bo g2;rw[aD,aN] at hm;have b:m≠hp.length:=λq=>by
    subst q;rw[bP (aB _),js] at g2;simp only[jE,bZ] at g2;subst g2;rw[hx] at g4;simp only[Hnd.mk.injEq] at g4;omega
   exact⟨m,g,v,by simp only[W,ac a,g1],by rw[aH (by omega)] at g2;exact g2,g3,g4⟩
 .simp only[U] at hk;by_cases a:k=j'
  .subst a;simp only[W,az]
  .rw[ac a] at hk;simp only[W,ac a];exact h.off k hk
def kid (hp:List Evt)(i:Nat):Nat:=match hp[2*i+1]?,hp[2*i+2]? with
 |some a,some b=>if evLess b a=true then 2*i+2 else 2*i+1
 |_,_=>2*i+1
def tA (hp:List Evt)(i:Nat):kid hp i=2*i+1\/kid hp i=2*i+2:=by
 unfold kid
 grind
def Y2 {hp:List Evt}{i:Nat}{x:Evt}:kid (hp.set i x) i=kid hp i:=by
 unfold kid
 grind
def Tt {hp:List Evt}{i c:Nat}{e k:Evt}(hc:c=2*i+1\/c=2*i+2)(he:hp[c]?=some e)(hk:hp[kid hp i]?=some k):evLess e k=false:=by
 have irr:∀x:Evt,evLess x x=false:=λx=>by
  cases h:evLess x x with
  |false=>rfl
  |true=>have:=mP h;rw[h] at this;cases this
 unfold kid at hk;split at hk
 .rename_i a b ha hb;split at hk
  .rename_i hl;rw[hb] at hk;cases hk;rcases hc with rfl|rfl
   .rw[ha] at he;cases he;exact mP hl
   .grind
  .grind
 .grind
def eS:Nat->List Evt->List Int->Nat->List Evt×List Int
 |0,hp,wh,_=>(hp,wh)
 |n+1,hp,wh,i=>match hp[i]?,hp[kid hp i]? with
  |some e,some c=>if evLess c e=true then eS n (fF hp i (kid hp i) e c) (iL wh i (kid hp i) e c) (kid hp i) else(hp,wh)
  |_,_=>(hp,wh)
def Pq (hp:List Evt)(i:Nat):Prop:=
 (∀(c:Nat) (e p:Evt),0<c->(c-1)/2≠i->hp[c]?=some e->hp[(c-1)/2]?=some p->evLess e p=false)/\
 ∀(c:Nat) (e p:Evt),0<i->0<c->(c-1)/2=i->hp[c]?=some e->hp[(i-1)/2]?=some p->evLess e p=false
def Y3 {hp:List Evt}{i:Nat}{e c:Evt}(ho:Pq hp i)(hi:hp[i]?=some e)(hk:hp[kid hp i]?=some c)(hl:evLess c e=true):Pq (fF hp i (kid hp i) e c) (kid hp i):=by
 obtain⟨o1,o2⟩:=ho;have G:=swp_get hi hk;have ko:=tA hp i;have kl:=λ(d:Nat) (g:Evt) (hd:d=2*i+1\/d=2*i+2) (hg:hp[d]?=some g)=>Tt hd hg hk;refine⟨λd x q d0 dn hx hq=>?_,λd x q k0 d0 hd hx hq=>?_⟩
 .rw[G] at hx hq;rw[ac dn] at hq;by_cases a:d=kid hp i
  .rw[ad a] at hx;cases hx;rw[ad (by omega)] at hq;cases hq;exact mP hl
  .rw[ac a] at hx;by_cases b:d=i
   .subst b;rw[ad rfl] at hx;cases hx;rw[ac (by omega)] at hq;exact o2 _ _ _ d0 (by omega) (by omega) hk hq
   .rw[ac b] at hx;by_cases f:(d-1)/2=i
    .rw[ad f] at hq;cases hq;exact kl d x (by omega) hx
    .rw[ac f] at hq;exact o1 d x q d0 f hx hq
 .rw[G] at hx hq;rw[ac (by omega),ac (by omega)] at hx;rw[ac (by omega),ad (by omega)] at hq;cases hq;exact o1 d x c d0 (by omega) hx (by rw[hd];exact hk)
def K4 {s:Slots}:∀(n:Nat) (hp:List Evt) (wh:List Int) (i:Nat),hp.length<=n+i->i<hp.length->(∀x∈hp,rok x.time=true)->Pq hp i->Plc s hp wh->Ord (eS n hp wh i).1/\(eS n hp wh i).1.Perm hp/\ Plc s (eS n hp wh i).1 (eS n hp wh i).2
 |0,hp,wh,i,hn,hi,hr,ho,hP=>by omega
 |n+1,hp,wh,i,hn,hi,hr,ho,hP=>by
  obtain⟨e,he⟩:∃e,hp[i]?=some e:=⟨hp[i],ai _⟩;have ko:=tA hp i;unfold eS;rw[he];cases hk:hp[kid hp i]? with
  |none=>
   simp only;refine⟨λc x q c0 hx hq=>?_,.refl _,hP⟩;by_cases a:(c-1)/2=i
   .exfalso;have hc:=bo hx;have h1:=fi.1 hk;have hk':kid hp i=2*i+1\/∃a b,hp[2*i+1]?=some a/\ hp[2*i+2]?=some b:=by
     unfold kid;split
     .rename_i a b ha hb;exact .inr ⟨a,b,ha,hb⟩
     .exact .inl rfl
    rcases hk' with h2|⟨a',b',h3,h4⟩
    .omega
    .have:=bo h4;omega
   .exact ho.1 c x q c0 a hx hq
  |some c=>
   simp only;by_cases hl:evLess c e=true
   .rw[ad hl];have pm:=qr he hk;have hkl:=bo hk;obtain⟨q1,q2,q3⟩:=K4 n (fF hp i (kid hp i) e c) (iL wh i (kid hp i) e c) (kid hp i) (by rw[pm.length_eq];omega) (by rw[pm.length_eq];exact hkl) (λx hx=>hr x (pm.mem_iff.1 hx)) (Y3 ho he hk hl) (wW hP he hk (by omega));exact⟨q1,q2.trans pm,q3⟩
   .rw[ac hl];refine⟨λd x q d0 hx hq=>?_,.refl _,hP⟩;by_cases a:(d-1)/2=i
    .rw[a,he] at hq;cases hq;have h1:=Tt (c:=d) (by omega) hx hk;exact sc (hr x (ax hx)) (hr c (ax hk)) (hr e (ax he)) h1 (by simpa using hl)
    .exact ho.1 d x q d0 a hx hq
def Tu {n:Nat}{hp:List Evt}{wh:List Int}{i:Nat}(h:Ord hp):eS n hp wh i=(hp,wh):=by
 cases n with
 |zero=>rfl
 |succ n=>
  unfold eS;split
  .rename_i e c he hc;have ko:=tA hp i;rw[h (kid hp i) c e (by omega) hc (by rw[show(kid hp i-1)/2=i by omega];exact he)]
   rfl
  .rfl
def gL (x:Evt):Nat->List Evt->List Int->Nat->List Evt×List Int×Nat
 |0,hp,wh,i=>(hp,wh,i)
 |n+1,hp,wh,i=>match hp[kid hp i]? with
  |some c=>if evLess c x=true then gL x n (hp.set i c) (wh.set c.h.i.toNat (i:Int)) (kid hp i) else(hp,wh,i)
  |none=>(hp,wh,i)
def Fi {x:Evt}:∀(n:Nat) (hp:List Evt) (wh:List Int) (i:Nat),i<hp.length->
  eS n (hp.set i x) (wh.set x.h.i.toNat (i:Int)) i=((gL x n hp wh i).1.set (gL x n hp wh i).2.2 x,(gL x n hp wh i).2.1.set x.h.i.toNat ((gL x n hp wh i).2.2:Int))
 |0,hp,wh,i,_=>rfl
 |n+1,hp,wh,i,hi=>by
  have hx:(hp.set i x)[i]?=some x:=bv hi;have ko:=tA hp i;unfold eS gL;rw[hx,Y2,bB (by omega)];cases hk:hp[kid hp i]? with
  |none=>rfl
  |some c=>
   simp only;by_cases hc:evLess c x=true
   .rw[ad hc,ad hc];have e1:fF (hp.set i x) i (kid hp i) x c=(hp.set i c).set (kid hp i) x:=by unfold fF;rw[kV]
    have e2:iL (wh.set x.h.i.toNat (i:Int)) i (kid hp i) x c=(wh.set c.h.i.toNat (i:Int)).set x.h.i.toNat ((kid hp i:Nat):Int):=by
     unfold iL;by_cases e:x.h.i.toNat=c.h.i.toNat
     .simp[e]
     .rw[lM _ _ e,kV]
    rw[e1,e2];exact Fi n (hp.set i c) (wh.set c.h.i.toNat (i:Int)) (kid hp i) (by rw[aP];exact bo hk)
   .rw[ac hc,ac hc]
def pZ (a:Agenda)(i j:Nat):Agenda:=match a.heap[a.heap.length-1]? with
 |some f=>if i=a.heap.length-1 then⟨i8 a.s j,a.heap.take (a.heap.length-1),a.w.set j (-1)⟩ else
  let u:=upS (i+1) ((a.heap.take (a.heap.length-1)).set i f) ((a.w.set j (-1)).set f.h.i.toNat (i:Int)) i
  let d:=eS (a.heap.length-1) u.1 u.2.1 u.2.2
  ⟨i8 a.s j,d.1,d.2⟩
 |none=>a
def Tv {a:Agenda}(h:eR a){i j:Nat}{u:Int}{e:Evt}(he:a.heap[i]?=some e)(hh:e.h=⟨(j:Int),u⟩):
  eR (pZ a i j)/\((pZ a i j).heap++[e]).Perm a.heap/\(pZ a i j).w.length=a.w.length:=by
 have hs:=dN.1 h.1;have hP:=pB hs h.2.1;have hl:=h.2.1.2.1;have hO:=ym h;have hi:=bo he;obtain⟨j',u',e1,e2,e3,e4⟩:=hP.at_ i e he;rw[hh] at e1;simp only[Hnd.mk.injEq] at e1;have:j'=j:=by omega
 subst this;have hs':=Ts hs e2;obtain⟨hp,f,hq⟩:∃hp f,a.heap=hp++[f]:=by
  rcases kU a.heap with h|⟨hp,f,h⟩
  .grind
  .grind
 have hn:a.heap.length-1=hp.length:=by rw[hq];simp
 have hn':a.heap.length=hp.length+1:=by rw[hq];simp
 have hlast:a.heap[a.heap.length-1]?=some f:=by rw[hn,hq];simp
 have htk:a.heap.take (a.heap.length-1)=hp:=by rw[hn,hq];simp
 have hr:∀x∈a.heap,qo x:=h.2.2.1;have hrk:∀x∈hp,rok x.time=true:=λx hx=>(hr x (by rw[hq];simp[hx])).1;have hfr:rok f.time=true:=(hr f (by rw[hq];simp)).1;have fin:∀(h1:List Evt) (w1:List Int),Ord h1->(h1++[e]).Perm a.heap->Plc (i8 a.s j') h1 w1->eR ⟨i8 a.s j',h1,w1⟩/\(h1++[e]).Perm a.heap/\ w1.length=a.w.length:=λh1 w1 o p q=>by
  have pl:=p.length_eq;rw[aD,aN] at pl;refine⟨⟨dN.2 hs',PN q ?_,λx hx=>hr x (p.mem_iff.1 (dP _ hx)),?_,λc x p' hx hp'=>?_⟩,p,?_⟩
  .unfold i8;simp only[aD,aN];omega
  .have:=(p.map (·.n)).nodup_iff.2 h.2.2.2.1;rw[dU,eY] at this;exact this.1
  .exact o (c+1) x p' (by omega) hx (by simpa using hp')
  .rw[q.len,hP.len];rfl
 unfold pZ;rw[hlast];simp only;rw[htk,hn];by_cases hil:i=hp.length
 .rw[ad hil];subst hil;have:f=e:=by rw[hq] at he;simpa using he
  subst this;rw[hq] at hP;refine fin hp _ (λc x p c0 hx hp'=>?_) (by rw[hq]) (Mu hP hh);have hc:=bo hx;exact hO c x p c0 (by rw[hq,aH hc];exact hx) (by rw[hq,aH (by omega)];exact hp')
 .rw[ac hil];have hil:i<hp.length:=by omega
  have hfn:a.heap[hp.length]?=some f:=by rw[hq];simp
  have hei:hp[i]?=some e:=by rw[hq,aH hil] at he;exact he
  have hw:=wW hP he hfn (by omega);obtain⟨jf,uf,f1,f2,f3,f4⟩:=hP.at_ _ f hfn;have hjf:jf≠j':=λq=>by
   subst q;rw[f4] at e4;simp only[bZ] at e4;omega
  have hset:(a.heap.set i f).set hp.length e=hp.set i f++[e]:=by
   rw[hq,x0 _ _ hil,pa _ _ (by simp)];simp
  rw[hset,hh,f1] at hw;simp only[aG] at hw;have hw:=Mu hw hh;rw[kV,lM _ _ (by omega)] at hw;rw[f1];simp only[aG];have hpm:(hp.set i f++[e]).Perm a.heap:=by
   rw[<-hset];exact qr he hfn
  have G:∀m,(hp.set i f)[m]?=if m=i then some f else hp[m]?:=λm=>by
   by_cases q:m=i
   .subst q;rw[ad rfl,bv hil]
   .rw[ac q,bB (λe=>q e.symm)]
  have H:∀{m:Nat} {x:Evt},hp[m]?=some x->a.heap[m]?=some x:=λ{m x} hx=>by rw[hq,aH (bo hx)];exact hx
  have hrs:∀x∈hp.set i f,rok x.time=true:=λx hx=>by
   rcases dQ hx with h1|h1
   .exact hrk x h1
   .rw[h1];exact hfr
  have her:rok e.time=true:=hrk e (ax hei);have kidp:∀(c:Nat) (x p:Evt),0<i->0<c->(c-1)/2=i->hp[c]?=some x->hp[(i-1)/2]?=some p->evLess x p=false:=λc x p i0 c0 hc hx hp'=>
   sc (hrk x (ax hx)) her (hrk p (ax hp')) (hO c x e c0 (H hx) (by rw[hc];exact he)) (hO i e p i0 he (H hp'))
  have other:∀(c:Nat) (x p:Evt),0<c->c≠i->(c-1)/2≠i->(hp.set i f)[c]?=some x->(hp.set i f)[(c-1)/2]?=some p->evLess x p=false:=λc x p c0 cn pn hx hp'=>by
   rw[G,ac cn] at hx;rw[G,ac pn] at hp';exact hO c x p c0 (H hx) (H hp')
  have hfi:(hp.set i f)[i]?=some f:=by rw[G,ad rfl]
  have hlen:(hp.set i f).length=hp.length:=aP;by_cases hc:∃p,0<i/\ hp[(i-1)/2]?=some p/\ evLess f p=true
  .obtain⟨p,i0,hpp,hfp⟩:=hc;obtain⟨q1,q2,q3,_,_⟩:=Bz (s:=i8 a.s j') (i+1) (hp.set i f) _ i (by omega) (by omega) hrs ⟨λc x q c0 cn hx hq'=>by
    by_cases a1:(c-1)/2=i
    .rw[G,ad a1] at hq';cases hq';rw[G,ac cn] at hx;exact ED hfr (hrk p (ax hpp)) (hrk x (ax hx)) hfp (kidp c x p i0 c0 a1 hx hpp)
    .exact other c x q c0 cn a1 hx hq',λc x q i0 c0 hc hx hq'=>by
    rw[G,ac (by omega)] at hx;rw[G,ac (by omega)] at hq';exact kidp c x q i0 c0 hc hx hq'⟩ hw
   rw[Tu q1];exact fin _ _ q1 ((q2.append_right [e]).trans hpm) q3
  .have hu:upS (i+1) (hp.set i f) ((a.w.set j' (-1)).set jf (i:Int)) i=(hp.set i f,(a.w.set j' (-1)).set jf (i:Int),i):=by
    unfold upS;rw[hfi];cases hpp:(hp.set i f)[(i-1)/2]? with
    |none=>rfl
    |some p=>
     simp only;rw[ac];rintro⟨i0,hfp⟩;rw[G,ac (by omega)] at hpp;exact hc ⟨p,i0,hpp,hfp⟩
   rw[hu];obtain⟨q1,q2,q3⟩:=K4 (s:=i8 a.s j') hp.length (hp.set i f) _ i (by omega) (by omega) hrs ⟨λc x q c0 cn hx hq'=>by
    by_cases a1:c=i
    .subst a1;rw[hfi] at hx;cases hx;rw[G,ac (by omega)] at hq';cases hl':evLess f q with
     |false=>rfl
     |true=>exact absurd ⟨q,c0,hq',hl'⟩ hc
    .exact other c x q c0 a1 cn hx hq',λc x q i0 c0 hc hx hq'=>by
    rw[G,ac (by omega)] at hx;rw[G,ac (by omega)] at hq';exact kidp c x q i0 c0 hc hx hq'⟩ hw
   exact fin _ _ q1 ((q2.append_right [e]).trans hpm) q3
def o9 {c:Certs}:dp c↔c.l.length<=200/\ 0<=c.next/\ c.next<=1000000/\(∀h∈c.l,h.c.ok/\ 0<=h.n/\ h.n<c.next)/\ c.l.Pairwise λg h=>g.n<h.n/\ g.c≠h.c:=by
 constructor
 .intro hc;have hc':=hc;obtain⟨h1,h2,h3,h4⟩:=hc';refine⟨h1,h2,h3,λh hh=>?_,?_⟩
  .obtain⟨i,hi⟩:=aK.1 hh
   grind
  .rw[dR];intro i j hi hj hij;exact⟨DE hc j i _ _ hij (ai hi) (ai hj),(h4 j _ (ai hj)).2.2.2.2 i hij _ (ai hi)⟩
 .rintro⟨h1,h2,h3,h4,h5⟩;rw[dR] at h5;refine⟨h1,h2,h3,λi h hi=>?_⟩
  grind
def xP (c:Clock)(d:Due)(x:Held):Prop:=d.n=x.n/\(⟨(fT c x.c).1,x.n,d.h⟩:Evt)∈c.a.heap
open Classical in
def xQ {c:Clock}(ha:eR c.a):∀(l:List Held) (left:List Due),ez (ec c) left l=some []↔(∀x∈l,d7 c.p x=true)/\ F2 (xP c) left (l.filter λx=>(fT c x.c).2)
 |[],left=>by
  constructor
  .intro h;have h:some left=some []:=h;cases h;exact⟨λ_ h=>(by cases h),.nil⟩
  .rintro⟨_,h⟩;cases h;rfl
 |x::l,left=>by
  rw[ez];have ds:ec c left x=if d7 c.p x=true then(if(fT c x.c).2=true then(match left with
    |[]=>none
    |d::rest=>if qI c.a d x.n (fT c x.c).1 then some rest else none) else some left) else none:=rfl
  rw[ds];have fp:(fT c x.c).2=true->(x::l).filter (λx=>(fT c x.c).2)=x::l.filter λx=>(fT c x.c).2:=λh=>tP (p:=λx:Held=>(fT c x.c).2) h;have fn:¬(fT c x.c).2=true->(x::l).filter (λx=>(fT c x.c).2)=l.filter λx=>(fT c x.c).2:=λh=>tO (p:=λx:Held=>(fT c x.c).2) h;by_cases h1:d7 c.p x=true
  rotate_left
  .rw[ac h1];exact⟨λh=>(by cases h),λh=>absurd (h.1 x (cq ..)) h1⟩
  rw[ad h1];by_cases h2:(fT c x.c).2=true
  .rw[ad h2,fp h2];cases left with
   |nil=>exact⟨λh=>(by cases h),λh=>(by cases h.2)⟩
   |cons d rest=>
    simp only;by_cases h3:qI c.a d x.n (fT c x.c).1
    .rw[ad h3];simp only;rw[xQ ha l rest];constructor
     .rintro⟨a1,a2⟩;exact⟨λy hy=>(bz.1 hy).elim (λe=>e▸h1) (a1 y),.cons ((sE ha).1 h3) a2⟩
     .rintro⟨a1,a2⟩;cases a2 with
      |cons _ a2=>exact⟨λy hy=>a1 y (aU _ hy),a2⟩
    .rw[ac h3];refine⟨λh=>(by cases h),λh=>?_⟩;cases h.2 with
     |cons a _=>exact absurd ((sE ha).2 a) h3
  .rw[ac h2,fn h2];simp only;rw[xQ ha l left];exact⟨λ⟨a1,a2⟩=>⟨λy hy=>(bz.1 hy).elim (λe=>e▸h1) (a1 y),a2⟩,λ⟨a1,a2⟩=>⟨λy hy=>a1 y (aU _ hy),a2⟩⟩
def En {α β:Type}{R:α->β->Prop}{f:α->Bool}{g:β->Bool}(h:∀a b,R a b->f a=g b):∀{xs:List α} {ys:List β},F2 R xs ys->F2 R (xs.filter f) (ys.filter g)
 |[],_,.nil=> .nil
 |a::xs,b::ys,.cons r t=>by
  rw[cS,cS,<-h a b r];cases f a with
  |true=>exact .cons r (En h t)
  |false=>exact En h t
def jJ {c:Clock}:bJ c↔rok c.n=true/\ okF c.p/\ dp c.q/\ eR c.a/\ c.a.w.length=200/\ c.a.heap.length=c.d.length/\(∀x∈c.q.l,d7 c.p x=true)/\ F2 (xP c) c.d (c.q.l.filter λx=>(fT c x.c).2):=by
 constructor
 .rintro⟨h1,h2,h3,h4,h5,h6,h7⟩;exact⟨h1,h2,h3,h4,h5,h6,(xQ h4 _ _).1 h7⟩
 .rintro⟨h1,h2,h3,h4,h5,h6,h7⟩;exact⟨h1,h2,h3,h4,h5,h6,(xQ h4 _ _).2 h7⟩
def dg (n:Int)(m:Int):Bool:=!decide (m=n)
def ku (c:Clock)(n:Int):Agenda:=match c.d.find? λd=>decide (d.n=n) with
 |some d=>pZ c.a ((c.a.w[d.h.i.toNat]?).getD 0).toNat d.h.i.toNat
 |none=>c.a
def gJ (c:Clock)(n:Int):Clock:=⟨c.n,c.p,⟨c.q.next,c.q.l.filter λx=>dg n x.n⟩,ku c n,c.d.filter λd=>dg n d.n⟩
def Dg {c:Clock}(h:bJ c){d:Due}(hd:d∈c.d):∃(i j:Nat) (u:Int) (e:Evt),c.a.w[j]?=some (i:Int)/\ c.a.heap[i]?=some e/\ e.h=⟨(j:Int),u⟩/\ d.h=⟨(j:Int),u⟩/\ e.n=d.n/\ c.a.s.v[j]?=some true/\ c.a.s.u[j]?=some u:=by
 obtain⟨r1,r2⟩:=AS h.2.2.2.1 _ _ h.2.2.2.2.2.2;obtain⟨t,ht⟩:=r2 d hd;obtain⟨i,hi⟩:=aK.1 ht;obtain⟨j,u,e1,e2,e3,e4⟩:=(pB (dN.1 h.2.2.2.1.1) h.2.2.2.1.2.1).at_ i _ hi
 grind
def Mv {c:Clock}(h:bJ c)(n:Int):bJ (gJ c n):=by
 have hnum:=tZ h;have hnd:(c.d.map (·.n)).Nodup:=hnum.1.nodup_iff.2 h.2.2.2.1.2.2.2.1;have hat:=λd hd=>Dg h (d:=d) hd;obtain⟨h1,h2,h3,h4,h5,h6,h7,h8⟩:=jJ.1 h;have hag:eR (ku c n)/\(ku c n).w.length=200/\(ku c n).heap.length=(c.d.filter λd=>dg n d.n).length/\∀e∈c.a.heap,e.n≠n->e∈(ku c n).heap:=by
  unfold ku;cases hf:c.d.find? λd=>decide (d.n=n) with
  |none=>
   have hall:∀d∈c.d,¬d.n=n:=λd hd=>by simpa using j5.1 hf d hd
   refine⟨h4,h5,?_,λe he _=>he⟩;rw[fd.2 (λd hd=>by unfold dg;simp[hall d hd])];exact h6
  |some d=>
   have hd:=ed hf;have hdn:d.n=n:=by simpa using j6 hf
   obtain⟨i,j,u,e,w1,w2,w3,w4,w5,_⟩:=hat d hd;simp only;rw[w4];simp only[aG];rw[w1];simp only[cC,aG];obtain⟨q1,q2,q3⟩:=Tv h4 w2 w3;refine⟨q1,q3.trans h5,?_,λe' he hne=>?_⟩
   .have a1:=q2.length_eq;rw[aD,aN,h6] at a1;have a2:(c.d.filter λd=>dg n d.n).length+1=c.d.length:=by
     have:=sS (λd:Due=>dg n d.n) c.d;have a3:(c.d.filter λd=>!dg n d.n)=[d]:=by
      have sub:((c.d.filter λd=>!dg n d.n).map (·.n)).Nodup:=(mf.map _).nodup hnd;have all:∀x∈c.d.filter (λd=>!dg n d.n),x.n=n:=λx hx=>by
       have:=(bF.1 hx).2;unfold dg at this;simpa using this
      have mem:d∈c.d.filter (λd=>!dg n d.n):=bF.2 ⟨hd,by unfold dg;simp[hdn]⟩;generalize c.d.filter (λd=>!dg n d.n)=l at sub all mem
      match l,sub,all,mem with
      |[],_,_,mem=>cases mem
      |[x],_,_,mem=>rw[cJ] at mem;rw[mem]
      |x::y::r,sub,all,_=>
       exfalso;rw[bY,bY,cj] at sub;exact sub.1 (by rw[all x (by simp),all y (by simp)];simp)
     rw[a3,aN] at this;omega
    omega
   .have:=q2.mem_iff.2 he;rcases b9.1 this with h|h
    .exact h
    .rw[cJ] at h;exact absurd (by rw[h,w5,hdn]) hne
 obtain⟨g1,g2,g3,g4⟩:=hag;refine jJ.2 ⟨h1,h2,?_,g1,g2,g3,λx hx=>h7 x (bF.1 hx).1,?_⟩
 .obtain⟨c1,c2,c3,c4,c5⟩:=o9.1 h3;exact o9.2 ⟨bG (gn ..) c1,c2,c3,λx hx=>c4 x (bF.1 hx).1,c5.sublist mf⟩
 .have:((gJ c n).q.l.filter λx=>(fT (gJ c n) x.c).2)=(c.q.l.filter λx=>(fT c x.c).2).filter λx=>dg n x.n:=by
   show(c.q.l.filter λx=>dg n x.n).filter (λx=>(fT c x.c).2)=_
   rw[rv,rv];exact aW (λp=>c.q.l.filter p) (funext λx=>Bool.and_comm ..)
  rw[this];have h9:=En (f:=λd:Due=>dg n d.n) (g:=λx:Held=>dg n x.n) (λa b r=>by rw[r.1]) h8;have up:∀{xs:List Due} {ys:List Held},F2 (xP c) xs ys->(∀b∈ys,dg n b.n=true)->F2 (xP (gJ c n)) xs ys:=by
   intro xs ys k;induction k with
   |nil=>exactλ_=> .nil
   |cons r t ih=>
    intro hb;refine .cons ⟨r.1,g4 _ r.2 ?_⟩ (ih λb h=>hb b (aU _ h));have:=hb _ (cq ..);unfold dg at this;simpa using this
  exact up h9 λb hb=>(bF.1 hb).2
def Dh {x y:Rt}(hx:rok x=true)(hy:rok y=true)(h:crs x y=0):x=y:=by
 obtain⟨a,b⟩:=x;obtain⟨c,d⟩:=y;unfold rok at hx hy;simp at hx hy;obtain⟨⟨hb,_⟩,hx⟩:=hx;obtain⟨⟨hd,_⟩,hy⟩:=hy;unfold crs at h;simp only at h;have e:a*d=c*b:=by omega
 have en:a.natAbs*d.natAbs=c.natAbs*b.natAbs:=by rw[<-qG,<-qG,e]
 have d1:=(pf (Nat.Coprime.symm hx) (by rw[en];exact Nat.dvd_mul_left ..));have d2:=(pf (Nat.Coprime.symm hy) (by rw[<-en];exact Nat.dvd_mul_left ..));have d3:=Nat.dvd_antisymm d1 d2;have:b=d:=by omega
 subst this;have:=Int.eq_of_mul_eq_mul_right (by omega) e;rw[this]
def Tw {n d:Int}(hd:0<d):∃g:Int,0<g/\ n=(mkR n d).num*g/\ d=(mkR n d).den*g:=by
 have hg:0<Nat.gcd n.natAbs d.natAbs:=gD _ (by omega);have e1:=Nat.div_mul_cancel (Nat.gcd_dvd_left n.natAbs d.natAbs);have e2:=Nat.div_mul_cancel (Nat.gcd_dvd_right n.natAbs d.natAbs);refine⟨(Nat.gcd n.natAbs d.natAbs:Int),by omega,?_,?_⟩
 .unfold mkR;by_cases h:n<0
  .rw[ad (by simp;omega),Int.neg_mul,<-p8,e1];omega
  .rw[ac (by simp[h];omega),<-p8,e1];omega
 .unfold mkR;simp only;omega
def zz {hi lo:Pt}(h:hi.b<lo.b):∃g:Int,0<g/\∀t,far t hi lo= -(crs t (mkR (hi.a-lo.a) (lo.b-hi.b))*g):=by
 obtain⟨g,g0,e1,e2⟩:=Tw (n:=hi.a-lo.a) (d:=lo.b-hi.b) (by omega);refine⟨g,g0,λt=>?_⟩;unfold far crs
 grind
def zA {t t':Rt}{hi lo:Pt}(o1:hi.ok=true)(o2:lo.ok=true)(hne:hi.id≠lo.id)(hr:rok t=true)(hr':rok t'=true)(h:crs t t'<=0):
  ((cT t hi lo).2=true->crs t' (cT t hi lo).1<=0->cT t' hi lo=cT t hi lo)/\((cT t hi lo).2=false->cT t' hi lo=cT t hi lo):=by
 have b1:=Pt.bnd o1;have b2:=Pt.bnd o2;unfold cT;by_cases h1:leads t lo hi=true
 .rw[ad h1];refine⟨λ_ k=>?_,λh=>by cases h⟩;have:t=t':=Dh hr hr' (by simp only at k;have:=eJ t t';omega)
  grind
 .rw[ac h1];by_cases h2:hi.b<lo.b
  .rw[ad h2];refine⟨λ_ k=>?_,λh=>by cases h⟩;simp only at k;obtain⟨g,g0,hg⟩:=zz h2;have hs:=(GI (n:=hi.a-lo.a) (d:=lo.b-hi.b) ⟨by omega,by omega⟩ ⟨by omega,by omega⟩ (by omega)).1;have ft:=hg t';generalize mkR (hi.a-lo.a) (lo.b-hi.b)=s at ft hs k;have fn:=sK t' hi lo;by_cases k0:crs t' s=0
   .have:t'=s:=Dh hr' hs k0;rw[k0,p9] at ft;rw[ad (leads_iff.2 (.inr ⟨by omega,.inl h2⟩)),this]
   .have:crs t' s*g<0:=i9 (by omega) g0;rw[ac];intro hl;rcases leads_iff.1 hl with q|⟨q,_⟩<;>omega
  .rw[ac h2];refine⟨λh=>(by cases h),λ_=>?_⟩;rw[ac];intro hl;have td:=eT hr;have td':=eT hr';have e:far t' lo hi*t.den=far t lo hi*t'.den+(lo.b-hi.b)*(-crs t t'):=by
    unfold far crs;generalize lo.a-hi.a=A;generalize lo.b-hi.b=B;simp only[Int.add_mul,Int.mul_neg,Int.mul_sub,Int.mul_assoc];rw[zI t.den t'.den,zI t.num t'.den];have:t'.den*t.num=t.num*t'.den:=zI ..;omega
   have n1:(lo.b-hi.b)*(-crs t t')<=0:=er (by omega) (by omega);have f1:far t lo hi<=0:=by
    apply sA.1;intro q;exact h1 (leads_iff.2 (.inl q))
   have n2:far t lo hi*t'.den<=0:=er f1 (by omega);rcases leads_iff.1 hl with q|⟨q,q2⟩
   .have:=AH q (show 0<t.den by omega)
    omega
   .rw[q,p9] at e;have z:far t lo hi*t'.den=0:=by omega
    have z:far t lo hi=0:=(uF.1 z).resolve_right (by omega);exact h1 (leads_iff.2 (.inr ⟨z,q2⟩))
def atC (c:Clock)(t:Rt):Clock:=⟨t,c.p,c.q,c.a,c.d⟩
def XG {c:Clock}(h:bJ c){t:Rt}(hr:rok t=true)(hl:crs c.n t<=0){x:Held}(hx:x∈c.q.l):((fT c x.c).2=true->crs t (fT c x.c).1<=0->fT (atC c t) x.c=fT c x.c)/\((fT c x.c).2=false->fT (atC c t) x.c=fT c x.c):=by
 obtain⟨h1,h2,h3,h4,h5,h6,h7,h8⟩:=jJ.1 h;have hk:=h7 x hx;unfold d7 at hk;rw[aJ] at hk;obtain⟨k1,k2⟩:=hk;obtain⟨i,p,a1,a2,a3,a4⟩:=d6 h2 k1;obtain⟨j,q,b1,b2,b3,b4⟩:=d6 h2 k2;have hc:=((o9.1 h3).2.2.2.1 x hx).1;have:=zA (t:=c.n) (t':=t) (hi:=bh c.p x.c.h) (lo:=bh c.p x.c.j) (by rw[b4];exact dr h2 b1) (by rw[a4];exact dr h2 a1) (by
  rw[a4,b4];have:=hc.2.2.2.2;omega) h1 hr hl
 exact this
def ahK {c:Clock}(h:bJ c){t:Rt}(hr:rok t=true)(hl:crs c.n t<=0)(he:∀e∈c.a.heap,crs t e.time<=0):bJ (atC c t):=by
 have hf:=λx hx=>XG h hr hl (x:=x) hx;obtain⟨h1,h2,h3,h4,h5,h6,h7,h8⟩:=jJ.1 h;have ev:∀{xs:List Due} {ys:List Held},F2 (xP c) xs ys->∀y∈ys,crs t (fT c y.c).1<=0:=by
  intro xs ys k;induction k with
  |nil=>intro y hy;cases hy
  |cons r t ih=>
   intro y hy;rcases bz.1 hy with e|hy
   .rw[e];exact he _ r.2
   .grind
 have ev:=ev h8;have same:∀x∈c.q.l,fT (atC c t) x.c=fT c x.c:=λx hx=>by
  grind
 have hfil:((atC c t).q.l.filter λx=>(fT (atC c t) x.c).2)=c.q.l.filter λx=>(fT c x.c).2:=by
  show(c.q.l.filter λx=>(fT (atC c t) x.c).2)=_
  exact ky λx hx=>by rw[same x hx]
 refine jJ.2 ⟨hr,h2,h3,h4,h5,h6,h7,?_⟩;rw[hfil];have up:∀{xs:List Due} {ys:List Held},F2 (xP c) xs ys->(∀y∈ys,y∈c.q.l)->F2 (xP (atC c t)) xs ys:=by
  intro xs ys k;induction k with
  |nil=>exactλ_=> .nil
  |cons r q ih=>
   intro hb;refine .cons ⟨r.1,?_⟩ (ih λb h=>hb b (aU _ h));rw[same _ (hb _ (cq ..))];exact r.2
 exact up h8 λy hy=>(bF.1 hy).1
def Mw {α β:Type}{R:α->β->Prop}:∀{xs:List α} {ys:List β},F2 R xs ys->∀a∈xs,∃b∈ys,R a b
 |_,_,.nil,_,h=>by cases h
 |_,_,.cons r t,a,h=>by
  rcases bz.1 h with e|h
  .exact⟨_,cq ..,e▸r⟩
  .obtain⟨b,h1,h2⟩:=Mw t a h;exact⟨b,aU _ h1,h2⟩
def ri {α:Type}{nu:α->Int}{l:List α}(h:(l.map nu).Nodup){a b:α}(ha:a∈l)(hb:b∈l)(e:nu a=nu b):a=b:=by
 obtain⟨i,hi⟩:=aK.1 ha;obtain⟨j,hj⟩:=aK.1 hb;rw[List.Nodup,iY,dR] at h
 grind
def F1 {c:Clock}(h:bJ c){e:Evt}(he:e∈c.a.heap):∃x∈c.q.l,x.n=e.n/\ fT c x.c=(e.time,true):=by
 have hn:=(tZ h).1;obtain⟨h1,h2,h3,h4,h5,h6,h7,h8⟩:=jJ.1 h;have:=hn.mem_iff.2 (bk.2 ⟨e,he,rfl⟩);obtain⟨d,hd,hdn⟩:=bk.1 this;obtain⟨x,hx,r1,r2⟩:=Mw h8 d hd;have:=ri (nu:=λe:Evt=>e.n) h4.2.2.2.1 r2 he (by simp only;rw[<-r1];exact hdn)
 grind
def nh {c:Clock}(h:bJ c)(hn:aS c.n):fb c:=by
 refine⟨hn,λe he=>?_⟩;obtain⟨x,hx,_,hf⟩:=F1 h he;have hk:=(jJ.1 h).2.2.2.2.2.2.1 x hx;unfold d7 at hk;rw[aJ] at hk;have:=(sD h.2.1 hn h.1 hk.1 hk.2 (by unfold fT at hf;rw[hf])).2;unfold fT at hf
 grind
def Di {c:Clock}(h:bJ c){e:Evt}(he:e∈c.a.heap):crs c.n e.time<=0:=by
 obtain⟨x,hx,_,hf⟩:=F1 h he;obtain⟨h1,h2,h3,h4,h5,h6,h7,h8⟩:=jJ.1 h;have hk:=h7 x hx;unfold d7 at hk;rw[aJ] at hk;obtain⟨k1,k2⟩:=hk;obtain⟨i,p,a1,a2,a3,a4⟩:=d6 h2 k1;obtain⟨j,q,b1,b2,b3,b4⟩:=d6 h2 k2;unfold fT at hf;rw[a4,b4] at hf;unfold cT at hf;split at hf
 .simp[yb] at hf;rw[hf];unfold crs;omega
 .rename_i hl;split at hf
  .rename_i hb;simp only[yb,ju] at hf;obtain⟨g,g0,hg⟩:=zz hb;have hg:=hg c.n;rw[hf] at hg;have fn:=sK c.n q p;apply sA.1;intro hlt;have:=AH hlt g0;exact hl (leads_iff.2 (.inl (by omega)))
  .simp at hf
def VZ {a:Agenda}(h:eR a){e:Evt}(he:a.heap[0]?=some e):∀(i:Nat) (x:Evt),a.heap[i]?=some x->evLess x e=false:=by
 have ho:=ym h;have hr:=h.2.2.1;intro i;induction i using Nat.strongRecOn with
 |_ i ih=>
  intro x hx;by_cases h0:i=0
  .subst h0;rw[he] at hx;cases hx;cases c:evLess e e with
   |false=>rfl
   |true=>have:=mP c;rw[c] at this;cases this
  .have hi:=bo hx;obtain⟨p,hp⟩:∃p,a.heap[(i-1)/2]?=some p:=⟨a.heap[(i-1)/2]'(by omega),ai _⟩;exact sc (hr x (ax hx)).1 (hr p (ax hp)).1 (hr e (ax he)).1 (ho i x p (by omega) hx hp) (ih _ (by omega) p hp)
def xR {a:Agenda}(h:eR a){e:Evt}(he:a.heap[0]?=some e){x:Evt}(hx:x∈a.heap):crs e.time x.time<=0:=by
 obtain⟨i,hi⟩:=aK.1 hx;have:=VZ h he i x hi;apply sA.1;intro hlt;have:evLess x e=true:=sa.2 (.inl (by have:=eJ e.time x.time;omega));simp_all
def gM (c:Clock)(t:Rt):Bool:=match c.a.heap[0]? with
 |some e=>decide (crs e.time t<=0)
 |none=>false
def K5 {c:Clock}(h:bJ c){t:Rt}(hr:rok t=true)(hw:gM c t=false):∀e∈c.a.heap,crs t e.time<=0:=λe he=>by
 have h4:=h.2.2.2.1;cases hh:c.a.heap[0]? with
 |none=>
  obtain⟨i,hi⟩:=aK.1 he;have:=bo hi;rw[fi] at hh;omega
 |some f=>
  unfold gM at hw;rw[hh] at hw;simp at hw;have h1:=xR h4 hh he;have h2:=eJ f.time t;exact(vr (a:=t) (b:=f.time) (c:=e.time) (by have:=eT hr;omega) (by have:=eT (h4.2.2.1 f (ax hh)).1;omega) (by have:=eT (h4.2.2.1 e he).1;omega) (by omega) h1).1
def dw (c:Clock)(e:Evt):Clock:=atC (gJ c e.n) e.time
def iN {c:Clock}(h:bJ c){e:Evt}(he:c.a.heap[0]?=some e)(hn:aS c.n):bJ (dw c e)/\ aS (dw c e).n:=by
 have h4:=h.2.2.2.1;have hd:=Mv h e.n;have hm:=ax he;refine⟨ahK hd (h4.2.2.1 e hm).1 (Di h hm) λx hx=>?_,(nh h hn).2 e hm⟩;have:x∈c.a.heap:=by
  have hx:x∈(ku c e.n).heap:=hx;unfold ku at hx;split at hx
  .rename_i d hf;obtain⟨m,j,u,g,w1,w2,w3,w4,_⟩:=Dg h (ed hf);rw[w4] at hx;simp at hx;rw[w1] at hx;exact(Tv h4 w2 w3).2.1.mem_iff.1 (dP _ hx)
  .exact hx
 exact xR h4 he this
structure CAd (c:Clock)(x:Crt):Prop where
 ok:bJ c
 cok:x.ok
 new:∀g∈c.q.l,g.c≠x
 j:inF c.p x.j=true
 h:inF c.p x.h=true
def p6 (c:Clock)(x:Crt):Prop:=(c.q.l.length=200\/c.q.next=1000000)\/((fT c x).2=true/\ mn c.a.s=false)
def kx (c:Clock)(x:Crt):Clock:=if(fT c x).2=true then oa c x (frL c) (frI c) ((c.a.s.u[frI c]?).getD 0) else pC c x
def CAd.add {c:Clock}{x:Crt}(h:CAd c x)(hf:¬p6 c x):CAdd c x:=by
 have h1:=h.ok.2.2.1.1;have h2:=h.ok.2.2.1.2.2.1;unfold p6 at hf;exact⟨h.ok,h.cok,h.new,by omega,by omega,h.j,h.h⟩
def Fj {s:Slots}(hs:SFine s)(ho:mn s=true):∃(fr:List Int) (i:Nat) (u:Int),s.f=fr++[(i:Int)]/\ s.u[i]?=some u/\ u<1000000:=by
 rcases free_last hs with e|⟨fr,i,u,e,hu,h1,h2⟩
 .unfold mn at ho;rw[e] at ho;cases ho
 .rw[wS e hu] at ho
  grind
def tB {c:Clock}{x:Crt}(h:CAd c x)(hn:aS c.n)(hf:¬p6 c x):bJ (kx c x)/\(kx c x).q=nQ c.q x/\(kx c x).p=c.p/\(kx c x).n=c.n:=by
 have ha:=h.add hf;unfold kx;by_cases h1:(fT c x).2=true
 .rw[ad h1];have ho:mn c.a.s=true:=by
   cases q:mn c.a.s with
   |true=>rfl
   |false=>exact absurd (.inr ⟨h1,q⟩) hf
  obtain⟨fr,i,u,e,hu,hm⟩:=Fj (dN.1 h.ok.2.2.2.1.1) ho;have e1:frL c=fr:=by unfold frL;rw[e];simp
  have e2:frI c=i:=by unfold frI;rw[e];simp
  rw[e1,e2,hu];exact⟨GK ha hn e hu hm h1,rfl,rfl,rfl⟩
 .rw[ac h1];exact⟨GJ ha (by simpa using h1),rfl,rfl,rfl⟩
def dropL (es:List Crt)(l:List Held)(c:Clock):Clock:=l.foldl (λa x=>if x.c∈es then a else gJ a x.n) c
structure Sim (c a:Clock):Prop where
 ok:bJ a
 p:a.p=c.p
 n:a.n=c.n
def f8 (es:List Crt):∀(l:List Held) (c:Clock),bJ c->Sim c (dropL es l c)/\(dropL es l c).q.next=c.q.next/\(dropL es l c).q.l=c.q.l.filter λy=>l.all λx=>decide (x.c∈es)||dg x.n y.n
 |[],c,h=>⟨⟨h,rfl,rfl⟩,rfl,(fd.2 λ_ _=>rfl).symm⟩
 |x::l,c,h=>by
  have e:dropL es (x::l) c=dropL es l (if x.c∈es then c else gJ c x.n):=rfl
  rw[e];by_cases hx:x.c∈es
  .rw[ad hx];obtain⟨q1,q2,q3⟩:=f8 es l c h;refine⟨q1,q2,q3.trans ?_⟩;exact ky λy _=>by rw[dJ,aq hx,Bool.true_or,gI]
  .rw[ac hx];obtain⟨q1,q2,q3⟩:=f8 es l (gJ c x.n) (Mv h _);refine⟨⟨q1.ok,q1.p,q1.n⟩,q2,q3.trans ?_⟩;show(c.q.l.filter λy=>dg x.n y.n).filter _=_
   rw[rv];exact ky λy _=>by rw[dJ,ak hx,og,Bool.and_comm]
open Classical in
def addL:List Crt->Clock->Option Clock
 |[],c=>some c
 |x::xs,c=>if(c.q.l.any λh=>decide (h.c=x))=true then addL xs c else if p6 c x then none else addL xs (kx c x)
structure EdgF (l:List Pt)(es:List Crt):Prop where
 ok:∀x∈es,x.ok
 j:∀x∈es,inF l x.j=true
 h:∀x∈es,inF l x.h=true
def zB {l:List Pt}{es:List Crt}(hE:EdgF l es){c:Clock}(h:bJ c)(hp:c.p=l){x:Crt}(hx:x∈es)(hn:(c.q.l.any λh=>decide (h.c=x))=false):CAd c x:=
 ⟨h,hE.ok x hx,λg hg e=>by rw[dZ] at hn;exact hn g hg (by simp[e]),by rw[hp];exact hE.j x hx,by rw[hp];exact hE.h x hx⟩
def Eo {l:List Pt}:∀{es:List Crt} {c d:Clock},EdgF l es->bJ c->aS c.n->c.p=l->addL es c=some d->Sim c d
 |[],c,d,_,h,_,_,e=>by cases e;exact⟨h,rfl,rfl⟩
 |x::xs,c,d,hE,h,hn,hp,e=>by
  have hE':EdgF l xs:=⟨λy hy=>hE.ok y (aU _ hy),λy hy=>hE.j y (aU _ hy),λy hy=>hE.h y (aU _ hy)⟩;unfold addL at e;split at e
  .exact Eo hE' h hn hp e
  .rename_i h1;split at e
   .cases e
   .rename_i h2;obtain⟨g1,_,g3,g4⟩:=tB (zB hE h hp (cq ..) (by simpa using h1)) hn h2
    have:=Eo hE' g1 (by rw[g4];exact hn) (g3.trans hp) e;exact⟨this.ok,this.p.trans g3,this.n.trans g4⟩
def dh (es:List Crt)(c:Clock):Option Clock:=addL es (dropL es c.q.l c)
def K6 {c d:Clock}{es:List Crt}(hE:EdgF c.p es)(h:bJ c)(hn:aS c.n)(e:dh es c=some d):Sim c d:=by
 obtain⟨q1,_,_⟩:=f8 es c.q.l c h;have:=Eo (l:=c.p) hE q1.ok (by rw[q1.n];exact hn) q1.p e;exact⟨this.ok,this.p.trans q1.p,this.n.trans q1.n⟩
def xS {α:Type}{p q:α->Bool}:∀{l:List α},(∀x∈l,p x=true->q x=true)->l.countP p<=l.countP q
 |[],_=>aB _
 |a::l,h=>by
  have ih:=xS (p:=p) (q:=q) λx hx=>h x (aU _ hx);rw[dy,dy];cases hp:p a with
  |false=>simp;omega
  |true=>rw[h a (cq ..) hp];simp;omega
def Be {α:Type}{p q:α->Bool}{a:α}:∀{l:List α},(∀x∈l,p x=true->q x=true)->a∈l->p a=false->q a=true->l.countP p<l.countP q
 |[],_,h,_,_=>by cases h
 |b::l,h,ha,hp,hq=>by
  have h':=λx hx=>h x (aU _ hx);rw[dy,dy];rcases bz.1 ha with e|ha
  .subst e;have:=xS h';rw[hp,hq];simp;omega
  .have:=Be h' ha hp hq;cases hb:p b with
   |false=>simp;omega
   |true=>rw[h b (cq ..) hb];simp;omega
def l8 (t:Rt)(z:Pt×Pt):Bool:=leads t z.1 z.2&&(cT t z.1 z.2).2
def xT (l:List Pt):List (Pt×Pt):=l.flatMap λp=>l.map λq=>(p,q)
def Tx {l:List Pt}{p q:Pt}:(p,q)∈xT l↔p∈l/\ q∈l:=by
 unfold xT
 grind
def gt (t:Rt)(l:List Pt):Nat:=(xT l).countP (l8 t)
def xU {t:Rt}{p q:Pt}:l8 t (p,q)=true↔0<far t p q/\ p.b<q.b:=by
 unfold l8 cT;simp;constructor
 .rintro⟨h1,h2⟩;have h3:¬leads t q p=true:=by rw[fY h1];simp
  by_cases hb:p.b<q.b
  .refine⟨?_,hb⟩;rcases leads_iff.1 h1 with h|⟨_,h|⟨h,_⟩⟩<;>omega
  .grind
 .rintro⟨h1,h2⟩;have hl:=leads_iff.2 (.inl h1)
  grind
def zD {t t':Rt}{p q:Pt}(hr:rok t=true)(hr':rok t'=true)(h:crs t t'<=0)(hf:l8 t' (p,q)=true):l8 t (p,q)=true:=by
 obtain⟨h1,h2⟩:=xU.1 hf;refine xU.2 ⟨?_,h2⟩;obtain⟨g,g0,hg⟩:=zz h2;have a:=hg t;have b:=hg t';have hd:=eT hr;have hd':=eT hr';obtain⟨g',_,e1,e2⟩:=Tw (n:=p.a-q.a) (d:=q.b-p.b) (by omega);have hs:0<(mkR (p.a-q.a) (q.b-p.b)).den:=by
  apply Int.not_le.1;intro hle;have:=er hle (show 0<=g' by omega)
  omega
 generalize mkR (p.a-q.a) (q.b-p.b)=s at*;have k1:crs t' s<0:=by
  apply Int.not_le.1;intro hle;have:=ww hle (show 0<=g by omega)
  omega
 have k2:=vr (a:=t) (b:=t') (c:=s) (by omega) (by omega) hs h (by omega);have k3:crs t s<0:=by
  grind
 have:=i9 k3 g0;omega
def V0 {t t':Rt}{l:List Pt}(hr:rok t=true)(hr':rok t'=true)(h:crs t t'<=0):gt t' l<=gt t l:=xS λz _ hz=>zD (p:=z.1) (q:=z.2) hr hr' h hz
def Holds (c:Clock)(x:Crt):Prop:=leads c.n (bh c.p x.h) (bh c.p x.j)=true
def V1 {c:Clock}(h:bJ c){e:Evt}(he:e∈c.a.heap){x:Held}(hx:x∈c.q.l)(hf:fT c x.c=(e.time,true))(hh:Holds c x.c):gt e.time c.p<gt c.n c.p:=by
 obtain⟨h1,h2,h3,h4,h5,h6,h7,h8⟩:=jJ.1 h;have hk:=h7 x hx;unfold d7 at hk;rw[aJ] at hk;obtain⟨k1,k2⟩:=hk;obtain⟨i,p,a1,a2,a3,a4⟩:=d6 h2 k1;obtain⟨j,q,b1,b2,b3,b4⟩:=d6 h2 k2;unfold Holds at hh;unfold fT at hf;rw[a4,b4] at hf hh;have hq:l8 c.n (q,p)=true:=by unfold l8;simp[hh,hf]
 have hre:=(h4.2.2.1 e he).1;refine Be (a:=(q,p)) (λz _ hz=>zD (p:=z.1) (q:=z.2) h1 hre (Di h he) hz) (Tx.2 ⟨ax b1,ax a1⟩) ?_ hq;obtain⟨f1,f2⟩:=xU.1 hq;obtain⟨g,g0,hg⟩:=zz f2;have h3':¬leads c.n p q=true:=by rw[fY hh];simp
 unfold cT at hf;rw[ac h3',ad f2] at hf;simp at hf;have:=hg e.time;rw[hf] at this;have z:crs e.time e.time=0:=by unfold crs;omega
 rw[z,p9] at this;cases hfl:l8 e.time (q,p) with
 |false=>rfl
 |true=>have:=(xU.1 hfl).1;omega
def Ty {es:List Crt}{c:Clock}(h:bJ c):∀y∈(dropL es c.q.l c).q.l,y.c∈es:=by
 rw[(f8 es c.q.l c h).2.2];intro y hy;obtain⟨h1,h2⟩:=bF.1 hy;have:=aV.1 h2 y h1;simpa [dg] using this
def Bf {l:List Pt}{fs:List Crt}:∀{es:List Crt} {c d:Clock},EdgF l es->(∀x∈es,x∈fs)->bJ c->aS c.n->c.p=l->(∀y∈c.q.l,y.c∈fs)->addL es c=some d->∀y∈d.q.l,y.c∈fs
 |[],c,d,_,_,h,_,_,hc,e=>by cases e;exact hc
 |x::xs,c,d,hE,hs,h,hn,hp,hc,e=>by
  have hE':EdgF l xs:=⟨λy hy=>hE.ok y (aU _ hy),λy hy=>hE.j y (aU _ hy),λy hy=>hE.h y (aU _ hy)⟩;have hs':=λy hy=>hs y (aU _ hy);unfold addL at e;split at e
  .exact Bf hE' hs' h hn hp hc e
  .rename_i h1;split at e
   .cases e
   .rename_i h2;obtain⟨g1,g2,g3,g4⟩:=tB (zB hE h hp (cq ..) (by simpa using h1)) hn h2
    refine Bf hE' hs' g1 (by rw[g4];exact hn) (g3.trans hp) (λy hy=>?_) e;rw[g2] at hy;unfold nQ at hy;rcases b9.1 hy with q|q
    .exact hc y q
    .rw[cJ] at q;subst q;exact hs x (cq ..)
def zE {c d:Clock}{es:List Crt}(hE:EdgF c.p es)(h:bJ c)(hn:aS c.n)(e:dh es c=some d):∀y∈d.q.l,y.c∈es:=by
 obtain⟨q1,_,_⟩:=f8 es c.q.l c h;exact Bf (l:=c.p) hE (λ_ h=>h) q1.ok (by rw[q1.n];exact hn) q1.p (Ty h) e
def fu (c:Clock)(t:Rt):Option Evt:=match c.a.heap[0]? with
 |some e=>if crs e.time t<=0 then some e else none
 |none=>none
def d9 {c:Clock}{t:Rt}{e:Evt}(h:fu c t=some e):c.a.heap[0]?=some e/\ crs e.time t<=0/\ gM c t=true:=by
 unfold fu at h;unfold gM
 grind
def il {c:Clock}{t:Rt}(h:fu c t=none):gM c t=false:=by
 unfold fu at h;unfold gM
 grind
def eO (c:Clock)(e:Evt):Crt:=((c.q.l.find? λx=>decide (x.n=e.n)).getD ⟨0,⟨0,0⟩⟩).c
def jr {c:Clock}(h:bJ c){e:Evt}(he:c.a.heap[0]?=some e):∃(i:Nat) (x:Held),c.q.l[i]?=some x/\ x.n=e.n/\ eO c e=x.c/\ fT c x.c=(e.time,true):=by
 obtain⟨x,hx,hn,hf⟩:=F1 h (ax he);obtain⟨i,hi⟩:=aK.1 hx;refine⟨i,x,hi,hn,?_,hf⟩;unfold eO;cases q:c.q.l.find? λx=>decide (x.n=e.n) with
 |none=>
  grind
 |some y=>
  have h1:=ed q;have h2:y.n=e.n:=by simpa using j6 q
  have:=ri (nu:=λx:Held=>x.n) (BC h.2.2.1) h1 hx (show y.n=x.n by omega)
  rw[this];rfl
def adv (E:Rt->List Crt)(t:Rt):Nat->Clock->List Crt->Option (Option (Clock×List Crt))
 |0,_,_=>none
 |n+1,c,out=>match fu c t with
  |none=>some (some (c,out))
  |some e=>match dh (E e.time) (dw c e) with
   |some d=>adv E t n d (out++[eO c e])
   |none=>some none
structure Stl (l:List Pt)(c:Clock):Prop where
 ok:bJ c
 n64:aS c.n
 p:c.p=l
 holds:∀x∈c.q.l,Holds c x.c
structure EdgH (l:List Pt)(E:Rt->List Crt):Prop where
 ok:∀t,rok t=true->aS t->EdgF l (E t)
 holds:∀t,rok t=true->aS t->∀x∈E t,leads t (bh l x.h) (bh l x.j)=true
def lC {l:List Pt}{E:Rt->List Crt}(hE:EdgH l E){c d:Clock}(h:Stl l c){e:Evt}(he:c.a.heap[0]?=some e)(hd:dh (E e.time) (dw c e)=some d):Stl l d/\ d.n=e.time/\ gt d.n l<gt c.n l:=by
 obtain⟨f1,f2⟩:=iN h.ok he h.n64;have hr:=(h.ok.2.2.2.1.2.2.1 e (ax he)).1;have hp:(dw c e).p=l:=h.p;have hEd:EdgF (dw c e).p (E e.time):=by rw[hp];exact hE.ok _ hr f2
 have s:=K6 hEd f1 f2 hd;have hm:=zE hEd f1 f2 hd;have hnow:=s.n;refine⟨⟨s.ok,by rw[hnow];exact f2,s.p.trans hp,λx hx=>?_⟩,hnow,?_⟩
 .unfold Holds;rw[hnow,s.p.trans hp];exact hE.holds _ hr f2 _ (hm x hx)
 .obtain⟨i,x,hi,_,_,hf⟩:=jr h.ok he;have hx:=ax hi;rw[hnow,<-h.p];exact V1 h.ok (ax he) hx hf (h.holds x hx)
def K7 {l:List Pt}{E:Rt->List Crt}(hE:EdgH l E){t:Rt}:∀(n:Nat) (c:Clock) (out:List Crt),Stl l c->gt c.n l<n->∃r,adv E t n c out=some r
 |0,c,out,_,h=>by omega
 |n+1,c,out,h,hn=>by
  unfold adv;cases he:fu c t with
  |none=>exact⟨_,rfl⟩
  |some e=>
   simp only;cases hd:dh (E e.time) (dw c e) with
   |none=>exact⟨_,rfl⟩
   |some d=>
    obtain⟨s1,s2,s3⟩:=lC hE h (d9 he).1 hd;exact K7 hE n d _ s1 (by omega)
def K8 {t t':Rt}{l:List Pt}{pl:List Int}(h:okF l)(h1:1<=pl.length)(h2:pl.length<=64)(hv:∀x∈pl,dV l x)(ho:gK pl)
  (hh:∀x∈edsB (bracketOf t l pl).w pl (bracketOf t l pl).w.length,leads t' (bh l x.h) (bh l x.j)=true):bracketOf t' l pl=bracketOf t l pl:=by
 obtain⟨b1,b2,b3⟩:=gA (t:=t) h h1 h2 hv ho;have key:mD (wonI t' l) (bracketOf t l pl).w pl:=λi hi=>by
  have e:=b3 i hi;have mem:0<=nodeV (bracketOf t l pl).w pl (2*i+1)/\ 0<=nodeV (bracketOf t l pl).w pl (2*i+2)->(⟨nodeV (bracketOf t l pl).w pl (2*i+1)+nodeV (bracketOf t l pl).w pl (2*i+2)-nodeV (bracketOf t l pl).w pl i,nodeV (bracketOf t l pl).w pl i⟩:Crt)∈edsB (bracketOf t l pl).w pl (bracketOf t l pl).w.length:=λq=>by
   unfold edsB;rw[oJ];refine⟨i,dc.2 hi,?_⟩;unfold edB
   grind
  generalize nodeV (bracketOf t l pl).w pl (2*i+1)=a at e mem|-;generalize nodeV (bracketOf t l pl).w pl (2*i+2)=b at e mem|-;rw[e] at mem|-;unfold wonI at mem|-;by_cases ha:a<0
  .grind
  .rw[ac ha] at mem|-;rw[ac ha];by_cases hb:b<0
   .grind
   .rw[ac hb] at mem|-;rw[ac hb];have m:=hh _ (mem ⟨by omega,by omega⟩);simp only at m;by_cases hl:leads t (bh l a) (bh l b)=true
    .grind
    .rw[ac hl] at m|-;rw[show a+b-b=a by omega] at m
     rw[ac (by rw[fY m];simp)]
 have:=(uD (m:=pl.length-1) b1).2 key;unfold bracketOf at this|-;simp only at this;rw[this]
def V2 {c:Clock}(h:bJ c){t:Rt}(hr:rok t=true)(hl:crs c.n t<=0)(hw:gM c t=false){x:Held}(hx:x∈c.q.l)(hh:Holds c x.c):leads t (bh c.p x.c.h) (bh c.p x.c.j)=true:=by
 obtain⟨h1,h2,h3,h4,h5,h6,h7,h8⟩:=jJ.1 h;have hc:=((o9.1 h3).2.2.2.1 x hx).1;have hk:=h7 x hx;unfold d7 at hk;rw[aJ] at hk;obtain⟨k1,k2⟩:=hk;obtain⟨i,p,a1,a2,a3,a4⟩:=d6 h2 k1;obtain⟨j,q,b1,b2,b3,b4⟩:=d6 h2 k2;have hne:q.id≠p.id:=by have:=hc.2.2.2.2;omega
 have hf:=XG h hr hl hx;unfold Holds at hh;rw[a4,b4] at hh|-;have e1:fT c x.c=cT c.n q p:=by unfold fT;rw[a4,b4]
 have e2:fT (atC c t) x.c=cT t q p:=by unfold fT;show cT t (bh c.p x.c.h) (bh c.p x.c.j)=_;rw[a4,b4]
 rw[e1,e2] at hf;have n1:¬leads c.n p q=true:=by rw[fY hh];simp
 rcases leads_total (t:=t) hne with g|g
 .exact g
 .exfalso;have f2:cT t q p=(t,true):=by unfold cT;rw[ad g]
  cases hq:(cT c.n q p).2 with
  |false=>
   grind
  |true=>
   have hfil:x∈c.q.l.filter λx=>(fT c x.c).2:=bF.2 ⟨hx,by rw[e1];exact hq⟩;have ev:∀{xs:List Due} {ys:List Held},F2 (xP c) xs ys->∀y∈ys,(∃e∈c.a.heap,e.time=(fT c y.c).1):=by
    intro xs ys k;induction k with
    |nil=>intro y hy;cases hy
    |cons r t ih=>
     intro y hy;rcases bz.1 hy with e|hy
     .rw[e];exact⟨_,r.2,rfl⟩
     .exact ih y hy
   obtain⟨e,he,het⟩:=ev h8 x hfil;have hlt:crs t e.time<0\/crs t e.time=0:=by have:=K5 h hr hw e he;omega
   rw[e1] at het;have hm:=hf.1 hq (by rw[<-het];have:=K5 h hr hw e he;exact this);rw[f2] at hm;have ht:e.time=t:=by rw[het,<-hm]
   have hz:crs e.time t=0:=by rw[ht];unfold crs;omega
   have hmin:∃f,c.a.heap[0]?=some f:=by
    obtain⟨i,hi⟩:=aK.1 he;exact⟨c.a.heap[0]'(by have:=bo hi;omega),ai _⟩
   obtain⟨f,hf0⟩:=hmin;have h9:=xR h4 hf0 he;rw[ht] at h9;unfold gM at hw;rw[hf0] at hw;simp only[aj] at hw;exact hw h9
def K9 (t:Rt)(l:List Pt)(p:Pt):df t l p∈p::l:=by
 rcases topP_mem t l p with h|h
 .rw[h];simp
 .simp[h]
def ahL (n:Int)(d:Nat):fZ n d=0\/fZ n d=1:=by
 unfold fZ;omega
def Tz {t t':Rt}{L:List Pt}:∀(n:Nat) (l:List Pt) (from':Int) (d:Nat),l.length<=n->Ids l->(∀p∈l,p∈L)->(∀p∈L,p.id=from'->p∉l->∀q∈l,True)->
  (∀x∈ek t l from' d,∀p∈L,∀q∈L,p.id=x.1->q.id=x.2->leads t' q p=true)->
  ek t' l from' d=ek t l from' d/\∀p l0,l=p::l0->∀q∈l,q≠df t l0 p->leads t' (df t l0 p) q=true:=by
 intro n;induction n with
 |zero=>
  intro l from' d h _ _ _ _;have hl:l=[]:=cX.1 (by omega);subst hl;exact⟨by unfold ek;rfl,λp l0 e=>by cases e⟩
 |succ n ih=>
  intro l from' d h hi hL _ hH;cases l with
  |nil=>exact⟨by unfold ek;rfl,λp l0 e=>by cases e⟩
  |cons p l=>
   have htm:=K9 t l p;have hr:=hL _ htm;have hH':∀b:Int,b=0\/b=1->∀x∈ek t (side (p::l) (df t l p).id d b) (df t l p).id (d+1),∀p∈L,∀q∈L,p.id=x.1->q.id=x.2->leads t' q p=true:=λb hb x hx=>hH x (by
    unfold ek;refine aU _ (b9.2 ?_);rcases hb with rfl|rfl
    .exact .inl hx
    .exact .inr hx)
   have ihb:=λ(b:Int) (hb:b=0\/b=1)=>ih (side (p::l) (df t l p).id d b) (df t l p).id (d+1) (by have:=qC (t:=t) (p:=p) (l:=l) (d:=d) (b:=b);simp only[aZ] at h;omega) (hi.filter _) (λq hq=>hL q (bF.1 hq).1) (λ_ _ _ _ _ _=>trivial) (hH' b hb);have all:∀q∈p::l,q≠df t l p->leads t' (df t l p) q=true:=λq hq hne=>by
    have hid:q.id≠(df t l p).id:=λe=>hne (ri (nu:=Pt.id) hi hq htm e);have hb:=ahL q.id d;have hm:q∈side (p::l) (df t l p).id d (fZ q.id d):=bF.2 ⟨hq,by simp[hid]⟩;have ib:=ihb _ hb;have iH:=hH' _ hb;have hLs:∀z∈side (p::l) (df t l p).id d (fZ q.id d),z∈L:=λz hz=>hL z (bF.1 hz).1;generalize side (p::l) (df t l p).id d (fZ q.id d)=S at hm ib iH hLs;cases S with
    |nil=>cases hm
    |cons s S=>
     have h1:leads t' (df t l p) (df t S s)=true:=iH ((df t S s).id,(df t l p).id) (by unfold ek;exact cq ..) _ (hLs _ (K9 t S s)) _ hr rfl rfl;by_cases e:q=df t S s
     .rw[e];exact h1
     .exact lT h1 (ib.2 s S rfl q hm e)
   have htop:df t' l p=df t l p:=by
    by_cases e:df t' l p=df t l p
    .exact e
    .exfalso;have h1:=all _ (K9 t' l p) e;have h2:=tv (t:=t') l p hi _ htm (λq=>e q.symm);rw[fY h1] at h2;cases h2
   refine⟨?_,λp' l0 e q hq=>?_⟩
   .unfold ek;rw[htop,(ihb 0 (.inl rfl)).1,(ihb 1 (.inr rfl)).1]
   .cases e;exact all q hq
def V3 {t t':Rt}{l:List Pt}(h:okF l)(hh:∀x∈cG l (cF t l),leads t' (bh l x.h) (bh l x.j)=true):cF t' l=cF t l:=by
 have hi:=c9 h.2.2;have:i5 t' l=i5 t l:=by
  refine(Tz (L:=l) l.length l (-1) 0 (aB _) hi (λ_ h=>h) (λ_ _ _ _ _ _=>trivial) λx hx p hp q hq e1 e2=>?_).1;have hm:=hx;obtain⟨i,hpi⟩:=aK.1 hp;obtain⟨j,hqj⟩:=aK.1 hq;have hk:=Ek (ps:=i5 t l) (k:=p.id) (v:=0) ⟨x.2,by rw[e1];exact hm⟩;have he:=ri (nu:=λx:Int×Int=>x.1) (At (t:=t) h) hk hm e1;have hu:(cF t l)[i]?=some q.id:=by
   unfold cF
   grind
  have hb:=Pt.bnd (dr h hqj);have:=hh ⟨p.id,q.id⟩ (wM.2 ⟨i,p,q.id,hpi,hu,hb.1.1,rfl⟩);rw[io h hpi,io h hqj] at this;exact this
 unfold cF;rw[this]
end Go.Proofs.YtoeigdpfcnaaeaaGreat
namespace Bnd
open Go
section
variable {ld ld':Nat->Nat->Bool}{n:Nat}
structure Rng (ld:Nat->Nat->Bool)(n a b:Nat):Prop where
 le:b<=n
 lo:a=0\/∀j,a<=j->j<b->ld (a-1) j=true
 hi:b=n\/∀j,a<=j->j<b->ld b j=true
def afM (L:Lin ld n){a b k:Nat}(R:Rng ld n a b)(h:so ld a b k):xK ld k a/\ xL ld n k b:=by
 obtain⟨h1,h2,h3⟩:=h;refine⟨⟨h1,λj ha hk=>L.asymm _ _ (h3 j ha (by omega) (by omega)),R.lo.imp_right λq=>q k h1 h2⟩,⟨h2,R.le,λj hk hb=>L.asymm _ _ (h3 j (by omega) hb (by omega)),R.hi.imp_right λq=>q k h1 h2⟩⟩
def tC (L:Lin ld n)(L':Lin ld' n){r:Int}{l:List (Int×Int)}(C:nc ld n r l)(H:∀i j,i<n->Below l i j->ld' j i=true):∀(d a b k:Nat),b-a<=d->Rng ld n a b->so ld a b k->so ld' a b k
 |0,a,b,k,hd,_,h=>by have:=h.1;have:=h.2.1;omega
 |d+1,a,b,k,hd,R,h=>by
  obtain⟨q1,q2⟩:=afM L R h;obtain⟨h1,h2,h3⟩:=h;have hkn:k<n:=by have:=R.le;omega
  obtain⟨x,hx⟩:∃x,l[k]?=some x:=⟨l[k]'(by rw[C.2.1];exact hkn),ai _⟩;obtain⟨a',b',c1,c2,c3,c4⟩:=C.2.2 k x hx;rw[wd c1 q1] at c3;rw[wg c2 q2] at c4;refine⟨h1,h2,λj ha hb hne=>?_⟩;by_cases hj:j<k
  .rcases c3 with⟨e,_⟩|⟨m,em,T⟩
   .omega
   .have hm:=H m k (by have:=T.2.1;omega) ⟨x,hx,.inl em⟩;have T':=tC L L' C H d a k m (by omega) ⟨by omega,R.lo.imp_right λq j ha hk=>q j ha (by omega),.inr λj ha hk=>h3 j ha (by omega) (by omega)⟩ T;by_cases e:j=m
    .rw[e];exact hm
    .exact L'.trans _ _ _ hm (T'.2.2 j ha hj e)
  .rcases c4 with⟨e,_⟩|⟨m,em,T⟩
   .omega
   .have hm:=H m k (by have:=T.2.1;have:=R.le;omega) ⟨x,hx,.inr em⟩;have T':=tC L L' C H d (k+1) b m (by omega) ⟨R.le,.inr λj ha hk=>h3 j (by omega) hk (by omega),R.hi.imp_right λq j ha hk=>q j (by omega) hk⟩ T;by_cases e:j=m
    .rw[e];exact hm
    .exact L'.trans _ _ _ hm (T'.2.2 j (by omega) hb e)
def La (L:Lin ld n){k a b:Nat}(hk:k<n)(h1:xK ld k a)(h2:xL ld n k b):Rng ld n a b/\ so ld a b k:=by
 obtain⟨a1,a2,a3⟩:=h1;obtain⟨b1,b2,b3,b4⟩:=h2;have T:so ld a b k:=⟨a1,b1,λj ha hb hne=>by
  rcases L.total k j hk (by omega) (λe=>hne e.symm) with q|q
  .exact q
  .exfalso;by_cases hj:j<k
   .grind
   .rw[b3 j (by omega) hb] at q;cases q⟩
 refine⟨⟨b2,a3.imp_right λq j ha hb=>?_,b4.imp_right λq j ha hb=>?_⟩,T⟩
 .by_cases e:j=k
  .grind
  .exact L.trans _ _ _ q (T.2.2 j ha hb e)
 .by_cases e:j=k
  .grind
  .exact L.trans _ _ _ q (T.2.2 j ha hb e)
def Mx {r:Int}{l:List (Int×Int)}(C:nc ld n r l){k:Nat}(hk:k<n):∃a b,xK ld k a/\ xL ld n k b:=by
 obtain⟨x,hx⟩:∃x,l[k]?=some x:=⟨l[k]'(by rw[C.2.1];exact hk),ai _⟩;obtain⟨a,b,c1,c2,_⟩:=C.2.2 k x hx
 grind
def Lb (L:Lin ld n)(L':Lin ld' n){r:Int}{l:List (Int×Int)}(C:nc ld n r l)(H:∀i j,i<n->Below l i j->ld' j i=true){m k:Nat}(hm:m<n){a b:Nat}(h1:xK ld m a)(h2:xL ld n m b)(ha:a<=k)(hb:k<b)(hne:k≠m):ld' m k=true:=by
 obtain⟨R,T⟩:=La L hm h1 h2;exact(tC L L' C H _ a b m (aB _) R T).2.2 k ha hb hne
def TA (L:Lin ld n)(L':Lin ld' n){r:Int}{l:List (Int×Int)}(C:nc ld n r l)(H:∀i j,i<n->Below l i j->ld' j i=true):nc ld' n r l:=by
 have link:∀{a b:Nat} {x:Int},Rng ld n a b->kK ld a b x->kK ld' a b x:=λ{a b x} R h=>by
  rcases h with h|⟨k,e,T⟩
  .exact .inl h
  .exact .inr ⟨k,e,tC L L' C H _ a b k (aB _) R T⟩
 refine⟨link ⟨aB _,.inl rfl,.inl rfl⟩ C.1,C.2.1,λk x hx=>?_⟩;obtain⟨a,b,c1,c2,c3,c4⟩:=C.2.2 k x hx;have hk:k<n:=by have:=(aC.1 hx).1;rw[C.2.1] at this;exact this
 obtain⟨R,T⟩:=La L hk c1 c2;have T':=tC L L' C H _ a b k (aB _) R T;have ra:Rng ld n a k:=⟨by omega,R.lo.imp_right λq j ha hj=>q j ha (by have:=T.2.1;omega),.inr λj ha hj=>T.2.2 j ha (by have:=T.2.1;omega) (by omega)⟩;have rb:Rng ld n (k+1) b:=⟨R.le,.inr λj ha hj=>T.2.2 j (by have:=T.1;omega) hj (by omega),R.hi.imp_right λq j ha hj=>q j (by have:=T.1;omega) hj⟩;refine⟨a,b,⟨c1.1,λj ha hj=>L'.asymm _ _ (T'.2.2 j ha (by have:=T.2.1;omega) (by omega)),?_⟩,⟨c2.1,c2.2.1,λj hj hb=>L'.asymm _ _ (T'.2.2 j (by have:=T.1;omega) hb (by omega)),?_⟩,link ra c3,link rb c4⟩
 .by_cases h0:a=0
  .grind
  .right
   have q:=c1.2.2.resolve_left h0;have ha1:=c1.1;obtain⟨a2,b2,d1,d2⟩:=Mx C (show a-1<n by omega)
   have hb2:k<b2:=by
    apply Nat.not_le.1;intro hle;rcases d2.2.2.2 with e|e
    .omega
    ·
     have:ld (a-1) b2=true:=by
      by_cases e':b2=k
      .rw[e'];exact q
      .exact L.trans _ _ _ q (T.2.2 b2 (by have:=d2.1;omega) (by have:=T.2.1;omega) e')
     rw[L.asymm _ _ this] at e;cases e
   exact Lb L L' C H (by omega) d1 d2 (by have:=d1.1;omega) hb2 (by omega)
 .by_cases h0:b=n
  .exact .inl h0
  .right
   have q:=c2.2.2.2.resolve_left h0;have hbn:=c2.2.1;obtain⟨a2,b2,d1,d2⟩:=Mx C (show b<n by omega)
   have ha2:a2<=k:=by
    apply Nat.not_lt.1;intro hlt;rcases d1.2.2 with e|e
    .omega
    .have hb1:=d1.1;have:ld b (a2-1)=true:=by
      by_cases e':a2-1=k
      .rw[e'];exact q
      .exact L.trans _ _ _ q (T.2.2 (a2-1) (by have:=T.1;omega) (by omega) e')
     rw[L.asymm _ _ this] at e;cases e
   exact Lb L L' C H (by omega) d1 d2 ha2 (by have:=d2.1;have:=c2.1;omega) (by have:=c2.1;omega)
end
end Bnd
namespace Go.Proofs.YtoeigdpfcnaaeaaGreat
open Go.Sym Bnd
def Pr {t t':Rt}{l:List Pt}(h:okF l)(hh:∀x∈edgsT (cart t l).n l.length,leads t' (bh l x.h) (bh l x.j)=true):cart t' l=cart t l:=by
 have L:=gj (t:=t) h.2.2;have L':=gj (t:=t') h.2.2;have C:=nI L;have key:nc (ldF t' l) l.length (cmake (ldF t l) l.length).2.1 (cmake (ldF t l) l.length).2.2:=TA L L' C λi j hi hb=>by
  obtain⟨x,hx,hxi⟩:=hb;have hj:j<l.length:=by have:=(aC.1 hx).1;rw[C.2.1] at this;exact this
  obtain⟨n,n1,n2,n3,_⟩:=lg h hx;have hc:nodC i n=true:=by
   unfold nodC
   grind
  obtain⟨k,hk⟩:∃k,(cart t l).n.findIdx? (nodC i)=some k:=by
   cases e:(cart t l).n.findIdx? (nodC i) with
   |some k=>exact⟨k,rfl⟩
   |none=>
    grind
  obtain⟨k1,k2,_⟩:=bL.1 hk;have hb':=rX h (ai k1) k2;have hkj:=Dd L C hb' ⟨x,hx,hxi⟩;subst hkj;have hp:=ai hi;have hq:=ai hj;have m:=hh ⟨uM (cart t l).n i,uM (cart t l).n k⟩ (by
   unfold edgsT;rw[oJ];refine⟨i,dc.2 hi,?_⟩;unfold uN;rw[hk];simp)
  simp only at m;rw[sC h hp,sC h hq,io h hp,io h hq] at m;rw[zO hq hp];exact m
 obtain⟨u1,u2⟩:=Fc L' (nI L') key;unfold cart;rw[u1,u2]
def Bg {l:List Pt}:∀{es:List Crt} {c d:Clock},EdgF l es->bJ c->aS c.n->c.p=l->addL es c=some d->(∀y∈c.q.l,y∈d.q.l)/\∀x∈es,∃y∈d.q.l,y.c=x
 |[],c,d,_,h,_,_,e=>by cases e;exact⟨λ_ h=>h,λ_ h=>by cases h⟩
 |x::xs,c,d,hE,h,hn,hp,e=>by
  have hE':EdgF l xs:=⟨λy hy=>hE.ok y (aU _ hy),λy hy=>hE.j y (aU _ hy),λy hy=>hE.h y (aU _ hy)⟩;unfold addL at e;split at e
  .rename_i h1;obtain⟨q1,q2⟩:=Bg hE' h hn hp e;refine⟨q1,λz hz=>?_⟩;rcases bz.1 hz with rfl|hz
   .obtain⟨y,hy,hc⟩:=oF.1 h1;exact⟨y,q1 y hy,by simpa using hc⟩
   .exact q2 z hz
  .rename_i h1;split at e
   .cases e
   .rename_i h2;obtain⟨g1,g2,g3,g4⟩:=tB (zB hE h hp (cq ..) (by simpa using h1)) hn h2
    obtain⟨q1,q2⟩:=Bg hE' g1 (by rw[g4];exact hn) (g3.trans hp) e;have hin:=λy hy=>q1 y (by rw[g2];exact hy);unfold nQ at hin;refine⟨λy hy=>hin y (dP _ hy),λz hz=>?_⟩;rcases bz.1 hz with rfl|hz
    .exact⟨_,hin _ (gq _ (cJ.2 rfl)),rfl⟩
    .exact q2 z hz
def TB {c d:Clock}{es:List Crt}(hE:EdgF c.p es)(h:bJ c)(hn:aS c.n)(e:dh es c=some d):∀x∈es,∃y∈d.q.l,y.c=x:=by
 obtain⟨q1,_,_⟩:=f8 es c.q.l c h;exact(Bg (l:=c.p) hE q1.ok (by rw[q1.n];exact hn) q1.p e).2
def Aq {l:List Pt}{E:Rt->List Crt}(hE:EdgH l E){t:Rt}:∀(n:Nat) (c:Clock) (out:List Crt) (d:Clock) (out':List Crt),Stl l c->(∀x∈E c.n,∃y∈c.q.l,y.c=x)->adv E t n c out=some (some (d,out'))->∀x∈E d.n,∃y∈d.q.l,y.c=x
 |0,c,out,d,out',_,_,h=>by cases h
 |n+1,c,out,d,out',h,hc,ha=>by
  unfold adv at ha;cases he:fu c t with
  |none=>
   rw[he] at ha;cases ha;exact hc
  |some e=>
   rw[he] at ha;simp only at ha;cases hd:dh (E e.time) (dw c e) with
   |none=>rw[hd] at ha;cases ha
   |some d0=>
    rw[hd] at ha;simp only at ha;obtain⟨n1,n2,_⟩:=d9 he;obtain⟨s1,s2,s3⟩:=lC hE h n1 hd;obtain⟨f1,f2⟩:=iN h.ok n1 h.n64;have hr:=(h.ok.2.2.2.1.2.2.1 e (ax n1)).1;have hpt:(dw c e).p=l:=h.p;refine Aq hE n d0 _ d out' s1 ?_ ha;rw[s2];exact TB (by rw[hpt];exact hE.ok _ hr f2) f1 f2 hd
def oC (f:Int->Nat):List Int->Nat->Nat
 |[],_=>0
 |x::xs,i=>i*f x+oC f xs (i+1)
def Bh {f:Int->Nat}{y:Int}:∀{hp:List Int} {i:Nat} {x:Int} {s:Nat},hp[i]?=some x->oC f (hp.set i y) s+(s+i)*f x=oC f hp s+(s+i)*f y
 |[],i,x,s,h=>by cases h
 |z::zs,0,x,s,h=>by
  simp at h;subst h;simp only[List.set_cons_zero,oC,ny];omega
 |z::zs,i+1,x,s,h=>by
  have h:zs[i]?=some x:=h;have ih:=Bh (f:=f) (y:=y) (s:=s+1) h;simp[oC];rw[show s+1+i=s+(i+1) by omega] at ih
  omega
def TC {f:Int->Nat}{hp:List Int}{n m:Nat}{a b:Int}(ha:hp[n]?=some a)(hb:hp[m]?=some b)(h:n<m)(hf:f a<f b):oC f ((hp.set n b).set m a) 0<oC f hp 0:=by
 have e1:=Bh (f:=f) (y:=b) (s:=0) ha;have hb':(hp.set n b)[m]?=some b:=by rw[bB (by omega)];exact hb
 have e2:=Bh (f:=f) (y:=a) (s:=0) hb';obtain⟨g,rfl⟩:∃g,m=n+(g+1):=⟨m-n-1,by omega⟩;obtain⟨e,he⟩:∃e,f b=f a+(e+1):=⟨f b-f a-1,by omega⟩;rw[he] at e1 e2
 grind
def led (t:Rt)(l:List Pt)(x:Int):Nat:=l.countP λq=>leads t (bh l x) q
def afN {t:Rt}{l:List Pt}(h:okF l){a b:Int}(ha:inF l a=true)(hl:leads t (bh l b) (bh l a)=true):led t l a<led t l b:=by
 obtain⟨i,p,a1,a2,a3,a4⟩:=d6 h ha;refine Be (a:=bh l a) (λq _ hq=>lT hl hq) ?_ (uB t _) hl
 grind
def nJ (t:Rt)(l:List Pt)(hp:List Int):Nat:=oC (led t l) hp 0+(hp.length*l.length)*gt t l
def Ps {t:Rt}{l:List Pt}(h:okF l){hp:List Int}{n m:Nat}{a b:Int}(ha:hp[n]?=some a)(hb:hp[m]?=some b)(hnm:n<m)(hin:inF l a=true)(hl:leads t (bh l b) (bh l a)=true):nJ t l ((hp.set n b).set m a)<nJ t l hp:=by
 have:=TC (f:=led t l) ha hb hnm (afN h hin hl);unfold nJ
 grind
def AD {α:Type}{p q r:α->Bool}:∀{l:List α},(∀x∈l,p x=true->q x=true\/r x=true)->l.countP p<=l.countP q+l.countP r
 |[],_=>by simp
 |a::l,h=>by
  have ih:=AD (p:=p) (q:=q) (r:=r) λx hx=>h x (aU _ hx);have ha:=h a (cq ..);rw[dy,dy,dy];cases hp:p a with
  |false=>simp;omega
  |true=>
   rcases ha hp with e|e
   .rw[e];simp;omega
   .rw[e];simp;omega
def zF {α:Type}{p q:α->Bool}:∀{l:List α},(∀x∈l,q x=true->p x=true)->l.countP p=l.countP q+l.countP λx=>p x&& !q x
 |[],_=>by simp
 |a::l,h=>by
  have ih:=zF (p:=p) (q:=q) λx hx=>h x (aU _ hx);have ha:=h a (cq ..);rw[dy,dy,dy,ih];cases hp:p a<;>cases hq:q a
  .simp
  .rw[ha hq] at hp;cases hp
  .simp;omega
  .simp;omega
def AE {g:Pt×Pt->Bool}{X:Pt}{k:List Pt}(hX:X∈k):∀(l:List Pt),l.countP (λp=>g (p,X))<=(l.flatMap λp=>k.map λq=>(p,q)).countP g
 |[]=>by simp
 |a::l=>by
  have ih:=AE (g:=g) hX l;rw[dy,dA,ro];have:(if g (a,X)=true then 1 else 0)<=(k.map λq=>(a,q)).countP g:=by
   split
   .rename_i h;exact List.countP_pos_iff.2 ⟨(a,X),bk.2 ⟨X,hX,rfl⟩,h⟩
   .omega
  omega
def TD {t t':Rt}{l:List Pt}(h:okF l)(hr:rok t=true)(hr':rok t'=true)(hl:crs t t'<=0){x:Int}(hx:inF l x=true):led t' l x+gt t' l<=led t l x+gt t l:=by
 obtain⟨i,X,a1,a2,a3,a4⟩:=d6 h hx;have hX:=ax a1;have e1:gt t l=gt t' l+(xT l).countP λz=>l8 t z&& !l8 t' z:=zF λz _ hz=>zD (p:=z.1) (q:=z.2) hr hr' hl hz;have e2:=AE (g:=λz=>l8 t z&& !l8 t' z) hX l;have e3:led t' l x<=led t l x+l.countP λq=>l8 t (q,X)&& !l8 t' (q,X):=by
  unfold led;rw[a4];refine AD λq hq hlq=>?_;by_cases c:leads t X q=true
  .exact .inl c
  .right
   have hne:X.id≠q.id:=λe=>by
    have:=ri (nu:=Pt.id) (c9 h.2.2) hX hq e;subst this;rw[uB] at hlq;cases hlq
   have hqX:leads t q X=true:=(leads_total (t:=t) hne).resolve_left c;obtain⟨j,hj⟩:=aK.1 hq;have fm:=zA (t:=t) (t':=t') (hi:=q) (lo:=X) (dr h hj) (dr h a1) (λe=>hne e.symm) hr hr' hl;have hb:q.b<X.b:=by
    apply Int.not_le.1;intro hle;have f0:cT t q X=(⟨0,0⟩,false):=by unfold cT;rw[ac c,ac (by omega)]
    have:=fm.2 (by rw[f0]);rw[f0] at this;unfold cT at this
    grind
   have f1:l8 t (q,X)=true:=by
    unfold l8 cT;simp only;rw[ac c,ad hb,hqX];rfl
   have f2:l8 t' (q,X)=false:=by
    unfold l8;simp only;rw[fY hlq];rfl
   rw[f1,f2];rfl
 have e4:(l.flatMap λp=>l.map λq=>(p,q))=xT l:=rfl;rw[e4] at e2;omega
def My {f g:Int->Nat}{d n:Nat}:∀(hp:List Int) (s:Nat),(∀x∈hp,f x<=g x+d)->s+hp.length<=n->oC f hp s<=oC g hp s+hp.length*(n*d)
 |[],s,_,_=>by simp[oC]
 |x::xs,s,h,hn=>by
  rw[aZ] at hn;have ih:=My (f:=f) (g:=g) (d:=d) (n:=n) xs (s+1) (λy hy=>h y (aU _ hy)) (by omega);have hx:=h x (cq ..);have m1:=qk s hx;have m2:s*d<=n*d:=cB d (by omega);rw[Nat.mul_add] at m1;simp[oC];rw[cx,vb];omega
def LD {t t':Rt}{l:List Pt}(h:okF l)(hr:rok t=true)(hr':rok t'=true)(hl:crs t t'<=0){hp:List Int}(hi:∀x∈hp,inF l x=true)(hn:hp.length=l.length):nJ t' l hp<=nJ t l hp:=by
 have fl:=V0 (l:=l) hr hr' hl;have w:=My (f:=led t' l) (g:=led t l) (d:=gt t l-gt t' l) (n:=hp.length) hp 0 (λx hx=>by have:=TD h hr hr' hl (hi x hx);omega) (by omega);unfold nJ;rw[<-hn];obtain⟨e,he⟩:∃e,gt t l=gt t' l+e:=⟨gt t l-gt t' l,by omega⟩;rw[he,show gt t' l+e-gt t' l=e by omega] at w
 rw[he,Nat.mul_add,Nat.mul_assoc hp.length hp.length e];omega
def TE {t s:Rt}{hi lo:Pt}(o1:hi.ok=true)(o2:lo.ok=true)(hne:hi.id≠lo.id)(hr:rok t=true)(hs:rok s=true)(hl:crs t s<=0)(hf:cT t hi lo=(s,true)):leads s lo hi=true:=by
 have m:=(zA o1 o2 hne hr hs hl).1 (by rw[hf]) (by rw[hf];unfold crs;simp only;omega);rw[hf] at m;by_cases c:leads s lo hi=true
 .exact c
 .unfold cT at m;rw[ac c] at m;by_cases hb:hi.b<lo.b
  .rw[ad hb] at m;simp at m;obtain⟨g,g0,hg⟩:=zz hb;have:=hg s;rw[m] at this;have z:crs s s=0:=by unfold crs;omega
   rw[z,p9] at this;have fn:=sK s hi lo;exact leads_iff.2 (.inr ⟨by omega,.inl hb⟩)
  .grind
def Pu {c:Clock}(h:bJ c){e:Evt}(he:e∈c.a.heap){x:Held}(hx:x∈c.q.l)(hf:fT c x.c=(e.time,true)):leads e.time (bh c.p x.c.j) (bh c.p x.c.h)=true:=by
 obtain⟨h1,h2,h3,h4,h5,h6,h7,h8⟩:=jJ.1 h;have hc:=((o9.1 h3).2.2.2.1 x hx).1;have hk:=h7 x hx;unfold d7 at hk;rw[aJ] at hk;obtain⟨k1,k2⟩:=hk;obtain⟨i,p,a1,a2,a3,a4⟩:=d6 h2 k1;obtain⟨j,q,b1,b2,b3,b4⟩:=d6 h2 k2;unfold fT at hf;rw[a4,b4] at hf|-;exact TE (dr h2 b1) (dr h2 a1) (by have:=hc.2.2.2.2;omega) h1 (h4.2.2.1 e he).1 (Di h he) hf
def d5 (hp:List Int)(n m:Nat)(a b:Int):List Int:=(hp.set n b).set m a
def Pv {c:Clock}(h:bJ c){e:Evt}(he:e∈c.a.heap){x:Held}(hx:x∈c.q.l)(hf:fT c x.c=(e.time,true)){hp:List Int}(hi:∀y∈hp,inF c.p y=true)(hn:hp.length=c.p.length){n m:Nat}(hnm:n<m)(ha:hp[n]?=some x.c.h)(hb:hp[m]?=some x.c.j):
  nJ e.time c.p (d5 hp n m x.c.h x.c.j)<nJ c.n c.p hp:=by
 have l:=Pu h he hx hf;have s:=Ps (t:=e.time) h.2.1 ha hb hnm (hi _ (ax ha)) l;have g:=LD h.2.1 h.1 (h.2.2.2.1.2.2.1 e he).1 (Di h he) hi hn;unfold d5;omega
def Lc {l:List Int}{i:Nat}(h:i<l.length):l[i]?=some (nthI l i):=by
 unfold nthI
 grind
def Mz {hp:List Int}{x:Crt}(h:x∈cW hp):∃n m:Nat,n<m/\ hp[n]?=some x.h/\ hp[m]?=some x.j:=by
 obtain⟨i,hi,rfl⟩:=bk.1 h;rw[dc] at hi;exact⟨i/2,i+1,by omega,Lc (by omega),Lc (by omega)⟩
structure HStl (l:List Pt)(c:Clock)(hp:List Int):Prop where
 ok:bJ c
 n64:aS c.n
 p:c.p=l
 sub:∀y∈c.q.l,y.c∈cW hp
 nd:hp.Nodup
 inl:∀x∈hp,inF l x=true
 len:hp.length=l.length
def Lf {l:List Pt}{hp:List Int}(h:okF l)(nd:hp.Nodup)(inl:∀x∈hp,inF l x=true):EdgF l (cW hp):=by
 have key:∀x∈cW hp,x.ok/\ inF l x.j=true/\ inF l x.h=true:=λx hx=>by
  obtain⟨n,m,hnm,ha,hb⟩:=Mz hx;have k1:=inl _ (ax hb);have k2:=inl _ (ax ha);obtain⟨i,p,a1,a2,_,_⟩:=d6 h k1;obtain⟨j,q,b1,b2,_,_⟩:=d6 h k2;have bp:=Pt.bnd (dr h a1);have bq:=Pt.bnd (dr h b1);refine⟨⟨by omega,by omega,by omega,by omega,λe=>?_⟩,k1,k2⟩;rw[e] at hb;have:=dL.1 nd n m x.h ha hb;omega
 exact⟨λx hx=>(key x hx).1,λx hx=>(key x hx).2.1,λx hx=>(key x hx).2.2⟩
def xV {hp:List Int}{n m:Nat}{a b:Int}(ha:hp[n]?=some a)(hb:hp[m]?=some b):(d5 hp n m a b).Perm hp:=by
 unfold d5
 grind
def uE {l:List Pt}(hl:okF l){c d:Clock}{hp:List Int}(h:HStl l c hp){e:Evt}(he:c.a.heap[0]?=some e){n m:Nat}(hnm:n<m)(ha:hp[n]?=some (eO c e).h)(hb:hp[m]?=some (eO c e).j)
  (hd:dh (cW (d5 hp n m (eO c e).h (eO c e).j)) (dw c e)=some d):HStl l d (d5 hp n m (eO c e).h (eO c e).j)/\ d.n=e.time/\ nJ d.n l (d5 hp n m (eO c e).h (eO c e).j)<nJ c.n l hp:=by
 obtain⟨f1,f2⟩:=iN h.ok he h.n64;have pm:=xV ha hb;have nd:=pm.nodup_iff.2 h.nd;have inl:=λx hx=>h.inl x (pm.mem_iff.1 hx);have hp':(dw c e).p=l:=h.p;have hE:EdgF (dw c e).p (cW (d5 hp n m (eO c e).h (eO c e).j)):=by rw[hp'];exact Lf hl nd inl
 have s:=K6 hE f1 f2 hd;have hm:=zE hE f1 f2 hd;have hnow:=s.n;refine⟨⟨s.ok,by rw[hnow];exact f2,s.p.trans hp',hm,nd,inl,by rw[pm.length_eq];exact h.len⟩,hnow,?_⟩;obtain⟨i,x,hi,_,hce,hf⟩:=jr h.ok he;rw[hnow];rw[hce] at ha hb|-;have:=Pv h.ok (ax he) (ax hi) hf (hp:=hp) (by rw[h.p];exact h.inl) (by rw[h.p];exact h.len) hnm ha hb;rw[h.p] at this;exact this
def plI (hp:List Int)(v:Int):Nat:=(hp.findIdx? λy=>decide (v=y)).getD 0
def TF {hp:List Int}(hn:hp.Nodup){m:Nat}{v:Int}(h:hp[m]?=some v):plI hp v=m:=by
 have:hp.findIdx? (λy=>decide (v=y))=some m:=by
  obtain⟨h1,h2⟩:=aC.1 h;rw[bL];refine⟨h1,by rw[h2];simp,λj hj e=>?_⟩;simp at e;have:=dL.1 hn j m v (by rw[ai (tK hj h1),e]) h;omega
 unfold plI;rw[this];rfl
def F3 (hp:List Int)(x:Crt):List Int:=d5 hp (plI hp x.h) (plI hp x.j) x.h x.j
def p7 (t:Rt):Nat->Clock->List Int->List Crt->Option (Option (Clock×List Int×List Crt))
 |0,_,_,_=>none
 |n+1,c,hp,out=>match fu c t with
  |none=>some (some (c,hp,out))
  |some e=>match dh (cW (F3 hp (eO c e))) (dw c e) with
   |some d=>p7 t n d (F3 hp (eO c e)) (out++[eO c e])
   |none=>some none
def sq {l:List Pt}{c:Clock}{hp:List Int}(h:HStl l c hp){e:Evt}(he:c.a.heap[0]?=some e):∃n m:Nat,n<m/\ hp[n]?=some (eO c e).h/\ hp[m]?=some (eO c e).j/\ F3 hp (eO c e)=d5 hp n m (eO c e).h (eO c e).j:=by
 obtain⟨i,x,hi,_,hce,_⟩:=jr h.ok he;obtain⟨n,m,h1,h2,h3⟩:=Mz (h.sub x (ax hi));rw[hce];refine⟨n,m,h1,h2,h3,?_⟩;unfold F3;rw[TF h.nd h2,TF h.nd h3]
def Fk {l:List Pt}(hl:okF l){t:Rt}:∀(n:Nat) (c:Clock) (hp:List Int) (out:List Crt),HStl l c hp->nJ c.n l hp<n->∃r,p7 t n c hp out=some r
 |0,c,hp,out,_,h=>by omega
 |n+1,c,hp,out,h,hn=>by
  unfold p7;cases he:fu c t with
  |none=>exact⟨_,rfl⟩
  |some e=>
   simp only;obtain⟨i,j,q1,q2,q3,q4⟩:=sq h (d9 he).1;rw[q4];cases hd:dh (cW (d5 hp i j (eO c e).h (eO c e).j)) (dw c e) with
   |none=>exact⟨_,rfl⟩
   |some d=>
    obtain⟨s1,s2,s3⟩:=uE hl h (d9 he).1 q1 q2 q3 hd;exact Fk hl n d _ _ s1 (by omega)
def xW {l:List Pt}(hl:okF l){t:Rt}:∀(n:Nat) (c:Clock) (hp:List Int) (out:List Crt) (d:Clock) (hq:List Int) (out':List Crt),HStl l c hp->crs c.n t<=0->p7 t n c hp out=some (some (d,hq,out'))->HStl l d hq/\ crs d.n t<=0/\ gM d t=false/\ out'.length<=out.length+n
 |0,c,hp,out,d,hq,out',_,_,h=>by cases h
 |n+1,c,hp,out,d,hq,out',h,hp0,ha=>by
  unfold p7 at ha;cases he:fu c t with
  |none=>
   rw[he] at ha;cases ha;exact⟨h,hp0,il he,by omega⟩
  |some e=>
   rw[he] at ha;simp only at ha;obtain⟨i,j,q1,q2,q3,q4⟩:=sq h (d9 he).1;rw[q4] at ha;cases hd:dh (cW (d5 hp i j (eO c e).h (eO c e).j)) (dw c e) with
   |none=>rw[hd] at ha;cases ha
   |some d0=>
    rw[hd] at ha;simp only at ha;obtain⟨s1,s2,s3⟩:=uE hl h (d9 he).1 q1 q2 q3 hd;obtain⟨r1,r2,r3,r4⟩:=xW hl n d0 _ _ d hq out' s1 (by rw[s2];exact(d9 he).2.1) ha;exact⟨r1,r2,r3,by rw[aD,aN] at r4;omega⟩
def Lg {f:Int->Nat}{B n:Nat}:∀(hp:List Int) (s:Nat),(∀x∈hp,f x<=B)->s+hp.length<=n->oC f hp s<=hp.length*(n*B)
 |[],s,_,_=>by simp[oC]
 |x::xs,s,h,hn=>by
  rw[aZ] at hn;have ih:=Lg (f:=f) (B:=B) (n:=n) xs (s+1) (λy hy=>h y (aU _ hy)) (by omega);have m1:s*f x<=n*B:=eV (by omega) (h x (cq ..));simp[oC];rw[cx,vb];omega
def TG {l:List Pt}(h:okF l){t:Rt}{hp:List Int}(hn:hp.length=l.length)(hf:gt t l<5000):nJ t l hp<30000000:=by
 have h64:=h.1;have w:=Lg (f:=led t l) (B:=64) (n:=64) hp 0 (λx _=>bG iD h64) (by omega);have f1:hp.length*l.length<=64*64:=eV (by omega) h64;have f2:hp.length*l.length*gt t l<=64*64*5000:=eV f1 (by omega);unfold nJ;omega
end Go.Proofs.YtoeigdpfcnaaeaaGreat
