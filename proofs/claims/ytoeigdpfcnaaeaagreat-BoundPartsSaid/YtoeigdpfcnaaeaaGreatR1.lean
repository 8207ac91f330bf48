import Derived.Test.YtoeigdpfcnaaeaaGreatE1
import Derived.Test.YtoeigdpfcnaaeaaGreatP1
import Derived.Test.YtoeigdpfcnaaeaaGreatC3
import Derived.Test.YtoeigdpfcnaaeaaGreatC2
set_option linter.unusedVariables false
set_option linter.unusedSimpArgs false
set_option linter.defProp false
noncomputable section
namespace Go.Proofs.YtoeigdpfcnaaeaaGreat
open Go.Sym Bnd
def kW (s:Slots)(i:Nat):Slots:=⟨s.uses,s.used.set i false,s.free++[(i:Int)]⟩
def QE {s:Slots}(h:SFine s){i:Nat}(hu:s.used[i]?=some true):SFine (kW s i):=by
 obtain⟨n1,n2,len,nd,rng,used,uses⟩:=h;have hi:=bu hu;have hni:(i:Int)∉s.free:=λhm=>by
  grind
 unfold kW;refine⟨n1,n2,by simpa using len,?_,λx hx=>?_,λj hj=>?_,λj v hv=>?_⟩
 .grind
 .grind
 .grind
 .obtain⟨q1,q2,q3⟩:=uses j v hv;refine⟨q1,q2,λh=>?_⟩;simp only at h;by_cases e:i=j
  .subst e;rw[bj hi] at h;cases h
  .rw[bw e] at h;exact q3 h
def Kn {s:Slots}{hp:List Evt}{wh:List Int}{x:Evt}(h:Plc s (hp++[x]) wh){j:Nat}{u:Int}(hx:x.hnd=⟨(j:Int),u⟩):Plc (kW s j) hp (wh.set j (-1)):=by
 obtain⟨j',u',e1,e2,e3,e4⟩:=h.at_ hp.length x (by simp);rw[hx] at e1;simp only[Hnd.mk.injEq] at e1;have:j'=j:=by omega
 subst this;have hul:=bu e2;have hw:=bu e4;have U:∀k:Nat,(s.used.set j' false)[k]?=if k=j' then some false else s.used[k]?:=λk=>by
  grind
 have W:∀k:Nat,(wh.set j' (-1))[k]?=if k=j' then some (-1) else wh[k]?:=λk=>by
  grind
 unfold kW;refine⟨by simpa using h.len,λm g hg=>?_,λk hk=>?_,λk hk=>?_⟩
 .have hm:=bu hg;obtain⟨i,v,g1,g2,g3,g4⟩:=h.at_ m g (by rw[aG hm];exact hg)
  grind
 .simp only[U] at hk;by_cases a:k=j'
  .subst a;rw[ad rfl] at hk;cases hk
  .rw[ac a] at hk;obtain⟨m,g,v,g1,g2,g3,g4⟩:=h.of_ k hk;have hm:=bu g2;rw[aC,aK] at hm;have b:m≠hp.length:=λq=>by
    subst q;rw[bH (aB _),iQ] at g2;simp only[i7,bY] at g2;subst g2;rw[hx] at g4;simp only[Hnd.mk.injEq] at g4;omega
   exact⟨m,g,v,by simp only[W,ac a,g1],by rw[aG (by omega)] at g2;exact g2,g3,g4⟩
 .simp only[U] at hk;by_cases a:k=j'
  .subst a;simp only[W,az]
  .rw[ac a] at hk;simp only[W,ac a];exact h.off k hk
def kid (hp:List Evt)(i:Nat):Nat:=match hp[2*i+1]?,hp[2*i+2]? with
 |some a,some b=>if evLess b a=true then 2*i+2 else 2*i+1
 |_,_=>2*i+1
def uJ (hp:List Evt)(i:Nat):kid hp i=2*i+1\/kid hp i=2*i+2:=by
 unfold kid
 grind
def Wm {hp:List Evt}{i:Nat}{x:Evt}:kid (hp.set i x) i=kid hp i:=by
 unfold kid
 grind
def QF {hp:List Evt}{i c:Nat}{e k:Evt}(hc:c=2*i+1\/c=2*i+2)(he:hp[c]?=some e)(hk:hp[kid hp i]?=some k):evLess e k=false:=by
 have irr:∀x:Evt,evLess x x=false:=λx=>by
  cases h:evLess x x with
  |false=>rfl
  |true=>have:=lw h;rw[h] at this;cases this
 unfold kid at hk;split at hk
 .rename_i a b ha hb;split at hk
  .rename_i hl;rw[hb] at hk;cases hk;rcases hc with rfl|rfl
   .rw[ha] at he;cases he;exact lw hl
   .grind
  .grind
 .grind
def me:Nat->List Evt->List Int->Nat->List Evt×List Int
 |0,hp,wh,_=>(hp,wh)
 |n+1,hp,wh,i=>match hp[i]?,hp[kid hp i]? with
  |some e,some c=>if evLess c e=true then me n (jY hp i (kid hp i) e c) (oQ wh i (kid hp i) e c) (kid hp i) else(hp,wh)
  |_,_=>(hp,wh)
def M1 (hp:List Evt)(i:Nat):Prop:=
 (∀(c:Nat) (e p:Evt),0<c->(c-1)/2≠i->hp[c]?=some e->hp[(c-1)/2]?=some p->evLess e p=false)/\
 ∀(c:Nat) (e p:Evt),0<i->0<c->(c-1)/2=i->hp[c]?=some e->hp[(i-1)/2]?=some p->evLess e p=false
def Wn {hp:List Evt}{i:Nat}{e c:Evt}(ho:M1 hp i)(hi:hp[i]?=some e)(hk:hp[kid hp i]?=some c)(hl:evLess c e=true):M1 (jY hp i (kid hp i) e c) (kid hp i):=by
 obtain⟨o1,o2⟩:=ho;have G:=swp_get hi hk;have ko:=uJ hp i;have kl:=λ(d:Nat) (g:Evt) (hd:d=2*i+1\/d=2*i+2) (hg:hp[d]?=some g)=>QF hd hg hk;refine⟨λd x q d0 dn hx hq=>?_,λd x q k0 d0 hd hx hq=>?_⟩
 .rw[G] at hx hq;rw[ac dn] at hq;by_cases a:d=kid hp i
  .rw[ad a] at hx;cases hx;rw[ad (by omega)] at hq;cases hq;exact lw hl
  .rw[ac a] at hx;by_cases b:d=i
   .subst b;rw[ad rfl] at hx;cases hx;rw[ac (by omega)] at hq;exact o2 _ _ _ d0 (by omega) (by omega) hk hq
   .rw[ac b] at hx;by_cases f:(d-1)/2=i
    .rw[ad f] at hq;cases hq;exact kl d x (by omega) hx
    .rw[ac f] at hq;exact o1 d x q d0 f hx hq
 .rw[G] at hx hq;rw[ac (by omega),ac (by omega)] at hx;rw[ac (by omega),ad (by omega)] at hq;cases hq;exact o1 d x c d0 (by omega) hx (by rw[hd];exact hk)
def IX {s:Slots}:∀(n:Nat) (hp:List Evt) (wh:List Int) (i:Nat),hp.length<=n+i->i<hp.length->(∀x∈hp,rok x.time=true)->M1 hp i->Plc s hp wh->Ord (me n hp wh i).1/\(me n hp wh i).1.Perm hp/\ Plc s (me n hp wh i).1 (me n hp wh i).2
 |0,hp,wh,i,hn,hi,hr,ho,hP=>by omega
 |n+1,hp,wh,i,hn,hi,hr,ho,hP=>by
  obtain⟨e,he⟩:∃e,hp[i]?=some e:=⟨hp[i],ah _⟩;have ko:=uJ hp i;unfold me;rw[he];cases hk:hp[kid hp i]? with
  |none=>
   simp only;refine⟨λc x q c0 hx hq=>?_,.refl _,hP⟩;by_cases a:(c-1)/2=i
   .exfalso;have hc:=bu hx;have h1:=fR.1 hk;have hk':kid hp i=2*i+1\/∃a b,hp[2*i+1]?=some a/\ hp[2*i+2]?=some b:=by
     unfold kid;split
     .rename_i a b ha hb;exact .inr ⟨a,b,ha,hb⟩
     .exact .inl rfl
    rcases hk' with h2|⟨a',b',h3,h4⟩
    .omega
    .have:=bu h4;omega
   .exact ho.1 c x q c0 a hx hq
  |some c=>
   simp only;by_cases hl:evLess c e=true
   .rw[ad hl];have pm:=vB he hk;have hkl:=bu hk;obtain⟨q1,q2,q3⟩:=IX n (jY hp i (kid hp i) e c) (oQ wh i (kid hp i) e c) (kid hp i) (by rw[pm.length_eq];omega) (by rw[pm.length_eq];exact hkl) (λx hx=>hr x (pm.mem_iff.1 hx)) (Wn ho he hk hl) (vA hP he hk (by omega));exact⟨q1,q2.trans pm,q3⟩
   .rw[ac hl];refine⟨λd x q d0 hx hq=>?_,.refl _,hP⟩;by_cases a:(d-1)/2=i
    .rw[a,he] at hq;cases hq;have h1:=QF (c:=d) (by omega) hx hk;exact qF (hr x (au hx)) (hr c (au hk)) (hr e (au he)) h1 (by simpa using hl)
    .exact ho.1 d x q d0 a hx hq
def QG {n:Nat}{hp:List Evt}{wh:List Int}{i:Nat}(h:Ord hp):me n hp wh i=(hp,wh):=by
 cases n with
 |zero=>rfl
 |succ n=>
  unfold me;split
  .rename_i e c he hc;have ko:=uJ hp i;rw[h (kid hp i) c e (by omega) hc (by rw[show(kid hp i-1)/2=i by omega];exact he)]
   rfl
  .rfl
def gh (x:Evt):Nat->List Evt->List Int->Nat->List Evt×List Int×Nat
 |0,hp,wh,i=>(hp,wh,i)
 |n+1,hp,wh,i=>match hp[kid hp i]? with
  |some c=>if evLess c x=true then gh x n (hp.set i c) (wh.set c.hnd.index.toNat (i:Int)) (kid hp i) else(hp,wh,i)
  |none=>(hp,wh,i)
def DH {x:Evt}:∀(n:Nat) (hp:List Evt) (wh:List Int) (i:Nat),i<hp.length->
  me n (hp.set i x) (wh.set x.hnd.index.toNat (i:Int)) i=((gh x n hp wh i).1.set (gh x n hp wh i).2.2 x,(gh x n hp wh i).2.1.set x.hnd.index.toNat ((gh x n hp wh i).2.2:Int))
 |0,hp,wh,i,_=>rfl
 |n+1,hp,wh,i,hi=>by
  have hx:(hp.set i x)[i]?=some x:=bj hi;have ko:=uJ hp i;unfold me gh;rw[hx,Wm,bw (by omega)];cases hk:hp[kid hp i]? with
  |none=>rfl
  |some c=>
   simp only;by_cases hc:evLess c x=true
   .rw[ad hc,ad hc];have e1:jY (hp.set i x) i (kid hp i) x c=(hp.set i c).set (kid hp i) x:=by unfold jY;rw[lR]
    have e2:oQ (wh.set x.hnd.index.toNat (i:Int)) i (kid hp i) x c=(wh.set c.hnd.index.toNat (i:Int)).set x.hnd.index.toNat ((kid hp i:Nat):Int):=by
     unfold oQ;by_cases e:x.hnd.index.toNat=c.hnd.index.toNat
     .simp[e]
     .rw[qp _ _ e,lR]
    rw[e1,e2];exact DH n (hp.set i c) (wh.set c.hnd.index.toNat (i:Int)) (kid hp i) (by rw[ba];exact bu hk)
   .rw[ac hc,ac hc]
def ql (a:Agenda)(i j:Nat):Agenda:=match a.heap[a.heap.length-1]? with
 |some f=>if i=a.heap.length-1 then⟨kW a.slots j,a.heap.take (a.heap.length-1),a.wher.set j (-1)⟩ else
  let u:=upS (i+1) ((a.heap.take (a.heap.length-1)).set i f) ((a.wher.set j (-1)).set f.hnd.index.toNat (i:Int)) i
  let d:=me (a.heap.length-1) u.1 u.2.1 u.2.2
  ⟨kW a.slots j,d.1,d.2⟩
 |none=>a
def QH {a:Agenda}(h:eO a){i j:Nat}{u:Int}{e:Evt}(he:a.heap[i]?=some e)(hh:e.hnd=⟨(j:Int),u⟩):
  eO (ql a i j)/\((ql a i j).heap++[e]).Perm a.heap/\(ql a i j).wher.length=a.wher.length:=by
 have hs:=okR_fine.1 h.1;have hP:=pG hs h.2.1;have hl:=h.2.1.2.1;have hO:=xc h;have hi:=bu he;obtain⟨j',u',e1,e2,e3,e4⟩:=hP.at_ i e he;rw[hh] at e1;simp only[Hnd.mk.injEq] at e1;have:j'=j:=by omega
 subst this;have hs':=QE hs e2;obtain⟨hp,f,hq⟩:∃hp f,a.heap=hp++[f]:=by
  rcases nH a.heap with h|⟨hp,f,h⟩
  .grind
  .grind
 have hn:a.heap.length-1=hp.length:=by rw[hq];simp
 have hn':a.heap.length=hp.length+1:=by rw[hq];simp
 have hlast:a.heap[a.heap.length-1]?=some f:=by rw[hn,hq];simp
 have htk:a.heap.take (a.heap.length-1)=hp:=by rw[hn,hq];simp
 have hr:∀x∈a.heap,oJ x:=h.2.2.1;have hrk:∀x∈hp,rok x.time=true:=λx hx=>(hr x (by rw[hq];simp[hx])).1;have hfr:rok f.time=true:=(hr f (by rw[hq];simp)).1;have fin:∀(h1:List Evt) (w1:List Int),Ord h1->(h1++[e]).Perm a.heap->Plc (kW a.slots j') h1 w1->eO ⟨kW a.slots j',h1,w1⟩/\(h1++[e]).Perm a.heap/\ w1.length=a.wher.length:=λh1 w1 o p q=>by
  have pl:=p.length_eq;rw[aC,aK] at pl;refine⟨⟨okR_fine.2 hs',Np q ?_,λx hx=>hr x (p.mem_iff.1 (dL _ hx)),?_,λc x p' hx hp'=>?_⟩,p,?_⟩
  .unfold kW;simp only[aC,aK];omega
  .have:=(p.map (·.number)).nodup_iff.2 h.2.2.2.1;rw[dQ,eN] at this;exact this.1
  .exact o (c+1) x p' (by omega) hx (by simpa using hp')
  .rw[q.len,hP.len];rfl
 unfold ql;rw[hlast];simp only;rw[htk,hn];by_cases hil:i=hp.length
 .rw[ad hil];subst hil;have:f=e:=by rw[hq] at he;simpa using he
  subst this;rw[hq] at hP;refine fin hp _ (λc x p c0 hx hp'=>?_) (by rw[hq]) (Kn hP hh);have hc:=bu hx;exact hO c x p c0 (by rw[hq,aG hc];exact hx) (by rw[hq,aG (by omega)];exact hp')
 .rw[ac hil];have hil:i<hp.length:=by omega
  have hfn:a.heap[hp.length]?=some f:=by rw[hq];simp
  have hei:hp[i]?=some e:=by rw[hq,aG hil] at he;exact he
  have hw:=vA hP he hfn (by omega);obtain⟨jf,uf,f1,f2,f3,f4⟩:=hP.at_ _ f hfn;have hjf:jf≠j':=λq=>by
   subst q;rw[f4] at e4;simp only[bY] at e4;omega
  have hset:(a.heap.set i f).set hp.length e=hp.set i f++[e]:=by
   rw[hq,wH _ _ hil,uT _ _ (by simp)];simp
  rw[hset,hh,f1] at hw;simp only[aF] at hw;have hw:=Kn hw hh;rw[lR,qp _ _ (by omega)] at hw;rw[f1];simp only[aF];have hpm:(hp.set i f++[e]).Perm a.heap:=by
   rw[<-hset];exact vB he hfn
  have G:∀m,(hp.set i f)[m]?=if m=i then some f else hp[m]?:=λm=>by
   by_cases q:m=i
   .subst q;rw[ad rfl,bj hil]
   .rw[ac q,bw (λe=>q e.symm)]
  have H:∀{m:Nat} {x:Evt},hp[m]?=some x->a.heap[m]?=some x:=λ{m x} hx=>by rw[hq,aG (bu hx)];exact hx
  have hrs:∀x∈hp.set i f,rok x.time=true:=λx hx=>by
   rcases dp hx with h1|h1
   .exact hrk x h1
   .rw[h1];exact hfr
  have her:rok e.time=true:=hrk e (au hei);have kidp:∀(c:Nat) (x p:Evt),0<i->0<c->(c-1)/2=i->hp[c]?=some x->hp[(i-1)/2]?=some p->evLess x p=false:=λc x p i0 c0 hc hx hp'=>
   qF (hrk x (au hx)) her (hrk p (au hp')) (hO c x e c0 (H hx) (by rw[hc];exact he)) (hO i e p i0 he (H hp'))
  have other:∀(c:Nat) (x p:Evt),0<c->c≠i->(c-1)/2≠i->(hp.set i f)[c]?=some x->(hp.set i f)[(c-1)/2]?=some p->evLess x p=false:=λc x p c0 cn pn hx hp'=>by
   rw[G,ac cn] at hx;rw[G,ac pn] at hp';exact hO c x p c0 (H hx) (H hp')
  have hfi:(hp.set i f)[i]?=some f:=by rw[G,ad rfl]
  have hlen:(hp.set i f).length=hp.length:=ba;by_cases hc:∃p,0<i/\ hp[(i-1)/2]?=some p/\ evLess f p=true
  .obtain⟨p,i0,hpp,hfp⟩:=hc;obtain⟨q1,q2,q3,_,_⟩:=Ao (s:=kW a.slots j') (i+1) (hp.set i f) _ i (by omega) (by omega) hrs ⟨λc x q c0 cn hx hq'=>by
    by_cases a1:(c-1)/2=i
    .rw[G,ad a1] at hq';cases hq';rw[G,ac cn] at hx;exact C9 hfr (hrk p (au hpp)) (hrk x (au hx)) hfp (kidp c x p i0 c0 a1 hx hpp)
    .exact other c x q c0 cn a1 hx hq',λc x q i0 c0 hc hx hq'=>by
    rw[G,ac (by omega)] at hx;rw[G,ac (by omega)] at hq';exact kidp c x q i0 c0 hc hx hq'⟩ hw
   rw[QG q1];exact fin _ _ q1 ((q2.append_right [e]).trans hpm) q3
  .have hu:upS (i+1) (hp.set i f) ((a.wher.set j' (-1)).set jf (i:Int)) i=(hp.set i f,(a.wher.set j' (-1)).set jf (i:Int),i):=by
    unfold upS;rw[hfi];cases hpp:(hp.set i f)[(i-1)/2]? with
    |none=>rfl
    |some p=>
     simp only;rw[ac];rintro⟨i0,hfp⟩;rw[G,ac (by omega)] at hpp;exact hc ⟨p,i0,hpp,hfp⟩
   rw[hu];obtain⟨q1,q2,q3⟩:=IX (s:=kW a.slots j') hp.length (hp.set i f) _ i (by omega) (by omega) hrs ⟨λc x q c0 cn hx hq'=>by
    by_cases a1:c=i
    .subst a1;rw[hfi] at hx;cases hx;rw[G,ac (by omega)] at hq';cases hl':evLess f q with
     |false=>rfl
     |true=>exact absurd ⟨q,c0,hq',hl'⟩ hc
    .exact other c x q c0 a1 cn hx hq',λc x q i0 c0 hc hx hq'=>by
    rw[G,ac (by omega)] at hx;rw[G,ac (by omega)] at hq';exact kidp c x q i0 c0 hc hx hq'⟩ hw
   exact fin _ _ q1 ((q2.append_right [e]).trans hpm) q3
def lN {c:Certs}:dy c↔c.list.length<=200/\ 0<=c.next/\ c.next<=1000000/\(∀h∈c.list,h.cert.ok/\ 0<=h.number/\ h.number<c.next)/\ c.list.Pairwise λg h=>g.number<h.number/\ g.cert≠h.cert:=by
 constructor
 .intro hc;have hc':=hc;obtain⟨h1,h2,h3,h4⟩:=hc';refine⟨h1,h2,h3,λh hh=>?_,?_⟩
  .obtain⟨i,hi⟩:=aI.1 hh
   grind
  .rw[dM];intro i j hi hj hij;exact⟨B6 hc j i _ _ hij (ah hi) (ah hj),(h4 j _ (ah hj)).2.2.2.2 i hij _ (ah hi)⟩
 .rintro⟨h1,h2,h3,h4,h5⟩;rw[dM] at h5;refine⟨h1,h2,h3,λi h hi=>?_⟩
  grind
def wq (c:Clock)(d:Due)(x:Held):Prop:=d.number=x.number/\(⟨(fT c x.cert).1,x.number,d.hnd⟩:Evt)∈c.agenda.heap
open Classical in
def wv {c:Clock}(ha:eO c.agenda):∀(l:List Held) (left:List Due),ef (dX c) left l=some []↔(∀x∈l,dT c.pts x=true)/\ F2 (wq c) left (l.filter λx=>(fT c x.cert).2)
 |[],left=>by
  constructor
  .intro h;have h:some left=some []:=h;cases h;exact⟨λ_ h=>(by cases h),.nil⟩
  .rintro⟨_,h⟩;cases h;rfl
 |x::l,left=>by
  rw[ef];have ds:dX c left x=if dT c.pts x=true then(if(fT c x.cert).2=true then(match left with
    |[]=>none
    |d::rest=>if ph c.agenda d x.number (fT c x.cert).1 then some rest else none) else some left) else none:=rfl
  rw[ds];have fp:(fT c x.cert).2=true->(x::l).filter (λx=>(fT c x.cert).2)=x::l.filter λx=>(fT c x.cert).2:=λh=>sy (p:=λx:Held=>(fT c x.cert).2) h;have fn:¬(fT c x.cert).2=true->(x::l).filter (λx=>(fT c x.cert).2)=l.filter λx=>(fT c x.cert).2:=λh=>sq (p:=λx:Held=>(fT c x.cert).2) h;by_cases h1:dT c.pts x=true
  rotate_left
  .rw[ac h1];exact⟨λh=>(by cases h),λh=>absurd (h.1 x (bR ..)) h1⟩
  rw[ad h1];by_cases h2:(fT c x.cert).2=true
  .rw[ad h2,fp h2];cases left with
   |nil=>exact⟨λh=>(by cases h),λh=>(by cases h.2)⟩
   |cons d rest=>
    simp only;by_cases h3:ph c.agenda d x.number (fT c x.cert).1
    .rw[ad h3];simp only;rw[wv ha l rest];constructor
     .rintro⟨a1,a2⟩;exact⟨λy hy=>(bh.1 hy).elim (λe=>e▸h1) (a1 y),.cons ((qU ha).1 h3) a2⟩
     .rintro⟨a1,a2⟩;cases a2 with
      |cons _ a2=>exact⟨λy hy=>a1 y (aN _ hy),a2⟩
    .rw[ac h3];refine⟨λh=>(by cases h),λh=>?_⟩;cases h.2 with
     |cons a _=>exact absurd ((qU ha).2 a) h3
  .rw[ac h2,fn h2];simp only;rw[wv ha l left];exact⟨λ⟨a1,a2⟩=>⟨λy hy=>(bh.1 hy).elim (λe=>e▸h1) (a1 y),a2⟩,λ⟨a1,a2⟩=>⟨λy hy=>a1 y (aN _ hy),a2⟩⟩
def CO {α β:Type}{R:α->β->Prop}{f:α->Bool}{g:β->Bool}(h:∀a b,R a b->f a=g b):∀{xs:List α} {ys:List β},F2 R xs ys->F2 R (xs.filter f) (ys.filter g)
 |[],_,.nil=> .nil
 |a::xs,b::ys,.cons r t=>by
  rw[cT,cT,<-h a b r];cases f a with
  |true=>exact .cons r (CO h t)
  |false=>exact CO h t
def QI {α β:Type}{R:α->β->Prop}:∀{xs:List α} {ys:List β},F2 R xs ys->xs.length=ys.length
 |_,_,.nil=>rfl
 |_,_,.cons _ t=>by rw[aV,aV,QI t]
def iF {c:Clock}:bD c↔rok c.now=true/\ okF c.pts/\ dy c.certs/\ eO c.agenda/\ c.agenda.wher.length=200/\ c.agenda.heap.length=c.due.length/\(∀x∈c.certs.list,dT c.pts x=true)/\ F2 (wq c) c.due (c.certs.list.filter λx=>(fT c x.cert).2):=by
 constructor
 .rintro⟨h1,h2,h3,h4,h5,h6,h7⟩;exact⟨h1,h2,h3,h4,h5,h6,(wv h4 _ _).1 h7⟩
 .rintro⟨h1,h2,h3,h4,h5,h6,h7⟩;exact⟨h1,h2,h3,h4,h5,h6,(wv h4 _ _).2 h7⟩
def dS (n:Int)(m:Int):Bool:=!decide (m=n)
def kX (c:Clock)(n:Int):Agenda:=match c.due.find? λd=>decide (d.number=n) with
 |some d=>ql c.agenda ((c.agenda.wher[d.hnd.index.toNat]?).getD 0).toNat d.hnd.index.toNat
 |none=>c.agenda
def gD (c:Clock)(n:Int):Clock:=⟨c.now,c.pts,⟨c.certs.next,c.certs.list.filter λx=>dS n x.number⟩,kX c n,c.due.filter λd=>dS n d.number⟩
def IY {c:Clock}(h:bD c){d:Due}(hd:d∈c.due):∃(i j:Nat) (u:Int) (e:Evt),c.agenda.wher[j]?=some (i:Int)/\ c.agenda.heap[i]?=some e/\ e.hnd=⟨(j:Int),u⟩/\ d.hnd=⟨(j:Int),u⟩/\ e.number=d.number/\ c.agenda.slots.used[j]?=some true/\ c.agenda.slots.uses[j]?=some u:=by
 obtain⟨r1,r2⟩:=zx h.2.2.2.1 _ _ h.2.2.2.2.2.2;obtain⟨t,ht⟩:=r2 d hd;obtain⟨i,hi⟩:=aI.1 ht;obtain⟨j,u,e1,e2,e3,e4⟩:=(pG (okR_fine.1 h.2.2.2.1.1) h.2.2.2.1.2.1).at_ i _ hi
 grind
def Ko {c:Clock}(h:bD c)(n:Int):bD (gD c n):=by
 have hnum:=sJ h;have hnd:(c.due.map (·.number)).Nodup:=hnum.1.nodup_iff.2 h.2.2.2.1.2.2.2.1;have hat:=λd hd=>IY h (d:=d) hd;obtain⟨h1,h2,h3,h4,h5,h6,h7,h8⟩:=iF.1 h;have hag:eO (kX c n)/\(kX c n).wher.length=200/\(kX c n).heap.length=(c.due.filter λd=>dS n d.number).length/\∀e∈c.agenda.heap,e.number≠n->e∈(kX c n).heap:=by
  unfold kX;cases hf:c.due.find? λd=>decide (d.number=n) with
  |none=>
   have hall:∀d∈c.due,¬d.number=n:=λd hd=>by simpa using lQ.1 hf d hd
   refine⟨h4,h5,?_,λe he _=>he⟩;rw[fu.2 (λd hd=>by unfold dS;simp[hall d hd])];exact h6
  |some d=>
   have hd:=eR hf;have hdn:d.number=n:=by simpa using kY hf
   obtain⟨i,j,u,e,w1,w2,w3,w4,w5,_⟩:=hat d hd;simp only;rw[w4];simp only[aF];rw[w1];simp only[cx,aF];obtain⟨q1,q2,q3⟩:=QH h4 w2 w3;refine⟨q1,q3.trans h5,?_,λe' he hne=>?_⟩
   .have a1:=q2.length_eq;rw[aC,aK,h6] at a1;have a2:(c.due.filter λd=>dS n d.number).length+1=c.due.length:=by
     have:=rB (λd:Due=>dS n d.number) c.due;have a3:(c.due.filter λd=>!dS n d.number)=[d]:=by
      have sub:((c.due.filter λd=>!dS n d.number).map (·.number)).Nodup:=(kM.map _).nodup hnd;have all:∀x∈c.due.filter (λd=>!dS n d.number),x.number=n:=λx hx=>by
       have:=(bx.1 hx).2;unfold dS at this;simpa using this
      have mem:d∈c.due.filter (λd=>!dS n d.number):=bx.2 ⟨hd,by unfold dS;simp[hdn]⟩;generalize c.due.filter (λd=>!dS n d.number)=l at sub all mem
      match l,sub,all,mem with
      |[],_,_,mem=>cases mem
      |[x],_,_,mem=>rw[b8] at mem;rw[mem]
      |x::y::r,sub,all,_=>
       exfalso;rw[bQ,bQ,b5] at sub;exact sub.1 (by rw[all x (by simp),all y (by simp)];simp)
     rw[a3,aK] at this;omega
    omega
   .have:=q2.mem_iff.2 he;rcases bS.1 this with h|h
    .exact h
    .rw[b8] at h;exact absurd (by rw[h,w5,hdn]) hne
 obtain⟨g1,g2,g3,g4⟩:=hag;refine iF.2 ⟨h1,h2,?_,g1,g2,g3,λx hx=>h7 x (bx.1 hx).1,?_⟩
 .obtain⟨c1,c2,c3,c4,c5⟩:=lN.1 h3;exact lN.2 ⟨bz (fO ..) c1,c2,c3,λx hx=>c4 x (bx.1 hx).1,c5.sublist kM⟩
 .have:((gD c n).certs.list.filter λx=>(fT (gD c n) x.cert).2)=(c.certs.list.filter λx=>(fT c x.cert).2).filter λx=>dS n x.number:=by
   show(c.certs.list.filter λx=>dS n x.number).filter (λx=>(fT c x.cert).2)=_
   rw[p9,p9];exact aW (λp=>c.certs.list.filter p) (funext λx=>Bool.and_comm ..)
  rw[this];have h9:=CO (f:=λd:Due=>dS n d.number) (g:=λx:Held=>dS n x.number) (λa b r=>by rw[r.1]) h8;have up:∀{xs:List Due} {ys:List Held},F2 (wq c) xs ys->(∀b∈ys,dS n b.number=true)->F2 (wq (gD c n)) xs ys:=by
   intro xs ys k;induction k with
   |nil=>exactλ_=> .nil
   |cons r t ih=>
    intro hb;refine .cons ⟨r.1,g4 _ r.2 ?_⟩ (ih λb h=>hb b (aN _ h));have:=hb _ (bR ..);unfold dS at this;simpa using this
  exact up h9 λb hb=>(bx.1 hb).2
def BI {x y:Rt}(hx:rok x=true)(hy:rok y=true)(h:crs x y=0):x=y:=by
 obtain⟨a,b⟩:=x;obtain⟨c,d⟩:=y;unfold rok at hx hy;simp at hx hy;obtain⟨⟨hb,_⟩,hx⟩:=hx;obtain⟨⟨hd,_⟩,hy⟩:=hy;unfold crs at h;simp only at h;have e:a*d=c*b:=by omega
 have en:a.natAbs*d.natAbs=c.natAbs*b.natAbs:=by rw[<-pd,<-pd,e]
 have d1:=(nK (Nat.Coprime.symm hx) (by rw[en];exact Nat.dvd_mul_left ..));have d2:=(nK (Nat.Coprime.symm hy) (by rw[<-en];exact Nat.dvd_mul_left ..));have d3:=Nat.dvd_antisymm d1 d2;have:b=d:=by omega
 subst this;have:=Int.eq_of_mul_eq_mul_right (by omega) e;rw[this]
def QJ {n d:Int}(hd:0<d):∃g:Int,0<g/\ n=(mkR n d).num*g/\ d=(mkR n d).den*g:=by
 have hg:0<Nat.gcd n.natAbs d.natAbs:=fZ _ (by omega);have e1:=Nat.div_mul_cancel (Nat.gcd_dvd_left n.natAbs d.natAbs);have e2:=Nat.div_mul_cancel (Nat.gcd_dvd_right n.natAbs d.natAbs);refine⟨(Nat.gcd n.natAbs d.natAbs:Int),by omega,?_,?_⟩
 .unfold mkR;by_cases h:n<0
  .rw[ad (by simp;omega),Int.neg_mul,<-oq,e1];omega
  .rw[ac (by simp[h];omega),<-oq,e1];omega
 .unfold mkR;simp only;omega
def x6 {hi lo:Pt}(h:hi.b<lo.b):∃g:Int,0<g/\∀t,far t hi lo= -(crs t (mkR (hi.a-lo.a) (lo.b-hi.b))*g):=by
 obtain⟨g,g0,e1,e2⟩:=QJ (n:=hi.a-lo.a) (d:=lo.b-hi.b) (by omega);refine⟨g,g0,λt=>?_⟩;unfold far crs
 grind
def x7 {t t':Rt}{hi lo:Pt}(o1:hi.ok=true)(o2:lo.ok=true)(hne:hi.id≠lo.id)(hr:rok t=true)(hr':rok t'=true)(h:crs t t'<=0):
  ((cB t hi lo).2=true->crs t' (cB t hi lo).1<=0->cB t' hi lo=cB t hi lo)/\((cB t hi lo).2=false->cB t' hi lo=cB t hi lo):=by
 have b1:=Pt.bnd o1;have b2:=Pt.bnd o2;unfold cB;by_cases h1:leads t lo hi=true
 .rw[ad h1];refine⟨λ_ k=>?_,λh=>by cases h⟩;have:t=t':=BI hr hr' (by simp only at k;have:=eS t t';omega)
  grind
 .rw[ac h1];by_cases h2:hi.b<lo.b
  .rw[ad h2];refine⟨λ_ k=>?_,λh=>by cases h⟩;simp only at k;obtain⟨g,g0,hg⟩:=x6 h2;have hs:=(Fc (n:=hi.a-lo.a) (d:=lo.b-hi.b) ⟨by omega,by omega⟩ ⟨by omega,by omega⟩ (by omega)).1;have ft:=hg t';generalize mkR (hi.a-lo.a) (lo.b-hi.b)=s at ft hs k;have fn:=q9 t' hi lo;by_cases k0:crs t' s=0
   .have:t'=s:=BI hr' hs k0;rw[k0,ot] at ft;rw[ad (leads_iff.2 (.inr ⟨by omega,.inl h2⟩)),this]
   .have:crs t' s*g<0:=iz (by omega) g0;rw[ac];intro hl;rcases leads_iff.1 hl with q|⟨q,_⟩<;>omega
  .rw[ac h2];refine⟨λh=>(by cases h),λ_=>?_⟩;rw[ac];intro hl;have td:=eJ hr;have td':=eJ hr';have e:far t' lo hi*t.den=far t lo hi*t'.den+(lo.b-hi.b)*(-crs t t'):=by
    unfold far crs;generalize lo.a-hi.a=A;generalize lo.b-hi.b=B;simp only[Int.add_mul,Int.mul_neg,Int.mul_sub,Int.mul_assoc];rw[yf t.den t'.den,yf t.num t'.den];have:t'.den*t.num=t.num*t'.den:=yf ..;omega
   have n1:(lo.b-hi.b)*(-crs t t')<=0:=d8 (by omega) (by omega);have f1:far t lo hi<=0:=by
    apply qP.1;intro q;exact h1 (leads_iff.2 (.inl q))
   have n2:far t lo hi*t'.den<=0:=d8 f1 (by omega);rcases leads_iff.1 hl with q|⟨q,q2⟩
   .have:=zh q (show 0<t.den by omega)
    omega
   .rw[q,ot] at e;have z:far t lo hi*t'.den=0:=by omega
    have z:far t lo hi=0:=(tc.1 z).resolve_right (by omega);exact h1 (leads_iff.2 (.inr ⟨z,q2⟩))
def atC (c:Clock)(t:Rt):Clock:=⟨t,c.pts,c.certs,c.agenda,c.due⟩
def M2 {c:Clock}(h:bD c){t:Rt}(hr:rok t=true)(hl:crs c.now t<=0){x:Held}(hx:x∈c.certs.list):((fT c x.cert).2=true->crs t (fT c x.cert).1<=0->fT (atC c t) x.cert=fT c x.cert)/\((fT c x.cert).2=false->fT (atC c t) x.cert=fT c x.cert):=by
 obtain⟨h1,h2,h3,h4,h5,h6,h7,h8⟩:=iF.1 h;have hk:=h7 x hx;unfold dT at hk;rw[aH] at hk;obtain⟨k1,k2⟩:=hk;obtain⟨i,p,a1,a2,a3,a4⟩:=ea h2 k1;obtain⟨j,q,b1,b2,b3,b4⟩:=ea h2 k2;have hc:=((lN.1 h3).2.2.2.1 x hx).1;have:=x7 (t:=c.now) (t':=t) (hi:=be c.pts x.cert.high) (lo:=be c.pts x.cert.low) (by rw[b4];exact dH h2 b1) (by rw[a4];exact dH h2 a1) (by
  rw[a4,b4];have:=hc.2.2.2.2;omega) h1 hr hl
 exact this
def aeJ {c:Clock}(h:bD c){t:Rt}(hr:rok t=true)(hl:crs c.now t<=0)(he:∀e∈c.agenda.heap,crs t e.time<=0):bD (atC c t):=by
 have hf:=λx hx=>M2 h hr hl (x:=x) hx;obtain⟨h1,h2,h3,h4,h5,h6,h7,h8⟩:=iF.1 h;have ev:∀{xs:List Due} {ys:List Held},F2 (wq c) xs ys->∀y∈ys,crs t (fT c y.cert).1<=0:=by
  intro xs ys k;induction k with
  |nil=>intro y hy;cases hy
  |cons r t ih=>
   intro y hy;rcases bh.1 hy with e|hy
   .rw[e];exact he _ r.2
   .grind
 have ev:=ev h8;have same:∀x∈c.certs.list,fT (atC c t) x.cert=fT c x.cert:=λx hx=>by
  grind
 have hfil:((atC c t).certs.list.filter λx=>(fT (atC c t) x.cert).2)=c.certs.list.filter λx=>(fT c x.cert).2:=by
  show(c.certs.list.filter λx=>(fT (atC c t) x.cert).2)=_
  exact jD λx hx=>by rw[same x hx]
 refine iF.2 ⟨hr,h2,h3,h4,h5,h6,h7,?_⟩;rw[hfil];have up:∀{xs:List Due} {ys:List Held},F2 (wq c) xs ys->(∀y∈ys,y∈c.certs.list)->F2 (wq (atC c t)) xs ys:=by
  intro xs ys k;induction k with
  |nil=>exactλ_=> .nil
  |cons r q ih=>
   intro hb;refine .cons ⟨r.1,?_⟩ (ih λb h=>hb b (aN _ h));rw[same _ (hb _ (bR ..))];exact r.2
 exact up h8 λy hy=>(bx.1 hy).1
def Kr {α β:Type}{R:α->β->Prop}:∀{xs:List α} {ys:List β},F2 R xs ys->∀a∈xs,∃b∈ys,R a b
 |_,_,.nil,_,h=>by cases h
 |_,_,.cons r t,a,h=>by
  rcases bh.1 h with e|h
  .exact⟨_,bR ..,e▸r⟩
  .obtain⟨b,h1,h2⟩:=Kr t a h;exact⟨b,aN _ h1,h2⟩
def pT {α:Type}{nu:α->Int}{l:List α}(h:(l.map nu).Nodup){a b:α}(ha:a∈l)(hb:b∈l)(e:nu a=nu b):a=b:=by
 obtain⟨i,hi⟩:=aI.1 ha;obtain⟨j,hj⟩:=aI.1 hb;rw[List.Nodup,f9,dM] at h
 grind
def Es {c:Clock}(h:bD c){e:Evt}(he:e∈c.agenda.heap):∃x∈c.certs.list,x.number=e.number/\ fT c x.cert=(e.time,true):=by
 have hn:=(sJ h).1;obtain⟨h1,h2,h3,h4,h5,h6,h7,h8⟩:=iF.1 h;have:=hn.mem_iff.2 (bf.2 ⟨e,he,rfl⟩);obtain⟨d,hd,hdn⟩:=bf.1 this;obtain⟨x,hx,r1,r2⟩:=Kr h8 d hd;have:=pT (nu:=λe:Evt=>e.number) h4.2.2.2.1 r2 he (by simp only;rw[<-r1];exact hdn)
 grind
def zU {c:Clock}(h:bD c)(hn:aQ c.now):fF c:=by
 refine⟨hn,λe he=>?_⟩;obtain⟨x,hx,_,hf⟩:=Es h he;have hk:=(iF.1 h).2.2.2.2.2.2.1 x hx;unfold dT at hk;rw[aH] at hk;have:=(qT h.2.1 hn h.1 hk.1 hk.2 (by unfold fT at hf;rw[hf])).2;unfold fT at hf
 grind
def BJ {c:Clock}(h:bD c){e:Evt}(he:e∈c.agenda.heap):crs c.now e.time<=0:=by
 obtain⟨x,hx,_,hf⟩:=Es h he;obtain⟨h1,h2,h3,h4,h5,h6,h7,h8⟩:=iF.1 h;have hk:=h7 x hx;unfold dT at hk;rw[aH] at hk;obtain⟨k1,k2⟩:=hk;obtain⟨i,p,a1,a2,a3,a4⟩:=ea h2 k1;obtain⟨j,q,b1,b2,b3,b4⟩:=ea h2 k2;unfold fT at hf;rw[a4,b4] at hf;unfold cB at hf;split at hf
 .simp[wN] at hf;rw[hf];unfold crs;omega
 .rename_i hl;split at hf
  .rename_i hb;simp only[wN,iR] at hf;obtain⟨g,g0,hg⟩:=x6 hb;have hg:=hg c.now;rw[hf] at hg;have fn:=q9 c.now q p;apply qP.1;intro hlt;have:=zh hlt g0;exact hl (leads_iff.2 (.inl (by omega)))
  .simp at hf
def Tl {a:Agenda}(h:eO a){e:Evt}(he:a.heap[0]?=some e):∀(i:Nat) (x:Evt),a.heap[i]?=some x->evLess x e=false:=by
 have ho:=xc h;have hr:=h.2.2.1;intro i;induction i using Nat.strongRecOn with
 |_ i ih=>
  intro x hx;by_cases h0:i=0
  .subst h0;rw[he] at hx;cases hx;cases c:evLess e e with
   |false=>rfl
   |true=>have:=lw c;rw[c] at this;cases this
  .have hi:=bu hx;obtain⟨p,hp⟩:∃p,a.heap[(i-1)/2]?=some p:=⟨a.heap[(i-1)/2]'(by omega),ah _⟩;exact qF (hr x (au hx)).1 (hr p (au hp)).1 (hr e (au he)).1 (ho i x p (by omega) hx hp) (ih _ (by omega) p hp)
def ww {a:Agenda}(h:eO a){e:Evt}(he:a.heap[0]?=some e){x:Evt}(hx:x∈a.heap):crs e.time x.time<=0:=by
 obtain⟨i,hi⟩:=aI.1 hx;have:=Tl h he i x hi;apply qP.1;intro hlt;have:evLess x e=true:=qE.2 (.inl (by have:=eS e.time x.time;omega));simp_all
def iy (c:Clock)(t:Rt):Bool:=match c.agenda.heap[0]? with
 |some e=>decide (crs e.time t<=0)
 |none=>false
def zV {c:Clock}(h:bD c){t:Rt}(hr:rok t=true)(hw:iy c t=false):∀e∈c.agenda.heap,crs t e.time<=0:=λe he=>by
 have h4:=h.2.2.2.1;cases hh:c.agenda.heap[0]? with
 |none=>
  obtain⟨i,hi⟩:=aI.1 he;have:=bu hi;rw[fR] at hh;omega
 |some f=>
  unfold iy at hw;rw[hh] at hw;simp at hw;have h1:=ww h4 hh he;have h2:=eS f.time t;exact(tT (a:=t) (b:=f.time) (c:=e.time) (by have:=eJ hr;omega) (by have:=eJ (h4.2.2.1 f (au hh)).1;omega) (by have:=eJ (h4.2.2.1 e he).1;omega) (by omega) h1).1
def di (c:Clock)(e:Evt):Clock:=atC (gD c e.number) e.time
def iP {c:Clock}(h:bD c){e:Evt}(he:c.agenda.heap[0]?=some e)(hn:aQ c.now):bD (di c e)/\ aQ (di c e).now:=by
 have h4:=h.2.2.2.1;have hd:=Ko h e.number;have hm:=au he;refine⟨aeJ hd (h4.2.2.1 e hm).1 (BJ h hm) λx hx=>?_,(zU h hn).2 e hm⟩;have:x∈c.agenda.heap:=by
  have hx:x∈(kX c e.number).heap:=hx;unfold kX at hx;split at hx
  .rename_i d hf;obtain⟨m,j,u,g,w1,w2,w3,w4,_⟩:=IY h (eR hf);rw[w4] at hx;simp at hx;rw[w1] at hx;exact(QH h4 w2 w3).2.1.mem_iff.1 (dL _ hx)
  .exact hx
 exact ww h4 he this
structure CAd (c:Clock)(x:Crt):Prop where
 ok:bD c
 cok:x.ok
 new:∀g∈c.certs.list,g.cert≠x
 low:inF c.pts x.low=true
 high:inF c.pts x.high=true
def nc (c:Clock)(x:Crt):Prop:=(c.certs.list.length=200\/c.certs.next=1000000)\/((fT c x).2=true/\ jX c.agenda.slots=false)
def j8 (c:Clock)(x:Crt):Clock:=if(fT c x).2=true then mM c x (frL c) (frI c) ((c.agenda.slots.uses[frI c]?).getD 0) else nU c x
def CAd.add {c:Clock}{x:Crt}(h:CAd c x)(hf:¬nc c x):CAdd c x:=by
 have h1:=h.ok.2.2.1.1;have h2:=h.ok.2.2.1.2.2.1;unfold nc at hf;exact⟨h.ok,h.cok,h.new,by omega,by omega,h.low,h.high⟩
def DJ {s:Slots}(hs:SFine s)(ho:jX s=true):∃(fr:List Int) (i:Nat) (u:Int),s.free=fr++[(i:Int)]/\ s.uses[i]?=some u/\ u<1000000:=by
 rcases free_last hs with e|⟨fr,i,u,e,hu,h1,h2⟩
 .unfold jX at ho;rw[e] at ho;cases ho
 .rw[rz e hu] at ho
  grind
def rW {c:Clock}{x:Crt}(h:CAd c x)(hn:aQ c.now)(hf:¬nc c x):bD (j8 c x)/\(j8 c x).certs=lx c.certs x/\(j8 c x).pts=c.pts/\(j8 c x).now=c.now:=by
 have ha:=h.add hf;unfold j8;by_cases h1:(fT c x).2=true
 .rw[ad h1];have ho:jX c.agenda.slots=true:=by
   cases q:jX c.agenda.slots with
   |true=>rfl
   |false=>exact absurd (.inr ⟨h1,q⟩) hf
  obtain⟨fr,i,u,e,hu,hm⟩:=DJ (okR_fine.1 h.ok.2.2.2.1.1) ho;have e1:frL c=fr:=by unfold frL;rw[e];simp
  have e2:frI c=i:=by unfold frI;rw[e];simp
  rw[e1,e2,hu];exact⟨Ff ha hn e hu hm h1,rfl,rfl,rfl⟩
 .rw[ac h1];exact⟨Fe ha (by simpa using h1),rfl,rfl,rfl⟩
def dropL (es:List Crt)(l:List Held)(c:Clock):Clock:=l.foldl (λa x=>if x.cert∈es then a else gD a x.number) c
structure Sim (c a:Clock):Prop where
 ok:bD a
 pts:a.pts=c.pts
 now:a.now=c.now
def fX (es:List Crt):∀(l:List Held) (c:Clock),bD c->Sim c (dropL es l c)/\(dropL es l c).certs.next=c.certs.next/\(dropL es l c).certs.list=c.certs.list.filter λy=>l.all λx=>decide (x.cert∈es)||dS x.number y.number
 |[],c,h=>⟨⟨h,rfl,rfl⟩,rfl,(fu.2 λ_ _=>rfl).symm⟩
 |x::l,c,h=>by
  have e:dropL es (x::l) c=dropL es l (if x.cert∈es then c else gD c x.number):=rfl
  rw[e];by_cases hx:x.cert∈es
  .rw[ad hx];obtain⟨q1,q2,q3⟩:=fX es l c h;refine⟨q1,q2,q3.trans ?_⟩;exact jD λy _=>by rw[dF,aq hx,Bool.true_or,gc]
  .rw[ac hx];obtain⟨q1,q2,q3⟩:=fX es l (gD c x.number) (Ko h _);refine⟨⟨q1.ok,q1.pts,q1.now⟩,q2,q3.trans ?_⟩;show(c.certs.list.filter λy=>dS x.number y.number).filter _=_
   rw[p9];exact jD λy _=>by rw[dF,ak hx,mR,Bool.and_comm]
open Classical in
def addL:List Crt->Clock->Option Clock
 |[],c=>some c
 |x::xs,c=>if(c.certs.list.any λh=>decide (h.cert=x))=true then addL xs c else if nc c x then none else addL xs (j8 c x)
structure EdgF (l:List Pt)(es:List Crt):Prop where
 ok:∀x∈es,x.ok
 low:∀x∈es,inF l x.low=true
 high:∀x∈es,inF l x.high=true
def x8 {l:List Pt}{es:List Crt}(hE:EdgF l es){c:Clock}(h:bD c)(hp:c.pts=l){x:Crt}(hx:x∈es)(hn:(c.certs.list.any λh=>decide (h.cert=x))=false):CAd c x:=
 ⟨h,hE.ok x hx,λg hg e=>by rw[f8] at hn;exact hn g hg (by simp[e]),by rw[hp];exact hE.low x hx,by rw[hp];exact hE.high x hx⟩
def CQ {l:List Pt}:∀{es:List Crt} {c d:Clock},EdgF l es->bD c->aQ c.now->c.pts=l->addL es c=some d->Sim c d
 |[],c,d,_,h,_,_,e=>by cases e;exact⟨h,rfl,rfl⟩
 |x::xs,c,d,hE,h,hn,hp,e=>by
  have hE':EdgF l xs:=⟨λy hy=>hE.ok y (aN _ hy),λy hy=>hE.low y (aN _ hy),λy hy=>hE.high y (aN _ hy)⟩;unfold addL at e;split at e
  .exact CQ hE' h hn hp e
  .rename_i h1;split at e
   .cases e
   .rename_i h2;obtain⟨g1,_,g3,g4⟩:=rW (x8 hE h hp (bR ..) (by simpa using h1)) hn h2
    have:=CQ hE' g1 (by rw[g4];exact hn) (g3.trans hp) e;exact⟨this.ok,this.pts.trans g3,this.now.trans g4⟩
def dt (es:List Crt)(c:Clock):Option Clock:=addL es (dropL es c.certs.list c)
def IZ {c d:Clock}{es:List Crt}(hE:EdgF c.pts es)(h:bD c)(hn:aQ c.now)(e:dt es c=some d):Sim c d:=by
 obtain⟨q1,_,_⟩:=fX es c.certs.list c h;have:=CQ (l:=c.pts) hE q1.ok (by rw[q1.now];exact hn) q1.pts e;exact⟨this.ok,this.pts.trans q1.pts,this.now.trans q1.now⟩
def wx {α:Type}{p q:α->Bool}:∀{l:List α},(∀x∈l,p x=true->q x=true)->l.countP p<=l.countP q
 |[],_=>aB _
 |a::l,h=>by
  have ih:=wx (p:=p) (q:=q) λx hx=>h x (aN _ hx);rw[dr,dr];cases hp:p a with
  |false=>simp;omega
  |true=>rw[h a (bR ..) hp];simp;omega
def zW {α:Type}{p q:α->Bool}{a:α}:∀{l:List α},(∀x∈l,p x=true->q x=true)->a∈l->p a=false->q a=true->l.countP p<l.countP q
 |[],_,h,_,_=>by cases h
 |b::l,h,ha,hp,hq=>by
  have h':=λx hx=>h x (aN _ hx);rw[dr,dr];rcases bh.1 ha with e|ha
  .subst e;have:=wx h';rw[hp,hq];simp;omega
  .have:=zW h' ha hp hq;cases hb:p b with
   |false=>simp;omega
   |true=>rw[h b (bR ..) hb];simp;omega
def kJ (t:Rt)(z:Pt×Pt):Bool:=leads t z.1 z.2&&(cB t z.1 z.2).2
def wy (l:List Pt):List (Pt×Pt):=l.flatMap λp=>l.map λq=>(p,q)
def QK {l:List Pt}{p q:Pt}:(p,q)∈wy l↔p∈l/\ q∈l:=by
 unfold wy
 grind
def eI (t:Rt)(l:List Pt):Nat:=(wy l).countP (kJ t)
def wA {t:Rt}{p q:Pt}:kJ t (p,q)=true↔0<far t p q/\ p.b<q.b:=by
 unfold kJ cB;simp;constructor
 .rintro⟨h1,h2⟩;have h3:¬leads t q p=true:=by rw[fx h1];simp
  by_cases hb:p.b<q.b
  .refine⟨?_,hb⟩;rcases leads_iff.1 h1 with h|⟨_,h|⟨h,_⟩⟩<;>omega
  .grind
 .rintro⟨h1,h2⟩;have hl:=leads_iff.2 (.inl h1)
  grind
def x9 {t t':Rt}{p q:Pt}(hr:rok t=true)(hr':rok t'=true)(h:crs t t'<=0)(hf:kJ t' (p,q)=true):kJ t (p,q)=true:=by
 obtain⟨h1,h2⟩:=wA.1 hf;refine wA.2 ⟨?_,h2⟩;obtain⟨g,g0,hg⟩:=x6 h2;have a:=hg t;have b:=hg t';have hd:=eJ hr;have hd':=eJ hr';obtain⟨g',_,e1,e2⟩:=QJ (n:=p.a-q.a) (d:=q.b-p.b) (by omega);have hs:0<(mkR (p.a-q.a) (q.b-p.b)).den:=by
  apply Int.not_le.1;intro hle;have:=d8 hle (show 0<=g' by omega)
  omega
 generalize mkR (p.a-q.a) (q.b-p.b)=s at*;have k1:crs t' s<0:=by
  apply Int.not_le.1;intro hle;have:=uP hle (show 0<=g by omega)
  omega
 have k2:=tT (a:=t) (b:=t') (c:=s) (by omega) (by omega) hs h (by omega);have k3:crs t s<0:=by
  grind
 have:=iz k3 g0;omega
def I0 {t t':Rt}{l:List Pt}(hr:rok t=true)(hr':rok t'=true)(h:crs t t'<=0):eI t' l<=eI t l:=wx λz _ hz=>x9 (p:=z.1) (q:=z.2) hr hr' h hz
def Holds (c:Clock)(x:Crt):Prop:=leads c.now (be c.pts x.high) (be c.pts x.low)=true
def I2 {c:Clock}(h:bD c){e:Evt}(he:e∈c.agenda.heap){x:Held}(hx:x∈c.certs.list)(hf:fT c x.cert=(e.time,true))(hh:Holds c x.cert):eI e.time c.pts<eI c.now c.pts:=by
 obtain⟨h1,h2,h3,h4,h5,h6,h7,h8⟩:=iF.1 h;have hk:=h7 x hx;unfold dT at hk;rw[aH] at hk;obtain⟨k1,k2⟩:=hk;obtain⟨i,p,a1,a2,a3,a4⟩:=ea h2 k1;obtain⟨j,q,b1,b2,b3,b4⟩:=ea h2 k2;unfold Holds at hh;unfold fT at hf;rw[a4,b4] at hf hh;have hq:kJ c.now (q,p)=true:=by unfold kJ;simp[hh,hf]
 have hre:=(h4.2.2.1 e he).1;refine zW (a:=(q,p)) (λz _ hz=>x9 (p:=z.1) (q:=z.2) h1 hre (BJ h he) hz) (QK.2 ⟨au b1,au a1⟩) ?_ hq;obtain⟨f1,f2⟩:=wA.1 hq;obtain⟨g,g0,hg⟩:=x6 f2;have h3':¬leads c.now p q=true:=by rw[fx hh];simp
 unfold cB at hf;rw[ac h3',ad f2] at hf;simp at hf;have:=hg e.time;rw[hf] at this;have z:crs e.time e.time=0:=by unfold crs;omega
 rw[z,ot] at this;cases hfl:kJ e.time (q,p) with
 |false=>rfl
 |true=>have:=(wA.1 hfl).1;omega
def DK {es:List Crt}{c:Clock}(h:bD c):∀y∈(dropL es c.certs.list c).certs.list,y.cert∈es:=by
 rw[(fX es c.certs.list c h).2.2];intro y hy;obtain⟨h1,h2⟩:=bx.1 hy;have:=aS.1 h2 y h1;simpa [dS] using this
def zX {l:List Pt}{fs:List Crt}:∀{es:List Crt} {c d:Clock},EdgF l es->(∀x∈es,x∈fs)->bD c->aQ c.now->c.pts=l->(∀y∈c.certs.list,y.cert∈fs)->addL es c=some d->∀y∈d.certs.list,y.cert∈fs
 |[],c,d,_,_,h,_,_,hc,e=>by cases e;exact hc
 |x::xs,c,d,hE,hs,h,hn,hp,hc,e=>by
  have hE':EdgF l xs:=⟨λy hy=>hE.ok y (aN _ hy),λy hy=>hE.low y (aN _ hy),λy hy=>hE.high y (aN _ hy)⟩;have hs':=λy hy=>hs y (aN _ hy);unfold addL at e;split at e
  .exact zX hE' hs' h hn hp hc e
  .rename_i h1;split at e
   .cases e
   .rename_i h2;obtain⟨g1,g2,g3,g4⟩:=rW (x8 hE h hp (bR ..) (by simpa using h1)) hn h2
    refine zX hE' hs' g1 (by rw[g4];exact hn) (g3.trans hp) (λy hy=>?_) e;rw[g2] at hy;unfold lx at hy;rcases bS.1 hy with q|q
    .exact hc y q
    .rw[b8] at q;subst q;exact hs x (bR ..)
def pU {c d:Clock}{es:List Crt}(hE:EdgF c.pts es)(h:bD c)(hn:aQ c.now)(e:dt es c=some d):∀y∈d.certs.list,y.cert∈es:=by
 obtain⟨q1,_,_⟩:=fX es c.certs.list c h;exact zX (l:=c.pts) hE (λ_ h=>h) q1.ok (by rw[q1.now];exact hn) q1.pts (DK h) e
def er (c:Clock)(t:Rt):Option Evt:=match c.agenda.heap[0]? with
 |some e=>if crs e.time t<=0 then some e else none
 |none=>none
def dU {c:Clock}{t:Rt}{e:Evt}(h:er c t=some e):c.agenda.heap[0]?=some e/\ crs e.time t<=0/\ iy c t=true:=by
 unfold er at h;unfold iy
 grind
def mf {c:Clock}{t:Rt}(h:er c t=none):iy c t=false:=by
 unfold er at h;unfold iy
 grind
def dV (c:Clock)(e:Evt):Crt:=((c.certs.list.find? λx=>decide (x.number=e.number)).getD ⟨0,⟨0,0⟩⟩).cert
def lO {c:Clock}(h:bD c){e:Evt}(he:c.agenda.heap[0]?=some e):∃(i:Nat) (x:Held),c.certs.list[i]?=some x/\ x.number=e.number/\ dV c e=x.cert/\ fT c x.cert=(e.time,true):=by
 obtain⟨x,hx,hn,hf⟩:=Es h (au he);obtain⟨i,hi⟩:=aI.1 hx;refine⟨i,x,hi,hn,?_,hf⟩;unfold dV;cases q:c.certs.list.find? λx=>decide (x.number=e.number) with
 |none=>
  grind
 |some y=>
  have h1:=eR q;have h2:y.number=e.number:=by simpa using kY q
  have:=pT (nu:=λx:Held=>x.number) (As h.2.2.1) h1 hx (show y.number=x.number by omega)
  rw[this];rfl
def adv (E:Rt->List Crt)(t:Rt):Nat->Clock->List Crt->Option (Option (Clock×List Crt))
 |0,_,_=>none
 |n+1,c,out=>match er c t with
  |none=>some (some (c,out))
  |some e=>match dt (E e.time) (di c e) with
   |some d=>adv E t n d (out++[dV c e])
   |none=>some none
structure Stl (l:List Pt)(c:Clock):Prop where
 ok:bD c
 n64:aQ c.now
 pts:c.pts=l
 holds:∀x∈c.certs.list,Holds c x.cert
structure EdgH (l:List Pt)(E:Rt->List Crt):Prop where
 ok:∀t,rok t=true->aQ t->EdgF l (E t)
 holds:∀t,rok t=true->aQ t->∀x∈E t,leads t (be l x.high) (be l x.low)=true
def jA {l:List Pt}{E:Rt->List Crt}(hE:EdgH l E){c d:Clock}(h:Stl l c){e:Evt}(he:c.agenda.heap[0]?=some e)(hd:dt (E e.time) (di c e)=some d):Stl l d/\ d.now=e.time/\ eI d.now l<eI c.now l:=by
 obtain⟨f1,f2⟩:=iP h.ok he h.n64;have hr:=(h.ok.2.2.2.1.2.2.1 e (au he)).1;have hp:(di c e).pts=l:=h.pts;have hEd:EdgF (di c e).pts (E e.time):=by rw[hp];exact hE.ok _ hr f2
 have s:=IZ hEd f1 f2 hd;have hm:=pU hEd f1 f2 hd;have hnow:=s.now;refine⟨⟨s.ok,by rw[hnow];exact f2,s.pts.trans hp,λx hx=>?_⟩,hnow,?_⟩
 .unfold Holds;rw[hnow,s.pts.trans hp];exact hE.holds _ hr f2 _ (hm x hx)
 .obtain⟨i,x,hi,_,_,hf⟩:=lO h.ok he;have hx:=au hi;rw[hnow,<-h.pts];exact I2 h.ok (au he) hx hf (h.holds x hx)
def zY {l:List Pt}{E:Rt->List Crt}(hE:EdgH l E){t:Rt}:∀(n:Nat) (c:Clock) (out:List Crt),Stl l c->eI c.now l<n->∃r,adv E t n c out=some r
 |0,c,out,_,h=>by omega
 |n+1,c,out,h,hn=>by
  unfold adv;cases he:er c t with
  |none=>exact⟨_,rfl⟩
  |some e=>
   simp only;cases hd:dt (E e.time) (di c e) with
   |none=>exact⟨_,rfl⟩
   |some d=>
    obtain⟨s1,s2,s3⟩:=jA hE h (dU he).1 hd;exact zY hE n d _ s1 (by omega)
def I3 {t t':Rt}{l:List Pt}{pl:List Int}(h:okF l)(h1:1<=pl.length)(h2:pl.length<=64)(hv:∀x∈pl,dY l x)(ho:gV pl)
  (hh:∀x∈edsB (bracketOf t l pl).wins pl (bracketOf t l pl).wins.length,leads t' (be l x.high) (be l x.low)=true):bracketOf t' l pl=bracketOf t l pl:=by
 obtain⟨b1,b2,b3⟩:=iv (t:=t) h h1 h2 hv ho;have key:kV (wonI t' l) (bracketOf t l pl).wins pl:=λi hi=>by
  have e:=b3 i hi;have mem:0<=nodeV (bracketOf t l pl).wins pl (2*i+1)/\ 0<=nodeV (bracketOf t l pl).wins pl (2*i+2)->(⟨nodeV (bracketOf t l pl).wins pl (2*i+1)+nodeV (bracketOf t l pl).wins pl (2*i+2)-nodeV (bracketOf t l pl).wins pl i,nodeV (bracketOf t l pl).wins pl i⟩:Crt)∈edsB (bracketOf t l pl).wins pl (bracketOf t l pl).wins.length:=λq=>by
   unfold edsB;rw[np];refine⟨i,c9.2 hi,?_⟩;unfold edB
   grind
  generalize nodeV (bracketOf t l pl).wins pl (2*i+1)=a at e mem|-;generalize nodeV (bracketOf t l pl).wins pl (2*i+2)=b at e mem|-;rw[e] at mem|-;unfold wonI at mem|-;by_cases ha:a<0
  .grind
  .rw[ac ha] at mem|-;rw[ac ha];by_cases hb:b<0
   .grind
   .rw[ac hb] at mem|-;rw[ac hb];have m:=hh _ (mem ⟨by omega,by omega⟩);simp only at m;by_cases hl:leads t (be l a) (be l b)=true
    .grind
    .rw[ac hl] at m|-;rw[show a+b-b=a by omega] at m
     rw[ac (by rw[fx m];simp)]
 have:=(sZ (m:=pl.length-1) b1).2 key;unfold bracketOf at this|-;simp only at this;rw[this]
def Tn {c:Clock}(h:bD c){t:Rt}(hr:rok t=true)(hl:crs c.now t<=0)(hw:iy c t=false){x:Held}(hx:x∈c.certs.list)(hh:Holds c x.cert):leads t (be c.pts x.cert.high) (be c.pts x.cert.low)=true:=by
 obtain⟨h1,h2,h3,h4,h5,h6,h7,h8⟩:=iF.1 h;have hc:=((lN.1 h3).2.2.2.1 x hx).1;have hk:=h7 x hx;unfold dT at hk;rw[aH] at hk;obtain⟨k1,k2⟩:=hk;obtain⟨i,p,a1,a2,a3,a4⟩:=ea h2 k1;obtain⟨j,q,b1,b2,b3,b4⟩:=ea h2 k2;have hne:q.id≠p.id:=by have:=hc.2.2.2.2;omega
 have hf:=M2 h hr hl hx;unfold Holds at hh;rw[a4,b4] at hh|-;have e1:fT c x.cert=cB c.now q p:=by unfold fT;rw[a4,b4]
 have e2:fT (atC c t) x.cert=cB t q p:=by unfold fT;show cB t (be c.pts x.cert.high) (be c.pts x.cert.low)=_;rw[a4,b4]
 rw[e1,e2] at hf;have n1:¬leads c.now p q=true:=by rw[fx hh];simp
 rcases leads_total (t:=t) hne with g|g
 .exact g
 .exfalso;have f2:cB t q p=(t,true):=by unfold cB;rw[ad g]
  cases hq:(cB c.now q p).2 with
  |false=>
   grind
  |true=>
   have hfil:x∈c.certs.list.filter λx=>(fT c x.cert).2:=bx.2 ⟨hx,by rw[e1];exact hq⟩;have ev:∀{xs:List Due} {ys:List Held},F2 (wq c) xs ys->∀y∈ys,(∃e∈c.agenda.heap,e.time=(fT c y.cert).1):=by
    intro xs ys k;induction k with
    |nil=>intro y hy;cases hy
    |cons r t ih=>
     intro y hy;rcases bh.1 hy with e|hy
     .rw[e];exact⟨_,r.2,rfl⟩
     .exact ih y hy
   obtain⟨e,he,het⟩:=ev h8 x hfil;have hlt:crs t e.time<0\/crs t e.time=0:=by have:=zV h hr hw e he;omega
   rw[e1] at het;have hm:=hf.1 hq (by rw[<-het];have:=zV h hr hw e he;exact this);rw[f2] at hm;have ht:e.time=t:=by rw[het,<-hm]
   have hz:crs e.time t=0:=by rw[ht];unfold crs;omega
   have hmin:∃f,c.agenda.heap[0]?=some f:=by
    obtain⟨i,hi⟩:=aI.1 he;exact⟨c.agenda.heap[0]'(by have:=bu hi;omega),ah _⟩
   obtain⟨f,hf0⟩:=hmin;have h9:=ww h4 hf0 he;rw[ht] at h9;unfold iy at hw;rw[hf0] at hw;simp only[aj] at hw;exact hw h9
def I4 (t:Rt)(l:List Pt)(p:Pt):dc t l p∈p::l:=by
 rcases topP_mem t l p with h|h
 .rw[h];simp
 .simp[h]
def aeK (n:Int)(d:Nat):fy n d=0\/fy n d=1:=by
 unfold fy;omega
def QL {t t':Rt}{L:List Pt}:∀(n:Nat) (l:List Pt) (from':Int) (d:Nat),l.length<=n->Ids l->(∀p∈l,p∈L)->(∀p∈L,p.id=from'->p∉l->∀q∈l,True)->
  (∀x∈d7 t l from' d,∀p∈L,∀q∈L,p.id=x.1->q.id=x.2->leads t' q p=true)->
  d7 t' l from' d=d7 t l from' d/\∀p l0,l=p::l0->∀q∈l,q≠dc t l0 p->leads t' (dc t l0 p) q=true:=by
 intro n;induction n with
 |zero=>
  intro l from' d h _ _ _ _;have hl:l=[]:=cH.1 (by omega);subst hl;exact⟨by unfold d7;rfl,λp l0 e=>by cases e⟩
 |succ n ih=>
  intro l from' d h hi hL _ hH;cases l with
  |nil=>exact⟨by unfold d7;rfl,λp l0 e=>by cases e⟩
  |cons p l=>
   have htm:=I4 t l p;have hr:=hL _ htm;have hH':∀b:Int,b=0\/b=1->∀x∈d7 t (side (p::l) (dc t l p).id d b) (dc t l p).id (d+1),∀p∈L,∀q∈L,p.id=x.1->q.id=x.2->leads t' q p=true:=λb hb x hx=>hH x (by
    unfold d7;refine aN _ (bS.2 ?_);rcases hb with rfl|rfl
    .exact .inl hx
    .exact .inr hx)
   have ihb:=λ(b:Int) (hb:b=0\/b=1)=>ih (side (p::l) (dc t l p).id d b) (dc t l p).id (d+1) (by have:=pa (t:=t) (p:=p) (l:=l) (d:=d) (b:=b);simp only[aV] at h;omega) (hi.filter _) (λq hq=>hL q (bx.1 hq).1) (λ_ _ _ _ _ _=>trivial) (hH' b hb);have all:∀q∈p::l,q≠dc t l p->leads t' (dc t l p) q=true:=λq hq hne=>by
    have hid:q.id≠(dc t l p).id:=λe=>hne (pT (nu:=Pt.id) hi hq htm e);have hb:=aeK q.id d;have hm:q∈side (p::l) (dc t l p).id d (fy q.id d):=bx.2 ⟨hq,by simp[hid]⟩;have ib:=ihb _ hb;have iH:=hH' _ hb;have hLs:∀z∈side (p::l) (dc t l p).id d (fy q.id d),z∈L:=λz hz=>hL z (bx.1 hz).1;generalize side (p::l) (dc t l p).id d (fy q.id d)=S at hm ib iH hLs;cases S with
    |nil=>cases hm
    |cons s S=>
     have h1:leads t' (dc t l p) (dc t S s)=true:=iH ((dc t S s).id,(dc t l p).id) (by unfold d7;exact bR ..) _ (hLs _ (I4 t S s)) _ hr rfl rfl;by_cases e:q=dc t S s
     .rw[e];exact h1
     .exact kA h1 (ib.2 s S rfl q hm e)
   have htop:dc t' l p=dc t l p:=by
    by_cases e:dc t' l p=dc t l p
    .exact e
    .exfalso;have h1:=all _ (I4 t' l p) e;have h2:=rU (t:=t') l p hi _ htm (λq=>e q.symm);rw[fx h1] at h2;cases h2
   refine⟨?_,λp' l0 e q hq=>?_⟩
   .unfold d7;rw[htop,(ihb 0 (.inl rfl)).1,(ihb 1 (.inr rfl)).1]
   .cases e;exact all q hq
def To {t t':Rt}{l:List Pt}(h:okF l)(hh:∀x∈cv l (cS t l),leads t' (be l x.high) (be l x.low)=true):cS t' l=cS t l:=by
 have hi:=cW h.2.2;have:it t' l=it t l:=by
  refine(QL (L:=l) l.length l (-1) 0 (aB _) hi (λ_ h=>h) (λ_ _ _ _ _ _=>trivial) λx hx p hp q hq e1 e2=>?_).1;have hm:=hx;obtain⟨i,hpi⟩:=aI.1 hp;obtain⟨j,hqj⟩:=aI.1 hq;have hk:=CK (ps:=it t l) (k:=p.id) (v:=0) ⟨x.2,by rw[e1];exact hm⟩;have he:=pT (nu:=λx:Int×Int=>x.1) (yY (t:=t) h) hk hm e1;have hu:(cS t l)[i]?=some q.id:=by
   unfold cS
   grind
  have hb:=Pt.bnd (dH h hqj);have:=hh ⟨p.id,q.id⟩ (vr.2 ⟨i,p,q.id,hpi,hu,hb.1.1,rfl⟩);rw[gK h hpi,gK h hqj] at this;exact this
 unfold cS;rw[this]
end Go.Proofs.YtoeigdpfcnaaeaaGreat
namespace Bnd
open Go
section
variable {ld ld':Nat->Nat->Bool}{n:Nat}
structure Rng (ld:Nat->Nat->Bool)(n a b:Nat):Prop where
 le:b<=n
 lo:a=0\/∀j,a<=j->j<b->ld (a-1) j=true
 hi:b=n\/∀j,a<=j->j<b->ld b j=true
def acP (L:Lin ld n){a b k:Nat}(R:Rng ld n a b)(h:qM ld a b k):wd ld k a/\ wg ld n k b:=by
 obtain⟨h1,h2,h3⟩:=h;refine⟨⟨h1,λj ha hk=>L.asymm _ _ (h3 j ha (by omega) (by omega)),R.lo.imp_right λq=>q k h1 h2⟩,⟨h2,R.le,λj hk hb=>L.asymm _ _ (h3 j (by omega) hb (by omega)),R.hi.imp_right λq=>q k h1 h2⟩⟩
def rX (L:Lin ld n)(L':Lin ld' n){r:Int}{l:List (Int×Int)}(C:lL ld n r l)(H:∀i j,i<n->Below l i j->ld' j i=true):∀(d a b k:Nat),b-a<=d->Rng ld n a b->qM ld a b k->qM ld' a b k
 |0,a,b,k,hd,_,h=>by have:=h.1;have:=h.2.1;omega
 |d+1,a,b,k,hd,R,h=>by
  obtain⟨q1,q2⟩:=acP L R h;obtain⟨h1,h2,h3⟩:=h;have hkn:k<n:=by have:=R.le;omega
  obtain⟨x,hx⟩:∃x,l[k]?=some x:=⟨l[k]'(by rw[C.2.1];exact hkn),ah _⟩;obtain⟨a',b',c1,c2,c3,c4⟩:=C.2.2 k x hx;rw[uH c1 q1] at c3;rw[uI c2 q2] at c4;refine⟨h1,h2,λj ha hb hne=>?_⟩;by_cases hj:j<k
  .rcases c3 with⟨e,_⟩|⟨m,em,T⟩
   .omega
   .have hm:=H m k (by have:=T.2.1;omega) ⟨x,hx,.inl em⟩;have T':=rX L L' C H d a k m (by omega) ⟨by omega,R.lo.imp_right λq j ha hk=>q j ha (by omega),.inr λj ha hk=>h3 j ha (by omega) (by omega)⟩ T;by_cases e:j=m
    .rw[e];exact hm
    .exact L'.trans _ _ _ hm (T'.2.2 j ha hj e)
  .rcases c4 with⟨e,_⟩|⟨m,em,T⟩
   .omega
   .have hm:=H m k (by have:=T.2.1;have:=R.le;omega) ⟨x,hx,.inr em⟩;have T':=rX L L' C H d (k+1) b m (by omega) ⟨R.le,.inr λj ha hk=>h3 j (by omega) hk (by omega),R.hi.imp_right λq j ha hk=>q j (by omega) hk⟩ T;by_cases e:j=m
    .rw[e];exact hm
    .exact L'.trans _ _ _ hm (T'.2.2 j (by omega) hb e)
def I5 (L:Lin ld n){k a b:Nat}(hk:k<n)(h1:wd ld k a)(h2:wg ld n k b):Rng ld n a b/\ qM ld a b k:=by
 obtain⟨a1,a2,a3⟩:=h1;obtain⟨b1,b2,b3,b4⟩:=h2;have T:qM ld a b k:=⟨a1,b1,λj ha hb hne=>by
  rcases L.total k j hk (by omega) (λe=>hne e.symm) with q|q
  .exact q
  .exfalso;by_cases hj:j<k
   .grind
   .rw[b3 j (by omega) hb] at q;cases q⟩
 refine⟨⟨b2,a3.imp_right λq j ha hb=>?_,b4.imp_right λq j ha hb=>?_⟩,T⟩
 .by_cases e:j=k
  .grind
  .exact L.trans _ _ _ q (T.2.2 j ha hb e)
 .by_cases e:j=k
  .grind
  .exact L.trans _ _ _ q (T.2.2 j ha hb e)
def Ks {r:Int}{l:List (Int×Int)}(C:lL ld n r l){k:Nat}(hk:k<n):∃a b,wd ld k a/\ wg ld n k b:=by
 obtain⟨x,hx⟩:∃x,l[k]?=some x:=⟨l[k]'(by rw[C.2.1];exact hk),ah _⟩;obtain⟨a,b,c1,c2,_⟩:=C.2.2 k x hx
 grind
def I6 (L:Lin ld n)(L':Lin ld' n){r:Int}{l:List (Int×Int)}(C:lL ld n r l)(H:∀i j,i<n->Below l i j->ld' j i=true){m k:Nat}(hm:m<n){a b:Nat}(h1:wd ld m a)(h2:wg ld n m b)(ha:a<=k)(hb:k<b)(hne:k≠m):ld' m k=true:=by
 obtain⟨R,T⟩:=I5 L hm h1 h2;exact(rX L L' C H _ a b m (aB _) R T).2.2 k ha hb hne
def QM (L:Lin ld n)(L':Lin ld' n){r:Int}{l:List (Int×Int)}(C:lL ld n r l)(H:∀i j,i<n->Below l i j->ld' j i=true):lL ld' n r l:=by
 have link:∀{a b:Nat} {x:Int},Rng ld n a b->jK ld a b x->jK ld' a b x:=λ{a b x} R h=>by
  rcases h with h|⟨k,e,T⟩
  .exact .inl h
  .exact .inr ⟨k,e,rX L L' C H _ a b k (aB _) R T⟩
 refine⟨link ⟨aB _,.inl rfl,.inl rfl⟩ C.1,C.2.1,λk x hx=>?_⟩;obtain⟨a,b,c1,c2,c3,c4⟩:=C.2.2 k x hx;have hk:k<n:=by have:=(aD.1 hx).1;rw[C.2.1] at this;exact this
 obtain⟨R,T⟩:=I5 L hk c1 c2;have T':=rX L L' C H _ a b k (aB _) R T;have ra:Rng ld n a k:=⟨by omega,R.lo.imp_right λq j ha hj=>q j ha (by have:=T.2.1;omega),.inr λj ha hj=>T.2.2 j ha (by have:=T.2.1;omega) (by omega)⟩;have rb:Rng ld n (k+1) b:=⟨R.le,.inr λj ha hj=>T.2.2 j (by have:=T.1;omega) hj (by omega),R.hi.imp_right λq j ha hj=>q j (by have:=T.1;omega) hj⟩;refine⟨a,b,⟨c1.1,λj ha hj=>L'.asymm _ _ (T'.2.2 j ha (by have:=T.2.1;omega) (by omega)),?_⟩,⟨c2.1,c2.2.1,λj hj hb=>L'.asymm _ _ (T'.2.2 j (by have:=T.1;omega) hb (by omega)),?_⟩,link ra c3,link rb c4⟩
 .by_cases h0:a=0
  .grind
  .right
   have q:=c1.2.2.resolve_left h0;have ha1:=c1.1;obtain⟨a2,b2,d1,d2⟩:=Ks C (show a-1<n by omega)
   have hb2:k<b2:=by
    apply Nat.not_le.1;intro hle;rcases d2.2.2.2 with e|e
    .omega
    ·
     have:ld (a-1) b2=true:=by
      by_cases e':b2=k
      .rw[e'];exact q
      .exact L.trans _ _ _ q (T.2.2 b2 (by have:=d2.1;omega) (by have:=T.2.1;omega) e')
     rw[L.asymm _ _ this] at e;cases e
   exact I6 L L' C H (by omega) d1 d2 (by have:=d1.1;omega) hb2 (by omega)
 .by_cases h0:b=n
  .exact .inl h0
  .right
   have q:=c2.2.2.2.resolve_left h0;have hbn:=c2.2.1;obtain⟨a2,b2,d1,d2⟩:=Ks C (show b<n by omega)
   have ha2:a2<=k:=by
    apply Nat.not_lt.1;intro hlt;rcases d1.2.2 with e|e
    .omega
    .have hb1:=d1.1;have:ld b (a2-1)=true:=by
      by_cases e':a2-1=k
      .rw[e'];exact q
      .exact L.trans _ _ _ q (T.2.2 (a2-1) (by have:=T.1;omega) (by omega) e')
     rw[L.asymm _ _ this] at e;cases e
   exact I6 L L' C H (by omega) d1 d2 ha2 (by have:=d2.1;have:=c2.1;omega) (by have:=c2.1;omega)
end
end Bnd
namespace Go.Proofs.YtoeigdpfcnaaeaaGreat
open Go.Sym Bnd
def M3 {t t':Rt}{l:List Pt}(h:okF l)(hh:∀x∈edgsT (cart t l).nodes l.length,leads t' (be l x.high) (be l x.low)=true):cart t' l=cart t l:=by
 have L:=fK (t:=t) h.2.2;have L':=fK (t:=t') h.2.2;have C:=md L;have key:lL (ldF t' l) l.length (cmake (ldF t l) l.length).2.1 (cmake (ldF t l) l.length).2.2:=QM L L' C λi j hi hb=>by
  obtain⟨x,hx,hxi⟩:=hb;have hj:j<l.length:=by have:=(aD.1 hx).1;rw[C.2.1] at this;exact this
  obtain⟨n,n1,n2,n3,_⟩:=jV h hx;have hc:nodC i n=true:=by
   unfold nodC
   grind
  obtain⟨k,hk⟩:∃k,(cart t l).nodes.findIdx? (nodC i)=some k:=by
   cases e:(cart t l).nodes.findIdx? (nodC i) with
   |some k=>exact⟨k,rfl⟩
   |none=>
    grind
  obtain⟨k1,k2,_⟩:=bU.1 hk;have hb':=qA h (ah k1) k2;have hkj:=BF L C hb' ⟨x,hx,hxi⟩;subst hkj;have hp:=ah hi;have hq:=ah hj;have m:=hh ⟨tu (cart t l).nodes i,tu (cart t l).nodes k⟩ (by
   unfold edgsT;rw[np];refine⟨i,c9.2 hi,?_⟩;unfold tv;rw[hk];simp)
  simp only at m;rw[qS h hp,qS h hq,gK h hp,gK h hq] at m;rw[ym hq hp];exact m
 obtain⟨u1,u2⟩:=DC L' (md L') key;unfold cart;rw[u1,u2]
def zZ {l:List Pt}:∀{es:List Crt} {c d:Clock},EdgF l es->bD c->aQ c.now->c.pts=l->addL es c=some d->(∀y∈c.certs.list,y∈d.certs.list)/\∀x∈es,∃y∈d.certs.list,y.cert=x
 |[],c,d,_,h,_,_,e=>by cases e;exact⟨λ_ h=>h,λ_ h=>by cases h⟩
 |x::xs,c,d,hE,h,hn,hp,e=>by
  have hE':EdgF l xs:=⟨λy hy=>hE.ok y (aN _ hy),λy hy=>hE.low y (aN _ hy),λy hy=>hE.high y (aN _ hy)⟩;unfold addL at e;split at e
  .rename_i h1;obtain⟨q1,q2⟩:=zZ hE' h hn hp e;refine⟨q1,λz hz=>?_⟩;rcases bh.1 hz with rfl|hz
   .obtain⟨y,hy,hc⟩:=List.any_eq_true.1 h1;exact⟨y,q1 y hy,by simpa using hc⟩
   .exact q2 z hz
  .rename_i h1;split at e
   .cases e
   .rename_i h2;obtain⟨g1,g2,g3,g4⟩:=rW (x8 hE h hp (bR ..) (by simpa using h1)) hn h2
    obtain⟨q1,q2⟩:=zZ hE' g1 (by rw[g4];exact hn) (g3.trans hp) e;have hin:=λy hy=>q1 y (by rw[g2];exact hy);unfold lx at hin;refine⟨λy hy=>hin y (dL _ hy),λz hz=>?_⟩;rcases bh.1 hz with rfl|hz
    .exact⟨_,hin _ (fP _ (b8.2 rfl)),rfl⟩
    .exact q2 z hz
def ya {c d:Clock}{es:List Crt}(hE:EdgF c.pts es)(h:bD c)(hn:aQ c.now)(e:dt es c=some d):∀x∈es,∃y∈d.certs.list,y.cert=x:=by
 obtain⟨q1,_,_⟩:=fX es c.certs.list c h;exact(zZ (l:=c.pts) hE q1.ok (by rw[q1.now];exact hn) q1.pts e).2
def Kt {l:List Pt}{E:Rt->List Crt}(hE:EdgH l E){t:Rt}:∀(n:Nat) (c:Clock) (out:List Crt) (d:Clock) (out':List Crt),Stl l c->(∀x∈E c.now,∃y∈c.certs.list,y.cert=x)->adv E t n c out=some (some (d,out'))->∀x∈E d.now,∃y∈d.certs.list,y.cert=x
 |0,c,out,d,out',_,_,h=>by cases h
 |n+1,c,out,d,out',h,hc,ha=>by
  unfold adv at ha;cases he:er c t with
  |none=>
   rw[he] at ha;cases ha;exact hc
  |some e=>
   rw[he] at ha;simp only at ha;cases hd:dt (E e.time) (di c e) with
   |none=>rw[hd] at ha;cases ha
   |some d0=>
    rw[hd] at ha;simp only at ha;obtain⟨n1,n2,_⟩:=dU he;obtain⟨s1,s2,s3⟩:=jA hE h n1 hd;obtain⟨f1,f2⟩:=iP h.ok n1 h.n64;have hr:=(h.ok.2.2.2.1.2.2.1 e (au n1)).1;have hpt:(di c e).pts=l:=h.pts;refine Kt hE n d0 _ d out' s1 ?_ ha;rw[s2];exact ya (by rw[hpt];exact hE.ok _ hr f2) f1 f2 hd
def nf (f:Int->Nat):List Int->Nat->Nat
 |[],_=>0
 |x::xs,i=>i*f x+nf f xs (i+1)
def z6 {f:Int->Nat}{y:Int}:∀{hp:List Int} {i:Nat} {x:Int} {s:Nat},hp[i]?=some x->nf f (hp.set i y) s+(s+i)*f x=nf f hp s+(s+i)*f y
 |[],i,x,s,h=>by cases h
 |z::zs,0,x,s,h=>by
  simp at h;subst h;simp only[List.set_cons_zero,nf,lS];omega
 |z::zs,i+1,x,s,h=>by
  have h:zs[i]?=some x:=h;have ih:=z6 (f:=f) (y:=y) (s:=s+1) h;simp[nf];rw[show s+1+i=s+(i+1) by omega] at ih
  omega
def QN {f:Int->Nat}{hp:List Int}{n m:Nat}{a b:Int}(ha:hp[n]?=some a)(hb:hp[m]?=some b)(h:n<m)(hf:f a<f b):nf f ((hp.set n b).set m a) 0<nf f hp 0:=by
 have e1:=z6 (f:=f) (y:=b) (s:=0) ha;have hb':(hp.set n b)[m]?=some b:=by rw[bw (by omega)];exact hb
 have e2:=z6 (f:=f) (y:=a) (s:=0) hb';obtain⟨g,rfl⟩:∃g,m=n+(g+1):=⟨m-n-1,by omega⟩;obtain⟨e,he⟩:∃e,f b=f a+(e+1):=⟨f b-f a-1,by omega⟩;rw[he] at e1 e2
 grind
def led (t:Rt)(l:List Pt)(x:Int):Nat:=l.countP λq=>leads t (be l x) q
def acQ {t:Rt}{l:List Pt}(h:okF l){a b:Int}(ha:inF l a=true)(hl:leads t (be l b) (be l a)=true):led t l a<led t l b:=by
 obtain⟨i,p,a1,a2,a3,a4⟩:=ea h ha;refine zW (a:=be l a) (λq _ hq=>kA hl hq) ?_ (sX t _) hl
 grind
def mh (t:Rt)(l:List Pt)(hp:List Int):Nat:=nf (led t l) hp 0+(hp.length*l.length)*eI t l
def M4 {t:Rt}{l:List Pt}(h:okF l){hp:List Int}{n m:Nat}{a b:Int}(ha:hp[n]?=some a)(hb:hp[m]?=some b)(hnm:n<m)(hin:inF l a=true)(hl:leads t (be l b) (be l a)=true):mh t l ((hp.set n b).set m a)<mh t l hp:=by
 have:=QN (f:=led t l) ha hb hnm (acQ h hin hl);unfold mh
 grind
def zf {α:Type}{p q r:α->Bool}:∀{l:List α},(∀x∈l,p x=true->q x=true\/r x=true)->l.countP p<=l.countP q+l.countP r
 |[],_=>by simp
 |a::l,h=>by
  have ih:=zf (p:=p) (q:=q) (r:=r) λx hx=>h x (aN _ hx);have ha:=h a (bR ..);rw[dr,dr,dr];cases hp:p a with
  |false=>simp;omega
  |true=>
   rcases ha hp with e|e
   .rw[e];simp;omega
   .rw[e];simp;omega
def yb {α:Type}{p q:α->Bool}:∀{l:List α},(∀x∈l,q x=true->p x=true)->l.countP p=l.countP q+l.countP λx=>p x&& !q x
 |[],_=>by simp
 |a::l,h=>by
  have ih:=yb (p:=p) (q:=q) λx hx=>h x (aN _ hx);have ha:=h a (bR ..);rw[dr,dr,dr,ih];cases hp:p a<;>cases hq:q a
  .simp
  .rw[ha hq] at hp;cases hp
  .simp;omega
  .simp;omega
def zg {g:Pt×Pt->Bool}{X:Pt}{k:List Pt}(hX:X∈k):∀(l:List Pt),l.countP (λp=>g (p,X))<=(l.flatMap λp=>k.map λq=>(p,q)).countP g
 |[]=>by simp
 |a::l=>by
  have ih:=zg (g:=g) hX l;rw[dr,du,pY];have:(if g (a,X)=true then 1 else 0)<=(k.map λq=>(a,q)).countP g:=by
   split
   .rename_i h;exact List.countP_pos_iff.2 ⟨(a,X),bf.2 ⟨X,hX,rfl⟩,h⟩
   .omega
  omega
def QO {t t':Rt}{l:List Pt}(h:okF l)(hr:rok t=true)(hr':rok t'=true)(hl:crs t t'<=0){x:Int}(hx:inF l x=true):led t' l x+eI t' l<=led t l x+eI t l:=by
 obtain⟨i,X,a1,a2,a3,a4⟩:=ea h hx;have hX:=au a1;have e1:eI t l=eI t' l+(wy l).countP λz=>kJ t z&& !kJ t' z:=yb λz _ hz=>x9 (p:=z.1) (q:=z.2) hr hr' hl hz;have e2:=zg (g:=λz=>kJ t z&& !kJ t' z) hX l;have e3:led t' l x<=led t l x+l.countP λq=>kJ t (q,X)&& !kJ t' (q,X):=by
  unfold led;rw[a4];refine zf λq hq hlq=>?_;by_cases c:leads t X q=true
  .exact .inl c
  .right
   have hne:X.id≠q.id:=λe=>by
    have:=pT (nu:=Pt.id) (cW h.2.2) hX hq e;subst this;rw[sX] at hlq;cases hlq
   have hqX:leads t q X=true:=(leads_total (t:=t) hne).resolve_left c;obtain⟨j,hj⟩:=aI.1 hq;have fm:=x7 (t:=t) (t':=t') (hi:=q) (lo:=X) (dH h hj) (dH h a1) (λe=>hne e.symm) hr hr' hl;have hb:q.b<X.b:=by
    apply Int.not_le.1;intro hle;have f0:cB t q X=(⟨0,0⟩,false):=by unfold cB;rw[ac c,ac (by omega)]
    have:=fm.2 (by rw[f0]);rw[f0] at this;unfold cB at this
    grind
   have f1:kJ t (q,X)=true:=by
    unfold kJ cB;simp only;rw[ac c,ad hb,hqX];rfl
   have f2:kJ t' (q,X)=false:=by
    unfold kJ;simp only;rw[fx hlq];rfl
   rw[f1,f2];rfl
 have e4:(l.flatMap λp=>l.map λq=>(p,q))=wy l:=rfl;rw[e4] at e2;omega
def Ku {f g:Int->Nat}{d n:Nat}:∀(hp:List Int) (s:Nat),(∀x∈hp,f x<=g x+d)->s+hp.length<=n->nf f hp s<=nf g hp s+hp.length*(n*d)
 |[],s,_,_=>by simp[nf]
 |x::xs,s,h,hn=>by
  rw[aV] at hn;have ih:=Ku (f:=f) (g:=g) (d:=d) (n:=n) xs (s+1) (λy hy=>h y (aN _ hy)) (by omega);have hx:=h x (bR ..);have m1:=oF s hx;have m2:s*d<=n*d:=cd d (by omega);rw[Nat.mul_add] at m1;simp[nf];rw[b6,tO];omega
def JD {t t':Rt}{l:List Pt}(h:okF l)(hr:rok t=true)(hr':rok t'=true)(hl:crs t t'<=0){hp:List Int}(hi:∀x∈hp,inF l x=true)(hn:hp.length=l.length):mh t' l hp<=mh t l hp:=by
 have fl:=I0 (l:=l) hr hr' hl;have w:=Ku (f:=led t' l) (g:=led t l) (d:=eI t l-eI t' l) (n:=hp.length) hp 0 (λx hx=>by have:=QO h hr hr' hl (hi x hx);omega) (by omega);unfold mh;rw[<-hn];obtain⟨e,he⟩:∃e,eI t l=eI t' l+e:=⟨eI t l-eI t' l,by omega⟩;rw[he,show eI t' l+e-eI t' l=e by omega] at w
 rw[he,Nat.mul_add,Nat.mul_assoc hp.length hp.length e];omega
def QP {t s:Rt}{hi lo:Pt}(o1:hi.ok=true)(o2:lo.ok=true)(hne:hi.id≠lo.id)(hr:rok t=true)(hs:rok s=true)(hl:crs t s<=0)(hf:cB t hi lo=(s,true)):leads s lo hi=true:=by
 have m:=(x7 o1 o2 hne hr hs hl).1 (by rw[hf]) (by rw[hf];unfold crs;simp only;omega);rw[hf] at m;by_cases c:leads s lo hi=true
 .exact c
 .unfold cB at m;rw[ac c] at m;by_cases hb:hi.b<lo.b
  .rw[ad hb] at m;simp at m;obtain⟨g,g0,hg⟩:=x6 hb;have:=hg s;rw[m] at this;have z:crs s s=0:=by unfold crs;omega
   rw[z,ot] at this;have fn:=q9 s hi lo;exact leads_iff.2 (.inr ⟨by omega,.inl hb⟩)
  .grind
def M5 {c:Clock}(h:bD c){e:Evt}(he:e∈c.agenda.heap){x:Held}(hx:x∈c.certs.list)(hf:fT c x.cert=(e.time,true)):leads e.time (be c.pts x.cert.low) (be c.pts x.cert.high)=true:=by
 obtain⟨h1,h2,h3,h4,h5,h6,h7,h8⟩:=iF.1 h;have hc:=((lN.1 h3).2.2.2.1 x hx).1;have hk:=h7 x hx;unfold dT at hk;rw[aH] at hk;obtain⟨k1,k2⟩:=hk;obtain⟨i,p,a1,a2,a3,a4⟩:=ea h2 k1;obtain⟨j,q,b1,b2,b3,b4⟩:=ea h2 k2;unfold fT at hf;rw[a4,b4] at hf|-;exact QP (dH h2 b1) (dH h2 a1) (by have:=hc.2.2.2.2;omega) h1 (h4.2.2.1 e he).1 (BJ h he) hf
def fq (hp:List Int)(n m:Nat)(a b:Int):List Int:=(hp.set n b).set m a
def M6 {c:Clock}(h:bD c){e:Evt}(he:e∈c.agenda.heap){x:Held}(hx:x∈c.certs.list)(hf:fT c x.cert=(e.time,true)){hp:List Int}(hi:∀y∈hp,inF c.pts y=true)(hn:hp.length=c.pts.length){n m:Nat}(hnm:n<m)(ha:hp[n]?=some x.cert.high)(hb:hp[m]?=some x.cert.low):
  mh e.time c.pts (fq hp n m x.cert.high x.cert.low)<mh c.now c.pts hp:=by
 have l:=M5 h he hx hf;have s:=M4 (t:=e.time) h.2.1 ha hb hnm (hi _ (au ha)) l;have g:=JD h.2.1 h.1 (h.2.2.2.1.2.2.1 e he).1 (BJ h he) hi hn;unfold fq;omega
def I7 {l:List Int}{i:Nat}(h:i<l.length):l[i]?=some (nthI l i):=by
 unfold nthI
 grind
def Kv {hp:List Int}{x:Crt}(h:x∈cX hp):∃n m:Nat,n<m/\ hp[n]?=some x.high/\ hp[m]?=some x.low:=by
 obtain⟨i,hi,rfl⟩:=bf.1 h;rw[c9] at hi;exact⟨i/2,i+1,by omega,I7 (by omega),I7 (by omega)⟩
structure HStl (l:List Pt)(c:Clock)(hp:List Int):Prop where
 ok:bD c
 n64:aQ c.now
 pts:c.pts=l
 sub:∀y∈c.certs.list,y.cert∈cX hp
 nd:hp.Nodup
 inl:∀x∈hp,inF l x=true
 len:hp.length=l.length
def QQ {l:List Pt}{hp:List Int}(h:okF l)(nd:hp.Nodup)(inl:∀x∈hp,inF l x=true):EdgF l (cX hp):=by
 have key:∀x∈cX hp,x.ok/\ inF l x.low=true/\ inF l x.high=true:=λx hx=>by
  obtain⟨n,m,hnm,ha,hb⟩:=Kv hx;have k1:=inl _ (au hb);have k2:=inl _ (au ha);obtain⟨i,p,a1,a2,_,_⟩:=ea h k1;obtain⟨j,q,b1,b2,_,_⟩:=ea h k2;have bp:=Pt.bnd (dH h a1);have bq:=Pt.bnd (dH h b1);refine⟨⟨by omega,by omega,by omega,by omega,λe=>?_⟩,k1,k2⟩;rw[e] at hb;have:=dN.1 nd n m x.high ha hb;omega
 exact⟨λx hx=>(key x hx).1,λx hx=>(key x hx).2.1,λx hx=>(key x hx).2.2⟩
def BK {hp:List Int}{n m:Nat}{a b:Int}(ha:hp[n]?=some a)(hb:hp[m]?=some b):(fq hp n m a b).Perm hp:=by
 unfold fq
 grind
def yc {l:List Pt}(hl:okF l){c d:Clock}{hp:List Int}(h:HStl l c hp){e:Evt}(he:c.agenda.heap[0]?=some e){n m:Nat}(hnm:n<m)(ha:hp[n]?=some (dV c e).high)(hb:hp[m]?=some (dV c e).low)
  (hd:dt (cX (fq hp n m (dV c e).high (dV c e).low)) (di c e)=some d):HStl l d (fq hp n m (dV c e).high (dV c e).low)/\ d.now=e.time/\ mh d.now l (fq hp n m (dV c e).high (dV c e).low)<mh c.now l hp:=by
 obtain⟨f1,f2⟩:=iP h.ok he h.n64;have pm:=BK ha hb;have nd:=pm.nodup_iff.2 h.nd;have inl:=λx hx=>h.inl x (pm.mem_iff.1 hx);have hp':(di c e).pts=l:=h.pts;have hE:EdgF (di c e).pts (cX (fq hp n m (dV c e).high (dV c e).low)):=by rw[hp'];exact QQ hl nd inl
 have s:=IZ hE f1 f2 hd;have hm:=pU hE f1 f2 hd;have hnow:=s.now;refine⟨⟨s.ok,by rw[hnow];exact f2,s.pts.trans hp',hm,nd,inl,by rw[pm.length_eq];exact h.len⟩,hnow,?_⟩;obtain⟨i,x,hi,_,hce,hf⟩:=lO h.ok he;rw[hnow];rw[hce] at ha hb|-;have:=M6 h.ok (au he) (au hi) hf (hp:=hp) (by rw[h.pts];exact h.inl) (by rw[h.pts];exact h.len) hnm ha hb;rw[h.pts] at this;exact this
def plI (hp:List Int)(v:Int):Nat:=(hp.findIdx? λy=>decide (v=y)).getD 0
def QR {hp:List Int}(hn:hp.Nodup){m:Nat}{v:Int}(h:hp[m]?=some v):plI hp v=m:=by
 have:hp.findIdx? (λy=>decide (v=y))=some m:=by
  obtain⟨h1,h2⟩:=aD.1 h;rw[bU];refine⟨h1,by rw[h2];simp,λj hj e=>?_⟩;simp at e;have:=dN.1 hn j m v (by rw[ah (Nat.lt_trans hj h1),e]) h;omega
 unfold plI;rw[this];rfl
def yT (hp:List Int)(x:Crt):List Int:=fq hp (plI hp x.high) (plI hp x.low) x.high x.low
def oo (t:Rt):Nat->Clock->List Int->List Crt->Option (Option (Clock×List Int×List Crt))
 |0,_,_,_=>none
 |n+1,c,hp,out=>match er c t with
  |none=>some (some (c,hp,out))
  |some e=>match dt (cX (yT hp (dV c e))) (di c e) with
   |some d=>oo t n d (yT hp (dV c e)) (out++[dV c e])
   |none=>some none
def wB {l:List Pt}{c:Clock}{hp:List Int}(h:HStl l c hp){e:Evt}(he:c.agenda.heap[0]?=some e):∃n m:Nat,n<m/\ hp[n]?=some (dV c e).high/\ hp[m]?=some (dV c e).low/\ yT hp (dV c e)=fq hp n m (dV c e).high (dV c e).low:=by
 obtain⟨i,x,hi,_,hce,_⟩:=lO h.ok he;obtain⟨n,m,h1,h2,h3⟩:=Kv (h.sub x (au hi));rw[hce];refine⟨n,m,h1,h2,h3,?_⟩;unfold yT;rw[QR h.nd h2,QR h.nd h3]
def DL {l:List Pt}(hl:okF l){t:Rt}:∀(n:Nat) (c:Clock) (hp:List Int) (out:List Crt),HStl l c hp->mh c.now l hp<n->∃r,oo t n c hp out=some r
 |0,c,hp,out,_,h=>by omega
 |n+1,c,hp,out,h,hn=>by
  unfold oo;cases he:er c t with
  |none=>exact⟨_,rfl⟩
  |some e=>
   simp only;obtain⟨i,j,q1,q2,q3,q4⟩:=wB h (dU he).1;rw[q4];cases hd:dt (cX (fq hp i j (dV c e).high (dV c e).low)) (di c e) with
   |none=>exact⟨_,rfl⟩
   |some d=>
    obtain⟨s1,s2,s3⟩:=yc hl h (dU he).1 q1 q2 q3 hd;exact DL hl n d _ _ s1 (by omega)
def I8 {l:List Pt}(hl:okF l){t:Rt}:∀(n:Nat) (c:Clock) (hp:List Int) (out:List Crt) (d:Clock) (hq:List Int) (out':List Crt),HStl l c hp->crs c.now t<=0->oo t n c hp out=some (some (d,hq,out'))->HStl l d hq/\ crs d.now t<=0/\ iy d t=false/\ out'.length<=out.length+n
 |0,c,hp,out,d,hq,out',_,_,h=>by cases h
 |n+1,c,hp,out,d,hq,out',h,hp0,ha=>by
  unfold oo at ha;cases he:er c t with
  |none=>
   rw[he] at ha;cases ha;exact⟨h,hp0,mf he,by omega⟩
  |some e=>
   rw[he] at ha;simp only at ha;obtain⟨i,j,q1,q2,q3,q4⟩:=wB h (dU he).1;rw[q4] at ha;cases hd:dt (cX (fq hp i j (dV c e).high (dV c e).low)) (di c e) with
   |none=>rw[hd] at ha;cases ha
   |some d0=>
    rw[hd] at ha;simp only at ha;obtain⟨s1,s2,s3⟩:=yc hl h (dU he).1 q1 q2 q3 hd;obtain⟨r1,r2,r3,r4⟩:=I8 hl n d0 _ _ d hq out' s1 (by rw[s2];exact(dU he).2.1) ha;exact⟨r1,r2,r3,by rw[aC,aK] at r4;omega⟩
def I9 {f:Int->Nat}{B n:Nat}:∀(hp:List Int) (s:Nat),(∀x∈hp,f x<=B)->s+hp.length<=n->nf f hp s<=hp.length*(n*B)
 |[],s,_,_=>by simp[nf]
 |x::xs,s,h,hn=>by
  rw[aV] at hn;have ih:=I9 (f:=f) (B:=B) (n:=n) xs (s+1) (λy hy=>h y (aN _ hy)) (by omega);have m1:s*f x<=n*B:=ee (by omega) (h x (bR ..));simp[nf];rw[b6,tO];omega
def QS {l:List Pt}(h:okF l){t:Rt}{hp:List Int}(hn:hp.length=l.length)(hf:eI t l<5000):mh t l hp<30000000:=by
 have h64:=h.1;have w:=I9 (f:=led t l) (B:=64) (n:=64) hp 0 (λx _=>bz gX h64) (by omega);have f1:hp.length*l.length<=64*64:=ee (by omega) h64;have f2:hp.length*l.length*eI t l<=64*64*5000:=ee f1 (by omega);unfold mh;omega
end Go.Proofs.YtoeigdpfcnaaeaaGreat
