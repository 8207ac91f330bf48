import Derived.Test.YtfghdmmapmdcgaaGreatE1
import Derived.Test.YtfghdmmapmdcgaaGreatP1
import Derived.Test.YtfghdmmapmdcgaaGreatC3
import Derived.Test.YtfghdmmapmdcgaaGreatC2
set_option linter.unusedVariables false
set_option linter.unusedSimpArgs false
set_option linter.defProp false
noncomputable section
namespace Go.Proofs.YtfghdmmapmdcgaaGreat
open Go.Sym Bnd
def giveS (s:Slots)(i:Nat):Slots:=⟨s.uses,s.used.set i false,s.free++[(i:Int)]⟩
theorem In {s:Slots}(h:SFine s){i:Nat}(hu:s.used[i]?=some true):SFine (giveS s i):=by
 obtain⟨n1,n2,len,nd,rng,used,uses⟩:=h;have hi:=aP hu;have hni:(i:Int)∉s.free:=fun hm=>by
  have:=used i (by omega);rw[hu,decide_eq_true hm] at this;cases this
 unfold giveS;refine⟨n1,n2,by simpa using len,?_,fun x hx=>?_,fun j hj=>?_,fun j v hv=>?_⟩
 ·rw[cU];exact⟨nd,by simp,fun x hx y hy e=>by
   simp only[bm] at hy;subst hy;subst e;exact hni hx⟩
 ·rcases bh.1 hx with h|h
  ·exact rng x h
  ·rw[bm] at h;subst h;simp only;exact⟨by omega,by omega⟩
 ·simp only;by_cases e:i=j
  ·subst e;rw[aC hi];simp
  ·rw[aE e,used j hj];have:((j:Int)∈s.free++[(i:Int)])↔(j:Int)∈s.free:=by
    simp only[bh,bm];exact⟨fun h=>h.resolve_right (by omega),.inl⟩
   simp only[this]
 ·obtain⟨q1,q2,q3⟩:=uses j v hv;refine⟨q1,q2,fun h=>?_⟩;simp only at h;by_cases e:i=j
  ·subst e;rw[aC hi] at h;cases h
  ·rw[aE e] at h;exact q3 h
theorem AX {s:Slots}{hp:List Evt}{wh:List Int}{x:Evt}(h:Plc s (hp++[x]) wh){j:Nat}{u:Int}(hx:x.hnd=⟨(j:Int),u⟩):Plc (giveS s j) hp (wh.set j (-1)):=by
 obtain⟨j',u',e1,e2,e3,e4⟩:=h.at_ hp.length x (by simp);rw[hx] at e1;simp only[Hnd.mk.injEq] at e1;have:j'=j:=by omega
 subst this;have hul:=aP e2;have hw:=aP e4;have U: ∀k:Nat,(s.used.set j' false)[k]?=if k=j' then some false else s.used[k]?:=fun k=>by
  by_cases a:k=j'
  ·subst a;rw[if_pos rfl,aC hul]
  ·rw[if_neg a,aE (fun q=>a q.symm)]
 have W: ∀k:Nat,(wh.set j' (-1))[k]?=if k=j' then some (-1) else wh[k]?:=fun k=>by
  by_cases a:k=j'
  ·subst a;rw[if_pos rfl,aC hw]
  ·rw[if_neg a,aE (fun q=>a q.symm)]
 unfold giveS;refine⟨by simpa using h.len,fun m g hg=>?_,fun k hk=>?_,fun k hk=>?_⟩
 ·have hm:=aP hg;obtain⟨i,v,g1,g2,g3,g4⟩:=h.at_ m g (by rw[aw hm];exact hg);have a:i≠j':=fun q=>by
   subst q;rw[e4] at g4;simp only[aK] at g4;omega
  exact⟨i,v,g1,by simp only[U,if_neg a,g2],g3,by simp only[W,if_neg a,g4]⟩
 ·simp only[U] at hk;by_cases a:k=j'
  ·subst a;rw[if_pos rfl] at hk;cases hk
  ·rw[if_neg a] at hk;obtain⟨m,g,v,g1,g2,g3,g4⟩:=h.of_ k hk;have hm:=aP g2;rw[an,az] at hm;have b:m≠hp.length:=fun q=>by
    subst q;rw[bg (am _),fC] at g2;simp only[cL,aK] at g2;subst g2;rw[hx] at g4;simp only[Hnd.mk.injEq] at g4;omega
   exact⟨m,g,v,by simp only[W,if_neg a,g1],by rw[aw (by omega)] at g2;exact g2,g3,g4⟩
 ·simp only[U] at hk;by_cases a:k=j'
  ·subst a;simp only[W,if_true]
  ·rw[if_neg a] at hk;simp only[W,if_neg a];exact h.off k hk
def kid (hp:List Evt)(i:Nat):Nat:=match hp[2*i+1]?,hp[2*i+2]? with
 |some a,some b=>if evLess b a=true then 2*i+2 else 2*i+1
 |_,_=>2*i+1
theorem kQ (hp:List Evt)(i:Nat):kid hp i=2*i+1∨kid hp i=2*i+2:=by
 unfold kid;split
 ·split<;>simp
 ·simp
theorem O3 {hp:List Evt}{i:Nat}{x:Evt}:kid (hp.set i x) i=kid hp i:=by
 unfold kid;rw[aE (by omega),aE (by omega)]
theorem Io {hp:List Evt}{i c:Nat}{e k:Evt}(hc:c=2*i+1∨c=2*i+2)(he:hp[c]?=some e)(hk:hp[kid hp i]?=some k):evLess e k=false:=by
 have irr: ∀x:Evt,evLess x x=false:=fun x=>by
  cases h:evLess x x with
  |false=>rfl
  |true=>have:=evLess_asymm h;rw[h] at this;cases this
 unfold kid at hk;split at hk
 ·rename_i a b ha hb;split at hk
  ·rename_i hl;rw[hb] at hk;cases hk;rcases hc with rfl|rfl
   ·rw[ha] at he;cases he;exact evLess_asymm hl
   ·rw[hb] at he;cases he;exact irr _
  ·rename_i hl;rw[ha] at hk;cases hk;rcases hc with rfl|rfl
   ·rw[ha] at he;cases he;exact irr _
   ·rw[hb] at he;cases he;simpa using hl
 ·rename_i hn;rcases hc with rfl|rfl
  ·rw[he] at hk;cases hk;exact irr _
  ·exact absurd he (fun he=>hn _ _ (hk) he)
def downS:Nat→List Evt→List Int→Nat→List Evt×List Int
 |0,hp,wh,_=>(hp,wh)
 |n+1,hp,wh,i=>match hp[i]?,hp[kid hp i]? with
  |some e,some c=>if evLess c e=true then downS n (swpH hp i (kid hp i) e c) (d9 wh i (kid hp i) e c) (kid hp i) else(hp,wh)
  |_,_=>(hp,wh)
def E8 (hp:List Evt)(i:Nat):Prop:=
 (∀(c:Nat) (e p:Evt),0<c→(c-1)/2≠i→hp[c]?=some e→hp[(c-1)/2]?=some p→evLess e p=false)∧
 ∀(c:Nat) (e p:Evt),0<i→0<c→(c-1)/2=i→hp[c]?=some e→hp[(i-1)/2]?=some p→evLess e p=false
theorem O4 {hp:List Evt}{i:Nat}{e c:Evt}(ho:E8 hp i)(hi:hp[i]?=some e)(hk:hp[kid hp i]?=some c)(hl:evLess c e=true):E8 (swpH hp i (kid hp i) e c) (kid hp i):=by
 obtain⟨o1,o2⟩:=ho;have G:=gH hi hk;have ko:=kQ hp i;have kl:=fun(d:Nat) (g:Evt) (hd:d=2*i+1∨d=2*i+2) (hg:hp[d]?=some g)=>Io hd hg hk;refine⟨fun d x q d0 dn hx hq=>?_,fun d x q k0 d0 hd hx hq=>?_⟩
 ·rw[G] at hx hq;rw[if_neg dn] at hq;by_cases a:d=kid hp i
  ·rw[if_pos a] at hx;cases hx;rw[if_pos (by omega)] at hq;cases hq;exact evLess_asymm hl
  ·rw[if_neg a] at hx;by_cases b:d=i
   ·subst b;rw[if_pos rfl] at hx;cases hx;rw[if_neg (by omega)] at hq;exact o2 _ _ _ d0 (by omega) (by omega) hk hq
   ·rw[if_neg b] at hx;by_cases f:(d-1)/2=i
    ·rw[if_pos f] at hq;cases hq;exact kl d x (by omega) hx
    ·rw[if_neg f] at hq;exact o1 d x q d0 f hx hq
 ·rw[G] at hx hq;rw[if_neg (by omega),if_neg (by omega)] at hx;rw[if_neg (by omega),if_pos (by omega)] at hq;cases hq;exact o1 d x c d0 (by omega) hx (by rw[hd];exact hk)
theorem zW {s:Slots}: ∀(n:Nat) (hp:List Evt) (wh:List Int) (i:Nat),hp.length≤n+i→i<hp.length→(∀x∈hp,rok x.time=true)→E8 hp i→Plc s hp wh→Ord (downS n hp wh i).1∧(downS n hp wh i).1.Perm hp∧Plc s (downS n hp wh i).1 (downS n hp wh i).2
 |0,hp,wh,i,hn,hi,hr,ho,hP=>by omega
 |n+1,hp,wh,i,hn,hi,hr,ho,hP=>by
  obtain⟨e,he⟩: ∃e,hp[i]?=some e:=⟨hp[i],ac _⟩;have ko:=kQ hp i;unfold downS;rw[he];cases hk:hp[kid hp i]? with
  |none=>
   simp only;refine⟨fun c x q c0 hx hq=>?_,.refl _,hP⟩;by_cases a:(c-1)/2=i
   ·exfalso;have hc:=aP hx;have h1:hp.length≤kid hp i:=cW.1 hk;have hk':kid hp i=2*i+1∨ ∃a b,hp[2*i+1]?=some a∧hp[2*i+2]?=some b:=by
     unfold kid;split
     ·rename_i a b ha hb;exact .inr ⟨a,b,ha,hb⟩
     ·exact .inl rfl
    rcases hk' with h2|⟨a',b',h3,h4⟩
    ·omega
    ·have:=aP h4;omega
   ·exact ho.1 c x q c0 a hx hq
  |some c=>
   simp only;by_cases hl:evLess c e=true
   ·rw[if_pos hl];have pm:=jm he hk;have hkl:=aP hk;obtain⟨q1,q2,q3⟩:=zW n (swpH hp i (kid hp i) e c) (d9 wh i (kid hp i) e c) (kid hp i) (by rw[pm.length_eq];omega) (by rw[pm.length_eq];exact hkl) (fun x hx=>hr x (pm.mem_iff.1 hx)) (O4 ho he hk hl) (nC hP he hk (by omega));exact⟨q1,q2.trans pm,q3⟩
   ·rw[if_neg hl];refine⟨fun d x q d0 hx hq=>?_,.refl _,hP⟩;by_cases a:(d-1)/2=i
    ·rw[a,he] at hq;cases hq;have h1:=Io (c:=d) (by omega) hx hk;exact j7 (hr x (ah hx)) (hr c (ah hk)) (hr e (ah he)) h1 (by simpa using hl)
    ·exact ho.1 d x q d0 a hx hq
theorem Ip {n:Nat}{hp:List Evt}{wh:List Int}{i:Nat}(h:Ord hp):downS n hp wh i=(hp,wh):=by
 cases n with
 |zero=>rfl
 |succ n=>
  unfold downS;split
  ·rename_i e c he hc;have ko:=kQ hp i;rw[h (kid hp i) c e (by omega) hc (by rw[show(kid hp i-1)/2=i by omega];exact he)]
   rfl
  ·rfl
def downH (x:Evt):Nat→List Evt→List Int→Nat→List Evt×List Int×Nat
 |0,hp,wh,i=>(hp,wh,i)
 |n+1,hp,wh,i=>match hp[kid hp i]? with
  |some c=>if evLess c x=true then downH x n (hp.set i c) (wh.set c.hnd.index.toNat (i:Int)) (kid hp i) else(hp,wh,i)
  |none=>(hp,wh,i)
theorem uS {x:Evt}: ∀(n:Nat) (hp:List Evt) (wh:List Int) (i:Nat),i<hp.length→
  downS n (hp.set i x) (wh.set x.hnd.index.toNat (i:Int)) i=((downH x n hp wh i).1.set (downH x n hp wh i).2.2 x,(downH x n hp wh i).2.1.set x.hnd.index.toNat ((downH x n hp wh i).2.2:Int))
 |0,hp,wh,i,_=>rfl
 |n+1,hp,wh,i,hi=>by
  have hx:(hp.set i x)[i]?=some x:=aC hi;have ko:=kQ hp i;unfold downS downH;rw[hx,O3,aE (by omega)];cases hk:hp[kid hp i]? with
  |none=>rfl
  |some c=>
   simp only;by_cases hc:evLess c x=true
   ·rw[if_pos hc,if_pos hc];have e1:swpH (hp.set i x) i (kid hp i) x c=(hp.set i c).set (kid hp i) x:=by unfold swpH;rw[dY]
    have e2:d9 (wh.set x.hnd.index.toNat (i:Int)) i (kid hp i) x c=(wh.set c.hnd.index.toNat (i:Int)).set x.hnd.index.toNat ((kid hp i:Nat):Int):=by
     unfold d9;by_cases e:x.hnd.index.toNat=c.hnd.index.toNat
     ·simp only[e,dY]
     ·rw[fX _ _ e,dY]
    rw[e1,e2];exact uS n (hp.set i c) (wh.set c.hnd.index.toNat (i:Int)) (kid hp i) (by rw[aB];exact aP hk)
   ·rw[if_neg hc,if_neg hc]
def iX (a:Agenda)(i j:Nat):Agenda:=match a.heap[a.heap.length-1]? with
 |some f=>if i=a.heap.length-1 then⟨giveS a.slots j,a.heap.take (a.heap.length-1),a.wher.set j (-1)⟩ else
  let u:=upS (i+1) ((a.heap.take (a.heap.length-1)).set i f) ((a.wher.set j (-1)).set f.hnd.index.toNat (i:Int)) i
  let d:=downS (a.heap.length-1) u.1 u.2.1 u.2.2
  ⟨giveS a.slots j,d.1,d.2⟩
 |none=>a
theorem rem_ok {a:Agenda}(h:cV a){i j:Nat}{u:Int}{e:Evt}(he:a.heap[i]?=some e)(hh:e.hnd=⟨(j:Int),u⟩):
  cV (iX a i j)∧((iX a i j).heap++[e]).Perm a.heap∧(iX a i j).wher.length=a.wher.length:=by
 have hs:=okR_fine.1 h.1;have hP:=iJ hs h.2.1;have hl:=h.2.1.2.1;have hO:=ord_of h;have hi:=aP he;obtain⟨j',u',e1,e2,e3,e4⟩:=hP.at_ i e he;rw[hh] at e1;simp only[Hnd.mk.injEq] at e1;have:j'=j:=by omega
 subst this;have hs':=In hs e2;obtain⟨hp,f,hq⟩: ∃hp f,a.heap=hp++[f]:=by
  rcases fw a.heap with h|⟨hp,f,h⟩
  ·rw[h] at hi;exact absurd hi (by simp)
  ·exact⟨hp,f,by simpa using h⟩
 have hn:a.heap.length-1=hp.length:=by rw[hq];simp
 have hn':a.heap.length=hp.length+1:=by rw[hq];simp
 have hlast:a.heap[a.heap.length-1]?=some f:=by rw[hn,hq];simp
 have htk:a.heap.take (a.heap.length-1)=hp:=by rw[hn,hq];simp
 have hr: ∀x∈a.heap,EvOk x:=h.2.2.1;have hrk: ∀x∈hp,rok x.time=true:=fun x hx=>(hr x (by rw[hq];simp[hx])).1;have hfr:rok f.time=true:=(hr f (by rw[hq];simp)).1;have fin: ∀(h1:List Evt) (w1:List Int),Ord h1→(h1++[e]).Perm a.heap→Plc (giveS a.slots j') h1 w1→cV ⟨giveS a.slots j',h1,w1⟩∧(h1++[e]).Perm a.heap∧w1.length=a.wher.length:=fun h1 w1 o p q=>by
  have pl:=p.length_eq;rw[an,az] at pl;refine⟨⟨okR_fine.2 hs',of_plc q ?_,fun x hx=>hr x (p.mem_iff.1 (b5 _ hx)),?_,fun c x p' hx hp'=>?_⟩,p,?_⟩
  ·unfold giveS;simp only[an,az];omega
  ·have:=(p.map (·.number)).nodup_iff.2 h.2.2.2.1;rw[dg,cU] at this;exact this.1
  ·exact o (c+1) x p' (by omega) hx (by simpa using hp')
  ·rw[q.len,hP.len];rfl
 unfold iX;rw[hlast];simp only;rw[htk,hn];by_cases hil:i=hp.length
 ·rw[if_pos hil];subst hil;have:f=e:=by rw[hq] at he;simpa using he
  subst this;rw[hq] at hP;refine fin hp _ (fun c x p c0 hx hp'=>?_) (by rw[hq]) (AX hP hh);have hc:=aP hx;exact hO c x p c0 (by rw[hq,aw hc];exact hx) (by rw[hq,aw (by omega)];exact hp')
 ·rw[if_neg hil];have hil:i<hp.length:=by omega
  have hfn:a.heap[hp.length]?=some f:=by rw[hq];simp
  have hei:hp[i]?=some e:=by rw[hq,aw hil] at he;exact he
  have hw:=nC hP he hfn (by omega);obtain⟨jf,uf,f1,f2,f3,f4⟩:=hP.at_ _ f hfn;have hjf:jf≠j':=fun q=>by
   subst q;rw[f4] at e4;simp only[aK] at e4;omega
  have hset:(a.heap.set i f).set hp.length e=hp.set i f++[e]:=by
   rw[hq,oj _ _ hil,m8 _ _ (by simp)];simp
  rw[hset,hh,f1] at hw;simp only[aq] at hw;have hw:=AX hw hh;rw[dY,fX _ _ (by omega)] at hw;rw[f1];simp only[aq];have hpm:(hp.set i f++[e]).Perm a.heap:=by
   rw[←hset];exact jm he hfn
  have G: ∀m,(hp.set i f)[m]?=if m=i then some f else hp[m]?:=fun m=>by
   by_cases q:m=i
   ·subst q;rw[if_pos rfl,aC hil]
   ·rw[if_neg q,aE (fun e=>q e.symm)]
  have H: ∀{m:Nat} {x:Evt},hp[m]?=some x→a.heap[m]?=some x:=fun{m x} hx=>by rw[hq,aw (aP hx)];exact hx
  have hrs: ∀x∈hp.set i f,rok x.time=true:=fun x hx=>by
   rcases cg hx with h1|h1
   ·exact hrk x h1
   ·rw[h1];exact hfr
  have her:rok e.time=true:=hrk e (ah hei);have kidp: ∀(c:Nat) (x p:Evt),0<i→0<c→(c-1)/2=i→hp[c]?=some x→hp[(i-1)/2]?=some p→evLess x p=false:=fun c x p i0 c0 hc hx hp'=>
   j7 (hrk x (ah hx)) her (hrk p (ah hp')) (hO c x e c0 (H hx) (by rw[hc];exact he)) (hO i e p i0 he (H hp'))
  have other: ∀(c:Nat) (x p:Evt),0<c→c≠i→(c-1)/2≠i→(hp.set i f)[c]?=some x→(hp.set i f)[(c-1)/2]?=some p→evLess x p=false:=fun c x p c0 cn pn hx hp'=>by
   rw[G,if_neg cn] at hx;rw[G,if_neg pn] at hp';exact hO c x p c0 (H hx) (H hp')
  have hfi:(hp.set i f)[i]?=some f:=by rw[G,if_pos rfl]
  have hlen:(hp.set i f).length=hp.length:=aB;by_cases hc: ∃p,0<i∧hp[(i-1)/2]?=some p∧evLess f p=true
  ·obtain⟨p,i0,hpp,hfp⟩:=hc;obtain⟨q1,q2,q3,_,_⟩:=ru (s:=giveS a.slots j') (i+1) (hp.set i f) _ i (by omega) (by omega) hrs ⟨fun c x q c0 cn hx hq'=>by
    by_cases a1:(c-1)/2=i
    ·rw[G,if_pos a1] at hq';cases hq';rw[G,if_neg cn] at hx;exact evLess_ge hfr (hrk p (ah hpp)) (hrk x (ah hx)) hfp (kidp c x p i0 c0 a1 hx hpp)
    ·exact other c x q c0 cn a1 hx hq',fun c x q i0 c0 hc hx hq'=>by
    rw[G,if_neg (by omega)] at hx;rw[G,if_neg (by omega)] at hq';exact kidp c x q i0 c0 hc hx hq'⟩ hw
   rw[Ip q1];exact fin _ _ q1 ((q2.append_right [e]).trans hpm) q3
  ·have hu:upS (i+1) (hp.set i f) ((a.wher.set j' (-1)).set jf (i:Int)) i=(hp.set i f,(a.wher.set j' (-1)).set jf (i:Int),i):=by
    unfold upS;rw[hfi];cases hpp:(hp.set i f)[(i-1)/2]? with
    |none=>rfl
    |some p=>
     simp only;rw[if_neg];rintro⟨i0,hfp⟩;rw[G,if_neg (by omega)] at hpp;exact hc ⟨p,i0,hpp,hfp⟩
   rw[hu];obtain⟨q1,q2,q3⟩:=zW (s:=giveS a.slots j') hp.length (hp.set i f) _ i (by omega) (by omega) hrs ⟨fun c x q c0 cn hx hq'=>by
    by_cases a1:c=i
    ·subst a1;rw[hfi] at hx;cases hx;rw[G,if_neg (by omega)] at hq';cases hl':evLess f q with
     |false=>rfl
     |true=>exact absurd ⟨q,c0,hq',hl'⟩ hc
    ·exact other c x q c0 a1 cn hx hq',fun c x q i0 c0 hc hx hq'=>by
    rw[G,if_neg (by omega)] at hx;rw[G,if_neg (by omega)] at hq';exact kidp c x q i0 c0 hc hx hq'⟩ hw
   exact fin _ _ q1 ((q2.append_right [e]).trans hpm) q3
theorem iy {c:Certs}:bW c↔c.list.length≤200∧0≤c.next∧c.next≤1000000∧(∀h∈c.list,h.cert.ok∧0≤h.number∧h.number<c.next)∧c.list.Pairwise fun g h=>g.number<h.number∧g.cert≠h.cert:=by
 constructor
 ·intro hc;have hc':=hc;obtain⟨h1,h2,h3,h4⟩:=hc';refine⟨h1,h2,h3,fun h hh=>?_,?_⟩
  ·obtain⟨i,hi⟩:=aA.1 hh;obtain⟨q1,q2,q3,_⟩:=h4 i h hi;exact⟨q1,q2,q3⟩
  ·rw[cX];intro i j hi hj hij;exact⟨held_lt hc j i _ _ hij (ac hi) (ac hj),(h4 j _ (ac hj)).2.2.2.2 i hij _ (ac hi)⟩
 ·rintro⟨h1,h2,h3,h4,h5⟩;rw[cX] at h5;refine⟨h1,h2,h3,fun i h hi=>?_⟩;obtain⟨q1,q2,q3⟩:=h4 h (ah hi);have pw: ∀k,k<i→ ∀g,c.list[k]?=some g→g.number<h.number∧g.cert≠h.cert:=fun k hk g hg=>by
   obtain⟨a1,a2⟩:=aj.1 hi;obtain⟨b1,b2⟩:=aj.1 hg;have:=h5 k i b1 a1 hk;rw[a2,b2] at this;exact this
  exact⟨q1,q2,q3,fun g h0 hg=>(pw (i-1) (by omega) g hg).1,fun k hk g hg=>(pw k hk g hg).2⟩
def DueR (c:Clock)(d:Due)(x:Held):Prop:=d.number=x.number∧(⟨(fT c x.cert).1,x.number,d.hnd⟩:Evt)∈c.agenda.heap
open Classical in
theorem fold_iff {c:Clock}(ha:cV c.agenda): ∀(l:List Held) (left:List Due),foldO (dueStep c) left l=some []↔(∀x∈l,knownH c.pts x=true)∧F2 (DueR c) left (l.filter fun x=>(fT c x.cert).2)
 |[],left=>by
  constructor
  ·intro h;have h:some left=some []:=h;cases h;exact⟨fun _ h=>(by cases h),.nil⟩
  ·rintro⟨_,h⟩;cases h;rfl
 |x::l,left=>by
  rw[foldO];have ds:dueStep c left x=if knownH c.pts x=true then(if(fT c x.cert).2=true then(match left with
    |[]=>none
    |d::rest=>if DueAt c.agenda d x.number (fT c x.cert).1 then some rest else none) else some left) else none:=rfl
  rw[ds];have fp:(fT c x.cert).2=true→(x::l).filter (fun x=>(fT c x.cert).2)=x::l.filter fun x=>(fT c x.cert).2:=fun h=>k9 (p:=fun x:Held=>(fT c x.cert).2) h;have fn:¬(fT c x.cert).2=true→(x::l).filter (fun x=>(fT c x.cert).2)=l.filter fun x=>(fT c x.cert).2:=fun h=>k8 (p:=fun x:Held=>(fT c x.cert).2) h;by_cases h1:knownH c.pts x=true
  rotate_left
  ·rw[if_neg h1];exact⟨fun h=>(by cases h),fun h=>absurd (h.1 x (bK ..)) h1⟩
  rw[if_pos h1];by_cases h2:(fT c x.cert).2=true
  ·rw[if_pos h2,fp h2];cases left with
   |nil=>exact⟨fun h=>(by cases h),fun h=>(by cases h.2)⟩
   |cons d rest=>
    simp only;by_cases h3:DueAt c.agenda d x.number (fT c x.cert).1
    ·rw[if_pos h3];simp only;rw[fold_iff ha l rest];constructor
     ·rintro⟨a1,a2⟩;exact⟨fun y hy=>(aT.1 hy).elim (fun e=>e▸h1) (a1 y),.cons ((due_iff ha).1 h3) a2⟩
     ·rintro⟨a1,a2⟩;cases a2 with
      |cons _ a2=>exact⟨fun y hy=>a1 y (aF _ hy),a2⟩
    ·rw[if_neg h3];refine⟨fun h=>(by cases h),fun h=>?_⟩;cases h.2 with
     |cons a _=>exact absurd ((due_iff ha).2 a) h3
  ·rw[if_neg h2,fn h2];simp only;rw[fold_iff ha l left];exact⟨fun⟨a1,a2⟩=>⟨fun y hy=>(aT.1 hy).elim (fun e=>e▸h1) (a1 y),a2⟩,fun⟨a1,a2⟩=>⟨fun y hy=>a1 y (aF _ hy),a2⟩⟩
theorem t8 {α β:Type}{R:α→β→Prop}{f:α→Bool}{g:β→Bool}(h: ∀a b,R a b→f a=g b): ∀{xs:List α} {ys:List β},F2 R xs ys→F2 R (xs.filter f) (ys.filter g)
 |[],_,.nil=> .nil
 |a::xs,b::ys,.cons r t=>by
  rw[bE,bE,←h a b r];cases f a with
  |true=>exact .cons r (t8 h t)
  |false=>exact t8 h t
theorem fu {c:Clock}:ClkOk c↔rok c.now=true∧okF c.pts∧bW c.certs∧cV c.agenda∧c.agenda.wher.length=200∧c.agenda.heap.length=c.due.length∧(∀x∈c.certs.list,knownH c.pts x=true)∧F2 (DueR c) c.due (c.certs.list.filter fun x=>(fT c x.cert).2):=by
 constructor
 ·rintro⟨h1,h2,h3,h4,h5,h6,h7⟩;exact⟨h1,h2,h3,h4,h5,h6,(fold_iff h4 _ _).1 h7⟩
 ·rintro⟨h1,h2,h3,h4,h5,h6,h7⟩;exact⟨h1,h2,h3,h4,h5,h6,(fold_iff h4 _ _).2 h7⟩
def isNot (n:Int)(m:Int):Bool:=!decide (m=n)
def dropA (c:Clock)(n:Int):Agenda:=match c.due.find? fun d=>decide (d.number=n) with
 |some d=>iX c.agenda ((c.agenda.wher[d.hnd.index.toNat]?).getD 0).toNat d.hnd.index.toNat
 |none=>c.agenda
def dG (c:Clock)(n:Int):Clock:=⟨c.now,c.pts,⟨c.certs.next,c.certs.list.filter fun x=>isNot n x.number⟩,dropA c n,c.due.filter fun d=>isNot n d.number⟩
theorem s9 {c:Clock}(h:ClkOk c){d:Due}(hd:d∈c.due): ∃(i j:Nat) (u:Int) (e:Evt),c.agenda.wher[j]?=some (i:Int)∧c.agenda.heap[i]?=some e∧e.hnd=⟨(j:Int),u⟩∧d.hnd=⟨(j:Int),u⟩∧e.number=d.number∧c.agenda.slots.used[j]?=some true∧c.agenda.slots.uses[j]?=some u:=by
 obtain⟨r1,r2⟩:=qE h.2.2.2.1 _ _ h.2.2.2.2.2.2;obtain⟨t,ht⟩:=r2 d hd;obtain⟨i,hi⟩:=aA.1 ht;obtain⟨j,u,e1,e2,e3,e4⟩:=(iJ (okR_fine.1 h.2.2.2.1.1) h.2.2.2.1.2.1).at_ i _ hi;exact⟨i,j,u,_,e4,hi,e1,e1,rfl,e2,e3⟩
theorem AY {c:Clock}(h:ClkOk c)(n:Int):ClkOk (dG c n):=by
 have hnum:=lx h;have hnd:(c.due.map (·.number)).Nodup:=hnum.1.nodup_iff.2 h.2.2.2.1.2.2.2.1;have hat:=fun d hd=>s9 h (d:=d) hd;obtain⟨h1,h2,h3,h4,h5,h6,h7,h8⟩:=fu.1 h;have hag:cV (dropA c n)∧(dropA c n).wher.length=200∧(dropA c n).heap.length=(c.due.filter fun d=>isNot n d.number).length∧ ∀e∈c.agenda.heap,e.number≠n→e∈(dropA c n).heap:=by
  unfold dropA;cases hf:c.due.find? fun d=>decide (d.number=n) with
  |none=>
   have hall: ∀d∈c.due,¬d.number=n:=fun d hd=>by simpa using dW.1 hf d hd
   refine⟨h4,h5,?_,fun e he _=>he⟩;rw[di.2 (fun d hd=>by unfold isNot;simp[hall d hd])];exact h6
  |some d=>
   have hd:=cf hf;have hdn:d.number=n:=by simpa using d5 hf
   obtain⟨i,j,u,e,w1,w2,w3,w4,w5,_⟩:=hat d hd;simp only;rw[w4];simp only[aq];rw[w1];simp only[bj,aq];obtain⟨q1,q2,q3⟩:=rem_ok h4 w2 w3;refine⟨q1,q3.trans h5,?_,fun e' he hne=>?_⟩
   ·have a1:=q2.length_eq;rw[an,az,h6] at a1;have a2:(c.due.filter fun d=>isNot n d.number).length+1=c.due.length:=by
     have:=kB (fun d:Due=>isNot n d.number) c.due;have a3:(c.due.filter fun d=>!isNot n d.number)=[d]:=by
      have sub:((c.due.filter fun d=>!isNot n d.number).map (·.number)).Nodup:=(gc.map _).nodup hnd;have all: ∀x∈c.due.filter (fun d=>!isNot n d.number),x.number=n:=fun x hx=>by
       have:=(aX.1 hx).2;unfold isNot at this;simpa using this
      have mem:d∈c.due.filter (fun d=>!isNot n d.number):=aX.2 ⟨hd,by unfold isNot;simp[hdn]⟩;generalize c.due.filter (fun d=>!isNot n d.number)=l at sub all mem
      match l,sub,all,mem with
      |[],_,_,mem=>cases mem
      |[x],_,_,mem=>rw[bm] at mem;rw[mem]
      |x::y::r,sub,all,_=>
       exfalso;rw[bz,bz,bA] at sub;exact sub.1 (by rw[all x (by simp),all y (by simp)];simp)
     rw[a3,az] at this;omega
    omega
   ·have:=q2.mem_iff.2 he;rcases bh.1 this with h|h
    ·exact h
    ·rw[bm] at h;exact absurd (by rw[h,w5,hdn]) hne
 obtain⟨g1,g2,g3,g4⟩:=hag;refine fu.2 ⟨h1,h2,?_,g1,g2,g3,fun x hx=>h7 x (aX.1 hx).1,?_⟩
 ·obtain⟨c1,c2,c3,c4,c5⟩:=iy.1 h3;exact iy.2 ⟨bc (fx ..) c1,c2,c3,fun x hx=>c4 x (aX.1 hx).1,c5.sublist gc⟩
 ·have:((dG c n).certs.list.filter fun x=>(fT (dG c n) x.cert).2)=(c.certs.list.filter fun x=>(fT c x.cert).2).filter fun x=>isNot n x.number:=by
   show(c.certs.list.filter fun x=>isNot n x.number).filter (fun x=>(fT c x.cert).2)=_
   rw[jL,jL];exact congrArg (fun p=>c.certs.list.filter p) (funext fun x=>Bool.and_comm ..)
  rw[this];have h9:=t8 (f:=fun d:Due=>isNot n d.number) (g:=fun x:Held=>isNot n x.number) (fun a b r=>by rw[r.1]) h8;have up: ∀{xs:List Due} {ys:List Held},F2 (DueR c) xs ys→(∀b∈ys,isNot n b.number=true)→F2 (DueR (dG c n)) xs ys:=by
   intro xs ys k;induction k with
   |nil=>exact fun _=> .nil
   |cons r t ih=>
    intro hb;refine .cons ⟨r.1,g4 _ r.2 ?_⟩ (ih fun b h=>hb b (aF _ h));have:=hb _ (bK ..);unfold isNot at this;simpa using this
  exact up h9 fun b hb=>(aX.1 hb).2
theorem Iq {x y:Rt}(hx:rok x=true)(hy:rok y=true)(h:crs x y=0):x=y:=by
 obtain⟨a,b⟩:=x;obtain⟨c,d⟩:=y;unfold rok at hx hy;simp only[au,decide_eq_true_eq] at hx hy;obtain⟨⟨hb,_⟩,hx⟩:=hx;obtain⟨⟨hd,_⟩,hy⟩:=hy;unfold crs at h;simp only at h;have e:a*d=c*b:=by omega
 have en:a.natAbs*d.natAbs=c.natAbs*b.natAbs:=by rw[←js,←js,e]
 have d1:b.natAbs∣d.natAbs:=(iC (Nat.Coprime.symm hx) (by rw[en];exact Nat.dvd_mul_left ..));have d2:d.natAbs∣b.natAbs:=(iC (Nat.Coprime.symm hy) (by rw[←en];exact Nat.dvd_mul_left ..));have d3:=Nat.dvd_antisymm d1 d2;have:b=d:=by omega
 subst this;have:=Int.eq_of_mul_eq_mul_right (by omega) e;rw[this]
theorem Ir {n d:Int}(hd:0<d): ∃g:Int,0<g∧n=(mkR n d).num*g∧d=(mkR n d).den*g:=by
 have hg:0<Nat.gcd n.natAbs d.natAbs:=dC _ (by omega);have e1:=Nat.div_mul_cancel (Nat.gcd_dvd_left n.natAbs d.natAbs);have e2:=Nat.div_mul_cancel (Nat.gcd_dvd_right n.natAbs d.natAbs);refine⟨(Nat.gcd n.natAbs d.natAbs:Int),by omega,?_,?_⟩
 ·unfold mkR;simp only;by_cases h:n<0
  ·rw[if_pos (by simp[h];omega),Int.neg_mul,←eT,e1];omega
  ·rw[if_neg (by simp[h];omega),←eT,e1];omega
 ·unfold mkR;simp only;rw[←eT,e2];omega
theorem pE {hi lo:Pt}(h:hi.b<lo.b): ∃g:Int,0<g∧ ∀t,far t hi lo= -(crs t (mkR (hi.a-lo.a) (lo.b-hi.b))*g):=by
 obtain⟨g,g0,e1,e2⟩:=Ir (n:=hi.a-lo.a) (d:=lo.b-hi.b) (by omega);refine⟨g,g0,fun t=>?_⟩;generalize mkR (hi.a-lo.a) (lo.b-hi.b)=s at e1 e2;unfold far crs;rw[e1,show hi.b-lo.b= -(s.den*g) by omega,Int.sub_mul,Int.neg_mul,Int.mul_right_comm s.num,fv t.num s.den,Int.mul_right_comm s.den]
 omega
theorem pF {t t':Rt}{hi lo:Pt}(o1:hi.ok=true)(o2:lo.ok=true)(hne:hi.id≠lo.id)(hr:rok t=true)(hr':rok t'=true)(h:crs t t'≤0):
  ((failT t hi lo).2=true→crs t' (failT t hi lo).1≤0→failT t' hi lo=failT t hi lo)∧((failT t hi lo).2=false→failT t' hi lo=failT t hi lo):=by
 have b1:=Pt.bnd o1;have b2:=Pt.bnd o2;unfold failT;by_cases h1:leads t lo hi=true
 ·rw[if_pos h1];refine⟨fun _ k=>?_,fun h=>by cases h⟩;have:t=t':=Iq hr hr' (by simp only at k;have:=crs_neg t t';omega);subst this;rw[if_pos h1]
 ·rw[if_neg h1];by_cases h2:hi.b<lo.b
  ·rw[if_pos h2];refine⟨fun _ k=>?_,fun h=>by cases h⟩;simp only at k;obtain⟨g,g0,hg⟩:=pE h2;have hs:=(Fr (n:=hi.a-lo.a) (d:=lo.b-hi.b) ⟨by omega,by omega⟩ ⟨by omega,by omega⟩ (by omega)).1;have ft:=hg t';generalize mkR (hi.a-lo.a) (lo.b-hi.b)=s at ft hs k;have fn:=iw t' hi lo;by_cases k0:crs t' s=0
   ·have:t'=s:=Iq hr' hs k0;rw[k0,i7] at ft;rw[if_pos (leads_iff.2 (.inr ⟨by omega,.inl h2⟩)),this]
   ·have:crs t' s*g<0:=dz (by omega) g0;rw[if_neg];intro hl;rcases leads_iff.1 hl with q|⟨q,_⟩<;>omega
  ·rw[if_neg h2];refine⟨fun h=>(by cases h),fun _=>?_⟩;rw[if_neg];intro hl;have td:=dJ hr;have td':=dJ hr';have e:far t' lo hi*t.den=far t lo hi*t'.den+(lo.b-hi.b)*(-crs t t'):=by
    unfold far crs;generalize lo.a-hi.a=A;generalize lo.b-hi.b=B;simp only[l6,Int.mul_neg,Int.mul_sub,Int.mul_assoc];rw[fv t.den t'.den,fv t.num t'.den];have:t'.den*t.num=t.num*t'.den:=fv ..;omega
   have n1:(lo.b-hi.b)*(-crs t t')≤0:=cD (by omega) (by omega);have f1:far t lo hi≤0:=by
    apply km.1;intro q;exact h1 (leads_iff.2 (.inl q))
   have n2:far t lo hi*t'.den≤0:=cD f1 (by omega);rcases leads_iff.1 hl with q|⟨q,q2⟩
   ·have:=l7 q (show 0<t.den by omega)
    omega
   ·rw[q,i7] at e;have z:far t lo hi*t'.den=0:=by omega
    have z:far t lo hi=0:=(lM.1 z).resolve_right (by omega);exact h1 (leads_iff.2 (.inr ⟨z,q2⟩))
def atC (c:Clock)(t:Rt):Clock:=⟨t,c.pts,c.certs,c.agenda,c.due⟩
theorem Lu {c:Clock}(h:ClkOk c){t:Rt}(hr:rok t=true)(hl:crs c.now t≤0){x:Held}(hx:x∈c.certs.list):((fT c x.cert).2=true→crs t (fT c x.cert).1≤0→fT (atC c t) x.cert=fT c x.cert)∧((fT c x.cert).2=false→fT (atC c t) x.cert=fT c x.cert):=by
 obtain⟨h1,h2,h3,h4,h5,h6,h7,h8⟩:=fu.1 h;have hk:=h7 x hx;unfold knownH at hk;rw[au] at hk;obtain⟨k1,k2⟩:=hk;obtain⟨i,p,a1,a2,a3,a4⟩:=cH h2 k1;obtain⟨j,q,b1,b2,b3,b4⟩:=cH h2 k2;have hc:=((iy.1 h3).2.2.2.1 x hx).1;have:=pF (t:=c.now) (t':=t) (hi:=ptOf c.pts x.cert.high) (lo:=ptOf c.pts x.cert.low) (by rw[b4];exact okF_pt h2 b1) (by rw[a4];exact okF_pt h2 a1) (by
  rw[a4,b4];have:=hc.2.2.2.2;omega) h1 hr hl
 exact this
theorem Tv {c:Clock}(h:ClkOk c){t:Rt}(hr:rok t=true)(hl:crs c.now t≤0)(he: ∀e∈c.agenda.heap,crs t e.time≤0):ClkOk (atC c t):=by
 have hf:=fun x hx=>Lu h hr hl (x:=x) hx;obtain⟨h1,h2,h3,h4,h5,h6,h7,h8⟩:=fu.1 h;have ev: ∀{xs:List Due} {ys:List Held},F2 (DueR c) xs ys→ ∀y∈ys,crs t (fT c y.cert).1≤0:=by
  intro xs ys k;induction k with
  |nil=>intro y hy;cases hy
  |cons r t ih=>
   intro y hy;rcases aT.1 hy with e|hy
   ·rw[e];exact he _ r.2
   ·exact ih y hy
 have ev:=ev h8;have same: ∀x∈c.certs.list,fT (atC c t) x.cert=fT c x.cert:=fun x hx=>by
  cases hx2:(fT c x.cert).2 with
  |true=>exact(hf x hx).1 hx2 (ev x (aX.2 ⟨hx,hx2⟩))
  |false=>exact(hf x hx).2 hx2
 have hfil:((atC c t).certs.list.filter fun x=>(fT (atC c t) x.cert).2)=c.certs.list.filter fun x=>(fT c x.cert).2:=by
  show(c.certs.list.filter fun x=>(fT (atC c t) x.cert).2)=_
  exact fo fun x hx=>by rw[same x hx]
 refine fu.2 ⟨hr,h2,h3,h4,h5,h6,h7,?_⟩;rw[hfil];have up: ∀{xs:List Due} {ys:List Held},F2 (DueR c) xs ys→(∀y∈ys,y∈c.certs.list)→F2 (DueR (atC c t)) xs ys:=by
  intro xs ys k;induction k with
  |nil=>exact fun _=> .nil
  |cons r q ih=>
   intro hb;refine .cons ⟨r.1,?_⟩ (ih fun b h=>hb b (aF _ h));rw[same _ (hb _ (bK ..))];exact r.2
 exact up h8 fun y hy=>(aX.1 hy).1
theorem AZ {α β:Type}{R:α→β→Prop}: ∀{xs:List α} {ys:List β},F2 R xs ys→ ∀a∈xs,∃b∈ys,R a b
 |_,_,.nil,_,h=>by cases h
 |_,_,.cons r t,a,h=>by
  rcases aT.1 h with e|h
  ·exact⟨_,bK ..,e▸r⟩
  ·obtain⟨b,h1,h2⟩:=AZ t a h;exact⟨b,aF _ h1,h2⟩
theorem jH {α:Type}{nu:α→Int}{l:List α}(h:(l.map nu).Nodup){a b:α}(ha:a∈l)(hb:b∈l)(e:nu a=nu b):a=b:=by
 obtain⟨i,hi⟩:=aA.1 ha;obtain⟨j,hj⟩:=aA.1 hb;rw[List.Nodup,dE,cX] at h;obtain⟨i1,i2⟩:=aj.1 hi;obtain⟨j1,j2⟩:=aj.1 hj;rcases cq i j with c|c|c
 ·exact absurd (by rw[i2,j2];exact e) (h i j i1 j1 c)
 ·subst c;rw[hi] at hj;cases hj;rfl
 ·exact absurd (by rw[i2,j2];exact e.symm) (h j i j1 i1 c)
theorem E9 {c:Clock}(h:ClkOk c){e:Evt}(he:e∈c.agenda.heap): ∃x∈c.certs.list,x.number=e.number∧fT c x.cert=(e.time,true):=by
 have hn:=(lx h).1;obtain⟨h1,h2,h3,h4,h5,h6,h7,h8⟩:=fu.1 h;have:e.number∈c.due.map (·.number):=hn.mem_iff.2 (aN.2 ⟨e,he,rfl⟩);obtain⟨d,hd,hdn⟩:=aN.1 this;obtain⟨x,hx,r1,r2⟩:=AZ h8 d hd;obtain⟨hx,hf⟩:=aX.1 hx;have:=jH (nu:=fun e:Evt=>e.number) h4.2.2.2.1 r2 he (by simp only;rw[←r1];exact hdn);refine⟨x,hx,by rw[←r1,hdn],?_⟩;rw[←this];exact Prod.ext rfl hf
theorem gy {c:Clock}(h:ClkOk c)(hn:In64 c.now):c6 c:=by
 refine⟨hn,fun e he=>?_⟩;obtain⟨x,hx,_,hf⟩:=E9 h he;have hk:=(fu.1 h).2.2.2.2.2.2.1 x hx;unfold knownH at hk;rw[au] at hk;have:=(mj h.2.1 hn h.1 hk.1 hk.2 (by unfold fT at hf;rw[hf])).2;unfold fT at hf;rw[hf] at this;exact this
theorem tc {c:Clock}(h:ClkOk c){e:Evt}(he:e∈c.agenda.heap):crs c.now e.time≤0:=by
 obtain⟨x,hx,_,hf⟩:=E9 h he;obtain⟨h1,h2,h3,h4,h5,h6,h7,h8⟩:=fu.1 h;have hk:=h7 x hx;unfold knownH at hk;rw[au] at hk;obtain⟨k1,k2⟩:=hk;obtain⟨i,p,a1,a2,a3,a4⟩:=cH h2 k1;obtain⟨j,q,b1,b2,b3,b4⟩:=cH h2 k2;unfold fT at hf;rw[a4,b4] at hf;unfold failT at hf;split at hf
 ·simp only[fY,and_true] at hf;rw[hf];unfold crs;omega
 ·rename_i hl;split at hf
  ·rename_i hb;simp only[fY,and_true] at hf;obtain⟨g,g0,hg⟩:=pE hb;have hg:=hg c.now;rw[hf] at hg;have fn:=iw c.now q p;apply km.1;intro hlt;have:=l7 hlt g0;exact hl (leads_iff.2 (.inl (by omega)))
  ·simp at hf
theorem J8 {a:Agenda}(h:cV a){e:Evt}(he:a.heap[0]?=some e): ∀(i:Nat) (x:Evt),a.heap[i]?=some x→evLess x e=false:=by
 have ho:=ord_of h;have hr:=h.2.2.1;intro i;induction i using Nat.strongRecOn with
 |_ i ih=>
  intro x hx;by_cases h0:i=0
  ·subst h0;rw[he] at hx;cases hx;cases c:evLess e e with
   |false=>rfl
   |true=>have:=evLess_asymm c;rw[c] at this;cases this
  ·have hi:=aP hx;obtain⟨p,hp⟩: ∃p,a.heap[(i-1)/2]?=some p:=⟨a.heap[(i-1)/2]'(by omega),ac _⟩;exact j7 (hr x (ah hx)).1 (hr p (ah hp)).1 (hr e (ah he)).1 (ho i x p (by omega) hx hp) (ih _ (by omega) p hp)
theorem qV {a:Agenda}(h:cV a){e:Evt}(he:a.heap[0]?=some e){x:Evt}(hx:x∈a.heap):crs e.time x.time≤0:=by
 obtain⟨i,hi⟩:=aA.1 hx;have:=J8 h he i x hi;apply km.1;intro hlt;have:evLess x e=true:=j6.2 (.inl (by have:=crs_neg e.time x.time;omega));simp_all
def waits (c:Clock)(t:Rt):Bool:=match c.agenda.heap[0]? with
 |some e=>decide (crs e.time t≤0)
 |none=>false
theorem zX {c:Clock}(h:ClkOk c){t:Rt}(hr:rok t=true)(hw:waits c t=false): ∀e∈c.agenda.heap,crs t e.time≤0:=fun e he=>by
 have h4:=h.2.2.2.1;cases hh:c.agenda.heap[0]? with
 |none=>
  obtain⟨i,hi⟩:=aA.1 he;have:=aP hi;rw[cW] at hh;omega
 |some f=>
  unfold waits at hw;rw[hh] at hw;simp only[decide_eq_false_iff_not] at hw;have h1:=qV h4 hh he;have h2:=crs_neg f.time t;exact(rq (a:=t) (b:=f.time) (c:=e.time) (by have:=dJ hr;omega) (by have:=dJ (h4.2.2.1 f (ah hh)).1;omega) (by have:=dJ (h4.2.2.1 e he).1;omega) (by omega) h1).1
def bY (c:Clock)(e:Evt):Clock:=atC (dG c e.number) e.time
theorem ea {c:Clock}(h:ClkOk c){e:Evt}(he:c.agenda.heap[0]?=some e)(hn:In64 c.now):ClkOk (bY c e)∧In64 (bY c e).now:=by
 have h4:=h.2.2.2.1;have hd:=AY h e.number;have hm:=ah he;refine⟨Tv hd (h4.2.2.1 e hm).1 (tc h hm) fun x hx=>?_,(gy h hn).2 e hm⟩;have:x∈c.agenda.heap:=by
  have hx:x∈(dropA c e.number).heap:=hx;unfold dropA at hx;split at hx
  ·rename_i d hf;obtain⟨m,j,u,g,w1,w2,w3,w4,_⟩:=s9 h (cf hf);rw[w4] at hx;simp only[aq] at hx;rw[w1] at hx;simp only[bj,aq] at hx;exact(rem_ok h4 w2 w3).2.1.mem_iff.1 (b5 _ hx)
  ·exact hx
 exact qV h4 he this
structure CAd (c:Clock)(x:Crt):Prop where
 ok:ClkOk c
 cok:x.ok
 new: ∀g∈c.certs.list,g.cert≠x
 low:inF c.pts x.low=true
 high:inF c.pts x.high=true
def iY (c:Clock)(x:Crt):Prop:=(c.certs.list.length=200∨c.certs.next=1000000)∨((fT c x).2=true∧gf c.agenda.slots=false)
def fk (c:Clock)(x:Crt):Clock:=if(fT c x).2=true then certD c x (frL c) (frI c) ((c.agenda.slots.uses[frI c]?).getD 0) else ly c x
theorem CAd.add {c:Clock}{x:Crt}(h:CAd c x)(hf:¬iY c x):CAdd c x:=by
 have h1:=h.ok.2.2.1.1;have h2:=h.ok.2.2.1.2.2.1;unfold iY at hf;exact⟨h.ok,h.cok,h.new,by omega,by omega,h.low,h.high⟩
theorem uT {s:Slots}(hs:SFine s)(ho:gf s=true): ∃(fr:List Int) (i:Nat) (u:Int),s.free=fr++[(i:Int)]∧s.uses[i]?=some u∧u<1000000:=by
 rcases free_last hs with e|⟨fr,i,u,e,hu,h1,h2⟩
 ·unfold gf at ho;rw[e] at ho;cases ho
 ·rw[nA e hu] at ho;exact⟨fr,i,u,e,hu,by simpa using ho⟩
theorem kR {c:Clock}{x:Crt}(h:CAd c x)(hn:In64 c.now)(hf:¬iY c x):ClkOk (fk c x)∧(fk c x).certs=addC c.certs x∧(fk c x).pts=c.pts∧(fk c x).now=c.now:=by
 have ha:=h.add hf;unfold fk;by_cases h1:(fT c x).2=true
 ·rw[if_pos h1];have ho:gf c.agenda.slots=true:=by
   cases q:gf c.agenda.slots with
   |true=>rfl
   |false=>exact absurd (.inr ⟨h1,q⟩) hf
  obtain⟨fr,i,u,e,hu,hm⟩:=uT (okR_fine.1 h.ok.2.2.2.1.1) ho;have e1:frL c=fr:=by unfold frL;rw[e];simp
  have e2:frI c=i:=by unfold frI;rw[e];simp
  rw[e1,e2,hu];exact⟨I6 ha hn e hu hm h1,rfl,rfl,rfl⟩
 ·rw[if_neg h1];exact⟨I5 ha (by simpa using h1),rfl,rfl,rfl⟩
def dropL (es:List Crt)(l:List Held)(c:Clock):Clock:=l.foldl (fun a x=>if x.cert∈es then a else dG a x.number) c
structure Sim (c a:Clock):Prop where
 ok:ClkOk a
 pts:a.pts=c.pts
 now:a.now=c.now
theorem dk (es:List Crt): ∀(l:List Held) (c:Clock),ClkOk c→Sim c (dropL es l c)∧(dropL es l c).certs.next=c.certs.next∧(dropL es l c).certs.list=c.certs.list.filter fun y=>l.all fun x=>decide (x.cert∈es)||isNot x.number y.number
 |[],c,h=>⟨⟨h,rfl,rfl⟩,rfl,(di.2 fun _ _=>rfl).symm⟩
 |x::l,c,h=>by
  have e:dropL es (x::l) c=dropL es l (if x.cert∈es then c else dG c x.number):=rfl
  rw[e];by_cases hx:x.cert∈es
  ·rw[if_pos hx];obtain⟨q1,q2,q3⟩:=dk es l c h;refine⟨q1,q2,q3.trans ?_⟩;exact fo fun y _=>by rw[bL,decide_eq_true hx,Bool.true_or,cR]
  ·rw[if_neg hx];obtain⟨q1,q2,q3⟩:=dk es l (dG c x.number) (AY h _);refine⟨⟨q1.ok,q1.pts,q1.now⟩,q2,q3.trans ?_⟩;show(c.certs.list.filter fun y=>isNot x.number y.number).filter _=_
   rw[jL];exact fo fun y _=>by rw[bL,decide_eq_false hx,jS,Bool.and_comm]
open Classical in
def addL:List Crt→Clock→Option Clock
 |[],c=>some c
 |x::xs,c=>if(c.certs.list.any fun h=>decide (h.cert=x))=true then addL xs c else if iY c x then none else addL xs (fk c x)
structure EdgF (l:List Pt)(es:List Crt):Prop where
 ok: ∀x∈es,x.ok
 low: ∀x∈es,inF l x.low=true
 high: ∀x∈es,inF l x.high=true
theorem pG {l:List Pt}{es:List Crt}(hE:EdgF l es){c:Clock}(h:ClkOk c)(hp:c.pts=l){x:Crt}(hx:x∈es)(hn:(c.certs.list.any fun h=>decide (h.cert=x))=false):CAd c x:=
 ⟨h,hE.ok x hx,fun g hg e=>by rw[cF] at hn;exact hn g hg (by simp[e]),by rw[hp];exact hE.low x hx,by rw[hp];exact hE.high x hx⟩
theorem uh {l:List Pt}: ∀{es:List Crt} {c d:Clock},EdgF l es→ClkOk c→In64 c.now→c.pts=l→addL es c=some d→Sim c d
 |[],c,d,_,h,_,_,e=>by cases e;exact⟨h,rfl,rfl⟩
 |x::xs,c,d,hE,h,hn,hp,e=>by
  have hE':EdgF l xs:=⟨fun y hy=>hE.ok y (aF _ hy),fun y hy=>hE.low y (aF _ hy),fun y hy=>hE.high y (aF _ hy)⟩;unfold addL at e;split at e
  ·exact uh hE' h hn hp e
  ·rename_i h1;split at e
   ·cases e
   ·rename_i h2;obtain⟨g1,_,g3,g4⟩:=kR (pG hE h hp (bK ..) (by simpa using h1)) hn h2
    have:=uh hE' g1 (by rw[g4];exact hn) (g3.trans hp) e;exact⟨this.ok,this.pts.trans g3,this.now.trans g4⟩
def renewC (es:List Crt)(c:Clock):Option Clock:=addL es (dropL es c.certs.list c)
theorem zY {c d:Clock}{es:List Crt}(hE:EdgF c.pts es)(h:ClkOk c)(hn:In64 c.now)(e:renewC es c=some d):Sim c d:=by
 obtain⟨q1,_,_⟩:=dk es c.certs.list c h;have:=uh (l:=c.pts) hE q1.ok (by rw[q1.now];exact hn) q1.pts e;exact⟨this.ok,this.pts.trans q1.pts,this.now.trans q1.now⟩
theorem qW {α:Type}{p q:α→Bool}: ∀{l:List α},(∀x∈l,p x=true→q x=true)→l.countP p≤l.countP q
 |[],_=>am _
 |a::l,h=>by
  have ih:=qW (p:=p) (q:=q) fun x hx=>h x (aF _ hx);rw[cw,cw];cases hp:p a with
  |false=>simp;omega
  |true=>rw[h a (bK ..) hp];simp;omega
theorem qX {α:Type}{p q:α→Bool}{a:α}: ∀{l:List α},(∀x∈l,p x=true→q x=true)→a∈l→p a=false→q a=true→l.countP p<l.countP q
 |[],_,h,_,_=>by cases h
 |b::l,h,ha,hp,hq=>by
  have h': ∀x∈l,p x=true→q x=true:=fun x hx=>h x (aF _ hx);rw[cw,cw];rcases aT.1 ha with e|ha
  ·subst e;have:=qW h';rw[hp,hq];simp;omega
  ·have:=qX h' ha hp hq;cases hb:p b with
   |false=>simp;omega
   |true=>rw[h b (bK ..) hb];simp;omega
def ga (t:Rt)(z:Pt×Pt):Bool:=leads t z.1 z.2&&(failT t z.1 z.2).2
def ob (l:List Pt):List (Pt×Pt):=l.flatMap fun p=>l.map fun q=>(p,q)
theorem Is {l:List Pt}{p q:Pt}:(p,q)∈ob l↔p∈l∧q∈l:=by
 unfold ob;simp only[fL,aN,fY];constructor
 ·rintro⟨a,ha,b,hb,rfl,rfl⟩;exact⟨ha,hb⟩
 ·rintro⟨hp,hq⟩;exact⟨p,hp,q,hq,rfl,rfl⟩
def flips (t:Rt)(l:List Pt):Nat:=(ob l).countP (ga t)
theorem oc {t:Rt}{p q:Pt}:ga t (p,q)=true↔0<far t p q∧p.b<q.b:=by
 unfold ga failT;simp only[au];constructor
 ·rintro⟨h1,h2⟩;have h3:¬leads t q p=true:=by rw[cZ h1];simp
  rw[if_neg h3] at h2;by_cases hb:p.b<q.b
  ·refine⟨?_,hb⟩;rcases leads_iff.1 h1 with h|⟨_,h|⟨h,_⟩⟩<;>omega
  ·rw[if_neg hb] at h2;cases h2
 ·rintro⟨h1,h2⟩;have hl:leads t p q=true:=leads_iff.2 (.inl h1);have h3:¬leads t q p=true:=by rw[cZ hl];simp
  rw[if_neg h3,if_pos h2];exact⟨hl,rfl⟩
theorem pI {t t':Rt}{p q:Pt}(hr:rok t=true)(hr':rok t'=true)(h:crs t t'≤0)(hf:ga t' (p,q)=true):ga t (p,q)=true:=by
 obtain⟨h1,h2⟩:=oc.1 hf;refine oc.2 ⟨?_,h2⟩;obtain⟨g,g0,hg⟩:=pE h2;have a:=hg t;have b:=hg t';have hd:=dJ hr;have hd':=dJ hr';obtain⟨g',_,e1,e2⟩:=Ir (n:=p.a-q.a) (d:=q.b-p.b) (by omega);have hs:0<(mkR (p.a-q.a) (q.b-p.b)).den:=by
  apply Int.not_le.1;intro hle;have:=cD hle (show 0≤g' by omega)
  omega
 generalize mkR (p.a-q.a) (q.b-p.b)=s at*;have k1:crs t' s<0:=by
  apply Int.not_le.1;intro hle;have:=mT hle (show 0≤g by omega)
  omega
 have k2:=rq (a:=t) (b:=t') (c:=s) (by omega) (by omega) hs h (by omega);have k3:crs t s<0:=by
  have:=k2.2;rcases Int.lt_or_eq_of_le k2.1 with q|q
  ·exact q
  ·have:=(this q).2;omega
 have:=dz k3 g0;omega
theorem J9 {t t':Rt}{l:List Pt}(hr:rok t=true)(hr':rok t'=true)(h:crs t t'≤0):flips t' l≤flips t l:=qW fun z _ hz=>pI (p:=z.1) (q:=z.2) hr hr' h hz
def Holds (c:Clock)(x:Crt):Prop:=leads c.now (ptOf c.pts x.high) (ptOf c.pts x.low)=true
theorem Ka {c:Clock}(h:ClkOk c){e:Evt}(he:e∈c.agenda.heap){x:Held}(hx:x∈c.certs.list)(hf:fT c x.cert=(e.time,true))(hh:Holds c x.cert):flips e.time c.pts<flips c.now c.pts:=by
 obtain⟨h1,h2,h3,h4,h5,h6,h7,h8⟩:=fu.1 h;have hk:=h7 x hx;unfold knownH at hk;rw[au] at hk;obtain⟨k1,k2⟩:=hk;obtain⟨i,p,a1,a2,a3,a4⟩:=cH h2 k1;obtain⟨j,q,b1,b2,b3,b4⟩:=cH h2 k2;unfold Holds at hh;unfold fT at hf;rw[a4,b4] at hf hh;have hq:ga c.now (q,p)=true:=by unfold ga;simp only[hh,hf,bV]
 have hre:=(h4.2.2.1 e he).1;refine qX (a:=(q,p)) (fun z _ hz=>pI (p:=z.1) (q:=z.2) h1 hre (tc h he) hz) (Is.2 ⟨ah b1,ah a1⟩) ?_ hq;obtain⟨f1,f2⟩:=oc.1 hq;obtain⟨g,g0,hg⟩:=pE f2;have h3':¬leads c.now p q=true:=by rw[cZ hh];simp
 unfold failT at hf;rw[if_neg h3',if_pos f2] at hf;simp only[fY,and_true] at hf;have:=hg e.time;rw[hf] at this;have z:crs e.time e.time=0:=by unfold crs;omega
 rw[z,i7] at this;cases hfl:ga e.time (q,p) with
 |false=>rfl
 |true=>have:=(oc.1 hfl).1;omega
theorem It {es:List Crt}{c:Clock}(h:ClkOk c): ∀y∈(dropL es c.certs.list c).certs.list,y.cert∈es:=by
 rw[(dk es c.certs.list c h).2.2];intro y hy;obtain⟨h1,h2⟩:=aX.1 hy;have:=aG.1 h2 y h1;simpa [isNot] using this
theorem qY {l:List Pt}{fs:List Crt}: ∀{es:List Crt} {c d:Clock},EdgF l es→(∀x∈es,x∈fs)→ClkOk c→In64 c.now→c.pts=l→(∀y∈c.certs.list,y.cert∈fs)→addL es c=some d→ ∀y∈d.certs.list,y.cert∈fs
 |[],c,d,_,_,h,_,_,hc,e=>by cases e;exact hc
 |x::xs,c,d,hE,hs,h,hn,hp,hc,e=>by
  have hE':EdgF l xs:=⟨fun y hy=>hE.ok y (aF _ hy),fun y hy=>hE.low y (aF _ hy),fun y hy=>hE.high y (aF _ hy)⟩;have hs': ∀y∈xs,y∈fs:=fun y hy=>hs y (aF _ hy);unfold addL at e;split at e
  ·exact qY hE' hs' h hn hp hc e
  ·rename_i h1;split at e
   ·cases e
   ·rename_i h2;obtain⟨g1,g2,g3,g4⟩:=kR (pG hE h hp (bK ..) (by simpa using h1)) hn h2
    refine qY hE' hs' g1 (by rw[g4];exact hn) (g3.trans hp) (fun y hy=>?_) e;rw[g2] at hy;unfold addC at hy;rcases bh.1 hy with q|q
    ·exact hc y q
    ·rw[bm] at q;subst q;exact hs x (bK ..)
theorem pJ {c d:Clock}{es:List Crt}(hE:EdgF c.pts es)(h:ClkOk c)(hn:In64 c.now)(e:renewC es c=some d): ∀y∈d.certs.list,y.cert∈es:=by
 obtain⟨q1,_,_⟩:=dk es c.certs.list c h;exact qY (l:=c.pts) hE (fun _ h=>h) q1.ok (by rw[q1.now];exact hn) q1.pts (It h) e
def ee (c:Clock)(t:Rt):Option Evt:=match c.agenda.heap[0]? with
 |some e=>if crs e.time t≤0 then some e else none
 |none=>none
theorem cC {c:Clock}{t:Rt}{e:Evt}(h:ee c t=some e):c.agenda.heap[0]?=some e∧crs e.time t≤0∧waits c t=true:=by
 unfold ee at h;unfold waits;split at h
 ·rename_i f hf;split at h
  ·rename_i hc;cases h;rw[hf];exact⟨rfl,hc,decide_eq_true hc⟩
  ·cases h
 ·cases h
theorem nextE_none {c:Clock}{t:Rt}(h:ee c t=none):waits c t=false:=by
 unfold ee at h;unfold waits;cases hf:c.agenda.heap[0]? with
 |none=>rfl
 |some f=>
  rw[hf] at h;simp only at h⊢;split at h
  ·cases h
  ·rename_i hc;exact decide_eq_false hc
def certE (c:Clock)(e:Evt):Crt:=((c.certs.list.find? fun x=>decide (x.number=e.number)).getD ⟨0,⟨0,0⟩⟩).cert
theorem eB {c:Clock}(h:ClkOk c){e:Evt}(he:c.agenda.heap[0]?=some e): ∃(i:Nat) (x:Held),c.certs.list[i]?=some x∧x.number=e.number∧certE c e=x.cert∧fT c x.cert=(e.time,true):=by
 obtain⟨x,hx,hn,hf⟩:=E9 h (ah he);obtain⟨i,hi⟩:=aA.1 hx;refine⟨i,x,hi,hn,?_,hf⟩;unfold certE;cases q:c.certs.list.find? fun x=>decide (x.number=e.number) with
 |none=>
  have:=dW.1 q x hx;simp[hn] at this
 |some y=>
  have h1:=cf q;have h2:y.number=e.number:=by simpa using d5 q
  have:=jH (nu:=fun x:Held=>x.number) (rz h.2.2.1) h1 hx (show y.number=x.number by omega)
  rw[this];rfl
def adv (E:Rt→List Crt)(t:Rt):Nat→Clock→List Crt→Option (Option (Clock×List Crt))
 |0,_,_=>none
 |n+1,c,out=>match ee c t with
  |none=>some (some (c,out))
  |some e=>match renewC (E e.time) (bY c e) with
   |some d=>adv E t n d (out++[certE c e])
   |none=>some none
structure Stl (l:List Pt)(c:Clock):Prop where
 ok:ClkOk c
 n64:In64 c.now
 pts:c.pts=l
 holds: ∀x∈c.certs.list,Holds c x.cert
structure EdgH (l:List Pt)(E:Rt→List Crt):Prop where
 ok: ∀t,rok t=true→In64 t→EdgF l (E t)
 holds: ∀t,rok t=true→In64 t→ ∀x∈E t,leads t (ptOf l x.high) (ptOf l x.low)=true
theorem fK {l:List Pt}{E:Rt→List Crt}(hE:EdgH l E){c d:Clock}(h:Stl l c){e:Evt}(he:c.agenda.heap[0]?=some e)(hd:renewC (E e.time) (bY c e)=some d):Stl l d∧d.now=e.time∧flips d.now l<flips c.now l:=by
 obtain⟨f1,f2⟩:=ea h.ok he h.n64;have hr:=(h.ok.2.2.2.1.2.2.1 e (ah he)).1;have hp:(bY c e).pts=l:=h.pts;have hEd:EdgF (bY c e).pts (E e.time):=by rw[hp];exact hE.ok _ hr f2
 have s:=zY hEd f1 f2 hd;have hm:=pJ hEd f1 f2 hd;have hnow:d.now=e.time:=s.now;refine⟨⟨s.ok,by rw[hnow];exact f2,s.pts.trans hp,fun x hx=>?_⟩,hnow,?_⟩
 ·unfold Holds;rw[hnow,s.pts.trans hp];exact hE.holds _ hr f2 _ (hm x hx)
 ·obtain⟨i,x,hi,_,_,hf⟩:=eB h.ok he;have hx:=ah hi;rw[hnow,←h.pts];exact Ka h.ok (ah he) hx hf (h.holds x hx)
theorem zZ {l:List Pt}{E:Rt→List Crt}(hE:EdgH l E){t:Rt}: ∀(n:Nat) (c:Clock) (out:List Crt),Stl l c→flips c.now l<n→ ∃r,adv E t n c out=some r
 |0,c,out,_,h=>by omega
 |n+1,c,out,h,hn=>by
  unfold adv;cases he:ee c t with
  |none=>exact⟨_,rfl⟩
  |some e=>
   simp only;cases hd:renewC (E e.time) (bY c e) with
   |none=>exact⟨_,rfl⟩
   |some d=>
    obtain⟨s1,s2,s3⟩:=fK hE h (cC he).1 hd;exact zZ hE n d _ s1 (by omega)
theorem z6 {t t':Rt}{l:List Pt}{pl:List Int}(h:okF l)(h1:1≤pl.length)(h2:pl.length≤64)(hv: ∀x∈pl,valK l x)(ho:dO pl)
  (hh: ∀x∈edsB (bracketOf t l pl).wins pl (bracketOf t l pl).wins.length,leads t' (ptOf l x.high) (ptOf l x.low)=true):bracketOf t' l pl=bracketOf t l pl:=by
 obtain⟨b1,b2,b3⟩:=gI (t:=t) h h1 h2 hv ho;have key:gh (wonI t' l) (bracketOf t l pl).wins pl:=fun i hi=>by
  have e:=b3 i hi;have mem:0≤nodeV (bracketOf t l pl).wins pl (2*i+1)∧0≤nodeV (bracketOf t l pl).wins pl (2*i+2)→(⟨nodeV (bracketOf t l pl).wins pl (2*i+1)+nodeV (bracketOf t l pl).wins pl (2*i+2)-nodeV (bracketOf t l pl).wins pl i,nodeV (bracketOf t l pl).wins pl i⟩:Crt)∈edsB (bracketOf t l pl).wins pl (bracketOf t l pl).wins.length:=fun q=>by
   unfold edsB;rw[fL];refine⟨i,bT.2 hi,?_⟩;unfold edB;rw[if_pos q];simp
  generalize nodeV (bracketOf t l pl).wins pl (2*i+1)=a at e mem⊢;generalize nodeV (bracketOf t l pl).wins pl (2*i+2)=b at e mem⊢;rw[e] at mem⊢;unfold wonI at mem⊢;by_cases ha:a<0
  ·rw[if_pos ha,if_pos ha]
  ·rw[if_neg ha] at mem⊢;rw[if_neg ha];by_cases hb:b<0
   ·rw[if_pos hb,if_pos hb]
   ·rw[if_neg hb] at mem⊢;rw[if_neg hb];have m:=hh _ (mem ⟨by omega,by omega⟩);simp only at m;by_cases hl:leads t (ptOf l a) (ptOf l b)=true
    ·rw[if_pos hl] at m⊢;rw[show a+b-a=b by omega] at m
     rw[if_pos m]
    ·rw[if_neg hl] at m⊢;rw[show a+b-b=a by omega] at m
     rw[if_neg (by rw[cZ m];simp)]
 have:=(lK (m:=pl.length-1) b1).2 key;unfold bracketOf at this⊢;simp only at this;rw[this]
theorem Kb {c:Clock}(h:ClkOk c){t:Rt}(hr:rok t=true)(hl:crs c.now t≤0)(hw:waits c t=false){x:Held}(hx:x∈c.certs.list)(hh:Holds c x.cert):leads t (ptOf c.pts x.cert.high) (ptOf c.pts x.cert.low)=true:=by
 obtain⟨h1,h2,h3,h4,h5,h6,h7,h8⟩:=fu.1 h;have hc:=((iy.1 h3).2.2.2.1 x hx).1;have hk:=h7 x hx;unfold knownH at hk;rw[au] at hk;obtain⟨k1,k2⟩:=hk;obtain⟨i,p,a1,a2,a3,a4⟩:=cH h2 k1;obtain⟨j,q,b1,b2,b3,b4⟩:=cH h2 k2;have hne:q.id≠p.id:=by have:=hc.2.2.2.2;omega
 have hf:=Lu h hr hl hx;unfold Holds at hh;rw[a4,b4] at hh⊢;have e1:fT c x.cert=failT c.now q p:=by unfold fT;rw[a4,b4]
 have e2:fT (atC c t) x.cert=failT t q p:=by unfold fT;show failT t (ptOf c.pts x.cert.high) (ptOf c.pts x.cert.low)=_;rw[a4,b4]
 rw[e1,e2] at hf;have n1:¬leads c.now p q=true:=by rw[cZ hh];simp
 rcases leads_total (t:=t) hne with g|g
 ·exact g
 ·exfalso;have f2:failT t q p=(t,true):=by unfold failT;rw[if_pos g]
  cases hq:(failT c.now q p).2 with
  |false=>
   have:=hf.2 hq;rw[f2] at this;rw[←this] at hq;cases hq
  |true=>
   have hfil:x∈c.certs.list.filter fun x=>(fT c x.cert).2:=aX.2 ⟨hx,by rw[e1];exact hq⟩;have ev: ∀{xs:List Due} {ys:List Held},F2 (DueR c) xs ys→ ∀y∈ys,(∃e∈c.agenda.heap,e.time=(fT c y.cert).1):=by
    intro xs ys k;induction k with
    |nil=>intro y hy;cases hy
    |cons r t ih=>
     intro y hy;rcases aT.1 hy with e|hy
     ·rw[e];exact⟨_,r.2,rfl⟩
     ·exact ih y hy
   obtain⟨e,he,het⟩:=ev h8 x hfil;have hlt:crs t e.time<0∨crs t e.time=0:=by have:=zX h hr hw e he;omega
   rw[e1] at het;have hm:=hf.1 hq (by rw[←het];have:=zX h hr hw e he;exact this);rw[f2] at hm;have ht:e.time=t:=by rw[het,←hm]
   have hz:crs e.time t=0:=by rw[ht];unfold crs;omega
   have hmin: ∃f,c.agenda.heap[0]?=some f:=by
    obtain⟨i,hi⟩:=aA.1 he;exact⟨c.agenda.heap[0]'(by have:=aP hi;omega),ac _⟩
   obtain⟨f,hf0⟩:=hmin;have h9:=qV h4 hf0 he;rw[ht] at h9;unfold waits at hw;rw[hf0] at hw;simp only[decide_eq_false_iff_not] at hw;exact hw h9
theorem z7 (t:Rt)(l:List Pt)(p:Pt):topP t l p∈p::l:=by
 rcases topP_mem t l p with h|h
 ·rw[h];simp
 ·simp[h]
theorem Tw (n:Int)(d:Nat):bitI n d=0∨bitI n d=1:=by
 unfold bitI;omega
theorem Iu {t t':Rt}{L:List Pt}: ∀(n:Nat) (l:List Pt) (from':Int) (d:Nat),l.length≤n→Ids l→(∀p∈l,p∈L)→(∀p∈L,p.id=from'→p∉l→ ∀q∈l,True)→
  (∀x∈hangP t l from' d,∀p∈L,∀q∈L,p.id=x.1→q.id=x.2→leads t' q p=true)→
  hangP t' l from' d=hangP t l from' d∧ ∀p l0,l=p::l0→ ∀q∈l,q≠topP t l0 p→leads t' (topP t l0 p) q=true:=by
 intro n;induction n with
 |zero=>
  intro l from' d h _ _ _ _;have hl:l=[]:=bM.1 (by omega);subst hl;exact⟨by unfold hangP;rfl,fun p l0 e=>by cases e⟩
 |succ n ih=>
  intro l from' d h hi hL _ hH;cases l with
  |nil=>exact⟨by unfold hangP;rfl,fun p l0 e=>by cases e⟩
  |cons p l=>
   have htm:=z7 t l p;have hr:=hL _ htm;have hH': ∀b:Int,b=0∨b=1→ ∀x∈hangP t (side (p::l) (topP t l p).id d b) (topP t l p).id (d+1),∀p∈L,∀q∈L,p.id=x.1→q.id=x.2→leads t' q p=true:=fun b hb x hx=>hH x (by
    unfold hangP;refine aF _ (bh.2 ?_);rcases hb with rfl|rfl
    ·exact .inl hx
    ·exact .inr hx)
   have ihb:=fun(b:Int) (hb:b=0∨b=1)=>ih (side (p::l) (topP t l p).id d b) (topP t l p).id (d+1) (by have:=jo (t:=t) (p:=p) (l:=l) (d:=d) (b:=b);simp only[aD] at h;omega) (hi.filter _) (fun q hq=>hL q (aX.1 hq).1) (fun _ _ _ _ _ _=>trivial) (hH' b hb);have all: ∀q∈p::l,q≠topP t l p→leads t' (topP t l p) q=true:=fun q hq hne=>by
    have hid:q.id≠(topP t l p).id:=fun e=>hne (jH (nu:=Pt.id) hi hq htm e);have hb:=Tw q.id d;have hm:q∈side (p::l) (topP t l p).id d (bitI q.id d):=aX.2 ⟨hq,by simp[hid]⟩;have ib:=ihb _ hb;have iH:=hH' _ hb;have hLs: ∀z∈side (p::l) (topP t l p).id d (bitI q.id d),z∈L:=fun z hz=>hL z (aX.1 hz).1;generalize side (p::l) (topP t l p).id d (bitI q.id d)=S at hm ib iH hLs;cases S with
    |nil=>cases hm
    |cons s S=>
     have h1:leads t' (topP t l p) (topP t S s)=true:=iH ((topP t S s).id,(topP t l p).id) (by unfold hangP;exact bK ..) _ (hLs _ (z7 t S s)) _ hr rfl rfl;by_cases e:q=topP t S s
     ·rw[e];exact h1
     ·exact gU h1 (ib.2 s S rfl q hm e)
   have htop:topP t' l p=topP t l p:=by
    by_cases e:topP t' l p=topP t l p
    ·exact e
    ·exfalso;have h1:=all _ (z7 t' l p) e;have h2:=kP (t:=t') l p hi _ htm (fun q=>e q.symm);rw[cZ h1] at h2;cases h2
   refine⟨?_,fun p' l0 e q hq=>?_⟩
   ·unfold hangP;rw[htop,(ihb 0 (.inl rfl)).1,(ihb 1 (.inr rfl)).1]
   ·cases e;exact all q hq
theorem Kc {t t':Rt}{l:List Pt}(h:okF l)(hh: ∀x∈edgesU l (upsO t l),leads t' (ptOf l x.high) (ptOf l x.low)=true):upsO t' l=upsO t l:=by
 have hi:=risen_ids h.2.2;have:hangs t' l=hangs t l:=by
  unfold hangs;refine(Iu (L:=l) l.length l (-1) 0 (am _) hi (fun _ h=>h) (fun _ _ _ _ _ _=>trivial) fun x hx p hp q hq e1 e2=>?_).1;have hm:x∈hangs t l:=hx;obtain⟨i,hpi⟩:=aA.1 hp;obtain⟨j,hqj⟩:=aA.1 hq;have hk:=t6 (ps:=hangs t l) (k:=p.id) (v:=0) ⟨x.2,by rw[e1];exact hm⟩;have he:=jH (nu:=fun x:Int×Int=>x.1) (qh (t:=t) h) hk hm e1;have hu:(upsO t l)[i]?=some q.id:=by
   unfold upsO;rw[aI,hpi,aZ,show luk (hangs t l) p.id 0=x.2 from congrArg Prod.snd he,e2]
  have hb:=Pt.bnd (okF_pt h hqj);have:=hh ⟨p.id,q.id⟩ (nq.2 ⟨i,p,q.id,hpi,hu,hb.1.1,rfl⟩);simp only at this;rw[ptOf_some h hpi,ptOf_some h hqj] at this;exact this
 unfold upsO;rw[this]
end Go.Proofs.YtfghdmmapmdcgaaGreat
namespace Bnd
open Go
section
variable {ld ld':Nat→Nat→Bool}{n:Nat}
structure Rng (ld:Nat→Nat→Bool)(n a b:Nat):Prop where
 le:b≤n
 lo:a=0∨ ∀j,a≤j→j<b→ld (a-1) j=true
 hi:b=n∨ ∀j,a≤j→j<b→ld b j=true
theorem R4 (L:Lin ld n){a b k:Nat}(R:Rng ld n a b)(h:kg ld a b k):IsLo ld k a∧IsHi ld n k b:=by
 obtain⟨h1,h2,h3⟩:=h;refine⟨⟨h1,fun j ha hk=>L.asymm _ _ (h3 j ha (by omega) (by omega)),R.lo.imp_right fun q=>q k h1 h2⟩,⟨h2,R.le,fun j hk hb=>L.asymm _ _ (h3 j (by omega) hb (by omega)),R.hi.imp_right fun q=>q k h1 h2⟩⟩
theorem kS (L:Lin ld n)(L':Lin ld' n){r:Int}{l:List (Int×Int)}(C:gt ld n r l)(H: ∀i j,i<n→Below l i j→ld' j i=true): ∀(d a b k:Nat),b-a≤d→Rng ld n a b→kg ld a b k→kg ld' a b k
 |0,a,b,k,hd,_,h=>by have:=h.1;have:=h.2.1;omega
 |d+1,a,b,k,hd,R,h=>by
  obtain⟨q1,q2⟩:=R4 L R h;obtain⟨h1,h2,h3⟩:=h;have hkn:k<n:=by have:=R.le;omega
  obtain⟨x,hx⟩: ∃x,l[k]?=some x:=⟨l[k]'(by rw[C.2.1];exact hkn),ac _⟩;obtain⟨a',b',c1,c2,c3,c4⟩:=C.2.2 k x hx;rw[mP c1 q1] at c3;rw[hi_uniq c2 q2] at c4;refine⟨h1,h2,fun j ha hb hne=>?_⟩;by_cases hj:j<k
  ·rcases c3 with⟨e,_⟩|⟨m,em,T⟩
   ·omega
   ·have hm:=H m k (by have:=T.2.1;omega) ⟨x,hx,.inl em⟩;have T':=kS L L' C H d a k m (by omega) ⟨by omega,R.lo.imp_right fun q j ha hk=>q j ha (by omega),.inr fun j ha hk=>h3 j ha (by omega) (by omega)⟩ T;by_cases e:j=m
    ·rw[e];exact hm
    ·exact L'.trans _ _ _ hm (T'.2.2 j ha hj e)
  ·rcases c4 with⟨e,_⟩|⟨m,em,T⟩
   ·omega
   ·have hm:=H m k (by have:=T.2.1;have:=R.le;omega) ⟨x,hx,.inr em⟩;have T':=kS L L' C H d (k+1) b m (by omega) ⟨R.le,.inr fun j ha hk=>h3 j (by omega) hk (by omega),R.hi.imp_right fun q j ha hk=>q j (by omega) hk⟩ T;by_cases e:j=m
    ·rw[e];exact hm
    ·exact L'.trans _ _ _ hm (T'.2.2 j (by omega) hb e)
theorem z8 (L:Lin ld n){k a b:Nat}(hk:k<n)(h1:IsLo ld k a)(h2:IsHi ld n k b):Rng ld n a b∧kg ld a b k:=by
 obtain⟨a1,a2,a3⟩:=h1;obtain⟨b1,b2,b3,b4⟩:=h2;have T:kg ld a b k:=⟨a1,b1,fun j ha hb hne=>by
  rcases L.total k j hk (by omega) (fun e=>hne e.symm) with q|q
  ·exact q
  ·exfalso;by_cases hj:j<k
   ·rw[a2 j ha hj] at q;cases q
   ·rw[b3 j (by omega) hb] at q;cases q⟩
 refine⟨⟨b2,a3.imp_right fun q j ha hb=>?_,b4.imp_right fun q j ha hb=>?_⟩,T⟩
 ·by_cases e:j=k
  ·rw[e];exact q
  ·exact L.trans _ _ _ q (T.2.2 j ha hb e)
 ·by_cases e:j=k
  ·rw[e];exact q
  ·exact L.trans _ _ _ q (T.2.2 j ha hb e)
theorem A0 {r:Int}{l:List (Int×Int)}(C:gt ld n r l){k:Nat}(hk:k<n): ∃a b,IsLo ld k a∧IsHi ld n k b:=by
 obtain⟨x,hx⟩: ∃x,l[k]?=some x:=⟨l[k]'(by rw[C.2.1];exact hk),ac _⟩;obtain⟨a,b,c1,c2,_⟩:=C.2.2 k x hx;exact⟨a,b,c1,c2⟩
theorem Aa (L:Lin ld n)(L':Lin ld' n){r:Int}{l:List (Int×Int)}(C:gt ld n r l)(H: ∀i j,i<n→Below l i j→ld' j i=true){m k:Nat}(hm:m<n){a b:Nat}(h1:IsLo ld m a)(h2:IsHi ld n m b)(ha:a≤k)(hb:k<b)(hne:k≠m):ld' m k=true:=by
 obtain⟨R,T⟩:=z8 L hm h1 h2;exact(kS L L' C H _ a b m (am _) R T).2.2 k ha hb hne
theorem Iw (L:Lin ld n)(L':Lin ld' n){r:Int}{l:List (Int×Int)}(C:gt ld n r l)(H: ∀i j,i<n→Below l i j→ld' j i=true):gt ld' n r l:=by
 have link: ∀{a b:Nat} {x:Int},Rng ld n a b→IsLink ld a b x→IsLink ld' a b x:=fun{a b x} R h=>by
  rcases h with h|⟨k,e,T⟩
  ·exact .inl h
  ·exact .inr ⟨k,e,kS L L' C H _ a b k (am _) R T⟩
 refine⟨link ⟨am _,.inl rfl,.inl rfl⟩ C.1,C.2.1,fun k x hx=>?_⟩;obtain⟨a,b,c1,c2,c3,c4⟩:=C.2.2 k x hx;have hk:k<n:=by have:=(aj.1 hx).1;rw[C.2.1] at this;exact this
 obtain⟨R,T⟩:=z8 L hk c1 c2;have T':=kS L L' C H _ a b k (am _) R T;have ra:Rng ld n a k:=⟨by omega,R.lo.imp_right fun q j ha hj=>q j ha (by have:=T.2.1;omega),.inr fun j ha hj=>T.2.2 j ha (by have:=T.2.1;omega) (by omega)⟩;have rb:Rng ld n (k+1) b:=⟨R.le,.inr fun j ha hj=>T.2.2 j (by have:=T.1;omega) hj (by omega),R.hi.imp_right fun q j ha hj=>q j (by have:=T.1;omega) hj⟩;refine⟨a,b,⟨c1.1,fun j ha hj=>L'.asymm _ _ (T'.2.2 j ha (by have:=T.2.1;omega) (by omega)),?_⟩,⟨c2.1,c2.2.1,fun j hj hb=>L'.asymm _ _ (T'.2.2 j (by have:=T.1;omega) hb (by omega)),?_⟩,link ra c3,link rb c4⟩
 ·by_cases h0:a=0
  ·exact .inl h0
  ·right
   have q:=c1.2.2.resolve_left h0;have ha1:=c1.1;obtain⟨a2,b2,d1,d2⟩:=A0 C (show a-1<n by omega)
   have hb2:k<b2:=by
    apply Nat.not_le.1;intro hle;rcases d2.2.2.2 with e|e
    ·omega
    ·
     have:ld (a-1) b2=true:=by
      by_cases e':b2=k
      ·rw[e'];exact q
      ·exact L.trans _ _ _ q (T.2.2 b2 (by have:=d2.1;omega) (by have:=T.2.1;omega) e')
     rw[L.asymm _ _ this] at e;cases e
   exact Aa L L' C H (by omega) d1 d2 (by have:=d1.1;omega) hb2 (by omega)
 ·by_cases h0:b=n
  ·exact .inl h0
  ·right
   have q:=c2.2.2.2.resolve_left h0;have hbn:=c2.2.1;obtain⟨a2,b2,d1,d2⟩:=A0 C (show b<n by omega)
   have ha2:a2≤k:=by
    apply Nat.not_lt.1;intro hlt;rcases d1.2.2 with e|e
    ·omega
    ·have hb1:=d1.1;have:ld b (a2-1)=true:=by
      by_cases e':a2-1=k
      ·rw[e'];exact q
      ·exact L.trans _ _ _ q (T.2.2 (a2-1) (by have:=T.1;omega) (by omega) e')
     rw[L.asymm _ _ this] at e;cases e
   exact Aa L L' C H (by omega) d1 d2 ha2 (by have:=d2.1;have:=c2.1;omega) (by have:=c2.1;omega)
end
end Bnd
namespace Go.Proofs.YtfghdmmapmdcgaaGreat
open Go.Sym Bnd
theorem Fa {t t':Rt}{l:List Pt}(h:okF l)(hh: ∀x∈edgsT (cart t l).nodes l.length,leads t' (ptOf l x.high) (ptOf l x.low)=true):cart t' l=cart t l:=by
 have L:=dr (t:=t) h.2.2;have L':=dr (t:=t') h.2.2;have C:=gL L;have key:gt (ldF t' l) l.length (cmake (ldF t l) l.length).2.1 (cmake (ldF t l) l.length).2.2:=Iw L L' C fun i j hi hb=>by
  obtain⟨x,hx,hxi⟩:=hb;have hj:j<l.length:=by have:=(aj.1 hx).1;rw[C.2.1] at this;exact this
  obtain⟨n,n1,n2,n3,_⟩:=fG h hx;have hc:nodC i n=true:=by
   unfold nodC;rw[n2,n3];rcases hxi with q|q<;>simp[q]
  obtain⟨k,hk⟩: ∃k,(cart t l).nodes.findIdx? (nodC i)=some k:=by
   cases e:(cart t l).nodes.findIdx? (nodC i) with
   |some k=>exact⟨k,rfl⟩
   |none=>
    rw[bO] at e;have:=e n (ah n1);rw[hc] at this;cases this
  obtain⟨k1,k2,_⟩:=ba.1 hk;have hb':=j0 h (ac k1) k2;have hkj:=sY L C hb' ⟨x,hx,hxi⟩;subst hkj;have hp:=ac hi;have hq:=ac hj;have m:=hh ⟨lS (cart t l).nodes i,lS (cart t l).nodes k⟩ (by
   unfold edgsT;rw[fL];refine⟨i,bT.2 hi,?_⟩;unfold edgT;rw[hk];simp)
  simp only at m;rw[cart_id h hp,cart_id h hq,ptOf_some h hp,ptOf_some h hq] at m;rw[ldF_get hq hp];exact m
 obtain⟨u1,u2⟩:=uN L' (gL L') key;unfold cart;rw[u1,u2]
theorem qZ {l:List Pt}: ∀{es:List Crt} {c d:Clock},EdgF l es→ClkOk c→In64 c.now→c.pts=l→addL es c=some d→(∀y∈c.certs.list,y∈d.certs.list)∧ ∀x∈es,∃y∈d.certs.list,y.cert=x
 |[],c,d,_,h,_,_,e=>by cases e;exact⟨fun _ h=>h,fun _ h=>by cases h⟩
 |x::xs,c,d,hE,h,hn,hp,e=>by
  have hE':EdgF l xs:=⟨fun y hy=>hE.ok y (aF _ hy),fun y hy=>hE.low y (aF _ hy),fun y hy=>hE.high y (aF _ hy)⟩;unfold addL at e;split at e
  ·rename_i h1;obtain⟨q1,q2⟩:=qZ hE' h hn hp e;refine⟨q1,fun z hz=>?_⟩;rcases aT.1 hz with rfl|hz
   ·obtain⟨y,hy,hc⟩:=eE.1 h1;exact⟨y,q1 y hy,by simpa using hc⟩
   ·exact q2 z hz
  ·rename_i h1;split at e
   ·cases e
   ·rename_i h2;obtain⟨g1,g2,g3,g4⟩:=kR (pG hE h hp (bK ..) (by simpa using h1)) hn h2
    obtain⟨q1,q2⟩:=qZ hE' g1 (by rw[g4];exact hn) (g3.trans hp) e;have hin: ∀y∈(addC c.certs x).list,y∈d.certs.list:=fun y hy=>q1 y (by rw[g2];exact hy);unfold addC at hin;refine⟨fun y hy=>hin y (b5 _ hy),fun z hz=>?_⟩;rcases aT.1 hz with rfl|hz
    ·exact⟨_,hin _ (cI _ (bm.2 rfl)),rfl⟩
    ·exact q2 z hz
theorem Ix {c d:Clock}{es:List Crt}(hE:EdgF c.pts es)(h:ClkOk c)(hn:In64 c.now)(e:renewC es c=some d): ∀x∈es,∃y∈d.certs.list,y.cert=x:=by
 obtain⟨q1,_,_⟩:=dk es c.certs.list c h;exact(qZ (l:=c.pts) hE q1.ok (by rw[q1.now];exact hn) q1.pts e).2
theorem qe {l:List Pt}{E:Rt→List Crt}(hE:EdgH l E){t:Rt}: ∀(n:Nat) (c:Clock) (out:List Crt) (d:Clock) (out':List Crt),Stl l c→(∀x∈E c.now,∃y∈c.certs.list,y.cert=x)→adv E t n c out=some (some (d,out'))→ ∀x∈E d.now,∃y∈d.certs.list,y.cert=x
 |0,c,out,d,out',_,_,h=>by cases h
 |n+1,c,out,d,out',h,hc,ha=>by
  unfold adv at ha;cases he:ee c t with
  |none=>
   rw[he] at ha;cases ha;exact hc
  |some e=>
   rw[he] at ha;simp only at ha;cases hd:renewC (E e.time) (bY c e) with
   |none=>rw[hd] at ha;cases ha
   |some d0=>
    rw[hd] at ha;simp only at ha;obtain⟨n1,n2,_⟩:=cC he;obtain⟨s1,s2,s3⟩:=fK hE h n1 hd;obtain⟨f1,f2⟩:=ea h.ok n1 h.n64;have hr:=(h.ok.2.2.2.1.2.2.1 e (ah n1)).1;have hpt:(bY c e).pts=l:=h.pts;refine qe hE n d0 _ d out' s1 ?_ ha;rw[s2];exact Ix (by rw[hpt];exact hE.ok _ hr f2) f1 f2 hd
def wsum (f:Int→Nat):List Int→Nat→Nat
 |[],_=>0
 |x::xs,i=>i*f x+wsum f xs (i+1)
theorem q8 {f:Int→Nat}{y:Int}: ∀{hp:List Int} {i:Nat} {x:Int} {s:Nat},hp[i]?=some x→wsum f (hp.set i y) s+(s+i)*f x=wsum f hp s+(s+i)*f y
 |[],i,x,s,h=>by cases h
 |z::zs,0,x,s,h=>by
  simp only[cL,aK] at h;subst h;simp only[List.set_cons_zero,wsum,fB];omega
 |z::zs,i+1,x,s,h=>by
  have h:zs[i]?=some x:=h;have ih:=q8 (f:=f) (y:=y) (s:=s+1) h;simp only[List.set_cons_succ,wsum];rw[show s+1+i=s+(i+1) by omega] at ih
  omega
theorem Iy {f:Int→Nat}{hp:List Int}{n m:Nat}{a b:Int}(ha:hp[n]?=some a)(hb:hp[m]?=some b)(h:n<m)(hf:f a<f b):wsum f ((hp.set n b).set m a) 0<wsum f hp 0:=by
 have e1:=q8 (f:=f) (y:=b) (s:=0) ha;have hb':(hp.set n b)[m]?=some b:=by rw[aE (by omega)];exact hb
 have e2:=q8 (f:=f) (y:=a) (s:=0) hb';rw[be] at e1 e2;obtain⟨g,rfl⟩: ∃g,m=n+(g+1):=⟨m-n-1,by omega⟩;obtain⟨e,he⟩: ∃e,f b=f a+(e+1):=⟨f b-f a-1,by omega⟩;rw[he] at e1 e2;have p1:(n+(g+1))*(f a+(e+1))=n*(f a+(e+1))+((g+1)*f a+(g+1)*(e+1)):=by rw[bw,l9 (g+1)]
 have p2:(n+(g+1))*f a=n*f a+(g+1)*f a:=bw ..;have p3:0<(g+1)*(e+1):=Nat.mul_pos (by omega) (by omega);omega
def led (t:Rt)(l:List Pt)(x:Int):Nat:=l.countP fun q=>leads t (ptOf l x) q
theorem R5 {t:Rt}{l:List Pt}(h:okF l){a b:Int}(ha:inF l a=true)(hl:leads t (ptOf l b) (ptOf l a)=true):led t l a<led t l b:=by
 obtain⟨i,p,a1,a2,a3,a4⟩:=cH h ha;refine qX (a:=ptOf l a) (fun q _ hq=>gU hl hq) ?_ (leads_irr t _) hl;rw[a4];exact ah a1
def heapM (t:Rt)(l:List Pt)(hp:List Int):Nat:=wsum (led t l) hp 0+(hp.length*l.length)*flips t l
theorem Fb {t:Rt}{l:List Pt}(h:okF l){hp:List Int}{n m:Nat}{a b:Int}(ha:hp[n]?=some a)(hb:hp[m]?=some b)(hnm:n<m)(hin:inF l a=true)(hl:leads t (ptOf l b) (ptOf l a)=true):heapM t l ((hp.set n b).set m a)<heapM t l hp:=by
 have:=Iy (f:=led t l) ha hb hnm (R5 h hin hl);unfold heapM;rw[aB,aB];omega
theorem qr {α:Type}{p q r:α→Bool}: ∀{l:List α},(∀x∈l,p x=true→q x=true∨r x=true)→l.countP p≤l.countP q+l.countP r
 |[],_=>by simp
 |a::l,h=>by
  have ih:=qr (p:=p) (q:=q) (r:=r) fun x hx=>h x (aF _ hx);have ha:=h a (bK ..);rw[cw,cw,cw];cases hp:p a with
  |false=>simp;omega
  |true=>
   rcases ha hp with e|e
   ·rw[e];simp;omega
   ·rw[e];simp;omega
theorem uU {α:Type}{p q:α→Bool}: ∀{l:List α},(∀x∈l,q x=true→p x=true)→l.countP p=l.countP q+l.countP fun x=>p x&& !q x
 |[],_=>by simp
 |a::l,h=>by
  have ih:=uU (p:=p) (q:=q) fun x hx=>h x (aF _ hx);have ha:=h a (bK ..);rw[cw,cw,cw,ih];cases hp:p a<;>cases hq:q a
  ·simp
  ·rw[ha hq] at hp;cases hp
  ·simp;omega
  ·simp;omega
theorem qt {g:Pt×Pt→Bool}{X:Pt}{k:List Pt}(hX:X∈k): ∀(l:List Pt),l.countP (fun p=>g (p,X))≤(l.flatMap fun p=>k.map fun q=>(p,q)).countP g
 |[]=>by simp
 |a::l=>by
  have ih:=qt (g:=g) hX l;rw[cw,df,List.countP_append];have:(if g (a,X)=true then 1 else 0)≤(k.map fun q=>(a,q)).countP g:=by
   split
   ·rename_i h;exact List.countP_pos_iff.2 ⟨(a,X),aN.2 ⟨X,hX,rfl⟩,h⟩
   ·omega
  omega
theorem Iz {t t':Rt}{l:List Pt}(h:okF l)(hr:rok t=true)(hr':rok t'=true)(hl:crs t t'≤0){x:Int}(hx:inF l x=true):led t' l x+flips t' l≤led t l x+flips t l:=by
 obtain⟨i,X,a1,a2,a3,a4⟩:=cH h hx;have hX:=ah a1;have e1:flips t l=flips t' l+(ob l).countP fun z=>ga t z&& !ga t' z:=uU fun z _ hz=>pI (p:=z.1) (q:=z.2) hr hr' hl hz;have e2:=qt (g:=fun z=>ga t z&& !ga t' z) hX l;have e3:led t' l x≤led t l x+l.countP fun q=>ga t (q,X)&& !ga t' (q,X):=by
  unfold led;rw[a4];refine qr fun q hq hlq=>?_;by_cases c:leads t X q=true
  ·exact .inl c
  ·right
   have hne:X.id≠q.id:=fun e=>by
    have:=jH (nu:=Pt.id) (risen_ids h.2.2) hX hq e;subst this;rw[leads_irr] at hlq;cases hlq
   have hqX:leads t q X=true:=(leads_total (t:=t) hne).resolve_left c;obtain⟨j,hj⟩:=aA.1 hq;have fm:=pF (t:=t) (t':=t') (hi:=q) (lo:=X) (okF_pt h hj) (okF_pt h a1) (fun e=>hne e.symm) hr hr' hl;have hb:q.b<X.b:=by
    apply Int.not_le.1;intro hle;have f0:failT t q X=(⟨0,0⟩,false):=by unfold failT;rw[if_neg c,if_neg (by omega)]
    have:=fm.2 (by rw[f0]);rw[f0] at this;unfold failT at this;rw[if_pos hlq] at this;simp at this
   have f1:ga t (q,X)=true:=by
    unfold ga failT;simp only;rw[if_neg c,if_pos hb,hqX];rfl
   have f2:ga t' (q,X)=false:=by
    unfold ga;simp only;rw[cZ hlq];rfl
   rw[f1,f2];rfl
 have e4:(l.flatMap fun p=>l.map fun q=>(p,q))=ob l:=rfl;rw[e4] at e2;omega
theorem A1 {f g:Int→Nat}{d n:Nat}: ∀(hp:List Int) (s:Nat),(∀x∈hp,f x≤g x+d)→s+hp.length≤n→wsum f hp s≤wsum g hp s+hp.length*(n*d)
 |[],s,_,_=>by simp[wsum]
 |x::xs,s,h,hn=>by
  rw[aD] at hn;have ih:=A1 (f:=f) (g:=g) (d:=d) (n:=n) xs (s+1) (fun y hy=>h y (aF _ hy)) (by omega);have hx:=h x (bK ..);have m1:s*f x≤s*(g x+d):=oz s hx;have m2:s*d≤n*d:=bx d (by omega);rw[l9] at m1;simp only[wsum,aD];rw[bw,qw];omega
theorem An {t t':Rt}{l:List Pt}(h:okF l)(hr:rok t=true)(hr':rok t'=true)(hl:crs t t'≤0){hp:List Int}(hi: ∀x∈hp,inF l x=true)(hn:hp.length=l.length):heapM t' l hp≤heapM t l hp:=by
 have fl:=J9 (l:=l) hr hr' hl;have w:=A1 (f:=led t' l) (g:=led t l) (d:=flips t l-flips t' l) (n:=hp.length) hp 0 (fun x hx=>by have:=Iz h hr hr' hl (hi x hx);omega) (by omega);unfold heapM;rw[←hn];obtain⟨e,he⟩: ∃e,flips t l=flips t' l+e:=⟨flips t l-flips t' l,by omega⟩;rw[he,show flips t' l+e-flips t' l=e by omega] at w
 rw[he,l9,Nat.mul_assoc hp.length hp.length e];omega
theorem fail_lead {t s:Rt}{hi lo:Pt}(o1:hi.ok=true)(o2:lo.ok=true)(hne:hi.id≠lo.id)(hr:rok t=true)(hs:rok s=true)(hl:crs t s≤0)(hf:failT t hi lo=(s,true)):leads s lo hi=true:=by
 have m:=(pF o1 o2 hne hr hs hl).1 (by rw[hf]) (by rw[hf];unfold crs;simp only;omega);rw[hf] at m;by_cases c:leads s lo hi=true
 ·exact c
 ·unfold failT at m;rw[if_neg c] at m;by_cases hb:hi.b<lo.b
  ·rw[if_pos hb] at m;simp only[fY,and_true] at m;obtain⟨g,g0,hg⟩:=pE hb;have:=hg s;rw[m] at this;have z:crs s s=0:=by unfold crs;omega
   rw[z,i7] at this;have fn:=iw s hi lo;exact leads_iff.2 (.inr ⟨by omega,.inl hb⟩)
  ·rw[if_neg hb] at m;simp at m
theorem Fc {c:Clock}(h:ClkOk c){e:Evt}(he:e∈c.agenda.heap){x:Held}(hx:x∈c.certs.list)(hf:fT c x.cert=(e.time,true)):leads e.time (ptOf c.pts x.cert.low) (ptOf c.pts x.cert.high)=true:=by
 obtain⟨h1,h2,h3,h4,h5,h6,h7,h8⟩:=fu.1 h;have hc:=((iy.1 h3).2.2.2.1 x hx).1;have hk:=h7 x hx;unfold knownH at hk;rw[au] at hk;obtain⟨k1,k2⟩:=hk;obtain⟨i,p,a1,a2,a3,a4⟩:=cH h2 k1;obtain⟨j,q,b1,b2,b3,b4⟩:=cH h2 k2;unfold fT at hf;rw[a4,b4] at hf⊢;exact fail_lead (okF_pt h2 b1) (okF_pt h2 a1) (by have:=hc.2.2.2.2;omega) h1 (h4.2.2.1 e he).1 (tc h he) hf
def swapI (hp:List Int)(n m:Nat)(a b:Int):List Int:=(hp.set n b).set m a
theorem Fe {c:Clock}(h:ClkOk c){e:Evt}(he:e∈c.agenda.heap){x:Held}(hx:x∈c.certs.list)(hf:fT c x.cert=(e.time,true)){hp:List Int}(hi: ∀y∈hp,inF c.pts y=true)(hn:hp.length=c.pts.length){n m:Nat}(hnm:n<m)(ha:hp[n]?=some x.cert.high)(hb:hp[m]?=some x.cert.low):
  heapM e.time c.pts (swapI hp n m x.cert.high x.cert.low)<heapM c.now c.pts hp:=by
 have l:=Fc h he hx hf;have s:=Fb (t:=e.time) h.2.1 ha hb hnm (hi _ (ah ha)) l;have g:=An h.2.1 h.1 (h.2.2.2.1.2.2.1 e he).1 (tc h he) hi hn;unfold swapI;omega
theorem nthI_get {l:List Int}{i:Nat}(h:i<l.length):l[i]?=some (nthI l i):=by
 unfold nthI;rw[ac h];rfl
theorem A2 {hp:List Int}{x:Crt}(h:x∈edgesH hp): ∃n m:Nat,n<m∧hp[n]?=some x.high∧hp[m]?=some x.low:=by
 unfold edgesH edgesTo at h;obtain⟨i,hi,rfl⟩:=aN.1 h;rw[bT] at hi;exact⟨i/2,i+1,by omega,nthI_get (by omega),nthI_get (by omega)⟩
structure HStl (l:List Pt)(c:Clock)(hp:List Int):Prop where
 ok:ClkOk c
 n64:In64 c.now
 pts:c.pts=l
 sub: ∀y∈c.certs.list,y.cert∈edgesH hp
 nd:hp.Nodup
 inl: ∀x∈hp,inF l x=true
 len:hp.length=l.length
theorem Ab {l:List Pt}{hp:List Int}(h:okF l)(nd:hp.Nodup)(inl: ∀x∈hp,inF l x=true):EdgF l (edgesH hp):=by
 have key: ∀x∈edgesH hp,x.ok∧inF l x.low=true∧inF l x.high=true:=fun x hx=>by
  obtain⟨n,m,hnm,ha,hb⟩:=A2 hx;have k1:=inl _ (ah hb);have k2:=inl _ (ah ha);obtain⟨i,p,a1,a2,_,_⟩:=cH h k1;obtain⟨j,q,b1,b2,_,_⟩:=cH h k2;have bp:=Pt.bnd (okF_pt h a1);have bq:=Pt.bnd (okF_pt h b1);refine⟨⟨by omega,by omega,by omega,by omega,fun e=>?_⟩,k1,k2⟩;rw[e] at hb;have:=nodup_get.1 nd n m x.high ha hb;omega
 exact⟨fun x hx=>(key x hx).1,fun x hx=>(key x hx).2.1,fun x hx=>(key x hx).2.2⟩
theorem od {hp:List Int}{n m:Nat}{a b:Int}(ha:hp[n]?=some a)(hb:hp[m]?=some b):(swapI hp n m a b).Perm hp:=by
 obtain⟨h1,h2⟩:=aj.1 ha;obtain⟨h3,h4⟩:=aj.1 hb;unfold swapI;rw[←h2,←h4];exact List.set_set_perm h1 h3
theorem lL {l:List Pt}(hl:okF l){c d:Clock}{hp:List Int}(h:HStl l c hp){e:Evt}(he:c.agenda.heap[0]?=some e){n m:Nat}(hnm:n<m)(ha:hp[n]?=some (certE c e).high)(hb:hp[m]?=some (certE c e).low)
  (hd:renewC (edgesH (swapI hp n m (certE c e).high (certE c e).low)) (bY c e)=some d):HStl l d (swapI hp n m (certE c e).high (certE c e).low)∧d.now=e.time∧heapM d.now l (swapI hp n m (certE c e).high (certE c e).low)<heapM c.now l hp:=by
 obtain⟨f1,f2⟩:=ea h.ok he h.n64;have pm:=od ha hb;have nd:=pm.nodup_iff.2 h.nd;have inl: ∀x∈swapI hp n m (certE c e).high (certE c e).low,inF l x=true:=fun x hx=>h.inl x (pm.mem_iff.1 hx);have hp':(bY c e).pts=l:=h.pts;have hE:EdgF (bY c e).pts (edgesH (swapI hp n m (certE c e).high (certE c e).low)):=by rw[hp'];exact Ab hl nd inl
 have s:=zY hE f1 f2 hd;have hm:=pJ hE f1 f2 hd;have hnow:d.now=e.time:=s.now;refine⟨⟨s.ok,by rw[hnow];exact f2,s.pts.trans hp',hm,nd,inl,by rw[pm.length_eq];exact h.len⟩,hnow,?_⟩;obtain⟨i,x,hi,_,hce,hf⟩:=eB h.ok he;rw[hnow];rw[hce] at ha hb⊢;have:=Fe h.ok (ah he) (ah hi) hf (hp:=hp) (by rw[h.pts];exact h.inl) (by rw[h.pts];exact h.len) hnm ha hb;rw[h.pts] at this;exact this
def plI (hp:List Int)(v:Int):Nat:=(hp.findIdx? fun y=>decide (v=y)).getD 0
theorem plI_at {hp:List Int}(hn:hp.Nodup){m:Nat}{v:Int}(h:hp[m]?=some v):plI hp v=m:=by
 have:hp.findIdx? (fun y=>decide (v=y))=some m:=by
  obtain⟨h1,h2⟩:=aj.1 h;rw[ba];refine⟨h1,by rw[h2];simp,fun j hj e=>?_⟩;simp only[decide_eq_true_eq] at e;have:=nodup_get.1 hn j m v (by rw[ac (kX hj h1),e]) h;omega
 unfold plI;rw[this];rfl
def swapE (hp:List Int)(x:Crt):List Int:=swapI hp (plI hp x.high) (plI hp x.low) x.high x.low
def advH (t:Rt):Nat→Clock→List Int→List Crt→Option (Option (Clock×List Int×List Crt))
 |0,_,_,_=>none
 |n+1,c,hp,out=>match ee c t with
  |none=>some (some (c,hp,out))
  |some e=>match renewC (edgesH (swapE hp (certE c e))) (bY c e) with
   |some d=>advH t n d (swapE hp (certE c e)) (out++[certE c e])
   |none=>some none
theorem ki {l:List Pt}{c:Clock}{hp:List Int}(h:HStl l c hp){e:Evt}(he:c.agenda.heap[0]?=some e): ∃n m:Nat,n<m∧hp[n]?=some (certE c e).high∧hp[m]?=some (certE c e).low∧swapE hp (certE c e)=swapI hp n m (certE c e).high (certE c e).low:=by
 obtain⟨i,x,hi,_,hce,_⟩:=eB h.ok he;obtain⟨n,m,h1,h2,h3⟩:=A2 (h.sub x (ah hi));rw[hce];refine⟨n,m,h1,h2,h3,?_⟩;unfold swapE;rw[plI_at h.nd h2,plI_at h.nd h3]
theorem uV {l:List Pt}(hl:okF l){t:Rt}: ∀(n:Nat) (c:Clock) (hp:List Int) (out:List Crt),HStl l c hp→heapM c.now l hp<n→ ∃r,advH t n c hp out=some r
 |0,c,hp,out,_,h=>by omega
 |n+1,c,hp,out,h,hn=>by
  unfold advH;cases he:ee c t with
  |none=>exact⟨_,rfl⟩
  |some e=>
   simp only;obtain⟨i,j,q1,q2,q3,q4⟩:=ki h (cC he).1;rw[q4];cases hd:renewC (edgesH (swapI hp i j (certE c e).high (certE c e).low)) (bY c e) with
   |none=>exact⟨_,rfl⟩
   |some d=>
    obtain⟨s1,s2,s3⟩:=lL hl h (cC he).1 q1 q2 q3 hd;exact uV hl n d _ _ s1 (by omega)
theorem oe {l:List Pt}(hl:okF l){t:Rt}: ∀(n:Nat) (c:Clock) (hp:List Int) (out:List Crt) (d:Clock) (hq:List Int) (out':List Crt),HStl l c hp→crs c.now t≤0→advH t n c hp out=some (some (d,hq,out'))→HStl l d hq∧crs d.now t≤0∧waits d t=false∧out'.length≤out.length+n
 |0,c,hp,out,d,hq,out',_,_,h=>by cases h
 |n+1,c,hp,out,d,hq,out',h,hp0,ha=>by
  unfold advH at ha;cases he:ee c t with
  |none=>
   rw[he] at ha;cases ha;exact⟨h,hp0,nextE_none he,by omega⟩
  |some e=>
   rw[he] at ha;simp only at ha;obtain⟨i,j,q1,q2,q3,q4⟩:=ki h (cC he).1;rw[q4] at ha;cases hd:renewC (edgesH (swapI hp i j (certE c e).high (certE c e).low)) (bY c e) with
   |none=>rw[hd] at ha;cases ha
   |some d0=>
    rw[hd] at ha;simp only at ha;obtain⟨s1,s2,s3⟩:=lL hl h (cC he).1 q1 q2 q3 hd;obtain⟨r1,r2,r3,r4⟩:=oe hl n d0 _ _ d hq out' s1 (by rw[s2];exact(cC he).2.1) ha;exact⟨r1,r2,r3,by rw[an,az] at r4;omega⟩
theorem Ac {f:Int→Nat}{B n:Nat}: ∀(hp:List Int) (s:Nat),(∀x∈hp,f x≤B)→s+hp.length≤n→wsum f hp s≤hp.length*(n*B)
 |[],s,_,_=>by simp[wsum]
 |x::xs,s,h,hn=>by
  rw[aD] at hn;have ih:=Ac (f:=f) (B:=B) (n:=n) xs (s+1) (fun y hy=>h y (aF _ hy)) (by omega);have m1:s*f x≤n*B:=dx (by omega) (h x (bK ..));simp only[wsum,aD];rw[bw,qw];omega
theorem IA {l:List Pt}(h:okF l){t:Rt}{hp:List Int}(hn:hp.length=l.length)(hf:flips t l<5000):heapM t l hp<30000000:=by
 have h64:=h.1;have w:=Ac (f:=led t l) (B:=64) (n:=64) hp 0 (fun x _=>bc mX h64) (by omega);have w2:hp.length*(64*64)≤64*(64*64):=bx _ (by omega);have f1:hp.length*l.length≤64*64:=dx (by omega) h64;have f2:hp.length*l.length*flips t l≤64*64*5000:=dx f1 (by omega);unfold heapM;omega
end Go.Proofs.YtfghdmmapmdcgaaGreat
