import Derived.Test.YtfghdmmapmdcgaaGreatE1
import Derived.Test.YtfghdmmapmdcgaaGreatC3
set_option linter.unusedVariables false
set_option linter.unusedSimpArgs false
set_option linter.defProp false
noncomputable section
namespace Go.Proofs.YtfghdmmapmdcgaaGreat
open Go.Sym Bnd
theorem jv {c:Clock}(h:aw c):CSm c:=by
 obtain⟨_,h2,h3,h4,_,h6,_⟩:=h;have ha:=sL h4;exact⟨by have:=h2.1;omega,by have:=h3.1;omega,ha,by have:=ha.heap;omega⟩
theorem xT {a:Agenda}(h:aW a):gAg a=false:=by
 have hs:=aT.1 h.1;have:=hs.n2;have:=h.2.1.2.1;have:=h.2.1.1;unfold gAg;rw[nI hs];simp only[Bool.false_or,Bool.or_eq_false_iff,decide_eq_false_iff_not];omega
structure Fresh (c:Clock):Prop where
 ok:aw c
 now64:In64 c.now
 ev64: ∀e∈c.agenda.heap,In64 e.time
 heap:c.agenda.heap.length≤c.certs.list.length
 next:c.certs.next=c.certs.list.length
 uses: ∀i:Nat,(i:Int)∈c.agenda.slots.free→c.agenda.slots.uses[i]?=some 0
def frL (c:Clock):List Int:=c.agenda.slots.free.dropLast
def frI (c:Clock):Nat:=((c.agenda.slots.free.getLast?).getD 0).toNat
def certN (c:Clock)(x:Crt):Clock:=if(fT c x).2=true then certD c x (frL c) (frI c) 0 else dt c x
theorem fG {c:Clock}(h:Fresh c)(hr:c.certs.list.length<200):c.agenda.slots.free=frL c++[(frI c:Int)]∧c.agenda.slots.uses[frI c]?=some 0:=by
 have hs:=aT.1 h.ok.2.2.2.1.1;have hl:=h.ok.2.2.2.1.2.1.2.1;have hw:=h.ok.2.2.2.1.2.1.1;have hw':=h.ok.2.2.2.2.1;have hh:=h.heap;rcases free_last hs with e|⟨fr,i,u,e,hu,h1,h2⟩
 ·rw[e,List.length_nil] at hl;omega
 ·have e1:frL c=fr:=by unfold frL;rw[e];simp
  have e2:frI c=i:=by unfold frI;rw[e];simp
  rw[e1,e2];exact⟨e,h.uses i (by rw[e];simp)⟩
theorem sP {c:Clock}{x:Crt}(h:Fresh c)(ha:CAdd c x):Fresh (certN c x)∧(certN c x).certs=dg c.certs x∧(certN c x).pts=c.pts∧(certN c x).now=c.now:=by
 obtain⟨e1,e2⟩:=fG h ha.room;have hnx:=h.next;unfold certN;split
 ·rename_i hf;have hrk:=ha.ok.1;have hok:=Bz ha h.now64 e1 e2 (by omega) hf;obtain⟨f1,f2⟩:=g9 ha.ok.2.1 h.now64 hrk ha.low ha.high hf;obtain⟨p1,p2,p3⟩:=gZ ha.ok.2.2.2.1 e1 e2 (by omega) (t:=(fT c x).1) (n:=c.certs.next) ⟨f1,ha.ok.2.2.1.2.1,by have:=ha.next;omega⟩ (fF ha.ok);refine⟨⟨hok,h.now64,fun e he=>?_,?_,?_,fun j hj=>?_⟩,rfl,rfl,rfl⟩
  ·rcases List.mem_append.1 (p2.mem_iff.1 he) with h1|h1
   ·exact h.ev64 e h1
   ·rw[List.mem_singleton] at h1;subst h1;exact f2
  ·have q:=p2.length_eq;rw[List.length_append,List.length_singleton] at q;have:=h.heap;unfold certD dg;simp only[List.length_append,List.length_singleton];omega
  ·unfold certD dg;simp only[List.length_append,List.length_singleton];omega
  ·have hj':(j:Int)∈frL c:=hj;have hnd:=(aT.1 ha.ok.2.2.2.1.1).nd;rw[e1,List.nodup_append] at hnd;have hne:frI c≠j:=fun q=>hnd.2.2 _ hj' (frI c:Int) (by simp) (by omega);show(c.agenda.slots.uses.set (frI c) (0+1))[j]?=some 0
   rw[List.getElem?_set_ne hne];exact h.uses j (by rw[e1];simp[hj'])
 ·rename_i hf;have hf:=Bool.eq_false_iff.2 hf;refine⟨⟨By ha hf,h.now64,h.ev64,?_,?_,h.uses⟩,rfl,rfl,rfl⟩
  ·have:=h.heap;unfold dt dg;simp only[List.length_append,List.length_singleton];omega
  ·unfold dt dg;simp only[List.length_append,List.length_singleton];omega
theorem newA_ok {n:Nat}(h1:1≤n)(h2:n≤200):aW (cP n):=by
 have hs:=lL (n:=n) h1 h2;refine⟨aT.2 hs,⟨by unfold cP df;simp,by unfold cP df;simp[nfree_len],fun i b w u hb hw hu=>?_⟩,by simp[cP],by simp[cP],fun i e p he=>?_⟩
 ·unfold cP df at hb hw;simp only at hb hw;rw[List.getElem?_replicate] at hb hw;split at hb
  ·cases hb;rename_i hi;rw[if_pos hi] at hw;cases hw;rw[if_neg (by simp)]
  ·cases hb
 ·unfold cP at he;simp at he
theorem fH {l:List Pt}{t:Rt}(hl:okF l)(ht:In64 t)(hr:rok t=true):Fresh (newC l t):=by
 refine⟨⟨hr,hl,⟨Nat.zero_le _,Int.le_refl _,(by decide:(0:Int)≤1000000),fun i h hi=>by cases i<;>cases hi⟩,newA_ok (n:=200) (by omega) (by omega),List.length_replicate,rfl,rfl⟩,ht,(fun e he=>by cases he),Nat.le_refl _,rfl,fun i hi=>?_⟩;have:=(lL (n:=200) (by omega) (by omega)).rng _ hi;simp only[df,List.length_replicate] at this;show(List.replicate 200 (0:Int))[i]?=some 0
 rw[List.getElem?_replicate,if_pos (by omega)]
structure EdgOk (l:List Pt)(es:List Crt):Prop where
 nd:es.Nodup
 len:es.length<200
 ok: ∀x∈es,x.ok
 low: ∀x∈es,inF l x.low=true
 high: ∀x∈es,inF l x.high=true
def certAll (c:Clock)(es:List Crt):Clock:=es.foldl certN c
structure AtK (l:List Pt)(t:Rt)(es:List Crt)(k:Nat)(c:Clock):Prop where
 fresh:Fresh c
 certs:c.certs.list.map (·.cert)=es.take k
 pts:c.pts=l
 now:c.now=t
theorem kM {l:List Pt}{t:Rt}{es:List Crt}(hE:EdgOk l es){k:Nat}{c:Clock}(h:AtK l t es k c){x:Crt}(hx:es[k]?=some x):CAdd c x∧(∀g∈c.certs.list,g.cert≠x):=by
 have hm:=List.mem_of_getElem? hx;have hk:=ai hx;have hlen:c.certs.list.length=k:=by
  have:=congrArg List.length h.certs;rw[List.length_map,List.length_take] at this;omega
 have hE':=hE.len;have hnew: ∀g∈c.certs.list,g.cert≠x:=fun g hg e=>by
  have h1:g.cert∈es.take k:=by rw[←h.certs];exact List.mem_map.2 ⟨g,hg,rfl⟩
  rw[e] at h1;obtain⟨i,hi⟩:=List.mem_iff_getElem?.1 h1;have hik:i<k:=by have:=ai hi;rw[List.length_take] at this;omega
  rw[List.getElem?_take_of_lt hik] at hi;have:=nodup_get.1 hE.nd i k x hi hx;omega
 refine⟨⟨h.fresh.ok,hE.ok x hm,hnew,by omega,by have:=h.fresh.next;omega,by rw[h.pts];exact hE.low x hm,by rw[h.pts];exact hE.high x hm⟩,hnew⟩
theorem BA {l:List Pt}{t:Rt}{es:List Crt}(hE:EdgOk l es){k:Nat}{c:Clock}(h:AtK l t es k c){x:Crt}(hx:es[k]?=some x):AtK l t es (k+1) (certN c x):=by
 obtain⟨f1,f2,f3,f4⟩:=sP h.fresh (kM hE h hx).1;refine⟨f1,?_,f3.trans h.pts,f4.trans h.now⟩;rw[f2];unfold dg;rw[List.map_append,h.certs,List.take_add_one,hx];rfl
theorem hG {l:List Pt}{t:Rt}{es:List Crt}(hE:EdgOk l es)(hl:okF l)(ht:In64 t)(hr:rok t=true): ∀k,k≤es.length→AtK l t es k (certAll (newC l t) (es.take k))
 |0,_=>⟨fH hl ht hr,rfl,rfl,rfl⟩
 |k+1,hk=>by
  have hx:es[k]?=some es[k]:=List.getElem?_eq_getElem _;have:=BA hE (hG hE hl ht hr k (by omega)) hx;have e:es.take (k+1)=es.take k++[es[k]]:=by rw[List.take_add_one,hx];rfl
  unfold certAll at this⊢;rw[e,List.foldl_append];exact this
set_option maxRecDepth 100000
theorem P0 (e:Evt):RF.ev (.cell 3) [EP e]=some (.i64 e.hnd.index):=rfl
structure GoodE (W:Nat)(e:Evt):Prop where
 t64:In64 e.time
 rok:rok e.time=true
 ix: ∃j:Nat,e.hnd.index=(j:Int)∧j<W
theorem lM {N:Nat}{f0:JT}{t:Rt}{n:Int}{h:Hnd}{e0 e1 e3 e5 e6 e7 e8 e9 e10 e11 e12 e13 e14 e15 e16 e17 e18 e20 e21 e22 e23 e24 e25 e27 e28 e29 e30 e31 e32 e34:PV}{H W:Nat}(hH:H≤1000)(ht:In64 t)(rt:rok t=true): ∀(r i m:Nat) (hp:List Evt) (wh:List Int),i≤r→r<m→i<H→hp.length=H→wh.length=W→(∀x∈hp,GoodE W x)→
  denW (PhiS D) N k317_6 [f0] [e0,e1,.i64 n,e3,R t,e5,e6,e7,e8,e9,e10,e11,e12,e13,e14,e15,e16,e17,e18,HD h,e20,e21,e22,e23,e24,e25,.i64 (W:Int),e27,e28,e29,e30,e31,e32,.i64 (H:Int),e34] m [.i64 (i:Int),sl erow hp,sl I1 wh]=f0 [sl erow (siftH ⟨t,n,h⟩ r hp wh i).1,sl I1 (siftH ⟨t,n,h⟩ r hp wh i).2.1,.i64 ((siftH ⟨t,n,h⟩ r hp wh i).2.2:Int)]
 |0,i,m,hp,wh,hi,hm,hiH,hl,hw,hg=>by
  obtain⟨m,rfl⟩: ∃m',m=m'+1:=⟨m-1,by omega⟩;have:i=0:=by omega
  subst this;rw[denW_succ];unfold k317_6 siftH;simp only[EV,decide_eq_true_eq,gt_iff_lt];rw[if_neg (by omega)]
 |r+1,i,m,hp,wh,hi,hm,hiH,hl,hw,hg=>by
  obtain⟨m,rfl⟩: ∃m',m=m'+1:=⟨m-1,by omega⟩;obtain⟨p,hp'⟩: ∃p,hp[(i-1)/2]?=some p:=⟨hp[(i-1)/2]'(by omega),List.getElem?_eq_getElem _⟩;have E:siftH ⟨t,n,h⟩ (r+1) hp wh i=if 0<i∧evLess ⟨t,n,h⟩ p=true then siftH ⟨t,n,h⟩ r (hp.set i p) (wh.set p.hnd.index.toNat (i:Int)) ((i-1)/2) else(hp,wh,i):=by rw[siftH,hp']
  rw[E,denW_succ];by_cases h0:0<i
  rotate_left
  ·rw[if_neg (fun h=>h0 h.1)];unfold k317_6;simp only[EV,decide_eq_true_eq,gt_iff_lt];rw[if_neg (by omega)]
  ·obtain⟨p64,prk,jp,pj,pW⟩:=hg p (List.mem_of_getElem? hp');have ih:=lM (N:=N) (f0:=f0) (t:=t) (n:=n) (h:=h) (e0:=e0) (e1:=e1) (e3:=e3) (e5:=e5) (e6:=e6) (e7:=e7) (e8:=e8) (e9:=e9) (e10:=e10) (e11:=e11) (e12:=e12) (e13:=e13) (e14:=e14) (e15:=e15) (e16:=e16) (e17:=e17) (e18:=e18) (e20:=e20) (e21:=e21) (e22:=e22) (e23:=e23) (e24:=e24) (e25:=e25) (e27:=e27) (e28:=e28) (e29:=e29) (e30:=e30) (e31:=e31) (e32:=e32) (e34:=e34) (H:=H) (W:=W) hH ht rt r ((i-1)/2) m (hp.set i p) (wh.set p.hnd.index.toNat (i:Int)) (by omega) (by omega) (by omega) (by rw[List.length_set];exact hl) (by rw[List.length_set];exact hw) (fun x hx=>by
    rcases List.mem_or_eq_of_mem_set hx with h1|h1
    ·exact hg x h1
    ·rw[h1];exact⟨p64,prk,jp,pj,pW⟩)
   have cm:=phi (sC (x:=⟨t,n,h⟩) (y:=p) ht p64 rt prk);have q2:=sK h0 (by omega);have s1:=mj (l:=hp) (i:=i) (by omega) p;have s3:=setI (l:=wh) (i:=jp) (by omega) (i:Int);generalize hkk:k317_6=kk at ih;subst hkk;unfold k317_6;simp only[EV,decide_eq_true_eq,gt_iff_lt];rw[if_pos (by omega)];simp only[EV,f_bin,q2,ixM (show(i-1)/2<H by omega),eltM hp',rowE,den_lt,pR,pHD,aggEv,cm,decide_eq_true_eq,cmpE_lt]
   by_cases hc:evLess ⟨t,n,h⟩ p=true
   ·rw[if_pos hc,if_pos ⟨h0,hc⟩];simp only[EV,f_bin,q2,ixM hiH,ixM (show(i-1)/2<H by omega),eltM hp',rowE,den_lt,kI,s1,P0,pj,ixM pW,s3]
    rw[pj,Int.toNat_natCast] at ih;exact ih
   ·rw[if_neg hc,if_neg (fun q=>hc q.2)]
theorem GA {x y:Evt}(h:evLess x y=false):¬iR x y<0:=fun c=>by
 rw[(cmpE_lt x y).1 c] at h;cases h
theorem xU {N:Nat}{f0:JT}{t:Rt}{n:Int}{h:Hnd}{e0 e1 e3 e5 e6 e7 e8 e9 e10 e11 e12 e13 e14 e15 e16 e17 e18 e20 e21 e22 e23 e24 e25 e27 e28 e29 e30 e31 e32 e34 e35 e36 e37 e38 e39 e26:PV}{H i m:Nat}{hp:List Evt}{w:PV}(hH:H≤1000)(ht:In64 t)(rt:rok t=true)(hm:0<m)(hi:i<H)(hl:hp.length=H)
  (hg: ∀k e,k≠i→hp[k]?=some e→In64 e.time∧rok e.time=true) (ho: ∀k e,(k=2*i+1∨k=2*i+2)→hp[k]?=some e→evLess e ⟨t,n,h⟩=false):
  denW (PhiS D) N pY [f0] [e0,e1,.i64 n,e3,R t,e5,e6,e7,e8,e9,e10,e11,e12,e13,e14,e15,e16,e17,e18,HD h,e20,e21,e22,e23,e24,e25,e26,e27,e28,e29,e30,e31,e32,.i64 (H:Int),e34,e35,e36,e37,e38,e39] m [.i64 (i:Int),sl erow hp,w,.i64 ((2*i+1:Nat):Int)]=f0 [sl erow hp,w,.i64 (i:Int)]:=by
 obtain⟨m,rfl⟩: ∃m',m=m'+1:=⟨m-1,by omega⟩;rw[denW_succ];have sh: ∀e:Evt,RF.ev (.shape 5) [EP e]=some (EP e):=fun _=>rfl;have fin: ∀(k:Nat) (self:JT) (a b c d d':PV),(k=2*i+1∨k=2*i+2)→k<H→den (PhiS D) N pV [f0,self] [e0,e1,.i64 n,e3,R t,e5,e6,e7,e8,e9,e10,e11,e12,e13,e14,e15,e16,e17,e18,HD h,e20,e21,e22,e23,e24,e25,e26,e27,e28,e29,e30,e31,e32,.i64 (H:Int),e34,e35,e36,e37,e38,e39,.i64 (i:Int),sl erow hp,w,a,b,c,d,d',.i64 (k:Int)]=f0 [sl erow hp,w,.i64 (i:Int)]:=fun k self a b c d d' hk hkH=>by
  obtain⟨e,he⟩: ∃e,hp[k]?=some e:=⟨hp[k]'(by omega),List.getElem?_eq_getElem _⟩;obtain⟨g1,g2⟩:=hg k e (by omega) he;have cm:=phi (sC (x:=e) (y:=⟨t,n,h⟩) g1 ht g2 rt);unfold pV;simp only[EV,ixM hkH,eltM he,rowE,den_lt,pR,pHD,aggEv,cm,decide_eq_true_eq,ge_iff_le];rw[if_pos (by have:=GA (ho k e hk he);omega)]
 unfold pY;simp only[EV,decide_eq_true_eq];by_cases h1:2*i+1<H
 ·rw[if_pos (by omega)];simp only[EV,decide_eq_true_eq,up1 (show 2*i+1<1000000000 by omega)]
  by_cases h2:2*i+2<H
  ·rw[if_pos (by omega)];obtain⟨e,he⟩: ∃e,hp[2*i+1]?=some e:=⟨hp[2*i+1]'(by omega),List.getElem?_eq_getElem _⟩;obtain⟨g,hg'⟩: ∃e,hp[2*i+1+1]?=some e:=⟨hp[2*i+1+1]'(by omega),List.getElem?_eq_getElem _⟩;obtain⟨a1,a2⟩:=hg _ e (by omega) he;obtain⟨b1,b2⟩:=hg _ g (by omega) hg';have cm:=phi (sC (x:=g) (y:=e) b1 a1 b2 a2);simp only[EV,up1 (show 2*i+1<1000000000 by omega),ixM h1,ixM (show 2*i+1+1<H by omega),eltM he,eltM hg',rowE,den_lt,cm]
   unfold pX;simp only[EV,decide_eq_true_eq,up1 (show 2*i+1<1000000000 by omega)]
   by_cases hc:iR g e<0
   ·rw[if_pos hc];exact fin _ _ _ _ _ _ _ (.inr rfl) (by omega)
   ·rw[if_neg hc];exact fin _ _ _ _ _ _ _ (.inl rfl) (by omega)
  ·rw[if_neg (by omega)];unfold pX;simp only[EV,Bool.false_eq_true,if_false];exact fin _ _ _ _ _ _ _ (.inl rfl) (by omega)
 ·rw[if_neg (by omega)]
theorem P1 {a:Agenda}(h:aW a){fr:List Int}{i:Nat}{u:Int}(hf:a.slots.free=fr++[(i:Int)])(hu:a.slots.uses[i]?=some u)(hm:u<1000000){t:Rt}{n:Int}(hx:rok t=true∧0≤n∧n≤1000000)(hn:n∉a.heap.map (·.number))(ht:In64 t)(h64: ∀e∈a.heap,In64 e.time):
  Ans D 317 [AG a,R t,.i64 n] [AG (aS a fr i u t n),HD ⟨i,u+1⟩,.i64 0]:=by
 classical
 have hs:=aT.1 h.1;have hP:=ju hs h.2.1;have hsm:=sL h;have n2:=hs.n2;have hl:=h.2.1.2.1;have hw:=h.2.1.1;have hi:=ai hu;obtain⟨hOk,q2,q3⟩:=gZ h hf hu hm hx hn;have hOrd:=ord_of hOk;have m1:=phi (IC (xT h) h64);rw[decide_eq_true h] at m1;have m2:=phi (c43 ht);rw[hx.1] at m2;have e0:okE true=0:=rfl;rw[e0] at m1 m2;have mm:RF.ev (.mm true) [.v (.int .i64 0),.v (.int .i64 0)]=some (.v (.int .i64 0)):=rfl;have ap:=aN (f:=erow) (l:=a.heap) (k:=[⟨t,n,⟨i,u+1⟩⟩]) (bytes:=40) (z:=5) (by simp;omega) lenE;have dn:=downN (n:=a.heap.length) (by omega);have good: ∀x∈a.heap++[(⟨t,n,⟨i,u+1⟩⟩:Evt)],GoodE a.wher.length x:=fun x hx'=>by
  rcases List.mem_append.1 hx' with h1|h1
  ·obtain⟨k,hk⟩:=List.mem_iff_getElem?.1 h1;obtain⟨j,v,g1,_,_,g4⟩:=hP.at_ k x hk;exact⟨h64 x h1,(h.2.2.1 x h1).1,j,by rw[g1],ai g4⟩
  ·rw[List.mem_singleton] at h1;subst h1;exact⟨ht,hx.1,i,rfl,by omega⟩
 have up:=rK (x:=⟨t,n,⟨i,u+1⟩⟩) (a.heap.length+1) (a.heap++[⟨t,n,⟨i,u+1⟩⟩]) a.wher a.heap.length (by simp);have e1:(a.heap++[(⟨t,n,⟨i,u+1⟩⟩:Evt)]).set a.heap.length ⟨t,n,⟨i,u+1⟩⟩=a.heap++[⟨t,n,⟨i,u+1⟩⟩]:=by simp
 rw[e1] at up;simp only[Int.toNat_natCast] at up;obtain⟨hpF,whF,jF,hF⟩: ∃hpF whF jF,siftH ⟨t,n,⟨i,u+1⟩⟩ (a.heap.length+1) (a.heap++[⟨t,n,⟨i,u+1⟩⟩]) a.wher a.heap.length=(hpF,whF,jF):=⟨_,_,_,rfl⟩;rw[hF] at up;simp only at up;have pH:(aS a fr i u t n).heap=hpF.set jF ⟨t,n,⟨i,u+1⟩⟩:=by unfold aS;rw[up]
 have pW:(aS a fr i u t n).wher=whF.set i (jF:Int):=by unfold aS;rw[up]
 have pS:(aS a fr i u t n).slots=cd a.slots fr i u:=rfl;have lH:hpF.length=a.heap.length+1:=by
  have:=q2.length_eq;rw[pH,List.length_set,List.length_append,List.length_singleton] at this;exact this
 have lW:whF.length=a.wher.length:=by rw[pW,List.length_set] at q3;exact q3
 have hjF:jF≤a.heap.length:=by
  have q:=(nM (s:=cd a.slots fr i u) (a.heap.length+1) (a.heap++[⟨t,n,⟨i,u+1⟩⟩]) (a.wher.set i (a.heap.length:Int)) a.heap.length (by omega) (by simp) (fun x hx'=>(good x hx').rok) ⟨fun c e p c0 cn he hp=>by
   have h1:=ai he;rw[List.length_append,List.length_singleton] at h1;rw[List.getElem?_append_left (by omega)] at he hp;exact ord_of h c e p c0 he hp,fun c e p _ c0 hc he _=>by
   have h1:=ai he;rw[List.length_append,List.length_singleton] at h1;omega⟩ (plc_push hs hP hf hu rfl)).2.2.2.2
  rw[up] at q;exact q
 have child: ∀k e,k≠jF→hpF[k]?=some e→(aS a fr i u t n).heap[k]?=some e:=fun k e hk he=>by rw[pH,List.getElem?_set_ne (fun q=>hk q.symm)];exact he
 have s4:=subM (f:=erow) (l:=(aS a fr i u t n).heap);rw[q2.length_eq,List.length_append,List.length_singleton] at s4;have s5:=subM (f:=I1) (l:=(aS a fr i u t n).wher);rw[q3] at s5;have s1:=mj (l:=hpF) (i:=jF) (by omega) ⟨t,n,⟨i,u+1⟩⟩;rw[←pH] at s1;have s3:=setI (l:=whF) (i:=i) (by omega) (jF:Int);rw[←pW] at s3;refine ans_of k317_ok s317 rfl ⟨1001,?_⟩;unfold k317;simp only[den_lt,shAG,shapeR,m1,m2,mm,cAG3,EV,List.length_map,decide_true,Bool.not_true,Bool.false_eq_true,if_false,decide_eq_true_eq,gt_iff_lt];rw[if_neg (by omega),if_neg (by omega)];refine(run_list (m:=1001) (l:=a.heap) (p:=fun g=>!decide (g.number=n)) (st:=fun i=>[.i64 (i:Int)]) (r:=none) (fin:=some [AG (aS a fr i u t n),HD ⟨i,u+1⟩,.i64 0]) (fun k g self hg hall=>?_) (fun hall self=>?_) (by omega)).trans ?_
 ·have hne:¬g.number=n:=fun e=>hn (List.mem_map.2 ⟨g,List.mem_of_getElem? hg,e⟩);unfold kT;simp only[den_lt,cAG3,tixM hg (lenE _),eltM hg,rowE,cEP2,EV,decide_eq_true_eq,if_lt (get_lt hg),up1 (show k<1000000000 by have:=get_lt hg;omega),hne,decide_false,Bool.not_false,Bool.false_eq_true,if_true,if_false]
 ·unfold kT;simp only[EV,decide_eq_true_eq,if_ge];unfold Ac;have g0:decide ((-1:Int)≥0)=false:=rfl;simp only[EV,g0,Bool.false_eq_true,if_false,den_lt,pAG,phi (PR hs hf hu hm),shSL,shHD,decide_true,Bool.not_true,phi (PM hsm),shAG,cAG3,cAG4,pR,pHD,aggEv,bsE,subE1,List.length_map,ap,List.length_append,List.length_singleton,dn];refine(lM (N:=1001) (n:=n) (h:=⟨i,u+1⟩) (H:=a.heap.length+1) (W:=a.wher.length) (by omega) ht hx.1 (a.heap.length+1) a.heap.length 1001 _ _ (by omega) (by omega) (by omega) (by simp) rfl good).trans ?_;rw[hF];unfold Ab;have w1:IntKind.i64.wrap (2*(jF:Int))=((2*jF:Nat):Int):=by rw[ah (by omega) (by omega)];omega
  simp only[EV,w1,up1 (show 2*jF<1000000000 by omega)]
  refine(xU (N:=1001) (H:=a.heap.length+1) (by omega) ht hx.1 (by omega) (by omega) lH (fun k e hk he=>?_) (fun k e hk he=>?_)).trans ?_
  ·have he':=child k e hk he;have:=good e (q2.mem_iff.1 (List.mem_of_getElem? he'));exact⟨this.t64,this.rok⟩
  ·have he':=child k e (by omega) he;refine hOrd k e _ (by omega) he' ?_;rw[pH,show(k-1)/2=jF by omega,List.getElem?_set_self (by omega)]
  ·unfold Aa;simp only[EV,den_lt,ixM (show jF<a.heap.length+1 by omega),pR,pHD,aggEv,s1,cHD0,ixM (show i<a.wher.length by omega),s3,pSL,s4,s5,xQ]
   rfl
 ·rw[if_pos (by rw[List.all_eq_true];intro g hg;simpa using fun e=>hn (List.mem_map.2 ⟨g,hg,e⟩))]
theorem gW_of {c:Clock}(h:aw c):gW c:=by
 have hc:=jv h;exact⟨hc.certs,hc.due,hc.pts,xT h.2.2.2.1⟩
theorem aggDu (n:Int)(h:Hnd):RF.ev .agg [.i64 n,HD h]=some (DP ⟨n,h⟩):=rfl
theorem bsDu (d:Due):RF.ev (.bs 1 [KP.z,KP.z,KP.z] [0]) [DP d]=some (sl am [d]):=rfl
theorem subDu (d:Due):RF.ev .sub [sl am [d],.v (.int .i64 0),.v (.int .i64 1)]=some (sl am [d]):=rfl
theorem appDu {c:Clock}{d:Due}(h:c.due.length≤1000):RF.ev (.app 24 3) [sl am c.due,.v (.int .i64 (c.due.length:Int)),sl am [d]]=some (sl am (c.due++[d])):=
 aN (f:=am) (l:=c.due) (k:=[d]) (bytes:=24) (z:=3) (by simp;omega) iQ
theorem lastDu (c:Clock)(d:Due):RF.ev .sub [sl am (c.due++[d]),.v (.int .i64 0),.v (.int .i64 ((c.due++[d]).length:Int))]=some (sl am (c.due++[d])):=subM
theorem pCLk (c:Clock):RF.ev (.part 0 3) [CL c]=some (.agg [.i64 c.now.num,.i64 c.now.den,sl row c.pts]):=rfl
theorem pCSk (c:Certs):RF.ev (.part 0 2) [CS c]=some (CS c):=rfl
theorem pCL53 (c:Clock):RF.ev (.part 5 3) [CL c]=some (SL c.agenda.slots):=rfl
theorem aggC8 (r:Rt)(p:List Pt)(cs:Certs)(s:Slots)(h:List Evt)(w:List Int)(d:List Due):RF.ev .agg [.agg [.i64 r.num,.i64 r.den,sl row p],CS cs,sl I1 s.uses,sl B1 s.used,sl I1 s.free,sl erow h,sl I1 w,sl am d]=some (CL ⟨r,p,cs,⟨s,h,w⟩,d⟩):=rfl
theorem aggC11 (r:Rt)(p:List Pt)(cs:Certs)(s:Slots)(h:List Evt)(w:List Int)(d:List Due):RF.ev .agg [.i64 r.num,.i64 r.den,sl row p,.i64 cs.next,sl hrow cs.list,sl I1 s.uses,sl B1 s.used,sl I1 s.free,sl erow h,sl I1 w,sl am d]=some (CL ⟨r,p,cs,⟨s,h,w⟩,d⟩):=rfl
theorem GB {l:List Pt}{t:Rt}(h:okF l)(hr:rok t=true){x:Crt}(hx:x.ok)(h1:inF l x.low=true)(h2:inF l x.high=true):bS (ptOf l x.high) (ptOf l x.low) t=0:=
 (jn (c:=⟨t,l,⟨0,[]⟩,⟨⟨[],[],[]⟩,[],[]⟩,[]⟩) h hr (x:=⟨0,x⟩) hx).2 (by unfold knownH;simp only;rw[h1,h2];rfl)
theorem nO {l:List Pt}(h:okF l){id:Int}(hi:inF l id=true):¬(ptOf l id).id<0:=by
 obtain⟨i,p,h1,h2,h3,h4⟩:=aU h hi;rw[h4];have:=aX h p (List.mem_of_getElem? h1);omega
theorem cPP0 (p:Pt):RF.ev (.cell 0) [PP p]=some (.i64 p.id):=rfl
open Classical in
theorem P2 {c:Clock}{x:Crt}(h:CAdd c x)(h64:aE c):((fT c x).2=false→Ans D 238 [CL c,CP x] [CL (dt c x),.i64 c.certs.next,.i64 0])∧
  ∀{fr:List Int} {i:Nat} {u:Int},(fT c x).2=true→c.agenda.slots.free=fr++[(i:Int)]→c.agenda.slots.uses[i]?=some u→u<1000000→Ans D 238 [CL c,CP x] [CL (certD c x fr i u),.i64 c.certs.next,.i64 0]:=by
 have hc:=jv h.ok;have m1:=phi (sD h64 (gW_of h.ok));rw[decide_eq_true h.ok,show okE true=0 from rfl] at m1
 have hF:=h.ok.2.1;have m2:=phi (PY h.ok.2.2.1 h.cok h.new h.room h.next);have m3:=phi (Iy (x:=x) hF h64.1);rw[if_pos (GB hF h.ok.1 h.cok h.low h.high)] at m3;have n8:decide ((0:Int)=8)=false:=rfl;have s0:=subM (f:=am) (l:=c.due);have p1:=nO hF h.low;have p2:=nO hF h.high;constructor
 ·intro hf;have hf':(failT c.now (ptOf c.pts x.high) (ptOf c.pts x.low)).2=false:=hf;rw[hf'] at m3;refine ans_of k238_ok s238 rfl ⟨1,?_⟩;unfold k238;simp only[den_lt,shCL,shCP,shapeR,pCL3,pCL2,pCL0,m1,m2,shCS,cCP0,cCP1,phi (c315 hF _),cPP0,EV,decide_true,Bool.not_true,Bool.false_eq_true,if_false,n8,decide_eq_false p1,decide_eq_false p2,phi (c215 hc),cCL10,List.length_map,m3,cCL5,cCL6,cCL7,cCL8,cCL9];unfold k238_1;simp only[EV,den_lt,pCLk,pCSk,s0,aggC8];rfl
 ·intro fr i u hf he hu hm;have hf':(failT c.now (ptOf c.pts x.high) (ptOf c.pts x.low)).2=true:=hf;rw[hf'] at m3;obtain⟨f1,f2⟩:=g9 hF h64.1 h.ok.1 h.low h.high hf';have m4:=phi (P1 h.ok.2.2.2.1 he hu hm (t:=(fT c x).1) (n:=c.certs.next) ⟨f1,h.ok.2.2.1.2.1,by have:=h.next;omega⟩ (fF h.ok) f2 h64.2);have m4:PhiS D 317 [AG c.agenda,R (failT c.now (ptOf c.pts x.high) (ptOf c.pts x.low)).1,.v (.int .i64 c.certs.next)]=_:=m4;refine ans_of k238_ok s238 rfl ⟨1,?_⟩;unfold k238;simp only[den_lt,shCL,shCP,shapeR,pCL3,pCL2,pCL0,pCL5,m1,m2,shCS,cCP0,cCP1,phi (c315 hF _),cPP0,EV,decide_true,Bool.not_true,Bool.false_eq_true,if_false,n8,decide_eq_false p1,decide_eq_false p2,phi (c215 hc),cCL10,List.length_map,m3,m4,shAG,shHD,pHD,aggDu,bsDu,subDu,appDu hc.due,cAG0,cAG1,cAG2,cAG3,cAG4,if_true];unfold k238_1;simp only[EV,den_lt,pCLk,pCSk,lastDu,aggC8];rfl
theorem P3 {c:Clock}{x:Crt}(h:CAdd c x)(h64:aE c):((fT c x).2=false→Ans D 311 [CL c,CP x] [CL (dt c x),.i64 c.certs.next,.i64 0])∧
  ∀{fr:List Int} {i:Nat} {u:Int},(fT c x).2=true→c.agenda.slots.free=fr++[(i:Int)]→c.agenda.slots.uses[i]?=some u→u<1000000→Ans D 311 [CL c,CP x] [CL (certD c x fr i u),.i64 c.certs.next,.i64 0]:=by
 have hc:=jv h.ok;have hF:=h.ok.2.1;have m2:=phi (PX h.ok.2.2.1 h.cok h.new h.room h.next);have m3:=phi (Ix (x:=x) hF h64.1 h.low h.high);have s0:=subM (f:=am) (l:=c.due);constructor
 ·intro hf;have hf':(failT c.now (ptOf c.pts x.high) (ptOf c.pts x.low)).2=false:=hf;rw[hf'] at m3;refine ans_of k311_ok s311 rfl ⟨1,?_⟩;unfold k311;simp only[den_lt,shCL,shCP,shapeR,pCL3,pCL2,pCL0,m2,shCS,EV,decide_true,Bool.not_true,Bool.not_false,Bool.false_eq_true,if_false,if_true,phi (c112 hc),cCL10,List.length_map,m3,cCL0,cCL1,cCL2,cCL5,cCL6,cCL7,cCL8,cCL9,cCS0,cCS1,s0,aggC11];rfl
 ·intro fr i u hf he hu hm;have hf':(failT c.now (ptOf c.pts x.high) (ptOf c.pts x.low)).2=true:=hf;rw[hf'] at m3;obtain⟨f1,f2⟩:=g9 hF h64.1 h.ok.1 h.low h.high hf';have m4:=phi (PZ h.ok.2.2.2.1 he hu hm (t:=(fT c x).1) (n:=c.certs.next) ⟨f1,h.ok.2.2.1.2.1,by have:=h.next;omega⟩ (fF h.ok) f2 h64.2);have m4:PhiS D 374 [AG c.agenda,R (failT c.now (ptOf c.pts x.high) (ptOf c.pts x.low)).1,.v (.int .i64 c.certs.next)]=_:=m4;have m5:=phi (PQ (aT.1 h.ok.2.2.2.1.1));rw[nH he hu,decide_eq_true hm] at m5;refine ans_of k311_ok s311 rfl ⟨1,?_⟩;unfold k311;simp only[den_lt,shCL,shCP,shapeR,pCL3,pCL2,pCL0,pCL5,pCL53,m2,shCS,EV,decide_true,Bool.not_true,Bool.not_false,Bool.false_eq_true,if_false,if_true,phi (c112 hc),cCL10,List.length_map,m3,m4,m5,shAG,shHD,pHD,aggDu,bsDu,subDu,appDu hc.due,cCL0,cCL1,cCL2,cCS0,cCS1,cAG0,cAG1,cAG2,cAG3,cAG4,lastDu,aggC11];rfl
theorem P4 {l k:List Pt}(hl:l.length≤1000):Ans D 234 [sl row l,sl row k] [.bool (decide (l=k))]:=by
 refine ans_of EZ MY rfl ⟨1001,?_⟩;unfold uR;simp only[EV,List.length_map,Bool.not_eq_true',decide_eq_false_iff_not];by_cases h:l.length=k.length
 ·rw[if_neg (by omega)];refine dq h (run_list (l:=l.zip k) (st:=fun i=>[.i64 (i:Int)]) (fun i x self hx _=>?_) (fun _ self=>?_) (by rw[an h];omega))
  ·obtain⟨hp,hq⟩:=aL hx;unfold pi;simp only[tixM hp (row_len _),eltM hp,tixM hq (row_len _),eltM hq,rowP,Ij,EV,decide_eq_true_eq,Bool.not_eq_true',decide_eq_false_iff_not,if_lt (get_lt hp),up1 (show i<1000000000 by have:=get_lt hp;omega)]
   by_cases e:x.1=x.2<;>simp[e]
  ·rw[an h];unfold pi;simp only[EV,decide_eq_true_eq,if_ge,zF]
 ·rw[if_pos (by omega),decide_eq_false (fun e=>h (by rw[e]))]
theorem kN {c:Clock}(h:Fresh c):aE c:=⟨h.now64,h.ev64⟩
theorem K5 {c:Clock}{x:Crt}(h:Fresh c)(ha:CAdd c x):Ans D 238 [CL c,CP x] [CL (certN c x),.i64 c.certs.next,.i64 0]:=by
 obtain⟨h1,h2⟩:=P2 ha (kN h);obtain⟨e1,e2⟩:=fG h ha.room;unfold certN;cases hf:(fT c x).2 with
 |false=>rw[if_neg (by simp)];exact h1 hf
 |true=>rw[if_pos rfl];exact h2 hf e1 e2 (by omega)
theorem K6 {c:Clock}{x:Crt}(h:Fresh c)(ha:CAdd c x):Ans D 311 [CL c,CP x] [CL (certN c x),.i64 c.certs.next,.i64 0]:=by
 obtain⟨h1,h2⟩:=P3 ha (kN h);obtain⟨e1,e2⟩:=fG h ha.room;unfold certN;cases hf:(fT c x).2 with
 |false=>rw[if_neg (by simp)];exact h1 hf
 |true=>rw[if_pos rfl];exact h2 hf e1 e2 (by omega)
theorem gm {c:Clock}{es:List Crt}{k:Nat}{x:Crt}(hx:es[k]?=some x):certAll c (es.take (k+1))=certN (certAll c (es.take k)) x:=by
 unfold certAll;rw[List.take_add_one,hx,List.foldl_append];rfl
theorem I5 {l:List Pt}{t:Rt}{es:List Crt}(hl:okF l)(ht:In64 t)(hr:rok t=true)(hE:EdgOk l es):Ans D 140 [CL (newC l t),F l,sl ac es] [CL (certAll (newC l t) es),.i64 0]:=by
 have hlen:=hE.len;have h64:=hl.1;have z:(newC l t).certs.list.length=0:=rfl;have d0:decide (((0:Nat):Int)<((0:Nat):Int))=false:=rfl;have d0':decide ((0:Int)<((0:Nat):Int))=false:=rfl;have e234:=phi (P4 (l:=l) (k:=l) (by omega));rw[decide_eq_true rfl] at e234;have pts:(newC l t).pts=l:=rfl;refine ans_of D6 L7 rfl ⟨1001,?_⟩;unfold tN;simp only[den_lt,shCL,shapeF,cCL0,cCL1,cCL2,kL,cCL4,cCL5,cCL6,cCL7,cCL8,cCL9,cCL10,EV,List.length_map,z,pts];rw[denW_succ];unfold yC;simp only[EV,d0,d0',Bool.false_eq_true,if_false];unfold yB;simp only[EV,den_lt,cellF,e234,Bool.not_true,Bool.false_eq_true,if_false];unfold yA;simp only[EV,List.length_map]
 let st:Nat→List PV:=fun k=>[.i64 0,.i64 (certAll (newC l t) (es.take k)).now.num,.i64 (certAll (newC l t) (es.take k)).now.den,sl row (certAll (newC l t) (es.take k)).pts,.i64 (certAll (newC l t) (es.take k)).certs.next,sl hrow (certAll (newC l t) (es.take k)).certs.list,sl I1 (certAll (newC l t) (es.take k)).agenda.slots.uses,sl B1 (certAll (newC l t) (es.take k)).agenda.slots.used,sl I1 (certAll (newC l t) (es.take k)).agenda.slots.free,sl erow (certAll (newC l t) (es.take k)).agenda.heap,sl I1 (certAll (newC l t) (es.take k)).agenda.wher,sl am (certAll (newC l t) (es.take k)).due,.i64 (k:Int)]
 refine(run_up (m:=1001) (n:=es.length) (st:=st) (fin:=some [CL (certAll (newC l t) es),.i64 0]) (fun k self hk=>?_) (fun self=>?_) (by omega))
 ·have hx:es[k]?=some es[k]:=List.getElem?_eq_getElem _;have A:=hG hE hl ht hr k (by omega);obtain⟨ha,hnew⟩:=kM hE A hx;have hroom:=ha.room;show den (PhiS D) 1001 jE _ _=self [.i64 0,.i64 (certAll (newC l t) (es.take (k+1))).now.num,.i64 (certAll (newC l t) (es.take (k+1))).now.den,sl row (certAll (newC l t) (es.take (k+1))).pts,.i64 (certAll (newC l t) (es.take (k+1))).certs.next,sl hrow (certAll (newC l t) (es.take (k+1))).certs.list,sl I1 (certAll (newC l t) (es.take (k+1))).agenda.slots.uses,sl B1 (certAll (newC l t) (es.take (k+1))).agenda.slots.used,sl I1 (certAll (newC l t) (es.take (k+1))).agenda.slots.free,sl erow (certAll (newC l t) (es.take (k+1))).agenda.heap,sl I1 (certAll (newC l t) (es.take (k+1))).agenda.wher,sl am (certAll (newC l t) (es.take (k+1))).due,.i64 ((k+1:Nat):Int)]
  rw[gm hx];simp only[st];generalize certAll (newC l t) (es.take k)=c at A ha hnew hroom⊢;generalize es[k]=x at hx ha hnew⊢;have m:=phi (K5 A.fresh ha);unfold jE;simp only[EV,decide_eq_true_eq,if_lt hk,den_lt,tixM hx (lenC _),eltM hx,rowC,List.length_map];refine(run_list (m:=1001) (l:=c.certs.list) (p:=fun g=>!decide (g.cert=x)) (st:=fun i=>[.i64 (i:Int)]) (r:=none) (fin:=self [.i64 0,.i64 (certN c x).now.num,.i64 (certN c x).now.den,sl row (certN c x).pts,.i64 (certN c x).certs.next,sl hrow (certN c x).certs.list,sl I1 (certN c x).agenda.slots.uses,sl B1 (certN c x).agenda.slots.used,sl I1 (certN c x).agenda.slots.free,sl erow (certN c x).agenda.heap,sl I1 (certN c x).agenda.wher,sl am (certN c x).due,.i64 ((k+1:Nat):Int)]) (fun i g self' hg _=>?_) (fun hall self'=>?_) (by omega)).trans ?_
  ·have hne:=hnew g (List.mem_of_getElem? hg);unfold om;simp only[den_lt,tixM hg (lenH _),eltM hg,rowH,pHP,eqvC,EV,decide_eq_true_eq,if_lt (get_lt hg),up1 (show i<1000000000 by have:=get_lt hg;omega),hne,decide_false,Bool.not_false,Bool.false_eq_true,if_true,if_false]
  ·have g0:decide (-1≥(0:Int))=false:=rfl;have g1:decide ((0:Int)≤ -1)=false:=rfl;unfold om;simp only[EV,decide_eq_true_eq,if_ge];unfold yz;simp only[EV,g0,g1,Bool.false_eq_true,if_false,den_lt,gX,m,shCL,decide_true,Bool.not_true,cCL0,cCL1,cCL2,kL,cCL4,cCL5,cCL6,cCL7,cCL8,cCL9,cCL10,cCP0,cCP1];unfold yy;simp only[EV,up1 (show k<1000000000 by omega)]
  ·rw[if_pos (by rw[List.all_eq_true];intro g hg;simpa using hnew g hg)]
 ·have e:es.take es.length=es:=List.take_length;simp only[st,e];unfold jE;simp only[EV,decide_eq_true_eq,if_ge];unfold yx;simp only[EV,den_lt,gX]
theorem c227 {l:List Pt}{t:Rt}{es:List Crt}(hl:okF l)(ht:In64 t)(hr:rok t=true)(hE:EdgOk l es):Ans D 227 [CL (newC l t),F l,sl ac es] [CL (certAll (newC l t) es),.i64 0]:=by
 have hlen:=hE.len;have h64:=hl.1;have z:(newC l t).certs.list.length=0:=rfl;have d0:decide (((0:Nat):Int)<((0:Nat):Int))=false:=rfl;have d0':decide ((0:Int)<((0:Nat):Int))=false:=rfl;have e28:=phi (c28 (l:=l) (k:=l) (by omega));rw[decide_eq_true rfl] at e28;have pts:(newC l t).pts=l:=rfl;have hc:=jv (fH hl ht hr).ok;refine ans_of EW MV rfl ⟨1001,?_⟩;unfold uO;simp only[den_lt,shCL,shapeF,phi (c112 hc),cCL0,cCL1,cCL2,kL,cCL4,cCL5,cCL6,cCL7,cCL8,cCL9,cCL10,EV,List.length_map,pts];rw[denW_succ];unfold zz;simp only[den_lt,cCL4,EV,List.length_map,z,d0,d0',Bool.false_eq_true,if_false];unfold zy;simp only[EV,den_lt,Bt,e28,Bool.not_true,Bool.false_eq_true,if_false];unfold zx;simp only[EV]
 let st:Nat→List PV:=fun k=>[.i64 (certAll (newC l t) (es.take k)).now.num,.i64 (certAll (newC l t) (es.take k)).now.den,sl row (certAll (newC l t) (es.take k)).pts,.i64 (certAll (newC l t) (es.take k)).certs.next,sl hrow (certAll (newC l t) (es.take k)).certs.list,sl I1 (certAll (newC l t) (es.take k)).agenda.slots.uses,sl B1 (certAll (newC l t) (es.take k)).agenda.slots.used,sl I1 (certAll (newC l t) (es.take k)).agenda.slots.free,sl erow (certAll (newC l t) (es.take k)).agenda.heap,sl I1 (certAll (newC l t) (es.take k)).agenda.wher,sl am (certAll (newC l t) (es.take k)).due,.i64 ((certAll (newC l t) (es.take k)).due.length:Int),.i64 (k:Int)]
 refine(run_up (m:=1001) (n:=es.length) (st:=st) (fin:=some [CL (certAll (newC l t) es),.i64 0]) (fun k self hk=>?_) (fun self=>?_) (by omega))
 ·have hx:es[k]?=some es[k]:=List.getElem?_eq_getElem _;have A:=hG hE hl ht hr k (by omega);obtain⟨ha,hnew⟩:=kM hE A hx;have hroom:=ha.room;show den (PhiS D) 1001 jM _ _=self [.i64 (certAll (newC l t) (es.take (k+1))).now.num,.i64 (certAll (newC l t) (es.take (k+1))).now.den,sl row (certAll (newC l t) (es.take (k+1))).pts,.i64 (certAll (newC l t) (es.take (k+1))).certs.next,sl hrow (certAll (newC l t) (es.take (k+1))).certs.list,sl I1 (certAll (newC l t) (es.take (k+1))).agenda.slots.uses,sl B1 (certAll (newC l t) (es.take (k+1))).agenda.slots.used,sl I1 (certAll (newC l t) (es.take (k+1))).agenda.slots.free,sl erow (certAll (newC l t) (es.take (k+1))).agenda.heap,sl I1 (certAll (newC l t) (es.take (k+1))).agenda.wher,sl am (certAll (newC l t) (es.take (k+1))).due,.i64 ((certAll (newC l t) (es.take (k+1))).due.length:Int),.i64 ((k+1:Nat):Int)]
  rw[gm hx];simp only[st];generalize certAll (newC l t) (es.take k)=c at A ha hnew hroom⊢;generalize es[k]=x at hx ha hnew⊢;have m:=phi (K6 A.fresh ha);have m2:=phi (Bh (c:=c.certs) (x:=x) (by omega));rw[show(c.certs.list.any fun h=>decide (h.cert=x))=false from by rw[List.any_eq_false];intro g hg;simpa using hnew g hg] at m2
  have s0:=subM (f:=am) (l:=c.due);unfold jM;simp only[EV,decide_eq_true_eq,if_lt hk,den_lt,tixM hx (lenC _),eltM hx,rowC,List.length_map,CV,m2,Bool.false_eq_true,if_false,s0,gX,m,shCL,decide_true,Bool.not_true,cCL0,cCL1,cCL2,kL,cCL4,cCL5,cCL6,cCL7,cCL8,cCL9,cCL10];unfold zw;simp only[EV,up1 (show k<1000000000 by omega)]
 ·have e:es.take es.length=es:=List.take_length;simp only[st,e];have s0:=subM (f:=am) (l:=(certAll (newC l t) es).due);unfold jM;simp only[EV,List.length_map,decide_eq_true_eq,if_ge];unfold zu;simp only[EV,den_lt,s0,gX]
theorem gn {t:Rt}{l:List Pt}(hi:Ids l){p:Pt}(hp:p∈l)(h: ∀q∈l,q≠p→leads t p q=true):((be t l).map Pt.id)[0]?=some p.id:=by
 have pm:=aJ t l;have ho:=eE (t:=t) hi;cases e:be t l with
 |nil=>rw[e] at pm;have:=pm.mem_iff.2 hp;cases this
 |cons o os=>
  rw[e] at pm ho;by_cases c:o=p
  ·rw[c];rfl
  ·exfalso;have h1:=h o (pm.mem_iff.1 (by simp)) c;have h2:=(List.pairwise_cons.1 ho).1 p (by
    rcases List.mem_cons.1 (pm.mem_iff.2 hp) with h|h
    ·exact absurd h.symm c
    ·exact h)
   rw[bR h1] at h2;cases h2
theorem xV {t:Rt}:((be t []).map Pt.id)=[]:=by
 have:=(aJ t []).length_eq;simp only[List.length_nil,List.length_eq_zero_iff] at this;rw[this];rfl
theorem BB {α:Type}{p:α→Bool}{l:List α}{i:Nat}{a:α}(h:l[i]?=some a)(ha:p a=true)(hf: ∀j b,j<i→l[j]?=some b→p b=false):cL p l=(i:Int):=by
 unfold cL;have:l.findIdx? p=some i:=by
  rw[List.findIdx?_eq_some_iff_getElem];have hi:=get_lt h;refine⟨hi,?_,fun j hj=>?_⟩
  ·rw[List.getElem?_eq_getElem hi] at h;cases h;exact ha
  ·rw[Bool.not_eq_true];exact hf j _ hj (List.getElem?_eq_getElem (by omega))
 rw[this];rfl
theorem xW {t:Rt}{l:List Pt}(h:okF l)(hne:l≠[]): ∃(i:Nat) (p:Pt),l[i]?=some p∧cL (fun y=>decide (-1=y)) (ax t l)=(i:Int)∧((be t l).map Pt.id)[0]?=some p.id:=by
 have hI:=risen_ids h.2.2;have h0: ∀p∈l,0≤p.id:=fun p hp=>(aX h p hp).1;obtain⟨b,k,e⟩: ∃b k,l=b::k:=by
  cases l with
  |nil=>exact absurd rfl hne
  |cons b k=>exact⟨b,k,rfl⟩
 have htm:topP t k b∈l:=by
  rw[e];rcases topP_mem t k b with h|h
  ·rw[h];simp
  ·simp[h]
 have htop: ∀q∈l,q≠topP t k b→leads t (topP t k b) q=true:=by
  rw[e] at hI⊢;exact topP_top k b hI
 obtain⟨i,hi⟩:=List.mem_iff_getElem?.1 htm;have hkeys:=iD (t:=t) h;have hhang:hangs t l=((topP t k b).id,-1)::(hangP t (side (b::k) (topP t k b).id 0 0) (topP t k b).id 1++hangP t (side (b::k) (topP t k b).id 0 1) (topP t k b).id 1):=by
  unfold hangs;rw[e,hangP]
 have luk_in: ∀p∈l,(p.id,luk (hangs t l) p.id 0)∈hangs t l:=fun p hp=>lB (kA 64 l (-1) 0 h.1 hI h0 p hp);have h1:luk (hangs t l) (topP t k b).id 0= -1:=by
  have a:=luk_in _ htm;have c:((topP t k b).id,(-1:Int))∈hangs t l:=by rw[hhang];simp
  obtain⟨x,hx⟩:=List.mem_iff_getElem?.1 a;obtain⟨y,hy⟩:=List.mem_iff_getElem?.1 c;have:=nodup_get.1 hkeys x y (topP t k b).id (by rw[List.getElem?_map,hx];rfl) (by rw[List.getElem?_map,hy];rfl);subst this;rw[hx] at hy;simp only[Option.some.injEq,Prod.mk.injEq,true_and] at hy;exact hy
 have h2: ∀p∈l,p≠topP t k b→luk (hangs t l) p.id 0≠ -1:=fun p hp hne'=>by
  have a:=luk_in p hp;generalize luk (hangs t l) p.id 0=u at a;rw[hhang] at a;rcases List.mem_cons.1 a with a|a
  ·simp only[Prod.mk.injEq] at a;exact absurd (hI.inj hp htm a.1) hne'
  ·have go: ∀c,(p.id,u)∈hangP t (side (b::k) (topP t k b).id 0 c) (topP t k b).id 1→u≠ -1:=fun c hc=>by
    have hsub: ∀q∈side (b::k) (topP t k b).id 0 c,q∈l:=fun q hq=>by rw[e];exact(List.mem_filter.1 hq).1
    have hlen:(side (b::k) (topP t k b).id 0 c).length≤64:=by
     have:=List.length_filter_le (fun q:Pt=>decide (q.id≠(topP t k b).id)&& decide (bitI q.id 0=c)) (b::k);have h64:=h.1;rw[e] at h64;unfold side;omega
    have hIds:Ids (side (b::k) (topP t k b).id 0 c):=by rw[e] at hI;exact hI.filter _
    obtain⟨p',_,_,e2⟩:=ct 64 _ _ 1 hlen hIds _ hc;simp only at e2;rcases e2 with e2|⟨q,hq,e3,_⟩
    ·have:=h0 _ htm;omega
    ·have:=h0 q (hsub q hq);omega
   rcases List.mem_append.1 a with a|a
   ·exact go 0 a
   ·exact go 1 a
 have up: ∀(j:Nat) (p:Pt),l[j]?=some p→(ax t l)[j]?=some (luk (hangs t l) p.id 0):=fun j p hp=>by
  unfold ax;rw[List.getElem?_map,hp];rfl
 refine⟨i,_,hi,BB (up i _ hi) (by rw[h1];rfl) (fun j v hj hv=>?_),gn hI htm htop⟩;obtain⟨p,hp⟩: ∃p,l[j]?=some p:=⟨l[j]'(by have:=get_lt hi;omega),List.getElem?_eq_getElem _⟩;rw[up j p hp] at hv;cases hv;refine decide_eq_false fun e'=>h2 p (List.mem_of_getElem? hp) (fun e''=>?_) e'.symm;have:=nodup_get.1 hI.nodup i j _ hi (by rw[hp,e'']);omega
theorem xX {t:Rt}{l:List Pt}(h:okF l)(hne:l≠[]): ∃(k:Nat) (n:Nod),(cart t l).root=(k:Int)∧(cart t l).nodes[k]?=some n∧((be t l).map Pt.id)[0]?=some n.id:=by
 have C:=cg (aF (t:=t) h.2.2);have hr:IsLink (ldF t l) 0 l.length (cart t l).root:=C.1;have hpos:0<l.length:=List.length_pos_iff.2 hne;rcases hr with⟨h1,_⟩|⟨k,h1,h2,h3,h4⟩
 ·omega
 ·obtain⟨x,hx⟩: ∃x,(cmake (ldF t l) l.length).2.2[k]?=some x:=⟨(cmake (ldF t l) l.length).2.2[k]'(by rw[C.2.1];exact h3),List.getElem?_eq_getElem _⟩;obtain⟨n,n1,n2,n3,p,n4,n5⟩:=bI h hx;refine⟨k,n,h1,n1,?_⟩;rw[n5];refine gn (risen_ids h.2.2) (List.mem_of_getElem? n4) fun q hq hne'=>?_;obtain⟨j,hj⟩:=List.mem_iff_getElem?.1 hq;have:=h4 j (by omega) (get_lt hj) (fun e=>by subst e;rw[n4] at hj;cases hj;exact hne' rfl);rw[ldF_get n4 hj] at this;exact this
theorem xY {t:Rt}:(cart t []).root= -1:=by
 have C:=cg (aF (t:=t) (l:=[]) (by intro i;simp));have hr:IsLink (ldF t []) 0 0 (cart t []).root:=C.1;rcases hr with⟨_,h2⟩|⟨k,h1,h2,h3,h4⟩
 ·exact h2
 ·omega
def beat (t:Rt)(l:List Pt)(a b:Int):Prop:=b<0∨a=b∨(0≤a∧leads t (ptOf l a) (ptOf l b)=true)
theorem BC {t:Rt}{l:List Pt}(h:okF l){a b:Int}(ha:valK l a)(hb:valK l b):beat t l (wonI t l a b) a∧beat t l (wonI t l a b) b:=by
 unfold wonI;by_cases h1:a<0
 ·rw[if_pos h1];exact⟨.inl h1,.inr (.inl rfl)⟩
 rw[if_neg h1];by_cases h2:b<0
 ·rw[if_pos h2];exact⟨.inr (.inl rfl),.inl h2⟩
 rw[if_neg h2];by_cases h3:leads t (ptOf l a) (ptOf l b)=true
 ·rw[if_pos h3];exact⟨.inr (.inl rfl),.inr (.inr ⟨by omega,h3⟩)⟩
 ·rw[if_neg h3];refine⟨?_,.inr (.inl rfl)⟩;by_cases e:a=b
  ·exact .inr (.inl e.symm)
  ·refine .inr (.inr ⟨by omega,?_⟩);rcases valK_in h ha with g|⟨i,p,p1,p2,_,p4,_⟩
   ·omega
   rcases valK_in h hb with g|⟨j,q,q1,q2,_,q4,_⟩
   ·omega
   rw[p4,q4] at h3⊢;rcases leads_total (t:=t) (p:=p) (q:=q) (by rw[p2,q2];exact e) with g|g
   ·exact absurd g h3
   ·exact g
theorem beat_trans {t:Rt}{l:List Pt}{a b c:Int}(h:beat t l a b)(k:beat t l b c):beat t l a c:=by
 rcases k with k|k|⟨k1,k2⟩
 ·exact .inl k
 ·rw[←k];exact h
 ·rcases h with h|h|⟨h1,h2⟩
  ·omega
  ·rw[h];exact .inr (.inr ⟨k1,k2⟩)
  ·exact .inr (.inr ⟨h1,dy h2 k2⟩)
theorem lN {t:Rt}{l:List Pt}{wins places:List Int}(h:okF l)(hf:bX (wonI t l) wins places)(hl:places.length=wins.length+1)(hv: ∀j,valK l (nodeV wins places j)): ∀(n m:Nat),m≤n→m<wins.length+places.length→beat t l (nodeV wins places 0) (nodeV wins places m)
 |n,0,_,_=> .inr (.inl rfl)
 |0,m+1,hn,hm=>by omega
 |n+1,m+1,hn,hm=>by
  have ih:=lN h hf hl hv n (m/2) (by omega) (by omega);have e:=hf (m/2) (by omega);have b:=BC (t:=t) h (hv (2*(m/2)+1)) (hv (2*(m/2)+2));rw[←e] at b;refine beat_trans ih ?_;have:m+1=2*(m/2)+1∨m+1=2*(m/2)+2:=by omega
  rcases this with g|g
  ·rw[g];exact b.1
  ·rw[g];exact b.2
theorem tourn_lead {k:KTourn}(h:az k):(k.clock.pts=[]∧nodeV k.brk.wins k.brk.places 0= -1)∨(k.clock.pts≠[]∧0≤nodeV k.brk.wins k.brk.places 0∧((be k.clock.now k.clock.pts).map Pt.id)[0]?=some (nodeV k.brk.wins k.brk.places 0)):=by
 obtain⟨hc,hb,_,hv,hn,hf,_⟩:=h;have hF:=hc.2.1;have hI:=risen_ids hF.2.2;have hval:=brk_val hb hv;cases hp:k.clock.pts with
 |nil=>
  left
  refine⟨rfl,?_⟩;rcases hval 0 with e|e
  ·exact e
  ·rw[hp] at e;obtain⟨i,p,h1,_⟩:=aU (l:=[]) ⟨by simp,rfl,by intro i;simp⟩ e;simp at h1
 |cons p0 ps=>
  right
  rw[←hp];refine⟨by rw[hp];simp,?_⟩;have hin: ∀p∈k.clock.pts,p.id∈k.brk.places:=fun p hp=>by
   have pm:=sub_perm (l:=k.brk.places.filter fun x=>decide (0≤x)) (k:=k.clock.pts.map Pt.id) (by
    rw[nodup_get];intro i j x hi hj;have ho:=eF.1 hb.1.2.1;have hx:0≤x:=by have:=List.mem_of_getElem? hi;simpa using(List.mem_filter.1 this).2
    have hnd:(k.brk.places.filter fun x=>decide (0≤x)).Nodup:=by
     rw[List.Nodup,List.pairwise_filter];rw[List.pairwise_iff_getElem];intro a b ha hb' hab c1 c2 e;have:=ho a b _ (of_decide_eq_true c1) (List.getElem?_eq_getElem ha) (by rw[e];exact List.getElem?_eq_getElem hb');omega
    exact nodup_get.1 hnd i j x hi hj) (fun x hx=>by
     obtain⟨h1,h2⟩:=List.mem_filter.1 hx;have h2:=of_decide_eq_true h2;rcases hv x h1 with e|e
     ·omega
     ·exact in_ids.1 e) (by rw[List.length_map];omega)
   exact(List.mem_filter.1 (pm.mem_iff.2 (List.mem_map.2 ⟨p,hp,rfl⟩))).1
  have hbeat: ∀p∈k.clock.pts,beat k.clock.now k.clock.pts (nodeV k.brk.wins k.brk.places 0) p.id:=fun p hp=>by
   obtain⟨j,hj⟩:=List.mem_iff_getElem?.1 (hin p hp);have hj':=get_lt hj;have:=lN hF hf hb.1.1.2.2 hval (k.brk.wins.length+j) (k.brk.wins.length+j) (Nat.le_refl _) (by omega);rwa [iy (i:=k.brk.wins.length+j) (x:=p.id) (by omega) (by rw[Nat.add_sub_cancel_left];exact hj)] at this
  have hp0:p0∈k.clock.pts:=by rw[hp];simp
  have hid0:=(aX hF p0 hp0).1;have hpos:0≤nodeV k.brk.wins k.brk.places 0:=by
   rcases hbeat p0 hp0 with g|g|g
   ·omega
   ·omega
   ·exact g.1
  rcases valK_in hF (hval 0) with e|⟨i,p,p1,p2,_,p4,_⟩
  ·omega
  refine⟨hpos,?_⟩;rw[←p2];refine gn hI (List.mem_of_getElem? p1) fun q hq hne=>?_;rcases hbeat q hq with g|g|⟨_,g⟩
  ·have:=(aX hF q hq).1;omega
  ·rw[←p2] at g;exact absurd (hI.inj hq (List.mem_of_getElem? p1) g.symm) hne
  ·obtain⟨j,hj⟩:=List.mem_iff_getElem?.1 hq;rw[p4,ptOf_some hF hj] at g;exact g
def bk (t:Rt)(l:List Pt):Nat→List Int→Nat→List Int
 |0,h,_=>h
 |n+1,h,i=>match h[i]?,h[(i-1)/2]? with
  |some a,some b=>if 0<i∧leads t (ptOf l a) (ptOf l b)=true then bk t l n ((h.set i b).set ((i-1)/2) a) ((i-1)/2) else h
  |_,_=>h
theorem rise_perm {t:Rt}{l:List Pt}: ∀(n:Nat) (h:List Int) (i:Nat),(bk t l n h i).Perm h
 |0,h,i=> .refl _
 |n+1,h,i=>by
  unfold bk;split
  ·rename_i a b ha hb;split
   ·refine(rise_perm n _ _).trans ?_;obtain⟨h1,h2⟩:=List.getElem?_eq_some_iff.1 ha;obtain⟨h3,h4⟩:=List.getElem?_eq_some_iff.1 hb;rw[←h2,←h4];exact List.set_set_perm h1 h3
   ·exact .refl _
  ·exact .refl _
def BD (l:List Pt)(k:Nat):Int:=((l[k]?).map Pt.id).getD 0
def heapB (t:Rt)(l:List Pt):Nat→List Int
 |0=>[]
 |k+1=>bk t l (k+1) (heapB t l k++[BD l k]) k
theorem cR {t:Rt}{l:List Pt}: ∀k,k≤l.length→(heapB t l k).Perm ((l.take k).map Pt.id)
 |0,_=>by simp[heapB]
 |k+1,h=>by
  have hk:l[k]?=some l[k]:=List.getElem?_eq_getElem _;refine(rise_perm _ _ _).trans ?_;rw[List.take_add_one,hk,List.map_append];unfold BD;rw[hk];exact(cR k (by omega)).append_right _
theorem cH {t:Rt}{l:List Pt}{k:Nat}(h:k≤l.length):(heapB t l k).length=k:=by
 rw[(cR k h).length_eq,List.length_map,List.length_take];omega
theorem gq {t:Rt}{l:List Pt}:(heapB t l l.length).Perm (l.map Pt.id):=by
 have:=cR (t:=t) (l:=l) l.length (Nat.le_refl _);rwa [List.take_length] at this
theorem ml {l:List Pt}(h:okF l){x:Int}(hx:x∈l.map Pt.id):0≤x∧x≤65535:=by
 obtain⟨p,hp,rfl⟩:=List.mem_map.1 hx;exact aX h p hp
theorem iU {l:List Pt}(h:okF l){hp:List Int}(pm:hp.Perm (l.map Pt.id)):EdgOk l (edgesH hp):=by
 have hnd:hp.Nodup:=pm.nodup_iff.2 (risen_ids h.2.2);have hlen:=pm.length_eq;rw[List.length_map] at hlen;have h64:=h.1;refine⟨iB hnd,by unfold edgesH;rw[dr];omega,fun x hx=>?_,fun x hx=>in_ids.2 (pm.mem_iff.1 (cE hx).1),fun x hx=>in_ids.2 (pm.mem_iff.1 (cE hx).2)⟩;obtain⟨m1,m2⟩:=cE hx;have b1:=ml h (pm.mem_iff.1 m1);have b2:=ml h (pm.mem_iff.1 m2);refine⟨b1.1,b1.2,b2.1,b2.2,?_⟩;unfold edgesH edgesTo at hx;obtain⟨i,hi,rfl⟩:=List.mem_map.1 hx;rw[List.mem_range] at hi;simp only;intro e;have:=nodup_get.1 hnd (i+1) (i/2) _ (aC (by omega)) (by rw[e];exact aC (by omega));omega
theorem kO {t:Rt}{l:List Pt}(h:okF l){x:Crt}(h1:inF l x.low=true)(h2:inF l x.high=true)(hl:leads t (ptOf l x.high) (ptOf l x.low)=true):x.ok:=by
 have b1:=ml h (in_ids.1 h1);have b2:=ml h (in_ids.1 h2);refine⟨b1.1,b1.2,b2.1,b2.2,fun e=>?_⟩;rw[e,leads_irr] at hl;cases hl
theorem iV {t:Rt}{l:List Pt}(h:okF l):EdgOk l (au l (ax t l)):=by
 refine⟨dZ (risen_ids h.2.2),?_,fun x hx=>?_,fun x hx=>(bC h hx).1,fun x hx=>(bC h hx).2.1⟩
 ·have h64:=h.1;have:(au l (ax t l)).length≤l.length:=by
   unfold au;refine Nat.le_trans (List.length_filterMap_le ..) ?_;rw[List.length_zip];omega
  omega
 ·obtain⟨a,b,c⟩:=bC h hx;exact kO h a b c
theorem iW {t:Rt}{l:List Pt}(h:okF l):EdgOk l (edgsT (cart t l).nodes l.length):=by
 refine⟨fB h _ (Nat.le_refl _),?_,fun x hx=>?_,fun x hx=>(cb h hx).1,fun x hx=>(cb h hx).2.1⟩
 ·have h64:=h.1;have:=cG (cart t l).nodes l.length;omega
 ·obtain⟨a,b,c⟩:=cb h hx;exact kO h a b c
theorem pCL11 (c:Clock):RF.ev (.part 0 11) [CL c]=some (CL c):=rfl
theorem K7 {es:List Crt}{i:Nat}(h:i≤es.length):RF.ev (.tsub 2) [sl ac es,.v (.int .i64 0),.v (.int .i64 (i:Int))]=some (sl ac (es.take i)):=by
 have he:elsOk' 2 (es.map ac)=true:=by
  cases es with
  |nil=>rfl
  |cons a l=>simp[elsOk',lenC]
 rw[kr,if_pos ⟨by omega,by omega,by simp;omega,he,by decide⟩];simp
theorem P5 {i n:Nat}(h:i≤n):RF.ev .bnd [.v (.int .i64 (i:Int)),.v (.int .i64 (n:Int))]=some (.i64 (i:Int)):=by rw[eC,if_pos ⟨by omega,by omega⟩]
theorem shPt (p:Pt):RF.ev (.shape 3) [PP p]=some (PP p):=rfl
theorem mn {l:List Pt}(h:okF l){x:Int}(hx:inF l x=true): ∃(i:Nat) (p:Pt),l[i]?=some p∧p.id=x∧ptOf l x=p:=by
 obtain⟨i,p,h1,h2,_,h4⟩:=aU h hx;exact⟨i,p,h1,h2,h4⟩
open Classical in
theorem BE {l:List Pt}{t:Rt}{es:List Crt}(hl:okF l)(ht:In64 t)(hr:rok t=true)(hE:EdgOk l es):Ans D 217 [CL (newC l t),F l,sl ac es] [CL (certAll (newC l t) es),.i64 0]:=by
 have hlen:=hE.len;have hfr:=fH hl ht hr;have m1:=phi (sD (kN hfr) (gW_of hfr.ok));rw[decide_eq_true hfr.ok,show okE true=0 from rfl] at m1
 have m2:=phi (c231 l);rw[fieldE_ok.2 hl] at m2;refine ans_of k217_ok s217 rfl ⟨1001,?_⟩;unfold k217;simp only[den_lt,shCL,shapeF,m1,m2,EV,decide_true,Bool.not_true,Bool.false_eq_true,if_false,List.length_map];refine(run_list (m:=1001) (l:=es) (p:=fun _=>true) (st:=fun i=>[.i64 (i:Int)]) (r:=none) (fin:=some [CL (certAll (newC l t) es),.i64 0]) (fun i x self hx _=>?_) (fun _ self=>?_) (by omega)).trans (if_pos (by simp))
 ·obtain⟨o1,o2,o3,o4,o5⟩:=hE.ok x (List.mem_of_getElem? hx);unfold o6;simp only[den_lt,tixM hx (lenC _),eltM hx,rowC,cCP0,cCP1,EV,decide_eq_true_eq,if_lt (get_lt hx),gt_iff_lt,up1 (show i<1000000000 by have:=get_lt hx;omega)]
  rw[if_neg (by omega),if_neg (by omega),if_neg (by omega),if_neg (by omega),if_neg o5,if_pos trivial]
 ·unfold o6;simp only[EV,decide_eq_true_eq,if_ge];unfold zg;simp only[EV,List.length_map];refine(run_list (m:=1001) (l:=es) (p:=fun _=>true) (st:=fun i=>[.i64 (i:Int)]) (r:=none) (fin:=some [CL (certAll (newC l t) es),.i64 0]) (fun i x self hx _=>?_) (fun _ self=>?_) (by omega)).trans (if_pos (by simp))
  ·have hn:x∉es.take i:=fun hm=>by
    obtain⟨j,hj⟩:=List.mem_iff_getElem?.1 hm;have hji:j<i:=by have:=get_lt hj;rw[List.length_take] at this;omega
    rw[List.getElem?_take_of_lt hji] at hj;have:=nodup_get.1 hE.nd j i x hj hx;omega
   have m3:=phi (kK (l:=es.take i) x (by rw[List.length_take];omega));rw[decide_eq_false hn] at m3;have hi:=get_lt hx;unfold oZ;simp only[den_lt,tixM hx (lenC _),eltM hx,rowC,P5 (show i≤es.length by omega),K7 (show i≤es.length by omega),m3,EV,List.length_map,decide_eq_true_eq,if_lt hi,Bool.false_eq_true,if_false,if_true,up1 (show i<1000000000 by omega)]
  ·unfold oZ;simp only[EV,decide_eq_true_eq,if_ge];unfold zf;simp only[EV,List.length_map];refine(run_list (m:=1001) (l:=es) (p:=fun _=>true) (st:=fun i=>[.i64 (i:Int)]) (r:=none) (fin:=some [CL (certAll (newC l t) es),.i64 0]) (fun i x self hx _=>?_) (fun _ self=>?_) (by omega)).trans (if_pos (by simp))
   ·obtain⟨a,p,a1,a2,_⟩:=mn hl (hE.low x (List.mem_of_getElem? hx));obtain⟨b,q,b1,b2,_⟩:=mn hl (hE.high x (List.mem_of_getElem? hx));have n1:=phi (c248 hl a1);have n2:=phi (c248 hl b1);rw[a2] at n1;rw[b2] at n2;unfold k217_2;simp only[den_lt,tixM hx (lenC _),eltM hx,rowC,cCP0,cCP1,n1,n2,shPt,EV,List.length_map,decide_eq_true_eq,if_lt (get_lt hx),decide_true,Bool.not_true,Bool.false_eq_true,if_false,if_true,up1 (show i<1000000000 by have:=get_lt hx;omega)]
   ·unfold k217_2;simp only[EV,decide_eq_true_eq,if_ge];unfold ze;simp only[EV,den_lt,phi (PN (jv hfr.ok)),phi (I5 hl ht hr hE),shCL,pCL11]
theorem P6 {l:List Pt}{t:Rt}(h:okF l)(ht:In64 t){a b:Int}(ha:inF l a=true)(hb:inF l b=true):Ans D 280 [F l,R t,.i64 a,.i64 b] [.bool (leads t (ptOf l a) (ptOf l b))]:=by
 obtain⟨i,p,a1,a2,a3,a4⟩:=aU h ha;obtain⟨j,q,b1,b2,b3,b4⟩:=aU h hb;have q1:=phi (dG (l:=l) (by have:=h.1;omega) a);have q2:=phi (dG (l:=l) (by have:=h.1;omega) b);rw[a3] at q1;rw[b3] at q2;refine ans_of k280_ok s280 rfl ⟨1,?_⟩;unfold k280;simp only[den_lt,shapeF,shapeR,cellF,q1,q2,tixM a1 (row_len _),eltM a1,tixM b1 (row_len _),eltM b1,rowP,EV,phi (c323 (okF_pt h a1) (okF_pt h b1) ht),a4,b4]
theorem K8 {l:List Pt}{t:Rt}(h:okF l)(ht:In64 t)(hr:rok t=true){a b:Int}(ha:inF l a=true)(hb:inF l b=true)(hne:a≠b):Ans D 156 [F l,R t,.i64 a,.i64 b] [.bool (leads t (ptOf l a) (ptOf l b))]:=by
 obtain⟨i,p,a1,a2,a4⟩:=mn h ha;obtain⟨j,q,b1,b2,b4⟩:=mn h hb;have:=Il h ht hr a1 b1 (by rw[a2,b2];exact hne);rw[a4,b4];rwa [a2,b2] at this
theorem lO {l:List Pt}{t:Rt}(h:okF l)(ht:In64 t)(hr:rok t=true){N:Nat}{f0 f1 f2:JT}{e0 e1 e4 e5 e6 e7 e8 e9 e10 e11 e12 e13 e14 e15 e16 e17 e18 e19 e20:PV}{H:Nat}(hH:H≤1000): ∀(r i m:Nat) (hp:List Int),i≤r→r<m→i<H→hp.length=H→(∀x∈hp,inF l x=true)→hp.Nodup→
  denW (PhiS D) N k55_3 [f0,f1,f2] [e0,e1,F l,R t,e4,e5,e6,e7,e8,e9,e10,e11,e12,e13,e14,e15,e16,e17,e18,e19,e20,.i64 (H:Int)] m [.i64 (i:Int),sl I1 hp]=f2 [sl I1 (bk t l r hp i)]
 |0,i,m,hp,hi,hm,hiH,hl,hin,hnd=>by
  obtain⟨m,rfl⟩: ∃m',m=m'+1:=⟨m-1,by omega⟩;have:i=0:=by omega
  subst this;rw[denW_succ];unfold k55_3 bk;simp only[EV,decide_eq_true_eq,gt_iff_lt];rw[if_neg (by omega)]
 |r+1,i,m,hp,hi,hm,hiH,hl,hin,hnd=>by
  obtain⟨m,rfl⟩: ∃m',m=m'+1:=⟨m-1,by omega⟩;obtain⟨a,ha⟩: ∃a,hp[i]?=some a:=⟨hp[i],List.getElem?_eq_getElem _⟩;obtain⟨b,hb⟩: ∃b,hp[(i-1)/2]?=some b:=⟨hp[(i-1)/2]'(by omega),List.getElem?_eq_getElem _⟩;have E:bk t l (r+1) hp i=if 0<i∧leads t (ptOf l a) (ptOf l b)=true then bk t l r ((hp.set i b).set ((i-1)/2) a) ((i-1)/2) else hp:=by rw[bk,ha,hb]
  rw[E,denW_succ];by_cases h0:0<i
  rotate_left
  ·rw[if_neg (fun h=>h0 h.1)];unfold k55_3;simp only[EV,decide_eq_true_eq,gt_iff_lt];rw[if_neg (by omega)]
  ·have pm:((hp.set i b).set ((i-1)/2) a).Perm hp:=by
    obtain⟨h1,h2⟩:=List.getElem?_eq_some_iff.1 ha;obtain⟨h3,h4⟩:=List.getElem?_eq_some_iff.1 hb;rw[←h2,←h4];exact List.set_set_perm h1 h3
   have hne:a≠b:=fun e=>by
    have:=nodup_get.1 hnd i ((i-1)/2) a ha (by rw[e];exact hb);omega
   have ih:=lO (l:=l) (t:=t) h ht hr (N:=N) (f0:=f0) (f1:=f1) (f2:=f2) (e0:=e0) (e1:=e1) (e4:=e4) (e5:=e5) (e6:=e6) (e7:=e7) (e8:=e8) (e9:=e9) (e10:=e10) (e11:=e11) (e12:=e12) (e13:=e13) (e14:=e14) (e15:=e15) (e16:=e16) (e17:=e17) (e18:=e18) (e19:=e19) (e20:=e20) (H:=H) hH r ((i-1)/2) m ((hp.set i b).set ((i-1)/2) a) (by omega) (by omega) (by omega) (by rw[pm.length_eq];exact hl) (fun x hx=>hin x (pm.mem_iff.1 hx)) (pm.nodup_iff.2 hnd);have cm:=phi (K8 h ht hr (hin a (List.mem_of_getElem? ha)) (hin b (List.mem_of_getElem? hb)) hne);have q2:=sK h0 (by omega);have s1:=setI (l:=hp) (i:=i) (by omega) b;have s2:RF.ev (.set 0) [sl I1 (hp.set i b),.v (.int .i64 (((i-1)/2:Nat):Int)),.v (.int .i64 a)]=some (sl I1 ((hp.set i b).set ((i-1)/2) a)):=setI (by rw[List.length_set];omega) a;generalize hkk:k55_3=kk at ih;subst hkk;unfold k55_3;simp only[EV,decide_eq_true_eq,gt_iff_lt];rw[if_pos (by omega)];simp only[EV,f_bin,q2,ixM hiH,ixM (show(i-1)/2<H by omega),eltM ha,eltM hb,rowI,den_lt,cm]
   cases hc:leads t (ptOf l a) (ptOf l b) with
   |false=>
    simp only[Bool.false_eq_true,if_false,and_false]
   |true=>
    simp only[h0,and_self,if_true,EV,f_bin,q2,ixM hiH,ixM (show(i-1)/2<H by omega),eltM ha,eltM hb,rowI,den_lt,s1,s2]
    exact ih
theorem jw {l:List Pt}{t:Rt}(h:okF l)(ht:In64 t){N:Nat}{f0:JT}{e0 e1 e2 e3 e6:PV}{H:Nat}(hH:H≤1000): ∀(r i m:Nat) (hp:List Int),i≤r→r<m→i<H→hp.length=H→(∀x∈hp,inF l x=true)→
  denW (PhiS D) N k192_2 [f0] [e0,e1,e2,e3,F l,R t,e6,.i64 (H:Int)] m [.i64 (i:Int),sl I1 hp]=f0 [sl I1 (bk t l r hp i)]
 |0,i,m,hp,hi,hm,hiH,hl,hin=>by
  obtain⟨m,rfl⟩: ∃m',m=m'+1:=⟨m-1,by omega⟩;have:i=0:=by omega
  subst this;rw[denW_succ];unfold k192_2 bk;simp only[EV,decide_eq_true_eq,gt_iff_lt];rw[if_neg (by omega)]
 |r+1,i,m,hp,hi,hm,hiH,hl,hin=>by
  obtain⟨m,rfl⟩: ∃m',m=m'+1:=⟨m-1,by omega⟩;obtain⟨a,ha⟩: ∃a,hp[i]?=some a:=⟨hp[i],List.getElem?_eq_getElem _⟩;obtain⟨b,hb⟩: ∃b,hp[(i-1)/2]?=some b:=⟨hp[(i-1)/2]'(by omega),List.getElem?_eq_getElem _⟩;have E:bk t l (r+1) hp i=if 0<i∧leads t (ptOf l a) (ptOf l b)=true then bk t l r ((hp.set i b).set ((i-1)/2) a) ((i-1)/2) else hp:=by rw[bk,ha,hb]
  rw[E,denW_succ];by_cases h0:0<i
  rotate_left
  ·rw[if_neg (fun h=>h0 h.1)];unfold k192_2;simp only[EV,decide_eq_true_eq,gt_iff_lt];rw[if_neg (by omega)]
  ·have pm:((hp.set i b).set ((i-1)/2) a).Perm hp:=by
    obtain⟨h1,h2⟩:=List.getElem?_eq_some_iff.1 ha;obtain⟨h3,h4⟩:=List.getElem?_eq_some_iff.1 hb;rw[←h2,←h4];exact List.set_set_perm h1 h3
   have ih:=jw (l:=l) (t:=t) h ht (N:=N) (f0:=f0) (e0:=e0) (e1:=e1) (e2:=e2) (e3:=e3) (e6:=e6) (H:=H) hH r ((i-1)/2) m ((hp.set i b).set ((i-1)/2) a) (by omega) (by omega) (by omega) (by rw[pm.length_eq];exact hl) (fun x hx=>hin x (pm.mem_iff.1 hx));have cm:=phi (P6 h ht (hin a (List.mem_of_getElem? ha)) (hin b (List.mem_of_getElem? hb)));have q2:=sK h0 (by omega);have s1:=setI (l:=hp) (i:=i) (by omega) b;have s2:RF.ev (.set 0) [sl I1 (hp.set i b),.v (.int .i64 (((i-1)/2:Nat):Int)),.v (.int .i64 a)]=some (sl I1 ((hp.set i b).set ((i-1)/2) a)):=setI (by rw[List.length_set];omega) a;generalize hkk:k192_2=kk at ih;subst hkk;unfold k192_2;simp only[EV,decide_eq_true_eq,gt_iff_lt];rw[if_pos (by omega)];simp only[EV,f_bin,q2,ixM hiH,ixM (show(i-1)/2<H by omega),eltM ha,eltM hb,rowI,den_lt,cm]
   cases hc:leads t (ptOf l a) (ptOf l b) with
   |false=>
    simp only[Bool.false_eq_true,if_false,and_false]
   |true=>
    simp only[h0,and_self,if_true,EV,f_bin,q2,ixM hiH,ixM (show(i-1)/2<H by omega),eltM ha,eltM hb,rowI,den_lt,s1,s2]
    exact ih
theorem P7 {l:List Pt}{t:Rt}(h:okF l)(ht:In64 t){hp:List Int}{i:Nat}(hi:i<hp.length)(hH:hp.length≤900)(hin: ∀x∈hp,inF l x=true):Ans D 192 [F l,R t,sl I1 hp,.i64 (i:Int)] [sl I1 (bk t l (i+1) hp i)]:=by
 have s0:=subM (f:=I1) (l:=bk t l (i+1) hp i);rw[(rise_perm (t:=t) (l:=l) (i+1) hp i).length_eq] at s0;refine ans_of k192_ok s192 rfl ⟨1001,?_⟩;unfold k192;simp only[den_lt,shapeF,shapeR,appC (l:=hp) (f:=I1) (bytes:=8) (z:=1) (by omega) lenI,EV,List.length_map];refine(jw h ht (N:=1001) (H:=hp.length) (by omega) (i+1) i 1001 hp (by omega) (by omega) hi rfl hin).trans ?_;unfold zc;simp only[EV,s0]
def hO (t:Rt)(l:List Pt):KHeap:=⟨certAll (newC l t) (edgesH (heapB t l l.length)),heapB t l l.length⟩
theorem mo (c:Clock)(h:List Int):RF.ev .agg [CL c,sl I1 h]=some (KH ⟨c,h⟩):=rfl
theorem BF {l:List Pt}{t:Rt}{k:Nat}(hk:k≤l.length): ∀x∈heapB t l k,inF l x=true:=fun x hx=>by
 have:=(cR (t:=t) k hk).mem_iff.1 hx;obtain⟨p,hp,e⟩:=List.mem_map.1 this;exact in_ids.2 (List.mem_map.2 ⟨p,List.mem_of_mem_take hp,e⟩)
theorem BG {l:List Pt}{t:Rt}(h:okF l){k:Nat}(hk:k≤l.length):(heapB t l k).Nodup:=by
 refine(cR (t:=t) k hk).nodup_iff.2 ?_;have:=risen_ids h.2.2;unfold Ids at this;exact this.sublist ((List.take_sublist _ _).map _)
theorem gr {l:List Pt}{t:Rt}{k:Nat}{p:Pt}(hp:l[k]?=some p):heapB t l (k+1)=bk t l (k+1) (heapB t l k++[p.id]) k:=by
 rw[heapB];unfold BD;rw[hp];rfl
theorem rM {l:List Pt}{t:Rt}{k:Nat}{p:Pt}(hp:l[k]?=some p): ∀x∈heapB t l k++[p.id],inF l x=true:=fun x hx=>by
 rcases List.mem_append.1 hx with h|h
 ·exact BF (by have:=get_lt hp;omega) x h
 ·rw[List.mem_singleton] at h;subst h;exact in_ids.2 (List.mem_map.2 ⟨p,List.mem_of_getElem? hp,rfl⟩)
theorem GC {l:List Pt}{t:Rt}(h:okF l){k:Nat}{p:Pt}(hp:l[k]?=some p):(heapB t l k++[p.id]).Nodup:=by
 have:=BG (t:=t) h (k:=k+1) (get_lt hp);rw[gr hp] at this;exact(rise_perm _ _ _).nodup_iff.1 this
theorem P8 {l:List Pt}{t:Rt}(hl:okF l)(ht:In64 t)(hr:rok t=true):Ans D 144 [F l,R t] [KH (hO t l)]:=by
 have h64:=hl.1;have hE:=iU hl (gq (t:=t) (l:=l));refine ans_of Ea Mb rfl ⟨1001,?_⟩;unfold tQ;simp only[den_lt,shapeF,shapeR,EV];refine(run_up (m:=1001) (n:=l.length) (st:=fun k=>[sl I1 (heapB t l k),.i64 (k:Int)]) (fin:=some [KH (hO t l)]) (fun k self hk=>?_) (fun self=>?_) (by omega))
 ·obtain⟨p,hp⟩: ∃p,l[k]?=some p:=⟨l[k],List.getElem?_eq_getElem _⟩;have hbl:=cH (t:=t) (l:=l) (k:=k) (by omega);have ap:=aN (f:=I1) (l:=heapB t l k) (k:=[p.id]) (bytes:=8) (z:=1) (by simp;omega) lenI;have s0:=subM (f:=I1) (l:=heapB t l k++[p.id]);have c1:=phi (P7 (t:=t) hl ht (hp:=heapB t l k++[p.id]) (i:=k) (by simp;omega) (by simp;omega) (rM hp));rw[←gr hp] at c1;unfold k144_2;simp only[den_lt,cellF,EV,List.length_map,decide_eq_true_eq,if_lt hk,appC (l:=heapB t l k) (f:=I1) (bytes:=8) (z:=1) (by omega) lenI,tixM hp (row_len _),eltM hp,cM,bsI,subI1,ap,s0,c1,up1 (show k<1000000000 by omega)]
 ·unfold k144_2;simp only[den_lt,cellF,EV,List.length_map,decide_eq_true_eq,if_ge];unfold yG;simp only[EV,den_lt,phi (sN (l:=l) (t:=t) (by omega)),phi (IG (l:=heapB t l l.length) (by rw[cH (Nat.le_refl _)];omega)),phi (c227 hl ht hr hE),shCL,pCL11,mo];rfl
theorem c55 {l:List Pt}{t:Rt}(hl:okF l)(ht:In64 t)(hr:rok t=true):Ans D 55 [F l,R t] [KH (hO t l),.i64 0]:=by
 have h64:=hl.1;have hE:=iU hl (gq (t:=t) (l:=l));have s9:=subM (f:=I1) (l:=heapB t l l.length);refine ans_of xx s55 rfl ⟨1001,?_⟩;unfold k55;simp only[den_lt,shapeF,shapeR,phi (sO hl ht hr),shCL,cellF,EV,decide_true,Bool.not_true,Bool.false_eq_true,if_false,List.length_map];refine(run_up (m:=1001) (n:=l.length) (st:=fun k=>[sl I1 (heapB t l k),.i64 ((heapB t l k).length:Int),.i64 (k:Int)]) (fin:=some [KH (hO t l),.i64 0]) (fun k self hk=>?_) (fun self=>?_) (by omega))
 ·obtain⟨p,hp⟩: ∃p,l[k]?=some p:=⟨l[k],List.getElem?_eq_getElem _⟩;have hbl:=cH (t:=t) (l:=l) (k:=k) (by omega);have hbl':=cH (t:=t) (l:=l) (k:=k+1) (by omega);have ap:=aN (f:=I1) (l:=heapB t l k) (k:=[p.id]) (bytes:=8) (z:=1) (by simp;omega) lenI;unfold tf;simp only[den_lt,cellF,EV,decide_eq_true_eq,if_lt hk,tixM hp (row_len _),eltM hp,rowP,cPP0,bsI,subI1,ap,List.length_map];refine(lO hl ht hr (N:=1001) (H:=(heapB t l k++[p.id]).length) (by simp;omega) (k+1) k 1001 _ (by omega) (by omega) (by simp;omega) rfl (rM hp) (GC hl hp)).trans ?_;unfold Dj;have e:(heapB t l k++[p.id]).length=(heapB t l (k+1)).length:=by rw[hbl',List.length_append,hbl];rfl
  rw[←gr hp];simp only[EV,up1 (show k<1000000000 by omega),e]
 ·unfold tf;simp only[EV,decide_eq_true_eq,if_ge];unfold Di;simp only[EV,den_lt,s9,phi (IF (l:=heapB t l l.length) (by rw[cH (Nat.le_refl _)];omega)),phi (I5 hl ht hr hE),shCL,pCL11,mo];rfl
theorem c60 {l:List Pt}{t:Rt}(hl:okF l)(ht:In64 t)(hr:rok t=true):Ans D 60 [F l,R t] [KH (hO t l),.i64 0]:=by
 have m1:=phi (db l);rw[fieldE_ok.2 hl] at m1;have m2:=phi (dU ht);rw[hr,show okE true=0 from rfl] at m2
 refine ans_of xB s60 rfl ⟨1,?_⟩;unfold k60;simp only[den_lt,shapeF,shapeR,m1,m2,EV,decide_true,Bool.not_true,Bool.false_eq_true,if_false,phi (P8 hl ht hr),shKH]
def twice:Nat→Nat→Nat→Nat
 |0,n,_=>n
 |f+1,n,m=>if n<m then twice f (2*n) m else n
theorem iX: ∀m:Nat,m<65→1≤twice 7 1 m∧m≤twice 7 1 m∧twice 7 1 m≤64:=by decide
def firstP (l:List Pt):List Int:=l.map Pt.id++List.replicate (twice 7 1 l.length-l.length) (-1)
theorem dL {l:List Pt}(h:okF l):(firstP l).length=twice 7 1 l.length∧1≤(firstP l).length∧(firstP l).length≤64:=by
 have h1:=h.1;obtain⟨a,b,c⟩:=iX l.length (by omega);unfold firstP;simp only[List.length_append,List.length_map,List.length_replicate];omega
theorem bm {l:List Pt}: ∀x∈firstP l,valK l x:=fun x hx=>by
 unfold firstP at hx;rcases List.mem_append.1 hx with h|h
 ·exact .inr (in_ids.2 h)
 ·exact .inl (List.mem_replicate.1 h).2
theorem bP {l:List Pt}(h:okF l):bY (firstP l):=by
 rw[eF];have hI:(l.map Pt.id).Nodup:=risen_ids h.2.2;have key: ∀(i:Nat) (x:Int),0≤x→(firstP l)[i]?=some x→(l.map Pt.id)[i]?=some x:=fun i x h0 hi=>by
  unfold firstP at hi;by_cases c:i<(l.map Pt.id).length
  ·rwa [List.getElem?_append_left c] at hi
  ·rw[List.getElem?_append_right (by omega)] at hi;have:=(List.mem_replicate.1 (List.mem_of_getElem? hi)).2;omega
 intro i j x h0 hi hj;exact nodup_get.1 hI i j x (key i x h0 hi) (key j x h0 hj)
theorem ri {t:Rt}{l:List Pt}{wins places:List Int}(hb:dT wins places)(hf:bX (wonI t l) wins places):bT wins places:=by
 refine⟨hb,fun i hi=>?_⟩;have:=hf i hi;unfold pickA;rw[this];unfold wonI;split
 ·rename_i h1;exact⟨.inr rfl,fun g=>by omega⟩
 ·split
  ·exact⟨.inl rfl,fun g=>by omega⟩
  ·split
   ·exact⟨.inl rfl,fun g=>by omega⟩
   ·exact⟨.inr rfl,fun g=>by omega⟩
def ad (t:Rt)(l:List Pt)(places:List Int):Brk:=⟨places,playD (wonI t l) places (places.length-1) (places.length-1)⟩
theorem fI {t:Rt}{l:List Pt}{places:List Int}(h:okF l)(h1:1≤places.length)(h2:places.length≤64)(hv: ∀x∈places,valK l x)(ho:bY places):
  (ad t l places).wins.length=places.length-1∧bT (ad t l places).wins places∧bX (wonI t l) (ad t l places).wins places:=by
 have hlen:(ad t l places).wins.length=places.length-1:=by unfold ad;simp only;exact aR _
 have hf:bX (wonI t l) (ad t l places).wins places:=(md hlen).1 rfl;refine⟨hlen,ri ⟨⟨h1,h2,by omega⟩,ho,fun x hx=>?_⟩ hf,hf⟩;exact de h (hv x hx)
theorem gt {t:Rt}{l:List Pt}{places:List Int}(h:okF l)(h1:1≤places.length)(h2:places.length≤64)(hv: ∀x∈places,valK l x)(ho:bY places):
  EdgOk l (edsB (ad t l places).wins places (ad t l places).wins.length):=by
 obtain⟨hlen,hb,hf⟩:=fI (t:=t) h h1 h2 hv ho;have facts:=fun e=>dK (b:=ad t l places) (e:=e) h hb hv hf;refine⟨fC (b:=ad t l places) h hb hv hf _ (Nat.le_refl _),?_,fun x hx=>?_,fun x hx=>(facts x hx).1,fun x hx=>(facts x hx).2.1⟩
 ·have:=cz (ad t l places).wins places (ad t l places).wins.length;omega
 ·obtain⟨a,b,c⟩:=facts x hx;exact kO h a b c
theorem P9 {l:List Pt}{t:Rt}{pl:List Int}(h:okF l)(ht:In64 t)(h1:1≤pl.length)(h2:pl.length≤64)(hv: ∀x∈pl,valK l x):Ans D 321 [F l,R t,sl I1 pl] [BR (ad t l pl)]:=by
 have wp:IntKind.i64.wrap ((pl.length:Int)-1)=((pl.length-1:Nat):Int):=by rw[ah (by omega) (by omega)];omega
 have rp:=gi (n:=pl.length-1) (by omega);have agB: ∀w:List Int,RF.ev .agg [sl I1 pl,sl I1 w]=some (BR ⟨pl,w⟩):=fun w=>rfl;refine ans_of FL NI rfl ⟨1001,?_⟩;unfold vR ad;simp only[den_lt,shapeF,shapeR,EV,List.length_map,appC (l:=pl) (f:=I1) (bytes:=8) (z:=1) (by omega) lenI,wp,rp,List.length_replicate];generalize hm:pl.length-1=m at*;have w1:IntKind.i64.wrap ((m:Int)-1)=(m:Int)-1:=ah (by omega) (by omega);rw[w1];have e0:([sl I1 (List.replicate m 0),PV.v (.int .i64 ((m:Int)-1))]:List PV)=[sl I1 (playD (wonI t l) pl m 0),.i64 ((m:Int)-1-((0:Nat):Int))]:=by
  simp[playD]
 rw[e0];refine(run_up (m:=1001) (n:=m) (st:=fun k=>[sl I1 (playD (wonI t l) pl m k),.i64 ((m:Int)-1-(k:Int))]) (fun k self hk=>?_) (fun self=>?_) (by omega))
 ·obtain⟨i,hi⟩: ∃i:Nat,m-1-k=i:=⟨_,rfl⟩;have hii:(m:Int)-1-(k:Int)=(i:Int):=by omega
  have hdn:IntKind.i64.wrap ((i:Int)-1)=(m:Int)-1-((k+1:Nat):Int):=by rw[ah (by omega) (by omega)];omega
  have hP:=iz (P:=valK l) (.inl rfl) (won:=wonI t l) (fun a b=>iS a b) hv k (by omega:k≤m);have hlen:=aR (won:=wonI t l) (places:=pl) (m:=m) k;have hnx:playD (wonI t l) pl m (k+1)=(playD (wonI t l) pl m k).set i (wonI t l (nodeV (playD (wonI t l) pl m k) pl (2*i+1)) (nodeV (playD (wonI t l) pl m k) pl (2*i+2))):=by rw[←hi];rfl
  rw[hnx];generalize playD (wonI t l) pl m k=w at hP hlen;have su:RF.ev .sub [sl I1 w,.v (.int .i64 0),.v (.int .i64 (m:Int))]=some (sl I1 w):=by rw[←hlen];exact subM
  unfold p6;simp only[EV,hii,decide_eq_true_eq,ge_iff_le,if_pos (show(0:Int)≤(i:Int) by omega),dbl (show i<100000000 by omega),up1 (show 2*i<1000000000 by omega),up2 (show 2*i<1000000000 by omega),subM,su,agB,den_lt,phi (gk (b:=⟨pl,w⟩) (i:=2*i+1) (by simp only;omega) (by simp only;omega)),phi (gk (b:=⟨pl,w⟩) (i:=2*i+2) (by simp only;omega) (by simp only;omega)),phi (IP h ht (hP (2*i+1) (by omega)) (hP (2*i+2) (by omega))),ixM (show i<m by omega),setI (l:=w) (i:=i) (by omega),hdn]
 ·have hlen:=aR (won:=wonI t l) (places:=pl) (m:=m) m;generalize playD (wonI t l) pl m m=w at hlen;have su:RF.ev .sub [sl I1 w,.v (.int .i64 0),.v (.int .i64 (m:Int))]=some (sl I1 w):=by rw[←hlen];exact subM
  unfold p6;simp only[EV,decide_eq_true_eq,ge_iff_le,if_neg (show¬(0:Int)≤(m:Int)-1-(m:Int) by omega),Ae,subM,su,agB,den_lt]
theorem Qa {l:List Pt}{t:Rt}{pl:List Int}(h:okF l)(ht:In64 t)(h1:1≤pl.length)(h2:pl.length≤64)(hv: ∀x∈pl,valK l x):Ans D 240 [F l,R t,sl I1 pl] [BR (ad t l pl)]:=by
 refine ans_of E3 M0 rfl ⟨1,?_⟩;unfold uT;simp only[den_lt,shapeF,shapeR,EV,phi (P9 h ht h1 h2 hv),shBR]
theorem fJ {N:Nat}{f0:JT}{e0:PV}{l:List Pt}(hl:l.length≤64): ∀(f n M:Nat),l.length≤n*2^ f→1≤n→f<M→denW (PhiS D) N k142_4 [f0] [e0,F l] M [.i64 (n:Int)]=f0 [.i64 (twice f n l.length:Nat)]
 |0,n,M,h,h1,hM=>by
  obtain⟨M,rfl⟩: ∃m',M=m'+1:=⟨M-1,by omega⟩;rw[denW_succ];unfold k142_4 twice;simp only[den_lt,cellF,EV,List.length_map,decide_eq_true_eq];rw[if_neg (by omega)]
 |f+1,n,M,h,h1,hM=>by
  obtain⟨M,rfl⟩: ∃m',M=m'+1:=⟨M-1,by omega⟩;rw[denW_succ,twice];by_cases c:n<l.length
  ·have ih:=fJ (N:=N) (f0:=f0) (e0:=e0) hl f (2*n) M (by rw[Nat.pow_succ] at h;rw[Nat.mul_comm 2 n,Nat.mul_assoc,Nat.mul_comm 2];exact h) (by omega) (by omega);have w:IntKind.i64.wrap ((n:Int)*2)=((2*n:Nat):Int):=by rw[ah (by omega) (by omega)];omega
   rw[if_pos c];generalize hkk:k142_4=kk at ih;subst hkk;unfold k142_4;simp only[den_lt,cellF,EV,List.length_map,decide_eq_true_eq];rw[if_pos (by omega),w];exact ih
  ·rw[if_neg c];unfold k142_4;simp only[den_lt,cellF,EV,List.length_map,decide_eq_true_eq];rw[if_neg (by omega)]
theorem rj {l:List Pt}{n k:Nat}{p:Pt}(hp:l[k]?=some p)(hn:l.length≤n):((l.take k).map Pt.id++List.replicate (n-k) (-1)).set k p.id=(l.take (k+1)).map Pt.id++List.replicate (n-(k+1)) (-1):=by
 have hk:=get_lt hp;have hlen:((l.take k).map Pt.id).length=k:=by rw[List.length_map,List.length_take];omega
 have e:n-k=n-(k+1)+1:=by omega
 rw[List.set_append_right _ _ (by omega),hlen,Nat.sub_self,e,List.replicate_succ,List.set_cons_zero,List.take_add_one,hp,List.map_append,List.append_assoc];rfl
theorem Qb {l:List Pt}(h:okF l):Ans D 142 [F l] [sl I1 (firstP l)]:=by
 have hl:=h.1;obtain⟨t1,t2,t3⟩:=iX l.length (by omega);refine ans_of D8 L9 rfl ⟨1001,?_⟩;unfold tO;simp only[den_lt,shapeF,EV];refine(fJ (N:=1001) (l:=l) hl 7 1 1001 (by omega) (by omega) (by omega)).trans ?_;unfold firstP;generalize twice 7 1 l.length=n at t1 t2 t3;unfold k142_3;simp only[EV,bsI,subI1,phi (c184 (n:=n) t1 (by omega)),List.length_map,List.length_replicate,den_lt,cellF];have e0:([sl I1 (List.replicate n (-1)),PV.v (.int .i64 0)]:List PV)=[sl I1 ((l.take 0).map Pt.id++List.replicate (n-0) (-1)),.i64 ((0:Nat):Int)]:=by simp
 rw[e0];refine(run_up (m:=1001) (n:=l.length) (st:=fun k=>[sl I1 ((l.take k).map Pt.id++List.replicate (n-k) (-1)),.i64 (k:Int)]) (fun k self hk=>?_) (fun self=>?_) (by omega))
 ·obtain⟨p,hp⟩: ∃p,l[k]?=some p:=⟨l[k],List.getElem?_eq_getElem _⟩;have hlen:((l.take k).map Pt.id++List.replicate (n-k) (-1:Int)).length=n:=by simp;omega
  have st:=setI (l:=(l.take k).map Pt.id++List.replicate (n-k) (-1)) (i:=k) (by rw[hlen];omega) p.id;rw[rj hp t2] at st;unfold k142_2;simp only[den_lt,cellF,EV,decide_eq_true_eq,if_lt hk,tixM hp (row_len _),eltM hp,rowP,cPP0,ixM (show k<n by omega),st,up1 (show k<1000000000 by omega)]
 ·have hlen:(l.map Pt.id++List.replicate (n-l.length) (-1:Int)).length=n:=by simp;omega
  have su:=subM (f:=I1) (l:=l.map Pt.id++List.replicate (n-l.length) (-1:Int));rw[hlen] at su;unfold k142_2;simp only[EV,decide_eq_true_eq,if_ge,List.take_length];unfold k142_1;simp only[EV,su]
theorem Qc {l:List Pt}(h:okF l):Ans D 147 [F l] [sl I1 (firstP l)]:=by
 have hl:=h.1;obtain⟨t1,t2,t3⟩:=iX l.length (by omega);have same:yI=k142_4:=rfl;have hget: ∀k,(k<l.length→ ∀p,l[k]?=some p→(firstP l)[k]?=some p.id)∧(¬k<l.length→k<twice 7 1 l.length→(firstP l)[k]?=some (-1)):=fun k=>by
  unfold firstP;constructor
  ·intro hk p hp;rw[List.getElem?_append_left (by simpa using hk),List.getElem?_map,hp];rfl
  ·intro hk hn;rw[List.getElem?_append_right (by simpa using hk),List.getElem?_replicate,if_pos (by simp;omega)]
 have hlen:(firstP l).length=twice 7 1 l.length:=(dL h).1;refine ans_of Ed Me rfl ⟨1001,?_⟩;unfold tT;simp only[den_lt,shapeF,EV,same];refine(fJ (N:=1001) (l:=l) hl 7 1 1001 (by omega) (by omega) (by omega)).trans ?_;generalize twice 7 1 l.length=n at t1 t2 t3 hget hlen;unfold k147_4;simp only[EV];refine(run_up (m:=1001) (n:=n) (st:=fun k=>[sl I1 ((firstP l).take k),.i64 (((firstP l).take k).length:Int),.i64 (k:Int)]) (fun k self hk=>?_) (fun self=>?_) (by omega))
 ·have hlk:((firstP l).take k).length=k:=by rw[List.length_take];omega
  have hlk':((firstP l).take (k+1)).length=k+1:=by rw[List.length_take];omega
  have ap: ∀x:Int,(firstP l)[k]?=some x→RF.ev (.app 8 1) [sl I1 ((firstP l).take k),.v (.int .i64 (((firstP l).take k).length:Int)),sl I1 [x]]=some (sl I1 ((firstP l).take (k+1))):=fun x hx=>by
   have:=aN (f:=I1) (l:=(firstP l).take k) (k:=[x]) (bytes:=8) (z:=1) (by simp;omega) lenI;rw[this,List.take_add_one,hx];rfl
  unfold ov;simp only[den_lt,cellF,EV,decide_eq_true_eq,if_lt hk,List.length_map];by_cases c:k<l.length
  ·obtain⟨p,hp⟩: ∃p,l[k]?=some p:=⟨l[k],List.getElem?_eq_getElem _⟩;rw[if_pos (by omega)];simp only[EV,tixM hp (row_len _),eltM hp,cM,bsI,subI1,ap _ ((hget k).1 c p hp),List.length_map];unfold ou;simp only[EV,up1 (show k<1000000000 by omega)]
  ·rw[if_neg (by omega)];simp only[EV,bsI,subI1,ap _ ((hget k).2 c hk),List.length_map];unfold ou;simp only[EV,up1 (show k<1000000000 by omega)]
 ·have su:=subM (f:=I1) (l:=firstP l);unfold ov;simp only[EV,decide_eq_true_eq,if_ge];unfold yH;rw[show(firstP l).take n=firstP l from List.take_of_length_le (by omega)]
  simp only[EV,su]
section
variable (t:Rt)(l:List Pt)
def gu:KTourn:=⟨certAll (newC l t) (edsB (ad t l (firstP l)).wins (firstP l) (ad t l (firstP l)).wins.length),ad t l (firstP l)⟩
def jx:Heater:=⟨certAll (newC l t) (edgsT (cart t l).nodes l.length),cart t l⟩
def jy:KHeap:=⟨certAll (newC l t) (au l (ax t l)),ax t l⟩
end
theorem CZ (c:Clock)(b:Brk):RF.ev .agg [CL c,BR b]=some (KT ⟨c,b⟩):=rfl
theorem aggHT (c:Clock)(b:Tree):RF.ev .agg [CL c,TR b]=some (HT ⟨c,b⟩):=rfl
theorem I6 (b:Brk):RF.ev (.part 0 2) [BR b]=some (BR b):=rfl
theorem pTR2 (b:Tree):RF.ev (.part 0 2) [TR b]=some (TR b):=rfl
theorem C0 (k:KTourn):RF.ev (.part 0 13) [KT k]=some (KT k):=rfl
theorem C1 (k:Heater):RF.ev (.part 0 13) [HT k]=some (HT k):=rfl
theorem C2 (k:KHeap):RF.ev (.part 0 12) [KH k]=some (KH k):=rfl
section
variable {l:List Pt}{t:Rt}(hl:okF l)(ht:In64 t)(hr:rok t=true)
include hl ht hr
theorem Qd:Ans D 122 [CL (newC l t),F l,sl I1 (firstP l)] [KT (gu t l),.i64 0]:=by
 obtain⟨_,h1,h2⟩:=dL hl;have hE:=gt (t:=t) hl h1 h2 bm (bP hl);have nw:(newC l t).now=t:=rfl;have m1:PhiS D 123 [F l,R t,sl I1 (firstP l)]=some [BR (ad t l (firstP l)),sl ac (edsB (ad t l (firstP l)).wins (firstP l) (ad t l (firstP l)).wins.length)]:=phi (IQ hl ht hr h1 h2 bm (bP hl) rfl);refine ans_of DW LY rfl ⟨1,?_⟩;unfold tF;simp only[den_lt,shCL,shapeF,pCL0,nw,m1,shBR,phi (BE hl ht hr hE),EV,decide_true,Bool.not_true,Bool.false_eq_true,if_false,pCL11,I6,CZ];rfl
theorem c56:Ans D 56 [F l,R t] [KT (gu t l),.i64 0]:=by
 refine ans_of xy s56 rfl ⟨1,?_⟩;unfold k56;simp only[den_lt,shapeF,shapeR,phi (sO hl ht hr),shCL,EV,decide_true,Bool.not_true,Bool.false_eq_true,if_false,phi (Qb hl),phi (Qd hl ht hr),shKT,C0]
theorem Qe:Ans D 145 [CL (newC l t),F l,sl I1 (firstP l)] [KT (gu t l),.i64 0]:=by
 obtain⟨_,h1,h2⟩:=dL hl;have hE:=gt (t:=t) hl h1 h2 bm (bP hl);have nw:(newC l t).now=t:=rfl;obtain⟨b1,b2,b3⟩:=fI (t:=t) hl h1 h2 bm (bP hl);have m2:=phi (IR (b:=ad t l (firstP l)) (by rw[b1];show(firstP l).length=_;omega) (by show(firstP l).length≤70;omega) (fun i hi=>(b2.2 i hi).1) (fun j=>de hl (brk_val (b:=ad t l (firstP l)) b2 bm j)))
 have m2:PhiS D 176 [BR (ad t l (firstP l))]=some [sl ac (edsB (ad t l (firstP l)).wins (firstP l) (ad t l (firstP l)).wins.length)]:=m2;refine ans_of Eb Mc rfl ⟨1,?_⟩;unfold tR;simp only[den_lt,shCL,shapeF,pCL0,nw,phi (Qa hl ht h1 h2 bm),shBR,m2,phi (c227 hl ht hr hE),EV,decide_true,Bool.not_true,Bool.false_eq_true,if_false,pCL11,I6,CZ];rfl
theorem c61:Ans D 61 [F l,R t] [KT (gu t l),.i64 0]:=by
 have m1:=phi (db l);rw[fieldE_ok.2 hl] at m1;have m2:=phi (dU ht);rw[hr,show okE true=0 from rfl] at m2
 refine ans_of xC s61 rfl ⟨1,?_⟩;unfold k61;simp only[den_lt,shapeF,shapeR,m1,m2,EV,decide_true,Bool.not_true,Bool.false_eq_true,if_false,phi (sN (l:=l) (t:=t) (by have:=hl.1;omega)),phi (Qc hl),phi (Qe hl ht hr),shKT,C0]
theorem Qf:Ans D 124 [CL (newC l t),F l] [HT (jx t l),.i64 0]:=by
 have hE:=iW (t:=t) hl;have nw:(newC l t).now=t:=rfl;refine ans_of DX LZ rfl ⟨1,?_⟩;unfold tG;simp only[den_lt,shCL,shapeF,pCL0,nw,phi (IM hl ht hr (fA hl) (rI hl)),shTR,phi (BE hl ht hr hE),EV,decide_true,Bool.not_true,Bool.false_eq_true,if_false,pCL11,pTR2,aggHT];rfl
theorem c57:Ans D 57 [F l,R t] [HT (jx t l),.i64 0]:=by
 refine ans_of xz s57 rfl ⟨1,?_⟩;unfold k57;simp only[den_lt,shapeF,shapeR,phi (sO hl ht hr),shCL,EV,decide_true,Bool.not_true,Bool.false_eq_true,if_false,phi (Qf hl ht hr),shHT,C1]
theorem Qg:Ans D 148 [CL (newC l t),F l] [HT (jx t l),.i64 0]:=by
 have hE:=iW (t:=t) hl;have nw:(newC l t).now=t:=rfl;have m2:=phi (IL (x:=cart t l) (fA hl) (by rw[cy hl];have:=hl.1;omega));rw[cy hl] at m2;refine ans_of k148_ok s148 rfl ⟨1,?_⟩;unfold k148;simp only[den_lt,shCL,shapeF,pCL0,nw,phi (c177 hl ht),shTR,m2,phi (c227 hl ht hr hE),EV,decide_true,Bool.not_true,Bool.false_eq_true,if_false,pCL11,pTR2,aggHT];rfl
theorem c62:Ans D 62 [F l,R t] [HT (jx t l),.i64 0]:=by
 have m1:=phi (db l);rw[fieldE_ok.2 hl] at m1;have m2:=phi (dU ht);rw[hr,show okE true=0 from rfl] at m2
 refine ans_of xD s62 rfl ⟨1,?_⟩;unfold k62;simp only[den_lt,shapeF,shapeR,m1,m2,EV,decide_true,Bool.not_true,Bool.false_eq_true,if_false,phi (sN (l:=l) (t:=t) (by have:=hl.1;omega)),phi (Qg hl ht hr),shHT,C1]
theorem Qh:Ans D 126 [CL (newC l t),F l] [KH (jy t l),.i64 0]:=by
 have hE:=iV (t:=t) hl;have nw:(newC l t).now=t:=rfl;refine ans_of DZ L1 rfl ⟨1,?_⟩;unfold tI;simp only[den_lt,shCL,shapeF,pCL0,nw,phi (IK hl ht hr),phi (BE hl ht hr hE),EV,decide_true,Bool.not_true,Bool.false_eq_true,if_false,pCL11,mo];rfl
theorem c58:Ans D 58 [F l,R t] [KH (jy t l),.i64 0]:=by
 refine ans_of xA s58 rfl ⟨1,?_⟩;unfold k58;simp only[den_lt,shapeF,shapeR,phi (sO hl ht hr),shCL,EV,decide_true,Bool.not_true,Bool.false_eq_true,if_false,phi (Qh hl ht hr),shKH,C2]
theorem Qi:Ans D 149 [CL (newC l t),F l] [KH (jy t l),.i64 0]:=by
 have hE:=iV (t:=t) hl;have nw:(newC l t).now=t:=rfl;refine ans_of Ee Mf rfl ⟨1,?_⟩;unfold tU;simp only[den_lt,shCL,shapeF,pCL0,nw,phi (II hl ht),phi (IJ (l:=l) (up:=ax t l) (cF t l).symm (by have:=hl.1;omega)),phi (c227 hl ht hr hE),EV,decide_true,Bool.not_true,Bool.false_eq_true,if_false,pCL11,mo];rfl
theorem c63:Ans D 63 [F l,R t] [KH (jy t l),.i64 0]:=by
 have m1:=phi (db l);rw[fieldE_ok.2 hl] at m1;have m2:=phi (dU ht);rw[hr,show okE true=0 from rfl] at m2
 refine ans_of xE s63 rfl ⟨1,?_⟩;unfold k63;simp only[den_lt,shapeF,shapeR,m1,m2,EV,decide_true,Bool.not_true,Bool.false_eq_true,if_false,phi (sN (l:=l) (t:=t) (by have:=hl.1;omega)),phi (Qi hl ht hr),shKH,C2]
end
end Go.Proofs.YtfghdmmapmdcgaaGreat
