import Derived.Test.YtfghdmmapmdcgaaGreatE1
import Derived.Test.YtfghdmmapmdcgaaGreatR1
set_option linter.unusedVariables false
set_option linter.unusedSimpArgs false
set_option linter.defProp false
noncomputable section
namespace Go.Proofs.YtfghdmmapmdcgaaGreat
open Go.Sym Bnd
set_option maxRecDepth 100000
theorem Kr {l:List Bool}{i:Nat}(h:i<l.length):RF.ev (.set 0) [sl B1 l,.v (.int .i64 (i:Int)),.v (.bool false)]=some (sl B1 (l.set i false)):=by
 rw[qb,if_pos (by omega),aq,aI,ac h];have e:(B1 l[i]).length=1:=rfl;simp only[aZ,e,show(PV.v (.bool false)).cells=[.v (.bool false)] from rfl,az,be,am,if_true]
 exact congrArg (fun x=>some (PV.sl x)) (gB (f:=B1) (l:=l) (i:=i) (a:=false)).symm
theorem c421 {l:List Int}{x:Int}(hl:l.length≤999):Ans D 421 [sl I1 l,.i64 x] [sl I1 (l++[x])]:=by
 have ap:=dc (f:=I1) (l:=l) (k:=[x]) (bytes:=8) (z:=1) (by simp;omega) lenI;have bs:RF.ev (.bs 1 [.v (.int .i64 0)] [0]) [.i64 x]=some (sl I1 [x]):=rfl;have su:RF.ev .sub [sl I1 [x],.v (.int .i64 0),.v (.int .i64 1)]=some (sl I1 [x]):=rfl;have s2:=subM (f:=I1) (l:=l++[x]);refine ans_of N3 V2 rfl ⟨1,?_⟩;unfold Ep;simp only[EV,den_lt,phi (Qh (l:=l) (by omega)),aa,bs,su,ap,s2]
open Classical in
theorem c402 {s:Slots}(h:SFine s){i:Nat}{u:Int}(hu:s.used[i]?=some true)(hv:s.uses[i]?=some u):Ans D 402 [SL s,HD ⟨i,u⟩] [.bool true,.i64 0]:=by
 have hi:=get_lt hu;have hc:=phi (Bh (nB h));rw[decide_eq_true (okR_fine.2 h)] at hc;have e0:okE true=0:=rfl;rw[e0] at hc;refine ans_of k402_ok s402 rfl ⟨1,?_⟩;unfold k402;simp only[den_lt,shSL,shHD,hc,cSL0,cSL1,cHD0,cHD1,EV,aa,decide_true,ak,ad,if_false,decide_eq_true_eq,ge_iff_le];rw[if_pos (by omega)];rw[if_pos (by omega)];simp only[den_lt,cSL0,cSL1,cHD0,cHD1,EV,tixM hu (lenB _),eltM hu,rowB,tixM hv (lenI _),eltM hv,rowI,if_true,decide_true];rfl
open Classical in
theorem XG {s:Slots}(h:SFine s){i:Nat}{u:Int}(hu:s.used[i]?=some true)(hv:s.uses[i]?=some u):Ans D 403 [SL s,HD ⟨i,u⟩] [SL (giveS s i),.i64 0]:=by
 have hi:=get_lt hu;have n2:=h.n2;have hb:=nodup_bound h.nd h.rng;have s1:=subM (f:=I1) (l:=s.uses);have s2:=subM (f:=B1) (l:=s.used.set i false);rw[aB] at s2;refine ans_of k403_ok s403 rfl ⟨1,?_⟩;unfold k403;simp only[den_lt,shSL,shHD,phi (c402 h hu hv),phi (c413 (ss_of h)),phi (c421 (l:=s.free) (x:=(i:Int)) (by omega)),cSL0,cSL1,cSL2,cHD0,EV,aa,decide_true,ak,ad,if_false,ixM hi,Kr hi,s1,s2];rfl
theorem XH {s:Slots}(h:SFine s){i:Nat}{u:Int}(hu:s.used[i]?=some true):Ans D 406 [SL s,HD ⟨i,u⟩] [SL (giveS s i)]:=by
 have hi:=get_lt hu;have n2:=h.n2;have hb:=nodup_bound h.nd h.rng;have s1:=subM (f:=I1) (l:=s.uses);have s2:=subM (f:=B1) (l:=s.used.set i false);rw[aB] at s2;have ap:=dc (f:=I1) (l:=s.free) (k:=[(i:Int)]) (bytes:=8) (z:=1) (by simp;omega) lenI;have bs:RF.ev (.bs 1 [.v (.int .i64 0)] [0]) [.i64 (i:Int)]=some (sl I1 [(i:Int)]):=rfl;have su:RF.ev .sub [sl I1 [(i:Int)],.v (.int .i64 0),.v (.int .i64 1)]=some (sl I1 [(i:Int)]):=rfl;have s3:=subM (f:=I1) (l:=s.free++[(i:Int)]);refine ans_of NY VX rfl ⟨1,?_⟩;unfold Ej;simp only[den_lt,shSL,shHD,phi (c286 (ss_of h)),cSL0,cSL1,cSL2,cHD0,EV,aa,ixM hi,Kr hi,bs,su,ap,s1,s2,s3];rfl
theorem fg {hp:List Evt}{z p:Evt}{i:Nat}(h:hp[i]?=some p):(hp++[z])[i]?=some p:=by rw[aw (aP h)];exact h
theorem lz {hp:List Evt}{z:Evt}{i:Nat}(h:i<hp.length)(p:Evt):RF.ev (.set 0) [sl erow (hp++[z]),.v (.int .i64 (i:Int)),EP p]=some (sl erow (hp.set i p++[z])):=by
 rw[pQ (by simp;omega),oj _ _ h]
theorem AA {N:Nat}{f0 f1:JT}{f z:Evt}{e0 e1 e2 e3 e4 e5 e6 e7 e8 e9 e10 e11 e12 e13 e14 e15 e16 e18 e19 e22 e23 e24 e25:PV}{n W:Nat}(hn:n≤1000)(hf:GoodE W f): ∀(r i m:Nat) (hp:List Evt) (wh:List Int),i≤r→r<m→i<n→hp.length=n→wh.length=W→(∀x∈hp,GoodE W x)→
  denW (PhiS D) N k365_7 [f0,f1] [e0,e1,e2,e3,e4,e5,e6,e7,e8,e9,e10,e11,e12,e13,e14,e15,e16,.i64 (W:Int),e18,e19,EP f,.i64 (n:Int),e22,e23,e24,e25] m [.i64 (i:Int),sl erow (hp++[z]),sl I1 wh]=f1 [sl erow ((siftH f r hp wh i).1++[z]),sl I1 (siftH f r hp wh i).2.1,.i64 ((siftH f r hp wh i).2.2:Int)]
 |0,i,m,hp,wh,hi,hm,hiH,hl,hw,hg=>by
  obtain⟨m,rfl⟩: ∃m',m=m'+1:=⟨m-1,by omega⟩;have:i=0:=by omega
  subst this;rw[denW_succ];unfold k365_7 siftH;simp only[EV,decide_eq_true_eq,gt_iff_lt];rw[if_neg (by omega)]
 |r+1,i,m,hp,wh,hi,hm,hiH,hl,hw,hg=>by
  obtain⟨m,rfl⟩: ∃m',m=m'+1:=⟨m-1,by omega⟩;obtain⟨p,hp'⟩: ∃p,hp[(i-1)/2]?=some p:=⟨hp[(i-1)/2]'(by omega),ac _⟩;have E:siftH f (r+1) hp wh i=if 0<i∧evLess f p=true then siftH f r (hp.set i p) (wh.set p.hnd.index.toNat (i:Int)) ((i-1)/2) else(hp,wh,i):=by rw[siftH,hp']
  rw[E,denW_succ];by_cases h0:0<i
  rotate_left
  ·rw[if_neg (fun h=>h0 h.1)];unfold k365_7;simp only[EV,decide_eq_true_eq,gt_iff_lt];rw[if_neg (by omega)]
  ·obtain⟨p64,prk,jp,pj,pW⟩:=hg p (ah hp');have ih:=AA (N:=N) (f0:=f0) (f1:=f1) (f:=f) (z:=z) (e0:=e0) (e1:=e1) (e2:=e2) (e3:=e3) (e4:=e4) (e5:=e5) (e6:=e6) (e7:=e7) (e8:=e8) (e9:=e9) (e10:=e10) (e11:=e11) (e12:=e12) (e13:=e13) (e14:=e14) (e15:=e15) (e16:=e16) (e18:=e18) (e19:=e19) (e22:=e22) (e23:=e23) (e24:=e24) (e25:=e25) (n:=n) (W:=W) hn hf r ((i-1)/2) m (hp.set i p) (wh.set p.hnd.index.toNat (i:Int)) (by omega) (by omega) (by omega) (by rw[aB];exact hl) (by rw[aB];exact hw) (fun x hx=>by
    rcases cg hx with h1|h1
    ·exact hg x h1
    ·rw[h1];exact⟨p64,prk,jp,pj,pW⟩)
   have cm:=phi (qB (x:=f) (y:=p) hf.t64 p64 hf.rok prk);have q2:=Bp h0 (by omega);have s1:=lz (hp:=hp) (z:=z) (i:=i) (by omega) p;have s3:=setI (l:=wh) (i:=jp) (by omega) (i:Int);have g1:=fg (z:=z) hp';generalize hkk:k365_7=kk at ih;subst hkk;unfold k365_7;simp only[EV,decide_eq_true_eq,gt_iff_lt];rw[if_pos (by omega)];simp only[EV,f_bin,q2,ixM (show(i-1)/2<n by omega),eltM g1,rowE,den_lt,cm,decide_eq_true_eq,cmpE_lt]
   by_cases hc:evLess f p=true
   ·rw[if_pos hc,if_pos ⟨h0,hc⟩];simp only[EV,f_bin,q2,ixM hiH,ixM (show(i-1)/2<n by omega),eltM g1,rowE,den_lt,shEP,s1,cEP3,pj,ixM pW,s3]
    rw[pj,aq] at ih;exact ih
   ·rw[if_neg hc,if_neg (fun q=>hc q.2)]
theorem uv {N:Nat}{f0 f1:JT}{f z:Evt}{e0 e1 e2 e3 e4 e5 e6 e7 e8 e9 e10 e11 e12 e13 e14 e15 e16 e18 e19 e22 e23 e24 e25 e26 e27 e28 e29 e30:PV}{n W:Nat}(hn:n≤1000)(hf:GoodE W f): ∀(r i m:Nat) (hp:List Evt) (wh:List Int),n≤r+i→r<m→i<n→hp.length=n→wh.length=W→(∀x∈hp,GoodE W x)→
  denW (PhiS D) N k365_5 [f0,f1] [e0,e1,e2,e3,e4,e5,e6,e7,e8,e9,e10,e11,e12,e13,e14,e15,e16,.i64 (W:Int),e18,e19,EP f,.i64 (n:Int),e22,e23,e24,e25,e26,e27,e28,e29,e30] m [.i64 (i:Int),sl erow (hp++[z]),sl I1 wh,.i64 ((2*i+1:Nat):Int)]=f1 [sl erow ((downH f r hp wh i).1++[z]),sl I1 (downH f r hp wh i).2.1,.i64 ((downH f r hp wh i).2.2:Int)]
 |0,i,m,hp,wh,hi,hm,hiH,hl,hw,hg=>by omega
 |r+1,i,m,hp,wh,hi,hm,hiH,hl,hw,hg=>by
  obtain⟨m,rfl⟩: ∃m',m=m'+1:=⟨m-1,by omega⟩;have ih:=fun(k:Nat) (p:Evt) (hk:hp[k]?=some p) (hki:i<k)=>uv (N:=N) (f0:=f0) (f1:=f1) (f:=f) (z:=z) (e0:=e0) (e1:=e1) (e2:=e2) (e3:=e3) (e4:=e4) (e5:=e5) (e6:=e6) (e7:=e7) (e8:=e8) (e9:=e9) (e10:=e10) (e11:=e11) (e12:=e12) (e13:=e13) (e14:=e14) (e15:=e15) (e16:=e16) (e18:=e18) (e19:=e19) (e22:=e22) (e23:=e23) (e24:=e24) (e25:=e25) (e26:=e26) (e27:=e27) (e28:=e28) (e29:=e29) (e30:=e30) (n:=n) (W:=W) hn hf r k m (hp.set i p) (wh.set p.hnd.index.toNat (i:Int)) (by omega) (by omega) (by have:=aP hk;omega) (by rw[aB];exact hl) (by rw[aB];exact hw) (fun x hx=>by
    rcases cg hx with h1|h1
    ·exact hg x h1
    ·rw[h1];exact hg p (ah hk))
  rw[denW_succ];have fin: ∀(a b c d:PV) (kk:Nat),kid hp i=kk→kk<n→den (PhiS D) N yE [f0,f1,fun vs=>denW (PhiS D) N k365_5 [f0,f1] [e0,e1,e2,e3,e4,e5,e6,e7,e8,e9,e10,e11,e12,e13,e14,e15,e16,.i64 (W:Int),e18,e19,EP f,.i64 (n:Int),e22,e23,e24,e25,e26,e27,e28,e29,e30] m vs] ([e0,e1,e2,e3,e4,e5,e6,e7,e8,e9,e10,e11,e12,e13,e14,e15,e16,.i64 (W:Int),e18,e19,EP f,.i64 (n:Int),e22,e23,e24,e25,e26,e27,e28,e29,e30]++[.i64 (i:Int),sl erow (hp++[z]),sl I1 wh,.i64 ((2*i+1:Nat):Int),a,b,c,d,.i64 (kk:Int)])=f1 [sl erow ((downH f (r+1) hp wh i).1++[z]),sl I1 (downH f (r+1) hp wh i).2.1,.i64 ((downH f (r+1) hp wh i).2.2:Int)]:=fun a b c d kk hkk hk=>by
   subst hkk;have ko:=kQ hp i;obtain⟨p,hp'⟩: ∃p,hp[kid hp i]?=some p:=⟨hp[kid hp i]'(by omega),ac _⟩;obtain⟨p64,prk,jp,pj,pW⟩:=hg p (ah hp');have E:downH f (r+1) hp wh i=if evLess p f=true then downH f r (hp.set i p) (wh.set p.hnd.index.toNat (i:Int)) (kid hp i) else(hp,wh,i):=by rw[downH,hp']
   have ih':=ih _ p hp' (by omega);have cm:=phi (qB (x:=p) (y:=f) p64 hf.t64 prk hf.rok);have s1:=lz (hp:=hp) (z:=z) (i:=i) (by omega) p;have s3:=setI (l:=wh) (i:=jp) (by omega) (i:Int);have g1:=fg (z:=z) hp';have w1:IntKind.i64.wrap (2*(kid hp i:Int))=((2*kid hp i:Nat):Int):=by rw[bU (by omega) (by omega)];omega
   rw[E];unfold yE;simp only[ay,ax,EV,ixM hk,eltM g1,rowE,den_lt,cm,decide_eq_true_eq,ge_iff_le];by_cases hc:evLess p f=true
   ·rw[if_pos hc,if_neg (by have:=(cmpE_lt p f).2 hc;omega)];simp only[EV,ixM hk,ixM hiH,eltM g1,rowE,den_lt,shEP,s1,cEP3,pj,ixM pW,s3,w1,up1 (show 2*kid hp i<1000000000 by omega)]
    rw[pj,aq] at ih';exact ih'
   ·rw[if_neg hc,if_pos (by have:=Ay (show evLess p f=false by simpa using hc);omega)]
  simp only[ay,ax] at fin;unfold k365_5;simp only[EV,decide_eq_true_eq];by_cases h1:2*i+1<n
  ·rw[if_pos (by omega)];simp only[EV,decide_eq_true_eq,up1 (show 2*i+1<1000000000 by omega)]
   obtain⟨e,he⟩: ∃e,hp[2*i+1]?=some e:=⟨hp[2*i+1]'(by omega),ac _⟩;by_cases h2:2*i+1+1<n
   ·rw[if_pos (by omega)];obtain⟨g,hg'⟩: ∃e,hp[2*i+1+1]?=some e:=⟨hp[2*i+1+1]'(by omega),ac _⟩;have a1:=hg e (ah he);have b1:=hg g (ah hg');have cm:=phi (qB (x:=g) (y:=e) b1.t64 a1.t64 b1.rok a1.rok);have kE:kid hp i=if evLess g e=true then 2*i+2 else 2*i+1:=by unfold kid;rw[he,show hp[2*i+2]?=some g from hg']
    simp only[EV,up1 (show 2*i+1<1000000000 by omega),ixM h1,ixM h2,eltM (fg (z:=z) he),eltM (fg (z:=z) hg'),rowE,den_lt,cm]
    unfold yF;simp only[EV,decide_eq_true_eq,up1 (show 2*i+1<1000000000 by omega),cmpE_lt]
    by_cases hc:evLess g e=true
    ·rw[if_pos hc];rw[if_pos hc] at kE;exact fin _ _ _ _ (2*i+1+1) kE h2
    ·rw[if_neg hc];rw[if_neg hc] at kE;exact fin _ _ _ _ (2*i+1) kE h1
   ·rw[if_neg (by omega)];unfold yF;simp only[EV,ad,if_false];exact fin _ _ _ _ (2*i+1) (by unfold kid;rw[he,show hp[2*i+2]?=none from bk (by omega)]) h1
  ·rw[if_neg (by omega)];have:downH f (r+1) hp wh i=(hp,wh,i):=by
    have ko:=kQ hp i;rw[downH,bk (by omega)]
   rw[this]
theorem ux {f:Evt}: ∀(r:Nat) (hp:List Evt) (wh:List Int) (i:Nat),i<hp.length→(siftH f r hp wh i).1.length=hp.length∧(siftH f r hp wh i).2.1.length=wh.length∧(siftH f r hp wh i).2.2≤i∧ ∀x∈(siftH f r hp wh i).1,x∈hp
 |0,hp,wh,i,_=>⟨rfl,rfl,am _,fun _ h=>h⟩
 |r+1,hp,wh,i,hi=>by
  unfold siftH;split
  ·rename_i p hp';split
   ·obtain⟨q1,q2,q3,q4⟩:=ux (f:=f) r (hp.set i p) (wh.set p.hnd.index.toNat (i:Int)) ((i-1)/2) (by rw[aB];omega);refine⟨by rw[q1,aB],by rw[q2,aB],by omega,fun x hx=>?_⟩;rcases cg (q4 x hx) with h|h
    ·exact h
    ·rw[h];exact ah hp'
   ·exact⟨rfl,rfl,am _,fun _ h=>h⟩
  ·exact⟨rfl,rfl,am _,fun _ h=>h⟩
theorem uy {f:Evt}: ∀(r:Nat) (hp:List Evt) (wh:List Int) (i:Nat),i<hp.length→(downH f r hp wh i).1.length=hp.length∧(downH f r hp wh i).2.1.length=wh.length∧(downH f r hp wh i).2.2<hp.length
 |0,hp,wh,i,hi=>⟨rfl,rfl,hi⟩
 |r+1,hp,wh,i,hi=>by
  unfold downH;split
  ·rename_i p hp';split
   ·obtain⟨q1,q2,q3⟩:=uy (f:=f) r (hp.set i p) (wh.set p.hnd.index.toNat (i:Int)) (kid hp i) (by rw[aB];exact aP hp');rw[aB] at q1 q2 q3;exact⟨q1,q2,q3⟩
   ·exact⟨rfl,rfl,hi⟩
  ·exact⟨rfl,rfl,hi⟩
theorem Bq {hp:List Evt}{z:Evt}:RF.ev .sub [sl erow (hp++[z]),.v (.int .i64 0),.v (.int .i64 (hp.length:Int))]=some (sl erow hp):=by
 rw[qa,if_pos (by simp;omega)];simp
theorem XI (e:Evt):RF.ev (.part 3 2) [EP e]=some (HD e.hnd):=rfl
open Classical in
theorem XJ {a:Agenda}(h:cV a){i j:Nat}{u:Int}{e:Evt}(he:a.heap[i]?=some e)(hh:e.hnd=⟨(j:Int),u⟩)(h64: ∀e∈a.heap,In64 e.time):Ans D 365 [AG a,.i64 (i:Int)] [AG (iX a i j),EP e,.i64 0]:=by
 have hs:=okR_fine.1 h.1;have hP:=iJ hs h.2.1;have hsm:=rv h;have n2:=hs.n2;have hl:=h.2.1.2.1;have hi:=aP he;obtain⟨j',u',e1,e2,e3,e4⟩:=hP.at_ i e he;rw[hh] at e1;simp only[Hnd.mk.injEq] at e1;have:j'=j:=by omega
 subst this;have hu:u=u':=e1.2;subst hu;have hw:=aP e4;obtain⟨hp,f,hq⟩: ∃hp f,a.heap=hp++[f]:=by
  rcases fw a.heap with h|⟨hp,f,h⟩
  ·rw[h] at hi;exact absurd hi (by simp)
  ·exact⟨hp,f,by simpa using h⟩
 have hn:a.heap.length-1=hp.length:=by rw[hq];simp
 have hn':a.heap.length=hp.length+1:=by rw[hq];simp
 have hlast:a.heap[hp.length]?=some f:=by rw[hq];simp
 have good: ∀x∈a.heap,GoodE a.wher.length x:=fun x hx'=>by
  obtain⟨k,hk⟩:=aA.1 hx';obtain⟨j,v,g1,_,_,g4⟩:=hP.at_ k x hk;exact⟨h64 x hx',(h.2.2.1 x hx').1,j,by rw[g1],aP g4⟩
 have hR:iX a i j'=if i=hp.length then⟨giveS a.slots j',hp,a.wher.set j' (-1)⟩ else
   ⟨giveS a.slots j',(downS hp.length (upS (i+1) (hp.set i f) ((a.wher.set j' (-1)).set f.hnd.index.toNat (i:Int)) i).1 (upS (i+1) (hp.set i f) ((a.wher.set j' (-1)).set f.hnd.index.toNat (i:Int)) i).2.1 (upS (i+1) (hp.set i f) ((a.wher.set j' (-1)).set f.hnd.index.toNat (i:Int)) i).2.2).1,(downS hp.length (upS (i+1) (hp.set i f) ((a.wher.set j' (-1)).set f.hnd.index.toNat (i:Int)) i).1 (upS (i+1) (hp.set i f) ((a.wher.set j' (-1)).set f.hnd.index.toNat (i:Int)) i).2.1 (upS (i+1) (hp.set i f) ((a.wher.set j' (-1)).set f.hnd.index.toNat (i:Int)) i).2.2).2⟩:=by
  unfold iX;rw[hn,hlast];simp only;rw[show a.heap.take hp.length=hp by rw[hq];simp]
 have c4:=phi (XG hs e2 e3);have bn:RF.ev .bnd [.v (.int .i64 (hp.length:Int)),.v (.int .i64 ((hp.length+1:Nat):Int))]=some (.i64 (hp.length:Int)):=by rw[gZ,if_pos ⟨by omega,by omega⟩]
 have dn:=downN (n:=hp.length) (by omega);have s3:=setI (l:=a.wher) (i:=j') hw (-1);have hls: ∀(l:List Int),l.length=a.wher.length→RF.ev .sub [sl I1 l,.v (.int .i64 0),.v (.int .i64 (a.wher.length:Int))]=some (sl I1 l):=fun l hl=>by
  have:=subM (f:=I1) (l:=l);rw[hl] at this;exact this
 refine ans_of NK VI rfl ⟨1001,?_⟩;unfold D6;simp only[den_lt,shAG,cAG3,tixM he (lenE _),eltM he,rowE,EV,pAG,XI,hh,c4,shSL,decide_true,ak,ad,if_false,phi (Qk hsm),cAG4,aa,hn',dn,ixM (show hp.length<hp.length+1 by omega),eltM hlast,bn,cEP3,ixM hw,s3,decide_eq_true_eq]
 by_cases hil:i=hp.length
 ·rw[if_neg (by omega)];rw[hR,if_pos hil];unfold k365_1;simp only[EV,den_lt,pSL,hq,Bq,hls _ aB,mi]
 ·have hil:i<hp.length:=by omega
  rw[if_pos (by omega)];have hgf:=good f (by rw[hq];simp);have hgp: ∀x∈hp,GoodE a.wher.length x:=fun x hx=>good x (by rw[hq];simp[hx]);obtain⟨hU,wU,iU,hUe⟩: ∃hU wU iU,siftH f (i+1) hp (a.wher.set j' (-1)) i=(hU,wU,iU):=⟨_,_,_,rfl⟩;obtain⟨hV,wV,iV,hVe⟩: ∃hV wV iV,downH f hp.length hU wU iU=(hV,wV,iV):=⟨_,_,_,rfl⟩;obtain⟨u1,u2,u3,u4⟩:=ux (f:=f) (i+1) hp (a.wher.set j' (-1)) i hil;rw[hUe] at u1 u2 u3 u4;simp only at u1 u2 u3 u4;rw[aB] at u2;obtain⟨v1,v2,v3⟩:=uy (f:=f) hp.length hU wU iU (by omega);rw[hVe] at v1 v2 v3;simp only at v1 v2 v3;have up:=tu (x:=f) (i+1) hp (a.wher.set j' (-1)) i hil;rw[hUe] at up;simp only at up;have dnn:=uS (x:=f) hp.length hU wU iU (by omega);rw[hVe] at dnn;simp only at dnn;rw[hR,if_neg (by omega),up];simp only;rw[dnn];simp only;obtain⟨f64,frk,jf,fj,fW⟩:=hgf;have hgf:=good f (by rw[hq];simp);have hq':sl erow a.heap=sl erow (hp++[f]):=by rw[hq]
  rw[hq'];refine(AA (N:=1001) (f:=f) (z:=f) (n:=hp.length) (W:=a.wher.length) (by omega) hgf (i+1) i 1001 hp (a.wher.set j' (-1)) (by omega) (by omega) hil rfl aB hgp).trans ?_;rw[hUe];have w1:IntKind.i64.wrap (2*(iU:Int))=((2*iU:Nat):Int):=by rw[bU (by omega) (by omega)];omega
  unfold k365_6;simp only[EV,w1,up1 (show 2*iU<1000000000 by omega)]
  refine(uv (N:=1001) (f:=f) (z:=f) (n:=hp.length) (W:=a.wher.length) (by omega) hgf hp.length iU 1001 hU wU (by omega) (by omega) (by omega) u1 u2 (fun x hx=>hgp x (u4 x hx))).trans ?_;rw[hVe];have s1:=lz (hp:=hV) (z:=f) (i:=iV) (by omega) f;have s4:=setI (l:=wV) (i:=jf) (by omega) (iV:Int);have s5:=Bq (hp:=hV.set iV f) (z:=f);rw[aB,v1,u1] at s5;unfold k365_2;simp only[EV,den_lt,ixM (show iV<hp.length by omega),s1,cEP3,fj,ixM fW,s4]
  unfold k365_1;simp only[EV,den_lt,pSL,s5,hls _ (show(wV.set jf (iV:Int)).length=a.wher.length by rw[aB];omega),mi,aq]
open Classical in
theorem XK {a:Agenda}(h:cV a){i j:Nat}{u:Int}{e:Evt}(he:a.heap[i]?=some e)(hh:e.hnd=⟨(j:Int),u⟩)(h64: ∀e∈a.heap,In64 e.time):Ans D 364 [AG a,HD ⟨j,u⟩] [.i64 (i:Int),.i64 0]:=by
 have hs:=okR_fine.1 h.1;have hP:=iJ hs h.2.1;obtain⟨j',u',e1,e2,e3,e4⟩:=hP.at_ i e he;rw[hh] at e1;simp only[Hnd.mk.injEq] at e1;have:j'=j:=by omega
 subst this;have hu:u=u':=e1.2;subst hu;have m1:=phi (vS (oO h) h64);rw[decide_eq_true h] at m1;have e0:okE true=0:=rfl;rw[e0] at m1;refine ans_of k364_ok s364 rfl ⟨1,?_⟩;unfold k364;simp only[den_lt,shAG,shHD,m1,pAG,phi (c402 hs e2 e3),cAG4,cHD0,EV,decide_true,ak,ad,if_false,tixM e4 (lenI _),eltM e4,rowI]
theorem XL {a:Agenda}(h:cV a){i j:Nat}{u:Int}{e:Evt}(he:a.heap[i]?=some e)(hh:e.hnd=⟨(j:Int),u⟩)(h64: ∀e∈a.heap,In64 e.time):Ans D 297 [AG a,HD ⟨j,u⟩] [AG (iX a i j),EP e,.i64 0]:=by
 refine ans_of Nb Vc rfl ⟨1,?_⟩;unfold Dy;simp only[den_lt,shAG,shHD,phi (XK h he hh h64),phi (XJ h he hh h64),shEP,EV,decide_true,ak,ad,if_false]
section
variable {α:Type}{f:α→List PV}{l:List α}{i n:Nat}
theorem dl1 (hi:i<l.length):RF.ev .sub [.sl (l.map f),.v (.int .i64 (0+((i+1:Nat):Int))),.v (.int .i64 ((l.length:Int)-((i+1:Nat):Int)))]=some (.sl ((l.drop (i+1)).map f)):=by
 rw[qa,if_pos (by rw[aa];omega),show(0+((i+1:Nat):Int)).toNat=i+1 by omega,show((l.length:Int)-((i+1:Nat):Int)).toNat=l.length-(i+1) by omega,←jU,←jV,aR (by rw[bu];omega)]
theorem dl2 (hz: ∀a,(f a).length=3)(hi:i<l.length)(hl:l.length≤1000):RF.ev (.appK 24 3) [.sl (l.map f),.v (.int .i64 (i:Int)),.sl ((l.drop (i+1)).map f)]=some (.sl ((l.eraseIdx i++l.drop (l.length-1)).map f)):=by
 have ok:elsOk' 3 ((l.drop (i+1)).map f)=true:=by
  cases e:l.drop (i+1) with
  |nil=>rfl
  |cons a k=>simp[elsOk',hz]
 show(if _ then _ else _)=_
 rw[if_pos ⟨by omega,by rw[aa];omega,by rw[aa,bu];omega,ok⟩];rw[aq,iB,aa,bu,show i+(l.length-(i+1))=l.length-1 by omega]
 simp only[dg,jV,jU]
theorem dl3 (z:List PV)(hi:i<l.length):RF.ev (.clr z) [.sl ((l.eraseIdx i++l.drop (l.length-1)).map f),.v (.int .i64 (0+((i:Int)+((l.length-(i+1):Nat):Int)))),.v (.int .i64 ((l.length:Int)-((i:Int)+((l.length-(i+1):Nat):Int))))]=some (.sl ((l.eraseIdx i).map f++[z])):=by
 have h1:(l.eraseIdx i).length=l.length-1:=dp hi;have h2:(l.drop (l.length-1)).length=1:=by rw[bu];omega
 show(if _ then _ else _)=_
 rw[if_pos (by rw[aa,an,h1,h2];omega),show(0+((i:Int)+((l.length-(i+1):Nat):Int))).toNat=l.length-1 by omega,show((l.length:Int)-((i:Int)+((l.length-(i+1):Nat):Int))).toNat=1 by omega,dg]
 rw[cd (by rw[aa];omega),aR (by rw[aa];omega),bR (by simp;omega)];simp
theorem dl4 (z:List PV)(hi:i<l.length):RF.ev .sub [.sl ((l.eraseIdx i).map f++[z]),.v (.int .i64 0),.v (.int .i64 ((i:Int)+((l.length-(i+1):Nat):Int)))]=some (.sl ((l.eraseIdx i).map f)):=by
 have h1:(l.eraseIdx i).length=l.length-1:=dp hi;rw[qa,if_pos (by rw[an,aa,h1];simp;omega),show((i:Int)+((l.length-(i+1):Nat):Int)).toNat=l.length-1 by omega]
 show some (PV.sl (List.take _ (List.drop 0 _)))=_
 rw[bS,cd (by rw[aa];omega),aR (by rw[aa];omega)]
end
theorem lT {a b:Nat}(h:a≤b):RF.ev .bnd [.v (.int .i64 (a:Int)),.v (.int .i64 (b:Int))]=some (.i64 (a:Int)):=by rw[gZ,if_pos ⟨by omega,by omega⟩]
theorem XM {l:List Held}{i:Nat}(hi:i<l.length)(hl:l.length≤1000):Ans D 361 [.sl [],.i64 (i:Int),.i64 ((i+1:Nat):Int),sl hrow l] [sl hrow (l.eraseIdx i),.sl []]:=by
 have h1:(l.eraseIdx i).length=l.length-1:=dp hi;have ne:decide ((i:Int)=((i+1:Nat):Int))=false:=decide_eq_false (by omega);have ap:(l.eraseIdx i++l.drop (l.length-1)).length=l.length:=by rw[an,h1,bu];omega
 have bs:RF.ev .bnd [.v (.int .i64 ((i:Int)+((l.length-(i+1):Nat):Int))),.v (.int .i64 (l.length:Int))]=some (.i64 ((i:Int)+((l.length-(i+1):Nat):Int))):=by rw[gZ,if_pos ⟨by omega,by omega⟩]
 refine ans_of NJ VH rfl ⟨1,?_⟩;unfold D5;simp only[EV,aa,lT (am l.length),lT (show i+1≤l.length by omega),lT (show i≤i+1 by omega),lT (show i≤l.length by omega),ne,ad,if_false,dl1 (f:=hrow) hi,dl2 (f:=hrow) lenH hi hl,ap,bu,bs,dl3 (f:=hrow) [KP.z,KP.z,KP.z] hi,dl4 (f:=hrow) [KP.z,KP.z,KP.z] hi]
theorem c298 {l:List Due}{i:Nat}(hi:i<l.length)(hl:l.length≤1000):Ans D 298 [.sl [],.i64 (i:Int),.i64 ((i+1:Nat):Int),sl bF l] [sl bF (l.eraseIdx i),.sl []]:=by
 have h1:(l.eraseIdx i).length=l.length-1:=dp hi;have ne:decide ((i:Int)=((i+1:Nat):Int))=false:=decide_eq_false (by omega);have ap:(l.eraseIdx i++l.drop (l.length-1)).length=l.length:=by rw[an,h1,bu];omega
 have bs:RF.ev .bnd [.v (.int .i64 ((i:Int)+((l.length-(i+1):Nat):Int))),.v (.int .i64 (l.length:Int))]=some (.i64 ((i:Int)+((l.length-(i+1):Nat):Int))):=by rw[gZ,if_pos ⟨by omega,by omega⟩]
 refine ans_of Nc Vd rfl ⟨1,?_⟩;unfold Dz;simp only[EV,aa,lT (am l.length),lT (show i+1≤l.length by omega),lT (show i≤i+1 by omega),lT (show i≤l.length by omega),ne,ad,if_false,dl1 (f:=bF) hi,dl2 (f:=bF) lenD hi hl,ap,bu,bs,dl3 (f:=bF) [KP.z,KP.z,KP.z] hi,dl4 (f:=bF) [KP.z,KP.z,KP.z] hi]
section
variable {α:Type}{nu:α→Int}
def Asc (nu:α→Int)(l:List α):Prop:=l.Pairwise fun a b=>nu a<nu b
theorem oQ {l:List α}(h:Asc nu l){i j:Nat}{a b:α}(hij:i<j)(ha:l[i]?=some a)(hb:l[j]?=some b):nu a<nu b:=by
 unfold Asc at h;rw[cX] at h;obtain⟨a1,a2⟩:=aj.1 ha;obtain⟨b1,b2⟩:=aj.1 hb;have:=h i j a1 b1 hij;rw[a2,b2] at this;exact this
def LBn (nu:α→Int)(l:List α)(id:Int)(m:Nat):Prop:=m≤l.length∧ ∀(k:Nat) (p:α),l[k]?=some p→(k<m→nu p<id)∧(m≤k→id≤nu p)
theorem pT {N:Nat}{f:JT}{K0:K}{e:List PV}{l:List α}{id:Int}(hs:Asc nu l)
  (key: ∀(i j:Nat) (p:α) (self:JT),i<j→j≤l.length→l[(i+j)/2]?=some p→den (PhiS D) N K0 ([f]++[self]) (e++[.i64 (i:Int),.i64 (j:Int)])=if nu p<id then self [.i64 (((i+j)/2+1:Nat):Int),.i64 (j:Int)] else self [.i64 (i:Int),.i64 (((i+j)/2:Nat):Int)])
  (out: ∀(i j:Nat) (self:JT),¬i<j→den (PhiS D) N K0 ([f]++[self]) (e++[.i64 (i:Int),.i64 (j:Int)])=f [.i64 (i:Int)]): ∀(m i j:Nat),j-i<m→i≤j→j≤l.length→(∀(k:Nat) (p:α),l[k]?=some p→(k<i→nu p<id)∧(j≤k→id≤nu p))→
  ∃P,LBn nu l id P∧denW (PhiS D) N K0 [f] e m [.i64 (i:Int),.i64 (j:Int)]=f [.i64 (P:Int)]
 |0,i,j,h,_,_,_=>by omega
 |m+1,i,j,h,hij,hj,hb=>by
  rw[denW_succ];by_cases hlt:i<j
  ·obtain⟨p,hp⟩: ∃p,l[(i+j)/2]?=some p:=⟨l[(i+j)/2]'(by omega),ac _⟩;rw[key i j p _ hlt hj hp];by_cases c:nu p<id
   ·rw[if_pos c];refine pT hs key out m _ j (by omega) (by omega) hj fun k q hq=>⟨fun hk=>?_,(hb k q hq).2⟩;by_cases e:k=(i+j)/2
    ·subst e;rw[hp] at hq;cases hq;exact c
    ·have:=oQ hs (show k<(i+j)/2 by omega) hq hp;omega
   ·rw[if_neg c];refine pT hs key out m i _ (by omega) (by omega) (by omega) fun k q hq=>⟨(hb k q hq).1,fun hk=>?_⟩;by_cases e:k=(i+j)/2
    ·subst e;rw[hp] at hq;cases hq;omega
    ·have:=oQ hs (show(i+j)/2<k by omega) hp hq;omega
  ·exact⟨i,⟨by omega,fun k p hp=>⟨(hb k p hp).1,fun h=>(hb k p hp).2 (by omega)⟩⟩,out i j _ hlt⟩
theorem Fu {l:List α}{id:Int}{P i:Nat}{a:α}(h:LBn nu l id P)(hs:Asc nu l)(ha:l[i]?=some a)(e:nu a=id):P=i:=by
 obtain⟨h1,h2⟩:=h;have q:=h2 i a ha;by_cases c:i<P
 ·have:=q.1 c;omega
 ·by_cases d:P<i
  ·have hi:=aP ha;obtain⟨b,hb⟩: ∃b,l[P]?=some b:=⟨l[P]'(by omega),ac _⟩;have:=(h2 P b hb).2 (am _);have:=oQ hs d hb ha;omega
  ·omega
theorem kC {l:List α}(hs:Asc nu l): ∀{i:Nat} {a:α},l[i]?=some a→l.eraseIdx i=l.filter fun b=>isNot (nu a) (nu b):=by
 induction l with
 |nil=>intro i a h;cases h
 |cons x l ih=>
  intro i a h;unfold Asc at hs;rw[dw] at hs;cases i with
  |zero=>
   simp only[cL,aK] at h;subst h;rw[k8 (by simp[isNot])];show l=_
   rw[di.2];intro b hb;have:=hs.1 b hb;simp[isNot];omega
  |succ i=>
   have h:l[i]?=some a:=h;have:=hs.1 a (ah h);rw[k9 (by simp[isNot];omega)];show x::l.eraseIdx i=_
   rw[ih hs.2 h]
end
theorem ltS (a b:Int):(sgn (a-b)<0)=(a<b):=by
 unfold sgn;refine propext ⟨fun h=>?_,fun h=>by rw[if_pos (by omega)];omega⟩;split at h
 ·omega
 ·split at h<;>omega
theorem eqS (a b:Int):(sgn (a-b)=0)=(a=b):=by
 unfold sgn;refine propext ⟨fun h=>?_,fun h=>by rw[if_neg (by omega),if_neg (by omega)]⟩;split at h
 ·omega
 ·split at h<;>omega
theorem Qr (d:Due):RF.ev (.cell 0) [DP d]=some (.i64 d.number):=rfl
theorem AB {l:List Due}{id:Int}(hs:Asc (·.number) l)(hl:l.length≤1000): ∃P:Nat,LBn (·.number) l id P∧Ans D 296 [sl bF l,.i64 id] [.i64 (P:Int),.bool (match l[P]? with|some d=>decide (d.number=id)|none=>false)]:=by
 obtain⟨P,h1,h2⟩:=pT (N:=1001) (f:=jR (PhiS D) 1001 yf [] [sl bF l,.i64 id,.i64 (l.length:Int)]) (K0:=rY) (e:=[sl bF l,.i64 id,.i64 (l.length:Int)]) (l:=l) (nu:=(·.number)) (id:=id) hs (fun i j p self hij hj hp=>by
  unfold rY;simp only[ay,ax,EV,decide_eq_true_eq,if_lt hij,IH (show i<1000000 by omega) (show j<1000000 by omega),bU (show-9223372036854775808≤(((i+j)/2:Nat):Int) by omega) (by omega),den_lt,tixM hp (lenD p),eltM hp,IJ,Qr,phi (oB _ _),Hi,up1 (show(i+j)/2<1000000000 by omega),ltS]) (fun i j self hij=>by
  unfold rY;simp only[ay,ax,EV,decide_eq_true_eq];rw[if_neg (by omega)]) 1001 0 l.length (by omega) (by omega) (am _) (fun k p hp=>⟨fun h=>by omega,fun h=>by have:=aP hp;omega⟩)
 refine⟨P,h1,ans_of Na Vb rfl ⟨1001,?_⟩⟩;unfold Dx;simp only[EV,aa];refine h2.trans ?_;unfold yf;simp only[EV,decide_eq_true_eq];by_cases hP:P<l.length
 ·obtain⟨d,hd⟩: ∃d,l[P]?=some d:=⟨l[P]'hP,ac _⟩;rw[if_pos (by omega),hd];simp only[EV,den_lt,tixM hd (lenD d),eltM hd,IJ,Qr,phi (oB _ _),ye,eqS]
 ·rw[if_neg (by omega),bk (by omega)];unfold ye;rfl
theorem XN {l:List Due}{i:Nat}{d:Due}(hs:Asc (·.number) l)(hl:l.length≤1000)(hd:l[i]?=some d):Ans D 296 [sl bF l,.i64 d.number] [.i64 (i:Int),.bool true]:=by
 obtain⟨P,h1,h2⟩:=AB (id:=d.number) hs hl;have:=Fu h1 hs hd rfl;subst this;rw[hd] at h2;simpa using h2
theorem Sr {l:List Due}{n:Int}(hs:Asc (·.number) l)(hl:l.length≤1000)(hn: ∀d∈l,d.number≠n): ∃P:Nat,Ans D 296 [sl bF l,.i64 n] [.i64 (P:Int),.bool false]:=by
 obtain⟨P,h1,h2⟩:=AB (id:=n) hs hl;refine⟨P,?_⟩;cases hP:l[P]? with
 |none=>rw[hP] at h2;exact h2
 |some d=>
  rw[hP] at h2;simp only[hn d (ah hP),decide_false] at h2;exact h2
theorem asc_certs {c:Certs}(h:bW c):Asc (·.number) c.list:=(iy.1 h).2.2.2.2.imp fun h=>h.1
theorem AC {c:Clock}(h:ClkOk c):Asc (·.number) c.due:=by
 have h1:=(lx h).2;have h2:=asc_certs h.2.2.1;unfold Asc at h2⊢;have:(c.certs.list.map (·.number)).Pairwise (· <·):=dE.2 h2;exact dE.1 (this.sublist h1)
open Classical in
theorem XO {c:Certs}{i:Nat}{x:Held}(h:bW c)(hx:c.list[i]?=some x):Ans D 360 [CS c,.i64 x.number] [.i64 (i:Int),.i64 0]:=by
 have hl:=h.1;have hs:=asc_certs h;have m1:=phi (Bi (c:=c) (by omega));rw[decide_eq_true h] at m1;have e0:okE true=0:=rfl;rw[e0] at m1;obtain⟨P,h1,h2⟩:=pT (N:=1001) (f:=jR (PhiS D) 1001 yD [] [CS c,.i64 x.number,CS c,.i64 0,.bool false,sl hrow c.list,.i64 (c.list.length:Int)]) (K0:=rZ) (e:=[CS c,.i64 x.number,CS c,.i64 0,.bool false,sl hrow c.list,.i64 (c.list.length:Int)]) (l:=c.list) (nu:=(·.number)) (id:=x.number) hs (fun i j p self hij hj hp=>by
  unfold rZ;simp only[ay,ax,EV,decide_eq_true_eq,if_lt hij,IH (show i<1000000 by omega) (show j<1000000 by omega),bU (show-9223372036854775808≤(((i+j)/2:Nat):Int) by omega) (by omega),den_lt,cCS1,tixM hp (lenH p),eltM hp,rowH,cHP0,phi (oB _ _),HC,up1 (show(i+j)/2<1000000000 by omega),ltS]) (fun i j self hij=>by
  unfold rZ;simp only[ay,ax,EV,decide_eq_true_eq];rw[if_neg (by omega)]) 1001 0 c.list.length (by omega) (by omega) (am _) (fun k p hp=>⟨fun h=>by omega,fun h=>by have:=aP hp;omega⟩)
 have:=Fu h1 hs hx rfl;subst this;have hP:=aP hx;refine ans_of NI VG rfl ⟨1001,?_⟩;unfold D4;simp only[den_lt,shCS,m1,cCS1,EV,aa,decide_true,ak,ad,if_false];refine h2.trans ?_;unfold yD;simp only[EV,decide_eq_true_eq];rw[if_pos (by omega)];simp only[EV,den_lt,cCS1,tixM hx (lenH x),eltM hx,rowH,cHP0,phi (oB _ _),HB,eqS,decide_true,ak,ad,if_false]
theorem XP {c:Certs}{i:Nat}{x:Held}(h:bW c)(hx:c.list[i]?=some x):Ans D 295 [CS c,.i64 x.number] [CS ⟨c.next,c.list.filter fun y=>isNot x.number y.number⟩,CP x.cert,.i64 0]:=by
 have hl:=h.1;have hi:=aP hx;have h1:(c.list.eraseIdx i).length=c.list.length-1:=dp hi;have e:c.list.eraseIdx i=c.list.filter fun y=>isNot x.number y.number:=kC (asc_certs h) hx;have s1:RF.ev .sub [sl hrow (c.list.filter fun y=>isNot x.number y.number),.v (.int .i64 0),.v (.int .i64 ((c.list.filter fun y=>isNot x.number y.number).length:Int))]=some (sl hrow (c.list.filter fun y=>isNot x.number y.number)):=subM;have ag:RF.ev .agg [.i64 c.next,sl hrow (c.list.filter fun y=>isNot x.number y.number)]=some (CS ⟨c.next,c.list.filter fun y=>isNot x.number y.number⟩):=rfl;have sh:RF.ev (.shape 2) [CP x.cert]=some (CP x.cert):=rfl;have pr:RF.ev (.part 0 2) [CP x.cert]=some (CP x.cert):=rfl;refine ans_of M9 Va rfl ⟨1,?_⟩;unfold Dw;simp only[den_lt,shCS,phi (XO h hx),cCS0,cCS1,phi (Bo (l:=c.list) (by omega)),EV,aa,decide_true,ak,ad,if_false,up1 (show i<1000000000 by omega),phi (XM hi (by omega)),tixM hx (lenH _),eltM hx,rowHc,sh,pr,s1,ag,e]
theorem Qs (c:Certs):RF.ev (.part 0 2) [CS c]=some (CS c):=rfl
theorem vd (l:List Due):RF.ev .sub [sl bF l,.v (.int .i64 0),.v (.int .i64 (l.length:Int))]=some (sl bF l):=subM
theorem c216 {c:Clock}(h:ClkOk c)(h64:c6 c){i:Nat}{x:Held}(hx:c.certs.list[i]?=some x):Ans D 216 [CL c,.i64 x.number] [CL (dG c x.number),CP x.cert,.i64 0]:=by
 have hs:=AC h;have hcs:=cs_of h;have h3:=h.2.2.1;have h4:=h.2.2.2.1;refine ans_of Mq Ut rfl ⟨1,?_⟩;unfold CK;have sh:RF.ev (.shape 2) [CP x.cert]=some (CP x.cert):=rfl;simp only[den_lt,shCL,pCL3,phi (XP h3 hx),shCS,sh,EV,decide_true,ak,ad,if_false,phi (c215 hcs),cCL10,aa];cases hf:c.due.find? fun d=>decide (d.number=x.number) with
 |none=>
  have hall: ∀d∈c.due,d.number≠x.number:=fun d hd=>by simpa using dW.1 hf d hd
  obtain⟨P,cP⟩:=Sr (n:=x.number) hs hcs.due hall;have eA:dropA c x.number=c.agenda:=by unfold dropA;rw[hf]
  have eD:(c.due.filter fun d=>isNot x.number d.number)=c.due:=di.2 fun d hd=>by unfold isNot;simp[hall d hd]
  simp only[phi cP,EV,ad,if_false,den_lt,cCL5,cCL6,cCL7,cCL8,cCL9];unfold xB dG;rw[eA,eD];simp only[den_lt,pCLk,Qs,vd,EV,aggC8]
 |some d=>
  have hd:=cf hf;have hdn:d.number=x.number:=by simpa using d5 hf
  obtain⟨k,hk⟩:=aA.1 hd;obtain⟨m,j,u,e,w1,w2,w3,w4,w5,_⟩:=s9 h hd;have cP:=XN hs hcs.due hk;rw[hdn] at cP;have hkl:=aP hk;have hdl:=hcs.due;have eA:dropA c x.number=iX c.agenda m j:=by
   unfold dropA;rw[hf];simp only;rw[w4];simp only[aq];rw[w1];simp only[bj,aq]
  have eD:c.due.eraseIdx k=c.due.filter fun d=>isNot x.number d.number:=by rw[←hdn];exact kC hs hk
  have c5:=phi (XL h4 w2 w3 h64.2);rw[←w4] at c5;simp only[phi cP,EV,if_true,den_lt,pCL5,cCL10,tixM hk (lenD d),eltM hk,rowDh,c5,shAG,shEP,decide_true,ak,ad,if_false,pAG5,up1 (show k<1000000000 by omega),phi (c298 hkl hdl),aa,cAG0,cAG1,cAG2,cAG3,cAG4]
  unfold xB dG;rw[eA,←eD];simp only[den_lt,pCLk,Qs,vd,EV,aggC8]
theorem AD {α:Type}{nu:α→Int}{l:List α}(hs:Asc nu l){i:Nat}{a:α}(ha:l[i]?=some a):l.findIdx? (fun b=>decide (nu b=nu a))=some i:=by
 obtain⟨h1,h2⟩:=aj.1 ha;rw[ba];refine⟨h1,by rw[h2];simp,fun j hj h=>?_⟩;have:=oQ hs hj (ac (kX hj h1)) ha;simp only[decide_eq_true_eq] at h;omega
theorem XQ {c:Certs}{i:Nat}{x:Held}(h:bW c)(hx:c.list[i]?=some x):Ans D 307 [CS c,.i64 x.number] [.i64 (i:Int)]:=by
 have hl:=h.1;refine ans_of Nk Vk rfl ⟨1001,?_⟩;unfold DG;simp only[den_lt,shCS,EV];refine(eY (m:=1001) (l:=c.list) (p:=fun b=>decide (b.number=x.number)) (st:=fun i=>[.i64 (i:Int)]) (ret:=fun i=>some [.i64 (i:Int)]) (fin:=some [.i64 (-1)]) (fun k g self hg=>?_) (fun self=>?_) (by omega)).trans ?_
 ·unfold yj;simp only[den_lt,cCS1,EV,aa,decide_eq_true_eq,if_lt (get_lt hg),tixM hg (lenH _),eltM hg,uY,up1 (show k<1000000000 by have:=get_lt hg;omega)]
 ·unfold yj;simp only[den_lt,cCS1,EV,aa,decide_eq_true_eq,if_ge,Hl]
 ·rw[AD (asc_certs h) hx];rfl
theorem Qt {c:Clock}(hl:c.due.length≤1000)(n:Int): ∃N,den (PhiS D) N k370 [] [CL c,.i64 n]=(c.due.findIdx? fun b=>decide (b.number=n)).elim (some [.i64 (-1)]) fun i=>some [.i64 (i:Int)]:=by
 refine⟨1001,?_⟩;unfold k370;simp only[den_lt,shCL,EV];refine(eY (m:=1001) (l:=c.due) (p:=fun b=>decide (b.number=n)) (st:=fun i=>[.i64 (i:Int)]) (ret:=fun i=>some [.i64 (i:Int)]) (fin:=some [.i64 (-1)]) (fun k g self hg=>?_) (fun self=>?_) (by omega))
 ·unfold yJ;simp only[den_lt,cCL10,EV,aa,decide_eq_true_eq,if_lt (get_lt hg),tixM hg (lenD _),eltM hg,Be,up1 (show k<1000000000 by have:=get_lt hg;omega)]
 ·unfold yJ;simp only[den_lt,cCL10,EV,aa,decide_eq_true_eq,if_ge,HF]
theorem XR {c:Clock}{i:Nat}{d:Due}(hs:Asc (·.number) c.due)(hl:c.due.length≤1000)(hd:c.due[i]?=some d):Ans D 370 [CL c,.i64 d.number] [.i64 (i:Int)]:=by
 obtain⟨N,h⟩:=Qt (c:=c) hl d.number;rw[AD hs hd] at h;exact ans_of k370_ok s370 rfl ⟨N,h⟩
theorem Ss {c:Clock}{n:Int}(hl:c.due.length≤1000)(hn: ∀d∈c.due,d.number≠n):Ans D 370 [CL c,.i64 n] [.i64 (-1)]:=by
 obtain⟨N,h⟩:=Qt (c:=c) hl n;have:(c.due.findIdx? fun b=>decide (b.number=n))=none:=by
  rw[bO];intro d hd;simpa using hn d hd
 rw[this] at h;exact ans_of k370_ok s370 rfl ⟨N,h⟩
theorem XS {c:Certs}(hl:c.list.length≤1000)(n:Int):Ans D 369 [CS c,.i64 n] [CS ⟨c.next,c.list.filter fun x=>isNot n x.number⟩]:=by
 have bs: ∀x:Held,RF.ev (.bs 1 [KP.z,KP.z,KP.z] [0]) [HP x]=some (sl hrow [x]):=fun _=>rfl;have su: ∀x:Held,RF.ev .sub [sl hrow [x],.v (.int .i64 0),.v (.int .i64 1)]=some (sl hrow [x]):=fun _=>rfl;have ag: ∀l:List Held,RF.ev .agg [.i64 c.next,sl hrow l]=some (CS ⟨c.next,l⟩):=fun _=>rfl;refine ans_of NM VK rfl ⟨1001,?_⟩;unfold D8;simp only[den_lt,shCS,EV];refine(er (m:=1001) (l:=c.list) (g:=fun acc a=>if isNot n a.number=true then acc++[a] else acc) (I:=fun i acc=>acc.length≤i) (S:=fun acc i=>[sl hrow acc,.i64 (acc.length:Int),.i64 (i:Int)]) (fin:=fun acc=>some [CS ⟨c.next,acc⟩]) (x:=[]) (am _) (fun i a acc _ hI=>?_) (fun i a acc self ha hI=>?_) (fun acc self hI=>?_) (by omega)).1.trans ?_
 ·split
  ·rw[an,az];omega
  ·omega
 ·have hi:=get_lt ha;have ap:=dc (f:=hrow) (l:=acc) (k:=[a]) (bytes:=24) (z:=3) (by simp;omega) lenH;unfold yI;simp only[den_lt,cCS1,EV,aa,decide_eq_true_eq,if_lt hi,tixM ha (lenH _),eltM ha,uY,rowH];by_cases c1:a.number=n
  ·have:isNot n n=false:=by simp[isNot]
   simp only[c1,this,decide_true,ak,ad,if_false,EV,yH,up1 (show i<1000000000 by omega)]
  ·have:isNot n a.number=true:=by unfold isNot;simp[c1]
   simp only[c1,this,decide_false,aM,if_true,den_lt,cCS1,EV,tixM ha (lenH _),eltM ha,rowH,bs,su,ap,aa,yH,up1 (show i<1000000000 by omega)]
 ·unfold yI;simp only[den_lt,cCS1,EV,aa,decide_eq_true_eq,if_ge,HE,cCS0,subM,ag]
 ·simp only[lR,ax]
theorem wm {W:Nat}{hp:List Evt}{i k:Nat}{e p:Evt}(he:hp[i]?=some e)(hp':hp[k]?=some p)(hg: ∀x∈hp,GoodE W x): ∀x∈swpH hp i k e p,GoodE W x:=fun x hx=>hg x ((jm he hp').mem_iff.1 hx)
theorem ml {hp:List Evt}{i k:Nat}{e p:Evt}:(swpH hp i k e p).length=hp.length:=by unfold swpH;rw[aB,aB]
theorem nF {wh:List Int}{i k:Nat}{e p:Evt}:(d9 wh i k e p).length=wh.length:=by unfold d9;rw[aB,aB]
theorem wo {N:Nat}{f0 f1 f2:JT}{z:Evt}{e0 e1 e2 e3 e4 e5 e6 e7 e8 e9 e10 e11 e12 e13 e14 e16 e17 e18 e19 e20 e21 e22 e24 e25 e26 e27 e28 e29 e30 e31 e32 e33:PV}{n W:Nat}(hn:n≤1000): ∀(r i m:Nat) (hp:List Evt) (wh:List Int),i≤r→r<m→i<n→hp.length=n→wh.length=W→(∀x∈hp,GoodE W x)→
  denW (PhiS D) N k371_7 [f0,f1,f2] [e0,e1,e2,e3,e4,e5,e6,e7,e8,e9,e10,e11,e12,e13,e14,.i64 (W:Int),e16,e17,e18,e19,e20,e21,e22,.i64 (n:Int),e24,e25,e26,e27,e28,e29,e30,e31,e32,e33] m [.i64 (i:Int),sl erow (hp++[z]),sl I1 wh]=f2 [.i64 ((upS r hp wh i).2.2:Int),sl erow ((upS r hp wh i).1++[z]),sl I1 (upS r hp wh i).2.1]
 |0,i,m,hp,wh,hi,hm,hiH,hl,hw,hg=>by
  obtain⟨m,rfl⟩: ∃m',m=m'+1:=⟨m-1,by omega⟩;have:i=0:=by omega
  subst this;rw[denW_succ];unfold k371_7 upS;simp only[EV,decide_eq_true_eq,gt_iff_lt];rw[if_neg (by omega)]
 |r+1,i,m,hp,wh,hi,hm,hiH,hl,hw,hg=>by
  obtain⟨m,rfl⟩: ∃m',m=m'+1:=⟨m-1,by omega⟩;obtain⟨e,he⟩: ∃e,hp[i]?=some e:=⟨hp[i]'(by omega),ac _⟩;obtain⟨p,hp'⟩: ∃p,hp[(i-1)/2]?=some p:=⟨hp[(i-1)/2]'(by omega),ac _⟩;have E:upS (r+1) hp wh i=if 0<i∧evLess e p=true then upS r (swpH hp i ((i-1)/2) e p) (d9 wh i ((i-1)/2) e p) ((i-1)/2) else(hp,wh,i):=by rw[upS,he,hp']
  rw[E,denW_succ];by_cases h0:0<i
  rotate_left
  ·rw[if_neg (fun h=>h0 h.1)];unfold k371_7;simp only[EV,decide_eq_true_eq,gt_iff_lt];rw[if_neg (by omega)]
  ·obtain⟨p64,prk,jp,pj,pW⟩:=hg p (ah hp');obtain⟨e64,erk,je,ej,eW⟩:=hg e (ah he);have ih:=wo (N:=N) (f0:=f0) (f1:=f1) (f2:=f2) (z:=z) (e0:=e0) (e1:=e1) (e2:=e2) (e3:=e3) (e4:=e4) (e5:=e5) (e6:=e6) (e7:=e7) (e8:=e8) (e9:=e9) (e10:=e10) (e11:=e11) (e12:=e12) (e13:=e13) (e14:=e14) (e16:=e16) (e17:=e17) (e18:=e18) (e19:=e19) (e20:=e20) (e21:=e21) (e22:=e22) (e24:=e24) (e25:=e25) (e26:=e26) (e27:=e27) (e28:=e28) (e29:=e29) (e30:=e30) (e31:=e31) (e32:=e32) (e33:=e33) (n:=n) (W:=W) hn r ((i-1)/2) m (swpH hp i ((i-1)/2) e p) (d9 wh i ((i-1)/2) e p) (by omega) (by omega) (by omega) (by rw[ml];exact hl) (by rw[nF];exact hw) (wm he hp' hg);have cm:=phi (c347 (x:=e) (y:=p) e64 p64);have q2:=Bp h0 (by omega);have s1:=lz (hp:=hp) (z:=z) (i:=i) (by omega) p;have s2:=lz (hp:=hp.set i p) (z:=z) (i:=(i-1)/2) (by rw[aB];omega) e;have a1:(swpH hp i ((i-1)/2) e p)[i]?=some p:=by rw[gH he hp',if_neg (by omega),if_pos rfl]
   have a2:(swpH hp i ((i-1)/2) e p)[(i-1)/2]?=some e:=by rw[gH he hp',if_pos rfl]
   have s3:=setI (l:=wh) (i:=jp) (by omega) (i:Int);have s4:=setI (l:=wh.set jp (i:Int)) (i:=je) (by rw[aB];omega) (((i-1)/2:Nat):Int);have eW':d9 wh i ((i-1)/2) e p=(wh.set jp (i:Int)).set je (((i-1)/2:Nat):Int):=by unfold d9;rw[pj,ej];rfl
   have g1:=fg (z:=z) hp';have g2:=fg (z:=z) he;have g3:=fg (z:=z) a1;have g4:=fg (z:=z) a2;have s2:RF.ev (.set 0) [sl erow (hp.set i p++[z]),.v (.int .i64 (((i-1)/2:Nat):Int)),EP e]=some (sl erow (swpH hp i ((i-1)/2) e p++[z])):=s2;generalize hkk:k371_7=kk at ih;subst hkk;unfold k371_7;simp only[EV,decide_eq_true_eq,gt_iff_lt];rw[if_pos (by omega)];simp only[EV,f_bin,q2,ixM hiH,ixM (show(i-1)/2<n by omega),eltM g1,eltM g2,rowE,den_lt,cm]
   by_cases hc:evLess e p=true
   ·rw[if_pos hc,if_pos ⟨h0,hc⟩];simp only[EV,f_bin,q2,ixM hiH,ixM (show(i-1)/2<n by omega),eltM g1,eltM g2,rowE,den_lt,shEP,s1,s2,eltM g3,eltM g4,rf,pj,ej,ixM pW,ixM eW,s3,s4]
    rw[eW'] at ih⊢;exact ih
   ·rw[if_neg hc,if_neg (fun q=>hc q.2)]
theorem rB {N:Nat}{f0 f1:JT}{z:Evt}{e0 e1 e2 e3 e4 e5 e6 e7 e8 e9 e10 e11 e12 e13 e14 e16 e17 e18 e19 e20 e21 e22 e24 e25 e26 e27 e28 e29 e30 e31 e32 e33 e34 e35 e36:PV}{n W:Nat}(hn:n≤1000): ∀(r i m:Nat) (hp:List Evt) (wh:List Int),n≤r+i→r<m→i<n→hp.length=n→wh.length=W→(∀x∈hp,GoodE W x)→
  denW (PhiS D) N sa [f0,f1] [e0,e1,e2,e3,e4,e5,e6,e7,e8,e9,e10,e11,e12,e13,e14,.i64 (W:Int),e16,e17,e18,e19,e20,e21,e22,.i64 (n:Int),e24,e25,e26,e27,e28,e29,e30,e31,e32,e33,e34,e35,e36] m [.i64 (i:Int),sl erow (hp++[z]),sl I1 wh]=f1 [sl erow ((downS r hp wh i).1++[z]),sl I1 (downS r hp wh i).2]
 |0,i,m,hp,wh,hi,hm,hiH,hl,hw,hg=>by omega
 |r+1,i,m,hp,wh,hi,hm,hiH,hl,hw,hg=>by
  obtain⟨m,rfl⟩: ∃m',m=m'+1:=⟨m-1,by omega⟩;obtain⟨e,he⟩: ∃e,hp[i]?=some e:=⟨hp[i]'(by omega),ac _⟩;obtain⟨e64,erk,je,ej,eW⟩:=hg e (ah he);have ih:=fun(k:Nat) (p:Evt) (hk:hp[k]?=some p) (hki:i<k)=>rB (N:=N) (f0:=f0) (f1:=f1) (z:=z) (e0:=e0) (e1:=e1) (e2:=e2) (e3:=e3) (e4:=e4) (e5:=e5) (e6:=e6) (e7:=e7) (e8:=e8) (e9:=e9) (e10:=e10) (e11:=e11) (e12:=e12) (e13:=e13) (e14:=e14) (e16:=e16) (e17:=e17) (e18:=e18) (e19:=e19) (e20:=e20) (e21:=e21) (e22:=e22) (e24:=e24) (e25:=e25) (e26:=e26) (e27:=e27) (e28:=e28) (e29:=e29) (e30:=e30) (e31:=e31) (e32:=e32) (e33:=e33) (e34:=e34) (e35:=e35) (e36:=e36) (n:=n) (W:=W) hn r k m (swpH hp i k e p) (d9 wh i k e p) (by omega) (by omega) (by have:=aP hk;omega) (by rw[ml];exact hl) (by rw[nF];exact hw) (wm he hk hg);have ko:=kQ hp i;rw[denW_succ];have fin: ∀(a b c d d' d'':PV) (kk:Nat),kid hp i=kk→kk<n→den (PhiS D) N yK [f0,f1,fun vs=>denW (PhiS D) N sa [f0,f1] [e0,e1,e2,e3,e4,e5,e6,e7,e8,e9,e10,e11,e12,e13,e14,.i64 (W:Int),e16,e17,e18,e19,e20,e21,e22,.i64 (n:Int),e24,e25,e26,e27,e28,e29,e30,e31,e32,e33,e34,e35,e36] m vs] ([e0,e1,e2,e3,e4,e5,e6,e7,e8,e9,e10,e11,e12,e13,e14,.i64 (W:Int),e16,e17,e18,e19,e20,e21,e22,.i64 (n:Int),e24,e25,e26,e27,e28,e29,e30,e31,e32,e33,e34,e35,e36]++[.i64 (i:Int),sl erow (hp++[z]),sl I1 wh,a,b,c,d,d',d'',.i64 (kk:Int)])=f1 [sl erow ((downS (r+1) hp wh i).1++[z]),sl I1 (downS (r+1) hp wh i).2]:=fun a b c d d' d'' kk hkk hk=>by
   subst hkk;obtain⟨p,hp'⟩: ∃p,hp[kid hp i]?=some p:=⟨hp[kid hp i]'(by omega),ac _⟩;obtain⟨p64,prk,jp,pj,pW⟩:=hg p (ah hp');have E:downS (r+1) hp wh i=if evLess p e=true then downS r (swpH hp i (kid hp i) e p) (d9 wh i (kid hp i) e p) (kid hp i) else(hp,wh):=by rw[downS,he,hp']
   have ih':=ih _ p hp' (by omega);have cm:=phi (c347 (x:=p) (y:=e) p64 e64);have s1:=lz (hp:=hp) (z:=z) (i:=i) (by omega) p;have s2:RF.ev (.set 0) [sl erow (hp.set i p++[z]),.v (.int .i64 (kid hp i:Int)),EP e]=some (sl erow (swpH hp i (kid hp i) e p++[z])):=lz (hp:=hp.set i p) (z:=z) (i:=kid hp i) (by rw[aB];omega) e;have a1:(swpH hp i (kid hp i) e p)[i]?=some p:=by rw[gH he hp',if_neg (by omega),if_pos rfl]
   have a2:(swpH hp i (kid hp i) e p)[kid hp i]?=some e:=by rw[gH he hp',if_pos rfl]
   have s3:=setI (l:=wh) (i:=jp) (by omega) (i:Int);have s4:=setI (l:=wh.set jp (i:Int)) (i:=je) (by rw[aB];omega) (kid hp i:Int);have eW':d9 wh i (kid hp i) e p=(wh.set jp (i:Int)).set je (kid hp i:Int):=by unfold d9;rw[pj,ej];rfl
   have g1:=fg (z:=z) hp';have g2:=fg (z:=z) he;have g3:=fg (z:=z) a1;have g4:=fg (z:=z) a2;rw[E];unfold yK;simp only[ay,ax,EV,ixM hk,ixM hiH,eltM g1,eltM g2,rowE,den_lt,cm];by_cases hc:evLess p e=true
   ·rw[if_pos hc];simp only[hc,ak,ad,if_false,EV,ixM hk,ixM hiH,eltM g1,eltM g2,rowE,den_lt,shEP,s1,s2,eltM g3,eltM g4,rf,pj,ej,ixM pW,ixM eW,s3,s4];rw[eW'] at ih'⊢;exact ih'
   ·rw[if_neg hc];have hc:evLess p e=false:=by simpa using hc
    simp only[hc,aM,if_true,EV]
  simp only[ay,ax] at fin;have w1:IntKind.i64.wrap (2*(i:Int))=((2*i:Nat):Int):=by rw[bU (by omega) (by omega)];omega
  unfold sa;simp only[EV,decide_eq_true_eq,w1,up1 (show 2*i<1000000000 by omega),up1 (show 2*i+1<1000000000 by omega),ge_iff_le]
  by_cases h1:2*i+1<n
  ·rw[if_neg (by omega)];obtain⟨p,hp'⟩: ∃e,hp[2*i+1]?=some e:=⟨hp[2*i+1]'(by omega),ac _⟩;by_cases h2:2*i+1+1<n
   ·rw[if_pos (by omega)];obtain⟨g,hg'⟩: ∃e,hp[2*i+1+1]?=some e:=⟨hp[2*i+1+1]'(by omega),ac _⟩;have p1:=hg p (ah hp');have b1:=hg g (ah hg');have cm:=phi (c347 (x:=g) (y:=p) b1.t64 p1.t64);have kE:kid hp i=if evLess g p=true then 2*i+2 else 2*i+1:=by unfold kid;rw[hp',show hp[2*i+2]?=some g from hg']
    simp only[EV,up1 (show 2*i+1<1000000000 by omega),ixM h1,ixM h2,eltM (fg (z:=z) hp'),eltM (fg (z:=z) hg'),rowE,den_lt,cm]
    unfold yL;simp only[EV,decide_eq_true_eq,up1 (show 2*i+1<1000000000 by omega)]
    by_cases hc:evLess g p=true
    ·rw[if_pos hc];rw[if_pos hc] at kE;exact fin _ _ _ _ _ _ (2*i+1+1) kE h2
    ·rw[if_neg hc];rw[if_neg hc] at kE;exact fin _ _ _ _ _ _ (2*i+1) kE h1
   ·rw[if_neg (by omega)];unfold yL;simp only[EV,ad,if_false];exact fin _ _ _ _ _ _ (2*i+1) (by unfold kid;rw[hp',show hp[2*i+2]?=none from bk (by omega)]) h1
  ·rw[if_pos (by omega)];have:downS (r+1) hp wh i=(hp,wh):=by rw[downS,he,bk (by omega)]
   rw[this]
theorem Su {hp:List Evt}{z:Evt}(p:Evt):RF.ev (.set 0) [sl erow (hp++[z]),.v (.int .i64 (hp.length:Int)),EP p]=some (sl erow (hp++[p])):=by
 rw[pQ (by simp),m8 _ _ (am _)];simp
theorem wq: ∀(r:Nat) (hp:List Evt) (wh:List Int) (i:Nat),i<hp.length→(upS r hp wh i).1.length=hp.length∧(upS r hp wh i).2.1.length=wh.length∧(upS r hp wh i).2.2≤i∧ ∀x∈(upS r hp wh i).1,x∈hp
 |0,hp,wh,i,_=>⟨rfl,rfl,am _,fun _ h=>h⟩
 |r+1,hp,wh,i,hi=>by
  unfold upS;split
  ·rename_i e p he hp';split
   ·obtain⟨q1,q2,q3,q4⟩:=wq r (swpH hp i ((i-1)/2) e p) (d9 wh i ((i-1)/2) e p) ((i-1)/2) (by rw[ml];omega);exact⟨by rw[q1,ml],by rw[q2,nF],by omega,fun x hx=>(jm he hp').mem_iff.1 (q4 x hx)⟩
   ·exact⟨rfl,rfl,am _,fun _ h=>h⟩
  ·exact⟨rfl,rfl,am _,fun _ h=>h⟩
theorem uz: ∀(r:Nat) (hp:List Evt) (wh:List Int) (i:Nat),(downS r hp wh i).1.length=hp.length∧(downS r hp wh i).2.length=wh.length
 |0,hp,wh,i=>⟨rfl,rfl⟩
 |r+1,hp,wh,i=>by
  unfold downS;split
  ·rename_i e p he hp';split
   ·obtain⟨q1,q2⟩:=uz r (swpH hp i (kid hp i) e p) (d9 wh i (kid hp i) e p) (kid hp i);exact⟨by rw[q1,ml],by rw[q2,nF]⟩
   ·exact⟨rfl,rfl⟩
  ·exact⟨rfl,rfl⟩
open Classical in
theorem XT {a:Agenda}(h:cV a){i j:Nat}{u:Int}{e:Evt}(he:a.heap[i]?=some e)(hh:e.hnd=⟨(j:Int),u⟩)(h64: ∀e∈a.heap,In64 e.time):Ans D 371 [AG a,HD ⟨j,u⟩] [AG (iX a i j)]:=by
 have hs:=okR_fine.1 h.1;have hP:=iJ hs h.2.1;have hsm:=rv h;have n2:=hs.n2;have hl:=h.2.1.2.1;have hi:=aP he;obtain⟨j',u',e1,e2,e3,e4⟩:=hP.at_ i e he;rw[hh] at e1;simp only[Hnd.mk.injEq] at e1;have:j'=j:=by omega
 subst this;have hw:=aP e4;obtain⟨hp,f,hq⟩: ∃hp f,a.heap=hp++[f]:=by
  rcases fw a.heap with h|⟨hp,f,h⟩
  ·rw[h] at hi;exact absurd hi (by simp)
  ·exact⟨hp,f,by simpa using h⟩
 have hn:a.heap.length-1=hp.length:=by rw[hq];simp
 have hn':a.heap.length=hp.length+1:=by rw[hq];simp
 have hlast:a.heap[hp.length]?=some f:=by rw[hq];simp
 have good: ∀x∈a.heap,GoodE a.wher.length x:=fun x hx'=>by
  obtain⟨k,hk⟩:=aA.1 hx';obtain⟨j,v,g1,_,_,g4⟩:=hP.at_ k x hk;exact⟨h64 x hx',(h.2.2.1 x hx').1,j,by rw[g1],aP g4⟩
 have hq':sl erow a.heap=sl erow (hp++[f]):=by rw[hq]
 have c4:=phi (XH (u:=u) hs e2);have bn:RF.ev .bnd [.v (.int .i64 (hp.length:Int)),.v (.int .i64 ((hp.length+1:Nat):Int))]=some (.i64 (hp.length:Int)):=by rw[gZ,if_pos ⟨by omega,by omega⟩]
 have dn:=downN (n:=hp.length) (by omega);have hls: ∀(l:List Int),l.length=a.wher.length→RF.ev .sub [sl I1 l,.v (.int .i64 0),.v (.int .i64 (a.wher.length:Int))]=some (sl I1 l):=fun l hl=>by
  have:=subM (f:=I1) (l:=l);rw[hl] at this;exact this
 have t1:=subM (f:=I1) (l:=a.slots.uses);have t2:=subM (f:=B1) (l:=a.slots.used);have t3:=subM (f:=I1) (l:=a.slots.free);have fin: ∀(z:Evt) (h0:List Evt) (w0:List Int) (b:Bool) (A:Agenda),h0.length=hp.length→w0.length=a.wher.length→(∀x∈h0,GoodE a.wher.length x)→b=(!decide ((i:Int)=(hp.length:Int)))→
   A=(if i=hp.length then⟨giveS a.slots j',h0,w0.set j' (-1)⟩ else⟨giveS a.slots j',(downS hp.length (upS (i+1) h0 (w0.set j' (-1)) i).1 (upS (i+1) h0 (w0.set j' (-1)) i).2.1 (upS (i+1) h0 (w0.set j' (-1)) i).2.2).1,(downS hp.length (upS (i+1) h0 (w0.set j' (-1)) i).1 (upS (i+1) h0 (w0.set j' (-1)) i).2.1 (upS (i+1) h0 (w0.set j' (-1)) i).2.2).2⟩)→
   den (PhiS D) 1001 tE [] [AG a,HD ⟨j',u⟩,AG a,HD ⟨j',u⟩,AG a,AG a,sl I1 a.slots.uses,.i64 (a.slots.uses.length:Int),sl B1 a.slots.used,.i64 (a.slots.used.length:Int),sl I1 a.slots.free,.i64 (a.slots.free.length:Int),sl erow (hp++[f]),.i64 ((hp.length+1:Nat):Int),sl I1 a.wher,.i64 (a.wher.length:Int),.i64 (j':Int),.i64 (j':Int),.i64 (i:Int),.i64 (hp.length:Int),.bool b,sl erow (h0++[z]),sl I1 w0]=some [AG A]:=fun z h0 w0 b A l0 lw hg hb hA=>by
  have s3:=setI (l:=w0) (i:=j') (by omega) (-1);unfold tE;simp only[EV,den_lt,bn,cHD0,ixM hw,s3,t1,t2,t3,aggSL,c4,shSL];by_cases hil:i=hp.length
  ·rw[if_pos hil] at hA;have:(!decide ((i:Int)=(hp.length:Int)))=false:=by simp[hil]
   simp only[this,EV,ad,if_false];have s5:=Bq (hp:=h0) (z:=z);rw[l0] at s5;unfold k371_1;simp only[EV,den_lt,pSL,s5,hls _ (show(w0.set j' (-1)).length=a.wher.length by rw[aB];exact lw),mi,hA]
  ·rw[if_neg hil] at hA;have hil':i<hp.length:=by omega
   have:(!decide ((i:Int)=(hp.length:Int)))=true:=by simp;omega
   simp only[this,EV,if_true];obtain⟨u1,u2,u3,u4⟩:=wq (i+1) h0 (w0.set j' (-1)) i (by omega);rw[aB] at u2;obtain⟨hU,wU,iU,hUe⟩: ∃hU wU iU,upS (i+1) h0 (w0.set j' (-1)) i=(hU,wU,iU):=⟨_,_,_,rfl⟩;rw[hUe] at u1 u2 u3 u4 hA;simp only at u1 u2 u3 u4 hA;obtain⟨hV,wV,hVe⟩: ∃hV wV,downS hp.length hU wU iU=(hV,wV):=⟨_,_,rfl⟩;obtain⟨v1,v2⟩:=uz hp.length hU wU iU;rw[hVe] at v1 v2 hA;simp only at v1 v2 hA;have s5:=Bq (hp:=hV) (z:=z);rw[v1,u1,l0] at s5;have main: ∀(f0 f1:JT) (E:List PV),True:=fun _ _ _=>trivial;refine iv ?_ ?_
   all_goals
    simp only[EV];refine(wo (N:=1001) (z:=z) (n:=hp.length) (W:=a.wher.length) (by omega) (i+1) i 1001 h0 (w0.set j' (-1)) (by omega) (by omega) hil' l0 (by rw[aB];exact lw) hg).trans ?_;rw[hUe]
    first|unfold k371_6|unfold k371_11
    simp only[EV];refine(rB (N:=1001) (z:=z) (n:=hp.length) (W:=a.wher.length) (by omega) hp.length iU 1001 hU wU (by omega) (by omega) (by omega) (u1.trans l0) (u2.trans lw) (fun x hx=>hg x (u4 x hx))).trans ?_;rw[hVe];unfold k371_2;simp only[EV];unfold k371_1;simp only[EV,den_lt,pSL,s5,hls _ (v2.trans (u2.trans lw)),mi,hA]
 have hR:iX a i j'=if i=hp.length then⟨giveS a.slots j',hp,a.wher.set j' (-1)⟩ else
   ⟨giveS a.slots j',(downS hp.length (upS (i+1) (hp.set i f) ((a.wher.set j' (-1)).set f.hnd.index.toNat (i:Int)) i).1 (upS (i+1) (hp.set i f) ((a.wher.set j' (-1)).set f.hnd.index.toNat (i:Int)) i).2.1 (upS (i+1) (hp.set i f) ((a.wher.set j' (-1)).set f.hnd.index.toNat (i:Int)) i).2.2).1,(downS hp.length (upS (i+1) (hp.set i f) ((a.wher.set j' (-1)).set f.hnd.index.toNat (i:Int)) i).1 (upS (i+1) (hp.set i f) ((a.wher.set j' (-1)).set f.hnd.index.toNat (i:Int)) i).2.1 (upS (i+1) (hp.set i f) ((a.wher.set j' (-1)).set f.hnd.index.toNat (i:Int)) i).2.2).2⟩:=by
  unfold iX;rw[hn,hlast];simp only;rw[show a.heap.take hp.length=hp by rw[hq];simp]
 refine ans_of NN VM rfl ⟨1001,?_⟩;unfold D9;simp only[den_lt,shAG,shHD,phi (c209 hsm),cAG0,cAG1,cAG2,cAG3,cAG4,cHD0,EV,aa,hn',dn,ixM hw,eltM e4,rowI];by_cases hil:i=hp.length
 ·have:(!decide ((i:Int)=(hp.length:Int)))=false:=by simp[hil]
  simp only[this,EV,ad,if_false];rw[hq'];refine fin f hp a.wher false _ rfl rfl (fun x hx=>good x (by rw[hq];simp[hx])) this.symm ?_;rw[hR,if_pos hil,if_pos hil]
 ·have hil':i<hp.length:=by omega
  have:(!decide ((i:Int)=(hp.length:Int)))=true:=by simp;omega
  obtain⟨f64,frk,jf,fj,fW⟩:=good f (by rw[hq];simp);have hjf:jf≠j':=fun q=>by
   subst q;obtain⟨jg,ug,g1,_,_,g4⟩:=hP.at_ _ f hlast;rw[g1] at fj;simp only at fj;have:jg=jf:=by omega
   subst this;rw[g4] at e4;simp only[aK] at e4;omega
  have hei:hp[i]?=some e:=by rw[hq,aw hil'] at he;exact he
  have he':=fg (z:=f) hei;have hf':(hp++[f])[hp.length]?=some f:=by simp
  have s1:=lz (hp:=hp) (z:=f) hil' f;have s2:=Su (hp:=hp.set i f) (z:=f) e;rw[aB] at s2;have a1:(hp.set i f++[e])[i]?=some f:=fg (aC hil');have a2:(hp.set i f++[e])[hp.length]?=some e:=by simp
  have s3:=setI (l:=a.wher) (i:=jf) fW (i:Int);have s4:=setI (l:=a.wher.set jf (i:Int)) (i:=j') (by rw[aB];exact hw) (hp.length:Int);simp only[this,if_true];rw[hq'];simp only[EV,den_lt,ixM (show hp.length<hp.length+1 by omega),ixM (show i<hp.length+1 by omega),eltM hf',eltM he',rowE,shEP,s1,s2,eltM a1,eltM a2,rf,fj,hh,ixM fW,ixM hw,s3,s4]
  refine fin e (hp.set i f) _ true _ aB (by rw[aB,aB]) (fun x hx=>?_) this.symm ?_
  ·rcases cg hx with h1|h1
   ·exact good x (by rw[hq];simp[h1])
   ·rw[h1];exact good f (by rw[hq];simp)
  ·rw[hR,if_neg hil,if_neg hil,dY,fj,aq,fX _ _ hjf]
theorem Ks {l:List Due}{a b:Nat}(h:a≤b)(hb:b≤l.length):RF.ev (.tsub 3) [sl bF l,.v (.int .i64 (a:Int)),.v (.int .i64 (b:Int))]=some (sl bF ((l.drop a).take (b-a))):=by
 have ok:elsOk' 3 (l.map bF)=true:=by
  cases l with
  |nil=>rfl
  |cons a k=>simp[elsOk',lenD]
 show(if _ then _ else _)=_
 rw[if_pos ⟨by omega,by omega,by rw[aa];omega,ok,by omega⟩,aq,aq,←jU,←jV]
theorem Qu {c:Clock}(h:ClkOk c)(h64:c6 c)(n:Int):Ans D 308 [CL c,.i64 n] [CL (dG c n)]:=by
 have hs:=AC h;have hcs:=cs_of h;have h4:=h.2.2.2.1;have hdl:=hcs.due;refine ans_of Nl Vl rfl ⟨1,?_⟩;unfold DH;simp only[den_lt,shCL,phi (c112 hcs),pCL3,phi (XS (c:=c.certs) hcs.certs n),shCS,EV,cCL10,aa];cases hf:c.due.find? fun d=>decide (d.number=n) with
 |none=>
  have hall: ∀d∈c.due,d.number≠n:=fun d hd=>by simpa using dW.1 hf d hd
  have eA:dropA c n=c.agenda:=by unfold dropA;rw[hf]
  have eD:(c.due.filter fun d=>isNot n d.number)=c.due:=di.2 fun d hd=>by unfold isNot;simp[hall d hd]
  have ng:decide ((-1:Int)≥0)=false:=rfl;simp only[phi (Ss (c:=c) hdl hall),EV,ng,ad,if_false,den_lt,cCL5,cCL6,cCL7,cCL8,cCL9];unfold yl dG;rw[eA,eD];have q0: ∀x:Certs,RF.ev (.cell 0) [CS x]=some (.i64 x.next):=fun _=>rfl;have q1: ∀x:Certs,RF.ev (.cell 1) [CS x]=some (sl hrow x.list):=fun _=>rfl;simp only[den_lt,cCL0,cCL1,cCL2,q0,q1,vd,EV,aggC11];rfl
 |some d=>
  have hd:=cf hf;have hdn:d.number=n:=by simpa using d5 hf
  obtain⟨k,hk⟩:=aA.1 hd;obtain⟨m,j,u,e,w1,w2,w3,w4,w5,_⟩:=s9 h hd;have cP:=XR hs hdl hk;rw[hdn] at cP;have hkl:=aP hk;have eA:dropA c n=iX c.agenda m j:=by
   unfold dropA;rw[hf];simp only;rw[w4];simp only[aq];rw[w1];simp only[bj,aq]
  have eD:c.due.take k++c.due.drop (k+1)=c.due.filter fun d=>isNot n d.number:=by
   rw[←hdn,←kC (nu:=fun d:Due=>d.number) hs hk,iB]
  have c5:=phi (XT h4 w2 w3 h64.2);rw[←w4] at c5;have gp:decide ((k:Int)≥0)=true:=decide_eq_true (by omega);have b1:=lT (show k≤c.due.length by omega)
  have b2:=lT (show k+1≤c.due.length by omega)
  have t1:=Ks (l:=c.due) (a:=0) (b:=k) (by omega) (by omega);have t2:=Ks (l:=c.due) (a:=k+1) (b:=c.due.length) (by omega) (by omega);rw[bS,Nat.sub_zero] at t1;rw[aR (by rw[bu];omega)] at t2;have a1:RF.ev (.app 24 3) [.sl [],.v (.int .i64 0),sl bF (c.due.take k)]=some (sl bF (c.due.take k)):=ed (l:=c.due.take k) (f:=bF) (bytes:=24) (z:=3) (by rw[aH];omega) lenD;have a2:=dc (f:=bF) (l:=c.due.take k) (k:=c.due.drop (k+1)) (bytes:=24) (z:=3) (by rw[aH,bu];omega) lenD;rw[eD] at a2;have z0:(((0:Nat):Int))=0:=rfl;rw[z0] at t1;simp only[phi cP,EV,gp,if_true,den_lt,pCL5,cCL10,tixM hk (lenD d),eltM hk,rowDh,c5,shAG,b1,b2,t1,t2,a1,a2,up1 (show k<1000000000 by omega),aa,cAG0,cAG1,cAG2,cAG3,cAG4]
  unfold yl dG;rw[eA];have q0: ∀x:Certs,RF.ev (.cell 0) [CS x]=some (.i64 x.next):=fun _=>rfl;have q1: ∀x:Certs,RF.ev (.cell 1) [CS x]=some (sl hrow x.list):=fun _=>rfl;simp only[den_lt,cCL0,cCL1,cCL2,q0,q1,vd,EV,aggC11];rfl
theorem Kt (e:Evt):RF.ev (.cell 2) [EP e]=some (.i64 e.number):=rfl
theorem Sv (e:Evt):rowPart 0 2 (erow e)=some (R e.time):=rfl
theorem I8 (e:Evt):RF.ev (.part 0 2) [EP e]=some (R e.time):=rfl
theorem Sw (c:Clock):RF.ev (.part 2 9) [CL c]=some (.agg ((clC c).drop 2)):=rfl
theorem Br (c:Clock):RF.ev (.part 2 8) [CL c]=some (.agg (((clC c).drop 2).take 8)):=rfl
theorem Qv (c:Clock)(t:Rt):RF.ev .agg [R t,.agg ((clC c).drop 2)]=some (CL (atC c t)):=rfl
theorem wv (c:Clock)(t:Rt):RF.ev .agg [R t,.agg (((clC c).drop 2).take 8),sl bF c.due]=some (CL (atC c t)):=rfl
theorem shRt (t:Rt):RF.ev (.shape 2) [R t]=some (R t):=rfl
theorem pRt (t:Rt):RF.ev (.part 0 2) [R t]=some (R t):=rfl
theorem shCPt (x:Crt):RF.ev (.shape 2) [CP x]=some (CP x):=rfl
theorem XU (x:Crt):RF.ev (.part 0 2) [CP x]=some (CP x):=rfl
def E0:Evt:=⟨⟨0,0⟩,0,⟨0,0⟩⟩
def C0:Crt:=⟨0,0⟩
def CLz:PV:= .agg [.i64 0,.i64 0,.sl [],.i64 0,.sl [],.sl [],.sl [],.sl [],.sl [],.sl [],.sl []]
theorem Ku:RF.ev .agg [.i64 0,.i64 0,.i64 0,.i64 0,.i64 0]=some (EP E0):=rfl
theorem Kv:RF.ev .agg [.i64 0,.i64 0]=some (CP C0):=rfl
theorem aggCLz:RF.ev .agg [.i64 0,.i64 0,.sl [],.i64 0,.sl [],.sl [],.sl [],.sl [],.sl [],.sl [],.sl []]=some CLz:=rfl
open Classical in
theorem XV {a:Agenda}(h:cV a)(h64: ∀e∈a.heap,In64 e.time):Ans D 290 [AG a] (match a.heap[0]? with|some e=>[EP e,.i64 0]|none=>[EP E0,.i64 42]):=by
 have m1:=phi (vS (oO h) h64);rw[decide_eq_true h] at m1;have e0:okE true=0:=rfl;rw[e0] at m1;refine ans_of k290_ok s290 rfl ⟨1,?_⟩;unfold k290;simp only[den_lt,shAG,m1,cAG3,EV,aa,decide_true,ak,ad,if_false,decide_eq_true_eq];cases hh:a.heap[0]? with
 |none=>
  have:a.heap.length=0:=by rw[cW] at hh;omega
  rw[if_pos (by omega)];simp only[EV,den_lt,Ku]
 |some e=>
  have hl:=aP hh;rw[if_neg (by omega)];have z0:(.i64 0:PV)= .v (.int .i64 ((0:Nat):Int)):=rfl;simp only[EV,den_lt,cAG3,z0,tixM hh (lenE e),eltM hh,rowE]
open Classical in
theorem I9 {c:Clock}(h:ClkOk c)(hn:In64 c.now){t:Rt}(hr:rok t=true)(ht:In64 t)(hp:crs c.now t≤0):Ans D 214 [CL c,R t] [.bool (waits c t),.i64 0]:=by
 have h4:=h.2.2.2.1;have h64:=gy h hn;have m1:=phi (pP h64 (gW_of h));rw[decide_eq_true h] at m1;have m2:=phi (c43 ht);rw[hr] at m2;have e0:okE true=0:=rfl;rw[e0] at m1 m2;have mm:RF.ev (.mm true) [.v (.int .i64 0),.v (.int .i64 0)]=some (.v (.int .i64 0)):=rfl;have m3:=phi (kw ht hn);rw[hr,h.1] at m3;have ng:¬sgn (crs t c.now)<0:=by
  have:=crs_neg t c.now;unfold sgn;rw[if_neg (by omega)];split<;>omega
 have m4:=phi (XV h4 h64.2);refine ans_of Mo Ur rfl ⟨1,?_⟩;unfold CI;simp only[den_lt,shCL,shRt,m1,m2,mm,EV,decide_true,ak,ad,if_false,pCL0,m3,bV,if_true,ng,decide_false,pCL5,m4];cases hh:c.agenda.heap[0]? with
 |none=>
  unfold waits;rw[hh];simp only[EV,den_lt,shEP];rfl
 |some e=>
  have hm:=ah hh;have m5:=phi (kw (h64.2 e hm) ht);rw[(h4.2.2.1 e hm).1,hr] at m5;have le:(sgn (crs e.time t)≤0)=(crs e.time t≤0):=by
   unfold sgn;refine propext ⟨fun q=>?_,fun q=>?_⟩
   ·split at q
    ·omega
    ·split at q<;>omega
   ·split
    ·omega
    ·rw[if_neg (by omega)];omega
  unfold waits;rw[hh];simp only[EV,den_lt,shEP,decide_true,ak,ad,if_false,I8,m5,bV,if_true,le]
theorem qH {c:Clock}(h64:c6 c){t:Rt}(ht:In64 t):Ans D 225 [CL c,R t] [.bool (waits c t)]:=by
 refine ans_of Mx Uz rfl ⟨1,?_⟩;unfold CU;simp only[den_lt,shCL,shRt,cCL8,EV,aa,decide_eq_true_eq,gt_iff_lt];cases hh:c.agenda.heap[0]? with
 |none=>
  have:c.agenda.heap.length=0:=by rw[cW] at hh;omega
  rw[if_neg (by omega)];unfold waits xH;rw[hh];rfl
 |some e=>
  have hl:=aP hh;rw[if_pos (by omega)];have z0:(.i64 0:PV)= .v (.int .i64 ((0:Nat):Int)):=rfl;have le:(sgn (crs e.time t)≤0)=(crs e.time t≤0):=by
   unfold sgn;refine propext ⟨fun q=>?_,fun q=>?_⟩
   ·split at q
    ·omega
    ·split at q<;>omega
   ·split
    ·omega
    ·rw[if_neg (by omega)];omega
  unfold waits xH;rw[hh];simp only[EV,den_lt,cCL8,z0,tixM hh (lenE e),eltM hh,Sv,phi (IF (h64.2 e (ah hh)) ht)];simp only[show((0:Nat):Int)=0 from rfl,le]
theorem XW {c:Clock}(h:ClkOk c)(hn:In64 c.now){i:Nat}{x:Held}(hx:c.certs.list[i]?=some x):Ans D 233 [CL c,.i64 x.number] [CL (dG c x.number),.i64 0]:=by
 classical
 have h64:=gy h hn;have m1:=phi (pP h64 (gW_of h));rw[decide_eq_true h] at m1;have e0:okE true=0:=rfl;rw[e0] at m1;refine ans_of k233_ok s233 rfl ⟨1,?_⟩;unfold k233;simp only[den_lt,shCL,m1,EV,decide_true,ak,ad,if_false,phi (c216 h h64 hx),shCPt]
theorem Bt {c:Clock}(h:ClkOk c)(hn:In64 c.now){t:Rt}(hr:rok t=true)(ht:In64 t)(hp:crs c.now t≤0){e:Evt}(he:c.agenda.heap[0]?=some e)(hw:waits c t=true){i:Nat}{x:Held}(hx:c.certs.list[i]?=some x)(hxe:x.number=e.number):Ans D 121 [CL c,R t] [CL (bY c e),EP e,CP x.cert,.i64 0]:=by
 have h64:=gy h hn;have m1:=phi (I9 h hn hr ht hp);rw[hw] at m1;have m2:=phi (c216 h h64 hx);rw[hxe] at m2;have z0:(.i64 0:PV)= .v (.int .i64 ((0:Nat):Int)):=rfl;have t1:=tixM (z:=5) he (lenE e);have t2:=eltM (f:=erow) (o:=0) (n:=5) he;simp only[show((0:Nat):Int)=0 from rfl] at t1 t2
 refine ans_of k121_ok s121 rfl ⟨1,?_⟩;unfold k121;simp only[den_lt,shCL,shRt,m1,EV,decide_true,ak,if_true];unfold k121_2;simp only[EV,ad,if_false];unfold k121_1;simp only[den_lt,EV,decide_true,ak,ad,if_false,cCL8,t1,t2,rowE,Kt,m2,shCL,shCPt,I8,pRt,Sw,Qv];rfl
theorem vg {c:Clock}(h:ClkOk c)(hn:In64 c.now){t:Rt}(hr:rok t=true)(ht:In64 t)(hp:crs c.now t≤0)(hw:waits c t=false):Ans D 121 [CL c,R t] [CLz,EP E0,CP C0,.i64 6]:=by
 have m1:=phi (I9 h hn hr ht hp);rw[hw] at m1;refine ans_of k121_ok s121 rfl ⟨1,?_⟩;unfold k121;simp only[den_lt,shCL,shRt,m1,EV,decide_true,aM,if_true];unfold k121_2;simp only[EV,if_true];unfold k121_1;have g:(!decide ((6:Int)=0))=true:=rfl;simp only[den_lt,EV,g,if_true,aggCLz,Ku,Kv]
theorem Bu {c:Clock}(h:ClkOk c)(hn:In64 c.now){e:Evt}(he:c.agenda.heap[0]?=some e){i:Nat}{x:Held}(hx:c.certs.list[i]?=some x)(hxe:x.number=e.number):Ans D 226 [CL c] [CL (bY c e),EP e,CP x.cert]:=by
 have h64:=gy h hn;have m1:=phi (XQ h.2.2.1 hx);rw[hxe] at m1;have t1:=tixM (z:=5) he (lenE e);have t2:=eltM (f:=erow) (o:=0) (n:=5) he;simp only[show((0:Nat):Int)=0 from rfl] at t1 t2
 have cE: ∀c:Clock,RF.ev .sub [sl bF c.due,.v (.int .i64 0),.v (.int .i64 (c.due.length:Int))]=some (sl bF c.due):=fun c=>subM;refine ans_of My UA rfl ⟨1,?_⟩;unfold CV;simp only[den_lt,EV,shCL,cCL8,t1,t2,rowE,pCL3,Kt,m1,cCL4,tixM hx (lenH x),eltM hx,rowHc,shCPt,phi (Qu h h64 e.number),cCL10,aa,I8,XU,pRt,Br,cE,wv];rfl
theorem Bv {c:Clock}(h:ClkOk c)(hn:In64 c.now){t:Rt}(hr:rok t=true)(ht:In64 t)(hp:crs c.now t≤0)(hw:waits c t=false):Ans D 119 [CL c,R t] [CL (atC c t),.i64 0]:=by
 have m1:=phi (I9 h hn hr ht hp);rw[hw] at m1;have cE: ∀c:Clock,RF.ev .sub [sl bF c.due,.v (.int .i64 0),.v (.int .i64 (c.due.length:Int))]=some (sl bF c.due):=fun c=>subM;refine ans_of LH TI rfl ⟨1,?_⟩;unfold BY;simp only[den_lt,shCL,shRt,m1,EV,decide_true,if_true];unfold FM;simp only[EV,ad,if_false];unfold FL;simp only[den_lt,EV,decide_true,ak,ad,if_false,phi (c215 (cs_of h)),shCL,cCL10,aa,pRt,Br,cE,wv]
theorem c228 {c:Clock}(h:CSm c){t:Rt}:Ans D 228 [CL c,R t] [CL (atC c t)]:=by
 have cE: ∀c:Clock,RF.ev .sub [sl bF c.due,.v (.int .i64 0),.v (.int .i64 (c.due.length:Int))]=some (sl bF c.due):=fun c=>subM;refine ans_of Mz UB rfl ⟨1,?_⟩;unfold CW;simp only[den_lt,EV,shCL,shRt,phi (c112 h),cCL10,aa,pRt,Br,cE,wv]
def CSz:PV:= .agg [.i64 0,.sl []]
def AGz:PV:= .agg [.sl [],.sl [],.sl [],.sl [],.sl []]
theorem rC:RF.ev .agg [.i64 0,.sl []]=some CSz:=rfl
theorem Qw:RF.ev .agg [.sl [],.sl [],.sl [],.sl [],.sl []]=some AGz:=rfl
theorem Kw:RF.ev (.shape 2) [CSz]=some CSz:=rfl
theorem Sy:RF.ev (.shape 5) [AGz]=some AGz:=rfl
theorem Sz:RF.ev (.shape 3) [u9]=some u9:=rfl
theorem Qx:RF.ev (.shape 2) [H0]=some H0:=rfl
open Classical in
theorem SA {c:Certs}{x:Crt}(h:bW c)(hx:x.ok)(hn: ∀g∈c.list,g.cert≠x)(hf:c.list.length=200∨c.next=1000000):Ans D 375 [CS c,CP x] [CSz,.i64 0,.i64 18]:=by
 have e0:okE true=0:=rfl;have m1:=phi (IP c);rw[decide_eq_true h,e0] at m1;have m2:=phi (IN x);rw[decide_eq_true hx] at m2;have m3:=phi (Bc (c:=c) (x:=x) (by have:=h.1;omega));rw[show(c.list.any fun h=>decide (h.cert=x))=false from by rw[cF];intro g hg;simpa using hn g hg] at m3
 refine ans_of Ap PI rfl ⟨1,?_⟩;unfold yN;simp only[den_lt,shCS,shCP,m1,m2,m3,cCS0,cCS1,EV,aa,decide_true,ak,ad,if_false,decide_eq_true_eq];by_cases h1:(c.list.length:Int)=200
 ·rw[if_pos h1];simp only[EV,den_lt,rC]
 ·rw[if_neg h1];have h2:c.next=1000000:=hf.resolve_left (by omega);simp only[EV,den_lt,cCS0,h2,rC,decide_true,if_true]
open Classical in
theorem SD {c:Certs}{x:Crt}(h:bW c)(hx:x.ok)(hn: ∀g∈c.list,g.cert≠x)(hf:c.list.length=200∨c.next=1000000):Ans D 320 [CS c,CP x] [CSz,.i64 0,.i64 18]:=by
 have hl:=h.1;have e0:okE true=0:=rfl;have m1:=phi (Bi (c:=c) (by omega));rw[decide_eq_true h,e0] at m1;have m2:=phi (IO x);rw[decide_eq_true hx] at m2;refine ans_of k320_ok s320 rfl ⟨1001,?_⟩;unfold k320;simp only[den_lt,shCS,shCP,m1,m2,cCS1,EV,aa,decide_true,ak,ad,if_false];refine(run_list (m:=1001) (l:=c.list) (p:=fun g=>!decide (g.cert=x)) (st:=fun i=>[.i64 (i:Int)]) (r:=none) (fin:=some [CSz,.i64 0,.i64 18]) (fun i g self hg _=>?_) (fun hall self=>?_) (by omega)).trans ?_
 ·have hne:¬g.cert=x:=hn g (ah hg);unfold oT;simp only[den_lt,cCS1,tixM hg (lenH _),eltM hg,rowH,pHP,eqvC,EV,decide_eq_true_eq,if_lt (get_lt hg),up1 (show i<1000000000 by have:=get_lt hg;omega),hne,decide_false,aM,ad,if_true,if_false]
 ·unfold oT;simp only[EV,decide_eq_true_eq,if_ge];unfold yx;have g0:decide ((-1:Int)≥0)=false:=rfl;simp only[EV,g0,ad,if_false,den_lt,cCS1,aa,decide_eq_true_eq];by_cases h1:(c.list.length:Int)=200
  ·rw[if_pos h1];simp only[EV,den_lt,rC]
  ·rw[if_neg h1];have h2:c.next=1000000:=hf.resolve_left (by omega);simp only[EV,den_lt,cCS0,h2,rC,decide_true,if_true]
 ·rw[if_pos (by rw[aG];intro g hg;simpa using hn g hg)]
open Classical in
theorem SE {s:Slots}(h:SFine s)(ho:gf s=false):Ans D 382 [SL s] [u9,H0,.i64 18]:=by
 have hc:=phi (Bh (nB h));rw[decide_eq_true (okR_fine.2 h)] at hc;have e0:okE true=0:=rfl;rw[e0] at hc;refine ans_of k382_ok s382 rfl ⟨1,?_⟩;unfold k382;rcases free_last h with e|⟨fr,i,u,e,hu,h1,h2⟩
 ·simp only[den_lt,shSL,hc,cSL2,e,EV,fy,bJ,decide_true,ak,ad,if_false,aggS0,aggH0];rfl
 ·rw[nA e hu] at ho;have hm:=(h.uses i u hu).2.1;have hu':u=1000000:=by simp only[decide_eq_false_iff_not] at ho;omega
  subst hu';have hne:¬((s.free.length:Nat):Int)=0:=by rw[e];simp;omega
  have c4:=phi (Qm (fr:=fr) (i:=(i:Int)) (by omega));rw[←e] at c4;simp only[den_lt,shSL,hc,cSL0,cSL1,cSL2,EV,aa,decide_true,ak,ad,if_false,hne,decide_false,c4,tixM hu (lenI _),eltM hu,rowI,if_true,aggS0,aggH0]
theorem SG {a:Agenda}(h:cV a)(ho:gf a.slots=false){t:Rt}{n:Int}(hx:rok t=true∧0≤n∧n≤1000000)(hn:n∉a.heap.map (·.number))(ht:In64 t)(h64: ∀e∈a.heap,In64 e.time):Ans D 317 [AG a,R t,.i64 n] [AGz,H0,.i64 18]:=by
 classical
 have hs:=okR_fine.1 h.1;have n2:=hs.n2;have hl:=h.2.1.2.1;have m1:=phi (vS (oO h) h64);rw[decide_eq_true h] at m1;have m2:=phi (c43 ht);rw[hx.1] at m2;have e0:okE true=0:=rfl;rw[e0] at m1 m2;have mm:RF.ev (.mm true) [.v (.int .i64 0),.v (.int .i64 0)]=some (.v (.int .i64 0)):=rfl;refine ans_of k317_ok s317 rfl ⟨1001,?_⟩;unfold k317;simp only[den_lt,shAG,shapeR,m1,m2,mm,cAG3,EV,aa,decide_true,ak,ad,if_false,decide_eq_true_eq,gt_iff_lt];rw[if_neg (by omega),if_neg (by omega)];refine(run_list (m:=1001) (l:=a.heap) (p:=fun g=>!decide (g.number=n)) (st:=fun i=>[.i64 (i:Int)]) (r:=none) (fin:=some [AGz,H0,.i64 18]) (fun k g self hg hall=>?_) (fun hall self=>?_) (by omega)).trans ?_
 ·have hne:¬g.number=n:=fun e=>hn (aN.2 ⟨g,ah hg,e⟩);unfold mu;simp only[den_lt,cAG3,tixM hg (lenE _),eltM hg,rowE,cEP2,EV,decide_eq_true_eq,if_lt (get_lt hg),up1 (show k<1000000000 by have:=get_lt hg;omega),hne,decide_false,aM,ad,if_true,if_false]
 ·unfold mu;simp only[EV,decide_eq_true_eq,if_ge];unfold yw;have g0:decide ((-1:Int)≥0)=false:=rfl;have g1:(!decide ((18:Int)=0))=true:=rfl;simp only[EV,g0,g1,ad,if_false,if_true,den_lt,pAG,phi (SE hs ho),Sz,Qx,Qw,aggH0]
 ·rw[if_pos (by rw[aG];intro g hg;simpa using fun e=>hn (aN.2 ⟨g,hg,e⟩))]
open Classical in
theorem SH {c:Clock}{x:Crt}(h:CAd c x)(hn:In64 c.now)(hf:iY c x):Ans D 238 [CL c,CP x] [CLz,.i64 0,.i64 18]:=by
 have hc:=cs_of h.ok;have h64:=gy h.ok hn;have m1:=phi (pP h64 (gW_of h.ok));rw[decide_eq_true h.ok,show okE true=0 from rfl] at m1
 have hF:=h.ok.2.1;have n8:decide ((0:Int)=8)=false:=rfl;have n18:decide ((18:Int)=8)=false:=rfl;have g1:(!decide ((18:Int)=0))=true:=rfl;have p1:=nE hF h.low;have p2:=nE hF h.high;refine ans_of k238_ok s238 rfl ⟨1,?_⟩;unfold k238;by_cases h1:c.certs.list.length=200∨c.certs.next=1000000
 ·simp only[den_lt,shCL,shCP,pCL3,pCL2,m1,phi (SD h.ok.2.2.1 h.cok h.new h1),Kw,cCP0,cCP1,phi (c315 hF _),cPP0,EV,decide_true,ak,ad,if_false,n18,decide_eq_false p1,decide_eq_false p2,g1,if_true,aggCLz]
 ·obtain⟨hf,ho⟩:=hf.resolve_left h1;have hlen:=h.ok.2.2.1.1;have hnx:=h.ok.2.2.1.2.2.1;have m2:=phi (Qq h.ok.2.2.1 h.cok h.new (by omega) (by omega));have m3:=phi (IR (x:=x) hF h64.1);rw[if_pos (Az hF h.ok.1 h.cok h.low h.high)] at m3;have hf':(failT c.now (ptOf c.pts x.high) (ptOf c.pts x.low)).2=true:=hf;rw[hf'] at m3;obtain⟨f1,f2⟩:=mj hF h64.1 h.ok.1 h.low h.high hf';have m4:=phi (SG h.ok.2.2.2.1 ho (t:=(fT c x).1) (n:=c.certs.next) ⟨f1,h.ok.2.2.1.2.1,by omega⟩ (nD h.ok) f2 h64.2);have m4:PhiS D 317 [AG c.agenda,R (failT c.now (ptOf c.pts x.high) (ptOf c.pts x.low)).1,.v (.int .i64 c.certs.next)]=_:=m4;simp only[den_lt,shCL,shCP,shapeR,pCL3,pCL2,pCL0,pCL5,m1,m2,shCS,cCP0,cCP1,phi (c315 hF _),cPP0,EV,decide_true,ak,ad,if_false,n8,decide_eq_false p1,decide_eq_false p2,phi (c215 hc),cCL10,aa,m3,m4,Sy,Qx,g1,if_true,aggCLz]
theorem SI {c:Clock}{x:Crt}(h:CAd c x)(hn:In64 c.now)(hf:iY c x):Ans D 311 [CL c,CP x] [CLz,.i64 0,.i64 18]:=by
 have hc:=cs_of h.ok;have h64:=gy h.ok hn;have hF:=h.ok.2.1;have g1:(!decide ((18:Int)=0))=true:=rfl;refine ans_of k311_ok s311 rfl ⟨1,?_⟩;unfold k311;by_cases h1:c.certs.list.length=200∨c.certs.next=1000000
 ·simp only[den_lt,shCL,shCP,pCL3,phi (SA h.ok.2.2.1 h.cok h.new h1),Kw,EV,g1,if_true,aggCLz]
 ·obtain⟨hf,ho⟩:=hf.resolve_left h1;have hlen:=h.ok.2.2.1.1;have hnx:=h.ok.2.2.1.2.2.1;have m2:=phi (Qp h.ok.2.2.1 h.cok h.new (by omega) (by omega));have m3:=phi (IQ (x:=x) hF h64.1 h.low h.high);have hf':(failT c.now (ptOf c.pts x.high) (ptOf c.pts x.low)).2=true:=hf;rw[hf'] at m3;have m5:=phi (Qn (okR_fine.1 h.ok.2.2.2.1.1));rw[ho] at m5;simp only[den_lt,shCL,shCP,shapeR,pCL3,pCL2,pCL0,pCL53,m2,shCS,EV,decide_true,ak,aM,ad,if_false,if_true,phi (c112 hc),cCL10,aa,m3,m5,aggCLz]
theorem add_ans {c:Clock}{x:Crt}(h:CAd c x)(hn:In64 c.now)(hf:¬iY c x):Ans D 238 [CL c,CP x] [CL (fk c x),.i64 c.certs.next,.i64 0]∧Ans D 311 [CL c,CP x] [CL (fk c x),.i64 c.certs.next,.i64 0]:=by
 have ha:=h.add hf;have h64:=gy h.ok hn;obtain⟨a1,a2⟩:=XB ha h64;obtain⟨b1,b2⟩:=XC ha h64;unfold fk;by_cases h1:(fT c x).2=true
 ·rw[if_pos h1];have ho:gf c.agenda.slots=true:=by
   cases q:gf c.agenda.slots with
   |true=>rfl
   |false=>exact absurd (.inr ⟨h1,q⟩) hf
  obtain⟨fr,i,u,e,hu,hm⟩:=uT (okR_fine.1 h.ok.2.2.2.1.1) ho;have e1:frL c=fr:=by unfold frL;rw[e];simp
  have e2:frI c=i:=by unfold frI;rw[e];simp
  rw[e1,e2,hu];exact⟨a2 h1 e hu hm,b2 h1 e hu hm⟩
 ·rw[if_neg h1];exact⟨a1 (by simpa using h1),b1 (by simpa using h1)⟩
theorem rD {es:List Crt}{l:List Held}{c:Clock}{k:Nat}{x:Held}(hx:l[k]?=some x):dropL es (l.take (k+1)) c=if x.cert∈es then dropL es (l.take k) c else dG (dropL es (l.take k) c) x.number:=by
 unfold dropL;rw[cG,hx,List.foldl_append];rfl
theorem Ja {es:List Crt}{c:Clock}(h:ClkOk c){k:Nat}{x:Held}(hx:c.certs.list[k]?=some x): ∃i:Nat,(dropL es (c.certs.list.take k) c).certs.list[i]?=some x:=by
 have:=(dk es (c.certs.list.take k) c h).2.2;refine aA.1 ?_;rw[this,aX];refine⟨ah hx,?_⟩;rw[aG];intro y hy;obtain⟨j,hj⟩:=aA.1 hy;have hjk:j<k:=by have:=aP hj;rw[aH] at this;omega
 rw[dB hjk] at hj;have:=oQ (asc_certs h.2.2.1) hjk hj hx;simp only[ct]
 right
 simp[isNot];omega
def stC (c:Clock):List PV:=[.i64 c.now.num,.i64 c.now.den,sl row c.pts,.i64 c.certs.next,sl hrow c.certs.list,sl I1 c.agenda.slots.uses,sl B1 c.agenda.slots.used,sl I1 c.agenda.slots.free,sl erow c.agenda.heap,sl I1 c.agenda.wher,sl bF c.due]
theorem lA {es:List Crt}{c:Clock}(h:ClkOk c)(hn:In64 c.now)(l:List Held):In64 (dropL es l c).now:=by rw[(dk es l c h).1.now];exact hn
theorem Of {N:Nat}{f:JT}{c:Clock}{es:List Crt}(h:ClkOk c)(hn:In64 c.now)(hE:es.length≤1000){e0 e1 e4 e5:PV}:denW (PhiS D) N k140_9 [f] [e0,e1,sl crow es,CL c,e4,e5,.i64 (c.certs.list.length:Int)] 1001 (stC c++[.i64 ((0:Nat):Int)])=f (stC (dropL es c.certs.list c)):=by
 have hl:=h.2.2.1.1;have e:stC c=stC (dropL es (c.certs.list.take 0) c):=rfl;rw[e];refine(dQ (m:=1001) (n:=c.certs.list.length) (st:=fun k=>stC (dropL es (c.certs.list.take k) c)++[.i64 (k:Int)]) (fin:=f (stC (dropL es c.certs.list c))) (fun k self hk=>?_) (fun self=>?_) (by omega))
 ·have hx:c.certs.list[k]?=some c.certs.list[k]:=ac _;generalize c.certs.list[k]=x at hx;obtain⟨i,hi⟩:=Ja (es:=es) h hx;have A:=(dk es (c.certs.list.take k) c h).1;have m:=phi (XW A.ok (lA h hn _) hi);rw[rD hx];generalize dropL es (c.certs.list.take k) c=a at A m;clear hi;unfold k140_9;simp only[stC,ay,ax,EV,decide_eq_true_eq,if_lt hk,den_lt,cCL4,tixM hx (lenH _),eltM hx,rowH,pHP,phi (c155 x.cert hE)];by_cases hm:x.cert∈es
  ·simp only[hm,decide_true,ak,ad,if_false,if_true,EV,wW,up1 (show k<1000000000 by omega)]
  ·simp only[hm,decide_false,aM,if_true,if_false,den_lt,aggCL,cHP0,m,shCL,cCL0,cCL1,cCL2,cCL3,cCL4,cCL5,cCL6,cCL7,cCL8,cCL9,cCL10,EV,wW,up1 (show k<1000000000 by omega)]
 ·have e:c.certs.list.take c.certs.list.length=c.certs.list:=ii;rw[e];unfold k140_9;simp only[stC,ay,ax,EV,decide_eq_true_eq,if_ge]
theorem shCLz:RF.ev (.shape 11) [CLz]=some CLz:=rfl
theorem ww {α:Type}{p:α→Bool}{l:List α}:(l.any p=true→ ∃i,l.findIdx? p=some i)∧(l.any p=false→l.findIdx? p=none):=by
 constructor
 ·intro h;cases e:l.findIdx? p with
  |some i=>exact⟨i,rfl⟩
  |none=>
   rw[bO] at e;rw[eE] at h;obtain⟨x,hx,hp⟩:=h;rw[e x hx] at hp;cases hp
 ·intro h;rw[bO];rw[cF] at h;intro x hx;simpa using h x hx
open Classical in
theorem rE {N:Nat}{f:JT}{l:List Pt}{es:List Crt}{e0 e1 e3 e4 e5 e6 e7 e8 e9 e10 e11 e12 e13 e14 e15 e16 e17 e18 e19 e20 e21 e22 e23 e24 e25 e26 e27 e28 e29 e30 e31 e32:PV}(hE:EdgF l es)(hlen:es.length≤1000)(hN:1001≤N): ∀(r k m:Nat) (a:Clock),k+r=es.length→r<m→ClkOk a→In64 a.now→a.pts=l→
  denW (PhiS D) N k140_5 [f] [e0,e1,sl crow es,e3,e4,e5,e6,e7,e8,e9,e10,e11,e12,e13,e14,e15,e16,e17,e18,e19,e20,e21,e22,e23,e24,e25,e26,e27,e28,e29,e30,e31,e32,.i64 (es.length:Int)] m (.i64 0::(stC a++[.i64 (k:Int)]))=match addL (es.drop k) a with|some d=>f (stC d)|none=>some [CLz,.i64 18]
 |0,k,m,a,hk,hm,h,hn,hp=>by
  obtain⟨m,rfl⟩: ∃m',m=m'+1:=⟨m-1,by omega⟩;rw[denW_succ,bR (by omega)];unfold k140_5 addL;simp only[stC,ay,ax,EV,decide_eq_true_eq];rw[if_neg (by omega)]
 |r+1,k,m,a,hk,hm,h,hn,hp=>by
  obtain⟨m,rfl⟩: ∃m',m=m'+1:=⟨m-1,by omega⟩;have hkl:k<es.length:=by omega
  obtain⟨x,hx⟩: ∃x,es[k]?=some x:=⟨es[k],ac _⟩;have hxm:=ah hx;have hdr:es.drop k=x::es.drop (k+1):=by
   rw[bG hkl,(aj.1 hx).2]
  have ih:=fun(a:Clock) h hn hp=>rE (N:=N) (f:=f) (l:=l) (es:=es) (e0:=e0) (e1:=e1) (e3:=e3) (e4:=e4) (e5:=e5) (e6:=e6) (e7:=e7) (e8:=e8) (e9:=e9) (e10:=e10) (e11:=e11) (e12:=e12) (e13:=e13) (e14:=e14) (e15:=e15) (e16:=e16) (e17:=e17) (e18:=e18) (e19:=e19) (e20:=e20) (e21:=e21) (e22:=e22) (e23:=e23) (e24:=e24) (e25:=e25) (e26:=e26) (e27:=e27) (e28:=e28) (e29:=e29) (e30:=e30) (e31:=e31) (e32:=e32) hE hlen hN r (k+1) m a (by omega) (by omega) h hn hp;have hal:=h.2.2.1.1;rw[denW_succ,hdr];have g0:decide (-1≥(0:Int))=false:=rfl;have g18:(!decide ((18:Int)=0))=true:=rfl;have E:addL (x::es.drop (k+1)) a=if(a.certs.list.any fun h=>decide (h.cert=x))=true then addL (es.drop (k+1)) a else if iY a x then none else addL (es.drop (k+1)) (fk a x):=rfl
  rw[E];generalize hkk:k140_5=kk at ih;subst hkk;unfold k140_5;simp only[stC,ay,ax,EV,decide_eq_true_eq,if_lt hkl,den_lt,tixM hx (lenC _),eltM hx,rowC,aa];refine(run_list (m:=N) (l:=a.certs.list) (p:=fun g=>!decide (g.cert=x)) (st:=fun i=>[.i64 (i:Int)]) (r:=match addL (es.drop (k+1)) a with|some d=>f (stC d)|none=>some [CLz,.i64 18]) (fin:=if iY a x then some [CLz,.i64 18] else match addL (es.drop (k+1)) (fk a x) with|some d=>f (stC d)|none=>some [CLz,.i64 18]) (fun i g self' hg _=>?_) (fun hall self'=>?_) (by omega)).trans ?_
  ·rw[←ih a h hn hp];unfold wT;simp only[den_lt,tixM hg (lenH _),eltM hg,rowH,pHP,eqvC,EV,decide_eq_true_eq,if_lt (get_lt hg),up1 (show i<1000000000 by have:=get_lt hg;omega)]
   by_cases hc:g.cert=x
   ·rw[if_pos hc,if_neg (show¬((!decide (g.cert=x))=true) by simp[hc])]
    simp only[EV,den_lt,cCP0,cCP1];unfold wS;simp only[EV,up1 (show k<1000000000 by omega),stC,ay,ax]
    rw[if_pos (by omega)];rfl
   ·rw[if_neg hc,if_pos (show(!decide (g.cert=x))=true by simp[hc])]
  ·have hany:(a.certs.list.any fun h=>decide (h.cert=x))=false:=by
    rw[cF];intro g hg;have:=aG.1 hall g hg;simpa using this
   have hcd:=pG hE h hp hxm hany;unfold wT;simp only[EV,decide_eq_true_eq,if_ge];unfold F8;by_cases hfl:iY a x
   ·rw[if_pos hfl];simp only[EV,g0,g18,ad,if_false,if_true,den_lt,aggCL,phi (SH hcd hn hfl),shCLz,aggCLz]
   ·rw[if_neg hfl];obtain⟨q1,q2,q3,q4⟩:=kR hcd hn hfl;rw[←ih (fk a x) q1 (by rw[q4];exact hn) (q3.trans hp)];simp only[EV,g0,ad,if_false,den_lt,aggCL,phi (add_ans hcd hn hfl).1,shCL,decide_true,ak,cCL0,cCL1,cCL2,cCL3,cCL4,cCL5,cCL6,cCL7,cCL8,cCL9,cCL10,cCP0,cCP1];unfold wS;simp only[EV,up1 (show k<1000000000 by omega),stC,ay,ax]
    rfl
  ·by_cases hall:(a.certs.list.all fun g=>!decide (g.cert=x))=true
   ·have hany:(a.certs.list.any fun h=>decide (h.cert=x))=false:=by
     rw[cF];intro g hg;have:=aG.1 hall g hg;simpa using this
    rw[if_pos hall,hany,if_neg (show¬(false=true) by simp)]
    by_cases hfl:iY a x
    ·rw[if_pos hfl,if_pos hfl]
    ·rw[if_neg hfl,if_neg hfl];rfl
   ·rw[if_neg hall];have hany:(a.certs.list.any fun h=>decide (h.cert=x))=true:=by
     cases q:a.certs.list.any fun h=>decide (h.cert=x) with
     |true=>rfl
     |false=>
      rw[cF] at q;exact absurd (aG.2 fun g hg=>by simpa using q g hg) hall
    rw[hany,if_pos (show true=true from rfl)]
    rfl
def renewA (es:List Crt)(c:Clock):List PV:=match renewC es c with
 |some d=>[CL d,.i64 0]
 |none=>[CLz,.i64 18]
theorem Kx {c:Clock}{es:List Crt}(h:ClkOk c)(hn:In64 c.now)(hE:EdgF c.pts es)(hl:es.length≤1000):Ans D 140 [CL c,F c.pts,sl crow es] (renewA es c):=by
 obtain⟨q1,_,_⟩:=dk es c.certs.list c h;have hp:=q1.pts;have hpl:=(cs_of h).pts;have e234:=phi (XD (l:=c.pts) (k:=c.pts) (by omega));rw[decide_eq_true rfl] at e234;have key:den (PhiS D) 1001 wX [] [CL c,F c.pts,sl crow es]=some (renewA es c):=by
  unfold wX;simp only[den_lt,shCL,shapeF,cCL0,cCL1,cCL2,cCL3,cCL4,cCL5,cCL6,cCL7,cCL8,cCL9,cCL10,EV,aa];refine(Of (N:=1001) h hn hl).trans ?_;unfold Ga;simp only[stC,ay,ax,EV,den_lt,cellF,hp,e234,ak,ad,if_false];unfold F9;simp only[EV,aa];have al:=fun(f:JT) (e0 e1 e3 e4 e5 e6 e7 e8 e9 e10 e11 e12 e13 e14 e15 e16 e17 e18 e19 e20 e21 e22 e23 e24 e25 e26 e27 e28 e29 e30 e31 e32:PV)=>rE (N:=1001) (f:=f) (l:=c.pts) (es:=es) (e0:=e0) (e1:=e1) (e3:=e3) (e4:=e4) (e5:=e5) (e6:=e6) (e7:=e7) (e8:=e8) (e9:=e9) (e10:=e10) (e11:=e11) (e12:=e12) (e13:=e13) (e14:=e14) (e15:=e15) (e16:=e16) (e17:=e17) (e18:=e18) (e19:=e19) (e20:=e20) (e21:=e21) (e22:=e22) (e23:=e23) (e24:=e24) (e25:=e25) (e26:=e26) (e27:=e27) (e28:=e28) (e29:=e29) (e30:=e30) (e31:=e31) (e32:=e32) hE hl (am _) es.length 0 1001 (dropL es c.certs.list c) (by omega) (by omega) q1.ok (lA h hn _) hp;simp only[stC,hp,ay,ax] at al;refine(al _ _ _ _ _ _ _ _ _ _ _ _ _ _ _ _ _ _ _ _ _ _ _ _ _ _ _ _ _ _ _ _ _).trans ?_;rw[bS];unfold renewA renewC;cases addL es (dropL es c.certs.list c) with
  |none=>rfl
  |some d=>
   unfold F7;simp only[EV,den_lt,aggCL]
 unfold renewA at key⊢;cases hr:renewC es c with
 |none=>rw[hr] at key;exact ans_of k140_ok s140 rfl ⟨1001,key⟩
 |some d=>rw[hr] at key;exact ans_of k140_ok s140 rfl ⟨1001,key⟩
theorem XX {es:List Crt}(v:Crt)(hl:es.length≤1000):Ans D 309 [sl crow es,CP v] [.bool (decide (v∈es))]:=by
 have key:den (PhiS D) 1001 yn [] [sl crow es,CP v]=some [.bool (decide (v∈es))]:=by
  unfold yn;simp only[den_lt,shCPt,EV];refine(eY (m:=1001) (l:=es) (p:=fun g=>decide (g=v)) (st:=fun i=>[.i64 (i:Int)]) (ret:=fun _=>some [.bool true]) (fin:=some [.bool false]) (fun k g self hg=>?_) (fun self=>?_) (by omega)).trans ?_
  ·unfold ym;simp only[den_lt,EV,aa,decide_eq_true_eq,if_lt (get_lt hg),tixM hg (lenC _),eltM hg,rowC,eqvC,up1 (show k<1000000000 by have:=get_lt hg;omega)]
  ·unfold ym;simp only[den_lt,EV,aa,decide_eq_true_eq,if_ge,Hn]
  ·by_cases hv:v∈es
   ·obtain⟨i,hi⟩:=(ww (p:=fun g=>decide (g=v)) (l:=es)).1 (eE.2 ⟨v,hv,by simp⟩);rw[hi,decide_eq_true hv];rfl
   ·rw[ww.2 (by rw[cF];intro x hx;have:x≠v:=fun e=>hv (e▸hx);simp[this]),decide_eq_false hv];rfl
 exact ans_of Nn Vm rfl ⟨1001,key⟩
theorem nG (c:Clock):RF.ev .sub [sl bF c.due,.v (.int .i64 0),.v (.int .i64 (c.due.length:Int))]=some (sl bF c.due):=subM
theorem Og {N:Nat}{f:JT}{c:Clock}{es:List Crt}(h:ClkOk c)(hn:In64 c.now)(hE:es.length≤1000){e0 e1 e4 e5 e6 e7 e8:PV}:denW (PhiS D) N rV [f] [e0,e1,sl crow es,CL c,e4,e5,e6,e7,e8] 1001 (stC c++[.i64 (c.due.length:Int),.i64 ((0:Nat):Int)])=f (stC (dropL es c.certs.list c)++[.i64 ((dropL es c.certs.list c).due.length:Int)]):=by
 have hl:=h.2.2.1.1;have e:stC c++[.i64 (c.due.length:Int),.i64 ((0:Nat):Int)]=stC (dropL es (c.certs.list.take 0) c)++[.i64 ((dropL es (c.certs.list.take 0) c).due.length:Int),.i64 ((0:Nat):Int)]:=rfl;rw[e];refine(dQ (m:=1001) (n:=c.certs.list.length) (st:=fun k=>stC (dropL es (c.certs.list.take k) c)++[.i64 ((dropL es (c.certs.list.take k) c).due.length:Int),.i64 (k:Int)]) (fin:=f (stC (dropL es c.certs.list c)++[.i64 ((dropL es c.certs.list c).due.length:Int)])) (fun k self hk=>?_) (fun self=>?_) (by omega))
 ·have hx:c.certs.list[k]?=some c.certs.list[k]:=ac _;generalize c.certs.list[k]=x at hx;have A:=(dk es (c.certs.list.take k) c h).1;have m:=phi (Qu A.ok (gy A.ok (lA h hn _)) x.number);rw[rD hx];generalize dropL es (c.certs.list.take k) c=a at A m;have s0:=nG a;unfold rV;simp only[stC,ay,ax,EV,decide_eq_true_eq,den_lt,cCL4,aa,if_lt hk,tixM hx (lenH _),eltM hx,rowHc,phi (XX x.cert hE)];by_cases hm:x.cert∈es
  ·simp only[hm,decide_true,ak,ad,if_false,if_true,EV,xI,up1 (show k<1000000000 by omega)]
  ·simp only[hm,decide_false,aM,if_true,if_false,den_lt,cCL4,tixM hx (lenH _),eltM hx,uY,s0,aggCL,m,shCL,cCL0,cCL1,cCL2,cCL3,cCL4,cCL5,cCL6,cCL7,cCL8,cCL9,cCL10,EV,aa,xI,up1 (show k<1000000000 by omega)]
 ·have e:c.certs.list.take c.certs.list.length=c.certs.list:=ii;rw[e];unfold rV;simp only[stC,ay,ax,EV,den_lt,cCL4,aa,decide_eq_true_eq,if_ge]
open Classical in
theorem rF {N:Nat}{f:JT}{l:List Pt}{es:List Crt}{e0 e1 e3 e4 e5 e6 e7 e8 e9 e10 e11 e12 e13 e14 e15 e16 e17 e18 e19 e20 e21 e22 e23 e24 e25 e26 e27 e28 e29 e30 e31 e32 e33 e34 e35:PV}(hE:EdgF l es)(hlen:es.length≤1000): ∀(r k m:Nat) (a:Clock),k+r=es.length→r<m→ClkOk a→In64 a.now→a.pts=l→
  denW (PhiS D) N k227_3 [f] [e0,e1,sl crow es,e3,e4,e5,e6,e7,e8,e9,e10,e11,e12,e13,e14,e15,e16,e17,e18,e19,e20,e21,e22,e23,e24,e25,e26,e27,e28,e29,e30,e31,e32,e33,e34,e35] m (stC a++[.i64 (a.due.length:Int),.i64 (k:Int)])=match addL (es.drop k) a with|some d=>f (stC d++[.i64 (d.due.length:Int)])|none=>some [CLz,.i64 18]
 |0,k,m,a,hk,hm,h,hn,hp=>by
  obtain⟨m,rfl⟩: ∃m',m=m'+1:=⟨m-1,by omega⟩;rw[denW_succ,bR (by omega)];unfold k227_3 addL;simp only[stC,ay,ax,EV,aa,decide_eq_true_eq];rw[if_neg (by omega)]
 |r+1,k,m,a,hk,hm,h,hn,hp=>by
  obtain⟨m,rfl⟩: ∃m',m=m'+1:=⟨m-1,by omega⟩;have hkl:k<es.length:=by omega
  obtain⟨x,hx⟩: ∃x,es[k]?=some x:=⟨es[k],ac _⟩;have hxm:=ah hx;have hdr:es.drop k=x::es.drop (k+1):=by
   rw[bG hkl,(aj.1 hx).2]
  have ih:=fun(a:Clock) h hn hp=>rF (N:=N) (f:=f) (l:=l) (es:=es) (e0:=e0) (e1:=e1) (e3:=e3) (e4:=e4) (e5:=e5) (e6:=e6) (e7:=e7) (e8:=e8) (e9:=e9) (e10:=e10) (e11:=e11) (e12:=e12) (e13:=e13) (e14:=e14) (e15:=e15) (e16:=e16) (e17:=e17) (e18:=e18) (e19:=e19) (e20:=e20) (e21:=e21) (e22:=e22) (e23:=e23) (e24:=e24) (e25:=e25) (e26:=e26) (e27:=e27) (e28:=e28) (e29:=e29) (e30:=e30) (e31:=e31) (e32:=e32) (e33:=e33) (e34:=e34) (e35:=e35) hE hlen r (k+1) m a (by omega) (by omega) h hn hp;have hal:=h.2.2.1.1;have s0:=nG a;have m2:=phi (Bc (c:=a.certs) (x:=x) (by omega));have g18:(!decide ((18:Int)=0))=true:=rfl;have cz:RF.ev (.cell 10) [CLz]=some (.sl []):=rfl;rw[denW_succ,hdr];unfold addL;generalize hkk:k227_3=kk at ih;subst hkk;unfold k227_3;simp only[stC,ay,ax,EV,aa,decide_eq_true_eq,if_lt hkl,den_lt,tixM hx (lenC _),eltM hx,rowC,aggCS,m2];cases hany:a.certs.list.any fun h=>decide (h.cert=x) with
  |true=>
   have ih:=ih a h hn hp;simp only[stC,ay,ax] at ih;simp only[if_true,EV];refine bP ?_ ih;unfold k227_2;simp only[EV,up1 (show k<1000000000 by omega)]
   rfl
  |false=>
   have hcd:=pG hE h hp hxm hany;by_cases hfl:iY a x
   ·have hb:(if iY a x then(none:Option Clock) else addL (es.drop (k+1)) (fk a x))=none:=if_pos hfl
    simp only[ad,if_false,hb];simp only[EV,g18,cz,if_true,den_lt,tixM hx (lenC _),eltM hx,rowC,s0,aggCL,phi (SI hcd hn hfl),shCLz,aggCLz,bJ]
   ·obtain⟨q1,q2,q3,q4⟩:=kR hcd hn hfl;have ih:=ih (fk a x) q1 (by rw[q4];exact hn) (q3.trans hp);have hb:(if iY a x then(none:Option Clock) else addL (es.drop (k+1)) (fk a x))=addL (es.drop (k+1)) (fk a x):=if_neg hfl
    simp only[stC,ay,ax] at ih;simp only[ad,if_false,hb];refine bP ?_ ih;simp only[EV,den_lt,tixM hx (lenC _),eltM hx,rowC,s0,aggCL,phi (add_ans hcd hn hfl).2,shCL,decide_true,ak,ad,if_false,cCL0,cCL1,cCL2,cCL3,cCL4,cCL5,cCL6,cCL7,cCL8,cCL9,cCL10,aa];unfold k227_2;simp only[EV,up1 (show k<1000000000 by omega)]
    rfl
theorem vk {c:Clock}{es:List Crt}(h:ClkOk c)(hn:In64 c.now)(hE:EdgF c.pts es)(hl:es.length≤1000):Ans D 227 [CL c,F c.pts,sl crow es] (renewA es c):=by
 obtain⟨q1,_,_⟩:=dk es c.certs.list c h;have hp:=q1.pts;have hpl:=(cs_of h).pts;have e28:=phi (c28 (l:=c.pts) (k:=c.pts) (by omega));rw[decide_eq_true rfl] at e28;have key:den (PhiS D) 1001 xJ [] [CL c,F c.pts,sl crow es]=some (renewA es c):=by
  unfold xJ;simp only[den_lt,shCL,shapeF,phi (c112 (cs_of h)),cCL0,cCL1,cCL2,cCL3,cCL4,cCL5,cCL6,cCL7,cCL8,cCL9,cCL10,EV,aa];refine(Og (N:=1001) h hn hl).trans ?_;unfold GT;simp only[stC,ay,ax,EV,den_lt,Qi,hp,e28,ak,ad,if_false];unfold GS;simp only[EV,aa];have al:=fun(f:JT) (e0 e1 e3 e4 e5 e6 e7 e8 e9 e10 e11 e12 e13 e14 e15 e16 e17 e18 e19 e20 e21 e22 e23 e24 e25 e26 e27 e28 e29 e30 e31 e32 e33 e34 e35:PV)=>rF (N:=1001) (f:=f) (l:=c.pts) (es:=es) (e0:=e0) (e1:=e1) (e3:=e3) (e4:=e4) (e5:=e5) (e6:=e6) (e7:=e7) (e8:=e8) (e9:=e9) (e10:=e10) (e11:=e11) (e12:=e12) (e13:=e13) (e14:=e14) (e15:=e15) (e16:=e16) (e17:=e17) (e18:=e18) (e19:=e19) (e20:=e20) (e21:=e21) (e22:=e22) (e23:=e23) (e24:=e24) (e25:=e25) (e26:=e26) (e27:=e27) (e28:=e28) (e29:=e29) (e30:=e30) (e31:=e31) (e32:=e32) (e33:=e33) (e34:=e34) (e35:=e35) hE hl es.length 0 1001 (dropL es c.certs.list c) (by omega) (by omega) q1.ok (lA h hn _) hp;simp only[stC,hp,ay,ax] at al;refine(al _ _ _ _ _ _ _ _ _ _ _ _ _ _ _ _ _ _ _ _ _ _ _ _ _ _ _ _ _ _ _ _ _ _ _ _).trans ?_;rw[bS];unfold renewA renewC;cases addL es (dropL es c.certs.list c) with
  |none=>rfl
  |some d=>
   have s0:=nG d;unfold GR;simp only[EV,den_lt,s0,aggCL]
 unfold renewA at key⊢;cases hr:renewC es c with
 |none=>rw[hr] at key;exact ans_of k227_ok s227 rfl ⟨1001,key⟩
 |some d=>rw[hr] at key;exact ans_of k227_ok s227 rfl ⟨1001,key⟩
end Go.Proofs.YtfghdmmapmdcgaaGreat
