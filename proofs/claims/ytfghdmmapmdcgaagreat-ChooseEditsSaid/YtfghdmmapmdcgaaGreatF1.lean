import Derived.Test.YtfghdmmapmdcgaaGreatE1
import Derived.Test.YtfghdmmapmdcgaaGreatR1
import Derived.Test.YtfghdmmapmdcgaaGreatC3
set_option linter.unusedVariables false
set_option linter.unusedSimpArgs false
set_option linter.defProp false
noncomputable section
namespace Go.Proofs.YtfghdmmapmdcgaaGreat
open Go.Sym Bnd
set_option maxRecDepth 100000
def UA {l:List Bool}{i:Nat}(h:i<l.length):RF.ev (.set 0) [sl B1 l,.v (.int .i64 (i:Int)),.v (.bool false)]=some (sl B1 (l.set i false)):=by
 rw[qY,ad (by omega),aG,aW,ah h];exact bj (λx=>some (PV.sl x)) (jZ (f:=B1) (l:=l) (i:=i) (a:=false)).symm
def ag5 {l:List Int}{x:Int}(hl:l.length<=999):Ans D 421 [sl I1 l,.i64 x] [sl I1 (l++[x])]:=by
 have ap:=fh (f:=I1) (l:=l) (k:=[x]) (bytes:=8) (z:=1) (by simp;omega) bS;have bs:RF.ev (.bs 1 [.v (.int .i64 0)] [0]) [.i64 x]=some (sl I1 [x]):=rfl;have su:RF.ev .sub [sl I1 [x],.v (.int .i64 0),.v (.int .i64 1)]=some (sl I1 [x]):=rfl;have s2:=bF (f:=I1) (l:=l++[x]);refine am ?_;unfold acu;simp only[EV,phi (XV (l:=l) (by omega)),ai,bs,su,ap,s2]
open Classical in
def Yf {s:Slots}(h:SFine s){i:Nat}{u:Int}(hu:s.used[i]?=some true)(hv:s.uses[i]?=some u):Ans D 402 [SL s,HD ⟨i,u⟩] [.bool true,.i64 0]:=by
 have hi:=aN hu;have hc:=phi (Lz (vI h));rw[au (cZ.2 h)] at hc;have e0:okE true=0:=rfl;rw[e0] at hc;refine am ?_;unfold acl;simp only[iW,lz,hc,kf,m9,EV,ai,az,aE,aq,aw,aa];rw[ad (by omega)];rw[ad (by omega)];simp[iX,m9,RJ,EV,aS hu (rD _),aJ hu,tj,aS hv (bS _),aJ hv,bZ];rfl
open Classical in
def ag6 {s:Slots}(h:SFine s){i:Nat}{u:Int}(hu:s.used[i]?=some true)(hv:s.uses[i]?=some u):Ans D 403 [SL s,HD ⟨i,u⟩] [SL (iD s i),.i64 0]:=by
 have hi:=aN hu;have n2:=h.n2;have hb:=gL h.nd h.rng;have s1:=bF (f:=I1) (l:=s.uses);have s2:=bF (f:=B1) (l:=s.used.set i false);rw[aH] at s2;refine am ?_;unfold acm;simp only[iW,lz,phi (Yf h hu hv),phi (XX (AO h)),phi (ag5 (l:=s.free) (x:=(i:Int)) (by omega)),iX,kf,iY,m9,EV,ai,ixM hi,UA hi,s1,s2];rfl
def ag7 {s:Slots}(h:SFine s){i:Nat}{u:Int}(hu:s.used[i]?=some true):Ans D 406 [SL s,HD ⟨i,u⟩] [SL (iD s i)]:=by
 have hi:=aN hu;have n2:=h.n2;have hb:=gL h.nd h.rng;have s1:=bF (f:=I1) (l:=s.uses);have s2:=bF (f:=B1) (l:=s.used.set i false);rw[aH] at s2;have ap:=fh (f:=I1) (l:=s.free) (k:=[(i:Int)]) (bytes:=8) (z:=1) (by simp;omega) bS;have bs:RF.ev (.bs 1 [.v (.int .i64 0)] [0]) [.i64 (i:Int)]=some (sl I1 [(i:Int)]):=rfl;have su:RF.ev .sub [sl I1 [(i:Int)],.v (.int .i64 0),.v (.int .i64 1)]=some (sl I1 [(i:Int)]):=rfl;have s3:=bF (f:=I1) (l:=s.free++[(i:Int)]);refine am ?_;unfold acn;simp only[iW,lz,phi (R9 (AO h)),iX,kf,iY,m9,EV,ai,ixM hi,UA hi,bs,su,ap,s1,s2,s3];rfl
def jN {hp:List Evt}{z p:Evt}{i:Nat}(h:hp[i]?=some p):(hp++[z])[i]?=some p:=by rw[aI (bb h)];exact h
def sU {hp:List Evt}{z:Evt}{i:Nat}(h:i<hp.length)(p:Evt):RF.ev (.set 0) [sl bO (hp++[z]),.v (.int .i64 (i:Int)),EP p]=some (sl bO (hp.set i p++[z])):=by
 rw[lX (by simp;omega),pb _ _ h]
def Ks {N:Nat}{f0 f1:JT}{f z:Evt}{e0 e1 e2 e3 e4 e5 e6 e7 e8 e9 e10 e11 e12 e13 e14 e15 e16 e18 e19 e22 e23 e24 e25:PV}{n W:Nat}(hn:n<=1000)(hf:GoodE W f):∀(r i m:Nat) (hp:List Evt) (wh:List Int),i<=r->r<m->i<n->hp.length=n->wh.length=W->(∀x∈hp,GoodE W x)->
  cS (aY D) N uq [f0,f1] [e0,e1,e2,e3,e4,e5,e6,e7,e8,e9,e10,e11,e12,e13,e14,e15,e16,.i64 (W:Int),e18,e19,EP f,.i64 (n:Int),e22,e23,e24,e25] m [.i64 (i:Int),sl bO (hp++[z]),sl I1 wh]=f1 [sl bO ((dM f r hp wh i).1++[z]),sl I1 (dM f r hp wh i).2.1,.i64 ((dM f r hp wh i).2.2:Int)]
 |0,i,m,hp,wh,hi,hm,hiH,hl,hw,hg=>by
  obtain⟨m,rfl⟩:∃m',m=m'+1:=⟨m-1,by omega⟩;have:i=0:=by omega
  subst this;rw[bc];unfold uq dM;simp only[EV,aa];rw[ac (by omega)]
 |r+1,i,m,hp,wh,hi,hm,hiH,hl,hw,hg=>by
  obtain⟨m,rfl⟩:∃m',m=m'+1:=⟨m-1,by omega⟩;obtain⟨p,hp'⟩:∃p,hp[(i-1)/2]?=some p:=⟨hp[(i-1)/2]'(by omega),ah _⟩;have E:dM f (r+1) hp wh i=if 0<i/\ evLess f p=true then dM f r (hp.set i p) (wh.set p.hnd.index.toNat (i:Int)) ((i-1)/2) else(hp,wh,i):=by rw[dM,hp']
  rw[E,bc];by_cases h0:0<i
  rotate_left
  .rw[ac (λh=>h0 h.1)];unfold uq;simp only[EV,aa];rw[ac (by omega)]
  .obtain⟨p64,prk,jp,pj,pW⟩:=hg p (ay hp');have ih:=Ks (N:=N) (f0:=f0) (f1:=f1) (f:=f) (z:=z) (e0:=e0) (e1:=e1) (e2:=e2) (e3:=e3) (e4:=e4) (e5:=e5) (e6:=e6) (e7:=e7) (e8:=e8) (e9:=e9) (e10:=e10) (e11:=e11) (e12:=e12) (e13:=e13) (e14:=e14) (e15:=e15) (e16:=e16) (e18:=e18) (e19:=e19) (e22:=e22) (e23:=e23) (e24:=e24) (e25:=e25) (n:=n) (W:=W) hn hf r ((i-1)/2) m (hp.set i p) (wh.set p.hnd.index.toNat (i:Int)) (by omega) (by omega) (by omega) (by rw[aH];exact hl) (by rw[aH];exact hw) (λx hx=>by
    rcases b6 hx with h1|h1
    .exact hg x h1
    .rw[h1];exact⟨p64,prk,jp,pj,pW⟩)
   have cm:=phi (tu (x:=f) (y:=p) hf.t64 p64 hf.rok prk);have q2:=tC h0 (by omega);have s1:=sU (hp:=hp) (z:=z) (i:=i) (by omega) p;have s3:=dQ (l:=wh) (i:=jp) (by omega) (i:Int);have g1:=jN (z:=z) hp';generalize hkk:uq=kk at ih;subst hkk;unfold uq;simp[EV];rw[ad (by omega)];simp only[EV,q2,ixM (show(i-1)/2<n by omega),aJ g1,eU,cm,aa,kL]
   by_cases hc:evLess f p=true
   .rw[ad hc,ad ⟨h0,hc⟩];simp[EV,fN,q2,ixM hiH,ixM (show(i-1)/2<n by omega),aJ g1,eU,ax,ly,s1,xE,pj,ixM pW,s3]
    rw[pj,aG] at ih;exact ih
   .rw[ac hc,ac (λq=>hc q.2)]
def DF {N:Nat}{f0 f1:JT}{f z:Evt}{e0 e1 e2 e3 e4 e5 e6 e7 e8 e9 e10 e11 e12 e13 e14 e15 e16 e18 e19 e22 e23 e24 e25 e26 e27 e28 e29 e30:PV}{n W:Nat}(hn:n<=1000)(hf:GoodE W f):∀(r i m:Nat) (hp:List Evt) (wh:List Int),n<=r+i->r<m->i<n->hp.length=n->wh.length=W->(∀x∈hp,GoodE W x)->
  cS (aY D) N Br [f0,f1] [e0,e1,e2,e3,e4,e5,e6,e7,e8,e9,e10,e11,e12,e13,e14,e15,e16,.i64 (W:Int),e18,e19,EP f,.i64 (n:Int),e22,e23,e24,e25,e26,e27,e28,e29,e30] m [.i64 (i:Int),sl bO (hp++[z]),sl I1 wh,.i64 ((2*i+1:Nat):Int)]=f1 [sl bO ((d9 f r hp wh i).1++[z]),sl I1 (d9 f r hp wh i).2.1,.i64 ((d9 f r hp wh i).2.2:Int)]
 |0,i,m,hp,wh,hi,hm,hiH,hl,hw,hg=>by omega
 |r+1,i,m,hp,wh,hi,hm,hiH,hl,hw,hg=>by
  obtain⟨m,rfl⟩:∃m',m=m'+1:=⟨m-1,by omega⟩;have ih:=λ(k:Nat) (p:Evt) (hk:hp[k]?=some p) (hki:i<k)=>DF (N:=N) (f0:=f0) (f1:=f1) (f:=f) (z:=z) (e0:=e0) (e1:=e1) (e2:=e2) (e3:=e3) (e4:=e4) (e5:=e5) (e6:=e6) (e7:=e7) (e8:=e8) (e9:=e9) (e10:=e10) (e11:=e11) (e12:=e12) (e13:=e13) (e14:=e14) (e15:=e15) (e16:=e16) (e18:=e18) (e19:=e19) (e22:=e22) (e23:=e23) (e24:=e24) (e25:=e25) (e26:=e26) (e27:=e27) (e28:=e28) (e29:=e29) (e30:=e30) (n:=n) (W:=W) hn hf r k m (hp.set i p) (wh.set p.hnd.index.toNat (i:Int)) (by omega) (by omega) (by have:=bb hk;omega) (by rw[aH];exact hl) (by rw[aH];exact hw) (λx hx=>by
    rcases b6 hx with h1|h1
    .exact hg x h1
    .rw[h1];exact hg p (ay hk))
  rw[bc];have fin:∀(a b c d:PV) (kk:Nat),kid hp i=kk->kk<n->den (aY D) N Ii [f0,f1,λvs=>cS (aY D) N Br [f0,f1] [e0,e1,e2,e3,e4,e5,e6,e7,e8,e9,e10,e11,e12,e13,e14,e15,e16,.i64 (W:Int),e18,e19,EP f,.i64 (n:Int),e22,e23,e24,e25,e26,e27,e28,e29,e30] m vs] ([e0,e1,e2,e3,e4,e5,e6,e7,e8,e9,e10,e11,e12,e13,e14,e15,e16,.i64 (W:Int),e18,e19,EP f,.i64 (n:Int),e22,e23,e24,e25,e26,e27,e28,e29,e30]++[.i64 (i:Int),sl bO (hp++[z]),sl I1 wh,.i64 ((2*i+1:Nat):Int),a,b,c,d,.i64 (kk:Int)])=f1 [sl bO ((d9 f (r+1) hp wh i).1++[z]),sl I1 (d9 f (r+1) hp wh i).2.1,.i64 ((d9 f (r+1) hp wh i).2.2:Int)]:=λa b c d kk hkk hk=>by
   subst hkk;have ko:=mN hp i;obtain⟨p,hp'⟩:∃p,hp[kid hp i]?=some p:=⟨hp[kid hp i]'(by omega),ah _⟩;obtain⟨p64,prk,jp,pj,pW⟩:=hg p (ay hp');have E:d9 f (r+1) hp wh i=if evLess p f=true then d9 f r (hp.set i p) (wh.set p.hnd.index.toNat (i:Int)) (kid hp i) else(hp,wh,i):=by rw[d9,hp']
   have ih':=ih _ p hp' (by omega);have cm:=phi (tu (x:=p) (y:=f) p64 hf.t64 prk hf.rok);have s1:=sU (hp:=hp) (z:=z) (i:=i) (by omega) p;have s3:=dQ (l:=wh) (i:=jp) (by omega) (i:Int);have g1:=jN (z:=z) hp';have w1:IntKind.i64.wrap (2*(kid hp i:Int))=((2*kid hp i:Nat):Int):=by rw[bV (by omega) (by omega)];omega
   rw[E];unfold Ii;simp[EV,ixM hk,aJ g1,eU,cm];by_cases hc:evLess p f=true
   .rw[ad hc,ac (by have:=(kL p f).2 hc;omega)];simp only[EV,ixM hiH,eU,ax,ly,s1,xE,pj,ixM pW,s3,w1,up1 (show 2*kid hp i<1000000000 by omega)]
    rw[pj,aG] at ih';exact ih'
   .rw[ac hc,ad (by have:=Cy (show evLess p f=false by simpa using hc);omega)]
  simp only[bf,aT] at fin;unfold Br;simp only[EV,aa];by_cases h1:2*i+1<n
  .rw[ad (by omega)];simp only[EV,aa,up1 (show 2*i+1<1000000000 by omega)]
   obtain⟨e,he⟩:∃e,hp[2*i+1]?=some e:=⟨hp[2*i+1]'(by omega),ah _⟩;by_cases h2:2*i+1+1<n
   .rw[ad (by omega)];obtain⟨g,hg'⟩:∃e,hp[2*i+1+1]?=some e:=⟨hp[2*i+1+1]'(by omega),ah _⟩;have a1:=hg e (ay he);have b1:=hg g (ay hg');have cm:=phi (tu (x:=g) (y:=e) b1.t64 a1.t64 b1.rok a1.rok);have kE:kid hp i=if evLess g e=true then 2*i+2 else 2*i+1:=by unfold kid;rw[he,show hp[2*i+2]?=some g from hg']
    simp only[EV,up1 (show 2*i+1<1000000000 by omega),ixM h1,ixM h2,aJ (jN (z:=z) he),aJ (jN (z:=z) hg'),eU,ax,cm]
    unfold Ij;simp only[EV,aa,up1 (show 2*i+1<1000000000 by omega),kL]
    by_cases hc:evLess g e=true
    .rw[ad hc];rw[ad hc] at kE;exact fin _ _ _ _ (2*i+1+1) kE h2
    .rw[ac hc];rw[ac hc] at kE;exact fin _ _ _ _ (2*i+1) kE h1
   .rw[ac (by omega)];unfold Ij;simp only[EV,aq,aw];exact fin _ _ _ _ (2*i+1) (by unfold kid;rw[he,show hp[2*i+2]?=none from aZ (by omega)]) h1
  .rw[ac (by omega)];have:d9 f (r+1) hp wh i=(hp,wh,i):=by
    have ko:=mN hp i;rw[d9,aZ (by omega)]
   rw[this]
def xG {f:Evt}:∀(r:Nat) (hp:List Evt) (wh:List Int) (i:Nat),i<hp.length->(dM f r hp wh i).1.length=hp.length/\(dM f r hp wh i).2.1.length=wh.length/\(dM f r hp wh i).2.2<=i/\∀x∈(dM f r hp wh i).1,x∈hp
 |0,hp,wh,i,_=>⟨rfl,rfl,aC _,λ_ h=>h⟩
 |r+1,hp,wh,i,hi=>by
  unfold dM;split
  .rename_i p hp';split
   .obtain⟨q1,q2,q3,q4⟩:=xG (f:=f) r (hp.set i p) (wh.set p.hnd.index.toNat (i:Int)) ((i-1)/2) (by rw[aH];omega);refine⟨by rw[q1,aH],by rw[q2,aH],by omega,λx hx=>?_⟩;rcases b6 (q4 x hx) with h|h
    .exact h
    .rw[h];exact ay hp'
   .exact⟨rfl,rfl,aC _,λ_ h=>h⟩
  .exact⟨rfl,rfl,aC _,λ_ h=>h⟩
def xH {f:Evt}:∀(r:Nat) (hp:List Evt) (wh:List Int) (i:Nat),i<hp.length->(d9 f r hp wh i).1.length=hp.length/\(d9 f r hp wh i).2.1.length=wh.length/\(d9 f r hp wh i).2.2<hp.length
 |0,hp,wh,i,hi=>⟨rfl,rfl,hi⟩
 |r+1,hp,wh,i,hi=>by
  unfold d9;split
  .rename_i p hp';split
   .obtain⟨q1,q2,q3⟩:=xH (f:=f) r (hp.set i p) (wh.set p.hnd.index.toNat (i:Int)) (kid hp i) (by rw[aH];exact bb hp');rw[aH] at q1 q2 q3;exact⟨q1,q2,q3⟩
   .exact⟨rfl,rfl,hi⟩
  .exact⟨rfl,rfl,hi⟩
def LQ {hp:List Evt}{z:Evt}:RF.ev .sub [sl bO (hp++[z]),.v (.int .i64 0),.v (.int .i64 (hp.length:Int))]=some (sl bO hp):=by
 rw[td,ad (by simp;omega)];simp
def ag8 (e:Evt):RF.ev (.part 3 2) [EP e]=some (HD e.hnd):=rfl
open Classical in
def ag9 {a:Agenda}(h:dX a){i j:Nat}{u:Int}{e:Evt}(he:a.heap[i]?=some e)(hh:e.hnd=⟨(j:Int),u⟩)(h64:∀e∈a.heap,aX e.time):Ans D 365 [AG a,.i64 (i:Int)] [AG (kx a i j),EP e,.i64 0]:=by
 have hs:=cZ.1 h.1;have hP:=jW hs h.2.1;have hsm:=vK h;have n2:=hs.n2;have hl:=h.2.1.2.1;have hi:=bb he;obtain⟨j',u',e1,e2,e3,e4⟩:=hP.at_ i e he;rw[hh] at e1;simp only[Hnd.mk.injEq] at e1;have:j'=j:=by omega
 subst this;have hu:u=u':=e1.2;subst hu;have hw:=bb e4;obtain⟨hp,f,hq⟩:∃hp f,a.heap=hp++[f]:=by
  rcases ib a.heap with h|⟨hp,f,h⟩
  .grind
  .grind
 have hn:a.heap.length-1=hp.length:=by rw[hq];simp
 have hn':a.heap.length=hp.length+1:=by rw[hq];simp
 have hlast:a.heap[hp.length]?=some f:=by rw[hq];simp
 have good:∀x∈a.heap,GoodE a.wher.length x:=λx hx'=>by
  obtain⟨k,hk⟩:=aL.1 hx';obtain⟨j,v,g1,_,_,g4⟩:=hP.at_ k x hk;exact⟨h64 x hx',(h.2.2.1 x hx').1,j,by rw[g1],bb g4⟩
 have hR:kx a i j'=if i=hp.length then⟨iD a.slots j',hp,a.wher.set j' (-1)⟩ else
   ⟨iD a.slots j',(dr hp.length (upS (i+1) (hp.set i f) ((a.wher.set j' (-1)).set f.hnd.index.toNat (i:Int)) i).1 (upS (i+1) (hp.set i f) ((a.wher.set j' (-1)).set f.hnd.index.toNat (i:Int)) i).2.1 (upS (i+1) (hp.set i f) ((a.wher.set j' (-1)).set f.hnd.index.toNat (i:Int)) i).2.2).1,(dr hp.length (upS (i+1) (hp.set i f) ((a.wher.set j' (-1)).set f.hnd.index.toNat (i:Int)) i).1 (upS (i+1) (hp.set i f) ((a.wher.set j' (-1)).set f.hnd.index.toNat (i:Int)) i).2.1 (upS (i+1) (hp.set i f) ((a.wher.set j' (-1)).set f.hnd.index.toNat (i:Int)) i).2.2).2⟩:=by
  unfold kx;rw[hn,hlast];simp only;rw[show a.heap.take hp.length=hp by rw[hq];simp]
 have c4:=phi (ag6 hs e2 e3);have bn:RF.ev .bnd [.v (.int .i64 (hp.length:Int)),.v (.int .i64 ((hp.length+1:Nat):Int))]=some (.i64 (hp.length:Int)):=by rw[jO,ad ⟨by omega,by omega⟩]
 have dn:=qO (n:=hp.length) (by omega);have s3:=dQ (l:=a.wher) (i:=j') hw (-1);have hls:∀(l:List Int),l.length=a.wher.length->RF.ev .sub [sl I1 l,.v (.int .i64 0),.v (.int .i64 (a.wher.length:Int))]=some (sl I1 l):=λl hl=>by
  have:=bF (f:=I1) (l:=l);rw[hl] at this;exact this
 refine an ⟨1001,?_⟩;unfold abT;simp only[ax,ga,d7,aS he (kb _),aJ he,eU,EV,pAG,ag8,hh,c4,iW,az,aE,aq,aw,phi (Sa hsm),gt,ai,hn',dn,ixM (show hp.length<hp.length+1 by omega),aJ hlast,bn,xE,ixM hw,s3,aa]
 by_cases hil:i=hp.length
 .rw[ac (by omega)];rw[hR,ad hil];unfold Ih;simp only[EV,ax,pSL,hq,LQ,hls _ aH,rM]
 .have hil:i<hp.length:=by omega
  rw[ad (by omega)];have hgf:=good f (by rw[hq];simp);have hgp:∀x∈hp,GoodE a.wher.length x:=λx hx=>good x (by rw[hq];simp[hx]);obtain⟨hU,wU,iU,hUe⟩:∃hU wU iU,dM f (i+1) hp (a.wher.set j' (-1)) i=(hU,wU,iU):=⟨_,_,_,rfl⟩;obtain⟨hV,wV,iV,hVe⟩:∃hV wV iV,d9 f hp.length hU wU iU=(hV,wV,iV):=⟨_,_,_,rfl⟩;obtain⟨u1,u2,u3,u4⟩:=xG (f:=f) (i+1) hp (a.wher.set j' (-1)) i hil;rw[hUe] at u1 u2 u3 u4;simp only at u1 u2 u3 u4;rw[aH] at u2;obtain⟨v1,v2,v3⟩:=xH (f:=f) hp.length hU wU iU (by omega);rw[hVe] at v1 v2 v3;simp only at v1 v2 v3;have up:=yT (x:=f) (i+1) hp (a.wher.set j' (-1)) i hil;rw[hUe] at up;simp only at up;have dnn:=yE (x:=f) hp.length hU wU iU (by omega);rw[hVe] at dnn;simp only at dnn;rw[hR,ac (by omega),up];simp only;rw[dnn];simp only;obtain⟨f64,frk,jf,fj,fW⟩:=hgf;have hgf:=good f (by rw[hq];simp);have hq':sl bO a.heap=sl bO (hp++[f]):=by rw[hq]
  rw[hq'];refine(Ks (N:=1001) (f:=f) (z:=f) (n:=hp.length) (W:=a.wher.length) (by omega) hgf (i+1) i 1001 hp (a.wher.set j' (-1)) (by omega) (by omega) hil rfl aH hgp).trans ?_;rw[hUe];have w1:IntKind.i64.wrap (2*(iU:Int))=((2*iU:Nat):Int):=by rw[bV (by omega) (by omega)];omega
  unfold Qp;simp only[EV,w1,up1 (show 2*iU<1000000000 by omega)]
  refine(DF (N:=1001) (f:=f) (z:=f) (n:=hp.length) (W:=a.wher.length) (by omega) hgf hp.length iU 1001 hU wU (by omega) (by omega) (by omega) u1 u2 (λx hx=>hgp x (u4 x hx))).trans ?_;rw[hVe];have s1:=sU (hp:=hV) (z:=f) (i:=iV) (by omega) f;have s4:=dQ (l:=wV) (i:=jf) (by omega) (iV:Int);have s5:=LQ (hp:=hV.set iV f) (z:=f);rw[aH,v1,u1] at s5;unfold Qo;simp only[EV,ax,ixM (show iV<hp.length by omega),s1,xE,fj,ixM fW,s4]
  unfold Ih;simp only[EV,ax,pSL,s5,hls _ (show(wV.set jf (iV:Int)).length=a.wher.length by rw[aH];omega),rM,aG]
open Classical in
def Yg {a:Agenda}(h:dX a){i j:Nat}{u:Int}{e:Evt}(he:a.heap[i]?=some e)(hh:e.hnd=⟨(j:Int),u⟩)(h64:∀e∈a.heap,aX e.time):Ans D 364 [AG a,HD ⟨j,u⟩] [.i64 (i:Int),.i64 0]:=by
 have hs:=cZ.1 h.1;have hP:=jW hs h.2.1;obtain⟨j',u',e1,e2,e3,e4⟩:=hP.at_ i e he;rw[hh] at e1;simp at e1;have:j'=j:=by omega
 subst this;have hu:=e1.2;subst hu;have m1:=phi (Fe (xD h) h64);rw[au h] at m1;have e0:okE true=0:=rfl;rw[e0] at m1;refine am ?_;unfold abS;simp only[ax,ga,lz,m1,pAG,phi (Yf hs e2 e3),gt,m9,EV,az,aE,aq,aw,aS e4 (bS _),aJ e4,bZ]
def Yh {a:Agenda}(h:dX a){i j:Nat}{u:Int}{e:Evt}(he:a.heap[i]?=some e)(hh:e.hnd=⟨(j:Int),u⟩)(h64:∀e∈a.heap,aX e.time):Ans D 297 [AG a,HD ⟨j,u⟩] [AG (kx a i j),EP e,.i64 0]:=by
 refine am ?_;unfold aa9;simp[ga,lz,phi (Yg h he hh h64),phi (ag9 h he hh h64),ly,EV]
section
variable {α:Type}{f:α->List PV}{l:List α}{i n:Nat}
def dl1 (hi:i<l.length):RF.ev .sub [.sl (l.map f),.v (.int .i64 (0+((i+1:Nat):Int))),.v (.int .i64 ((l.length:Int)-((i+1:Nat):Int)))]=some (.sl ((l.drop (i+1)).map f)):=by
 rw[td,ad (by rw[ai];omega),show(0+((i+1:Nat):Int)).toNat=i+1 by omega,show((l.length:Int)-((i+1:Nat):Int)).toNat=l.length-(i+1) by omega,<-List.map_drop,<-List.map_take,bv (by rw[bu];omega)]
def dl2 (hz:∀a,(f a).length=3)(hi:i<l.length)(hl:l.length<=1000):RF.ev (.appK 24 3) [.sl (l.map f),.v (.int .i64 (i:Int)),.sl ((l.drop (i+1)).map f)]=some (.sl ((l.eraseIdx i++l.drop (l.length-1)).map f)):=by
 have ok:dK 3 ((l.drop (i+1)).map f)=true:=by
  cases e:l.drop (i+1) with
  |nil=>rfl
  |cons a k=>simp[dK,hz]
 show(if _ then _ else _)=_
 rw[ad ⟨by omega,by rw[ai];omega,by rw[ai,bu];omega,ok⟩];rw[aG,nT,ai,bu,show i+(l.length-(i+1))=l.length-1 by omega]
 simp_all
def dl3 (z:List PV)(hi:i<l.length):RF.ev (.clr z) [.sl ((l.eraseIdx i++l.drop (l.length-1)).map f),.v (.int .i64 (0+((i:Int)+((l.length-(i+1):Nat):Int)))),.v (.int .i64 ((l.length:Int)-((i:Int)+((l.length-(i+1):Nat):Int))))]=some (.sl ((l.eraseIdx i).map f++[z])):=by
 have h1:=eS hi;have h2:(l.drop (l.length-1)).length=1:=by rw[bu];omega
 show(if _ then _ else _)=_
 rw[ad (by rw[ai,aB,h1,h2];omega),show(0+((i:Int)+((l.length-(i+1):Nat):Int))).toNat=l.length-1 by omega,show((l.length:Int)-((i:Int)+((l.length-(i+1):Nat):Int))).toNat=1 by omega,fJ]
 simp_all
def dl4 (z:List PV)(hi:i<l.length):RF.ev .sub [.sl ((l.eraseIdx i).map f++[z]),.v (.int .i64 0),.v (.int .i64 ((i:Int)+((l.length-(i+1):Nat):Int)))]=some (.sl ((l.eraseIdx i).map f)):=by
 have h1:=eS hi;rw[td,ad (by rw[aB,ai,h1];simp;omega),show((i:Int)+((l.length-(i+1):Nat):Int)).toNat=l.length-1 by omega]
 grind
end
def kP {a b:Nat}(h:a<=b):RF.ev .bnd [.v (.int .i64 (a:Int)),.v (.int .i64 (b:Int))]=some (.i64 (a:Int)):=by rw[jO,ad ⟨by omega,by omega⟩]
def aha {l:List Held}{i:Nat}(hi:i<l.length)(hl:l.length<=1000):Ans D 361 [.sl [],.i64 (i:Int),.i64 ((i+1:Nat):Int),sl hrow l] [sl hrow (l.eraseIdx i),.sl []]:=by
 have h1:=eS hi;have ne:decide ((i:Int)=((i+1:Nat):Int))=false:=aj (by omega);have ap:(l.eraseIdx i++l.drop (l.length-1)).length=l.length:=by rw[aB,h1,bu];omega
 have bs:RF.ev .bnd [.v (.int .i64 ((i:Int)+((l.length-(i+1):Nat):Int))),.v (.int .i64 (l.length:Int))]=some (.i64 ((i:Int)+((l.length-(i+1):Nat):Int))):=by rw[jO,ad ⟨by omega,by omega⟩]
 refine am ?_;unfold abR;simp only[EV,ai,kP (aC l.length),kP (show i+1<=l.length by omega),kP (show i<=i+1 by omega),kP (show i<=l.length by omega),ne,aq,aw,dl1 (f:=hrow) hi,dl2 (f:=hrow) fi hi hl,ap,bu,bs,dl3 (f:=hrow) [KP.z,KP.z,KP.z] hi,dl4 (f:=hrow) [KP.z,KP.z,KP.z] hi]
def ahb {l:List Due}{i:Nat}(hi:i<l.length)(hl:l.length<=1000):Ans D 298 [.sl [],.i64 (i:Int),.i64 ((i+1:Nat):Int),sl cE l] [sl cE (l.eraseIdx i),.sl []]:=by
 have h1:=eS hi;have ne:decide ((i:Int)=((i+1:Nat):Int))=false:=aj (by omega);have ap:(l.eraseIdx i++l.drop (l.length-1)).length=l.length:=by rw[aB,h1,bu];omega
 have bs:RF.ev .bnd [.v (.int .i64 ((i:Int)+((l.length-(i+1):Nat):Int))),.v (.int .i64 (l.length:Int))]=some (.i64 ((i:Int)+((l.length-(i+1):Nat):Int))):=by rw[jO,ad ⟨by omega,by omega⟩]
 refine am ?_;unfold aba;simp only[EV,ai,kP (aC l.length),kP (show i+1<=l.length by omega),kP (show i<=i+1 by omega),kP (show i<=l.length by omega),ne,aq,aw,dl1 (f:=cE) hi,dl2 (f:=cE) iT hi hl,ap,bu,bs,dl3 (f:=cE) [KP.z,KP.z,KP.z] hi,dl4 (f:=cE) [KP.z,KP.z,KP.z] hi]
section
variable {α:Type}{nu:α->Int}
def Asc (nu:α->Int)(l:List α):Prop:=l.Pairwise λa b=>nu a<nu b
def xI {l:List α}(h:Asc nu l){i j:Nat}{a b:α}(hij:i<j)(ha:l[i]?=some a)(hb:l[j]?=some b):nu a<nu b:=by
 unfold Asc at h;rw[ec] at h
 grind
def LBn (nu:α->Int)(l:List α)(id:Int)(m:Nat):Prop:=m<=l.length/\∀(k:Nat) (p:α),l[k]?=some p->(k<m->nu p<id)/\(m<=k->id<=nu p)
def yV {N:Nat}{f:JT}{K0:K}{e:List PV}{l:List α}{id:Int}(hs:Asc nu l)
  (key:∀(i j:Nat) (p:α) (self:JT),i<j->j<=l.length->l[(i+j)/2]?=some p->den (aY D) N K0 ([f]++[self]) (e++[.i64 (i:Int),.i64 (j:Int)])=if nu p<id then self [.i64 (((i+j)/2+1:Nat):Int),.i64 (j:Int)] else self [.i64 (i:Int),.i64 (((i+j)/2:Nat):Int)])
  (out:∀(i j:Nat) (self:JT),¬i<j->den (aY D) N K0 ([f]++[self]) (e++[.i64 (i:Int),.i64 (j:Int)])=f [.i64 (i:Int)]):∀(m i j:Nat),j-i<m->i<=j->j<=l.length->(∀(k:Nat) (p:α),l[k]?=some p->(k<i->nu p<id)/\(j<=k->id<=nu p))->
  ∃P,LBn nu l id P/\ cS (aY D) N K0 [f] e m [.i64 (i:Int),.i64 (j:Int)]=f [.i64 (P:Int)]
 |0,i,j,h,_,_,_=>by omega
 |m+1,i,j,h,hij,hj,hb=>by
  rw[bc];by_cases hlt:i<j
  .obtain⟨p,hp⟩:∃p,l[(i+j)/2]?=some p:=⟨l[(i+j)/2]'(by omega),ah _⟩;rw[key i j p _ hlt hj hp];by_cases c:nu p<id
   .rw[ad c];refine yV hs key out m _ j (by omega) (by omega) hj λk q hq=>⟨λhk=>?_,(hb k q hq).2⟩;by_cases e:k=(i+j)/2
    .subst e;rw[hp] at hq;cases hq;exact c
    .have:=xI hs (show k<(i+j)/2 by omega) hq hp;omega
   .rw[ac c];refine yV hs key out m i _ (by omega) (by omega) (by omega) λk q hq=>⟨(hb k q hq).1,λhk=>?_⟩;by_cases e:k=(i+j)/2
    .subst e;rw[hp] at hq;cases hq;omega
    .have:=xI hs (show(i+j)/2<k by omega) hp hq;omega
  .exact⟨i,⟨by omega,λk p hp=>⟨(hb k p hp).1,λh=>(hb k p hp).2 (by omega)⟩⟩,out i j _ hlt⟩
def NS {l:List α}{id:Int}{P i:Nat}{a:α}(h:LBn nu l id P)(hs:Asc nu l)(ha:l[i]?=some a)(e:nu a=id):P=i:=by
 obtain⟨h1,h2⟩:=h;by_cases c:i<P
 .grind
 .by_cases d:P<i
  .have hi:=bb ha;obtain⟨b,hb⟩:∃b,l[P]?=some b:=⟨l[P]'(by omega),ah _⟩;have:=(h2 P b hb).2 (aC _);have:=xI hs d hb ha;omega
  .omega
def rN {l:List α}(hs:Asc nu l):∀{i:Nat} {a:α},l[i]?=some a->l.eraseIdx i=l.filter λb=>cY (nu a) (nu b):=by
 induction l with
 |nil=>intro i a h;cases h
 |cons x l ih=>
  intro i a h;unfold Asc at hs;rw[dp] at hs;cases i with
  |zero=>
   simp at h;subst h;rw[dU (by simp[cY])];show l=_
   rw[ee.2];intro b hb;have:=hs.1 b hb;simp[cY];omega
  |succ i=>
   have:=hs.1 a (ay h);rw[dV (by simp[cY];omega)];show x::l.eraseIdx i=_
   rw[ih hs.2 h]
end
def ltS (a b:Int):(sgn (a-b)<0)=(a<b):=by
 unfold sgn
 grind
def eqS (a b:Int):(sgn (a-b)=0)=(a=b):=by
 unfold sgn
 grind
def Yi (d:Due):RF.ev (.cell 0) [DP d]=some (.i64 d.number):=rfl
def Kt {l:List Due}{id:Int}(hs:Asc (·.number) l)(hl:l.length<=1000):∃P:Nat,LBn (·.number) l id P/\ Ans D 296 [sl cE l,.i64 id] [.i64 (P:Int),.bool (match l[P]? with|some d=>decide (d.number=id)|none=>false)]:=by
 obtain⟨P,h1,h2⟩:=yV (N:=1001) (f:=oC (aY D) 1001 HQ [] [sl cE l,.i64 id,.i64 (l.length:Int)]) (K0:=Bo) (e:=[sl cE l,.i64 id,.i64 (l.length:Int)]) (l:=l) (nu:=(·.number)) (id:=id) hs (λi j p self hij hj hp=>by
  unfold Bo;simp only[bf,aT,EV,aa,bi hij,RC (show i<1000000 by omega) (show j<1000000 by omega),bV (show-9223372036854775808<=(((i+j)/2:Nat):Int) by omega) (by omega),ax,aS hp (iT p),aJ hp,Fa,Yi,phi (xh _ _),PX,up1 (show(i+j)/2<1000000000 by omega),ltS]) (λi j self hij=>by
  unfold Bo;simp only[bf,aT,EV,aa];rw[ac (by omega)]) 1001 0 l.length (by omega) (by omega) (aC _) (λk p hp=>⟨λh=>by omega,λh=>by have:=bb hp;omega⟩)
 refine⟨P,h1,an ⟨1001,?_⟩⟩;unfold aa8;simp only[EV,ai];refine h2.trans ?_;unfold HQ;simp only[EV,aa];by_cases hP:P<l.length
 .obtain⟨d,hd⟩:∃d,l[P]?=some d:=⟨l[P]'hP,ah _⟩;rw[ad (by omega),hd];simp only[EV,ax,aS hd (iT d),aJ hd,Fa,Yi,phi (xh _ _),HO,eqS]
 .rw[ac (by omega),aZ (by omega)];unfold HO;rfl
def Yj {l:List Due}{i:Nat}{d:Due}(hs:Asc (·.number) l)(hl:l.length<=1000)(hd:l[i]?=some d):Ans D 296 [sl cE l,.i64 d.number] [.i64 (i:Int),.bool true]:=by
 obtain⟨P,h1,h2⟩:=Kt (id:=d.number) hs hl;have:=NS h1 hs hd rfl
 grind
def UB {l:List Due}{n:Int}(hs:Asc (·.number) l)(hl:l.length<=1000)(hn:∀d∈l,d.number≠n):∃P:Nat,Ans D 296 [sl cE l,.i64 n] [.i64 (P:Int),.bool false]:=by
 obtain⟨P,h1,h2⟩:=Kt (id:=n) hs hl
 grind
def sV {c:Certs}(h:dk c):Asc (·.number) c.list:=(yF.1 h).2.2.2.2.imp λh=>h.1
def yW {c:Clock}(h:bx c):Asc (·.number) c.due:=by
 have h1:=(qe h).2;have h2:=sV h.2.2.1;unfold Asc at h2|-;have:(c.certs.list.map (·.number)).Pairwise (· <·):=gk.2 h2;exact gk.1 (this.sublist h1)
open Classical in
def ahc {c:Certs}{i:Nat}{x:Held}(h:dk c)(hx:c.list[i]?=some x):Ans D 360 [CS c,.i64 x.number] [.i64 (i:Int),.i64 0]:=by
 have hl:=h.1;have hs:=sV h;have m1:=phi (LA (c:=c) (by omega));rw[au h] at m1;have e0:okE true=0:=rfl;rw[e0] at m1;obtain⟨P,h1,h2⟩:=yV (N:=1001) (f:=oC (aY D) 1001 Ig [] [CS c,.i64 x.number,CS c,.i64 0,.bool false,sl hrow c.list,.i64 (c.list.length:Int)]) (K0:=Bq) (e:=[CS c,.i64 x.number,CS c,.i64 0,.bool false,sl hrow c.list,.i64 (c.list.length:Int)]) (l:=c.list) (nu:=(·.number)) (id:=x.number) hs (λi j p self hij hj hp=>by
  unfold Bq;simp only[bf,aT,EV,aa,bi hij,RC (show i<1000000 by omega) (show j<1000000 by omega),bV (show-9223372036854775808<=(((i+j)/2:Nat):Int) by omega) (by omega),ax,fm,aS hp (fi p),aJ hp,iS,ii,phi (xh _ _),Qn,up1 (show(i+j)/2<1000000000 by omega),ltS]) (λi j self hij=>by
  unfold Bq;simp only[bf,aT,EV,aa];rw[ac (by omega)]) 1001 0 c.list.length (by omega) (by omega) (aC _) (λk p hp=>⟨λh=>by omega,λh=>by have:=bb hp;omega⟩)
 have:=NS h1 hs hx rfl;subst this;have hP:=bb hx;refine an ⟨1001,?_⟩;unfold abQ;simp only[ax,iI,m1,fm,EV,ai,az,aE,aq,aw];refine h2.trans ?_;unfold Ig;simp only[EV,aa];rw[ad (by omega)];simp only[EV,ax,fm,aS hx (fi x),aJ hx,iS,ii,phi (xh _ _),Qm,eqS,az,aE,aq,aw]
def ahd {c:Certs}{i:Nat}{x:Held}(h:dk c)(hx:c.list[i]?=some x):Ans D 295 [CS c,.i64 x.number] [CS ⟨c.next,c.list.filter λy=>cY x.number y.number⟩,CP x.cert,.i64 0]:=by
 have hl:=h.1;have hi:=bb hx;have h1:(c.list.eraseIdx i).length=c.list.length-1:=eS hi;have e:c.list.eraseIdx i=c.list.filter λy=>cY x.number y.number:=rN (sV h) hx;have s1:RF.ev .sub [sl hrow (c.list.filter λy=>cY x.number y.number),.v (.int .i64 0),.v (.int .i64 ((c.list.filter λy=>cY x.number y.number).length:Int))]=some (sl hrow (c.list.filter λy=>cY x.number y.number)):=bF;have ag:RF.ev .agg [.i64 c.next,sl hrow (c.list.filter λy=>cY x.number y.number)]=some (CS ⟨c.next,c.list.filter λy=>cY x.number y.number⟩):=rfl;have sh:RF.ev (.shape 2) [CP x.cert]=some (CP x.cert):=rfl;have pr:RF.ev (.part 0 2) [CP x.cert]=some (CP x.cert):=rfl;refine am ?_;unfold aa7;simp only[ax,iI,phi (ahc h hx),lx,fm,phi (LL (l:=c.list) (by omega)),EV,ai,az,aE,aq,aw,up1 (show i<1000000000 by omega),phi (aha hi (by omega)),aS hx (fi _),aJ hx,Ef,sh,pr,s1,ag,e]
def Yk (c:Certs):RF.ev (.part 0 2) [CS c]=some (CS c):=rfl
def yX (l:List Due):RF.ev .sub [sl cE l,.v (.int .i64 0),.v (.int .i64 (l.length:Int))]=some (sl cE l):=bF
def ahe {c:Clock}(h:bx c)(h64:ij c){i:Nat}{x:Held}(hx:c.certs.list[i]?=some x):Ans D 216 [CL c,.i64 x.number] [CL (gI c x.number),CP x.cert,.i64 0]:=by
 have hs:=yW h;have hcs:=kX h;have h3:=h.2.2.1;have h4:=h.2.2.2.1;refine am ?_;unfold aai;have sh:RF.ev (.shape 2) [CP x.cert]=some (CP x.cert):=rfl;simp only[ax,db,mh,phi (ahd h3 hx),iI,sh,EV,az,aE,aq,aw,phi (Fv hcs),cU,ai];cases hf:c.due.find? λd=>decide (d.number=x.number) with
 |none=>
  have hall:∀d∈c.due,d.number≠x.number:=λd hd=>by simpa using gX.1 hf d hd
  obtain⟨P,cP⟩:=UB (n:=x.number) hs hcs.due hall;have eA:k9 c x.number=c.agenda:=by unfold k9;rw[hf]
  have eD:(c.due.filter λd=>cY x.number d.number)=c.due:=ee.2 λd hd=>by unfold cY;simp[hall d hd]
  simp only[phi cP,EV,aq,aw,ax,mq,mu,mw,jB,jU];unfold GK gI;rw[eA,eD];simp only[ax,LO,Yk,yX,EV,En]
 |some d=>
  have hd:=eX hf;have hdn:d.number=x.number:=by simpa using jw hf
  obtain⟨k,hk⟩:=aL.1 hd;obtain⟨m,j,u,e,w1,w2,w3,w4,w5,_⟩:=Cc h hd;have cP:=Yj hs hcs.due hk;rw[hdn] at cP;have hkl:=bb hk;have hdl:=hcs.due;have eA:k9 c x.number=kx c.agenda m j:=by
   unfold k9;rw[hf];simp only;rw[w4];simp only[aG];rw[w1];simp only[ct,aG]
  have eD:c.due.eraseIdx k=c.due.filter λd=>cY x.number d.number:=by rw[<-hdn];exact rN hs hk
  have c5:=phi (Yh h4 w2 w3 h64.2);rw[<-w4] at c5;simp only[phi cP,EV,aA,ax,mi,cU,aS hk (iT d),aJ hk,sL,c5,ga,ly,az,aE,aq,aw,agZ,up1 (show k<1000000000 by omega),phi (ahb hkl hdl),ai,cAG0,cAG1,cAG2,d7,gt]
  unfold GK gI;rw[eA,<-eD];simp only[ax,LO,Yk,yX,EV,En]
def VZ {α:Type}{nu:α->Int}{l:List α}(hs:Asc nu l){i:Nat}{a:α}(ha:l[i]?=some a):l.findIdx? (λb=>decide (nu b=nu a))=some i:=by
 obtain⟨h1,h2⟩:=aD.1 ha;rw[bD];refine⟨h1,by rw[h2];simp,λj hj h=>?_⟩;have:=xI hs hj (ah (sH hj h1)) ha
 grind
def Yl {c:Clock}(hl:c.due.length<=1000)(n:Int):∃N,den (aY D) N SQ [] [CL c,.i64 n]=(c.due.findIdx? λb=>decide (b.number=n)).elim (some [.i64 (-1)]) λi=>some [.i64 (i:Int)]:=by
 refine⟨1001,?_⟩;unfold SQ;simp[db,EV];refine(jy (m:=1001) (l:=c.due) (p:=λb=>decide (b.number=n)) (st:=λi=>[.i64 (i:Int)]) (ret:=λi=>some [.i64 (i:Int)]) (fin:=some [.i64 (-1)]) (λk g self hg=>?_) (λself=>?_) (by omega))
 .unfold Im;simp only[cU,EV,ai,aa,bi (aN hg),aS hg (iT _),aJ hg,Lw,up1 (show k<1000000000 by have:=aN hg;omega)]
 .unfold Im;simp[cU,EV,Qr]
def Ym {c:Clock}{i:Nat}{d:Due}(hs:Asc (·.number) c.due)(hl:c.due.length<=1000)(hd:c.due[i]?=some d):Ans D 370 [CL c,.i64 d.number] [.i64 (i:Int)]:=by
 obtain⟨N,h⟩:=Yl (c:=c) hl d.number;rw[VZ hs hd] at h;exact an ⟨N,h⟩
def UC {c:Clock}{n:Int}(hl:c.due.length<=1000)(hn:∀d∈c.due,d.number≠n):Ans D 370 [CL c,.i64 n] [.i64 (-1)]:=by
 obtain⟨N,h⟩:=Yl (c:=c) hl n;have:(c.due.findIdx? λb=>decide (b.number=n))=none:=by
  grind
 rw[this] at h;exact an ⟨N,h⟩
def ahf {c:Certs}(hl:c.list.length<=1000)(n:Int):Ans D 369 [CS c,.i64 n] [CS ⟨c.next,c.list.filter λx=>cY n x.number⟩]:=by
 have bs:∀x:Held,RF.ev (.bs 1 [KP.z,KP.z,KP.z] [0]) [HP x]=some (sl hrow [x]):=λ_=>rfl;have su:∀x:Held,RF.ev .sub [sl hrow [x],.v (.int .i64 0),.v (.int .i64 1)]=some (sl hrow [x]):=λ_=>rfl;have ag:∀l:List Held,RF.ev .agg [.i64 c.next,sl hrow l]=some (CS ⟨c.next,l⟩):=λ_=>rfl;refine an ⟨1001,?_⟩;unfold abY;simp only[ax,iI,EV];refine(iH (m:=1001) (l:=c.list) (g:=λacc a=>if cY n a.number=true then acc++[a] else acc) (I:=λi acc=>acc.length<=i) (S:=λacc i=>[sl hrow acc,.i64 (acc.length:Int),.i64 (i:Int)]) (fin:=λacc=>some [CS ⟨c.next,acc⟩]) (x:=[]) (aC _) (λi a acc _ hI=>?_) (λi a acc self ha hI=>?_) (λacc self hI=>?_) (by omega)).1.trans ?_
 .grind
 .have hi:=aN ha;have ap:=fh (f:=hrow) (l:=acc) (k:=[a]) (bytes:=24) (z:=3) (by simp;omega) fi;unfold Il;simp only[ax,fm,EV,ai,aa,bi hi,aS ha (fi _),aJ ha,Lm,iS];by_cases c1:a.number=n
  .have:cY n n=false:=by simp[cY]
   simp only[c1,this,az,aE,aq,aw,EV,Ik,up1 (show i<1000000000 by omega)]
  .have:cY n a.number=true:=by unfold cY;simp[c1]
   simp only[c1,this,bw,bI,aA,ax,fm,EV,aS ha (fi _),aJ ha,iS,bs,su,ap,ai,Ik,up1 (show i<1000000000 by omega)]
 .unfold Il;simp only[ax,fm,EV,ai,aa,bK,Qq,lx,bF,ag]
 .simp only[tv,aT]
def vP {W:Nat}{hp:List Evt}{i k:Nat}{e p:Evt}(he:hp[i]?=some e)(hp':hp[k]?=some p)(hg:∀x∈hp,GoodE W x):∀x∈dZ hp i k e p,GoodE W x:=λx hx=>hg x ((po he hp').mem_iff.1 hx)
def pu {hp:List Evt}{i k:Nat}{e p:Evt}:(dZ hp i k e p).length=hp.length:=by unfold dZ;rw[aH,aH]
def pw {wh:List Int}{i k:Nat}{e p:Evt}:(fF wh i k e p).length=wh.length:=by unfold fF;rw[aH,aH]
def FB {N:Nat}{f0 f1 f2:JT}{z:Evt}{e0 e1 e2 e3 e4 e5 e6 e7 e8 e9 e10 e11 e12 e13 e14 e16 e17 e18 e19 e20 e21 e22 e24 e25 e26 e27 e28 e29 e30 e31 e32 e33:PV}{n W:Nat}(hn:n<=1000):∀(r i m:Nat) (hp:List Evt) (wh:List Int),i<=r->r<m->i<n->hp.length=n->wh.length=W->(∀x∈hp,GoodE W x)->
  cS (aY D) N ur [f0,f1,f2] [e0,e1,e2,e3,e4,e5,e6,e7,e8,e9,e10,e11,e12,e13,e14,.i64 (W:Int),e16,e17,e18,e19,e20,e21,e22,.i64 (n:Int),e24,e25,e26,e27,e28,e29,e30,e31,e32,e33] m [.i64 (i:Int),sl bO (hp++[z]),sl I1 wh]=f2 [.i64 ((upS r hp wh i).2.2:Int),sl bO ((upS r hp wh i).1++[z]),sl I1 (upS r hp wh i).2.1]
 |0,i,m,hp,wh,hi,hm,hiH,hl,hw,hg=>by
  obtain⟨m,rfl⟩:∃m',m=m'+1:=⟨m-1,by omega⟩;have:i=0:=by omega
  subst this;rw[bc];unfold ur upS;simp only[EV,aa];rw[ac (by omega)]
 |r+1,i,m,hp,wh,hi,hm,hiH,hl,hw,hg=>by
  obtain⟨m,rfl⟩:∃m',m=m'+1:=⟨m-1,by omega⟩;obtain⟨e,he⟩:∃e,hp[i]?=some e:=⟨hp[i]'(by omega),ah _⟩;obtain⟨p,hp'⟩:∃p,hp[(i-1)/2]?=some p:=⟨hp[(i-1)/2]'(by omega),ah _⟩;have E:upS (r+1) hp wh i=if 0<i/\ evLess e p=true then upS r (dZ hp i ((i-1)/2) e p) (fF wh i ((i-1)/2) e p) ((i-1)/2) else(hp,wh,i):=by rw[upS,he,hp']
  rw[E,bc];by_cases h0:0<i
  rotate_left
  .rw[ac (λh=>h0 h.1)];unfold ur;simp only[EV,aa,cJ];rw[ac (by omega)]
  .obtain⟨p64,prk,jp,pj,pW⟩:=hg p (ay hp');obtain⟨e64,erk,je,ej,eW⟩:=hg e (ay he);have ih:=FB (N:=N) (f0:=f0) (f1:=f1) (f2:=f2) (z:=z) (e0:=e0) (e1:=e1) (e2:=e2) (e3:=e3) (e4:=e4) (e5:=e5) (e6:=e6) (e7:=e7) (e8:=e8) (e9:=e9) (e10:=e10) (e11:=e11) (e12:=e12) (e13:=e13) (e14:=e14) (e16:=e16) (e17:=e17) (e18:=e18) (e19:=e19) (e20:=e20) (e21:=e21) (e22:=e22) (e24:=e24) (e25:=e25) (e26:=e26) (e27:=e27) (e28:=e28) (e29:=e29) (e30:=e30) (e31:=e31) (e32:=e32) (e33:=e33) (n:=n) (W:=W) hn r ((i-1)/2) m (dZ hp i ((i-1)/2) e p) (fF wh i ((i-1)/2) e p) (by omega) (by omega) (by omega) (by rw[pu];exact hl) (by rw[pw];exact hw) (vP he hp' hg);have cm:=phi (xn (x:=e) (y:=p) e64 p64);have q2:=tC h0 (by omega);have s1:=sU (hp:=hp) (z:=z) (i:=i) (by omega) p;have s2:=sU (hp:=hp.set i p) (z:=z) (i:=(i-1)/2) (by rw[aH];omega) e;have a1:(dZ hp i ((i-1)/2) e p)[i]?=some p:=by rw[swp_get he hp',ac (by omega),ad rfl]
   have a2:(dZ hp i ((i-1)/2) e p)[(i-1)/2]?=some e:=by rw[swp_get he hp',ad rfl]
   have s3:=dQ (l:=wh) (i:=jp) (by omega) (i:Int);have s4:=dQ (l:=wh.set jp (i:Int)) (i:=je) (by rw[aH];omega) (((i-1)/2:Nat):Int);have eW':fF wh i ((i-1)/2) e p=(wh.set jp (i:Int)).set je (((i-1)/2:Nat):Int):=by unfold fF;rw[pj,ej];rfl
   have g1:=jN (z:=z) hp';have g2:=jN (z:=z) he;have g3:=jN (z:=z) a1;have g4:=jN (z:=z) a2;have s2:RF.ev (.set 0) [sl bO (hp.set i p++[z]),.v (.int .i64 (((i-1)/2:Nat):Int)),EP e]=some (sl bO (dZ hp i ((i-1)/2) e p++[z])):=s2;generalize hkk:ur=kk at ih;subst hkk;unfold ur;simp only[EV,aa,cJ];rw[ad (by omega)];simp only[EV,fN,q2,ixM hiH,ixM (show(i-1)/2<n by omega),aJ g1,aJ g2,eU,ax,cm]
   by_cases hc:evLess e p=true
   .rw[ad hc,ad ⟨h0,hc⟩];simp only[EV,fN,q2,ixM hiH,ixM (show(i-1)/2<n by omega),aJ g1,aJ g2,eU,ax,ly,s1,s2,aJ g3,aJ g4,vw,pj,ej,ixM pW,ixM eW,s3,s4]
    rw[eW'] at ih|-;exact ih
   .rw[ac hc,ac (λq=>hc q.2)]
def AU {N:Nat}{f0 f1:JT}{z:Evt}{e0 e1 e2 e3 e4 e5 e6 e7 e8 e9 e10 e11 e12 e13 e14 e16 e17 e18 e19 e20 e21 e22 e24 e25 e26 e27 e28 e29 e30 e31 e32 e33 e34 e35 e36:PV}{n W:Nat}(hn:n<=1000):∀(r i m:Nat) (hp:List Evt) (wh:List Int),n<=r+i->r<m->i<n->hp.length=n->wh.length=W->(∀x∈hp,GoodE W x)->
  cS (aY D) N Bu [f0,f1] [e0,e1,e2,e3,e4,e5,e6,e7,e8,e9,e10,e11,e12,e13,e14,.i64 (W:Int),e16,e17,e18,e19,e20,e21,e22,.i64 (n:Int),e24,e25,e26,e27,e28,e29,e30,e31,e32,e33,e34,e35,e36] m [.i64 (i:Int),sl bO (hp++[z]),sl I1 wh]=f1 [sl bO ((dr r hp wh i).1++[z]),sl I1 (dr r hp wh i).2]
 |0,i,m,hp,wh,hi,hm,hiH,hl,hw,hg=>by omega
 |r+1,i,m,hp,wh,hi,hm,hiH,hl,hw,hg=>by
  obtain⟨m,rfl⟩:∃m',m=m'+1:=⟨m-1,by omega⟩;obtain⟨e,he⟩:∃e,hp[i]?=some e:=⟨hp[i]'(by omega),ah _⟩;obtain⟨e64,erk,je,ej,eW⟩:=hg e (ay he);have ih:=λ(k:Nat) (p:Evt) (hk:hp[k]?=some p) (hki:i<k)=>AU (N:=N) (f0:=f0) (f1:=f1) (z:=z) (e0:=e0) (e1:=e1) (e2:=e2) (e3:=e3) (e4:=e4) (e5:=e5) (e6:=e6) (e7:=e7) (e8:=e8) (e9:=e9) (e10:=e10) (e11:=e11) (e12:=e12) (e13:=e13) (e14:=e14) (e16:=e16) (e17:=e17) (e18:=e18) (e19:=e19) (e20:=e20) (e21:=e21) (e22:=e22) (e24:=e24) (e25:=e25) (e26:=e26) (e27:=e27) (e28:=e28) (e29:=e29) (e30:=e30) (e31:=e31) (e32:=e32) (e33:=e33) (e34:=e34) (e35:=e35) (e36:=e36) (n:=n) (W:=W) hn r k m (dZ hp i k e p) (fF wh i k e p) (by omega) (by omega) (by have:=bb hk;omega) (by rw[pu];exact hl) (by rw[pw];exact hw) (vP he hk hg);have ko:=mN hp i;rw[bc];have fin:∀(a b c d d' d'':PV) (kk:Nat),kid hp i=kk->kk<n->den (aY D) N Io [f0,f1,λvs=>cS (aY D) N Bu [f0,f1] [e0,e1,e2,e3,e4,e5,e6,e7,e8,e9,e10,e11,e12,e13,e14,.i64 (W:Int),e16,e17,e18,e19,e20,e21,e22,.i64 (n:Int),e24,e25,e26,e27,e28,e29,e30,e31,e32,e33,e34,e35,e36] m vs] ([e0,e1,e2,e3,e4,e5,e6,e7,e8,e9,e10,e11,e12,e13,e14,.i64 (W:Int),e16,e17,e18,e19,e20,e21,e22,.i64 (n:Int),e24,e25,e26,e27,e28,e29,e30,e31,e32,e33,e34,e35,e36]++[.i64 (i:Int),sl bO (hp++[z]),sl I1 wh,a,b,c,d,d',d'',.i64 (kk:Int)])=f1 [sl bO ((dr (r+1) hp wh i).1++[z]),sl I1 (dr (r+1) hp wh i).2]:=λa b c d d' d'' kk hkk hk=>by
   subst hkk;obtain⟨p,hp'⟩:∃p,hp[kid hp i]?=some p:=⟨hp[kid hp i]'(by omega),ah _⟩;obtain⟨p64,prk,jp,pj,pW⟩:=hg p (ay hp');have E:dr (r+1) hp wh i=if evLess p e=true then dr r (dZ hp i (kid hp i) e p) (fF wh i (kid hp i) e p) (kid hp i) else(hp,wh):=by rw[dr,he,hp']
   have ih':=ih _ p hp' (by omega);have cm:=phi (xn (x:=p) (y:=e) p64 e64);have s1:=sU (hp:=hp) (z:=z) (i:=i) (by omega) p;have s2:RF.ev (.set 0) [sl bO (hp.set i p++[z]),.v (.int .i64 (kid hp i:Int)),EP e]=some (sl bO (dZ hp i (kid hp i) e p++[z])):=sU (hp:=hp.set i p) (z:=z) (i:=kid hp i) (by rw[aH];omega) e;have a1:(dZ hp i (kid hp i) e p)[i]?=some p:=by rw[swp_get he hp',ac (by omega),ad rfl]
   have a2:(dZ hp i (kid hp i) e p)[kid hp i]?=some e:=by rw[swp_get he hp',ad rfl]
   have s3:=dQ (l:=wh) (i:=jp) (by omega) (i:Int);have s4:=dQ (l:=wh.set jp (i:Int)) (i:=je) (by rw[aH];omega) (kid hp i:Int);have eW':fF wh i (kid hp i) e p=(wh.set jp (i:Int)).set je (kid hp i:Int):=by unfold fF;rw[pj,ej];rfl
   have g1:=jN (z:=z) hp';have g2:=jN (z:=z) he;have g3:=jN (z:=z) a1;have g4:=jN (z:=z) a2;rw[E];unfold Io;simp[EV,ixM hk,ixM hiH,aJ g1,aJ g2,eU,cm];by_cases hc:evLess p e=true
   .rw[ad hc];simp only[hc,aE,aq,aw,EV,ixM hk,ixM hiH,aJ g1,aJ g2,eU,ax,ly,s1,s2,aJ g3,aJ g4,vw,pj,ej,ixM pW,ixM eW,s3,s4];rw[eW'] at ih'|-;exact ih'
   .rw[ac hc];have hc:evLess p e=false:=by simpa using hc
    simp only[hc,bI,aA,EV]
  simp only[bf,aT] at fin;have w1:IntKind.i64.wrap (2*(i:Int))=((2*i:Nat):Int):=by rw[bV (by omega) (by omega)];omega
  unfold Bu;simp only[EV,aa,w1,up1 (show 2*i<1000000000 by omega),up1 (show 2*i+1<1000000000 by omega),bk]
  by_cases h1:2*i+1<n
  .rw[ac (by omega)];obtain⟨p,hp'⟩:∃e,hp[2*i+1]?=some e:=⟨hp[2*i+1]'(by omega),ah _⟩;by_cases h2:2*i+1+1<n
   .rw[ad (by omega)];obtain⟨g,hg'⟩:∃e,hp[2*i+1+1]?=some e:=⟨hp[2*i+1+1]'(by omega),ah _⟩;have p1:=hg p (ay hp');have b1:=hg g (ay hg');have cm:=phi (xn (x:=g) (y:=p) b1.t64 p1.t64);have kE:kid hp i=if evLess g p=true then 2*i+2 else 2*i+1:=by unfold kid;rw[hp',show hp[2*i+2]?=some g from hg']
    simp only[EV,up1 (show 2*i+1<1000000000 by omega),ixM h1,ixM h2,aJ (jN (z:=z) hp'),aJ (jN (z:=z) hg'),eU,ax,cm]
    unfold Ip;simp only[EV,aa,up1 (show 2*i+1<1000000000 by omega)]
    by_cases hc:evLess g p=true
    .rw[ad hc];rw[ad hc] at kE;exact fin _ _ _ _ _ _ (2*i+1+1) kE h2
    .rw[ac hc];rw[ac hc] at kE;exact fin _ _ _ _ _ _ (2*i+1) kE h1
   .rw[ac (by omega)];unfold Ip;simp only[EV,aq,aw];exact fin _ _ _ _ _ _ (2*i+1) (by unfold kid;rw[hp',show hp[2*i+2]?=none from aZ (by omega)]) h1
  .rw[ad (by omega)];have:dr (r+1) hp wh i=(hp,wh):=by rw[dr,he,aZ (by omega)]
   rw[this]
def ad4 {hp:List Evt}{z:Evt}(p:Evt):RF.ev (.set 0) [sl bO (hp++[z]),.v (.int .i64 (hp.length:Int)),EP p]=some (sl bO (hp++[p])):=by
 rw[lX (by simp),nR _ _ (aC _)];simp
def Ae:∀(r:Nat) (hp:List Evt) (wh:List Int) (i:Nat),i<hp.length->(upS r hp wh i).1.length=hp.length/\(upS r hp wh i).2.1.length=wh.length/\(upS r hp wh i).2.2<=i/\∀x∈(upS r hp wh i).1,x∈hp
 |0,hp,wh,i,_=>⟨rfl,rfl,aC _,λ_ h=>h⟩
 |r+1,hp,wh,i,hi=>by
  unfold upS;split
  .rename_i e p he hp';split
   .obtain⟨q1,q2,q3,q4⟩:=Ae r (dZ hp i ((i-1)/2) e p) (fF wh i ((i-1)/2) e p) ((i-1)/2) (by rw[pu];omega);exact⟨by rw[q1,pu],by rw[q2,pw],by omega,λx hx=>(po he hp').mem_iff.1 (q4 x hx)⟩
   .exact⟨rfl,rfl,aC _,λ_ h=>h⟩
  .exact⟨rfl,rfl,aC _,λ_ h=>h⟩
def xJ:∀(r:Nat) (hp:List Evt) (wh:List Int) (i:Nat),(dr r hp wh i).1.length=hp.length/\(dr r hp wh i).2.length=wh.length
 |0,hp,wh,i=>⟨rfl,rfl⟩
 |r+1,hp,wh,i=>by
  unfold dr;split
  .rename_i e p he hp';split
   .obtain⟨q1,q2⟩:=xJ r (dZ hp i (kid hp i) e p) (fF wh i (kid hp i) e p) (kid hp i);exact⟨by rw[q1,pu],by rw[q2,pw]⟩
   .exact⟨rfl,rfl⟩
  .exact⟨rfl,rfl⟩
open Classical in
def Yn {a:Agenda}(h:dX a){i j:Nat}{u:Int}{e:Evt}(he:a.heap[i]?=some e)(hh:e.hnd=⟨(j:Int),u⟩)(h64:∀e∈a.heap,aX e.time):Ans D 371 [AG a,HD ⟨j,u⟩] [AG (kx a i j)]:=by
 have hs:=cZ.1 h.1;have hP:=jW hs h.2.1;have hsm:=vK h;have n2:=hs.n2;have hl:=h.2.1.2.1;have hi:=bb he;obtain⟨j',u',e1,e2,e3,e4⟩:=hP.at_ i e he;rw[hh] at e1;simp only[Hnd.mk.injEq] at e1;have:j'=j:=by omega
 subst this;have hw:=bb e4;obtain⟨hp,f,hq⟩:∃hp f,a.heap=hp++[f]:=by
  rcases ib a.heap with h|⟨hp,f,h⟩
  .grind
  .grind
 have hn:a.heap.length-1=hp.length:=by rw[hq];simp
 have hn':a.heap.length=hp.length+1:=by rw[hq];simp
 have hlast:a.heap[hp.length]?=some f:=by rw[hq];simp
 have good:∀x∈a.heap,GoodE a.wher.length x:=λx hx'=>by
  obtain⟨k,hk⟩:=aL.1 hx';obtain⟨j,v,g1,_,_,g4⟩:=hP.at_ k x hk;exact⟨h64 x hx',(h.2.2.1 x hx').1,j,by rw[g1],bb g4⟩
 have hq':sl bO a.heap=sl bO (hp++[f]):=by rw[hq]
 have c4:=phi (ag7 (u:=u) hs e2);have bn:RF.ev .bnd [.v (.int .i64 (hp.length:Int)),.v (.int .i64 ((hp.length+1:Nat):Int))]=some (.i64 (hp.length:Int)):=by rw[jO,ad ⟨by omega,by omega⟩]
 have dn:=qO (n:=hp.length) (by omega);have hls:∀(l:List Int),l.length=a.wher.length->RF.ev .sub [sl I1 l,.v (.int .i64 0),.v (.int .i64 (a.wher.length:Int))]=some (sl I1 l):=λl hl=>by
  have:=bF (f:=I1) (l:=l);rw[hl] at this;exact this
 have t1:=bF (f:=I1) (l:=a.slots.uses);have t2:=bF (f:=B1) (l:=a.slots.used);have t3:=bF (f:=I1) (l:=a.slots.free);have fin:∀(z:Evt) (h0:List Evt) (w0:List Int) (b:Bool) (A:Agenda),h0.length=hp.length->w0.length=a.wher.length->(∀x∈h0,GoodE a.wher.length x)->b=(!decide ((i:Int)=(hp.length:Int)))->
   A=(if i=hp.length then⟨iD a.slots j',h0,w0.set j' (-1)⟩ else⟨iD a.slots j',(dr hp.length (upS (i+1) h0 (w0.set j' (-1)) i).1 (upS (i+1) h0 (w0.set j' (-1)) i).2.1 (upS (i+1) h0 (w0.set j' (-1)) i).2.2).1,(dr hp.length (upS (i+1) h0 (w0.set j' (-1)) i).1 (upS (i+1) h0 (w0.set j' (-1)) i).2.1 (upS (i+1) h0 (w0.set j' (-1)) i).2.2).2⟩)->
   den (aY D) 1001 CF [] [AG a,HD ⟨j',u⟩,AG a,HD ⟨j',u⟩,AG a,AG a,sl I1 a.slots.uses,.i64 (a.slots.uses.length:Int),sl B1 a.slots.used,.i64 (a.slots.used.length:Int),sl I1 a.slots.free,.i64 (a.slots.free.length:Int),sl bO (hp++[f]),.i64 ((hp.length+1:Nat):Int),sl I1 a.wher,.i64 (a.wher.length:Int),.i64 (j':Int),.i64 (j':Int),.i64 (i:Int),.i64 (hp.length:Int),.bool b,sl bO (h0++[z]),sl I1 w0]=some [AG A]:=λz h0 w0 b A l0 lw hg hb hA=>by
  have s3:=dQ (l:=w0) (i:=j') (by omega) (-1);unfold CF;simp only[EV,ax,bn,m9,ixM hw,s3,t1,t2,t3,yR,c4,iW];by_cases hil:i=hp.length
  .rw[ad hil] at hA;have:(!decide ((i:Int)=(hp.length:Int)))=false:=by simp[hil]
   simp only[this,EV,aq,aw];have s5:=LQ (hp:=h0) (z:=z);rw[l0] at s5;unfold In;simp only[EV,ax,pSL,s5,hls _ (show(w0.set j' (-1)).length=a.wher.length by rw[aH];exact lw),rM,hA]
  .rw[ac hil] at hA;have hil':i<hp.length:=by omega
   have:(!decide ((i:Int)=(hp.length:Int)))=true:=by simp;omega
   simp only[this,EV,aA];obtain⟨u1,u2,u3,u4⟩:=Ae (i+1) h0 (w0.set j' (-1)) i (by omega);rw[aH] at u2;obtain⟨hU,wU,iU,hUe⟩:∃hU wU iU,upS (i+1) h0 (w0.set j' (-1)) i=(hU,wU,iU):=⟨_,_,_,rfl⟩;rw[hUe] at u1 u2 u3 u4 hA;simp only at u1 u2 u3 u4 hA;obtain⟨hV,wV,hVe⟩:∃hV wV,dr hp.length hU wU iU=(hV,wV):=⟨_,_,rfl⟩;obtain⟨v1,v2⟩:=xJ hp.length hU wU iU;rw[hVe] at v1 v2 hA;simp only at v1 v2 hA;have s5:=LQ (hp:=hV) (z:=z);rw[v1,u1,l0] at s5;have main:∀(f0 f1:JT) (E:List PV),True:=λ_ _ _=>trivial;refine l7 ?_ ?_
   all_goals
    simp only[EV];refine(FB (N:=1001) (z:=z) (n:=hp.length) (W:=a.wher.length) (by omega) (i+1) i 1001 h0 (w0.set j' (-1)) (by omega) (by omega) hil' l0 (by rw[aH];exact lw) hg).trans ?_;rw[hUe]
    first|unfold Qt|unfold Kx
    simp only[EV];refine(AU (N:=1001) (z:=z) (n:=hp.length) (W:=a.wher.length) (by omega) hp.length iU 1001 hU wU (by omega) (by omega) (by omega) (u1.trans l0) (u2.trans lw) (λx hx=>hg x (u4 x hx))).trans ?_;rw[hVe];unfold Qs;simp only[EV];unfold In;simp only[EV,ax,pSL,s5,hls _ (v2.trans (u2.trans lw)),rM,hA]
 have hR:kx a i j'=if i=hp.length then⟨iD a.slots j',hp,a.wher.set j' (-1)⟩ else
   ⟨iD a.slots j',(dr hp.length (upS (i+1) (hp.set i f) ((a.wher.set j' (-1)).set f.hnd.index.toNat (i:Int)) i).1 (upS (i+1) (hp.set i f) ((a.wher.set j' (-1)).set f.hnd.index.toNat (i:Int)) i).2.1 (upS (i+1) (hp.set i f) ((a.wher.set j' (-1)).set f.hnd.index.toNat (i:Int)) i).2.2).1,(dr hp.length (upS (i+1) (hp.set i f) ((a.wher.set j' (-1)).set f.hnd.index.toNat (i:Int)) i).1 (upS (i+1) (hp.set i f) ((a.wher.set j' (-1)).set f.hnd.index.toNat (i:Int)) i).2.1 (upS (i+1) (hp.set i f) ((a.wher.set j' (-1)).set f.hnd.index.toNat (i:Int)) i).2.2).2⟩:=by
  unfold kx;rw[hn,hlast];simp only;rw[show a.heap.take hp.length=hp by rw[hq];simp]
 refine an ⟨1001,?_⟩;unfold ab1;simp only[ax,ga,lz,phi (LM hsm),cAG0,cAG1,cAG2,d7,gt,m9,EV,ai,hn',dn,ixM hw,aJ e4,bZ];by_cases hil:i=hp.length
 .have:(!decide ((i:Int)=(hp.length:Int)))=false:=by simp[hil]
  simp only[this,EV,aq,aw];rw[hq'];refine fin f hp a.wher false _ rfl rfl (λx hx=>good x (by rw[hq];simp[hx])) this.symm ?_;rw[hR,ad hil,ad hil]
 .have hil':i<hp.length:=by omega
  have:(!decide ((i:Int)=(hp.length:Int)))=true:=by simp;omega
  obtain⟨f64,frk,jf,fj,fW⟩:=good f (by rw[hq];simp);have hjf:jf≠j':=λq=>by
   subst q;obtain⟨jg,ug,g1,_,_,g4⟩:=hP.at_ _ f hlast;rw[g1] at fj;simp only at fj;have:jg=jf:=by omega
   subst this;rw[g4] at e4;simp only[bW] at e4;omega
  have hei:hp[i]?=some e:=by rw[hq,aI hil'] at he;exact he
  have he':=jN (z:=f) hei;have hf':(hp++[f])[hp.length]?=some f:=by simp
  have s1:=sU (hp:=hp) (z:=f) hil' f;have s2:=ad4 (hp:=hp.set i f) (z:=f) e;rw[aH] at s2;have a1:(hp.set i f++[e])[i]?=some f:=jN (be hil');have a2:(hp.set i f++[e])[hp.length]?=some e:=by simp
  have s3:=dQ (l:=a.wher) (i:=jf) fW (i:Int);have s4:=dQ (l:=a.wher.set jf (i:Int)) (i:=j') (by rw[aH];exact hw) (hp.length:Int);simp only[this,aA];rw[hq'];simp only[EV,ax,ixM (show hp.length<hp.length+1 by omega),ixM (show i<hp.length+1 by omega),aJ hf',aJ he',eU,ly,s1,s2,aJ a1,aJ a2,vw,fj,hh,ixM fW,ixM hw,s3,s4]
  refine fin e (hp.set i f) _ true _ aH (by rw[aH,aH]) (λx hx=>?_) this.symm ?_
  .rcases b6 hx with h1|h1
   .exact good x (by rw[hq];simp[h1])
   .rw[h1];exact good f (by rw[hq];simp)
  .rw[hR,ac hil,ac hil,j0,fj,aG,qH _ _ hjf]
def UD {l:List Due}{a b:Nat}(h:a<=b)(hb:b<=l.length):RF.ev (.tsub 3) [sl cE l,.v (.int .i64 (a:Int)),.v (.int .i64 (b:Int))]=some (sl cE ((l.drop a).take (b-a))):=by
 have ok:dK 3 (l.map cE)=true:=by
  cases l with
  |nil=>rfl
  |cons a k=>simp[dK,iT]
 show(if _ then _ else _)=_
 simp_all
def ahg {c:Clock}(h:bx c)(h64:ij c)(n:Int):Ans D 308 [CL c,.i64 n] [CL (gI c n)]:=by
 have hs:=yW h;have hcs:=kX h;have h4:=h.2.2.2.1;have hdl:=hcs.due;refine am ?_;unfold abj;simp only[ax,db,phi (tz hcs),mh,phi (ahf (c:=c.certs) hcs.certs n),iI,EV,cU,ai];cases hf:c.due.find? λd=>decide (d.number=n) with
 |none=>
  have hall:∀d∈c.due,d.number≠n:=λd hd=>by simpa using gX.1 hf d hd
  have eA:k9 c n=c.agenda:=by unfold k9;rw[hf]
  have eD:(c.due.filter λd=>cY n d.number)=c.due:=ee.2 λd hd=>by unfold cY;simp[hall d hd]
  have ng:decide ((-1:Int)>=0)=false:=rfl;simp only[phi (UC (c:=c) hdl hall),EV,ng,aq,aw,ax,mq,mu,mw,jB,jU];unfold HV gI;rw[eA,eD];have q0:∀x:Certs,RF.ev (.cell 0) [CS x]=some (.i64 x.next):=λ_=>rfl;have q1:∀x:Certs,RF.ev (.cell 1) [CS x]=some (sl hrow x.list):=λ_=>rfl;simp only[ax,oc,od,m8,q0,q1,yX,EV,AR];rfl
 |some d=>
  have hd:=eX hf;have hdn:d.number=n:=by simpa using jw hf
  obtain⟨k,hk⟩:=aL.1 hd;obtain⟨m,j,u,e,w1,w2,w3,w4,w5,_⟩:=Cc h hd;have cP:=Ym hs hdl hk;rw[hdn] at cP;have hkl:=bb hk;have eA:k9 c n=kx c.agenda m j:=by
   unfold k9;rw[hf];simp only;rw[w4];simp only[aG];rw[w1];simp only[ct,aG]
  have eD:c.due.take k++c.due.drop (k+1)=c.due.filter λd=>cY n d.number:=by
   rw[<-hdn,<-rN (nu:=λd:Due=>d.number) hs hk,nT]
  have c5:=phi (Yn h4 w2 w3 h64.2);rw[<-w4] at c5;have gp:decide ((k:Int)>=0)=true:=au (by omega);have b1:=kP (show k<=c.due.length by omega)
  have b2:=kP (show k+1<=c.due.length by omega)
  have t1:=UD (l:=c.due) (a:=0) (b:=k) (by omega) (by omega);have t2:=UD (l:=c.due) (a:=k+1) (b:=c.due.length) (by omega) (by omega);rw[cL,Nat.sub_zero] at t1;rw[bv (by rw[bu];omega)] at t2;have a1:RF.ev (.app 24 3) [.sl [],.v (.int .i64 0),sl cE (c.due.take k)]=some (sl cE (c.due.take k)):=gy (l:=c.due.take k) (f:=cE) (bytes:=24) (z:=3) (by rw[aK];omega) iT;have a2:=fh (f:=cE) (l:=c.due.take k) (k:=c.due.drop (k+1)) (bytes:=24) (z:=3) (by rw[aK,bu];omega) iT;rw[eD] at a2;have z0:(((0:Nat):Int))=0:=rfl;rw[z0] at t1;simp only[phi cP,EV,gp,aA,ax,mi,cU,aS hk (iT d),aJ hk,sL,c5,ga,b1,b2,t1,t2,a1,a2,up1 (show k<1000000000 by omega),ai,cAG0,cAG1,cAG2,d7,gt]
  unfold HV gI;rw[eA];have q0:∀x:Certs,RF.ev (.cell 0) [CS x]=some (.i64 x.next):=λ_=>rfl;have q1:∀x:Certs,RF.ev (.cell 1) [CS x]=some (sl hrow x.list):=λ_=>rfl;simp only[ax,oc,od,m8,q0,q1,yX,EV,AR];rfl
def xK (t:Rt):RF.ev (.shape 2) [R t]=some (R t):=rfl
def UE (x:Crt):RF.ev (.shape 2) [CP x]=some (CP x):=rfl
def C0:Crt:=⟨0,0⟩
def CLz:PV:= .agg [.i64 0,.i64 0,.sl [],.i64 0,.sl [],.sl [],.sl [],.sl [],.sl [],.sl [],.sl []]
def mK:RF.ev .agg [.i64 0,.i64 0,.sl [],.i64 0,.sl [],.sl [],.sl [],.sl [],.sl [],.sl [],.sl []]=some CLz:=rfl
def ahh {c:Clock}(h:bx c)(hn:aX c.now){i:Nat}{x:Held}(hx:c.certs.list[i]?=some x):Ans D 233 [CL c,.i64 x.number] [CL (gI c x.number),.i64 0]:=by
 classical
 have h64:=yG h hn;have m1:=phi (yP h64 (qQ h));rw[au h] at m1;have e0:okE true=0:=rfl;rw[e0] at m1;refine am ?_;unfold aar;simp[db,m1,EV,phi (ahe h h64 hx),UE]
def CSz:PV:= .agg [.i64 0,.sl []]
def AGz:PV:= .agg [.sl [],.sl [],.sl [],.sl [],.sl []]
def AV:RF.ev .agg [.i64 0,.sl []]=some CSz:=rfl
def Yo:RF.ev .agg [.sl [],.sl [],.sl [],.sl [],.sl []]=some AGz:=rfl
def UF:RF.ev (.shape 2) [CSz]=some CSz:=rfl
def UG:RF.ev (.shape 5) [AGz]=some AGz:=rfl
def ad5:RF.ev (.shape 3) [Ei]=some Ei:=rfl
def Sl:RF.ev (.shape 2) [H0]=some H0:=rfl
open Classical in
def ad6 {c:Certs}{x:Crt}(h:dk c)(hx:x.ok)(hn:∀g∈c.list,g.cert≠x)(hf:c.list.length=200\/c.next=1000000):Ans D 375 [CS c,CP x] [CSz,.i64 0,.i64 18]:=by
 have e0:okE true=0:=rfl;have m1:=phi (RP c);rw[au h,e0] at m1;have m2:=phi (RM x);rw[au hx] at m2;have m3:=phi (Lt (c:=c) (x:=x) (by have:=h.1;omega));rw[show(c.list.any λh=>decide (h.cert=x))=false from by rw[eg];intro g hg;simpa using hn g hg] at m3
 refine am ?_;unfold ST;simp[iI,jA,m1,m2,m3,fm,EV];by_cases h1:(c.list.length:Int)=200
 .rw[ad h1];simp[EV,ax,AV]
 .rw[ac h1];have h2:c.next=1000000:=hf.resolve_left (by omega);simp only[EV,ax,lx,h2,AV,az,aA]
open Classical in
def ad7 {c:Certs}{x:Crt}(h:dk c)(hx:x.ok)(hn:∀g∈c.list,g.cert≠x)(hf:c.list.length=200\/c.next=1000000):Ans D 320 [CS c,CP x] [CSz,.i64 0,.i64 18]:=by
 have hl:=h.1;have e0:okE true=0:=rfl;have m1:=phi (LA (c:=c) (by omega));rw[au h,e0] at m1;have m2:=phi (RN x);rw[au hx] at m2;refine an ⟨1001,?_⟩;unfold SN;simp only[ax,iI,jA,m1,m2,fm,EV,ai,az,aE,aq,aw];refine(cw (m:=1001) (l:=c.list) (p:=λg=>!decide (g.cert=x)) (st:=λi=>[.i64 (i:Int)]) (r:=none) (fin:=some [CSz,.i64 0,.i64 18]) (λi g self hg _=>?_) (λhall self=>?_) (by omega)).trans ?_
 .have hne:¬g.cert=x:=hn g (ay hg);unfold xW;simp only[ax,fm,aS hg (fi _),aJ hg,iS,pHP,xm,EV,aa,bi (aN hg),up1 (show i<1000000000 by have:=aN hg;omega),hne,bw,bI,aq,aA,aw]
 .unfold xW;simp only[EV,aa,bK];unfold H6;have g0:decide ((-1:Int)>=0)=false:=rfl;simp only[EV,g0,aq,aw,ax,fm,ai,aa];by_cases h1:(c.list.length:Int)=200
  .rw[ad h1];simp only[EV,ax,AV]
  .rw[ac h1];have h2:c.next=1000000:=hf.resolve_left (by omega);simp only[EV,ax,lx,h2,AV,az,aA]
 .rw[ad (by rw[aV];intro g hg;simpa using hn g hg)]
open Classical in
def ad8 {s:Slots}(h:SFine s)(ho:gc s=false):Ans D 382 [SL s] [Ei,H0,.i64 18]:=by
 have hc:=phi (Lz (vI h));rw[au (cZ.2 h)] at hc;have e0:okE true=0:=rfl;rw[e0] at hc;refine am ?_;unfold SU;rcases free_last h with e|⟨fr,i,u,e,hu,h1,h2⟩
 .simp only[iW,hc,iY,e,EV,az,aE,aq,aw,Us,LN];rfl
 .rw[vH e hu] at ho;have hm:=(h.uses i u hu).2.1;have hu':u=1000000:=by simp only[ak] at ho;omega
  subst hu';have hne:¬((s.free.length:Nat):Int)=0:=by rw[e];simp;omega
  have c4:=phi (X3 (fr:=fr) (i:=(i:Int)) (by omega));rw[<-e] at c4;simp only[ax,iW,hc,iX,kf,iY,EV,ai,az,aE,aq,aw,hne,bw,c4,aS hu (bS _),aJ hu,bZ,aA,Us,LN]
def UH {a:Agenda}(h:dX a)(ho:gc a.slots=false){t:Rt}{n:Int}(hx:rok t=true/\ 0<=n/\ n<=1000000)(hn:n∉a.heap.map (·.number))(ht:aX t)(h64:∀e∈a.heap,aX e.time):Ans D 317 [AG a,R t,.i64 n] [AGz,H0,.i64 18]:=by
 classical
 have hs:=cZ.1 h.1;have n2:=hs.n2;have hl:=h.2.1.2.1;have m1:=phi (Fe (xD h) h64);rw[au h] at m1;have m2:=phi (c43 ht);rw[hx.1] at m2;have e0:okE true=0:=rfl;rw[e0] at m1 m2;have mm:RF.ev (.mm true) [.v (.int .i64 0),.v (.int .i64 0)]=some (.v (.int .i64 0)):=rfl;refine an ⟨1001,?_⟩;unfold SM;simp only[ax,ga,bU,m1,m2,mm,d7,EV,ai,az,aE,aq,aw,aa,cJ];rw[ac (by omega),ac (by omega)];refine(cw (m:=1001) (l:=a.heap) (p:=λg=>!decide (g.number=n)) (st:=λi=>[.i64 (i:Int)]) (r:=none) (fin:=some [AGz,H0,.i64 18]) (λk g self hg hall=>?_) (λhall self=>?_) (by omega)).trans ?_
 .have hne:¬g.number=n:=λe=>hn (bh.2 ⟨g,ay hg,e⟩);unfold uo;simp only[ax,d7,aS hg (kb _),aJ hg,eU,vu,EV,aa,bi (aN hg),up1 (show k<1000000000 by have:=aN hg;omega),hne,bw,bI,aq,aA,aw]
 .unfold uo;simp only[EV,aa,bK];unfold H5;have g0:decide ((-1:Int)>=0)=false:=rfl;have g1:(!decide ((18:Int)=0))=true:=rfl;simp only[EV,g0,g1,aq,aw,aA,ax,pAG,phi (ad8 hs ho),ad5,Sl,Yo,LN]
 .rw[ad (by rw[aV];intro g hg;simpa usingλe=>hn (bh.2 ⟨g,hg,e⟩))]
open Classical in
def ad9 {c:Clock}{x:Crt}(h:CAd c x)(hn:aX c.now)(hf:oQ c x):Ans D 238 [CL c,CP x] [CLz,.i64 0,.i64 18]:=by
 have hc:=kX h.ok;have h64:=yG h.ok hn;have m1:=phi (yP h64 (qQ h.ok));rw[au h.ok,show okE true=0 from rfl] at m1
 have hF:=h.ok.2.1;have n8:decide ((0:Int)=8)=false:=rfl;have n18:decide ((18:Int)=8)=false:=rfl;have g1:(!decide ((18:Int)=0))=true:=rfl;have p1:=pq hF h.low;have p2:=pq hF h.high;refine am ?_;unfold Mo;by_cases h1:c.certs.list.length=200\/c.certs.next=1000000
 .simp only[ax,db,jA,mh,mf,m1,phi (ad7 h.ok.2.2.1 h.cok h.new h1),UF,nY,nZ,phi (zT hF _),Fz,EV,az,aE,aq,aw,n18,aj p1,aj p2,g1,aA,mK]
 .obtain⟨hf,ho⟩:=hf.resolve_left h1;have hlen:=h.ok.2.2.1.1;have hnx:=h.ok.2.2.1.2.2.1;have m2:=phi (X8 h.ok.2.2.1 h.cok h.new (by omega) (by omega));have m3:=phi (Lv (x:=x) hF h64.1);rw[ad (Cz hF h.ok.1 h.cok h.low h.high)] at m3;have hf':(ef c.now (ptOf c.pts x.high) (ptOf c.pts x.low)).2=true:=hf;rw[hf'] at m3;obtain⟨f1,f2⟩:=ri hF h64.1 h.ok.1 h.low h.high hf';have m4:=phi (UH h.ok.2.2.2.1 ho (t:=(fT c x).1) (n:=c.certs.next) ⟨f1,h.ok.2.2.1.2.1,by omega⟩ (vL h.ok) f2 h64.2);have m4:aY D 317 [AG c.agenda,R (ef c.now (ptOf c.pts x.high) (ptOf c.pts x.low)).1,.v (.int .i64 c.certs.next)]=_:=m4;simp only[ax,db,jA,bU,mh,mf,fq,mi,m1,m2,iI,nY,nZ,phi (zT hF _),Fz,EV,az,aE,aq,aw,n8,aj p1,aj p2,phi (Fv hc),cU,ai,m3,m4,UG,Sl,g1,aA,mK]
def aea {c:Clock}{x:Crt}(h:CAd c x)(hn:aX c.now)(hf:oQ c x):Ans D 311 [CL c,CP x] [CLz,.i64 0,.i64 18]:=by
 have hc:=kX h.ok;have h64:=yG h.ok hn;have hF:=h.ok.2.1;have g1:(!decide ((18:Int)=0))=true:=rfl;refine am ?_;unfold Mx;by_cases h1:c.certs.list.length=200\/c.certs.next=1000000
 .simp[ax,db,jA,mh,phi (ad6 h.ok.2.2.1 h.cok h.new h1),UF,EV,g1,mK]
 .obtain⟨hf,ho⟩:=hf.resolve_left h1;have hlen:=h.ok.2.2.1.1;have hnx:=h.ok.2.2.1.2.2.1;have m2:=phi (X7 h.ok.2.2.1 h.cok h.new (by omega) (by omega));have m3:=phi (Lu (x:=x) hF h64.1 h.low h.high);have hf':(ef c.now (ptOf c.pts x.high) (ptOf c.pts x.low)).2=true:=hf;rw[hf'] at m3;have m5:=phi (Sb (cZ.1 h.ok.2.2.2.1.1));rw[ho] at m5;simp only[ax,db,jA,bU,mh,mf,fq,Ux,m2,iI,EV,az,aE,bI,aq,aw,aA,phi (tz hc),cU,ai,m3,m5,mK]
def Ku {c:Clock}{x:Crt}(h:CAd c x)(hn:aX c.now)(hf:¬oQ c x):Ans D 238 [CL c,CP x] [CL (jQ c x),.i64 c.certs.next,.i64 0]/\ Ans D 311 [CL c,CP x] [CL (jQ c x),.i64 c.certs.next,.i64 0]:=by
 have ha:=h.add hf;have h64:=yG h.ok hn;obtain⟨a1,a2⟩:=ag0 ha h64;obtain⟨b1,b2⟩:=ag1 ha h64;unfold jQ;by_cases h1:(fT c x).2=true
 .rw[ad h1];have ho:gc c.agenda.slots=true:=by
   cases q:gc c.agenda.slots with
   |true=>rfl
   |false=>exact absurd (.inr ⟨h1,q⟩) hf
  obtain⟨fr,i,u,e,hu,hm⟩:=yH (cZ.1 h.ok.2.2.2.1.1) ho;have e1:frL c=fr:=by unfold frL;rw[e];simp
  have e2:frI c=i:=by unfold frI;rw[e];simp
  grind
 .grind
def AW {es:List Crt}{l:List Held}{c:Clock}{k:Nat}{x:Held}(hx:l[k]?=some x):dropL es (l.take (k+1)) c=if x.cert∈es then dropL es (l.take k) c else gI (dropL es (l.take k) c) x.number:=by
 unfold dropL;rw[cH,hx,List.foldl_append];rfl
def Sn {es:List Crt}{c:Clock}(h:bx c){k:Nat}{x:Held}(hx:c.certs.list[k]?=some x):∃i:Nat,(dropL es (c.certs.list.take k) c).certs.list[i]?=some x:=by
 have:=(gM es (c.certs.list.take k) c h).2.2;refine aL.1 ?_;rw[this,bE];refine⟨ay hx,?_⟩;rw[aV];intro y hy;obtain⟨j,hj⟩:=aL.1 hy;have hjk:j<k:=by have:=bb hj;rw[aK] at this;omega
 rw[fw hjk] at hj;have:=xI (sV h.2.2.1) hjk hj hx;simp[cY];omega
def stC (c:Clock):List PV:=[.i64 c.now.num,.i64 c.now.den,sl row c.pts,.i64 c.certs.next,sl hrow c.certs.list,sl I1 c.agenda.slots.uses,sl B1 c.agenda.slots.used,sl I1 c.agenda.slots.free,sl bO c.agenda.heap,sl I1 c.agenda.wher,sl cE c.due]
def qg {es:List Crt}{c:Clock}(h:bx c)(hn:aX c.now)(l:List Held):aX (dropL es l c).now:=by rw[(gM es l c h).1.now];exact hn
def V0 {N:Nat}{f:JT}{c:Clock}{es:List Crt}(h:bx c)(hn:aX c.now)(hE:es.length<=1000){e0 e1 e4 e5:PV}:cS (aY D) N Ba [f] [e0,e1,sl bT es,CL c,e4,e5,.i64 (c.certs.list.length:Int)] 1001 (stC c++[.i64 ((0:Nat):Int)])=f (stC (dropL es c.certs.list c)):=by
 have hl:=h.2.2.1.1;have e:stC c=stC (dropL es (c.certs.list.take 0) c):=rfl;rw[e];refine(dP (m:=1001) (n:=c.certs.list.length) (st:=λk=>stC (dropL es (c.certs.list.take k) c)++[.i64 (k:Int)]) (fin:=f (stC (dropL es c.certs.list c))) (λk self hk=>?_) (λself=>?_) (by omega))
 .have hx:c.certs.list[k]?=some c.certs.list[k]:=ah _;generalize c.certs.list[k]=x at hx;obtain⟨i,hi⟩:=Sn (es:=es) h hx;have A:=(gM es (c.certs.list.take k) c h).1;have m:=phi (ahh A.ok (qg h hn _) hi);rw[AW hx];generalize dropL es (c.certs.list.take k) c=a at A m;clear hi;unfold Ba;simp only[stC,bf,aT,EV,aa,bi hk,ax,fu,aS hx (fi _),aJ hx,iS,pHP,phi (zW x.cert hE)];by_cases hm:x.cert∈es
  .simp only[hm,az,aE,aq,aw,aA,EV,F0,up1 (show k<1000000000 by omega)]
  .simp only[hm,bw,bI,aA,aw,ax,kW,ii,m,db,oc,od,m8,rK,fu,mq,mu,mw,jB,jU,cU,EV,F0,up1 (show k<1000000000 by omega)]
 .have e:c.certs.list.take c.certs.list.length=c.certs.list:=cW;rw[e];unfold Ba;simp only[stC,bf,aT,EV,aa,bK]
def km:RF.ev (.shape 11) [CLz]=some CLz:=rfl
def FC {α:Type}{p:α->Bool}{l:List α}:(l.any p=true->∃i,l.findIdx? p=some i)/\(l.any p=false->l.findIdx? p=none):=by
 constructor
 .intro h;cases e:l.findIdx? p with
  |some i=>exact⟨i,rfl⟩
  |none=>
   rw[eb] at e;rw[sB] at h;obtain⟨x,hx,hp⟩:=h;rw[e x hx] at hp;cases hp
 .intro h;rw[eb];rw[eg] at h;intro x hx;simpa using h x hx
open Classical in
def vQ {N:Nat}{f:JT}{l:List Pt}{es:List Crt}{e0 e1 e3 e4 e5 e6 e7 e8 e9 e10 e11 e12 e13 e14 e15 e16 e17 e18 e19 e20 e21 e22 e23 e24 e25 e26 e27 e28 e29 e30 e31 e32:PV}(hE:EdgF l es)(hlen:es.length<=1000)(hN:1001<=N):∀(r k m:Nat) (a:Clock),k+r=es.length->r<m->bx a->aX a.now->a.pts=l->
  cS (aY D) N xL [f] [e0,e1,sl bT es,e3,e4,e5,e6,e7,e8,e9,e10,e11,e12,e13,e14,e15,e16,e17,e18,e19,e20,e21,e22,e23,e24,e25,e26,e27,e28,e29,e30,e31,e32,.i64 (es.length:Int)] m (.i64 0::(stC a++[.i64 (k:Int)]))=match addL (es.drop k) a with|some d=>f (stC d)|none=>some [CLz,.i64 18]
 |0,k,m,a,hk,hm,h,hn,hp=>by
  obtain⟨m,rfl⟩:∃m',m=m'+1:=⟨m-1,by omega⟩;rw[bc,cD (by omega)];unfold xL addL;simp only[stC,bf,aT,EV,aa];rw[ac (by omega)]
 |r+1,k,m,a,hk,hm,h,hn,hp=>by
  obtain⟨m,rfl⟩:∃m',m=m'+1:=⟨m-1,by omega⟩;have hkl:k<es.length:=by omega
  obtain⟨x,hx⟩:∃x,es[k]?=some x:=⟨es[k],ah _⟩;have hxm:=ay hx;have hdr:es.drop k=x::es.drop (k+1):=by
   rw[cB hkl,(aD.1 hx).2]
  have ih:=λ(a:Clock) h hn hp=>vQ (N:=N) (f:=f) (l:=l) (es:=es) (e0:=e0) (e1:=e1) (e3:=e3) (e4:=e4) (e5:=e5) (e6:=e6) (e7:=e7) (e8:=e8) (e9:=e9) (e10:=e10) (e11:=e11) (e12:=e12) (e13:=e13) (e14:=e14) (e15:=e15) (e16:=e16) (e17:=e17) (e18:=e18) (e19:=e19) (e20:=e20) (e21:=e21) (e22:=e22) (e23:=e23) (e24:=e24) (e25:=e25) (e26:=e26) (e27:=e27) (e28:=e28) (e29:=e29) (e30:=e30) (e31:=e31) (e32:=e32) hE hlen hN r (k+1) m a (by omega) (by omega) h hn hp;have hal:=h.2.2.1.1;rw[bc,hdr];have g0:decide (-1>=(0:Int))=false:=rfl;have g18:(!decide ((18:Int)=0))=true:=rfl;have E:addL (x::es.drop (k+1)) a=if(a.certs.list.any λh=>decide (h.cert=x))=true then addL (es.drop (k+1)) a else if oQ a x then none else addL (es.drop (k+1)) (jQ a x):=rfl
  rw[E];generalize hkk:xL=kk at ih;subst hkk;unfold xL;simp only[stC,bf,aT,EV,aa,bi hkl,ax,aS hx (jz _),aJ hx,tq,ai];refine(cw (m:=N) (l:=a.certs.list) (p:=λg=>!decide (g.cert=x)) (st:=λi=>[.i64 (i:Int)]) (r:=match addL (es.drop (k+1)) a with|some d=>f (stC d)|none=>some [CLz,.i64 18]) (fin:=if oQ a x then some [CLz,.i64 18] else match addL (es.drop (k+1)) (jQ a x) with|some d=>f (stC d)|none=>some [CLz,.i64 18]) (λi g self' hg _=>?_) (λhall self'=>?_) (by omega)).trans ?_
  .rw[<-ih a h hn hp];unfold FY;simp only[ax,aS hg (fi _),aJ hg,iS,pHP,xm,EV,aa,bi (aN hg),up1 (show i<1000000000 by have:=aN hg;omega)]
   by_cases hc:g.cert=x
   .rw[ad hc,ac (show¬((!decide (g.cert=x))=true) by simp[hc])]
    simp only[EV,ax,nY,nZ];unfold FX;simp only[EV,up1 (show k<1000000000 by omega),stC,bf,aT]
    rw[ad (by omega)];rfl
   .rw[ac hc,ad (show(!decide (g.cert=x))=true by simp[hc])]
  .have hany:(a.certs.list.any λh=>decide (h.cert=x))=false:=by
    rw[eg];intro g hg;have:=aV.1 hall g hg;simpa using this
   have hcd:=JI hE h hp hxm hany;unfold FY;simp only[EV,aa,bK];unfold Oq;by_cases hfl:oQ a x
   .rw[ad hfl];simp only[EV,g0,g18,aq,aw,aA,ax,kW,phi (ad9 hcd hn hfl),km,mK]
   .rw[ac hfl];obtain⟨q1,q2,q3,q4⟩:=Ay hcd hn hfl;rw[<-ih (jQ a x) q1 (by rw[q4];exact hn) (q3.trans hp)];simp only[EV,g0,aq,aw,ax,kW,phi (Ku hcd hn hfl).1,db,az,aE,oc,od,m8,rK,fu,mq,mu,mw,jB,jU,cU,nY,nZ];unfold FX;simp only[EV,up1 (show k<1000000000 by omega),stC,bf,aT]
    rfl
  .by_cases hall:(a.certs.list.all λg=>!decide (g.cert=x))=true
   .have hany:(a.certs.list.any λh=>decide (h.cert=x))=false:=by
     rw[eg];intro g hg;have:=aV.1 hall g hg;simpa using this
    rw[ad hall,hany,ac (show¬(false=true) by simp)]
    by_cases hfl:oQ a x
    .rw[ad hfl,ad hfl]
    .rw[ac hfl,ac hfl];rfl
   .rw[ac hall];have hany:(a.certs.list.any λh=>decide (h.cert=x))=true:=by
     cases q:a.certs.list.any λh=>decide (h.cert=x) with
     |true=>rfl
     |false=>
      rw[eg] at q;exact absurd (aV.2 λg hg=>by simpa using q g hg) hall
    rw[hany,ad (show true=true from rfl)]
    rfl
def ahi {es:List Crt}(v:Crt)(hl:es.length<=1000):Ans D 309 [sl bT es,CP v] [.bool (decide (v∈es))]:=by
 have key:den (aY D) 1001 SJ [] [sl bT es,CP v]=some [.bool (decide (v∈es))]:=by
  unfold SJ;simp[UE,EV];refine(jy (m:=1001) (l:=es) (p:=λg=>decide (g=v)) (st:=λi=>[.i64 (i:Int)]) (ret:=λ_=>some [.bool true]) (fin:=some [.bool false]) (λk g self hg=>?_) (λself=>?_) (by omega)).trans ?_
  .unfold HW;simp only[EV,ai,aa,bi (aN hg),aS hg (jz _),aJ hg,tq,xm,up1 (show k<1000000000 by have:=aN hg;omega)]
  .unfold HW;simp[EV,P0]
  .by_cases hv:v∈es
   .obtain⟨i,hi⟩:=(FC (p:=λg=>decide (g=v)) (l:=es)).1 (sB.2 ⟨v,hv,by simp⟩)
    grind
   .rw[FC.2 (by rw[eg];intro x hx;have:x≠v:=λe=>hv (e▸hx);simp[this]),aj hv];rfl
 exact an ⟨1001,key⟩
def qT (c:Clock):RF.ev .sub [sl cE c.due,.v (.int .i64 0),.v (.int .i64 (c.due.length:Int))]=some (sl cE c.due):=bF
def V1 {N:Nat}{f:JT}{c:Clock}{es:List Crt}(h:bx c)(hn:aX c.now)(hE:es.length<=1000){e0 e1 e4 e5 e6 e7 e8:PV}:cS (aY D) N Bj [f] [e0,e1,sl bT es,CL c,e4,e5,e6,e7,e8] 1001 (stC c++[.i64 (c.due.length:Int),.i64 ((0:Nat):Int)])=f (stC (dropL es c.certs.list c)++[.i64 ((dropL es c.certs.list c).due.length:Int)]):=by
 have hl:=h.2.2.1.1;have e:stC c++[.i64 (c.due.length:Int),.i64 ((0:Nat):Int)]=stC (dropL es (c.certs.list.take 0) c)++[.i64 ((dropL es (c.certs.list.take 0) c).due.length:Int),.i64 ((0:Nat):Int)]:=rfl;rw[e];refine(dP (m:=1001) (n:=c.certs.list.length) (st:=λk=>stC (dropL es (c.certs.list.take k) c)++[.i64 ((dropL es (c.certs.list.take k) c).due.length:Int),.i64 (k:Int)]) (fin:=f (stC (dropL es c.certs.list c)++[.i64 ((dropL es c.certs.list c).due.length:Int)])) (λk self hk=>?_) (λself=>?_) (by omega))
 .have hx:c.certs.list[k]?=some c.certs.list[k]:=ah _;generalize c.certs.list[k]=x at hx;have A:=(gM es (c.certs.list.take k) c h).1;have m:=phi (ahg A.ok (yG A.ok (qg h hn _)) x.number);rw[AW hx];generalize dropL es (c.certs.list.take k) c=a at A m;have s0:=qT a;unfold Bj;simp only[stC,bf,aT,EV,aa,ax,fu,ai,bi hk,aS hx (fi _),aJ hx,Ef,phi (ahi x.cert hE)];by_cases hm:x.cert∈es
  .simp only[hm,az,aE,aq,aw,aA,EV,GY,up1 (show k<1000000000 by omega)]
  .simp only[hm,bw,bI,aA,aw,ax,fu,aS hx (fi _),aJ hx,Lm,s0,kW,m,db,oc,od,m8,rK,fu,mq,mu,mw,jB,jU,cU,EV,ai,GY,up1 (show k<1000000000 by omega)]
 .have e:c.certs.list.take c.certs.list.length=c.certs.list:=cW;rw[e];unfold Bj;simp only[stC,bf,aT,EV,ax,fu,ai,aa,bK]
open Classical in
def vR {N:Nat}{f:JT}{l:List Pt}{es:List Crt}{e0 e1 e3 e4 e5 e6 e7 e8 e9 e10 e11 e12 e13 e14 e15 e16 e17 e18 e19 e20 e21 e22 e23 e24 e25 e26 e27 e28 e29 e30 e31 e32 e33 e34 e35:PV}(hE:EdgF l es)(hlen:es.length<=1000):∀(r k m:Nat) (a:Clock),k+r=es.length->r<m->bx a->aX a.now->a.pts=l->
  cS (aY D) N xN [f] [e0,e1,sl bT es,e3,e4,e5,e6,e7,e8,e9,e10,e11,e12,e13,e14,e15,e16,e17,e18,e19,e20,e21,e22,e23,e24,e25,e26,e27,e28,e29,e30,e31,e32,e33,e34,e35] m (stC a++[.i64 (a.due.length:Int),.i64 (k:Int)])=match addL (es.drop k) a with|some d=>f (stC d++[.i64 (d.due.length:Int)])|none=>some [CLz,.i64 18]
 |0,k,m,a,hk,hm,h,hn,hp=>by
  obtain⟨m,rfl⟩:∃m',m=m'+1:=⟨m-1,by omega⟩;rw[bc,cD (by omega)];unfold xN addL;simp only[stC,bf,aT,EV,ai,aa];rw[ac (by omega)]
 |r+1,k,m,a,hk,hm,h,hn,hp=>by
  obtain⟨m,rfl⟩:∃m',m=m'+1:=⟨m-1,by omega⟩;have hkl:k<es.length:=by omega
  obtain⟨x,hx⟩:∃x,es[k]?=some x:=⟨es[k],ah _⟩;have hxm:=ay hx;have hdr:es.drop k=x::es.drop (k+1):=by
   rw[cB hkl,(aD.1 hx).2]
  have ih:=λ(a:Clock) h hn hp=>vR (N:=N) (f:=f) (l:=l) (es:=es) (e0:=e0) (e1:=e1) (e3:=e3) (e4:=e4) (e5:=e5) (e6:=e6) (e7:=e7) (e8:=e8) (e9:=e9) (e10:=e10) (e11:=e11) (e12:=e12) (e13:=e13) (e14:=e14) (e15:=e15) (e16:=e16) (e17:=e17) (e18:=e18) (e19:=e19) (e20:=e20) (e21:=e21) (e22:=e22) (e23:=e23) (e24:=e24) (e25:=e25) (e26:=e26) (e27:=e27) (e28:=e28) (e29:=e29) (e30:=e30) (e31:=e31) (e32:=e32) (e33:=e33) (e34:=e34) (e35:=e35) hE hlen r (k+1) m a (by omega) (by omega) h hn hp;have hal:=h.2.2.1.1;have s0:=qT a;have m2:=phi (Lt (c:=a.certs) (x:=x) (by omega));have g18:(!decide ((18:Int)=0))=true:=rfl;have cz:RF.ev (.cell 10) [CLz]=some (.sl []):=rfl;rw[bc,hdr];unfold addL;generalize hkk:xN=kk at ih;subst hkk;unfold xN;simp only[stC,bf,aT,EV,ai,aa,bi hkl,ax,aS hx (jz _),aJ hx,tq,Up,m2];cases hany:a.certs.list.any λh=>decide (h.cert=x) with
  |true=>
   have ih:=ih a h hn hp;simp only[stC,bf,aT] at ih;simp only[aA,EV];refine dS ?_ ih;unfold GW;simp only[EV,up1 (show k<1000000000 by omega)]
   rfl
  |false=>
   have hcd:=JI hE h hp hxm hany;by_cases hfl:oQ a x
   .have hb:(if oQ a x then(none:Option Clock) else addL (es.drop (k+1)) (jQ a x))=none:=ad hfl
    simp only[aq,aw,hb];simp only[EV,g18,cz,aA,ax,aS hx (jz _),aJ hx,tq,s0,kW,phi (aea hcd hn hfl),km,mK,dI]
   .obtain⟨q1,q2,q3,q4⟩:=Ay hcd hn hfl;have ih:=ih (jQ a x) q1 (by rw[q4];exact hn) (q3.trans hp);have hb:(if oQ a x then(none:Option Clock) else addL (es.drop (k+1)) (jQ a x))=addL (es.drop (k+1)) (jQ a x):=ac hfl
    simp only[stC,bf,aT] at ih;simp only[aq,aw,hb];refine dS ?_ ih;simp only[EV,ax,aS hx (jz _),aJ hx,tq,s0,kW,phi (Ku hcd hn hfl).2,db,az,aE,aq,aw,oc,od,m8,rK,fu,mq,mu,mw,jB,jU,cU,ai];unfold GW;simp only[EV,up1 (show k<1000000000 by omega)]
    rfl
def KTz:PV:= .agg [.i64 0,.i64 0,.sl [],.i64 0,.sl [],.sl [],.sl [],.sl [],.sl [],.sl [],.sl [],.sl [],.sl []]
def HTz:PV:= .agg [.i64 0,.i64 0,.sl [],.i64 0,.sl [],.sl [],.sl [],.sl [],.sl [],.sl [],.sl [],.i64 0,.sl []]
def KHz:PV:= .agg [.i64 0,.i64 0,.sl [],.i64 0,.sl [],.sl [],.sl [],.sl [],.sl [],.sl [],.sl [],.sl []]
def Yp:RF.ev .agg [.i64 0,.i64 0,.sl [],.i64 0,.sl [],.sl [],.sl [],.sl [],.sl [],.sl [],.sl [],.sl [],.sl []]=some KTz:=rfl
def Yq:RF.ev .agg [.i64 0,.i64 0,.sl [],.i64 0,.sl [],.sl [],.sl [],.sl [],.sl [],.sl [],.sl [],.i64 0,.sl []]=some HTz:=rfl
def NT:RF.ev .agg [.i64 0,.i64 0,.sl [],.i64 0,.sl [],.sl [],.sl [],.sl [],.sl [],.sl [],.sl [],.sl []]=some KHz:=rfl
def g18:(!decide ((18:Int)=0))=true:=rfl
def NU (c:Clock)(u:List Int):RF.ev .agg [CL c,sl I1 u]=some (KH ⟨c,u⟩):=rfl
def Af (k:KHeap):RF.ev (.cell 11) [KH k]=some (sl I1 k.heap):=rfl
def LR (c:Clock):RF.ev (.part 0 10) [CL c]=some (.agg ((clC c).take 10)):=rfl
def NV (c:Clock)(u:List Int):RF.ev .agg [.agg ((clC c).take 10),sl cE c.due,sl I1 u]=some (KH ⟨c,u⟩):=rfl
def Yr (c:Clock)(b:Brk):RF.ev .agg [.agg ((clC c).take 10),sl cE c.due,BR b]=some (KT ⟨c,b⟩):=rfl
def Ys (c:Clock)(b:Tree):RF.ev .agg [.agg ((clC c).take 10),sl cE c.due,TR b]=some (HT ⟨c,b⟩):=rfl
def c39 {k:KHeap}(h:CSm k.clock)(hh:k.heap.length<=1000):Ans D 39 [KH k] [KH k]:=by
 have s0:=qT k.clock;refine am ?_;unfold k39;simp[dz,pKH,phi (tz h),db,cU,cKH,gy (l:=k.heap) (f:=I1) (bytes:=8) (z:=1) (by omega) bS,EV,bF,LR,NV]
def c42 {k:KHeap}(h:CSm k.clock)(hh:k.heap.length<=1000):Ans D 42 [KH k] [KH k]:=by
 have s0:=qT k.clock;refine am ?_;unfold k42;simp[dz,pKH,phi (tz h),db,cU,cKH,gy (l:=k.heap) (f:=I1) (bytes:=8) (z:=1) (by omega) bS,EV,bF,LR,NV]
def ahj {b:Brk}(h1:b.places.length<=1000)(h2:b.wins.length<=1000):Ans D 113 [BR b] [BR b]:=by
 refine am ?_;unfold Zf;simp[kg,qw,jC,gy (l:=b.places) (f:=I1) (bytes:=8) (z:=1) (by omega) bS,gy (l:=b.wins) (f:=I1) (bytes:=8) (z:=1) (by omega) bS,EV,bF];rfl
def ahk {x:Tree}(h:x.nodes.length<=1000):Ans D 114 [TR x] [TR x]:=by
 refine am ?_;unfold Zg;simp[qx,RE,iZ,gy (l:=x.nodes) (f:=dG) (bytes:=24) (z:=3) (by omega) ke,EV,bF];rfl
def c40 {k:KTourn}(h:CSm k.clock)(h1:k.brk.places.length<=1000)(h2:k.brk.wins.length<=1000):Ans D 40 [KT k] [KT k]:=by
 have s0:=qT k.clock;refine am ?_;unfold k40;simp[gu,pKT,phi (tz h),db,cU,zU,phi (ahj h1 h2),kg,Sj,EV,LR,s0,Yr]
def c41 {k:Heater}(h:CSm k.clock)(h1:k.tree.nodes.length<=1000):Ans D 41 [HT k] [HT k]:=by
 have s0:=qT k.clock;refine am ?_;unfold k41;simp[gC,pHT,phi (tz h),db,cU,Lo,phi (ahk h1),qx,FA,EV,LR,s0,Ys]
def AX {c:Clock}(h:gCl c=false):CSm c:=by
 unfold gCl gF gAg gSl at h;simp at h;exact⟨by omega,by omega,⟨⟨by omega,by omega,by omega⟩,by omega,by omega⟩,by omega⟩
def c14 {c:Choice}(h:gCh c=false):Ans D 14 [CHO c] [CHO c]:=by
 unfold gCh gKh gKt gHt at h;simp at h;obtain⟨⟨⟨⟨a1,a2⟩,b1,b2,b3⟩,d1,d2⟩,e1,e2⟩:=h;have p12:∀k:KHeap,RF.ev (.part 0 12) [KH k]=some (KH k):=λ_=>rfl;have p13:∀k:KTourn,RF.ev (.part 0 13) [KT k]=some (KT k):=λ_=>rfl;have p14:∀k:Heater,RF.ev (.part 0 13) [HT k]=some (HT k):=λ_=>rfl;have ag:RF.ev .agg [.v (.int .u8 c.tag),KH c.heap,KT c.tourn,HT c.heater,KH c.hanger]=some (CHO c):=rfl;refine am ?_;unfold k14;simp only[ax,er,qy,qz,qA,qB,phi (c39 (AX a1) (by omega)),phi (c40 (AX b1) (by omega) (by omega)),phi (c41 (AX d1) (by omega)),phi (c42 (AX e1) (by omega)),dz,gu,gC,cCH,p12,p13,p14,EV,ag]
def aeb {l:List Int}(hn:l.Nodup){m:Nat}{v:Int}(h:l[m]?=some v):lj (λy=>decide (v=y)) l=(m:Int):=by
 have:l.findIdx? (λy=>decide (v=y))=some m:=by
  obtain⟨h1,h2⟩:=aD.1 h;rw[bD];refine⟨h1,by rw[h2];simp,λj hj e=>?_⟩;simp at e;have:=dE.1 hn j m v (by rw[ah (sH hj h1),e]) h;omega
 unfold lj;rw[this];rfl
def So {l:List Int}(hn:l.Nodup)(hl:l.length<=1000){m:Nat}{v:Int}(h:l[m]?=some v):Ans D 199 [sl I1 l,.i64 v] [.i64 (m:Int)]:=by
 have key:den (aY D) 1001 SA [] [sl I1 l,.i64 v]=some [.i64 (m:Int)]:=by
  unfold SA;simp[EV];refine(jy (m:=1001) (l:=l) (p:=λg=>decide (g=v)) (st:=λi=>[.i64 (i:Int)]) (ret:=λi=>some [.i64 (i:Int)]) (fin:=some [.i64 (-1)]) (λk g self hg=>?_) (λself=>?_) (by omega)).trans ?_
  .unfold GE;simp only[EV,ai,aa,bi (aN hg),aS hg (bS _),aJ hg,bZ,up1 (show k<1000000000 by have:=aN hg;omega)]
  .unfold GE;simp only[ax,EV,ai,aa,bK,O2]
  .have:l.findIdx? (λg=>decide (g=v))=some m:=by
    obtain⟨h1,h2⟩:=aD.1 h;rw[bD];refine⟨h1,by rw[h2];simp,λj hj e=>?_⟩;simp only[aa] at e;have:=dE.1 hn j m v (by rw[ah (sH hj h1),e]) h;omega
   rw[this];rfl
 exact an ⟨1001,key⟩
def gx (l:List PV)(i:Nat):PV:=l.getD i (.i64 0)
def Et {l:List PV}{i:Nat}(h:i<l.length):RF.ev (.cell i) [.agg l]=some (gx l i):=by
 show l[i]?=_
 unfold gx;rw[ah h,List.getD_eq_getElem?_getD,ah h];rfl
def f8 (c:Choice){i:Nat}(h1:1<=i)(h2:i<=50):RF.ev (.cell i) [CHO c]=some (gx (bg c) i):=Et (show i<51 by omega)
def kG (k:KHeap){i:Nat}(h:i<=11):RF.ev (.cell i) [KH k]=some (gx (khC k) i):=Et (show i<12 by omega)
def tX (k:KTourn){i:Nat}(h:i<=12):RF.ev (.cell i) [KT k]=some (gx (ktC k) i):=Et (show i<13 by omega)
def tY (k:Heater){i:Nat}(h:i<=12):RF.ev (.cell i) [HT k]=some (gx (htC k) i):=Et (show i<13 by omega)
section
variable (g:Int)(c:Choice)
def yY (k:KHeap):RF.ev .agg [.v (.int .u8 g),gx (khC k) 0,gx (khC k) 1,gx (khC k) 2,gx (khC k) 3,gx (khC k) 4,gx (khC k) 5,gx (khC k) 6,gx (khC k) 7,gx (khC k) 8,gx (khC k) 9,gx (khC k) 10,gx (khC k) 11,gx (bg c) 13,gx (bg c) 14,gx (bg c) 15,gx (bg c) 16,gx (bg c) 17,gx (bg c) 18,gx (bg c) 19,gx (bg c) 20,gx (bg c) 21,gx (bg c) 22,gx (bg c) 23,gx (bg c) 24,gx (bg c) 25,gx (bg c) 26,gx (bg c) 27,gx (bg c) 28,gx (bg c) 29,gx (bg c) 30,gx (bg c) 31,gx (bg c) 32,gx (bg c) 33,gx (bg c) 34,gx (bg c) 35,gx (bg c) 36,gx (bg c) 37,gx (bg c) 38,gx (bg c) 39,gx (bg c) 40,gx (bg c) 41,gx (bg c) 42,gx (bg c) 43,gx (bg c) 44,gx (bg c) 45,gx (bg c) 46,gx (bg c) 47,gx (bg c) 48,gx (bg c) 49,gx (bg c) 50]=some (CHO ⟨g,k,c.tourn,c.heater,c.hanger⟩):=rfl
def yZ (k:KTourn):RF.ev .agg [.v (.int .u8 g),gx (bg c) 1,gx (bg c) 2,gx (bg c) 3,gx (bg c) 4,gx (bg c) 5,gx (bg c) 6,gx (bg c) 7,gx (bg c) 8,gx (bg c) 9,gx (bg c) 10,gx (bg c) 11,gx (bg c) 12,gx (ktC k) 0,gx (ktC k) 1,gx (ktC k) 2,gx (ktC k) 3,gx (ktC k) 4,gx (ktC k) 5,gx (ktC k) 6,gx (ktC k) 7,gx (ktC k) 8,gx (ktC k) 9,gx (ktC k) 10,gx (ktC k) 11,gx (ktC k) 12,gx (bg c) 26,gx (bg c) 27,gx (bg c) 28,gx (bg c) 29,gx (bg c) 30,gx (bg c) 31,gx (bg c) 32,gx (bg c) 33,gx (bg c) 34,gx (bg c) 35,gx (bg c) 36,gx (bg c) 37,gx (bg c) 38,gx (bg c) 39,gx (bg c) 40,gx (bg c) 41,gx (bg c) 42,gx (bg c) 43,gx (bg c) 44,gx (bg c) 45,gx (bg c) 46,gx (bg c) 47,gx (bg c) 48,gx (bg c) 49,gx (bg c) 50]=some (CHO ⟨g,c.heap,k,c.heater,c.hanger⟩):=rfl
def y6 (k:Heater):RF.ev .agg [.v (.int .u8 g),gx (bg c) 1,gx (bg c) 2,gx (bg c) 3,gx (bg c) 4,gx (bg c) 5,gx (bg c) 6,gx (bg c) 7,gx (bg c) 8,gx (bg c) 9,gx (bg c) 10,gx (bg c) 11,gx (bg c) 12,gx (bg c) 13,gx (bg c) 14,gx (bg c) 15,gx (bg c) 16,gx (bg c) 17,gx (bg c) 18,gx (bg c) 19,gx (bg c) 20,gx (bg c) 21,gx (bg c) 22,gx (bg c) 23,gx (bg c) 24,gx (bg c) 25,gx (htC k) 0,gx (htC k) 1,gx (htC k) 2,gx (htC k) 3,gx (htC k) 4,gx (htC k) 5,gx (htC k) 6,gx (htC k) 7,gx (htC k) 8,gx (htC k) 9,gx (htC k) 10,gx (htC k) 11,gx (htC k) 12,gx (bg c) 39,gx (bg c) 40,gx (bg c) 41,gx (bg c) 42,gx (bg c) 43,gx (bg c) 44,gx (bg c) 45,gx (bg c) 46,gx (bg c) 47,gx (bg c) 48,gx (bg c) 49,gx (bg c) 50]=some (CHO ⟨g,c.heap,c.tourn,k,c.hanger⟩):=rfl
def y7 (k:KHeap):RF.ev .agg [.v (.int .u8 g),gx (bg c) 1,gx (bg c) 2,gx (bg c) 3,gx (bg c) 4,gx (bg c) 5,gx (bg c) 6,gx (bg c) 7,gx (bg c) 8,gx (bg c) 9,gx (bg c) 10,gx (bg c) 11,gx (bg c) 12,gx (bg c) 13,gx (bg c) 14,gx (bg c) 15,gx (bg c) 16,gx (bg c) 17,gx (bg c) 18,gx (bg c) 19,gx (bg c) 20,gx (bg c) 21,gx (bg c) 22,gx (bg c) 23,gx (bg c) 24,gx (bg c) 25,gx (bg c) 26,gx (bg c) 27,gx (bg c) 28,gx (bg c) 29,gx (bg c) 30,gx (bg c) 31,gx (bg c) 32,gx (bg c) 33,gx (bg c) 34,gx (bg c) 35,gx (bg c) 36,gx (bg c) 37,gx (bg c) 38,gx (khC k) 0,gx (khC k) 1,gx (khC k) 2,gx (khC k) 3,gx (khC k) 4,gx (khC k) 5,gx (khC k) 6,gx (khC k) 7,gx (khC k) 8,gx (khC k) 9,gx (khC k) 10,gx (khC k) 11]=some (CHO ⟨g,c.heap,c.tourn,c.heater,k⟩):=rfl
end
def Eu {c:Choice}(hg:gCh c=false):ChW c:=by
 obtain⟨g1,g2,g3,g4⟩:=sQ hg;obtain⟨b1,b2,b3⟩:=tV g2;have hh:=AM g3;exact⟨Eg g1,⟨yO b1,by omega,by omega⟩,⟨yO hh.1,by have:=hh.2;omega⟩,Eg g4⟩
section
variable {c:Choice}{t:Rt}
open Classical in
def n8:decide ((8:Int)=0)=false:=rfl
def n2:decide ((2:Int)=0)=false:=rfl
end
end Go.Proofs.YtfghdmmapmdcgaaGreat
