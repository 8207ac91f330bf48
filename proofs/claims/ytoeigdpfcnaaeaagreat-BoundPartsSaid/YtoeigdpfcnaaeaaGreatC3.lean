import Derived.Test.YtoeigdpfcnaaeaaGreatC2
import Derived.Test.YtoeigdpfcnaaeaaGreatP1
set_option linter.unusedVariables false
set_option linter.unusedSimpArgs false
set_option linter.defProp false
noncomputable section
namespace Go.Proofs.YtoeigdpfcnaaeaaGreat
open Go.Sym Bnd
set_option maxRecDepth 100000
def EU {l:List Pt}{t:Rt}(h:okF l)(ht:aQ t){N:Nat}{f0:JT}{e0 e1 e2:PV}{b:Nat}(hb:b<=l.length):∀(m i:Nat) (best:Option Nat) (n:Nat),i+m=b->m<n->(∀k,best=some k->k<i)->
  dW (bL D) (N+1) xr [f0] [e0,e1,e2,.i64 (b:Int),F l,R t] n [.i64 (lk best),.i64 (i:Int)]=f0 [.i64 (lk (o9 (ldF t l) m i best))]
 |0,i,best,n,hi,hn,_=>by
  obtain⟨n,rfl⟩:∃n',n=n'+1:=⟨n-1,by omega⟩;rw[bC];unfold xr o9;simp only[EV,aa];rw[ac (by omega)]
 |m+1,i,best,n,hi,hn,hbest=>by
  obtain⟨n,rfl⟩:∃n',n=n'+1:=⟨n-1,by omega⟩;have hl:=h.1;obtain⟨p,hp⟩:∃p,l[i]?=some p:=⟨l[i]'(by omega),ah _⟩;have ih:=λbest' hb'=>EU h ht (N:=N) (f0:=f0) (e0:=e0) (e1:=e1) (e2:=e2) hb m (i+1) best' n (by omega) (by omega) hb';rw[bC];generalize hkk:xr=kk at ih;subst hkk;unfold xr o9;have u1:=up1 (show i<1000000000 by omega)
  simp[EV];rw[ad (by omega)];cases best with
  |none=>
   have ih:=ih (some i) (λk hk=>by simp at hk;omega);simp only[lk] at ih;simp[EV,Hy,AX,u1];exact ih
  |some q=>
   have hq:q<i:=hbest q rfl;obtain⟨r,hr⟩:∃r,l[q]?=some r:=⟨l[q]'(by omega),ah _⟩;have g0:decide ((q:Int)<0)=false:=ak (by omega);simp[lk,EV,cG,aX hp (cq _),aM hp,aX hr (cq _),aM hr,gJ,phi (ED (dH h hp) (dH h hr) ht),<-ym hp hr,Hy];cases hL:ldF t l i q with
   |true=>
    have ih:=ih (some i) (λk hk=>by simp only[bY] at hk;omega);simp only[lk] at ih;simp only[az,EV,AX,u1];exact ih
   |false=>
    have ih:=ih (some q) (λk hk=>by simp only[bY] at hk;omega);simp only[lk] at ih;simp only[aw,ax,EV,AX,u1];exact ih
def afW {l:List Pt}{t:Rt}(h:okF l)(ht:aQ t){a b:Nat}(hab:a<=b)(hb:b<=l.length):Ans D 391 [F l,R t,.i64 (a:Int),.i64 (b:Int)] [.i64 (lk (wj (ldF t l) a b))]:=by
 have hl:=h.1;refine an ⟨1001,?_⟩;unfold abM;simp[bv,bm,EV];refine(EU h ht (N:=1000) hb (b-a) a none 1001 (by omega) (by omega) (by simp)).trans ?_;rfl
def adn {l:List Nod}{i:Nat}{n:Nod}(h:l[i]?=some n)(r:Int):RF.ev (.set 1) [sl dD l,.v (.int .i64 (i:Int)),.v (.int .i64 r)]=some (sl dD (l.set i ⟨n.id,r,n.right⟩)):=by
 rw[yP,ad (by omega),aF,a8,h];exact aW (λx=>some (PV.sl x)) (oy (f:=dD) (l:=l) (i:=i) (a:=⟨n.id,r,n.right⟩)).symm
def Rp {l:List Pt}{lk:List (Int×Int)}{e:Nat}{p:Pt}{x:Int×Int}{r:Int}(hp:l[e]?=some p)(hx:lk[e]?=some x):(mkN l lk).set e ⟨p.id,r,x.2⟩=mkN l (lk.modify e λx=>(r,x.2)):=by
 refine cU λk=>?_;by_cases hk:k<l.length/\ k<lk.length
 .have h1:=ah hk.1;have h2:=ah hk.2;by_cases e':k=e
  .subst e';rw[bj (by simp[mkN];omega)];rw[ky hp (x:=(r,x.2)) (by rw[gi,hx];rfl)]
  .rw[bw (by omega),ky h1 h2,ky h1 (x:=lk[k]) (by rw[eB _ _ (by omega)];exact h2)]
 .rw[bF (by simp[mkN];omega),bF (by simp[mkN];omega)]
def vt {ld:Nat->Nat->Bool}:∀(f a b:Nat) (l:List (Int×Int)),(grow ld f a b l).1.length=l.length
 |0,_,_,_=>rfl
 |f+1,a,b,l=>by
  unfold grow;split
  .rfl
  .simp[vt f]
def Ni {ld:Nat->Nat->Bool}{f a b:Nat}{l:List (Int×Int)}(e:wj ld a b=none):grow ld (f+1) a b l=(l,-1):=by
 rw[grow];simp[e]
def Nj {ld:Nat->Nat->Bool}{f a b i:Nat}{l rl s:List (Int×Int)}{rr sr:Int}(e:wj ld a b=some i)(h1:grow ld f a i l=(rl,rr))(h2:grow ld f (i+1) b (rl.modify i λx=>(rr,x.2))=(s,sr)):grow ld (f+1) a b l=(s.modify i λx=>(x.1,sr),(i:Int)):=by
 rw[grow];simp[e,h1,h2]
def afX (l:List Nod):RF.ev .len [sl dD l]=some (.i64 (l.length:Int)):=by
 rw[UX,ai]
def T0:PV:=TR ⟨0,[]⟩
def cT0:RF.ev (.cell 0) [T0]=some (.i64 0):=rfl
def afY:RF.ev (.shape 2) [T0]=some T0:=rfl
def Xj:RF.ev .agg [.v (.int .i64 0),.sl []]=some T0:=rfl
def Rq {l:List Pt}{t:Rt}(h:okF l)(ht:aQ t):∀(f a b:Nat) (ks:List (Int×Int)),b-a<f->a<=b->b<=l.length->ks.length=l.length->
  Ans D 321 [F l,R t,T0,.i64 (a:Int),.i64 (b:Int),sl dD (mkN l ks)] [.i64 (grow (ldF t l) f a b ks).2,sl dD (mkN l (grow (ldF t l) f a b ks).1)]
 |0,a,b,ks,hf,_,_,_=>by omega
 |f+1,a,b,ks,hf,hab,hb,hk=>by
  have hl:=h.1;have ht1:=IU (fK (t:=t) h.2.2) hb hab;refine am ?_;unfold aaW;simp only[afY,bv,bm,EV,ai,phi (afW h ht hab hb),gq l ks (by omega),hk];cases e:wj (ldF t l) a b with
  |none=>
   rw[Ni e];simp only[lk,EV,He];rw[ac (by decide)]
  |some i=>
   rw[e] at ht1;rcases ht1 with⟨_,t1⟩|⟨k,t1,t2⟩
   .simp[lk] at t1
   have hik:i=k:=by simp[lk] at t1;omega
   subst hik;obtain⟨t3,t4,_⟩:=t2;have u1:=up1 (show i<1000000000 by omega)
   have hgl:=vt (ld:=ldF t l) f a i ks;have p1:=phi (Rq h ht f a i ks (by omega) t3 (by omega) hk);generalize hg1:grow (ldF t l) f a i ks=r at hgl p1;obtain⟨rl,rr⟩:=r;simp only at hgl p1;obtain⟨p,hp⟩:∃p,l[i]?=some p:=⟨l[i]'(by omega),ah _⟩;obtain⟨x,hx⟩:∃x,rl[i]?=some x:=⟨rl[i]'(by omega),ah _⟩;have s1:=adn (ky hp hx) rr;simp only at s1;rw[Rp hp hx] at s1;have hgl1:(rl.modify i λx=>(rr,x.2)).length=l.length:=by rw[dO];omega
   have p2:=phi (Rq h ht f (i+1) b _ (by omega) (by omega) hb hgl1);have hgl2:=vt (ld:=ldF t l) f (i+1) b (rl.modify i λx=>(rr,x.2));simp only[lk,EV,cT0,Xj,p1,ixM (show i<l.length by omega),s1,u1,p2]
   generalize hg2:grow (ldF t l) f (i+1) b (rl.modify i λx=>(rr,x.2))=s at hgl2 p2;obtain⟨sl',sr⟩:=s;simp only at hgl2;obtain⟨y,hy⟩:∃y,sl'[i]?=some y:=⟨sl'[i]'(by omega),ah _⟩;have s2:=TM (ky hp hy) sr;simp only at s2;rw[JN hp hy] at s2;rw[Nj e hg1 hg2];simp only[s2,He,EV];exact ad (aq (by omega))
def Nk {l:List Pt}{i:Nat}{p:Pt}(hp:l[i]?=some p):mkN l (List.replicate i (0,0))++[⟨p.id,0,0⟩]=mkN l (List.replicate (i+1) (0,0)):=by
 rw[List.replicate_succ'];exact B3 (x:=(0,0)) (by rw[aR];exact hp)
def afZ {l:List Pt}{t:Rt}(h:okF l)(ht:aQ t):Ans D 236 [F l,R t] [TR (cart t l)]:=by
 have hl:=h.1;refine an ⟨1001,?_⟩;unfold Z9;simp only[ay,bv,bm,EV];have e0:([PV.sl [],.v (.int .i64 0),.v (.int .i64 0)]:List PV)=[sl dD (mkN l (List.replicate 0 (0,0))),.i64 ((0:Nat):Int),.i64 ((0:Nat):Int)]:=by simp[mkN]
 rw[e0];refine(gj (m:=1001) (n:=l.length) (st:=λi=>[sl dD (mkN l (List.replicate i (0,0))),.i64 (i:Int),.i64 (i:Int)]) (fin:=some [TR (cart t l)]) (λi self hi=>?_) (λself=>?_) (by omega))
 .obtain⟨p,hp⟩:∃p,l[i]?=some p:=⟨l[i],ah _⟩;have ap:RF.ev (.app 24 3) [sl dD (mkN l (List.replicate i (0,0))),.v (.int .i64 (i:Int)),sl dD [⟨p.id,0,0⟩]]=some (sl dD (mkN l (List.replicate (i+1) (0,0)))):=by
   have:=gn (f:=dD) (l:=mkN l (List.replicate i (0,0))) (k:=[⟨p.id,0,0⟩]) (bytes:=24) (z:=3) (by rw[gq _ _ (by rw[aR];omega),aR];simp;omega) nN;rw[gq _ _ (by rw[aR];omega),aR] at this;rw[this,Nk hp]
  unfold GJ;simp only[ay,cG,EV,ai,aa,bi hi,aX hp (cq _),aM hp,sC,Rm,bsN,Lh,ap,afX,gq l (List.replicate (i+1) ((0:Int),(0:Int))) (by rw[aR];omega),aR,up1 (show i<1000000000 by omega)]
 .have p1:=phi (Rq h ht (l.length+1) 0 l.length (List.replicate l.length (0,0)) (by omega) (by omega) (aB _) (by rw[aR]));have hgl:=vt (ld:=ldF t l) (l.length+1) 0 l.length (List.replicate l.length (0,0));rw[aR] at hgl;have L:=fK (t:=t) h.2.2;obtain⟨g1,g2,_,g4⟩:=qY L (l.length+1) 0 l.length (List.replicate l.length (0,0)) (by omega) (by rw[aR]) ⟨by omega,aB _,.inl rfl,.inl rfl⟩;have hu:=DC L (md L) ⟨g1,g2,λk x hx=>g4 k x (by omega) (by have:=aL hx;omega) hx⟩;have hs:=cp (f:=dD) (l:=mkN l (grow (ldF t l) (l.length+1) 0 l.length (List.replicate l.length (0,0))).1);rw[gq _ _ (by omega),hgl] at hs;unfold GJ;have ag:RF.ev .agg [.i64 (grow (ldF t l) (l.length+1) 0 l.length (List.replicate l.length (0,0))).2,sl dD (mkN l (grow (ldF t l) (l.length+1) 0 l.length (List.replicate l.length (0,0))).1)]=some (TR (cart t l)):=by
   rw[<-hu.1,<-hu.2];rfl
  simp only[fG] at p1;simp only[ay,cG,EV,ai,aa,bP,O9,Xj,p1,hs,ag]
def tS {l:List Pt}{t:Rt}(h:okF l):∀x∈(cmake (ldF t l) l.length).2.2,x.1<l.length/\ x.2<l.length:=λx hx=>by
 obtain⟨k,hk⟩:=aI.1 hx;have C:=md (fK (t:=t) h.2.2);obtain⟨a,b,⟨a1,_⟩,⟨b1,b2,_⟩,l1,l2⟩:=C.2.2 k x hk;constructor
 .rcases l1 with⟨_,l1⟩|⟨i,l1,t1,t2,_⟩
  .omega
  .have:=aL hk;have:=C.2.1;omega
 .rcases l2 with⟨_,l2⟩|⟨i,l2,t1,t2,_⟩<;>omega
def rq {l:List Pt}{t:Rt}(h:okF l):(cart t l).nodes.length=l.length:=by
 unfold cart;have hlen:=(iD (fK (t:=t) h.2.2) l.length (by omega)).len;rw[gq _ _ (by omega)];exact hlen
def qA {l:List Pt}{t:Rt}(h:okF l){i k:Nat}{x:Nod}(hx:(cart t l).nodes[k]?=some x)(hc:nodC i x=true):Below (cmake (ldF t l) l.length).2.2 i k:=by
 have hk:=aL hx;rw[rq h] at hk;have hlen:=(iD (fK (t:=t) h.2.2) l.length (by omega)).len;obtain⟨y,hy⟩:∃y,(cmake (ldF t l) l.length).2.2[k]?=some y:=⟨_,ah (by omega)⟩;obtain⟨n,a1,a2,a3,_⟩:=jV h hy;refine⟨y,hy,?_⟩;unfold nodC at hc
 grind
def oP {l:List Pt}{t:Rt}(h:okF l):DW (cart t l).nodes:=λi k k' x x' h1 h2 h3 h4=>
 BF (fK (t:=t) h.2.2) (md (fK (t:=t) h.2.2)) (qA h h1 h2) (qA h h3 h4)
def qS {l:List Pt}{t:Rt}(h:okF l){i:Nat}{p:Pt}(hp:l[i]?=some p):tu (cart t l).nodes i=p.id:=by
 have hlen:=(iD (fK (t:=t) h.2.2) l.length (by omega)).len;have:=aL hp;obtain⟨y,hy⟩:∃y,(cmake (ldF t l) l.length).2.2[i]?=some y:=⟨_,ah (by omega)⟩;obtain⟨n,a1,a2,a3,q,hq,e⟩:=jV h hy;rw[ro a1,e,hp.symm.trans hq|>k9]
def C5 {l:List Nod}{n:Nat}{e:Crt}(h:e∈edgsT l n):∃i k,i<n/\ l.findIdx? (nodC i)=some k/\ e=⟨tu l i,tu l k⟩:=by
 obtain⟨i,hi,he⟩:=np.1 h;unfold tv at he
 grind
def fU {l:List Pt}{t:Rt}(h:okF l){e:Crt}(he:e∈edgsT (cart t l).nodes l.length):inF l e.low=true/\ inF l e.high=true/\ leads t (be l e.high) (be l e.low)=true:=by
 obtain⟨i,k,hi,hf,rfl⟩:=C5 he;obtain⟨hk,hc,_⟩:=bU.1 hf;have hb:=qA h (ah hk) hc;rw[rq h] at hk;have hp:=ah hi;have hq:=ah hk;obtain⟨hl,_⟩:=tJ (fK (t:=t) h.2.2) (md (fK (t:=t) h.2.2)) hb;rw[ym hq hp] at hl;rw[qS h hp,qS h hq,gK h hp,gK h hq];exact⟨gl.2 (bf.2 ⟨_,au hp,rfl⟩),gl.2 (bf.2 ⟨_,au hq,rfl⟩),hl⟩
def qB {l:List Pt}{t:Rt}(h:okF l):∀n,n<=l.length->(edgsT (cart t l).nodes n).Nodup
 |0,_=>by simp[edgsT]
 |n+1,hn=>by
  rw[qz];have ih:=qB (t:=t) h n (by omega);unfold tv;split
  .rw[eN];refine⟨ih,by simp,λa ha b hb e=>?_⟩;subst e;obtain⟨i,k,hi,hf,e⟩:=C5 ha;rw[b8] at hb;rw[e] at hb;simp at hb;have hp:=ah (show i<l.length by omega)
   have hq:=ah (show n<l.length by omega)
   rw[qS h hp,qS h hq] at hb;have:=jg h.2.2 hi hp hq;omega
  .rw[aZ];exact ih
def af0 {l:List Pt}{t:Rt}(h:okF l)(ht:aQ t):Ans D 143 [F l,R t] [TR (cart t l)]:=by
 refine am ?_;unfold Zp;simp[bv,bm,phi (afZ h ht),vd,EV]
def jI (k:Heater):Prop:=bD k.clock/\ cart k.clock.now k.clock.pts=k.tree/\ JustR k.clock (edgsT (cart k.clock.now k.clock.pts).nodes k.clock.pts.length)
def EW {k:Heater}(h:gHt k=false):gCl k.clock=false/\ k.tree.nodes.length<=70:=by
 unfold gHt at h
 grind
open Classical in
def c83 {k:Heater}(h64:fF k.clock)(hg:gHt k=false):Ans D 63 [HT k] [.i64 (okE (decide (jI k)))]:=by
 obtain⟨g1,g2⟩:=EW hg;have no:∀h:¬jI k,(some [PV.v (.int .i64 8)]:Option (List PV))=some [.i64 (okE (decide (jI k)))]:=λh=>by rw[ak h];rfl
 have pHT2:RF.ev (.part 2 1) [HT k]=some (F k.clock.pts):=rfl;have pHT0:RF.ev (.part 0 2) [HT k]=some (R k.clock.now):=rfl;refine an ⟨1001,?_⟩;unfold k83;simp only[ay,vk,pHT,EV,phi (K8 h64 g1),i8,aE,aj];by_cases h1:bD k.clock
 .have hF:=h1.2.1;have hl:=hF.1;have hnl:=rq (t:=k.clock.now) hF;rw[aq h1,ad rfl];simp only[ay,pHT,pHT2,pHT0,afl,vd,phi (af0 hF h64.1),phi (afo (s:=cart k.clock.now k.clock.pts) (t:=k.tree) (by omega)),EV,aE,aj];by_cases h2:cart k.clock.now k.clock.pts=k.tree
  .rw[ac (by simp[h2])];have hel:=jM (cart k.clock.now k.clock.pts).nodes k.clock.pts.length;have e178:=phi (afV (x:=cart k.clock.now k.clock.pts) (oP hF) (by omega));rw[hnl] at e178;simp only[ay,EV,e178,phi (Lf (c:=k.clock) (edges:=edgsT (cart k.clock.now k.clock.pts).nodes k.clock.pts.length) hF h64.1 (by omega) (by have:=gP g1;omega) (λe he=>⟨(fU hF he).1,(fU hF he).2.1⟩)),aE,aj];by_cases h3:JustR k.clock (edgsT (cart k.clock.now k.clock.pts).nodes k.clock.pts.length)
   .rw[ac (by simp[h3]),aq (show jI k from⟨h1,h2,h3⟩)];rfl
   .rw[ad h3];exact no (λh=>h3 h.2.2)
  .rw[ad h2];exact no (λh=>h2 h.2.1)
 .rw[ak h1,ac (by simp)];exact no (λh=>h1 h.1)
open Classical in
def c79 {k:Heater}(h64:fF k.clock)(hg:gHt k=false):Ans D 70 [HT k] [.i64 (okE (decide (jI k)))]:=by
 obtain⟨g1,g2⟩:=EW hg;have no:∀h:¬jI k,(some [PV.v (.int .i64 8)]:Option (List PV))=some [.i64 (okE (decide (jI k)))]:=λh=>by rw[ak h];rfl
 have pHT2:RF.ev (.part 2 1) [HT k]=some (F k.clock.pts):=rfl;have pHT0:RF.ev (.part 0 2) [HT k]=some (R k.clock.now):=rfl;have cHT11:RF.ev (.cell 11) [HT k]=some (.i64 k.tree.root):=rfl;have cHT12:RF.ev (.cell 12) [HT k]=some (sl dD k.tree.nodes):=rfl;have cc:=gP g1;refine an ⟨1001,?_⟩;unfold k79;simp only[ay,vk,pHT,EV,phi (Lc h64 g1),i8,aE,aj];by_cases h1:bD k.clock
 .have hF:=h1.2.1;have hl:=hF.1;have hnl:=rq (t:=k.clock.now) hF;have hel:=jM (cart k.clock.now k.clock.pts).nodes k.clock.pts.length;rw[aq h1,ad rfl];simp only[ay,pHT,pHT2,pHT0,cHT11,cHT12,W5,mT,vd,phi (ET hF h64.1 h1.1 (oP hF) (tS hF)),phi (afF (l:=(cart k.clock.now k.clock.pts).nodes) (k:=k.tree.nodes) (by omega)),EV,aE,aj];have hJ:=sD (c:=k.clock) h1.2.2.1 (qB (t:=k.clock.now) hF k.clock.pts.length (by omega)) (λe he=>(fU hF he).2.2);by_cases h2:(cart k.clock.now k.clock.pts).root=k.tree.root
  .rw[ac (by simp[h2])];by_cases h3:(cart k.clock.now k.clock.pts).nodes=k.tree.nodes
   .rw[ac (by simp[h3])];have h4:cart k.clock.now k.clock.pts=k.tree:=by
     generalize cart k.clock.now k.clock.pts=a at h2 h3;obtain⟨a,b⟩:=a;simp_all
    have hJ':jI k↔JustP k.clock (edgsT (cart k.clock.now k.clock.pts).nodes k.clock.pts.length):=⟨λh=>hJ.2 h.2.2,λh=>⟨h1,h4,hJ.1 h⟩⟩;have hd:decide (jI k)=decide (JustP k.clock (edgsT (cart k.clock.now k.clock.pts).nodes k.clock.pts.length)):=by
     rw[eu,aa,aa];exact hJ'
    rw[hd];clear hd hJ' hJ;generalize edgsT (cart k.clock.now k.clock.pts).nodes k.clock.pts.length=E at hel;simp only[ay,jx,EV,ai];by_cases c1:E.length=k.clock.certs.list.length
    .rw[ad (aq (by omega))];refine(cz (m:=1001) (l:=k.clock.certs.list) (p:=λh=>decide (h.cert∈E)) (st:=λi=>[.i64 (i:Int)]) (r:=some [.i64 8]) (fin:=some [.i64 0]) (λi a self ha _=>?_) (λ_ self=>?_) (by omega)).trans ?_
     .unfold LZ;simp only[ay,jx,aX ha (gL _),aM ha,lr,pHP,phi (wW (l:=E) a.cert (by omega)),EV,ai,aa,bi (aL ha),up1 (show i<1000000000 by have:=aL ha;omega),aE,aj]
      by_cases c2:a.cert∈E
      .rw[ac (by simp[c2]),ad c2]
      .rw[ad c2,ac c2];unfold Ed;simp only[EV];rfl
     .unfold LZ Uy Ed;simp only[EV,aa,bP];rfl
     .have:(k.clock.certs.list.all λh=>decide (h.cert∈E))=decide (JustP k.clock E):=by
       rw[eu,aa];unfold JustP;simp[c1]
      rw[this];cases decide (JustP k.clock E)<;>rfl
    .rw[ac (by simp;omega),show decide (JustP k.clock E)=false from ak (λh=>c1 h.1)]
     unfold Ed;simp only[EV];rfl
   .rw[ad h3];exact no (λh=>h3 (by rw[h.2.1]))
  .rw[ad h2];exact no (λh=>h2 (by rw[h.2.1]))
 .rw[ak h1,ac (by simp)];exact no (λh=>h1 h.1)
def mmX (a b:Int):RF.ev (.mm true) [.v (.int .i64 a),.v (.int .i64 b)]=some (.v (.int .i64 (max a b))):=rfl
def mmN (a b:Int):RF.ev (.mm false) [.v (.int .i64 a),.v (.int .i64 b)]=some (.v (.int .i64 (min a b))):=rfl
def dbl {i:Nat}(h:i<100000000):IntKind.i64.wrap (2*(i:Int))=((2*i:Nat):Int):=by rw[cI (by omega) (by omega)];omega
def up2 {i:Nat}(h:i<1000000000):IntKind.i64.wrap ((i:Int)+2)=((i+2:Nat):Int):=by rw[cI (by omega) (by omega)];rfl
def EX {i j:Nat}(h:j<=i)(k:i<1000000000):IntKind.i64.wrap ((i:Int)-(j:Int))=((i-j:Nat):Int):=by rw[cI (by omega) (by omega)];omega
def Lj {b:Brk}{i:Nat}(hi:i<b.wins.length+b.places.length)(hb:b.wins.length+b.places.length<=1000):Ans D 248 [BR b,.i64 (i:Int)] [.i64 (nodeV b.wins b.places i)]:=by
 refine am ?_;unfold aai;by_cases h:i<b.wins.length
 .obtain⟨x,hx⟩:∃x,b.wins[i]?=some x:=⟨_,ah h⟩;have w:IntKind.i64.wrap ((i:Int)-(b.wins.length:Int))=(i:Int)-(b.wins.length:Int):=cI (by omega) (by omega);simp only[nR,kF,EV,ai,w,aa,ac (show¬(0:Int)<=(i:Int)-(b.wins.length:Int) by omega),aX hx (cA _),aM hx,cQ,yS hx]
 .obtain⟨x,hx⟩:∃x,b.places[i-b.wins.length]?=some x:=⟨_,ah (by omega)⟩;simp[nR,kF,vb,EV,EX (show b.wins.length<=i by omega) (by omega),aX hx (cA _),aM hx,cQ,CM h hx]
def B4 {b:Brk}{i:Nat}(hi:i<b.wins.length+b.places.length)(hb:b.wins.length+b.places.length<=1000):Ans D 234 [BR b,.i64 (i:Int)] [.i64 (nodeV b.wins b.places i)]:=by
 refine am ?_;unfold Z7;by_cases h:i<b.wins.length
 .obtain⟨x,hx⟩:∃x,b.wins[i]?=some x:=⟨_,ah h⟩;simp only[nR,kF,EV,ai,aa,bi h,aX hx (cA _),aM hx,cQ,yS hx]
 .obtain⟨x,hx⟩:∃x,b.places[i-b.wins.length]?=some x:=⟨_,ah (by omega)⟩;simp only[nR,kF,vb,EV,ai,EX (show b.wins.length<=i by omega) (by omega),aa,ac (show¬(i:Int)<(b.wins.length:Int) by omega),aX hx (cA _),aM hx,cQ,CM h hx]
open Classical in
def af1 {l:List Int}(hl:l.length<=1000):Ans D 233 [sl I1 l] [.bool (decide (¬gV l))]:=by
 refine an ⟨1001,?_⟩;unfold Z6;simp only[EV];refine(eV (m:=1001) (n:=l.length) (P:=λi=>∀x,l[i]?=some x->0<=x->∀j,j<i->l[j]?≠some x) (st:=λi=>[.i64 (i:Int)]) (r:=some [.bool true]) (fin:=some [.bool false]) (λi self hi _=>?_) (λhall self=>?_) (by omega)).trans ?_
 .have hx:=eM hi;generalize nthI l i=x at hx;have hP:(∀x',l[i]?=some x'->0<=x'->∀j,j<i->l[j]?≠some x')↔(0<=x->∀j,j<i->l[j]?≠some x):=
   ⟨λh=>h x hx,λh x' e=>by rw[hx] at e;cases e;exact h⟩
  unfold GI;simp only[hP,EV,ai,aa,bi hi];refine(eV (m:=1001) (n:=i) (P:=λj=>0<=x->l[j]?≠some x) (st:=λi=>[.i64 (i:Int)]) (r:=some [.bool true]) (fin:=self [.i64 ((i+1:Nat):Int)]) (λj self' hj _=>?_) (λ_ self'=>?_) (by omega)).trans ?_
  .have hy:=eM (l:=l) (i:=j) (by omega);generalize nthI l j=y at hy;unfold GH;simp only[aX hx (cA _),aM hx,aX hy (cA _),aM hy,cQ,EV,aa,bi hj,bB,O8,up1 (show j<1000000000 by omega),hy,fg,bY]
   grind
  .unfold GH;simp only[EV,aa,bP,O7,up1 (show i<1000000000 by omega)]
  .by_cases hq:0<=x->∀j,j<i->l[j]?≠some x
   .rw[ad hq,ad (λj hj h0=>hq h0 j hj)]
   .rw[ac hq,ac (λh=>hq λh0 j hj=>h j hj h0)]
 .unfold GI;simp only[EV,ai,aa,bP,O6]
 .by_cases h:gV l
  .rw[ad (show∀i,i<l.length->_ from h),ak (by simpa using h)]
  .rw[ac (show¬∀i,i<l.length->_ from h),aq h]
def Bm (m:List (Int×Bool)):PV:= .sl (m.map λp=>[.i64 p.1]++[.bool p.2])
def mY:List (Int×Bool)->Int->Bool
 |[],_=>false
 |p::m,k=>if p.1=k then p.2 else mY m k
def ru:List (Int×Bool)->Int->Bool->List (Int×Bool)
 |[],k,v=>[(k,v)]
 |p::m,k,v=>if p.1=k then(p.1,v)::m else p::ru m k v
def EY (k j:Int)(v:Bool):∀m,mY (ru m k v) j=if j=k then v else mY m j
 |[]=>by simp[ru,mY];by_cases h:k=j<;>simp[eq_comm]
 |p::m=>by
  unfold ru;by_cases h:p.1=k
  .rw[ad h];unfold mY;by_cases h2:j=k
   .rw[ad h2,ad (by rw[h,h2])]
   .rw[ac h2,ac (by rw[h];exactλe=>h2 e.symm),ac (by rw[h];exactλe=>h2 e.symm)]
  .rw[ac h];unfold mY;rw[EY k j v m];by_cases h2:p.1=j
   .rw[ad h2,ad h2,ac (by rw[<-h2];exact h)]
   .rw[ac h2,ac h2]
def EZ (k:Int):∀m:List (Int×Bool),(dR [.i] [.i64 k] (m.map λp=>[.i64 p.1]++[.bool p.2])).map (λo=>o.getD [.bool false])=some [.bool (mY m k)]
 |[]=>by simp[dR,mY,eqN]
 |p::m=>by
  simp only[bQ,dR];rw[show List.take [Ck.i].length ([PV.i64 p.fst]++[PV.bool p.snd])=[PV.i64 p.fst] from rfl,show List.drop [Ck.i].length ([PV.i64 p.fst]++[PV.bool p.snd])=[PV.bool p.snd] from rfl,eqN]
  unfold mY;by_cases e:p.1=k
  .rw[aq e,ad e];rfl
  .rw[ak e,ac e];exact EZ k m
def E3 (k:Int)(v:Bool):∀m:List (Int×Bool),ji [.i] [.i64 k] [.bool v] (m.map λp=>[.i64 p.1]++[.bool p.2])=some ((ru m k v).map λp=>[.i64 p.1]++[.bool p.2])
 |[]=>by simp[ji,ru,eqN]
 |p::m=>by
  simp only[bQ,ji];rw[show List.take [Ck.i].length ([PV.i64 p.fst]++[PV.bool p.snd])=[PV.i64 p.fst] from rfl,eqN]
  unfold ru;by_cases e:p.1=k
  .rw[aq e,ad e];simp
  .rw[ak e,ac e];simp only;rw[E3 k v m];rfl
def ado (m:List (Int×Bool))(k:Int):RF.ev (.mget [.i] [.v (.bool false)]) [Bm m,.v (.int .i64 k)]=some (.bool (mY m k)):=by
 have h:=EZ k m;unfold Bm;simp only[RF.ev,show(PV.v (.int .i64 k)).cells=[.i64 k] from rfl]
 cases hg:dR [.i] [.i64 k] (m.map λp=>[.i64 p.1]++[.bool p.2]) with
 |none=>rw[hg] at h;cases h
 |some o=>
  rw[hg] at h;simp at h;cases o with
  |none=>simp only[Option.getD_none] at h;simp[h];rfl
  |some r=>simp at h;subst h;rfl
def TP (m:List (Int×Bool))(k:Int)(v:Bool):RF.ev (.mset [.i] 1) [Bm m,.v (.int .i64 k),.v (.bool v)]=some (Bm (ru m k v)):=by
 have h:=E3 k v m;unfold Bm;simp only[RF.ev,show(PV.v (.int .i64 k)).cells=[.i64 k] from rfl,show(PV.v (.bool v)).cells=[.bool v] from rfl,h]
 rfl
def mAt (l:List Int)(i:Nat):List (Int×Bool):=(l.take i).foldl (λm x=>ru m x (decide (0<=x))) [(-1,false)]
def C6:∀(l:List Int) (m:List (Int×Bool)) (k:Int),mY (l.foldl (λm x=>ru m x (decide (0<=x))) m) k=if k∈l then decide (0<=k) else mY m k
 |[],m,k=>by simp
 |x::l,m,k=>by
  rw[c6,C6 l,EY];by_cases h:k∈l
  .simp[h]
  .by_cases e:k=x
   .subst e;simp
   .simp[h,e]
def Vf {l:List Int}{i:Nat}{x:Int}(hx:l[i]?=some x):mY (mAt l i) x=decide (¬∀y,l[i]?=some y->0<=y->∀j,j<i->l[j]?≠some y):=by
 unfold mAt;rw[C6];have e1:(¬∀y,l[i]?=some y->0<=y->∀j,j<i->l[j]?≠some y)↔(x∈l.take i/\ 0<=x):=by
  constructor
  .intro h;simp only[Classical.not_forall,Classical.not_not,not_imp] at h;obtain⟨y,h1,h2,j,h3,h4⟩:=h;rw[hx] at h1;cases h1;exact⟨aI.2 ⟨j,by rw[gR,ad h3];exact h4⟩,h2⟩
  .rintro⟨h1,h2⟩ h;obtain⟨j,hj⟩:=aI.1 h1
   grind
 rw[show decide (¬∀y,l[i]?=some y->0<=y->∀j,j<i->l[j]?≠some y)=decide (x∈l.take i/\ 0<=x) from cD.2 e1]
 by_cases h:x∈l.take i
 .simp[h]
 .rw[ac h,ak (λe=>h e.1)];unfold mY mY;split<;>rfl
def Rr {l:List Int}{i:Nat}{x:Int}(hx:l[i]?=some x):ru (mAt l i) x (decide (0<=x))=mAt l (i+1):=by
 unfold mAt;rw[cC,hx]
 grind
open Classical in
def Xk {l:List Int}(hl:l.length<=1000):Ans D 245 [sl I1 l] [.bool (decide (gV l))]:=by
 refine an ⟨1001,?_⟩;unfold aah;have e0:RF.ev (.mset [.i] 1) [.sl [],.v (.int .i64 (-1)),.v (.bool false)]=some (Bm (mAt l 0)):=TP [] (-1) false;simp only[e0,EV,ai];refine(eV (m:=1001) (n:=l.length) (P:=λi=>∀x,l[i]?=some x->0<=x->∀j,j<i->l[j]?≠some x) (st:=λi=>[Bm (mAt l i),.i64 (i:Int)]) (r:=some [.bool false]) (fin:=some [.bool true]) (λi self hi _=>?_) (λhall self=>?_) (by omega)).trans ?_
 .have hx:=eM hi;generalize nthI l i=x at hx;unfold GV;simp only[aX hx (cA _),aM hx,cQ,EV,aa,bi hi,ado,Vf hx,bB,TP,Rr hx,up1 (show i<1000000000 by omega)]
  by_cases hq:∀y,l[i]?=some y->0<=y->∀j,j<i->l[j]?≠some y
  .grind
  .rw[aq hq,ac hq];simp_all
 .unfold GV Pf;simp only[EV,aa,bP];rfl
 .by_cases h:gV l
  .rw[ad (show∀i,i<l.length->_ from h),aq h]
  .rw[ac (show¬∀i,i<l.length->_ from h),ak h]
def wn {b:Brk}{i:Nat}(hi:i<b.wins.length):b.wins[i]?=some (nodeV b.wins b.places i):=by
 obtain⟨x,hx⟩:∃x,b.wins[i]?=some x:=⟨_,ah hi⟩;rw[hx,yS hx]
open Classical in
def af2 {b:Brk}(h1:b.places.length<=70)(h2:b.wins.length<=70):Ans D 152 [BR b] [.i64 (okE (decide (kI b.wins b.places)))]:=by
 have no:∀h:¬kI b.wins b.places,(some [PV.v (.int .i64 8)]:Option (List PV))=some [.i64 (okE (decide (kI b.wins b.places)))]:=λh=>by rw[ak h];rfl
 refine an ⟨1001,?_⟩;unfold ZA;have wp:IntKind.i64.wrap ((b.places.length:Int)-1)=(b.places.length:Int)-1:=cI (by omega) (by omega);simp only[ay,nR,vb,kF,EV,ai,wp,phi (Xk (l:=b.places) (by omega)),aa,aE,aj];by_cases a1:b.places.length<1
 .rw[ad (by omega)];exact no (λh=>by have:=h.1.1.1;omega)
 rw[ac (by omega)];by_cases a2:64<b.places.length
 .rw[ad (by omega)];exact no (λh=>by have:=h.1.1.2.1;omega)
 rw[ac (by omega)];by_cases a3:b.places.length=b.wins.length+1
 rotate_left
 .rw[ad (by omega)];exact no (λh=>a3 h.1.1.2.2)
 rw[ac (by omega)];by_cases a4:gV b.places
 rotate_left
 .rw[ad (by simpa using a4)]
  exact no (λh=>a4 h.1.2.1)
 rw[ac (by simpa using a4)]
 refine(cz (m:=1001) (l:=b.places) (p:=λx=>decide (-1<=x)&& decide (x<=65535)) (st:=λi=>[.i64 (i:Int)]) (r:=some [.i64 8]) (fin:=some [.i64 (okE (decide (kI b.wins b.places)))]) (λi x self hx _=>?_) (λhall self=>?_) (by omega)).trans ?_
 .unfold Gb;simp only[ay,vb,EV,aa,bi (aL hx),aX hx (cA _),aM hx,cQ];have u1:=up1 (show i<1000000000 by have:=aL hx;omega)
  have g0:decide ((i:Int)>=0)=true:=aq (by omega);by_cases c1: -1<=x
  .rw[ad (by omega)];by_cases c2:x<=65535
   .simp only[AP,EV,c1,c2,aA,aJ,aw,ax,u1,gb,az]
   .simp only[AP,EV,c1,c2,aA,aY,aJ,bZ,aw,ax,az,g0,uM]
  .rw[ac (by omega)];simp only[AP,EV,c1,aY,bZ,aJ,az,g0,uN,aw,ax]
 .have hbase:rc b.wins b.places:=⟨⟨by omega,by omega,a3⟩,a4,λx hx=>by have:=aS.1 hall x hx;simp at this;omega⟩;unfold Gb;simp only[ay,kF,EV,ai,aa,bP,Oz,aJ,bZ,aw,ax,show decide ((-1:Int)>=0)=false from rfl]
  refine(eV (m:=1001) (n:=b.wins.length) (P:=λi=>om b.wins b.places i/\¬(nodeV b.wins b.places i<0/\ 0<=max (nodeV b.wins b.places (2*i+1)) (nodeV b.wins b.places (2*i+2)))) (st:=λi=>[.i64 (i:Int)]) (r:=some [.i64 8]) (fin:=some [.i64 0]) (λi self hi _=>?_) (λ_ self=>?_) (by omega)).trans ?_
  .have hx:=wn hi;unfold Ga om;simp only[ay,kF,EV,aa,bi hi,aX hx (cA _),aM hx,cQ,dbl (show i<100000000 by omega),up1 (show 2*i<1000000000 by omega),up2 (show 2*i<1000000000 by omega),phi (Lj (b:=b) (i:=2*i+1) (by omega) (by omega)),phi (Lj (b:=b) (i:=2*i+2) (by omega) (by omega)),mmX,bB,Oy,up1 (show i<1000000000 by omega),aE,aj]
   generalize nodeV b.wins b.places i=w;generalize nodeV b.wins b.places (2*i+1)=p;generalize nodeV b.wins b.places (2*i+2)=q;by_cases c1:w=p
   .by_cases c3:w<0
    .by_cases c4:0<=max p q<;>simp[c1,c3,c4]
     all_goals (subst c1;simp[c3,c4]<;>intro h<;>omega)
    .simp[c1,c3];subst c1;simp[c3]
   .by_cases c2:w=q
    .by_cases c3:w<0
     .by_cases c4:0<=max p q<;>simp[c1,c2,c3,c4]
      all_goals (subst c2;simp[c1,c3,c4]<;>intro h<;>omega)
     .simp[c1,c2,c3];subst c2;simp[c1,c3]
    .simp[c1,c2]
  .unfold Ga;simp only[EV,aa,bP,Ox]
  .by_cases hr:kI b.wins b.places
   .rw[ad hr.2,aq hr];rfl
   .rw[ac (λh=>hr ⟨hbase,h⟩),ak hr];rfl
 .by_cases hr:kI b.wins b.places
  .rw[ad (by rw[aS];intro x hx;have:=hr.1.2.2 x hx;simp;omega)]
  .split
   .rfl
   .exact no hr
open Classical in
def af3 {b:Brk}(h1:b.places.length<=70)(h2:b.wins.length<=70):Ans D 137 [BR b] [.i64 (okE (decide (kI b.wins b.places)))]:=by
 rw[show decide (kI b.wins b.places)=decide (zT b.wins b.places) from cD.2 Tj]
 have no:∀h:¬zT b.wins b.places,(some [PV.v (.int .i64 8)]:Option (List PV))=some [.i64 (okE (decide (zT b.wins b.places)))]:=λh=>by rw[ak h];rfl
 refine an ⟨1001,?_⟩;unfold Zj;have wp:IntKind.i64.wrap ((b.places.length:Int)-1)=(b.places.length:Int)-1:=cI (by omega) (by omega);simp only[ay,nR,vb,kF,EV,ai,wp,phi (af1 (l:=b.places) (by omega)),aa,aE,aj];by_cases a1:b.places.length<1
 .rw[ad (by omega)];exact no (λh=>by have:=h.1.1.1;omega)
 rw[ac (by omega)];by_cases a2:64<b.places.length
 .rw[ad (by omega)];exact no (λh=>by have:=h.1.1.2.1;omega)
 rw[ac (by omega)];by_cases a3:b.places.length=b.wins.length+1
 rotate_left
 .rw[ad (by omega)];exact no (λh=>a3 h.1.1.2.2)
 rw[ac (by omega)];by_cases a4:gV b.places
 rotate_left
 .rw[ad a4];exact no (λh=>a4 h.1.2.1)
 rw[ac (by simpa using a4)]
 refine(cz (m:=1001) (l:=b.places) (p:=λx=>decide (-1<=x)&& decide (x<=65535)) (st:=λi=>[.i64 (i:Int)]) (r:=some [.i64 8]) (fin:=some [.i64 (okE (decide (zT b.wins b.places)))]) (λi x self hx _=>?_) (λhall self=>?_) (by omega)).trans ?_
 .unfold FS;simp only[ay,vb,EV,aa,bi (aL hx),aX hx (cA _),aM hx,cQ,up1 (show i<1000000000 by have:=aL hx;omega)]
  by_cases c1:x< -1
  .rw[ad c1,ac (by simp;omega)]
  .rw[ac c1];by_cases c2:65535<x
   .rw[ad c2,ac (by simp;omega)]
   .rw[ac c2,ad (by simp;omega)]
 .have hbase:rc b.wins b.places:=⟨⟨by omega,by omega,a3⟩,a4,λx hx=>by have:=aS.1 hall x hx;simp at this;omega⟩;unfold FS;simp only[EV,aa,bP,Of];refine(eV (m:=1001) (n:=b.wins.length) (P:=λi=>om b.wins b.places i/\¬(nodeV b.wins b.places i= -1/\(nodeV b.wins b.places (2*i+1)≠ -1\/nodeV b.wins b.places (2*i+2)≠ -1))) (st:=λi=>[.i64 (i:Int)]) (r:=some [.i64 8]) (fin:=some [.i64 0]) (λi self hi _=>?_) (λ_ self=>?_) (by omega)).trans ?_
  .have hx:=wn hi;unfold FR om;simp only[ay,kF,EV,ai,aa,bi hi,aX hx (cA _),aM hx,cQ,dbl (show i<100000000 by omega),up1 (show 2*i<1000000000 by omega),up2 (show 2*i<1000000000 by omega),phi (B4 (b:=b) (i:=2*i+1) (by omega) (by omega)),phi (B4 (b:=b) (i:=2*i+2) (by omega) (by omega)),Oe,up1 (show i<1000000000 by omega),aE,aj]
   generalize nodeV b.wins b.places i=w;generalize nodeV b.wins b.places (2*i+1)=p;generalize nodeV b.wins b.places (2*i+2)=q;by_cases c1:w=p
   .by_cases c3:w= -1
    .by_cases c4:p= -1
     .by_cases c5:q= -1<;>simp[c1,c3,c4,c5]
     .omega
    .simp only[c1,c3];subst c1;simp[c3]
   .by_cases c2:w=q
    .by_cases c3:w= -1
     .subst c3;subst c2;simp[c1,Ne.symm c1]
     .subst c2;simp[c1,c3]
    .simp[c1,c2]
  .unfold FR;simp only[ay,kF,EV,ai,aa,bP,Od]
  .by_cases hr:zT b.wins b.places
   .rw[ad hr.2,aq hr];rfl
   .rw[ac (λh=>hr ⟨hbase,h⟩),ak hr];rfl
 .by_cases hr:zT b.wins b.places
  .rw[ad (by rw[aS];intro x hx;have:=hr.1.2.2 x hx;simp;omega)]
  .split
   .rfl
   .exact no hr
def dY (l:List Pt)(x:Int):Prop:=x= -1\/inF l x=true
def wonI (t:Rt)(l:List Pt)(a b:Int):Int:=if a<0 then b else if b<0 then a else if leads t (be l a) (be l b)=true then a else b
def E4 {t:Rt}{l:List Pt}(a b:Int)(ha:dY l a)(hb:dY l b):dY l (wonI t l a b):=by
 unfold wonI;split
 .exact hb
 .grind
def valK_in {l:List Pt}(h:okF l){x:Int}(hv:dY l x):x= -1\/∃(i:Nat) (p:Pt),l[i]?=some p/\ p.id=x/\ pos l x=(i:Nat)/\ be l x=p/\ 0<=x:=by
 rcases hv with e|e
 .exact .inl e
 .obtain⟨i,p,h1,h2,h3,h4⟩:=ea h e;exact .inr ⟨i,p,h1,h2,h3,h4,by rw[<-h2];exact(lV h p (au h1)).1⟩
open Classical in
def af4 {l:List Pt}{pl:List Int}(hl:l.length<=1000)(hp:pl.length<=1000):Ans D 139 [F l,sl I1 pl] [.bool (decide (∀x∈pl,dY l x))]:=by
 refine an ⟨1001,?_⟩;unfold Zl;simp[bv,EV];refine(cz (m:=1001) (l:=pl) (p:=λx=>decide (dY l x)) (st:=λi=>[.i64 (i:Int)]) (r:=some [.bool false]) (fin:=some [.bool true]) (λi x self hx _=>?_) (λhall self=>?_) (by omega)).trans ?_
 .unfold FV;simp[EV,aX hx (cA _),aM hx,cQ,phi (tf hl x),Oi,up1 (show i<1000000000 by have:=aL hx;omega)]
  unfold dY inF
  grind
 .unfold FV;simp only[EV,ai,aa,bP,Oh]
 .grind
open Classical in
def af5 {l:List Pt}{pl:List Int}(h:okF l)(hp:pl.length<=1000):Ans D 342 [F l,sl I1 pl] [.bool (decide (∀x∈pl,dY l x))]:=by
 refine an ⟨1001,?_⟩;unfold abd;simp only[ay,bv,EV,ai];refine(cz (m:=1001) (l:=pl) (p:=λx=>decide (dY l x)) (st:=λi=>[.i64 (i:Int)]) (r:=some [.bool false]) (fin:=some [.bool true]) (λi x self hx _=>?_) (λhall self=>?_) (by omega)).trans ?_
 .have u1:=up1 (show i<1000000000 by have:=aL hx;omega)
  unfold Hj;rcases has_cases l x with hn|⟨j,p,hj,rfl⟩
  .obtain⟨P,hP⟩:=ac5 h hn;have hf:inF l x=false:=by
    unfold inF;rcases pos_cases l x with⟨e,_⟩|⟨i,p,h1,h2,_⟩
    .rw[e];rfl
    .grind
   simp only[ay,EV,aa,bi (aL hx),aX hx (cA _),aM hx,cQ,phi hP,aw,ax,Hi,u1];unfold dY;simp_all
  .have hf:inF l p.id=true:=gl.2 (bf.2 ⟨p,au hj,rfl⟩);simp only[ay,EV,aa,bi (aL hx),aX hx (cA _),aM hx,cQ,phi (Q9 h hj),az,Hi,u1];unfold dY;rw[hf];simp
 .unfold Hj PH;simp only[EV,aa,bP];rfl
 .by_cases h:∀x∈pl,dY l x
  .rw[ad (by simpa using h),aq h]
  .rw[ac (by simpa using h),ak h]
def af6 {l:List Pt}{t:Rt}(h:okF l)(ht:aQ t)(hr:rok t=true):Ans D 341 [F l,R t] [.i64 0]:=by
 have h1:=phi (te l);rw[eL.2 h] at h1;have h2:=phi (c43 ht);rw[hr] at h2;have e0:okE true=0:=rfl;rw[e0] at h2;refine am ?_;unfold abc;simp[bv,bm,EV,h1,h2]
def af7 {l:List Pt}{t:Rt}(h:okF l)(ht:aQ t)(hr:rok t=true){a b:Int}(ha:dY l a)(hb:dY l b):Ans D 343 [F l,R t,.i64 a,.i64 b] [.i64 (wonI t l a b)]:=by
 refine am ?_;unfold abe wonI;rcases valK_in h ha with e|⟨i,p,p1,p2,p3,p4,p5⟩
 .rcases valK_in h hb with e'|⟨j,q,q1,q2,q3,q4,q5⟩
  .subst e;subst e';simp only[ay,bv,bm,mmN,mmX,EV];rfl
  .subst e;simp only[ay,bv,bm,mmN,mmX,EV,aa,ad (show min (-1) b<0 by omega),ad (show(-1:Int)<0 by omega),show max (-1) b=b by omega]
 .rcases valK_in h hb with e'|⟨j,q,q1,q2,q3,q4,q5⟩
  .subst e';simp only[ay,bv,bm,mmN,mmX,EV,aa,ad (show min a (-1)<0 by omega),ac (show¬a<0 by omega),ad (show(-1:Int)<0 by omega),show max a (-1)=a by omega]
  .have d1:=phi (Q9 h p1);have d2:=phi (Q9 h q1);rw[p2] at d1;rw[q2] at d2;have d3:∃e:Int,bL D 244 [PP p,PP q,R t]=some [.bool (leads t p q),.i64 e]:=by
    have:=phi (KQ (p:=p) (q:=q) ht);by_cases e:p.id=q.id
    .have:p=q:=(cW h.2.2).inj (au p1) (au q1) e;subst this;by_cases c:kB p p t=0
     .rw[ad c] at this;exact⟨_,this⟩
     .rw[ac c] at this;rw[sX];exact⟨_,this⟩
    .rw[ad (ln (dH h p1) (dH h q1) hr e)] at this;exact⟨_,this⟩
   obtain⟨e,d3⟩:=d3;simp only[ay,bv,bm,cG,mmN,mmX,EV,aa,ac (show¬min a b<0 by omega),ac (show¬a<0 by omega),ac (show¬b<0 by omega),d1,d2,aX p1 (cq _),aM p1,aX q1 (cq _),aM q1,gJ,d3,p4,q4]
   cases leads t p q<;>rfl
def af8 {l:List Pt}{t:Rt}(h:okF l)(ht:aQ t){a b:Int}(ha:dY l a)(hb:dY l b):Ans D 235 [F l,R t,.i64 a,.i64 b] [.i64 (wonI t l a b)]:=by
 have hl:=h.1;refine am ?_;unfold Z8 wonI;simp[bv,bm,EV];by_cases c1:a<0
 .grind
 rw[ac c1,ac c1];by_cases c2:b<0
 .grind
 rw[ac c2,ac c2];rcases valK_in h ha with e|⟨i,p,p1,p2,p3,p4,p5⟩
 .omega
 rcases valK_in h hb with e|⟨j,q,q1,q2,q3,q4,q5⟩
 .omega
 simp[cG,phi (tf (l:=l) (by omega) a),phi (tf (l:=l) (by omega) b),p3,q3,aX p1 (cq _),aM p1,aX q1 (cq _),aM q1,gJ,phi (ED (dH h p1) (dH h q1) ht),p4,q4,EV];split<;>rfl
open Classical in
def af9 {l:List Pt}{t:Rt}{pl:List Int}(h:okF l)(ht:aQ t)(hr:rok t=true)(h1:1<=pl.length)(h2:pl.length<=64)(hv:∀x∈pl,dY l x)(ho:gV pl):Ans D 251 [F l,R t,sl I1 pl] [BR ⟨pl,playD (wonI t l) pl (pl.length-1) (pl.length-1)⟩,.i64 0]:=by
 have wp:IntKind.i64.wrap ((pl.length:Int)-1)=((pl.length-1:Nat):Int):=by rw[cI (by omega) (by omega)];omega
 have e1:=phi (af5 h (pl:=pl) (by omega));rw[aq hv] at e1;have e2:=phi (Xk (l:=pl) (by omega));rw[aq ho] at e2;have rp:=BZ (n:=pl.length-1) (by omega);have agB:∀w:List Int,RF.ev .agg [sl I1 pl,sl I1 w]=some (BR ⟨pl,w⟩):=λw=>rfl;refine an ⟨1001,?_⟩;unfold aaj;simp only[ay,bv,bm,EV,phi (af6 h ht hr),ai,aA,aJ,aw,ax,aa,ac (show¬(pl.length:Int)<1 by omega),Pl,cw,ak (show¬(64:Int)<(pl.length:Int) by omega),e1,e2,Pi,Pj,Pk,Ph,phi (qg (l:=pl) (by omega)),wp,rp,aR]
 generalize hm:pl.length-1=m at*;have w1:IntKind.i64.wrap ((m:Int)-1)=(m:Int)-1:=cI (by omega) (by omega);rw[w1];have e0:([sl I1 (List.replicate m 0),PV.v (.int .i64 ((m:Int)-1))]:List PV)=[sl I1 (playD (wonI t l) pl m 0),.i64 ((m:Int)-1-((0:Nat):Int))]:=by
  simp[playD]
 rw[e0];refine(gj (m:=1001) (n:=m) (st:=λk=>[sl I1 (playD (wonI t l) pl m k),.i64 ((m:Int)-1-(k:Int))]) (λk self hk=>?_) (λself=>?_) (by omega))
 .obtain⟨i,hi⟩:∃i:Nat,m-1-k=i:=⟨_,rfl⟩;have hii:(m:Int)-1-(k:Int)=(i:Int):=by omega
  have hdn:IntKind.i64.wrap ((i:Int)-1)=(m:Int)-1-((k+1:Nat):Int):=by rw[cI (by omega) (by omega)];omega
  have hP:=CN (P:=dY l) (.inl rfl) (won:=wonI t l) (λa b=>E4 a b) hv k (by omega:k<=m);have hlen:=js (won:=wonI t l) (places:=pl) (m:=m) k;have hnx:playD (wonI t l) pl m (k+1)=(playD (wonI t l) pl m k).set i (wonI t l (nodeV (playD (wonI t l) pl m k) pl (2*i+1)) (nodeV (playD (wonI t l) pl m k) pl (2*i+2))):=by rw[<-hi];rfl
  rw[hnx];generalize playD (wonI t l) pl m k=w at hP hlen;have su:RF.ev .sub [sl I1 w,.v (.int .i64 0),.v (.int .i64 (m:Int))]=some (sl I1 w):=by rw[<-hlen];exact cp
  unfold GW;simp only[EV,hii,aa,bB,ad (show(0:Int)<=(i:Int) by omega),dbl (show i<100000000 by omega),up1 (show 2*i<1000000000 by omega),up2 (show 2*i<1000000000 by omega),cp,su,agB,ay,phi (Lj (b:=⟨pl,w⟩) (i:=2*i+1) (by simp only;omega) (by simp only;omega)),phi (Lj (b:=⟨pl,w⟩) (i:=2*i+2) (by simp only;omega) (by simp only;omega)),phi (af7 h ht hr (hP (2*i+1) (by omega)) (hP (2*i+2) (by omega))),ixM (show i<m by omega),iI (l:=w) (i:=i) (by omega),hdn]
 .have hlen:=js (won:=wonI t l) (places:=pl) (m:=m) m;generalize playD (wonI t l) pl m m=w at hlen;have su:RF.ev .sub [sl I1 w,.v (.int .i64 0),.v (.int .i64 (m:Int))]=some (sl I1 w):=by rw[<-hlen];exact cp
  unfold GW;simp only[EV,aa,bB,ac (show¬(0:Int)<=(m:Int)-1-(m:Int) by omega),Pg,cp,su,agB,ay]
def edB (w p:List Int)(i:Nat):List Crt:=if 0<=nodeV w p (2*i+1)/\ 0<=nodeV w p (2*i+2) then [⟨nodeV w p (2*i+1)+nodeV w p (2*i+2)-nodeV w p i,nodeV w p i⟩] else []
def edsB (w p:List Int)(n:Nat):List Crt:=(List.range n).flatMap (edB w p)
def sH (w p:List Int)(n:Nat):edsB w p (n+1)=edsB w p n++edB w p n:=by
 unfold edsB;rw[oz,kN];simp
def jW (w p:List Int):∀n,(edsB w p n).length<=n
 |0=>by simp[edsB]
 |n+1=>by
  have:=jW w p n;rw[sH,aC];unfold edB;split<;>simp<;>omega
def rv {l:List Pt}(h:okF l){x:Int}(hv:dY l x): -1<=x/\ x<=65535:=by
 rcases valK_in h hv with e|⟨i,p,p1,p2,_⟩
 .omega
 .have:=lV h p (au p1);omega
def C7 {w p:List Int}{j:Nat}(hj:j<w.length+p.length):(j<w.length->w[j]?=some (nodeV w p j))/\(¬j<w.length->p[j-w.length]?=some (nodeV w p j)):=by
 constructor
 .intro h;obtain⟨x,hx⟩:∃x,w[j]?=some x:=⟨_,ah h⟩;rw[hx,yS hx]
 .intro h;obtain⟨x,hx⟩:∃x,p[j-w.length]?=some x:=⟨_,ah (by omega)⟩;rw[hx,CM h hx]
open Classical in
def Lk {l:List Pt}{t:Rt}{pl:List Int}(h:okF l)(ht:aQ t)(hr:rok t=true)(h1:1<=pl.length)(h2:pl.length<=64)(hv:∀x∈pl,dY l x)(ho:gV pl){w:List Int}(hw:w=playD (wonI t l) pl (pl.length-1) (pl.length-1)):Ans D 159 [F l,R t,sl I1 pl] [BR ⟨pl,w⟩,sl crow (edsB w pl w.length)]:=by
 have hlen:w.length=pl.length-1:=by rw[hw,js]
 have hP:∀j,dY l (nodeV w pl j):=λj=>by rw[hw];exact CN (P:=dY l) (.inl rfl) (won:=wonI t l) (λa b=>E4 a b) hv _ (aB _) j (by omega)
 have e218:=phi (af9 h ht hr h1 h2 hv ho);rw[<-hw] at e218;refine an ⟨1001,?_⟩;unfold ZE;simp only[ay,bv,bm,EV,e218,nR,kF,ai];have e0:([PV.sl [],.v (.int .i64 0),.v (.int .i64 0)]:List PV)=[sl crow (edsB w pl 0),.i64 ((edsB w pl 0).length:Int),.i64 ((0:Nat):Int)]:=rfl;rw[e0];refine(gj (m:=1001) (n:=w.length) (st:=λi=>[sl crow (edsB w pl i),.i64 ((edsB w pl i).length:Int),.i64 (i:Int)]) (λi self hi=>?_) (λself=>?_) (by omega))
 .have hx:=wn (b:=⟨pl,w⟩) (i:=i) hi;have hel:=jW w pl i;have b0:=rv h (hP i);have b1:=rv h (hP (2*i+1));have b2:=rv h (hP (2*i+2));have c1':(2*i+1<w.length->w[2*i+1]?=some (nodeV w pl (2*i+1)))/\(¬2*i+1<w.length->pl[2*i+1-w.length]?=some (nodeV w pl (2*i+1))):=C7 (by omega);have c2':(2*i+2<w.length->w[2*i+2]?=some (nodeV w pl (2*i+2)))/\(¬2*i+2<w.length->pl[2*i+2-w.length]?=some (nodeV w pl (2*i+2))):=C7 (by omega);simp only at hx;rw[sH];unfold edB;generalize nodeV w pl i=v at hx b0;generalize nodeV w pl (2*i+1)=a at b1 c1';generalize nodeV w pl (2*i+2)=b at b2 c2';have w1:IntKind.i64.wrap (a+b)=a+b:=cI (by omega) (by omega);have w2:IntKind.i64.wrap (a+b-v)=a+b-v:=cI (by omega) (by omega);have ap:=gn (f:=crow) (l:=edsB w pl i) (k:=[⟨a+b-v,v⟩]) (bytes:=16) (z:=2) (by simp;omega) iY;have u1:=up1 (show i<1000000000 by omega)
  unfold Cc;by_cases q1:2*i+1<w.length
  .have r1:=c1'.1 q1;by_cases q2:2*i+2<w.length
   .have r2:=c2'.1 q2;simp only[ay,kF,vb,EV,ai,aa,bi hi,aX hx (cA _),aM hx,cQ,dbl (show i<100000000 by omega),up1 (show 2*i<1000000000 by omega),up2 (show 2*i<1000000000 by omega),bi q1,bi q2,aX r1 (cA _),aM r1,aX r2 (cA _),aM r2,bB,OC,OB,AQ,u1,w1,w2,vq,bsC,qx]
    by_cases g1:0<=a
    .by_cases g2:0<=b
     .simp only[g1,g2,az,aA,kj,ap,pP,ay,EV,ai,u1]
     .simp only[g1,g2,az,aY,gS,ax,aw,aZ]
    .simp only[g1,ax,jv,aw,aZ]
   .have r2:=c2'.2 q2;simp only[ay,kF,vb,EV,ai,aa,bi hi,aX hx (cA _),aM hx,cQ,dbl (show i<100000000 by omega),up1 (show 2*i<1000000000 by omega),up2 (show 2*i<1000000000 by omega),bi q1,ac (show¬((2*i+2:Nat):Int)<(w.length:Int) by omega),EX (show w.length<=2*i+2 by omega) (by omega),aX r1 (cA _),aM r1,aX r2 (cA _),aM r2,bB,OE,OD,AQ,u1,w1,w2,vq,bsC,qx]
    by_cases g1:0<=a
    .by_cases g2:0<=b
     .simp only[g1,g2,az,aA,kj,ap,pP,ay,EV,ai,u1]
     .simp only[g1,g2,az,aY,gS,ax,aw,aZ]
    .simp only[g1,ax,jv,aw,aZ]
  .have r1:=c1'.2 q1;have q2:¬2*i+2<w.length:=by omega
   have r2:=c2'.2 q2;simp only[ay,kF,vb,EV,ai,aa,bi hi,aX hx (cA _),aM hx,cQ,dbl (show i<100000000 by omega),up1 (show 2*i<1000000000 by omega),up2 (show 2*i<1000000000 by omega),ac (show¬((2*i+1:Nat):Int)<(w.length:Int) by omega),ac (show¬((2*i+2:Nat):Int)<(w.length:Int) by omega),EX (show w.length<=2*i+1 by omega) (by omega),EX (show w.length<=2*i+2 by omega) (by omega),aX r1 (cA _),aM r1,aX r2 (cA _),aM r2,bB,J1,OF,AQ,u1,w1,w2,vq,bsC,qx]
   by_cases g1:0<=a
   .by_cases g2:0<=b
    .simp only[g1,g2,az,aA,kj,ap,pP,ay,EV,ai,u1]
    .simp only[g1,g2,az,aY,gS,ax,aw,aZ]
   .simp only[g1,ax,jv,aw,aZ]
 .unfold Cc;simp only[EV,aa,bP,OA,cp,ay]
def aga {b:Brk}(h1:b.places.length=b.wins.length+1)(h2:b.places.length<=70)(hk:∀i,i<b.wins.length->om b.wins b.places i)(hb:∀j,-1<=nodeV b.wins b.places j/\ nodeV b.wins b.places j<=65535):Ans D 142 [BR b] [sl crow (edsB b.wins b.places b.wins.length)]:=by
 refine an ⟨1001,?_⟩;unfold Zo;simp only[ay,nR,EV];have e0:([PV.sl [],.v (.int .i64 0),.v (.int .i64 0)]:List PV)=[sl crow (edsB b.wins b.places 0),.i64 ((edsB b.wins b.places 0).length:Int),.i64 ((0:Nat):Int)]:=rfl;rw[e0];refine(gj (m:=1001) (n:=b.wins.length) (st:=λi=>[sl crow (edsB b.wins b.places i),.i64 ((edsB b.wins b.places i).length:Int),.i64 (i:Int)]) (λi self hi=>?_) (λself=>?_) (by omega))
 .have hx:=wn (b:=b) (i:=i) hi;have hel:=jW b.wins b.places i;have hpk:=hk i hi;have b0:=hb i;have b1:=hb (2*i+1);have b2:=hb (2*i+2);have c1':=phi (B4 (b:=b) (i:=2*i+1) (by omega) (by omega));have c2':=phi (B4 (b:=b) (i:=2*i+2) (by omega) (by omega));rw[sH];unfold edB;unfold om at hpk;generalize nodeV b.wins b.places i=v at hx b0 hpk;generalize nodeV b.wins b.places (2*i+1)=p at b1 c1' hpk;generalize nodeV b.wins b.places (2*i+2)=q at b2 c2' hpk;have ap:=λc=>gn (f:=crow) (l:=edsB b.wins b.places i) (k:=[c]) (bytes:=16) (z:=2) (by simp;omega) iY;unfold FY;simp only[ay,kF,EV,ai,aa,bi hi,dbl (show i<100000000 by omega),up1 (show 2*i<1000000000 by omega),up2 (show 2*i<1000000000 by omega),c1',c2',On,up1 (show i<1000000000 by omega),aX hx (cA _),aM hx,cQ,Oo,vq,bsC,qx,ap]
  by_cases g1:p<0
  .rw[ad g1,ac (by omega),aZ]
  by_cases g2:q<0
  .rw[ac g1,ad g2,ac (by omega),aZ]
  rw[ac g1,ac g2,ad (show 0<=p/\ 0<=q by omega)]
  by_cases g3:v=p
  .rw[ad g3,g3,show p+q-p=q by omega]
  .rw[ac g3,show v=q by omega,show p+q-q=p by omega]
 .unfold FY;simp only[ay,kF,EV,ai,aa,bP,Om,cp]
open Classical in
def agb {b:Brk}{l:List Pt}{t:Rt}(h:okF l)(ht:aQ t)(h1:b.places.length=b.wins.length+1)(h2:b.places.length<=70)(hv:∀j,dY l (nodeV b.wins b.places j)):Ans D 141 [BR b,F l,R t] [.bool (decide (kV (wonI t l) b.wins b.places))]:=by
 refine an ⟨1001,?_⟩;unfold Zn;simp only[ay,nR,bv,bm,EV];refine(eV (m:=1001) (n:=b.wins.length) (P:=λi=>nodeV b.wins b.places i=wonI t l (nodeV b.wins b.places (2*i+1)) (nodeV b.wins b.places (2*i+2))) (st:=λi=>[.i64 (i:Int)]) (r:=some [.bool false]) (fin:=some [.bool true]) (λi self hi _=>?_) (λ_ self=>?_) (by omega)).trans ?_
 .have hx:=wn (b:=b) (i:=i) hi;unfold FX;simp only[ay,kF,EV,ai,aa,bi hi,dbl (show i<100000000 by omega),up1 (show 2*i<1000000000 by omega),up2 (show 2*i<1000000000 by omega),phi (B4 (b:=b) (i:=2*i+1) (by omega) (by omega)),phi (B4 (b:=b) (i:=2*i+2) (by omega) (by omega)),phi (af8 h ht (hv (2*i+1)) (hv (2*i+2))),up1 (show i<1000000000 by omega),aX hx (cA _),aM hx,cQ,aE,aj]
  by_cases g:nodeV b.wins b.places i=wonI t l (nodeV b.wins b.places (2*i+1)) (nodeV b.wins b.places (2*i+2))
  .rw[ac (by simpa using g),ad g]
  .rw[ad g,ac g]
 .unfold FX;simp only[ay,kF,EV,ai,aa,bP,Ol]
 .by_cases h:kV (wonI t l) b.wins b.places
  .rw[ad (show∀i,i<b.wins.length->_ from h),aq h]
  .rw[ac (show¬∀i,i<b.wins.length->_ from h),ak h]
def szd (n:Nat):Bool:=decide (n∈[1,2,4,8,16,32,64])
def Vg:∀n:Nat,n<65->1<=n->((BitVec.ofInt 64 (n:Int)&&& BitVec.ofInt 64 ((n:Int)-1)).toNat=0↔szd n=true):=by decide
def agc {n:Nat}(h:n<=1000):Ans D 138 [.i64 (n:Int)] [.bool (szd n)]:=by
 have wr:∀m:Nat,m<=1000->IntKind.i64.wrap ((m:Int)*2)=((m*2:Nat):Int):=λm hm=>by rw[cI (by omega) (by omega)];omega
 refine an ⟨1001,?_⟩;unfold Zk;simp only[EV];refine(oI (m:=1001) (l:=[1,2,4,8,16,32,64]) (p:=λa:Nat=>decide (n=a)) (st:=λi=>[.i64 ((2^ i:Nat):Int)]) (ret:=λ_=>some [.bool true]) (fin:=some [.bool false]) (λi a self ha=>?_) (λself=>?_) (by decide)).trans ?_
 .have hi:=aL ha;have ha2:a=2^ i:=by
   match i,hi with
   |0,_=>simpa using ha.symm
   |1,_=>simpa using ha.symm
   |2,_=>simpa using ha.symm
   |3,_=>simpa using ha.symm
   |4,_=>simpa using ha.symm
   |5,_=>simpa using ha.symm
   |6,_=>simpa using ha.symm
  have h64:2^ i<=64:=by
   have:i<=6:=by simp at hi;omega
   exact bz (Nat.pow_le_pow_right (by omega) this) (by decide)
  have hnx:2^(i+1)=2^ i*2:=Nat.pow_succ ..;rw[hnx];subst ha2;generalize 2^ i=m at h64;unfold FU;simp only[EV,aa,ad (show(m:Int)<=64 by omega),wr m (by omega)]
  by_cases c:n=m
  .rw[ad (by omega),ad c]
  .rw[ac (by omega),ac c]
 .unfold FU;simp only[EV,aV,cL,show decide ((((2:Nat)^(0+1+1+1+1+1+1+1):Nat):Int)<=64)=false from rfl,aw,ax,Og]
 .cases e:List.findIdx? (λa:Nat=>decide (n=a)) [1,2,4,8,16,32,64] with
  |none=>
   rw[iA] at e;have:szd n=false:=ak (λh=>by have:=e n h;simp at this);rw[this];rfl
  |some i=>
   obtain⟨hi,h2,_⟩:=bU.1 e;have:szd n=true:=aq (by rw[aT h2];exact List.getElem_mem hi);rw[this];rfl
def agd {l:List Int}(hl:l.length<=1000):Ans D 140 [sl I1 l] [sl I1 (l.filter λx=>decide (0<=x))]:=by
 refine an ⟨1001,?_⟩;unfold Zm;simp only[EV];have e0:([PV.sl [],.v (.int .i64 0),.v (.int .i64 0)]:List PV)=[sl I1 [],.i64 (([]:List Int).length:Int),.i64 ((0:Nat):Int)]:=rfl;rw[e0];refine(jw (m:=1001) (l:=l) (g:=λacc x=>if 0<=x then acc++[x] else acc) (I:=λk acc=>acc.length<=k) (S:=λacc k=>[sl I1 acc,.i64 (acc.length:Int),.i64 (k:Int)]) (fin:=λacc=>some [sl I1 acc]) (x:=[]) (by simp) (λk a acc _ h=>by
   split
   .rw[aC,aK];omega
   .omega) (λk x acc self hx hI=>?_) (λacc self hI=>?_) (by omega)).1.trans ?_
 .have hk:=aL hx;have ap:=gn (f:=I1) (l:=acc) (k:=[x]) (bytes:=8) (z:=1) (by simp;omega) cA;unfold FW;simp only[ay,EV,ai,aa,bi hk,aX hx (cA _),aM hx,cQ,bB,Ok,up1 (show k<1000000000 by omega),bsI,sF,ap]
  by_cases c:0<=x
  .simp only[c,az]
  .simp only[c,ax]
 .unfold FW;simp only[EV,ai,aa,bP,Oj,cp]
 .have:∀(l acc:List Int),l.foldl (λacc x=>if 0<=x then acc++[x] else acc) acc=acc++l.filter λx=>decide (0<=x):=by
   intro l;induction l with
   |nil=>simp
   |cons a l ih=>
    intro acc;rw[c6,ih,cT];by_cases c:0<=a<;>simp[c]
  rw[this,aO]
def Am (l:List Int):List Int:=gG l
def age {l:List Int}(hl:l.length<=1000):Ans D 156 [.sl [],sl I1 l] [sl I1 (Am l)]:=by
 have h0:D.T 156=none:=by kernel_rfl
 refine UV h0 ?_;show sV 156 156 [.sl [],.sl (jC l)]=some [.sl (jC (gG l))]
 unfold sV;simp[zc]
 grind
def eZ (k:KTourn):Prop:=bD k.clock/\ kI k.brk.wins k.brk.places/\ szd k.brk.places.length=true/\(∀x∈k.brk.places,dY k.clock.pts x)/\(k.brk.places.filter λx=>decide (0<=x)).length=k.clock.pts.length/\ kV (wonI k.clock.now k.clock.pts) k.brk.wins k.brk.places/\ JustR k.clock (edsB k.brk.wins k.brk.places k.brk.wins.length)
def wY {k:KTourn}(h:gKt k=false):gCl k.clock=false/\ k.brk.places.length<=70/\ k.brk.wins.length<=70:=by
 unfold gKt at h
 grind
def brk_val {b:Brk}{l:List Pt}(hb:kI b.wins b.places)(hv:∀x∈b.places,dY l x)(j:Nat):dY l (nodeV b.wins b.places j):=
 Wl (P:=dY l) (.inl rfl) hb.1.1.2.2 hv (λi hi=>(hb.2 i hi).1) _ j rfl
def E5 {w p:List Int}{n:Nat}{e:Crt}(h:e∈edsB w p n):∃i,i<n/\(0<=nodeV w p (2*i+1)/\ 0<=nodeV w p (2*i+2))/\ e=⟨nodeV w p (2*i+1)+nodeV w p (2*i+2)-nodeV w p i,nodeV w p i⟩:=by
 unfold edsB at h;obtain⟨i,hi,he⟩:=np.1 h;rw[c9] at hi;unfold edB at he;split at he
 .rename_i c;exact⟨i,hi,c,b8.1 he⟩
 .cases he
def iu {b:Brk}{l:List Pt}{t:Rt}(h:okF l)(hb:kI b.wins b.places)(hv:∀x∈b.places,dY l x)(hf:kV (wonI t l) b.wins b.places){e:Crt}(he:e∈edsB b.wins b.places b.wins.length):inF l e.low=true/\ inF l e.high=true/\ leads t (be l e.high) (be l e.low)=true:=by
 obtain⟨i,hi,⟨c1,c2⟩,rfl⟩:=E5 he;have hF:=hf i hi;have hd:nodeV b.wins b.places (2*i+1)≠nodeV b.wins b.places (2*i+2):=λe=>IV (x0 hb) c1 hi rfl e.symm;rcases valK_in h (brk_val hb hv (2*i+1)) with e|⟨j1,p,p1,p2,p3,p4,p5⟩
 .omega
 rcases valK_in h (brk_val hb hv (2*i+2)) with e|⟨j2,q,q1,q2,q3,q4,q5⟩
 .omega
 have ip:inF l (nodeV b.wins b.places (2*i+1))=true:=by rw[<-p2];exact gl.2 (bf.2 ⟨p,au p1,rfl⟩)
 have iq:inF l (nodeV b.wins b.places (2*i+2))=true:=by rw[<-q2];exact gl.2 (bf.2 ⟨q,au q1,rfl⟩)
 unfold wonI at hF;rw[ac (by omega),ac (by omega),p4,q4] at hF;cases hL:leads t p q with
 |true=>
  grind
 |false=>
  rw[hL,ac (by simp)] at hF;rw[hF,Int.add_sub_cancel,p4,q4];refine⟨ip,iq,?_⟩;rcases leads_total (t:=t) (p:=p) (q:=q) (by rw[p2,q2];exact hd) with g|g
  .grind
  .exact g
def qC {b:Brk}{l:List Pt}{t:Rt}(h:okF l)(hb:kI b.wins b.places)(hv:∀x∈b.places,dY l x)(hf:kV (wonI t l) b.wins b.places):∀n,n<=b.wins.length->(edsB b.wins b.places n).Nodup
 |0,_=>by simp[edsB]
 |n+1,hn=>by
  rw[sH];have ih:=qC h hb hv hf n (by omega);have one:∀i,i<b.wins.length->(0<=nodeV b.wins b.places (2*i+1)/\ 0<=nodeV b.wins b.places (2*i+2))->∃c,(c=2*i+1\/c=2*i+2)/\ nodeV b.wins b.places c=nodeV b.wins b.places (2*i+1)+nodeV b.wins b.places (2*i+2)-nodeV b.wins b.places i/\ nodeV b.wins b.places i≠nodeV b.wins b.places c/\ 0<=nodeV b.wins b.places c:=λi hi hc=>by
   have hd:nodeV b.wins b.places (2*i+1)≠nodeV b.wins b.places (2*i+2):=λe=>IV (x0 hb) hc.1 hi rfl e.symm;rcases(hb.2 i hi).1 with g|g
   .exact⟨2*i+2,.inr rfl,by omega,by omega,hc.2⟩
   .exact⟨2*i+1,.inl rfl,by omega,by omega,hc.1⟩
  unfold edB;split
  .rename_i c;rw[eN];refine⟨ih,by simp,λa ha b' hb' e=>?_⟩;subst e;obtain⟨i,hi,c',e⟩:=E5 ha;rw[b8] at hb';rw[e] at hb';simp at hb';obtain⟨x,x1,x2,x3,x4⟩:=one i (by omega) c';obtain⟨y,y1,y2,y3,y4⟩:=one n (by omega) c;have:=QD (x0 hb) (z:=nodeV b.wins b.places x) x4 (i:=i) (j:=n) (by omega) (by omega) x1 y1 rfl (by omega) x3 (by omega);omega
  .rw[aZ];exact ih
open Classical in
def c82 {k:KTourn}(h64:fF k.clock)(hg:gKt k=false):Ans D 62 [KT k] [.i64 (okE (decide (eZ k)))]:=by
 obtain⟨g1,g2,g3⟩:=wY hg;have no:∀h:¬eZ k,(some [PV.v (.int .i64 8)]:Option (List PV))=some [.i64 (okE (decide (eZ k)))]:=λh=>by rw[ak h];rfl
 have pKT2:RF.ev (.part 2 1) [KT k]=some (F k.clock.pts):=rfl;have pKT0:RF.ev (.part 0 2) [KT k]=some (R k.clock.now):=rfl;have cKT11:RF.ev (.cell 11) [KT k]=some (sl I1 k.brk.places):=rfl;refine an ⟨1001,?_⟩;unfold k82;simp only[ay,vg,pKT,KX,pKT2,pKT0,cKT11,cG,EV,ai,phi (K8 h64 g1),phi (af3 g2 g3),phi (agc (n:=k.brk.places.length) (by omega)),i8,aE,aj,aa];by_cases h1:bD k.clock
 rotate_left
 .rw[ac h1];exact no (λh=>h1 h.1)
 rw[ad h1];by_cases h2:kI k.brk.wins k.brk.places
 rotate_left
 .rw[ac h2];exact no (λh=>h2 h.2.1)
 rw[ad h2];cases h3:szd k.brk.places.length with
 |false=>
  rw[ad rfl];exact no (λh=>by have:=h.2.2.1;rw[h3] at this;cases this)
 |true=>
 rw[ac (by simp)];have hF:=h1.2.1;have hl:=hF.1;simp only[ay,pKT2,cKT11,cG,EV,ai,phi (af4 (l:=k.clock.pts) (pl:=k.brk.places) (by omega) (by omega)),phi (agd (l:=k.brk.places) (by omega)),aE,aj,aa];by_cases h4:∀x∈k.brk.places,dY k.clock.pts x
 rotate_left
 .rw[ad h4];exact no (λh=>h4 h.2.2.2.1)
 rw[ac (λg=>g h4)];by_cases h5:(k.brk.places.filter λx=>decide (0<=x)).length=k.clock.pts.length
 rotate_left
 .rw[ad (by omega)];exact no (λh=>h5 h.2.2.2.2.1)
 rw[ac (by omega)];have hlen:=h2.1.1.2.2;have hval:=brk_val h2 h4;simp only[ay,KX,pKT0,EV,phi (agb (b:=k.brk) (l:=k.clock.pts) (t:=k.clock.now) hF h64.1 hlen (by omega) hval),aE,aj];by_cases h6:kV (wonI k.clock.now k.clock.pts) k.brk.wins k.brk.places
 rotate_left
 .rw[ad h6];exact no (λh=>h6 h.2.2.2.2.2.1)
 rw[ac (λg=>g h6)];have hel:=jW k.brk.wins k.brk.places k.brk.wins.length;simp only[ay,pKT,KX,EV,phi (aga (b:=k.brk) hlen (by omega) (λi hi=>(h2.2 i hi).1) (λj=>rv hF (hval j))),phi (Lf (c:=k.clock) (edges:=edsB k.brk.wins k.brk.places k.brk.wins.length) hF h64.1 (by omega) (by have:=gP g1;omega) (λe he=>⟨(iu hF h2 h4 h6 he).1,(iu hF h2 h4 h6 he).2.1⟩)),aE,aj];by_cases h7:JustR k.clock (edsB k.brk.wins k.brk.places k.brk.wins.length)
 .rw[ac (λg=>g h7),aq (show eZ k from⟨h1,h2,h3,h4,h5,h6,h7⟩)];rfl
 .rw[ad h7];exact no (λh=>h7 h.2.2.2.2.2.2)
def Rs {l:List Pt}{pl:List Int}(hF:okF l)(ho:gV pl)(hb:∀x∈pl,-1<=x):Am (pl.filter λx=>decide (0<=x))=l.map Pt.id↔(∀x∈pl,dY l x)/\(pl.filter λx=>decide (0<=x)).length=l.length:=by
 have hperm:(Am (pl.filter λx=>decide (0<=x))).Perm (pl.filter λx=>decide (0<=x)):=kO _ _;constructor
 .intro h;rw[h] at hperm;refine⟨λx hx=>?_,by have:=hperm.length_eq;rw[ai] at this;exact this.symm⟩;by_cases c:0<=x
  .exact .inr (gl.2 (hperm.mem_iff.2 (bx.2 ⟨hx,by simpa using c⟩)))
  .exact .inl (by have:=hb x hx;omega)
 .rintro⟨h1,h2⟩;have hnd:(pl.filter λx=>decide (0<=x)).Nodup:=by
   have:∀(l:List Int),(∀(i j:Nat) (x:Int),0<=x->l[i]?=some x->l[j]?=some x->i=j)->(l.filter λx=>decide (0<=x)).Nodup:=by
    intro l;induction l with
    |nil=>intro _;simp
    |cons a l ih=>
     intro h;have ih:=ih λi j x hx hi hj=>by have:=h (i+1) (j+1) x hx (by simpa using hi) (by simpa using hj);omega
     rw[cT];split
     .rename_i c;refine b5.2 ⟨λhm=>?_,ih⟩;obtain⟨j,hj⟩:=aI.1 (bx.1 hm).1;have:=h 0 (j+1) a (by simpa using c) (by simp) (by simpa using hj)
      omega
     .exact ih
   exact this pl (xZ.1 ho)
  have hp:(pl.filter λx=>decide (0<=x)).Perm (l.map Pt.id):=lK hnd (λx hx=>by
   obtain⟨a,b⟩:=bx.1 hx;rcases h1 x a with e|e
   .simp at b;omega
   .exact gl.1 e) (by rw[ai];omega)
  refine List.Perm.eq_of_pairwise (le:=λa b=>a<=b) (λa b _ _ h1 h2=>by omega) ?_ ?_ (hperm.trans hp)
  .have:=mj (le:=λa b:Int=>decide (a<=b)) (λa b c h1 h2=>by simp at h1 h2|-;omega) (λa b=>by simp;omega) (pl.filter λx=>decide (0<=x));exact this.imp λh=>by simpa using h
  .rw[dM];intro i j hi hj hij;rw[ai] at hi hj;have:=jg hF.2.2 hij (ah hi) (ah hj);rw[List.getElem_map,List.getElem_map];omega
def JO {S:List Int}{k:List Pt}(h:S.length=k.length)(ha:(S.zip k).all (λx=>decide (x.1=x.2.id))=true):S=k.map Pt.id:=by
 rw[aS] at ha;refine List.ext_getElem (by simpa using h) λi h1 h2=>?_
 have:=ha (S[i],k[i]'(by omega)) (List.mem_iff_getElem.2 ⟨i,by rw[kZ];omega,by simp⟩)
 grind
def E6 {S:List Int}{k:List Pt}(h:S=k.map Pt.id):(S.zip k).all (λx=>decide (x.1=x.2.id))=true:=by
 rw[aS];intro x hx;obtain⟨i,hi⟩:=aI.1 hx
 grind
def cpt (l:List Int)(i:Nat):Nat->List Int×Nat
 |0=>(l,i)
 |t+1=>if 0<=nthI l (i+1+t) then((cpt l i t).1.set (cpt l i t).2 (nthI l (i+1+t)),(cpt l i t).2+1) else cpt l i t
def E7 {l:List Int}{i:Nat}{a:Int}(ha:l[i]?=some a)(hn:a<0)(hp:(l.take i).all (λx=>!decide (x<0))=true):∀t,i+1+t<=l.length->(cpt l i t).1.length=l.length/\(cpt l i t).2<=i+t/\(cpt l i t).1.take (cpt l i t).2=(l.take (i+1+t)).filter (λx=>decide (0<=x))/\∀j,i+1+t<=j->(cpt l i t).1[j]?=l[j]?
 |0,_=>by
  refine⟨rfl,aB _,?_,λj _=>rfl⟩;rw[lS,cC,ha,p8];have h1:(l.take i).filter (λx=>decide (0<=x))=l.take i:=fu.2 λx hx=>by
   have:=aS.1 hp x hx;simp at this|-;omega
  have h2:(some a).toList.filter (λx=>decide (0<=x))=[]:=by simp;omega
  rw[h1,h2,aZ];rfl
 |t+1,h=>by
  obtain⟨h1,h2,h3,h4⟩:=E7 ha hn hp t (by omega);have hx:=eM (l:=l) (i:=i+1+t) (by omega);have e1:(l.take (i+1+(t+1))).filter (λx=>decide (0<=x))=(l.take (i+1+t)).filter (λx=>decide (0<=x))++if 0<=nthI l (i+1+t) then [nthI l (i+1+t)] else []:=by
   rw[show i+1+(t+1)=i+1+t+1 by omega,cC,hx,p8]
   congr 1
   simp[cT]
  rw[e1];unfold cpt;by_cases c:0<=nthI l (i+1+t)
  .rw[ad c,ad c];refine⟨by rw[ba];exact h1,by simp only;omega,?_,λj hj=>?_⟩
   .simp only;rw[cC,bj (by omega),List.take_set,List.set_eq_of_length_le (by rw[aP];omega),h3];rfl
   .simp only;rw[bw (by omega)];exact h4 j (by omega)
  .rw[ac c,ac c,aZ];exact⟨h1,by omega,h3,λj hj=>h4 j (by omega)⟩
def Xl {L S:List Int}(h:S.length<=L.length):RF.ev (.appK 0 1) [sl I1 L,.v (.int .i64 0),sl I1 S]=some (sl I1 (S++L.drop S.length)):=by
 show(if(0:Int)<=0/\(0:Int)<=((L.map I1).length:Nat)/\((0:Int).toNat+(S.map I1).length)*0<=140737488355328/\ ec 1 (S.map I1)=true then some (PV.sl ((L.map I1).take (0:Int).toNat++S.map I1++(L.map I1).drop ((0:Int).toNat+(S.map I1).length))) else none)=_
 have he:ec 1 (S.map I1)=true:=by
  cases S with
  |nil=>rfl
  |cons a k=>simp[ec,cA]
 simp_all
def agf {L:List Int}{a n:Nat}(h:a+n=L.length):RF.ev (.clr [KP.z]) [sl I1 L,.v (.int .i64 (a:Int)),.v (.int .i64 (n:Int))]=some (sl I1 (L.take a++List.replicate n 0)):=by
 show(if(0:Int)<=a/\(0:Int)<=n/\(a:Int)+n<=((L.map I1).length:Nat) then some (PV.sl ((L.map I1).take (a:Int).toNat++List.replicate (n:Int).toNat [KP.z]++(L.map I1).drop ((a:Int).toNat+(n:Int).toNat))) else none)=_
 rw[ad ⟨by omega,by omega,by rw[ai];omega⟩,dx (by simp;omega)];simp;exact .inr rfl
def agh {L Z:List Int}:RF.ev .sub [sl I1 (L++Z),.v (.int .i64 0),.v (.int .i64 (L.length:Int))]=some (sl I1 L):=by
 rw[wa,ad (by simp;omega)];simp
open Classical in
def c78 {k:KTourn}(h64:fF k.clock)(hg:gKt k=false):Ans D 69 [KT k] [.i64 (okE (decide (eZ k)))]:=by
 obtain⟨g1,g2,g3⟩:=wY hg;have no:∀h:¬eZ k,(some [PV.v (.int .i64 8)]:Option (List PV))=some [.i64 (okE (decide (eZ k)))]:=λh=>by rw[ak h];rfl
 have pKT2:RF.ev (.part 2 1) [KT k]=some (F k.clock.pts):=rfl;have pKT0:RF.ev (.part 0 2) [KT k]=some (R k.clock.now):=rfl;have cKT2:RF.ev (.cell 2) [KT k]=some (sl row k.clock.pts):=rfl;have cKT11:RF.ev (.cell 11) [KT k]=some (sl I1 k.brk.places):=rfl;have cKT12:RF.ev (.cell 12) [KT k]=some (sl I1 k.brk.wins):=rfl;have wp:IntKind.i64.wrap ((k.brk.places.length:Int)-1)=(k.brk.places.length:Int)-1:=cI (by omega) (by omega);refine an ⟨1001,?_⟩;unfold k78;simp only[ay,vg,pKT,KX,cKT11,EV,ai,wp,phi (Lc h64 g1),phi (af2 g2 g3),i8,aE,aj,aa];by_cases h1:bD k.clock
 rotate_left
 .rw[ac h1];exact no (λh=>h1 h.1)
 rw[ad h1];by_cases h2:kI k.brk.wins k.brk.places
 rotate_left
 .rw[ac h2];exact no (λh=>h2 h.2.1)
 rw[ad h2];have hF:=h1.2.1;have hl:=hF.1;have hpl:=h2.1.1;have hand:IntKind.i64.wrap (((BitVec.ofInt IntKind.i64.bits (k.brk.places.length:Int)&&& BitVec.ofInt IntKind.i64.bits ((k.brk.places.length:Int)-1)).toNat:Nat):Int)=(((BitVec.ofInt 64 (k.brk.places.length:Int)&&& BitVec.ofInt 64 ((k.brk.places.length:Int)-1)).toNat:Nat):Int):=by
  show IntKind.i64.wrap (((BitVec.ofInt 64 (k.brk.places.length:Int)&&& BitVec.ofInt 64 ((k.brk.places.length:Int)-1)).toNat:Nat):Int)=_
  have:(BitVec.ofInt 64 (k.brk.places.length:Int)&&& BitVec.ofInt 64 ((k.brk.places.length:Int)-1)).toNat<=k.brk.places.length:=by
   rw[BitVec.toNat_and];refine bz Nat.and_le_left ?_;rw[pV];omega
  exact cI (by omega) (by omega)
 have hsz:=Vg k.brk.places.length (by omega) (by omega);rw[hand];generalize (BitVec.ofInt 64 (k.brk.places.length:Int)&&& BitVec.ofInt 64 ((k.brk.places.length:Int)-1)).toNat=z at hsz;by_cases h3:z=0
 rotate_left
 .rw[ad (by omega)];exact no (λh=>h3 (hsz.2 h.2.2.1))
 rw[ac (by omega)];have h3:=hsz.1 h3;have hfl:=fO (λx=>decide (0<=x)) k.brk.places;have hsl:(Am (k.brk.places.filter λx=>decide (0<=x))).length=(k.brk.places.filter λx=>decide (0<=x)).length:=gY ..;have hsame:=Rs (l:=k.clock.pts) (pl:=k.brk.places) hF h2.1.2.1 (λx hx=>(h2.1.2.2 x hx).1);generalize hS:Am (k.brk.places.filter λx=>decide (0<=x))=S at hsl hsame;have hs160:=phi (age (l:=k.brk.places.filter λx=>decide (0<=x)) (by omega));rw[hS] at hs160;generalize hfe:(k.brk.places.filter λx=>decide (0<=x))=fl at hsl hsame hs160 hfl hS;have ho:=h2.1.2.1;have hmm:k.brk.wins.length=k.brk.places.length-1:=by have:=h2.1.1.2.2;omega
 have hwl:=js (won:=wonI k.clock.now k.clock.pts) (places:=k.brk.places) (m:=k.brk.places.length-1) (k.brk.places.length-1);have hfine:=sZ (won:=wonI k.clock.now k.clock.pts) (places:=k.brk.places) (v:=k.brk.wins) hmm;obtain⟨w,hw⟩:∃w,w=playD (wonI k.clock.now k.clock.pts) k.brk.places (k.brk.places.length-1) (k.brk.places.length-1):=⟨_,rfl⟩;have t123:(∀x∈k.brk.places,dY k.clock.pts x)->bL D 159 [F k.clock.pts,R k.clock.now,sl I1 k.brk.places]=some [BR ⟨k.brk.places,w⟩,sl crow (edsB w k.brk.places w.length)]/\ True:=λhv=>⟨phi (Lk hF h64.1 h1.1 hpl.1 hpl.2.1 hv ho hw),trivial⟩;rw[<-hw] at hwl hfine;have cB1:RF.ev (.cell 1) [BR ⟨k.brk.places,w⟩]=some (sl I1 w):=rfl;have tOk:(∀x∈k.brk.places,dY k.clock.pts x)->fl.length=k.clock.pts.length->w=k.brk.wins->decide (eZ k)=decide (JustP k.clock (edsB w k.brk.places w.length)):=λhv hlen5 h6=>by
  have h6':=hfine.1 h6;have hJ:=sD (c:=k.clock) h1.2.2.1 (qC (b:=k.brk) hF h2 hv h6' _ (aB _)) (λe he=>(iu (b:=k.brk) hF h2 hv h6' he).2.2);rw[h6,eu,aa,aa];exact⟨λh=>hJ.2 h.2.2.2.2.2.2,λh=>⟨h1,h2,h3,hv,by rw[hfe];exact hlen5,h6',hJ.1 h⟩⟩
 have cKT2':RF.ev (.cell 0) [F k.clock.pts]=some (sl row k.clock.pts):=rfl;simp only[ay,cKT11,phi (qg (l:=k.brk.places) (by omega)),EV,ai];refine(cz (m:=1001) (l:=k.brk.places) (p:=λx=>!decide (x<0)) (st:=λi=>[.i64 (i:Int)]) (r:=some [.i64 (okE (decide (eZ k)))]) (fin:=some [.i64 (okE (decide (eZ k)))]) (λi a self ha hp=>?_) (λhall self=>?_) (by omega)).trans ?_
 .have hi:=aL ha;unfold FG;simp only[EV,aa,bi hi,ixM hi,aM ha,cQ,up1 (show i<1000000000 by omega)]
  by_cases c:a<0
  rotate_left
  .rw[ac c,ad (by simp;omega)]
  .rw[ad c,ac (show¬(i:Int)= -1 by omega),ac (by simp[c])]
   have hend:=E7 ha c hp (k.brk.places.length-(i+1)) (by omega);refine(gj (m:=1001) (n:=k.brk.places.length-(i+1)) (st:=λt=>[sl I1 (cpt k.brk.places i t).1,.i64 ((cpt k.brk.places i t).2:Int),.i64 ((i+1+t:Nat):Int)]) (fin:=some [.i64 (okE (decide (eZ k)))]) (λt self ht=>?_) (λself=>?_) (by omega))
   .obtain⟨q1,q2,_,q4⟩:=E7 ha c hp t (by omega);have hx:=eM (l:=k.brk.places) (i:=i+1+t) (by omega);have hy:=q4 (i+1+t) (aB _);rw[hx] at hy;have hz:cpt k.brk.places i (t+1)=if 0<=nthI k.brk.places (i+1+t) then((cpt k.brk.places i t).1.set (cpt k.brk.places i t).2 (nthI k.brk.places (i+1+t)),(cpt k.brk.places i t).2+1) else cpt k.brk.places i t:=rfl
    rw[hz];generalize cpt k.brk.places i t=s at q1 q2 hy;generalize nthI k.brk.places (i+1+t)=x at hy;unfold FF;simp only[EV,aa,bi (show i+1+t<k.brk.places.length by omega),ixM (show i+1+t<k.brk.places.length by omega),aM hy,cQ,ixM (show s.2<k.brk.places.length by omega),iI (l:=s.1) (i:=s.2) (by omega),up1 (show s.2<1000000000 by omega),N3,up1 (show i+1+t<1000000000 by omega)]
    by_cases c0:x<0
    .rw[ac (by simp[c0]),ac (by omega)];rfl
    .rw[ad (by simp[c0]),ad (by omega)];rfl
   .rw[show i+1+(k.brk.places.length-(i+1))=k.brk.places.length by omega,eH,hfe] at hend
    rw[show i+1+(k.brk.places.length-(i+1))=k.brk.places.length by omega]
    generalize cpt k.brk.places i (k.brk.places.length-(i+1))=s at hend;obtain⟨L,n⟩:=s;obtain⟨q1,q2,q3,q4⟩:=hend;simp only at q1 q2 q3;have hn:n=fl.length:=by rw[<-q3,aP];omega
    subst hn;have cl:=agf (L:=L) (a:=fl.length) (n:=k.brk.places.length-fl.length) (by omega);rw[q3] at cl;have bn:RF.ev .bnd [.v (.int .i64 (fl.length:Int)),.v (.int .i64 (k.brk.places.length:Int))]=some (.i64 (fl.length:Int)):=by rw[j5,ad ⟨by omega,by omega⟩]
    have dd:(k.brk.places.length:Int)-(fl.length:Int)=((k.brk.places.length-fl.length:Nat):Int):=by omega
    have ap:=Xl (L:=fl++List.replicate (k.brk.places.length-fl.length) 0) (S:=S) (by rw[aC];omega);unfold FF;simp only[EV,aa,ac (show¬((k.brk.places.length:Nat):Int)<((k.brk.places.length:Nat):Int) by omega),N2,bn,Int.zero_add,dd,cl,agh,ay,hs160,ap,cKT2,ai,aE,aj,bZ,az]
    by_cases h5:fl.length=k.clock.pts.length
    rotate_left
    .rw[ad (by omega)];exact no (λh=>h5 (by have:=h.2.2.2.2.1;rw[hfe] at this;exact this))
    rw[ac (by omega)];have hzl:(S.zip k.clock.pts).length=fl.length:=by rw[kZ];omega
    refine(cz (m:=1001) (l:=S.zip k.clock.pts) (p:=λx=>decide (x.1=x.2.id)) (st:=λi=>[.i64 (i:Int)]) (r:=some [.i64 8]) (fin:=some [.i64 (okE (decide (eZ k)))]) (λi x self hx _=>?_) (λhall self=>?_) (by omega)).trans ?_
    .obtain⟨hp,hq⟩:=lU hx;have hp':(S++(fl++List.replicate (k.brk.places.length-fl.length) 0).drop S.length)[i]?=some x.1:=by rw[aG (aL hp)];exact hp
     have hi:=aL hx;unfold FE;simp only[ay,cKT2,EV,ai,aa,bi (show i<fl.length by omega),ixM (show i<fl.length by omega),aM hp',aX hq (cq _),aM hq,cQ,gJ,gI,up1 (show i<1000000000 by omega),aE,aj]
     by_cases e:x.1=x.2.id
     .rw[ac (by simp[e]),ad e]
     .rw[ad e,ac e];rfl
    .rw[hzl];have h4:S=k.clock.pts.map Pt.id:=JO (by omega) hall;obtain⟨hv,hlen5⟩:=hsame.1 h4;obtain⟨e123,hmm⟩:=t123 hv;unfold FE;simp only[EV,aa,ai,ac (show¬((fl.length:Nat):Int)<((fl.length:Nat):Int) by omega),ac (show¬((fl.length:Nat):Int)<((fl.length:Nat):Int) by omega),N1,aJ,aw,ax,ay,pKT2,pKT0,cKT11,cKT12,e123,nR,cB1,phi (Rj (l:=w) (k:=k.brk.wins) (by omega)),aE,aj]
     by_cases h6:w=k.brk.wins
     rotate_left
     .rw[ad h6];exact no (λh=>h6 (hfine.2 h.2.2.2.2.2.1))
     rw[ac (by simp[h6])];have hd:=tOk hv hlen5 h6;rw[hd];have hEl:(edsB w k.brk.places w.length).length<=w.length:=jW ..;generalize edsB w k.brk.places w.length=E at hEl;have cc:=gP g1;simp only[ay,pKT,jx,EV,ai];by_cases c1:E.length=k.clock.certs.list.length
     .rw[ad (aq (by omega))];refine(cz (m:=1001) (l:=k.clock.certs.list) (p:=λh=>decide (h.cert∈E)) (st:=λi=>[.i64 (i:Int)]) (r:=some [.i64 8]) (fin:=some [.i64 0]) (λi a self ha _=>?_) (λ_ self=>?_) (by omega)).trans ?_
      .unfold FD;simp only[ay,jx,aX ha (gL _),aM ha,lr,pHP,phi (wW (l:=E) a.cert (by omega)),EV,ai,aa,bi (aL ha),up1 (show i<1000000000 by have:=aL ha;omega),aE,aj]
       by_cases c2:a.cert∈E
       .rw[ac (by simp[c2]),ad c2]
       .rw[ad c2,ac c2];unfold AE;simp only[EV];rfl
      .unfold FD N0 AE;simp only[EV,aa,bP];rfl
      .have:(k.clock.certs.list.all λh=>decide (h.cert∈E))=decide (JustP k.clock E):=by
        rw[eu,aa];unfold JustP;simp[c1]
       rw[this];cases decide (JustP k.clock E)<;>rfl
     .rw[ac (by simp;omega),show decide (JustP k.clock E)=false from ak (λh=>c1 h.1)]
      unfold AE;simp only[EV];rfl
    .by_cases hT:eZ k
     .rw[ad (E6 (hsame.2 ⟨hT.2.2.2.1,by have:=hT.2.2.2.2.1;rw[hfe] at this;exact this⟩))]
     .split
      .rfl
      .exact no hT
 .have hall':fl=k.brk.places:=by
   rw[<-hfe];exact fu.2 λx hx=>by
    have:=aS.1 hall x hx;simp at this|-;omega
  have ap:=Xl (L:=k.brk.places) (S:=S) (by omega);have hsu:RF.ev .sub [sl I1 k.brk.places,.v (.int .i64 0),.v (.int .i64 (k.brk.places.length:Int))]=some (sl I1 fl):=by rw[hall'];exact cp
  unfold FG;simp only[EV,aa,bP,NZ,da,az,hsu,ay,hs160,ap,cKT2,ai,aE,aj,bZ];have hpl':k.brk.places.length=fl.length:=by rw[hall']
  rw[hpl'];by_cases h5:fl.length=k.clock.pts.length
  rotate_left
  .rw[ad (by omega)];exact no (λh=>h5 (by have:=h.2.2.2.2.1;rw[hfe] at this;exact this))
  rw[ac (by omega)];have hzl:(S.zip k.clock.pts).length=fl.length:=by rw[kZ];omega
  refine(cz (m:=1001) (l:=S.zip k.clock.pts) (p:=λx=>decide (x.1=x.2.id)) (st:=λi=>[.i64 (i:Int)]) (r:=some [.i64 8]) (fin:=some [.i64 (okE (decide (eZ k)))]) (λi x self hx _=>?_) (λhall self=>?_) (by omega)).trans ?_
  .obtain⟨hp,hq⟩:=lU hx;have hp':(S++k.brk.places.drop S.length)[i]?=some x.1:=by rw[aG (aL hp)];exact hp
   have hi:=aL hx;unfold FC;simp only[ay,cKT2,EV,ai,aa,bi (show i<fl.length by omega),ixM (show i<fl.length by omega),aM hp',aX hq (cq _),aM hq,cQ,gJ,gI,up1 (show i<1000000000 by omega),aE,aj]
   by_cases e:x.1=x.2.id
   .rw[ac (by simp[e]),ad e]
   .rw[ad e,ac e];rfl
  .rw[hzl];have h4:S=k.clock.pts.map Pt.id:=JO (by omega) hall;obtain⟨hv,hlen5⟩:=hsame.1 h4;obtain⟨e123,hmm⟩:=t123 hv;unfold FC;simp only[EV,aa,ai,ac (show¬((fl.length:Nat):Int)<((fl.length:Nat):Int) by omega),ac (show¬((fl.length:Nat):Int)<((fl.length:Nat):Int) by omega),Ux,aJ,aw,ax,ay,pKT2,pKT0,cKT11,cKT12,e123,nR,cB1,phi (Rj (l:=w) (k:=k.brk.wins) (by omega)),aE,aj]
   by_cases h6:w=k.brk.wins
   rotate_left
   .rw[ad h6];exact no (λh=>h6 (hfine.2 h.2.2.2.2.2.1))
   rw[ac (by simp[h6])];have hd:=tOk hv hlen5 h6;rw[hd];have hEl:(edsB w k.brk.places w.length).length<=w.length:=jW ..;generalize edsB w k.brk.places w.length=E at hEl;have cc:=gP g1;simp only[ay,pKT,jx,EV,ai];by_cases c1:E.length=k.clock.certs.list.length
   .rw[ad (aq (by omega))];refine(cz (m:=1001) (l:=k.clock.certs.list) (p:=λh=>decide (h.cert∈E)) (st:=λi=>[.i64 (i:Int)]) (r:=some [.i64 8]) (fin:=some [.i64 0]) (λi a self ha _=>?_) (λ_ self=>?_) (by omega)).trans ?_
    .unfold LY;simp only[ay,jx,aX ha (gL _),aM ha,lr,pHP,phi (wW (l:=E) a.cert (by omega)),EV,ai,aa,bi (aL ha),up1 (show i<1000000000 by have:=aL ha;omega),aE,aj]
     by_cases c2:a.cert∈E
     .rw[ac (by simp[c2]),ad c2]
     .rw[ad c2,ac c2];unfold Ec;simp only[EV];rfl
    .unfold LY Uw Ec;simp only[EV,aa,bP];rfl
    .have:(k.clock.certs.list.all λh=>decide (h.cert∈E))=decide (JustP k.clock E):=by
      rw[eu,aa];unfold JustP;simp[c1]
     rw[this];cases decide (JustP k.clock E)<;>rfl
   .rw[ac (by simp;omega),show decide (JustP k.clock E)=false from ak (λh=>c1 h.1)]
    unfold Ec;simp only[EV];rfl
  .by_cases hT:eZ k
   .rw[ad (E6 (hsame.2 ⟨hT.2.2.2.1,by have:=hT.2.2.2.2.1;rw[hfe] at this;exact this⟩))]
   .split
    .rfl
    .exact no hT
 .split<;>rfl
def zC:Clock:=⟨⟨0,0⟩,[],⟨0,[]⟩,⟨⟨[],[],[]⟩,[],[]⟩,[]⟩
def zKH:KHeap:=⟨zC,[]⟩
def zKT:KTourn:=⟨zC,⟨[],[]⟩⟩
def zHT:Heater:=⟨zC,⟨0,[]⟩⟩
def adp {l:List Pt}(h:gF l=false):l.length<=70:=by
 unfold gF at h
 grind
def c76 {c:Clock}(hg:gCl c=false):Ans D 67 [CL c] [.bool (decide (c=zC))]:=by
 unfold gCl gAg gSl at hg;simp only[eG,aj] at hg;obtain⟨⟨⟨g1,g2⟩,g3⟩,⟨⟨⟨g4,g5⟩,g6⟩,g7⟩,g8⟩:=hg;have g3:=adp g3;have pS:RF.ev (.part 5 3) [CL c]=some (SL c.agenda.slots):=rfl;have c3:RF.ev (.cell 3) [CL c]=some (.i64 c.certs.next):=rfl;have sAG:RF.ev (.shape 5) [AG c.agenda]=some (AG c.agenda):=rfl;have sSL:RF.ev (.shape 3) [SL c.agenda.slots]=some (SL c.agenda.slots):=rfl;have a2:RF.ev .agg [.v (.int .i64 0),.v (.int .i64 0)]=some (R ⟨0,0⟩):=rfl;refine am ?_;unfold k76;have w:∀a b:Nat,a<=10000->b<=10000->IntKind.i64.wrap ((a:Int)+(b:Int))=((a+b:Nat):Int):=λa b ha hb=>by rw[cI (by omega) (by omega)];omega
 simp only[ay,cZ,nP,pS,sAG,sSL,gM,c3,th,jx,fA,fE,mo,jT,mn,jU,a2,Ra,EV,ai,Ut,aa];rw[w _ _ (by omega) (by omega),w _ _ (by omega) (by omega),w _ _ (by omega) (by omega),w _ _ (by omega) (by omega),w _ _ (by omega) (by omega),w _ _ (by omega) (by omega),w _ _ (by omega) (by omega)];obtain⟨n,p,⟨nx,cl⟩,⟨⟨u,ud,f⟩,hp,wh⟩,d⟩:=c;simp only at*;by_cases e1:n=⟨0,0⟩
 .by_cases e2:nx=0
  .rw[ad e1,ad e2]
   congr 4
   refine cD.2 ?_;subst e1;subst e2;unfold zC;simp only[Clock.mk.injEq,Certs.mk.injEq,Agenda.mk.injEq,Slots.mk.injEq,fJ,<-cH];omega
  .rw[ad e1,ac e2,ak (λh=>e2 (by cases h;rfl))]
 .rw[ac e1,ak (λh=>e1 (by cases h;rfl))]
def kG (c:Choice):Clock:=if c.tag=1 then c.heap.clock else if c.tag=2 then c.tourn.clock else if c.tag=3 then c.heater.clock else c.hanger.clock
section
variable (c:Choice)
def pK1:RF.ev (.part 1 11) [CHO c]=some (CL c.heap.clock):=rfl
def pK2:RF.ev (.part 13 11) [CHO c]=some (CL c.tourn.clock):=rfl
def pK3:RF.ev (.part 26 11) [CHO c]=some (CL c.heater.clock):=rfl
def pK4:RF.ev (.part 39 11) [CHO c]=some (CL c.hanger.clock):=rfl
def agi:RF.ev (.cell 12) [CHO c]=some (sl I1 c.heap.heap):=rfl
def agj:RF.ev (.cell 24) [CHO c]=some (sl I1 c.tourn.brk.places):=rfl
def agk:RF.ev (.cell 25) [CHO c]=some (sl I1 c.tourn.brk.wins):=rfl
def agl:RF.ev (.cell 37) [CHO c]=some (.i64 c.heater.tree.root):=rfl
def agm:RF.ev (.cell 38) [CHO c]=some (sl dD c.heater.tree.nodes):=rfl
def agn:RF.ev (.cell 50) [CHO c]=some (sl I1 c.hanger.heap):=rfl
end
def u8E (a b:Int):RF.ev (.bin .eql) [.v (.int .u8 a),.v (.int .u8 b)]=some (.v (.bool (decide (a=b)))):=rfl
def d66 (c:Choice):∃N,den (bL D) N k66 [] [CHO c]=some [CL (kG c)]:=by
 refine⟨1,?_⟩;unfold k66 kG;simp[gN,cCH,pK1,pK2,pK3,pK4,EV]
 grind
def c66 (c:Choice):Ans D 65 [CHO c] [CL (kG c)]:=an (d66 c)
def c13 (c:Choice):Ans D 22 [CHO c] [CL (kG c)]:=an (d66 c)
def vu (c:Choice):Prop:=(c.tag≠1->c.heap=zKH)/\(c.tag≠2->c.tourn=zKT)/\(c.tag≠3->c.heater=zHT)/\(c.tag≠4->c.hanger=zKH)
def fw (c:Choice):Prop:=if c.tag=1 then iG c.heap else if c.tag=2 then eZ c.tourn else if c.tag=3 then jI c.heater else if c.tag=4 then jH c.hanger else False
def qD (c:Choice):Prop:=vu c/\ fw c/\ cO (kG c).now=0
structure Cho64 (c:Choice):Prop where
 tag:0<=c.tag/\ c.tag<=255
 h1:fF c.heap.clock
 h2:fF c.tourn.clock
 h3:fF c.heater.clock
 h4:fF c.hanger.clock
def Xm {c:Choice}(h:Cho64 c):fF (kG c):=by
 unfold kG;split
 .exact h.h1
 split
 .exact h.h2
 split
 .exact h.h3
 .exact h.h4
def An {c:Choice}(h:gCh c=false):gKh c.heap=false/\ gKt c.tourn=false/\ gHt c.heater=false/\ gKh c.hanger=false:=by
 unfold gCh at h
 grind
def sI (b:Bool)(e:Int):Int:=if b=false then 8 else if e≠0 then 8 else 0
open Classical in
def E8 {c:Choice}(ha:vu c):sI (decide (fw c)) (cO (kG c).now)=okE (decide (qD c)):=by
 unfold sI;by_cases h1:fw c
 .rw[aq h1,ac (by simp)];by_cases h2:cO (kG c).now=0
  .rw[ac (λg=>g h2),aq (show qD c from⟨ha,h1,h2⟩)];rfl
  .rw[ad h2,ak (λh=>h2 h.2.2)];rfl
 .rw[ak h1,ad rfl,ak (λh=>h1 h.2.1)];rfl
def usedB (c:Choice):Nat->Bool
 |0=>!decide (c.heap=zKH)
 |1=>!decide (c.tourn=zKT)
 |2=>!decide (c.heater=zHT)
 |_=>!decide (c.hanger=zKH)
def C8 {c:Choice}(ht:0<=c.tag/\ c.tag<=255):(∀i:Nat,i<4->¬(usedB c i=true/\((i+1:Nat):Int)≠c.tag))↔vu c:=by
 unfold vu;constructor
 .intro h;have h0:=h 0 (by omega);have h1:=h 1 (by omega);have h2:=h 2 (by omega);have h3:=h 3 (by omega);simp[usedB] at h0 h1 h2 h3
  grind
 .rintro⟨h0,h1,h2,h3⟩ i hi ⟨hu,hne⟩
  match i,hi with
  |0,_=>simp[usedB] at hu;exact hu (h0 (λe=>hne (by omega)))
  |1,_=>simp[usedB] at hu;exact hu (h1 (λe=>hne (by omega)))
  |2,_=>simp[usedB] at hu;exact hu (h2 (λe=>hne (by omega)))
  |3,_=>simp[usedB] at hu;exact hu (h3 (λe=>hne (by omega)))
open Classical in
def e26 {c:Choice}(h64:Cho64 c)(hg:gCh c=false){e2 e3 e4 e5:PV}:den (bL D) 1001 LO [] [CHO c,CHO c,e2,e3,e4,e5]=some [.i64 (sI (decide (fw c)) (cO (kG c).now))]:=by
 obtain⟨g1,g2,g3,g4⟩:=An hg;have fin:∀(x:Int) (p:Prop),x=okE (decide p)->(fw c↔p)->den (bL D) 1001 LN [] [CHO c,CHO c,e2,e3,e4,e5,.v (.int .u8 c.tag),.v (.bool (decide (c.tag=1))),.i64 x]=some [.i64 (sI (decide (fw c)) (cO (kG c).now))]:=λx p hx hp=>by
  subst hx;unfold LN sI;simp only[ay,EV,i8,aE,aj,phi (c66 c),gM,phi (c44 (Xm h64).1)]
  grind
 unfold LO;simp only[ay,cCH,u8E,KY,KZ,K3,K4,EV,aa,phi (c77 h64.h1 g1),phi (c78 h64.h2 g2),phi (c79 h64.h3 g3),phi (c80 h64.h4 g4),Un,Uo,Up];by_cases t1:c.tag=1
 .rw[ad t1];exact fin _ _ rfl (by unfold fw;rw[ad t1])
 rw[ac t1];by_cases t2:c.tag=2
 .rw[ad t2];exact fin _ _ rfl (by unfold fw;rw[ac t1,ad t2])
 rw[ac t2];by_cases t3:c.tag=3
 .rw[ad t3];exact fin _ _ rfl (by unfold fw;rw[ac t1,ac t2,ad t3])
 rw[ac t3];by_cases t4:c.tag=4
 .rw[ad t4];exact fin _ _ rfl (by unfold fw;rw[ac t1,ac t2,ac t3,ad t4])
 rw[ac t4];exact fin 8 False (by simp;rfl) (by unfold fw;rw[ac t1,ac t2,ac t3,ac t4])
def agU (a b c d:Bool):RF.ev .agg [.v (.bool a),.v (.bool b),.v (.bool c),.v (.bool d)]=some (.agg [.v (.bool a),.v (.bool b),.v (.bool c),.v (.bool d)]):=rfl
open Classical in
def f26 {c:Choice}(h64:Cho64 c)(hg:gCh c=false){b1 b2 b3 b4:Bool}(h1:b1=usedB c 0)(h2:b2=usedB c 1)(h3:b3=usedB c 2)(h4:b4=usedB c 3):den (bL D) 1001 LQ [] [CHO c,CHO c,.v (.bool b1),.v (.bool b2),.v (.bool b3),.v (.bool b4)]=some [.i64 (okE (decide (qD c)))]:=by
 obtain⟨t1,t2⟩:=h64.tag;have wt:IntKind.i64.wrap c.tag=c.tag:=cI (by omega) (by omega);unfold LQ;simp only[EV];refine(eV (m:=1001) (n:=4) (P:=λi=>¬(usedB c i=true/\((i+1:Nat):Int)≠c.tag)) (st:=λi=>[.i64 (i:Int)]) (r:=some [.i64 8]) (fin:=some [.i64 (sI (decide (fw c)) (cO (kG c).now))]) (λi self hi _=>?_) (λ_ self=>?_) (by omega)).trans ?_
 .have hu:RF.ev (.aix 1 4 0) [.agg [.v (.bool b1),.v (.bool b2),.v (.bool b3),.v (.bool b4)],.v (.int .i64 (i:Int))]=some (.v (.bool (usedB c i))):=by
   match i,hi with
   |0,_=>rw[h1];rfl
   |1,_=>rw[h2];rfl
   |2,_=>rw[h3];rfl
   |3,_=>rw[h4];rfl
  have l4:decide ((i:Int)<4)=true:=aq (by omega);unfold LP;simp only[ay,cCH,agU,hu,EV,l4,da,az,wt,Uq,up1 (show i<1000000000 by omega)]
  cases usedB c i with
  |false=>simp
  |true=>
   by_cases e:((i+1:Nat):Int)=c.tag
   .simp[e]
   .simp[e]
 .unfold LP;simp only[EV,show decide (((4:Nat):Int)<4)=false from rfl,aw,ax]
  exact e26 h64 hg
 .by_cases ha:vu c
  .rw[ad ((C8 ⟨t1,t2⟩).2 ha),E8 ha]
  .rw[ac (λh=>ha ((C8 ⟨t1,t2⟩).1 h)),ak (λh:qD c=>ha h.1)];rfl
set_option maxHeartbeats 4000000 in
open Classical in
def c26 {c:Choice}(h64:Cho64 c)(hg:gCh c=false):Ans D 27 [CHO c] [.i64 (okE (decide (qD c)))]:=by
 obtain⟨g1,g2,g3,g4⟩:=An hg;have z1:=phi (c76 (tR g1).1);have z2:=phi (c76 (wY g2).1);have z3:=phi (c76 (EW g3).1);have z4:=phi (c76 (tR g4).1);have w:∀a b:Nat,a<=10000->b<=10000->IntKind.i64.wrap ((a:Int)+(b:Int))=((a+b:Nat):Int):=λa b ha hb=>by rw[cI (by omega) (by omega)];omega
 have w1:=w c.tourn.brk.places.length c.tourn.brk.wins.length (by have:=wY g2;omega) (by have:=wY g2;omega);have p0:∀n:Nat,decide ((0:Int)<(n:Int))=decide (0<n):=λn=>cD.2 (by omega);have u1:(c.heap.clock=zC->decide (0<c.heap.heap.length)=usedB c 0)/\(¬c.heap.clock=zC->true=usedB c 0):=by
  unfold usedB zKH;obtain⟨t,⟨k,l⟩,b,d,e⟩:=c;simp only[KHeap.mk.injEq];refine⟨λh=>?_,λh=>by simp[h]⟩;cases l<;>simp[h]
 have u2:(c.tourn.clock=zC->decide (0<c.tourn.brk.places.length+c.tourn.brk.wins.length)=usedB c 1)/\(¬c.tourn.clock=zC->true=usedB c 1):=by
  unfold usedB zKT;obtain⟨t,b,⟨k,⟨p,l⟩⟩,d,e⟩:=c;simp only[KTourn.mk.injEq,Brk.mk.injEq];refine⟨λh=>?_,λh=>by simp[h]⟩;cases p<;>cases l<;>simp[h]<;>omega
 have u3:(c.heater.clock=zC->c.heater.tree.root=0->decide (0<c.heater.tree.nodes.length)=usedB c 2)/\(¬c.heater.clock=zC->true=usedB c 2)/\(¬c.heater.tree.root=0->true=usedB c 2):=by
  unfold usedB zHT;obtain⟨t,b,d,⟨k,⟨p,l⟩⟩,e⟩:=c;simp only[Heater.mk.injEq,Tree.mk.injEq];refine⟨λh h'=>?_,λh=>by simp[h],λh=>by simp[h]⟩;cases l<;>simp[h,h']
 have u4:(c.hanger.clock=zC->decide (0<c.hanger.heap.length)=usedB c 3)/\(¬c.hanger.clock=zC->true=usedB c 3):=by
  unfold usedB zKH;obtain⟨t,b,d,e,⟨k,l⟩⟩:=c;simp only[KHeap.mk.injEq];refine⟨λh=>?_,λh=>by simp[h]⟩;cases l<;>simp[h]
 refine an ⟨1001,?_⟩;unfold k26;by_cases y1:c.heap.clock=zC<;>by_cases y2:c.tourn.clock=zC<;>by_cases y3:c.heater.clock=zC<;>by_cases y4:c.hanger.clock=zC<;>by_cases y5:c.heater.tree.root=0
 all_goals
  first|rw[aq y1] at z1|rw[ak y1] at z1
  first|rw[aq y2] at z2|rw[ak y2] at z2
  first|rw[aq y3] at z3|rw[ak y3] at z3
  first|rw[aq y4] at z4|rw[ak y4] at z4
  simp only[ay,gN,pK1,pK2,pK3,pK4,agi,agj,agk,agl,agm,agn,z1,z2,z3,z4,EV,ai,w1,p0,y5,aA,aY,aJ,bZ,aw,az,ax,cw];refine f26 h64 hg ?_ ?_ ?_ ?_
 all_goals first
  |exact u1.1 y1
  |exact u1.2 y1
  |exact u2.1 y2
  |exact u2.2 y2
  |exact u3.1 y3 y5
  |exact u3.2.1 y3
  |exact u3.2.2 y5
  |exact u4.1 y4
  |exact u4.2 y4
open Classical in
def e27 {c:Choice}(h64:Cho64 c)(hg:gCh c=false){b:Bool}(hb:b=decide (¬vu c)):den (bL D) 1001 LM [] [CHO c,CHO c,.v (.bool b)]=some [.i64 (okE (decide (qD c)))]:=by
 obtain⟨g1,g2,g3,g4⟩:=An hg;unfold LM;by_cases ha:vu c
 rotate_left
 .rw[hb,aq ha,ak (λh:qD c=>ha h.1)];simp only[EV,az];rfl
 rw[hb,ak (λh=>h ha),<-E8 ha];have fin:∀(x:Int) (p:Prop),x=okE (decide p)->(fw c↔p)->den (bL D) 1001 LL [] [CHO c,CHO c,.v (.bool false),.v (.int .u8 c.tag),.v (.bool (decide (c.tag=1))),.i64 x]=some [.i64 (sI (decide (fw c)) (cO (kG c).now))]:=λx p hx hp=>by
  subst hx;unfold LL sI;simp only[ay,EV,i8,aE,aj,phi (c13 c),gM,phi (c64 (Xm h64).1)];by_cases hp':p
  .rw[aq hp',ad rfl,ac (show¬¬fw c fromλg=>g (hp.2 hp'))]
   by_cases e:cO (kG c).now=0<;>simp[e]
  .rw[ak hp',ac (by simp),ad (λh=>hp' (hp.1 h))]
 simp only[ay,cCH,u8E,KY,KZ,K3,K4,EV,aw,ax,aa,phi (c81 h64.h1 g1),phi (c82 h64.h2 g2),phi (c83 h64.h3 g3),phi (c84 h64.h4 g4),Uk,Ul,Um];by_cases t1:c.tag=1
 .rw[ad t1];exact fin _ _ rfl (by unfold fw;rw[ad t1])
 rw[ac t1];by_cases t2:c.tag=2
 .rw[ad t2];exact fin _ _ rfl (by unfold fw;rw[ac t1,ad t2])
 rw[ac t2];by_cases t3:c.tag=3
 .rw[ad t3];exact fin _ _ rfl (by unfold fw;rw[ac t1,ac t2,ad t3])
 rw[ac t3];by_cases t4:c.tag=4
 .rw[ad t4];exact fin _ _ rfl (by unfold fw;rw[ac t1,ac t2,ac t3,ad t4])
 rw[ac t4];exact fin 8 False (by simp;rfl) (by unfold fw;rw[ac t1,ac t2,ac t3,ac t4])
end Go.Proofs.YtoeigdpfcnaaeaaGreat
