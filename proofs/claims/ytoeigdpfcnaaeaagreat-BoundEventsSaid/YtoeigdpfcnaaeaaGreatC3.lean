import Derived.Test.YtoeigdpfcnaaeaaGreatC2
import Derived.Test.YtoeigdpfcnaaeaaGreatP1
set_option linter.unusedVariables false
set_option linter.unusedSimpArgs false
set_option linter.defProp false
noncomputable section
namespace Go.Proofs.YtoeigdpfcnaaeaaGreat
open Go.Sym Bnd
set_option maxRecDepth 100000
def Gw {l:List Pt}{t:Rt}(h:okF l)(ht:aS t){N:Nat}{f0:JT}{e0 e1 e2:PV}{b:Nat}(hb:b<=l.length):∀(m i:Nat) (best:Option Nat) (n:Nat),i+m=b->m<n->(∀k,best=some k->k<i)->
  dl (bx D) (N+1) yN [f0] [e0,e1,e2,.i64 (b:Int),F l,R t] n [.i64 (lk best),.i64 (i:Int)]=f0 [.i64 (lk (qB (ldF t l) m i best))]
 |0,i,best,n,hi,hn,_=>by
  obtain⟨n,rfl⟩:∃n',n=n'+1:=⟨n-1,by omega⟩;rw[bu];unfold yN qB;simp only[EV,aa];rw[ac (by omega)]
 |m+1,i,best,n,hi,hn,hbest=>by
  obtain⟨n,rfl⟩:∃n',n=n'+1:=⟨n-1,by omega⟩;have hl:=h.1;obtain⟨p,hp⟩:∃p,l[i]?=some p:=⟨l[i]'(by omega),ai _⟩;have ih:=λbest' hb'=>Gw h ht (N:=N) (f0:=f0) (e0:=e0) (e1:=e1) (e2:=e2) hb m (i+1) best' n (by omega) (by omega) hb';rw[bu];generalize hkk:yN=kk at ih;subst hkk;unfold yN qB;have u1:=up1 (show i<1000000000 by omega)
  simp[EV];rw[ad (by omega)];cases best with
  |none=>
   have ih:=ih (some i) (λk hk=>by simp at hk;omega);simp only[lk] at ih;simp[EV,JF,Cq,u1];exact ih
  |some q=>
   have hq:q<i:=hbest q rfl;obtain⟨r,hr⟩:∃r,l[q]?=some r:=⟨l[q]'(by omega),ai _⟩;have g0:decide ((q:Int)<0)=false:=ak (by omega);simp[lk,EV,cv,aT hp (b6 _),aM hp,aT hr (b6 _),aM hr,gu,phi (Dq (dr h hp) (dr h hr) ht),<-zO hp hr,JF];cases hL:ldF t l i q with
   |true=>
    have ih:=ih (some i) (λk hk=>by simp only[bZ] at hk;omega);simp only[lk] at ih;simp only[az,EV,Cq,u1];exact ih
   |false=>
    have ih:=ih (some q) (λk hk=>by simp only[bZ] at hk;omega);simp only[lk] at ih;simp only[au,aw,EV,Cq,u1];exact ih
def aiM {l:List Pt}{t:Rt}(h:okF l)(ht:aS t){a b:Nat}(hab:a<=b)(hb:b<=l.length):Ans D 391 [F l,R t,.i64 (a:Int),.i64 (b:Int)] [.i64 (lk (xM (ldF t l) a b))]:=by
 have hl:=h.1;refine an ⟨1001,?_⟩;unfold aeI;simp[aY,ba,EV];refine(Gw h ht (N:=1000) hb (b-a) a none 1001 (by omega) (by omega) (by simp)).trans ?_;rfl
def agm {l:List Nod}{i:Nat}{n:Nod}(h:l[i]?=some n)(r:Int):RF.ev (.set 1) [sl dB l,.v (.int .i64 (i:Int)),.v (.int .i64 r)]=some (sl dB (l.set i ⟨n.id,r,n.right⟩)):=by
 rw[xH,ad (by omega),aG,a8,h];exact aW (λx=>some (PV.sl x)) (nq (f:=dB) (l:=l) (i:=i) (a:=⟨n.id,r,n.right⟩)).symm
def Ug {l:List Pt}{lk:List (Int×Int)}{e:Nat}{p:Pt}{x:Int×Int}{r:Int}(hp:l[e]?=some p)(hx:lk[e]?=some x):(mkN l lk).set e ⟨p.id,r,x.2⟩=mkN l (lk.modify e λx=>(r,x.2)):=by
 refine c8 λk=>?_;by_cases hk:k<l.length/\ k<lk.length
 .have h1:=ai hk.1;have h2:=ai hk.2;by_cases e':k=e
  .subst e';rw[bv (by simp[mkN];omega)];rw[lQ hp (x:=(r,x.2)) (by rw[gN,hx];rfl)]
  .rw[bB (by omega),lQ h1 h2,lQ h1 (x:=lk[k]) (by rw[eL _ _ (by omega)];exact h2)]
 .rw[bD (by simp[mkN];omega),bD (by simp[mkN];omega)]
def wN {ld:Nat->Nat->Bool}:∀(f a b:Nat) (l:List (Int×Int)),(grow ld f a b l).1.length=l.length
 |0,_,_,_=>rfl
 |f+1,a,b,l=>by
  unfold grow;split
  .rfl
  .simp[wN f]
def PH {ld:Nat->Nat->Bool}{f a b:Nat}{l:List (Int×Int)}(e:xM ld a b=none):grow ld (f+1) a b l=(l,-1):=by
 rw[grow];simp[e]
def PI {ld:Nat->Nat->Bool}{f a b i:Nat}{l rl s:List (Int×Int)}{rr sr:Int}(e:xM ld a b=some i)(h1:grow ld f a i l=(rl,rr))(h2:grow ld f (i+1) b (rl.modify i λx=>(rr,x.2))=(s,sr)):grow ld (f+1) a b l=(s.modify i λx=>(x.1,sr),(i:Int)):=by
 rw[grow];simp[e,h1,h2]
def T0:PV:=TR ⟨0,[]⟩
def cT0:RF.ev (.cell 0) [T0]=some (.i64 0):=rfl
def aiN:RF.ev (.shape 2) [T0]=some T0:=rfl
def ZJ:RF.ev .agg [.v (.int .i64 0),.sl []]=some T0:=rfl
def Uh {l:List Pt}{t:Rt}(h:okF l)(ht:aS t):∀(f a b:Nat) (ks:List (Int×Int)),b-a<f->a<=b->b<=l.length->ks.length=l.length->
  Ans D 321 [F l,R t,T0,.i64 (a:Int),.i64 (b:Int),sl dB (mkN l ks)] [.i64 (grow (ldF t l) f a b ks).2,sl dB (mkN l (grow (ldF t l) f a b ks).1)]
 |0,a,b,ks,hf,_,_,_=>by omega
 |f+1,a,b,ks,hf,hab,hb,hk=>by
  have hl:=h.1;have ht1:=KY (gj (t:=t) h.2.2) hb hab;refine am ?_;unfold adD;simp only[aiN,aY,ba,EV,ah,phi (aiM h ht hab hb),gT l ks (by omega),hk];cases e:xM (ldF t l) a b with
  |none=>
   rw[PH e];simp only[lk,EV,Jc];rw[ac (by decide)]
  |some i=>
   rw[e] at ht1;rcases ht1 with⟨_,t1⟩|⟨k,t1,t2⟩
   .simp[lk] at t1
   have hik:i=k:=by simp[lk] at t1;omega
   subst hik;obtain⟨t3,t4,_⟩:=t2;have u1:=up1 (show i<1000000000 by omega)
   have hgl:=wN (ld:=ldF t l) f a i ks;have p1:=phi (Uh h ht f a i ks (by omega) t3 (by omega) hk);generalize hg1:grow (ldF t l) f a i ks=r at hgl p1;obtain⟨rl,rr⟩:=r;simp only at hgl p1;obtain⟨p,hp⟩:∃p,l[i]?=some p:=⟨l[i]'(by omega),ai _⟩;obtain⟨x,hx⟩:∃x,rl[i]?=some x:=⟨rl[i]'(by omega),ai _⟩;have s1:=agm (lQ hp hx) rr;simp only at s1;rw[Ug hp hx] at s1;have hgl1:(rl.modify i λx=>(rr,x.2)).length=l.length:=by rw[dS];omega
   have p2:=phi (Uh h ht f (i+1) b _ (by omega) (by omega) hb hgl1);have hgl2:=wN (ld:=ldF t l) f (i+1) b (rl.modify i λx=>(rr,x.2));simp only[lk,EV,cT0,ZJ,p1,ixM (show i<l.length by omega),s1,u1,p2]
   generalize hg2:grow (ldF t l) f (i+1) b (rl.modify i λx=>(rr,x.2))=s at hgl2 p2;obtain⟨sl',sr⟩:=s;simp only at hgl2;obtain⟨y,hy⟩:∃y,sl'[i]?=some y:=⟨sl'[i]'(by omega),ai _⟩;have s2:=Wj (lQ hp hy) sr;simp only at s2;rw[LP hp hy] at s2;rw[PI e hg1 hg2];simp only[s2,Jc,EV];exact ad (aq (by omega))
def PJ {l:List Pt}{i:Nat}{p:Pt}(hp:l[i]?=some p):mkN l (List.replicate i (0,0))++[⟨p.id,0,0⟩]=mkN l (List.replicate (i+1) (0,0)):=by
 rw[xZ];exact DB (x:=(0,0)) (by rw[aQ];exact hp)
def aiO {l:List Pt}{t:Rt}(h:okF l)(ht:aS t):Ans D 236 [F l,R t] [TR (cart t l)]:=by
 have hl:=h.1;refine an ⟨1001,?_⟩;unfold acA;simp only[ay,aY,ba,EV];have e0:([PV.sl [],.v (.int .i64 0),.v (.int .i64 0)]:List PV)=[sl dB (mkN l (List.replicate 0 (0,0))),.i64 ((0:Nat):Int),.i64 ((0:Nat):Int)]:=by simp[mkN]
 rw[e0];refine(eG (m:=1001) (n:=l.length) (st:=λi=>[sl dB (mkN l (List.replicate i (0,0))),.i64 (i:Int),.i64 (i:Int)]) (fin:=some [TR (cart t l)]) (λi self hi=>?_) (λself=>?_) (by omega))
 .obtain⟨p,hp⟩:∃p,l[i]?=some p:=⟨l[i],ai _⟩;have ap:RF.ev (.app 24 3) [sl dB (mkN l (List.replicate i (0,0))),.v (.int .i64 (i:Int)),sl dB [⟨p.id,0,0⟩]]=some (sl dB (mkN l (List.replicate (i+1) (0,0)))):=by
   have:=eF (f:=dB) (l:=mkN l (List.replicate i (0,0))) (k:=[⟨p.id,0,0⟩]) (bytes:=24) (z:=3) (by rw[gT _ _ (by rw[aQ];omega),aQ];simp;omega) ol;rw[gT _ _ (by rw[aQ];omega),aQ] at this;rw[this,PJ hp]
  unfold IC;simp only[ay,cv,EV,ah,aa,bj hi,aT hp (b6 _),aM hp,rT,Uc,bsN,Nj,ap,gT l (List.replicate (i+1) ((0:Int),(0:Int))) (by rw[aQ];omega),aQ,up1 (show i<1000000000 by omega)]
 .have p1:=phi (Uh h ht (l.length+1) 0 l.length (List.replicate l.length (0,0)) (by omega) (by omega) (aB _) (by rw[aQ]));have hgl:=wN (ld:=ldF t l) (l.length+1) 0 l.length (List.replicate l.length (0,0));rw[aQ] at hgl;have L:=gj (t:=t) h.2.2;obtain⟨g1,g2,_,g4⟩:=sI L (l.length+1) 0 l.length (List.replicate l.length (0,0)) (by omega) (by rw[aQ]) ⟨by omega,aB _,.inl rfl,.inl rfl⟩;have hu:=Fc L (nI L) ⟨g1,g2,λk x hx=>g4 k x (by omega) (by have:=aO hx;omega) hx⟩;have hs:=bI (f:=dB) (l:=mkN l (grow (ldF t l) (l.length+1) 0 l.length (List.replicate l.length (0,0))).1);rw[gT _ _ (by omega),hgl] at hs;unfold IC;have ag:RF.ev .agg [.i64 (grow (ldF t l) (l.length+1) 0 l.length (List.replicate l.length (0,0))).2,sl dB (mkN l (grow (ldF t l) (l.length+1) 0 l.length (List.replicate l.length (0,0))).1)]=some (TR (cart t l)):=by
   rw[<-hu.1,<-hu.2];rfl
  simp only[gg] at p1;simp only[ay,cv,EV,ah,aa,bK,Rq,ZJ,p1,hs,ag]
def vp {l:List Pt}{t:Rt}(h:okF l):∀x∈(cmake (ldF t l) l.length).2.2,x.1<l.length/\ x.2<l.length:=λx hx=>by
 obtain⟨k,hk⟩:=aK.1 hx;have C:=nI (gj (t:=t) h.2.2);obtain⟨a,b,⟨a1,_⟩,⟨b1,b2,_⟩,l1,l2⟩:=C.2.2 k x hk;constructor
 .rcases l1 with⟨_,l1⟩|⟨i,l1,t1,t2,_⟩
  .omega
  .have:=aO hk;have:=C.2.1;omega
 .rcases l2 with⟨_,l2⟩|⟨i,l2,t1,t2,_⟩<;>omega
def jl {l:List Pt}{t:Rt}(h:okF l):(cart t l).n.length=l.length:=by
 unfold cart;have hlen:=(jh (gj (t:=t) h.2.2) l.length (by omega)).len;rw[gT _ _ (by omega)];exact hlen
def rX {l:List Pt}{t:Rt}(h:okF l){i k:Nat}{x:Nod}(hx:(cart t l).n[k]?=some x)(hc:nodC i x=true):Below (cmake (ldF t l) l.length).2.2 i k:=by
 have hk:=aO hx;rw[jl h] at hk;have hlen:=(jh (gj (t:=t) h.2.2) l.length (by omega)).len;obtain⟨y,hy⟩:∃y,(cmake (ldF t l) l.length).2.2[k]?=some y:=⟨_,ai (by omega)⟩;obtain⟨n,a1,a2,a3,_⟩:=lg h hy;refine⟨y,hy,?_⟩;unfold nodC at hc
 grind
def mL {l:List Pt}{t:Rt}(h:okF l):Fu (cart t l).n:=λi k k' x x' h1 h2 h3 h4=>
 Dd (gj (t:=t) h.2.2) (nI (gj (t:=t) h.2.2)) (rX h h1 h2) (rX h h3 h4)
def sC {l:List Pt}{t:Rt}(h:okF l){i:Nat}{p:Pt}(hp:l[i]?=some p):uM (cart t l).n i=p.id:=by
 have hlen:=(jh (gj (t:=t) h.2.2) l.length (by omega)).len;have:=aO hp;obtain⟨y,hy⟩:∃y,(cmake (ldF t l) l.length).2.2[i]?=some y:=⟨_,ai (by omega)⟩;obtain⟨n,a1,a2,a3,q,hq,e⟩:=lg h hy;rw[sQ a1,e,hp.symm.trans hq|>qi]
def Ez {l:List Nod}{n:Nat}{e:Crt}(h:e∈edgsT l n):∃i k,i<n/\ l.findIdx? (nodC i)=some k/\ e=⟨uM l i,uM l k⟩:=by
 obtain⟨i,hi,he⟩:=oJ.1 h;unfold uN at he
 grind
def ig {l:List Pt}{t:Rt}(h:okF l){e:Crt}(he:e∈edgsT (cart t l).n l.length):inF l e.j=true/\ inF l e.h=true/\ leads t (bh l e.h) (bh l e.j)=true:=by
 obtain⟨i,k,hi,hf,rfl⟩:=Ez he;obtain⟨hk,hc,_⟩:=bL.1 hf;have hb:=rX h (ai hk) hc;rw[jl h] at hk;have hp:=ai hi;have hq:=ai hk;obtain⟨hl,_⟩:=uW (gj (t:=t) h.2.2) (nI (gj (t:=t) h.2.2)) hb;rw[zO hq hp] at hl;rw[sC h hp,sC h hq,io h hp,io h hq];exact⟨gO.2 (bk.2 ⟨_,ax hp,rfl⟩),gO.2 (bk.2 ⟨_,ax hq,rfl⟩),hl⟩
def rY {l:List Pt}{t:Rt}(h:okF l):∀n,n<=l.length->(edgsT (cart t l).n n).Nodup
 |0,_=>by simp[edgsT]
 |n+1,hn=>by
  rw[rW];have ih:=rY (t:=t) h n (by omega);unfold uN;split
  .rw[eY];refine⟨ih,by simp,λa ha b hb e=>?_⟩;subst e;obtain⟨i,k,hi,hf,e⟩:=Ez ha;rw[cJ] at hb;rw[e] at hb;simp at hb;have hp:=ai (show i<l.length by omega)
   have hq:=ai (show n<l.length by omega)
   rw[sC h hp,sC h hq] at hb;have:=jM h.2.2 hi hp hq;omega
  .rw[bc];exact ih
def Nl {l:List Pt}{t:Rt}(h:okF l)(ht:aS t):Ans D 143 [F l,R t] [TR (cart t l)]:=by
 refine am ?_;unfold abI;simp[aY,ba,phi (aiO h ht),pq,EV]
def jO (k:Heater):Prop:=bJ k.c/\ cart k.c.n k.c.p=k.t/\ JustR k.c (edgsT (cart k.c.n k.c.p).n k.c.p.length)
def Bw {bb:Nat}{k:Heater}(h:gHt bb k=false):gCl bb k.c=false/\ k.t.n.length<=70:=by
 unfold gHt at h
 grind
open Classical in
def c83 {bb:Nat}{k:Heater}(h64:fb k.c)(hg:gHt bb k=false):Ans D 63 [HT k] [.i64 (okE (decide (jO k)))]:=by
 obtain⟨g1,g2⟩:=Bw hg;have no:∀h:¬jO k,(some [PV.v (.int .i64 8)]:Option (List PV))=some [.i64 (okE (decide (jO k)))]:=λh=>by rw[ak h];rfl
 have pHT2:RF.ev (.part 2 1) [HT k]=some (F k.c.p):=rfl;have pHT0:RF.ev (.part 0 2) [HT k]=some (R k.c.n):=rfl;refine an ⟨1001,?_⟩;unfold k83;simp only[ay,mJ,pHT,EV,phi (M9 h64 g1),jG,aE,aj];by_cases h1:bJ k.c
 .have hF:=h1.2.1;have hl:=hF.1;have hnl:=jl (t:=k.c.n) hF;rw[aq h1,ad rfl];simp only[ay,pHT,pHT2,pHT0,TX,pq,phi (Nl hF h64.1),phi (aih (s:=cart k.c.n k.c.p) (t:=k.t) (by omega)),EV,aE,aj];by_cases h2:cart k.c.n k.c.p=k.t
  .rw[ac (by simp[h2])];have hel:=mK (cart k.c.n k.c.p).n k.c.p.length;have e178:=phi (Ue (x:=cart k.c.n k.c.p) (mL hF) (by omega));rw[hnl] at e178;simp only[ay,EV,e178,phi (Nf (c:=k.c) (edges:=edgsT (cart k.c.n k.c.p).n k.c.p.length) hF h64.1 (by omega) (by have:=jd g1;omega) (λe he=>⟨(ig hF he).1,(ig hF he).2.1⟩)),aE,aj];by_cases h3:JustR k.c (edgsT (cart k.c.n k.c.p).n k.c.p.length)
   .rw[ac (by simp[h3]),aq (show jO k from⟨h1,h2,h3⟩)];rfl
   .rw[ad h3];exact no (λh=>h3 h.2.2)
  .rw[ad h2];exact no (λh=>h2 h.2.1)
 .rw[ak h1,ac (by simp)];exact no (λh=>h1 h.1)
open Classical in
def c79 {bb:Nat}{k:Heater}(h64:fb k.c)(hg:gHt bb k=false):Ans D 70 [HT k] [.i64 (okE (decide (jO k)))]:=by
 obtain⟨g1,g2⟩:=Bw hg;have no:∀h:¬jO k,(some [PV.v (.int .i64 8)]:Option (List PV))=some [.i64 (okE (decide (jO k)))]:=λh=>by rw[ak h];rfl
 have pHT2:RF.ev (.part 2 1) [HT k]=some (F k.c.p):=rfl;have pHT0:RF.ev (.part 0 2) [HT k]=some (R k.c.n):=rfl;have cHT11:RF.ev (.cell 11) [HT k]=some (.i64 k.t.root):=rfl;have cHT12:RF.ev (.cell 12) [HT k]=some (sl dB k.t.n):=rfl;have cc:=jd g1;refine an ⟨1001,?_⟩;unfold k79;simp only[ay,mJ,pHT,EV,phi (Nd h64 g1),jG,aE,aj];by_cases h1:bJ k.c
 .have hF:=h1.2.1;have hl:=hF.1;have hnl:=jl (t:=k.c.n) hF;have hel:=mK (cart k.c.n k.c.p).n k.c.p.length;rw[aq h1,ad rfl];simp only[ay,pHT,pHT2,pHT0,cHT11,cHT12,TW,nO,pq,phi (Gu hF h64.1 h1.1 (mL hF) (vp hF)),phi (aiz (l:=(cart k.c.n k.c.p).n) (k:=k.t.n) (by omega)),EV,aE,aj];have hJ:=tT (c:=k.c) h1.2.2.1 (rY (t:=k.c.n) hF k.c.p.length (by omega)) (λe he=>(ig hF he).2.2);by_cases h2:(cart k.c.n k.c.p).root=k.t.root
  .rw[ac (by simp[h2])];by_cases h3:(cart k.c.n k.c.p).n=k.t.n
   .rw[ac (by simp[h3])];have h4:cart k.c.n k.c.p=k.t:=by
     generalize cart k.c.n k.c.p=a at h2 h3;obtain⟨a,b⟩:=a;simp_all
    have hJ':jO k↔JustP k.c (edgsT (cart k.c.n k.c.p).n k.c.p.length):=⟨λh=>hJ.2 h.2.2,λh=>⟨h1,h4,hJ.1 h⟩⟩;have hd:decide (jO k)=decide (JustP k.c (edgsT (cart k.c.n k.c.p).n k.c.p.length)):=by
     rw[eC,aa,aa];exact hJ'
    rw[hd];clear hd hJ' hJ;generalize edgsT (cart k.c.n k.c.p).n k.c.p.length=E at hel;simp only[ay,fO,EV,ah];by_cases c1:E.length=k.c.q.l.length
    .rw[ad (aq (by omega))];refine(cL (m:=1001) (l:=k.c.q.l) (p:=λh=>decide (h.c∈E)) (st:=λi=>[.i64 (i:Int)]) (r:=some [.i64 8]) (fin:=some [.i64 0]) (λi a self ha _=>?_) (λ_ self=>?_) (by omega)).trans ?_
     .unfold Od;simp only[ay,fO,aT ha (fL _),aM ha,kY,pHP,phi (yh (l:=E) a.c (by omega)),EV,aa,bj (aO ha),up1 (show i<1000000000 by have:=aO ha;omega),aE,aj]
      by_cases c2:a.c∈E
      .rw[ac (by simp[c2]),ad c2]
      .rw[ad c2,ac c2];unfold FN;simp only[EV];rfl
     .unfold Od Xa FN;simp only[EV,aa,bK];rfl
     .have:(k.c.q.l.all λh=>decide (h.c∈E))=decide (JustP k.c E):=by
       rw[eC,aa];unfold JustP;simp[c1]
      rw[this];cases decide (JustP k.c E)<;>rfl
    .rw[ac (by simp;omega),show decide (JustP k.c E)=false from ak (λh=>c1 h.1)]
     unfold FN;simp only[EV];rfl
   .rw[ad h3];exact no (λh=>h3 (by rw[h.2.1]))
  .rw[ad h2];exact no (λh=>h2 (by rw[h.2.1]))
 .rw[ak h1,ac (by simp)];exact no (λh=>h1 h.1)
def mmX (a b:Int):RF.ev (.mm true) [.v (.int .i64 a),.v (.int .i64 b)]=some (.v (.int .i64 (max a b))):=rfl
def mmN (a b:Int):RF.ev (.mm false) [.v (.int .i64 a),.v (.int .i64 b)]=some (.v (.int .i64 (min a b))):=rfl
def dbl {i:Nat}(h:i<100000000):IntKind.i64.wrap (2*(i:Int))=((2*i:Nat):Int):=by rw[cU (by omega) (by omega)];omega
def up2 {i:Nat}(h:i<1000000000):IntKind.i64.wrap ((i:Int)+2)=((i+2:Nat):Int):=by rw[cU (by omega) (by omega)];rfl
def Gx {i j:Nat}(h:j<=i)(k:i<1000000000):IntKind.i64.wrap ((i:Int)-(j:Int))=((i-j:Nat):Int):=by rw[cU (by omega) (by omega)];omega
def Nn {b:Brk}{i:Nat}(hi:i<b.w.length+b.p.length)(hb:b.w.length+b.p.length<=1000):Ans D 248 [BR b,.i64 (i:Int)] [.i64 (nodeV b.w b.p i)]:=by
 refine am ?_;unfold acJ;by_cases h:i<b.w.length
 .obtain⟨x,hx⟩:∃x,b.w[i]?=some x:=⟨_,ai h⟩;have w:IntKind.i64.wrap ((i:Int)-(b.w.length:Int))=(i:Int)-(b.w.length:Int):=cU (by omega) (by omega);simp only[kD,k9,EV,ah,w,aa,ac (show¬(0:Int)<=(i:Int)-(b.w.length:Int) by omega),aT hx (ct _),aM hx,cZ,Ao hx]
 .obtain⟨x,hx⟩:∃x,b.p[i-b.w.length]?=some x:=⟨_,ai (by omega)⟩;simp[kD,k9,uH,EV,Gx (show b.w.length<=i by omega) (by omega),aT hx (ct _),aM hx,cZ,Em h hx]
def yl {b:Brk}{i:Nat}(hi:i<b.w.length+b.p.length)(hb:b.w.length+b.p.length<=1000):Ans D 234 [BR b,.i64 (i:Int)] [.i64 (nodeV b.w b.p i)]:=by
 refine am ?_;unfold acy;by_cases h:i<b.w.length
 .obtain⟨x,hx⟩:∃x,b.w[i]?=some x:=⟨_,ai h⟩;simp only[kD,k9,EV,ah,aa,bj h,aT hx (ct _),aM hx,cZ,Ao hx]
 .obtain⟨x,hx⟩:∃x,b.p[i-b.w.length]?=some x:=⟨_,ai (by omega)⟩;simp only[kD,k9,uH,EV,ah,Gx (show b.w.length<=i by omega) (by omega),aa,ac (show¬(i:Int)<(b.w.length:Int) by omega),aT hx (ct _),aM hx,cZ,Em h hx]
open Classical in
def aiP {l:List Int}(hl:l.length<=1000):Ans D 233 [sl I1 l] [.bool (decide (¬gK l))]:=by
 refine an ⟨1001,?_⟩;unfold acx;simp only[EV];refine(fI (m:=1001) (n:=l.length) (P:=λi=>∀x,l[i]?=some x->0<=x->∀j,j<i->l[j]?≠some x) (st:=λi=>[.i64 (i:Int)]) (r:=some [.bool true]) (fin:=some [.bool false]) (λi self hi _=>?_) (λhall self=>?_) (by omega)).trans ?_
 .have hx:=eX hi;generalize nthI l i=x at hx;have hP:(∀x',l[i]?=some x'->0<=x'->∀j,j<i->l[j]?≠some x')↔(0<=x->∀j,j<i->l[j]?≠some x):=
   ⟨λh=>h x hx,λh x' e=>by rw[hx] at e;cases e;exact h⟩
  unfold IB;simp only[hP,EV,ah,aa,bj hi];refine(fI (m:=1001) (n:=i) (P:=λj=>0<=x->l[j]?≠some x) (st:=λi=>[.i64 (i:Int)]) (r:=some [.bool true]) (fin:=self [.i64 ((i+1:Nat):Int)]) (λj self' hj _=>?_) (λ_ self'=>?_) (by omega)).trans ?_
  .have hy:=eX (l:=l) (i:=j) (by omega);generalize nthI l j=y at hy;unfold IA;simp only[aT hx (ct _),aM hx,aT hy (ct _),aM hy,cZ,EV,aa,bj hj,Rp,up1 (show j<1000000000 by omega),hy,ne_eq,bZ]
   grind
  .unfold IA;simp only[EV,aa,bK,Ro,up1 (show i<1000000000 by omega)]
  .by_cases hq:0<=x->∀j,j<i->l[j]?≠some x
   .rw[ad hq,ad (λj hj h0=>hq h0 j hj)]
   .rw[ac hq,ac (λh=>hq λh0 j hj=>h j hj h0)]
 .unfold IB;simp only[EV,ah,aa,bK,Rn]
 .by_cases h:gK l
  .rw[ad (show∀i,i<l.length->_ from h),ak (by simpa using h)]
  .rw[ac (show¬∀i,i<l.length->_ from h),aq h]
def Bm (m:List (Int×Bool)):PV:= .sl (m.map λp=>[.i64 p.1]++[.bool p.2])
def ou:List (Int×Bool)->Int->Bool
 |[],_=>false
 |p::m,k=>if p.1=k then p.2 else ou m k
def sR:List (Int×Bool)->Int->Bool->List (Int×Bool)
 |[],k,v=>[(k,v)]
 |p::m,k,v=>if p.1=k then(p.1,v)::m else p::sR m k v
def Gy (k j:Int)(v:Bool):∀m,ou (sR m k v) j=if j=k then v else ou m j
 |[]=>by simp[sR,ou];by_cases h:k=j<;>simp[eq_comm]
 |p::m=>by
  unfold sR;by_cases h:p.1=k
  .rw[ad h];unfold ou;by_cases h2:j=k
   .rw[ad h2,ad (by rw[h,h2])]
   .rw[ac h2,ac (by rw[h];exactλe=>h2 e.symm),ac (by rw[h];exactλe=>h2 e.symm)]
  .rw[ac h];unfold ou;rw[Gy k j v m];by_cases h2:p.1=j
   .rw[ad h2,ad h2,ac (by rw[<-h2];exact h)]
   .rw[ac h2,ac h2]
def Gz (k:Int):∀m:List (Int×Bool),(dW [.i] [.i64 k] (m.map λp=>[.i64 p.1]++[.bool p.2])).map (λo=>o.getD [.bool false])=some [.bool (ou m k)]
 |[]=>by simp[dW,ou,eqN]
 |p::m=>by
  simp only[bY,dW];rw[show List.take [Ck.i].length ([PV.i64 p.fst]++[PV.bool p.snd])=[PV.i64 p.fst] from rfl,show List.drop [Ck.i].length ([PV.i64 p.fst]++[PV.bool p.snd])=[PV.bool p.snd] from rfl,eqN]
  unfold ou;by_cases e:p.1=k
  .rw[aq e,ad e];rfl
  .rw[ak e,ac e];exact Gz k m
def GA (k:Int)(v:Bool):∀m:List (Int×Bool),jS [.i] [.i64 k] [.bool v] (m.map λp=>[.i64 p.1]++[.bool p.2])=some ((sR m k v).map λp=>[.i64 p.1]++[.bool p.2])
 |[]=>by simp[jS,sR,eqN]
 |p::m=>by
  simp only[bY,jS];rw[show List.take [Ck.i].length ([PV.i64 p.fst]++[PV.bool p.snd])=[PV.i64 p.fst] from rfl,eqN]
  unfold sR;by_cases e:p.1=k
  .rw[aq e,ad e];simp
  .rw[ak e,ac e];simp only;rw[GA k v m];rfl
def agn (m:List (Int×Bool))(k:Int):RF.ev (.mget [.i] [.v (.bool false)]) [Bm m,.v (.int .i64 k)]=some (.bool (ou m k)):=by
 have h:=Gz k m;unfold Bm;simp only[RF.ev,show(PV.v (.int .i64 k)).cells=[.i64 k] from rfl]
 cases hg:dW [.i] [.i64 k] (m.map λp=>[.i64 p.1]++[.bool p.2]) with
 |none=>rw[hg] at h;cases h
 |some o=>
  rw[hg] at h;simp at h;cases o with
  |none=>simp only[Option.getD_none] at h;simp[h];rfl
  |some r=>simp at h;subst h;rfl
def Wm (m:List (Int×Bool))(k:Int)(v:Bool):RF.ev (.mset [.i] 1) [Bm m,.v (.int .i64 k),.v (.bool v)]=some (Bm (sR m k v)):=by
 have h:=GA k v m;unfold Bm;simp only[RF.ev,show(PV.v (.int .i64 k)).cells=[.i64 k] from rfl,show(PV.v (.bool v)).cells=[.bool v] from rfl,h]
 rfl
def mAt (l:List Int)(i:Nat):List (Int×Bool):=(l.take i).foldl (λm x=>sR m x (decide (0<=x))) [(-1,false)]
def EA:∀(l:List Int) (m:List (Int×Bool)) (k:Int),ou (l.foldl (λm x=>sR m x (decide (0<=x))) m) k=if k∈l then decide (0<=k) else ou m k
 |[],m,k=>by simp
 |x::l,m,k=>by
  rw[c6,EA l,Gy];by_cases h:k∈l
  .simp[h]
  .by_cases e:k=x
   .subst e;simp
   .simp[h,e]
def XU {l:List Int}{i:Nat}{x:Int}(hx:l[i]?=some x):ou (mAt l i) x=decide (¬∀y,l[i]?=some y->0<=y->∀j,j<i->l[j]?≠some y):=by
 unfold mAt;rw[EA];have e1:(¬∀y,l[i]?=some y->0<=y->∀j,j<i->l[j]?≠some y)↔(x∈l.take i/\ 0<=x):=by
  constructor
  .intro h;simp only[Classical.not_forall,Classical.not_not] at h;obtain⟨y,h1,h2,j,h3,h4⟩:=h;rw[hx] at h1;cases h1;exact⟨aK.2 ⟨j,by rw[iv,ad h3];exact h4⟩,h2⟩
  .rintro⟨h1,h2⟩ h;obtain⟨j,hj⟩:=aK.1 h1
   grind
 rw[show decide (¬∀y,l[i]?=some y->0<=y->∀j,j<i->l[j]?≠some y)=decide (x∈l.take i/\ 0<=x) from c7.2 e1]
 by_cases h:x∈l.take i
 .simp[h]
 .rw[ac h,ak (λe=>h e.1)];unfold ou ou;split<;>rfl
def Ui {l:List Int}{i:Nat}{x:Int}(hx:l[i]?=some x):sR (mAt l i) x (decide (0<=x))=mAt l (i+1):=by
 unfold mAt;rw[cA,hx]
 grind
open Classical in
def ZK {l:List Int}(hl:l.length<=1000):Ans D 245 [sl I1 l] [.bool (decide (gK l))]:=by
 refine an ⟨1001,?_⟩;unfold acI;have e0:RF.ev (.mset [.i] 1) [.sl [],.v (.int .i64 (-1)),.v (.bool false)]=some (Bm (mAt l 0)):=Wm [] (-1) false;simp only[e0,EV,ah];refine(fI (m:=1001) (n:=l.length) (P:=λi=>∀x,l[i]?=some x->0<=x->∀j,j<i->l[j]?≠some x) (st:=λi=>[Bm (mAt l i),.i64 (i:Int)]) (r:=some [.bool false]) (fin:=some [.bool true]) (λi self hi _=>?_) (λhall self=>?_) (by omega)).trans ?_
 .have hx:=eX hi;generalize nthI l i=x at hx;unfold IP;simp only[aT hx (ct _),aM hx,cZ,EV,aa,bj hi,agn,XU hx,Wm,Ui hx,up1 (show i<1000000000 by omega)]
  by_cases hq:∀y,l[i]?=some y->0<=y->∀j,j<i->l[j]?≠some y
  .grind
  .rw[aq hq,ac hq];simp_all
 .unfold IP Rz;simp only[EV,aa,bK];rfl
 .by_cases h:gK l
  .rw[ad (show∀i,i<l.length->_ from h),aq h]
  .rw[ac (show¬∀i,i<l.length->_ from h),ak h]
def wn {b:Brk}{i:Nat}(hi:i<b.w.length):b.w[i]?=some (nodeV b.w b.p i):=by
 obtain⟨x,hx⟩:∃x,b.w[i]?=some x:=⟨_,ai hi⟩;rw[hx,Ao hx]
open Classical in
def aiQ {b:Brk}(h1:b.p.length<=70)(h2:b.w.length<=70):Ans D 152 [BR b] [.i64 (okE (decide (l7 b.w b.p)))]:=by
 have no:∀h:¬l7 b.w b.p,(some [PV.v (.int .i64 8)]:Option (List PV))=some [.i64 (okE (decide (l7 b.w b.p)))]:=λh=>by rw[ak h];rfl
 refine an ⟨1001,?_⟩;unfold abT;have wp:IntKind.i64.wrap ((b.p.length:Int)-1)=(b.p.length:Int)-1:=cU (by omega) (by omega);simp only[ay,kD,uH,k9,EV,ah,wp,phi (ZK (l:=b.p) (by omega)),aa,aE,aj];by_cases a1:b.p.length<1
 .rw[ad (by omega)];exact no (λh=>by have:=h.1.1.1;omega)
 rw[ac (by omega)];by_cases a2:64<b.p.length
 .rw[ad (by omega)];exact no (λh=>by have:=h.1.1.2.1;omega)
 rw[ac (by omega)];by_cases a3:b.p.length=b.w.length+1
 rotate_left
 .rw[ad (by omega)];exact no (λh=>a3 h.1.1.2.2)
 rw[ac (by omega)];by_cases a4:gK b.p
 rotate_left
 .rw[ad (by simpa using a4)]
  exact no (λh=>a4 h.1.2.1)
 rw[ac (by simpa using a4)]
 refine(cL (m:=1001) (l:=b.p) (p:=λx=>decide (-1<=x)&& decide (x<=65535)) (st:=λi=>[.i64 (i:Int)]) (r:=some [.i64 8]) (fin:=some [.i64 (okE (decide (l7 b.w b.p)))]) (λi x self hx _=>?_) (λhall self=>?_) (by omega)).trans ?_
 .unfold HS;simp only[ay,uH,EV,aa,bj (aO hx),aT hx (ct _),aM hx,cZ];have u1:=up1 (show i<1000000000 by have:=aO hx;omega)
  have g0:decide ((i:Int)>=0)=true:=aq (by omega);by_cases c1: -1<=x
  .rw[ad (by omega)];by_cases c2:x<=65535
   .simp only[Cf,EV,c1,c2,aA,aF,au,aw,u1,gH,az]
   .simp only[Cf,EV,c1,c2,aA,be,aF,bA,au,aw,az,g0,qE]
  .rw[ac (by omega)];simp only[Cf,EV,c1,be,bA,aF,az,g0,qF,au,aw]
 .have hbase:sL b.w b.p:=⟨⟨by omega,by omega,a3⟩,a4,λx hx=>by have:=aV.1 hall x hx;simp at this;omega⟩;unfold HS;simp only[ay,k9,EV,ah,aa,bK,QL,aF,bA,au,aw,show decide ((-1:Int)>=0)=false from rfl]
  refine(fI (m:=1001) (n:=b.w.length) (P:=λi=>pY b.w b.p i/\¬(nodeV b.w b.p i<0/\ 0<=max (nodeV b.w b.p (2*i+1)) (nodeV b.w b.p (2*i+2)))) (st:=λi=>[.i64 (i:Int)]) (r:=some [.i64 8]) (fin:=some [.i64 0]) (λi self hi _=>?_) (λ_ self=>?_) (by omega)).trans ?_
  .have hx:=wn hi;unfold HR pY;simp only[ay,k9,EV,aa,bj hi,aT hx (ct _),aM hx,cZ,dbl (show i<100000000 by omega),up1 (show 2*i<1000000000 by omega),up2 (show 2*i<1000000000 by omega),phi (Nn (b:=b) (i:=2*i+1) (by omega) (by omega)),phi (Nn (b:=b) (i:=2*i+2) (by omega) (by omega)),mmX,QK,up1 (show i<1000000000 by omega),aE,aj]
   generalize nodeV b.w b.p i=w;generalize nodeV b.w b.p (2*i+1)=p;generalize nodeV b.w b.p (2*i+2)=q;by_cases c1:w=p
   .by_cases c3:w<0
    .by_cases c4:0<=max p q<;>simp[c1,c4]
     all_goals (subst c1;simp[c3]<;>intro h<;>omega)
    .simp[c1];subst c1;simp[c3]
   .by_cases c2:w=q
    .by_cases c3:w<0
     .by_cases c4:0<=max p q<;>simp[c2,c4]
      all_goals (subst c2;simp[c3]<;>intro h<;>omega)
     .simp[c2];subst c2;simp[c3]
    .simp[c1,c2]
  .unfold HR;simp only[EV,aa,bK,QJ]
  .by_cases hr:l7 b.w b.p
   .rw[ad hr.2,aq hr];rfl
   .rw[ac (λh=>hr ⟨hbase,h⟩),ak hr];rfl
 .by_cases hr:l7 b.w b.p
  .rw[ad (by rw[aV];intro x hx;have:=hr.1.2.2 x hx;simp;omega)]
  .split
   .rfl
   .exact no hr
open Classical in
def aiR {b:Brk}(h1:b.p.length<=70)(h2:b.w.length<=70):Ans D 137 [BR b] [.i64 (okE (decide (l7 b.w b.p)))]:=by
 rw[show decide (l7 b.w b.p)=decide (Bc b.w b.p) from c7.2 VY]
 have no:∀h:¬Bc b.w b.p,(some [PV.v (.int .i64 8)]:Option (List PV))=some [.i64 (okE (decide (Bc b.w b.p)))]:=λh=>by rw[ak h];rfl
 refine an ⟨1001,?_⟩;unfold abC;have wp:IntKind.i64.wrap ((b.p.length:Int)-1)=(b.p.length:Int)-1:=cU (by omega) (by omega);simp only[ay,kD,uH,k9,EV,ah,wp,phi (aiP (l:=b.p) (by omega)),aa,aE,aj];by_cases a1:b.p.length<1
 .rw[ad (by omega)];exact no (λh=>by have:=h.1.1.1;omega)
 rw[ac (by omega)];by_cases a2:64<b.p.length
 .rw[ad (by omega)];exact no (λh=>by have:=h.1.1.2.1;omega)
 rw[ac (by omega)];by_cases a3:b.p.length=b.w.length+1
 rotate_left
 .rw[ad (by omega)];exact no (λh=>a3 h.1.1.2.2)
 rw[ac (by omega)];by_cases a4:gK b.p
 rotate_left
 .rw[ad a4];exact no (λh=>a4 h.1.2.1)
 rw[ac (by simpa using a4)]
 refine(cL (m:=1001) (l:=b.p) (p:=λx=>decide (-1<=x)&& decide (x<=65535)) (st:=λi=>[.i64 (i:Int)]) (r:=some [.i64 8]) (fin:=some [.i64 (okE (decide (Bc b.w b.p)))]) (λi x self hx _=>?_) (λhall self=>?_) (by omega)).trans ?_
 .unfold Hy;simp only[ay,uH,EV,aa,bj (aO hx),aT hx (ct _),aM hx,cZ,up1 (show i<1000000000 by have:=aO hx;omega)]
  by_cases c1:x< -1
  .rw[ad c1,ac (by simp;omega)]
  .rw[ac c1];by_cases c2:65535<x
   .rw[ad c2,ac (by simp;omega)]
   .rw[ac c2,ad (by simp;omega)]
 .have hbase:sL b.w b.p:=⟨⟨by omega,by omega,a3⟩,a4,λx hx=>by have:=aV.1 hall x hx;simp at this;omega⟩;unfold Hy;simp only[EV,aa,bK,Qt];refine(fI (m:=1001) (n:=b.w.length) (P:=λi=>pY b.w b.p i/\¬(nodeV b.w b.p i= -1/\(nodeV b.w b.p (2*i+1)≠ -1\/nodeV b.w b.p (2*i+2)≠ -1))) (st:=λi=>[.i64 (i:Int)]) (r:=some [.i64 8]) (fin:=some [.i64 0]) (λi self hi _=>?_) (λ_ self=>?_) (by omega)).trans ?_
  .have hx:=wn hi;unfold Hx pY;simp only[ay,k9,EV,ah,aa,bj hi,aT hx (ct _),aM hx,cZ,dbl (show i<100000000 by omega),up1 (show 2*i<1000000000 by omega),up2 (show 2*i<1000000000 by omega),phi (yl (b:=b) (i:=2*i+1) (by omega) (by omega)),phi (yl (b:=b) (i:=2*i+2) (by omega) (by omega)),Qs,up1 (show i<1000000000 by omega),aE,aj]
   generalize nodeV b.w b.p i=w;generalize nodeV b.w b.p (2*i+1)=p;generalize nodeV b.w b.p (2*i+2)=q;by_cases c1:w=p
   .by_cases c3:w= -1
    .by_cases c4:p= -1
     .by_cases c5:q= -1<;>simp[c1,c4,c5]
     .omega
    .simp only[c1];subst c1;simp[c3]
   .by_cases c2:w=q
    .by_cases c3:w= -1
     .subst c3;subst c2;simp[c1,Ne.symm c1]
     .subst c2;simp[c1,c3]
    .simp[c1,c2]
  .unfold Hx;simp only[ay,k9,EV,ah,aa,bK,Qr]
  .by_cases hr:Bc b.w b.p
   .rw[ad hr.2,aq hr];rfl
   .rw[ac (λh=>hr ⟨hbase,h⟩),ak hr];rfl
 .by_cases hr:Bc b.w b.p
  .rw[ad (by rw[aV];intro x hx;have:=hr.1.2.2 x hx;simp;omega)]
  .split
   .rfl
   .exact no hr
def dV (l:List Pt)(x:Int):Prop:=x= -1\/inF l x=true
def wonI (t:Rt)(l:List Pt)(a b:Int):Int:=if a<0 then b else if b<0 then a else if leads t (bh l a) (bh l b)=true then a else b
def AO {t:Rt}{l:List Pt}(a b:Int)(ha:dV l a)(hb:dV l b):dV l (wonI t l a b):=by
 unfold wonI;split
 .exact hb
 .grind
def valK_in {l:List Pt}(h:okF l){x:Int}(hv:dV l x):x= -1\/∃(i:Nat) (p:Pt),l[i]?=some p/\ p.id=x/\ pos l x=(i:Nat)/\ bh l x=p/\ 0<=x:=by
 rcases hv with e|e
 .exact .inl e
 .obtain⟨i,p,h1,h2,h3,h4⟩:=d6 h e;exact .inr ⟨i,p,h1,h2,h3,h4,by rw[<-h2];exact(nC h p (ax h1)).1⟩
open Classical in
def aiS {l:List Pt}{pl:List Int}(hl:l.length<=1000)(hp:pl.length<=1000):Ans D 139 [F l,sl I1 pl] [.bool (decide (∀x∈pl,dV l x))]:=by
 refine an ⟨1001,?_⟩;unfold abE;simp[aY,EV];refine(cL (m:=1001) (l:=pl) (p:=λx=>decide (dV l x)) (st:=λi=>[.i64 (i:Int)]) (r:=some [.bool false]) (fin:=some [.bool true]) (λi x self hx _=>?_) (λhall self=>?_) (by omega)).trans ?_
 .unfold HA;simp[EV,aT hx (ct _),aM hx,cZ,phi (rF hl x),Qw,up1 (show i<1000000000 by have:=aO hx;omega)]
  unfold dV inF
  grind
 .unfold HA;simp only[EV,ah,aa,bK,Qv]
 .grind
open Classical in
def aiT {l:List Pt}{pl:List Int}(h:okF l)(hp:pl.length<=1000):Ans D 342 [F l,sl I1 pl] [.bool (decide (∀x∈pl,dV l x))]:=by
 refine an ⟨1001,?_⟩;unfold adU;simp only[ay,aY,EV,ah];refine(cL (m:=1001) (l:=pl) (p:=λx=>decide (dV l x)) (st:=λi=>[.i64 (i:Int)]) (r:=some [.bool false]) (fin:=some [.bool true]) (λi x self hx _=>?_) (λhall self=>?_) (by omega)).trans ?_
 .have u1:=up1 (show i<1000000000 by have:=aO hx;omega)
  unfold Jh;rcases has_cases l x with hn|⟨j,p,hj,rfl⟩
  .obtain⟨P,hP⟩:=af7 h hn;have hf:inF l x=false:=by
    unfold inF;rcases pos_cases l x with⟨e,_⟩|⟨i,p,h1,h2,_⟩
    .rw[e];rfl
    .grind
   simp only[ay,EV,aa,bj (aO hx),aT hx (ct _),aM hx,cZ,phi hP,au,aw,Jg,u1];unfold dV;simp_all
  .have hf:inF l p.id=true:=gO.2 (bk.2 ⟨p,ax hj,rfl⟩);simp only[ay,EV,aa,bj (aO hx),aT hx (ct _),aM hx,cZ,phi (TV h hj),az,Jg,u1];unfold dV;rw[hf];simp
 .unfold Jh Sa;simp only[EV,aa,bK];rfl
 .by_cases h:∀x∈pl,dV l x
  .rw[ad (by simpa using h),aq h]
  .rw[ac (by simpa using h),ak h]
def aiU {l:List Pt}{t:Rt}(h:okF l)(ht:aS t)(hr:rok t=true):Ans D 341 [F l,R t] [.i64 0]:=by
 have h1:=phi (uG l);rw[eH.2 h] at h1;have h2:=phi (c43 ht);rw[hr] at h2;have e0:okE true=0:=rfl;rw[e0] at h2;refine am ?_;unfold adT;simp[aY,ba,EV,h1,h2]
def aiV {l:List Pt}{t:Rt}(h:okF l)(ht:aS t)(hr:rok t=true){a b:Int}(ha:dV l a)(hb:dV l b):Ans D 343 [F l,R t,.i64 a,.i64 b] [.i64 (wonI t l a b)]:=by
 refine am ?_;unfold adV wonI;rcases valK_in h ha with e|⟨i,p,p1,p2,p3,p4,p5⟩
 .rcases valK_in h hb with e'|⟨j,q,q1,q2,q3,q4,q5⟩
  .subst e;subst e';simp only[ay,aY,ba,mmN,mmX,EV];rfl
  .subst e;simp only[ay,aY,ba,mmN,mmX,EV,aa,ad (show min (-1) b<0 by omega),ad (show(-1:Int)<0 by omega),show max (-1) b=b by omega]
 .rcases valK_in h hb with e'|⟨j,q,q1,q2,q3,q4,q5⟩
  .subst e';simp only[ay,aY,ba,mmN,mmX,EV,aa,ad (show min a (-1)<0 by omega),ac (show¬a<0 by omega),ad (show(-1:Int)<0 by omega),show max a (-1)=a by omega]
  .have d1:=phi (TV h p1);have d2:=phi (TV h q1);rw[p2] at d1;rw[q2] at d2;have d3:∃e:Int,bx D 244 [PP p,PP q,R t]=some [.bool (leads t p q),.i64 e]:=by
    have:=phi (M1 (p:=p) (q:=q) ht);by_cases e:p.id=q.id
    .have:p=q:=(c9 h.2.2).inj (ax p1) (ax q1) e;subst this;by_cases c:lU p p t=0
     .rw[ad c] at this;exact⟨_,this⟩
     .rw[ac c] at this;rw[uB];exact⟨_,this⟩
    .rw[ad (mH (dr h p1) (dr h q1) hr e)] at this;exact⟨_,this⟩
   obtain⟨e,d3⟩:=d3;simp only[ay,aY,ba,cv,mmN,mmX,EV,aa,ac (show¬min a b<0 by omega),ac (show¬a<0 by omega),ac (show¬b<0 by omega),d1,d2,aT p1 (b6 _),aM p1,aT q1 (b6 _),aM q1,gu,d3,p4,q4]
   cases leads t p q<;>rfl
def ZL {l:List Pt}{t:Rt}(h:okF l)(ht:aS t){a b:Int}(ha:dV l a)(hb:dV l b):Ans D 235 [F l,R t,.i64 a,.i64 b] [.i64 (wonI t l a b)]:=by
 have hl:=h.1;refine am ?_;unfold acz wonI;simp[aY,ba,EV];by_cases c1:a<0
 .grind
 rw[ac c1,ac c1];by_cases c2:b<0
 .grind
 rw[ac c2,ac c2];rcases valK_in h ha with e|⟨i,p,p1,p2,p3,p4,p5⟩
 .omega
 rcases valK_in h hb with e|⟨j,q,q1,q2,q3,q4,q5⟩
 .omega
 simp[cv,phi (rF (l:=l) (by omega) a),phi (rF (l:=l) (by omega) b),p3,q3,aT p1 (b6 _),aM p1,aT q1 (b6 _),aM q1,gu,phi (Dq (dr h p1) (dr h q1) ht),p4,q4,EV];split<;>rfl
open Classical in
def aiW {l:List Pt}{t:Rt}{pl:List Int}(h:okF l)(ht:aS t)(hr:rok t=true)(h1:1<=pl.length)(h2:pl.length<=64)(hv:∀x∈pl,dV l x)(ho:gK pl):Ans D 251 [F l,R t,sl I1 pl] [BR ⟨pl,playD (wonI t l) pl (pl.length-1) (pl.length-1)⟩,.i64 0]:=by
 have wp:IntKind.i64.wrap ((pl.length:Int)-1)=((pl.length-1:Nat):Int):=by rw[cU (by omega) (by omega)];omega
 have e1:=phi (aiT h (pl:=pl) (by omega));rw[aq hv] at e1;have e2:=phi (ZK (l:=pl) (by omega));rw[aq ho] at e2;have rp:=yj (n:=pl.length-1) (by omega);have agB:∀w:List Int,RF.ev .agg [sl I1 pl,sl I1 w]=some (BR ⟨pl,w⟩):=λw=>rfl;refine an ⟨1001,?_⟩;unfold acK;simp only[ay,aY,ba,EV,phi (aiU h ht hr),ah,aA,aF,au,aw,aa,ac (show¬(pl.length:Int)<1 by omega),RG,ak (show¬(64:Int)<(pl.length:Int) by omega),e1,e2,RC,RD,RE,RB,phi (rG (l:=pl) (by omega)),wp,rp,aQ]
 generalize hm:pl.length-1=m at*;have w1:IntKind.i64.wrap ((m:Int)-1)=(m:Int)-1:=cU (by omega) (by omega);rw[w1];have e0:([sl I1 (List.replicate m 0),PV.v (.int .i64 ((m:Int)-1))]:List PV)=[sl I1 (playD (wonI t l) pl m 0),.i64 ((m:Int)-1-((0:Nat):Int))]:=by
  simp[playD]
 rw[e0];refine(eG (m:=1001) (n:=m) (st:=λk=>[sl I1 (playD (wonI t l) pl m k),.i64 ((m:Int)-1-(k:Int))]) (λk self hk=>?_) (λself=>?_) (by omega))
 .obtain⟨i,hi⟩:∃i:Nat,m-1-k=i:=⟨_,rfl⟩;have hii:(m:Int)-1-(k:Int)=(i:Int):=by omega
  have hdn:IntKind.i64.wrap ((i:Int)-1)=(m:Int)-1-((k+1:Nat):Int):=by rw[cU (by omega) (by omega)];omega
  have hP:=Ap (P:=dV l) (.inl rfl) (won:=wonI t l) (λa b=>AO a b) hv k (by omega:k<=m);have hlen:=it (won:=wonI t l) (places:=pl) (m:=m) k;have hnx:playD (wonI t l) pl m (k+1)=(playD (wonI t l) pl m k).set i (wonI t l (nodeV (playD (wonI t l) pl m k) pl (2*i+1)) (nodeV (playD (wonI t l) pl m k) pl (2*i+2))):=by rw[<-hi];rfl
  rw[hnx];generalize playD (wonI t l) pl m k=w at hP hlen;have su:RF.ev .sub [sl I1 w,.v (.int .i64 0),.v (.int .i64 (m:Int))]=some (sl I1 w):=by rw[<-hlen];exact bI
  unfold IQ;simp only[EV,hii,aa,ad (show(0:Int)<=(i:Int) by omega),dbl (show i<100000000 by omega),up1 (show 2*i<1000000000 by omega),up2 (show 2*i<1000000000 by omega),bI,su,agB,phi (Nn (b:=⟨pl,w⟩) (i:=2*i+1) (by simp only;omega) (by simp only;omega)),phi (Nn (b:=⟨pl,w⟩) (i:=2*i+2) (by simp only;omega) (by simp only;omega)),phi (aiV h ht hr (hP (2*i+1) (by omega)) (hP (2*i+2) (by omega))),ixM (show i<m by omega),fy (l:=w) (i:=i) (by omega),hdn]
 .have hlen:=it (won:=wonI t l) (places:=pl) (m:=m) m;generalize playD (wonI t l) pl m m=w at hlen;have su:RF.ev .sub [sl I1 w,.v (.int .i64 0),.v (.int .i64 (m:Int))]=some (sl I1 w):=by rw[<-hlen];exact bI
  unfold IQ;simp only[EV,aa,ac (show¬(0:Int)<=(m:Int)-1-(m:Int) by omega),RA,bI,su,agB]
def edB (w p:List Int)(i:Nat):List Crt:=if 0<=nodeV w p (2*i+1)/\ 0<=nodeV w p (2*i+2) then [⟨nodeV w p (2*i+1)+nodeV w p (2*i+2)-nodeV w p i,nodeV w p i⟩] else []
def edsB (w p:List Int)(n:Nat):List Crt:=(List.range n).flatMap (edB w p)
def tW (w p:List Int)(n:Nat):edsB w p (n+1)=edsB w p n++edB w p n:=by
 unfold edsB;rw[qe,mh];simp
def mM (w p:List Int):∀n,(edsB w p n).length<=n
 |0=>by simp[edsB]
 |n+1=>by
  have:=mM w p n;rw[tW,aD];unfold edB;split<;>simp<;>omega
def ov {l:List Pt}(h:okF l){x:Int}(hv:dV l x): -1<=x/\ x<=65535:=by
 rcases valK_in h hv with e|⟨i,p,p1,p2,_⟩
 .omega
 .have:=nC h p (ax p1);omega
def EB {w p:List Int}{j:Nat}(hj:j<w.length+p.length):(j<w.length->w[j]?=some (nodeV w p j))/\(¬j<w.length->p[j-w.length]?=some (nodeV w p j)):=by
 constructor
 .intro h;obtain⟨x,hx⟩:∃x,w[j]?=some x:=⟨_,ai h⟩;rw[hx,Ao hx]
 .intro h;obtain⟨x,hx⟩:∃x,p[j-w.length]?=some x:=⟨_,ai (by omega)⟩;rw[hx,Em h hx]
open Classical in
def No {l:List Pt}{t:Rt}{pl:List Int}(h:okF l)(ht:aS t)(hr:rok t=true)(h1:1<=pl.length)(h2:pl.length<=64)(hv:∀x∈pl,dV l x)(ho:gK pl){w:List Int}(hw:w=playD (wonI t l) pl (pl.length-1) (pl.length-1)):Ans D 159 [F l,R t,sl I1 pl] [BR ⟨pl,w⟩,sl crow (edsB w pl w.length)]:=by
 have hlen:w.length=pl.length-1:=by rw[hw,it]
 have hP:∀j,dV l (nodeV w pl j):=λj=>by rw[hw];exact Ap (P:=dV l) (.inl rfl) (won:=wonI t l) (λa b=>AO a b) hv _ (aB _) j (by omega)
 have e218:=phi (aiW h ht hr h1 h2 hv ho);rw[<-hw] at e218;refine an ⟨1001,?_⟩;unfold abX;simp only[ay,aY,ba,EV,e218,kD,k9,ah];have e0:([PV.sl [],.v (.int .i64 0),.v (.int .i64 0)]:List PV)=[sl crow (edsB w pl 0),.i64 ((edsB w pl 0).length:Int),.i64 ((0:Nat):Int)]:=rfl;rw[e0];refine(eG (m:=1001) (n:=w.length) (st:=λi=>[sl crow (edsB w pl i),.i64 ((edsB w pl i).length:Int),.i64 (i:Int)]) (λi self hi=>?_) (λself=>?_) (by omega))
 .have hx:=wn (b:=⟨pl,w⟩) (i:=i) hi;have hel:=mM w pl i;have b0:=ov h (hP i);have b1:=ov h (hP (2*i+1));have b2:=ov h (hP (2*i+2));have c1':(2*i+1<w.length->w[2*i+1]?=some (nodeV w pl (2*i+1)))/\(¬2*i+1<w.length->pl[2*i+1-w.length]?=some (nodeV w pl (2*i+1))):=EB (by omega);have c2':(2*i+2<w.length->w[2*i+2]?=some (nodeV w pl (2*i+2)))/\(¬2*i+2<w.length->pl[2*i+2-w.length]?=some (nodeV w pl (2*i+2))):=EB (by omega);simp only at hx;rw[tW];unfold edB;generalize nodeV w pl i=v at hx b0;generalize nodeV w pl (2*i+1)=a at b1 c1';generalize nodeV w pl (2*i+2)=b at b2 c2';have w1:IntKind.i64.wrap (a+b)=a+b:=cU (by omega) (by omega);have w2:IntKind.i64.wrap (a+b-v)=a+b-v:=cU (by omega) (by omega);have ap:=eF (f:=crow) (l:=edsB w pl i) (k:=[⟨a+b-v,v⟩]) (bytes:=16) (z:=2) (by simp;omega) gb;have u1:=up1 (show i<1000000000 by omega)
  unfold DN;by_cases q1:2*i+1<w.length
  .have r1:=c1'.1 q1;by_cases q2:2*i+2<w.length
   .have r2:=c2'.1 q2;simp only[ay,k9,uH,EV,ah,aa,bj hi,aT hx (ct _),aM hx,cZ,dbl (show i<100000000 by omega),up1 (show 2*i<1000000000 by omega),up2 (show 2*i<1000000000 by omega),bj q1,bj q2,aT r1 (ct _),aM r1,aT r2 (ct _),aM r2,QO,QN,Cg,u1,w1,w2,wL,bsC,rU]
    by_cases g1:0<=a
    .by_cases g2:0<=b
     .simp only[g1,g2,az,aA,jt,ap,rf,ay,EV,ah,u1]
     .simp only[g1,g2,az,be,iw,aw,au,bc]
    .simp only[g1,aw,nA,au,bc]
   .have r2:=c2'.2 q2;simp only[ay,k9,uH,EV,ah,aa,bj hi,aT hx (ct _),aM hx,cZ,dbl (show i<100000000 by omega),up1 (show 2*i<1000000000 by omega),up2 (show 2*i<1000000000 by omega),bj q1,ac (show¬((2*i+2:Nat):Int)<(w.length:Int) by omega),Gx (show w.length<=2*i+2 by omega) (by omega),aT r1 (ct _),aM r1,aT r2 (ct _),aM r2,QQ,QP,Cg,u1,w1,w2,wL,bsC,rU]
    by_cases g1:0<=a
    .by_cases g2:0<=b
     .simp only[g1,g2,az,aA,jt,ap,rf,ay,EV,ah,u1]
     .simp only[g1,g2,az,be,iw,aw,au,bc]
    .simp only[g1,aw,nA,au,bc]
  .have r1:=c1'.2 q1;have q2:¬2*i+2<w.length:=by omega
   have r2:=c2'.2 q2;simp only[ay,k9,uH,EV,ah,aa,bj hi,aT hx (ct _),aM hx,cZ,dbl (show i<100000000 by omega),up1 (show 2*i<1000000000 by omega),up2 (show 2*i<1000000000 by omega),ac (show¬((2*i+1:Nat):Int)<(w.length:Int) by omega),ac (show¬((2*i+2:Nat):Int)<(w.length:Int) by omega),Gx (show w.length<=2*i+1 by omega) (by omega),Gx (show w.length<=2*i+2 by omega) (by omega),aT r1 (ct _),aM r1,aT r2 (ct _),aM r2,L5,QR,Cg,u1,w1,w2,wL,bsC,rU]
   by_cases g1:0<=a
   .by_cases g2:0<=b
    .simp only[g1,g2,az,aA,jt,ap,rf,ay,EV,ah,u1]
    .simp only[g1,g2,az,be,iw,aw,au,bc]
   .simp only[g1,aw,nA,au,bc]
 .unfold DN;simp only[EV,aa,bK,QM,bI]
def Uj {b:Brk}(h1:b.p.length=b.w.length+1)(h2:b.p.length<=70)(hk:∀i,i<b.w.length->pY b.w b.p i)(hb:∀j,-1<=nodeV b.w b.p j/\ nodeV b.w b.p j<=65535):Ans D 142 [BR b] [sl crow (edsB b.w b.p b.w.length)]:=by
 refine an ⟨1001,?_⟩;unfold abH;simp only[ay,kD,EV];have e0:([PV.sl [],.v (.int .i64 0),.v (.int .i64 0)]:List PV)=[sl crow (edsB b.w b.p 0),.i64 ((edsB b.w b.p 0).length:Int),.i64 ((0:Nat):Int)]:=rfl;rw[e0];refine(eG (m:=1001) (n:=b.w.length) (st:=λi=>[sl crow (edsB b.w b.p i),.i64 ((edsB b.w b.p i).length:Int),.i64 (i:Int)]) (λi self hi=>?_) (λself=>?_) (by omega))
 .have hx:=wn (b:=b) (i:=i) hi;have hel:=mM b.w b.p i;have hpk:=hk i hi;have b0:=hb i;have b1:=hb (2*i+1);have b2:=hb (2*i+2);have c1':=phi (yl (b:=b) (i:=2*i+1) (by omega) (by omega));have c2':=phi (yl (b:=b) (i:=2*i+2) (by omega) (by omega));rw[tW];unfold edB;unfold pY at hpk;generalize nodeV b.w b.p i=v at hx b0 hpk;generalize nodeV b.w b.p (2*i+1)=p at b1 c1' hpk;generalize nodeV b.w b.p (2*i+2)=q at b2 c2' hpk;have ap:=λc=>eF (f:=crow) (l:=edsB b.w b.p i) (k:=[c]) (bytes:=16) (z:=2) (by simp;omega) gb;unfold HE;simp only[ay,k9,EV,ah,aa,bj hi,dbl (show i<100000000 by omega),up1 (show 2*i<1000000000 by omega),up2 (show 2*i<1000000000 by omega),c1',c2',QB,up1 (show i<1000000000 by omega),aT hx (ct _),aM hx,cZ,QC,wL,bsC,rU,ap]
  by_cases g1:p<0
  .rw[ad g1,ac (by omega),bc]
  by_cases g2:q<0
  .rw[ac g1,ad g2,ac (by omega),bc]
  rw[ac g1,ac g2,ad (show 0<=p/\ 0<=q by omega)]
  by_cases g3:v=p
  .rw[ad g3,g3,show p+q-p=q by omega]
  .rw[ac g3,show v=q by omega,show p+q-q=p by omega]
 .unfold HE;simp only[ay,k9,EV,ah,aa,bK,QA,bI]
open Classical in
def aiX {b:Brk}{l:List Pt}{t:Rt}(h:okF l)(ht:aS t)(h1:b.p.length=b.w.length+1)(h2:b.p.length<=70)(hv:∀j,dV l (nodeV b.w b.p j)):Ans D 141 [BR b,F l,R t] [.bool (decide (mD (wonI t l) b.w b.p))]:=by
 refine an ⟨1001,?_⟩;unfold abG;simp only[ay,kD,aY,ba,EV];refine(fI (m:=1001) (n:=b.w.length) (P:=λi=>nodeV b.w b.p i=wonI t l (nodeV b.w b.p (2*i+1)) (nodeV b.w b.p (2*i+2))) (st:=λi=>[.i64 (i:Int)]) (r:=some [.bool false]) (fin:=some [.bool true]) (λi self hi _=>?_) (λ_ self=>?_) (by omega)).trans ?_
 .have hx:=wn (b:=b) (i:=i) hi;unfold HC;simp only[ay,k9,EV,ah,aa,bj hi,dbl (show i<100000000 by omega),up1 (show 2*i<1000000000 by omega),up2 (show 2*i<1000000000 by omega),phi (yl (b:=b) (i:=2*i+1) (by omega) (by omega)),phi (yl (b:=b) (i:=2*i+2) (by omega) (by omega)),phi (ZL h ht (hv (2*i+1)) (hv (2*i+2))),up1 (show i<1000000000 by omega),aT hx (ct _),aM hx,cZ,aE,aj]
  by_cases g:nodeV b.w b.p i=wonI t l (nodeV b.w b.p (2*i+1)) (nodeV b.w b.p (2*i+2))
  .rw[ac (by simpa using g),ad g]
  .rw[ad g,ac g]
 .unfold HC;simp only[ay,k9,EV,ah,aa,bK,Qz]
 .by_cases h:mD (wonI t l) b.w b.p
  .rw[ad (show∀i,i<b.w.length->_ from h),aq h]
  .rw[ac (show¬∀i,i<b.w.length->_ from h),ak h]
def szd (n:Nat):Bool:=decide (n∈[1,2,4,8,16,32,64])
def XV:∀n:Nat,n<65->1<=n->((BitVec.ofInt 64 (n:Int)&&& BitVec.ofInt 64 ((n:Int)-1)).toNat=0↔szd n=true):=by decide
def aiY {n:Nat}(h:n<=1000):Ans D 138 [.i64 (n:Int)] [.bool (szd n)]:=by
 have wr:∀m:Nat,m<=1000->IntKind.i64.wrap ((m:Int)*2)=((m*2:Nat):Int):=λm hm=>by rw[cU (by omega) (by omega)];omega
 refine an ⟨1001,?_⟩;unfold abD;simp only[EV];refine(j7 (m:=1001) (l:=[1,2,4,8,16,32,64]) (p:=λa:Nat=>decide (n=a)) (st:=λi=>[.i64 ((2^ i:Nat):Int)]) (ret:=λ_=>some [.bool true]) (fin:=some [.bool false]) (λi a self ha=>?_) (λself=>?_) (by decide)).trans ?_
 .have hi:=aO ha;have ha2:a=2^ i:=by
   match i,hi with
   |0,_=>simpa using ha.symm
   |1,_=>simpa using ha.symm
   |2,_=>simpa using ha.symm
   |3,_=>simpa using ha.symm
   |4,_=>simpa using ha.symm
   |5,_=>simpa using ha.symm
   |6,_=>simpa using ha.symm
  have h64:2^ i<=64:=by
   have:i<=6:=by simp at hi;omega
   exact bG (Nat.pow_le_pow_right (by omega) this) (by decide)
  have hnx:2^(i+1)=2^ i*2:=Nat.pow_succ ..;rw[hnx];subst ha2;generalize 2^ i=m at h64;unfold Hz;simp only[EV,aa,ad (show(m:Int)<=64 by omega),wr m (by omega)]
  by_cases c:n=m
  .rw[ad (by omega),ad c]
  .rw[ac (by omega),ac c]
 .unfold Hz;simp only[EV,aZ,cw,show decide ((((2:Nat)^(0+1+1+1+1+1+1+1):Nat):Int)<=64)=false from rfl,au,aw,Qu]
 .cases e:List.findIdx? (λa:Nat=>decide (n=a)) [1,2,4,8,16,32,64] with
  |none=>
   rw[fh] at e;have:szd n=false:=ak (λh=>by have:=e n h;simp at this);rw[this];rfl
  |some i=>
   obtain⟨hi,h2,_⟩:=bL.1 e;have:szd n=true:=aq (by rw[aX h2];exact List.getElem_mem hi);rw[this];rfl
def aiZ {l:List Int}(hl:l.length<=1000):Ans D 140 [sl I1 l] [sl I1 (l.filter λx=>decide (0<=x))]:=by
 refine an ⟨1001,?_⟩;unfold abF;simp only[EV];have e0:([PV.sl [],.v (.int .i64 0),.v (.int .i64 0)]:List PV)=[sl I1 [],.i64 (([]:List Int).length:Int),.i64 ((0:Nat):Int)]:=rfl;rw[e0];refine(gR (m:=1001) (l:=l) (g:=λacc x=>if 0<=x then acc++[x] else acc) (I:=λk acc=>acc.length<=k) (S:=λacc k=>[sl I1 acc,.i64 (acc.length:Int),.i64 (k:Int)]) (fin:=λacc=>some [sl I1 acc]) (x:=[]) (by simp) (λk a acc _ h=>by
   split
   .rw[aD,aN];omega
   .omega) (λk x acc self hx hI=>?_) (λacc self hI=>?_) (by omega)).1.trans ?_
 .have hk:=aO hx;have ap:=eF (f:=I1) (l:=acc) (k:=[x]) (bytes:=8) (z:=1) (by simp;omega) ct;unfold HB;simp only[ay,EV,ah,aa,bj hk,aT hx (ct _),aM hx,cZ,Qy,up1 (show k<1000000000 by omega),bsI,nB,ap]
  by_cases c:0<=x
  .simp only[c,az]
  .simp only[c,aw]
 .unfold HB;simp only[EV,ah,aa,bK,Qx,bI]
 .have:∀(l acc:List Int),l.foldl (λacc x=>if 0<=x then acc++[x] else acc) acc=acc++l.filter λx=>decide (0<=x):=by
   intro l;induction l with
   |nil=>simp
   |cons a l ih=>
    intro acc;rw[c6,ih,cS];by_cases c:0<=a<;>simp[c]
  rw[this,aI]
def Bx (l:List Int):List Int:=ij l
def ai0 {l:List Int}(hl:l.length<=1000):Ans D 156 [.sl [],sl I1 l] [sl I1 (Bx l)]:=by
 have h0:D.T 156=none:=by kernel_rfl
 refine Xz h0 ?_;show uz 156 156 [.sl [],.sl (kr l)]=some [.sl (kr (ij l))]
 unfold uz;simp[AA]
 grind
def fk (k:KTourn):Prop:=bJ k.c/\ l7 k.b.w k.b.p/\ szd k.b.p.length=true/\(∀x∈k.b.p,dV k.c.p x)/\(k.b.p.filter λx=>decide (0<=x)).length=k.c.p.length/\ mD (wonI k.c.n k.c.p) k.b.w k.b.p/\ JustR k.c (edsB k.b.w k.b.p k.b.w.length)
def vq {bb:Nat}{k:KTourn}(h:gKt bb k=false):gCl bb k.c=false/\ k.b.p.length<=70/\ k.b.w.length<=70:=by
 unfold gKt at h
 grind
def brk_val {b:Brk}{l:List Pt}(hb:l7 b.w b.p)(hv:∀x∈b.p,dV l x)(j:Nat):dV l (nodeV b.w b.p j):=
 Y1 (P:=dV l) (.inl rfl) hb.1.1.2.2 hv (λi hi=>(hb.2 i hi).1) _ j rfl
def GB {w p:List Int}{n:Nat}{e:Crt}(h:e∈edsB w p n):∃i,i<n/\(0<=nodeV w p (2*i+1)/\ 0<=nodeV w p (2*i+2))/\ e=⟨nodeV w p (2*i+1)+nodeV w p (2*i+2)-nodeV w p i,nodeV w p i⟩:=by
 unfold edsB at h;obtain⟨i,hi,he⟩:=oJ.1 h;rw[dc] at hi;unfold edB at he;split at he
 .rename_i c;exact⟨i,hi,c,cJ.1 he⟩
 .cases he
def jP {b:Brk}{l:List Pt}{t:Rt}(h:okF l)(hb:l7 b.w b.p)(hv:∀x∈b.p,dV l x)(hf:mD (wonI t l) b.w b.p){e:Crt}(he:e∈edsB b.w b.p b.w.length):inF l e.j=true/\ inF l e.h=true/\ leads t (bh l e.h) (bh l e.j)=true:=by
 obtain⟨i,hi,⟨c1,c2⟩,rfl⟩:=GB he;have hF:=hf i hi;have hd:nodeV b.w b.p (2*i+1)≠nodeV b.w b.p (2*i+2):=λe=>KZ (zy hb) c1 hi rfl e.symm;rcases valK_in h (brk_val hb hv (2*i+1)) with e|⟨j1,p,p1,p2,p3,p4,p5⟩
 .omega
 rcases valK_in h (brk_val hb hv (2*i+2)) with e|⟨j2,q,q1,q2,q3,q4,q5⟩
 .omega
 have ip:inF l (nodeV b.w b.p (2*i+1))=true:=by rw[<-p2];exact gO.2 (bk.2 ⟨p,ax p1,rfl⟩)
 have iq:inF l (nodeV b.w b.p (2*i+2))=true:=by rw[<-q2];exact gO.2 (bk.2 ⟨q,ax q1,rfl⟩)
 unfold wonI at hF;rw[ac (by omega),ac (by omega),p4,q4] at hF;cases hL:leads t p q with
 |true=>
  grind
 |false=>
  rw[hL,ac (by simp)] at hF;rw[hF,Int.add_sub_cancel,p4,q4];refine⟨ip,iq,?_⟩;rcases leads_total (t:=t) (p:=p) (q:=q) (by rw[p2,q2];exact hd) with g|g
  .grind
  .exact g
def rZ {b:Brk}{l:List Pt}{t:Rt}(h:okF l)(hb:l7 b.w b.p)(hv:∀x∈b.p,dV l x)(hf:mD (wonI t l) b.w b.p):∀n,n<=b.w.length->(edsB b.w b.p n).Nodup
 |0,_=>by simp[edsB]
 |n+1,hn=>by
  rw[tW];have ih:=rZ h hb hv hf n (by omega);have one:∀i,i<b.w.length->(0<=nodeV b.w b.p (2*i+1)/\ 0<=nodeV b.w b.p (2*i+2))->∃c,(c=2*i+1\/c=2*i+2)/\ nodeV b.w b.p c=nodeV b.w b.p (2*i+1)+nodeV b.w b.p (2*i+2)-nodeV b.w b.p i/\ nodeV b.w b.p i≠nodeV b.w b.p c/\ 0<=nodeV b.w b.p c:=λi hi hc=>by
   have hd:nodeV b.w b.p (2*i+1)≠nodeV b.w b.p (2*i+2):=λe=>KZ (zy hb) hc.1 hi rfl e.symm;rcases(hb.2 i hi).1 with g|g
   .exact⟨2*i+2,.inr rfl,by omega,by omega,hc.2⟩
   .exact⟨2*i+1,.inl rfl,by omega,by omega,hc.1⟩
  unfold edB;split
  .rename_i c;rw[eY];refine⟨ih,by simp,λa ha b' hb' e=>?_⟩;subst e;obtain⟨i,hi,c',e⟩:=GB ha;rw[cJ] at hb';rw[e] at hb';simp at hb';obtain⟨x,x1,x2,x3,x4⟩:=one i (by omega) c';obtain⟨y,y1,y2,y3,y4⟩:=one n (by omega) c;have:=Tq (zy hb) (z:=nodeV b.w b.p x) x4 (i:=i) (j:=n) (by omega) (by omega) x1 y1 rfl (by omega) x3 (by omega);omega
  .rw[bc];exact ih
open Classical in
def c82 {bb:Nat}{k:KTourn}(h64:fb k.c)(hg:gKt bb k=false):Ans D 62 [KT k] [.i64 (okE (decide (fk k)))]:=by
 obtain⟨g1,g2,g3⟩:=vq hg;have no:∀h:¬fk k,(some [PV.v (.int .i64 8)]:Option (List PV))=some [.i64 (okE (decide (fk k)))]:=λh=>by rw[ak h];rfl
 have pKT2:RF.ev (.part 2 1) [KT k]=some (F k.c.p):=rfl;have pKT0:RF.ev (.part 0 2) [KT k]=some (R k.c.n):=rfl;have cKT11:RF.ev (.cell 11) [KT k]=some (sl I1 k.b.p):=rfl;refine an ⟨1001,?_⟩;unfold k82;simp only[ay,mI,pKT,Dv,pKT2,cKT11,EV,ah,phi (M9 h64 g1),phi (aiR g2 g3),phi (aiY (n:=k.b.p.length) (by omega)),jG,aE,aj,aa];by_cases h1:bJ k.c
 rotate_left
 .rw[ac h1];exact no (λh=>h1 h.1)
 rw[ad h1];by_cases h2:l7 k.b.w k.b.p
 rotate_left
 .rw[ac h2];exact no (λh=>h2 h.2.1)
 rw[ad h2];cases h3:szd k.b.p.length with
 |false=>
  rw[ad rfl];exact no (λh=>by have:=h.2.2.1;rw[h3] at this;cases this)
 |true=>
 rw[ac (by simp)];have hF:=h1.2.1;have hl:=hF.1;simp only[ay,cKT11,cv,EV,ah,phi (aiS (l:=k.c.p) (pl:=k.b.p) (by omega) (by omega)),phi (aiZ (l:=k.b.p) (by omega)),aE,aj];by_cases h4:∀x∈k.b.p,dV k.c.p x
 rotate_left
 .rw[ad h4];exact no (λh=>h4 h.2.2.2.1)
 rw[ac (λg=>g h4)];by_cases h5:(k.b.p.filter λx=>decide (0<=x)).length=k.c.p.length
 rotate_left
 .rw[ad (by omega)];exact no (λh=>h5 h.2.2.2.2.1)
 rw[ac (by omega)];have hlen:=h2.1.1.2.2;have hval:=brk_val h2 h4;simp only[ay,Dv,pKT0,EV,phi (aiX (b:=k.b) (l:=k.c.p) (t:=k.c.n) hF h64.1 hlen (by omega) hval),aE,aj];by_cases h6:mD (wonI k.c.n k.c.p) k.b.w k.b.p
 rotate_left
 .rw[ad h6];exact no (λh=>h6 h.2.2.2.2.2.1)
 rw[ac (λg=>g h6)];have hel:=mM k.b.w k.b.p k.b.w.length;simp only[ay,pKT,Dv,EV,phi (Uj (b:=k.b) hlen (by omega) (λi hi=>(h2.2 i hi).1) (λj=>ov hF (hval j))),phi (Nf (c:=k.c) (edges:=edsB k.b.w k.b.p k.b.w.length) hF h64.1 (by omega) (by have:=jd g1;omega) (λe he=>⟨(jP hF h2 h4 h6 he).1,(jP hF h2 h4 h6 he).2.1⟩)),aE,aj];by_cases h7:JustR k.c (edsB k.b.w k.b.p k.b.w.length)
 .rw[ac (λg=>g h7),aq (show fk k from⟨h1,h2,h3,h4,h5,h6,h7⟩)];rfl
 .rw[ad h7];exact no (λh=>h7 h.2.2.2.2.2.2)
def Uk {l:List Pt}{pl:List Int}(hF:okF l)(ho:gK pl)(hb:∀x∈pl,-1<=x):Bx (pl.filter λx=>decide (0<=x))=l.map Pt.id↔(∀x∈pl,dV l x)/\(pl.filter λx=>decide (0<=x)).length=l.length:=by
 have hperm:(Bx (pl.filter λx=>decide (0<=x))).Perm (pl.filter λx=>decide (0<=x)):=mi _ _;constructor
 .intro h;rw[h] at hperm;refine⟨λx hx=>?_,by have:=hperm.length_eq;rw[ah] at this;exact this.symm⟩;by_cases c:0<=x
  .exact .inr (gO.2 (hperm.mem_iff.2 (bF.2 ⟨hx,by simpa using c⟩)))
  .exact .inl (by have:=hb x hx;omega)
 .rintro⟨h1,h2⟩;have hnd:(pl.filter λx=>decide (0<=x)).Nodup:=by
   have:∀(l:List Int),(∀(i j:Nat) (x:Int),0<=x->l[i]?=some x->l[j]?=some x->i=j)->(l.filter λx=>decide (0<=x)).Nodup:=by
    intro l;induction l with
    |nil=>intro _;simp
    |cons a l ih=>
     intro h;have ih:=ih λi j x hx hi hj=>by have:=h (i+1) (j+1) x hx (by simpa using hi) (by simpa using hj);omega
     rw[cS];split
     .rename_i c;refine cj.2 ⟨λhm=>?_,ih⟩;obtain⟨j,hj⟩:=aK.1 (bF.1 hm).1;have:=h 0 (j+1) a (by simpa using c) (by simp) (by simpa using hj)
      omega
     .exact ih
   exact this pl (zx.1 ho)
  have hp:(pl.filter λx=>decide (0<=x)).Perm (l.map Pt.id):=m8 hnd (λx hx=>by
   obtain⟨a,b⟩:=bF.1 hx;rcases h1 x a with e|e
   .simp at b;omega
   .exact gO.1 e) (by rw[ah];omega)
  refine List.Perm.eq_of_pairwise (le:=λa b=>a<=b) (λa b _ _ h1 h2=>by omega) ?_ ?_ (hperm.trans hp)
  .have:=nL (le:=λa b:Int=>decide (a<=b)) (λa b c h1 h2=>by simp at h1 h2|-;omega) (λa b=>by simp;omega) (pl.filter λx=>decide (0<=x));exact this.imp λh=>by simpa using h
  .rw[dR];intro i j hi hj hij;rw[ah] at hi hj;have:=jM hF.2.2 hij (ai hi) (ai hj);rw[List.getElem_map,List.getElem_map];omega
def LQ {S:List Int}{k:List Pt}(h:S.length=k.length)(ha:(S.zip k).all (λx=>decide (x.1=x.2.id))=true):S=k.map Pt.id:=by
 rw[aV] at ha;refine List.ext_getElem (by simpa using h) λi h1 h2=>?_
 have:=ha (S[i],k[i]'(by omega)) (List.mem_iff_getElem.2 ⟨i,by rw[qd];omega,by simp⟩)
 grind
def GC {S:List Int}{k:List Pt}(h:S=k.map Pt.id):(S.zip k).all (λx=>decide (x.1=x.2.id))=true:=by
 rw[aV];intro x hx;obtain⟨i,hi⟩:=aK.1 hx
 grind
def cpt (l:List Int)(i:Nat):Nat->List Int×Nat
 |0=>(l,i)
 |t+1=>if 0<=nthI l (i+1+t) then((cpt l i t).1.set (cpt l i t).2 (nthI l (i+1+t)),(cpt l i t).2+1) else cpt l i t
def GD {l:List Int}{i:Nat}{a:Int}(ha:l[i]?=some a)(hn:a<0)(hp:(l.take i).all (λx=>!decide (x<0))=true):∀t,i+1+t<=l.length->(cpt l i t).1.length=l.length/\(cpt l i t).2<=i+t/\(cpt l i t).1.take (cpt l i t).2=(l.take (i+1+t)).filter (λx=>decide (0<=x))/\∀j,i+1+t<=j->(cpt l i t).1[j]?=l[j]?
 |0,_=>by
  refine⟨rfl,aB _,?_,λj _=>rfl⟩;rw[ny,cA,ha,ru];have h1:(l.take i).filter (λx=>decide (0<=x))=l.take i:=fd.2 λx hx=>by
   have:=aV.1 hp x hx;simp at this|-;omega
  have h2:(some a).toList.filter (λx=>decide (0<=x))=[]:=by simp;omega
  rw[h1,h2,bc];rfl
 |t+1,h=>by
  obtain⟨h1,h2,h3,h4⟩:=GD ha hn hp t (by omega);have hx:=eX (l:=l) (i:=i+1+t) (by omega);have e1:(l.take (i+1+(t+1))).filter (λx=>decide (0<=x))=(l.take (i+1+t)).filter (λx=>decide (0<=x))++if 0<=nthI l (i+1+t) then [nthI l (i+1+t)] else []:=by
   rw[show i+1+(t+1)=i+1+t+1 by omega,cA,hx,ru]
   congr 1
   simp[cS]
  rw[e1];unfold cpt;by_cases c:0<=nthI l (i+1+t)
  .rw[ad c,ad c];refine⟨by rw[aP];exact h1,by simp only;omega,?_,λj hj=>?_⟩
   .simp only;rw[cA,bv (by omega),List.take_set,List.set_eq_of_length_le (by rw[aR];omega),h3];rfl
   .simp only;rw[bB (by omega)];exact h4 j (by omega)
  .rw[ac c,ac c,bc];exact⟨h1,by omega,h3,λj hj=>h4 j (by omega)⟩
def ZM {L S:List Int}(h:S.length<=L.length):RF.ev (.appK 0 1) [sl I1 L,.v (.int .i64 0),sl I1 S]=some (sl I1 (S++L.drop S.length)):=by
 show(if(0:Int)<=0/\(0:Int)<=((L.map I1).length:Nat)/\((0:Int).toNat+(S.map I1).length)*0<=140737488355328/\ d8 1 (S.map I1)=true then some (PV.sl ((L.map I1).take (0:Int).toNat++S.map I1++(L.map I1).drop ((0:Int).toNat+(S.map I1).length))) else none)=_
 have he:d8 1 (S.map I1)=true:=by
  cases S with
  |nil=>rfl
  |cons a k=>simp[d8,ct]
 simp_all
def ai1 {L:List Int}{a n:Nat}(h:a+n=L.length):RF.ev (.clr [KP.z]) [sl I1 L,.v (.int .i64 (a:Int)),.v (.int .i64 (n:Int))]=some (sl I1 (L.take a++List.replicate n 0)):=by
 show(if(0:Int)<=a/\(0:Int)<=n/\(a:Int)+n<=((L.map I1).length:Nat) then some (PV.sl ((L.map I1).take (a:Int).toNat++List.replicate (n:Int).toNat [KP.z]++(L.map I1).drop ((a:Int).toNat+(n:Int).toNat))) else none)=_
 rw[ad ⟨by omega,by omega,by rw[ah];omega⟩,da (by simp;omega)];simp;exact .inr rfl
def ai2 {L Z:List Int}:RF.ev .sub [sl I1 (L++Z),.v (.int .i64 0),.v (.int .i64 (L.length:Int))]=some (sl I1 L):=by
 rw[xG,ad (by simp;omega)];simp
open Classical in
def c78 {bb:Nat}{k:KTourn}(h64:fb k.c)(hg:gKt bb k=false):Ans D 69 [KT k] [.i64 (okE (decide (fk k)))]:=by
 obtain⟨g1,g2,g3⟩:=vq hg;have no:∀h:¬fk k,(some [PV.v (.int .i64 8)]:Option (List PV))=some [.i64 (okE (decide (fk k)))]:=λh=>by rw[ak h];rfl
 have pKT2:RF.ev (.part 2 1) [KT k]=some (F k.c.p):=rfl;have pKT0:RF.ev (.part 0 2) [KT k]=some (R k.c.n):=rfl;have cKT2:RF.ev (.cell 2) [KT k]=some (sl row k.c.p):=rfl;have cKT11:RF.ev (.cell 11) [KT k]=some (sl I1 k.b.p):=rfl;have cKT12:RF.ev (.cell 12) [KT k]=some (sl I1 k.b.w):=rfl;have wp:IntKind.i64.wrap ((k.b.p.length:Int)-1)=(k.b.p.length:Int)-1:=cU (by omega) (by omega);refine an ⟨1001,?_⟩;unfold k78;simp only[ay,mI,pKT,Dv,cKT11,EV,ah,wp,phi (Nd h64 g1),phi (aiQ g2 g3),jG,aE,aj,aa];by_cases h1:bJ k.c
 rotate_left
 .rw[ac h1];exact no (λh=>h1 h.1)
 rw[ad h1];by_cases h2:l7 k.b.w k.b.p
 rotate_left
 .rw[ac h2];exact no (λh=>h2 h.2.1)
 rw[ad h2];have hF:=h1.2.1;have hl:=hF.1;have hpl:=h2.1.1;have hand:IntKind.i64.wrap (((BitVec.ofInt IntKind.i64.bits (k.b.p.length:Int)&&& BitVec.ofInt IntKind.i64.bits ((k.b.p.length:Int)-1)).toNat:Nat):Int)=(((BitVec.ofInt 64 (k.b.p.length:Int)&&& BitVec.ofInt 64 ((k.b.p.length:Int)-1)).toNat:Nat):Int):=by
  show IntKind.i64.wrap (((BitVec.ofInt 64 (k.b.p.length:Int)&&& BitVec.ofInt 64 ((k.b.p.length:Int)-1)).toNat:Nat):Int)=_
  have:(BitVec.ofInt 64 (k.b.p.length:Int)&&& BitVec.ofInt 64 ((k.b.p.length:Int)-1)).toNat<=k.b.p.length:=by
   rw[BitVec.toNat_and];refine bG Nat.and_le_left ?_;rw[rk];omega
  exact cU (by omega) (by omega)
 have hsz:=XV k.b.p.length (by omega) (by omega);rw[hand];generalize (BitVec.ofInt 64 (k.b.p.length:Int)&&& BitVec.ofInt 64 ((k.b.p.length:Int)-1)).toNat=z at hsz;by_cases h3:z=0
 rotate_left
 .rw[ad (by omega)];exact no (λh=>h3 (hsz.2 h.2.2.1))
 rw[ac (by omega)];have h3:=hsz.1 h3;have hfl:=gn (λx=>decide (0<=x)) k.b.p;have hsl:(Bx (k.b.p.filter λx=>decide (0<=x))).length=(k.b.p.filter λx=>decide (0<=x)).length:=iE ..;have hsame:=Uk (l:=k.c.p) (pl:=k.b.p) hF h2.1.2.1 (λx hx=>(h2.1.2.2 x hx).1);generalize hS:Bx (k.b.p.filter λx=>decide (0<=x))=S at hsl hsame;have hs160:=phi (ai0 (l:=k.b.p.filter λx=>decide (0<=x)) (by omega));rw[hS] at hs160;generalize hfe:(k.b.p.filter λx=>decide (0<=x))=fl at hsl hsame hs160 hfl hS;have ho:=h2.1.2.1;have hmm:k.b.w.length=k.b.p.length-1:=by have:=h2.1.1.2.2;omega
 have hwl:=it (won:=wonI k.c.n k.c.p) (places:=k.b.p) (m:=k.b.p.length-1) (k.b.p.length-1);have hfine:=uD (won:=wonI k.c.n k.c.p) (places:=k.b.p) (v:=k.b.w) hmm;obtain⟨w,hw⟩:∃w,w=playD (wonI k.c.n k.c.p) k.b.p (k.b.p.length-1) (k.b.p.length-1):=⟨_,rfl⟩;have t123:(∀x∈k.b.p,dV k.c.p x)->bx D 159 [F k.c.p,R k.c.n,sl I1 k.b.p]=some [BR ⟨k.b.p,w⟩,sl crow (edsB w k.b.p w.length)]/\ True:=λhv=>⟨phi (No hF h64.1 h1.1 hpl.1 hpl.2.1 hv ho hw),trivial⟩;rw[<-hw] at hwl hfine;have cB1:RF.ev (.cell 1) [BR ⟨k.b.p,w⟩]=some (sl I1 w):=rfl;have tOk:(∀x∈k.b.p,dV k.c.p x)->fl.length=k.c.p.length->w=k.b.w->decide (fk k)=decide (JustP k.c (edsB w k.b.p w.length)):=λhv hlen5 h6=>by
  have h6':=hfine.1 h6;have hJ:=tT (c:=k.c) h1.2.2.1 (rZ (b:=k.b) hF h2 hv h6' _ (aB _)) (λe he=>(jP (b:=k.b) hF h2 hv h6' he).2.2);rw[h6,eC,aa,aa];exact⟨λh=>hJ.2 h.2.2.2.2.2.2,λh=>⟨h1,h2,h3,hv,by rw[hfe];exact hlen5,h6',hJ.1 h⟩⟩
 have cKT2':RF.ev (.cell 0) [F k.c.p]=some (sl row k.c.p):=rfl;simp only[ay,phi (rG (l:=k.b.p) (by omega)),EV,ah];refine(cL (m:=1001) (l:=k.b.p) (p:=λx=>!decide (x<0)) (st:=λi=>[.i64 (i:Int)]) (r:=some [.i64 (okE (decide (fk k)))]) (fin:=some [.i64 (okE (decide (fk k)))]) (λi a self ha hp=>?_) (λhall self=>?_) (by omega)).trans ?_
 .have hi:=aO ha;unfold Hk;simp only[EV,aa,bj hi,ixM hi,aM ha,cZ,up1 (show i<1000000000 by omega)]
  by_cases c:a<0
  rotate_left
  .rw[ac c,ad (by simp;omega)]
  .rw[ad c,ac (show¬(i:Int)= -1 by omega),ac (by simp[c])]
   have hend:=GD ha c hp (k.b.p.length-(i+1)) (by omega);refine(eG (m:=1001) (n:=k.b.p.length-(i+1)) (st:=λt=>[sl I1 (cpt k.b.p i t).1,.i64 ((cpt k.b.p i t).2:Int),.i64 ((i+1+t:Nat):Int)]) (fin:=some [.i64 (okE (decide (fk k)))]) (λt self ht=>?_) (λself=>?_) (by omega))
   .obtain⟨q1,q2,_,q4⟩:=GD ha c hp t (by omega);have hx:=eX (l:=k.b.p) (i:=i+1+t) (by omega);have hy:=q4 (i+1+t) (aB _);rw[hx] at hy;have hz:cpt k.b.p i (t+1)=if 0<=nthI k.b.p (i+1+t) then((cpt k.b.p i t).1.set (cpt k.b.p i t).2 (nthI k.b.p (i+1+t)),(cpt k.b.p i t).2+1) else cpt k.b.p i t:=rfl
    rw[hz];generalize cpt k.b.p i t=s at q1 q2 hy;generalize nthI k.b.p (i+1+t)=x at hy;unfold Hj;simp only[EV,aa,bj (show i+1+t<k.b.p.length by omega),ixM (show i+1+t<k.b.p.length by omega),aM hy,cZ,ixM (show s.2<k.b.p.length by omega),fy (l:=s.1) (i:=s.2) (by omega),up1 (show s.2<1000000000 by omega),Qd,up1 (show i+1+t<1000000000 by omega)]
    by_cases c0:x<0
    .rw[ac (by simp[c0]),ac (by omega)];rfl
    .rw[ad (by simp[c0]),ad (by omega)];rfl
   .rw[show i+1+(k.b.p.length-(i+1))=k.b.p.length by omega,dX,hfe] at hend
    rw[show i+1+(k.b.p.length-(i+1))=k.b.p.length by omega]
    generalize cpt k.b.p i (k.b.p.length-(i+1))=s at hend;obtain⟨L,n⟩:=s;obtain⟨q1,q2,q3,q4⟩:=hend;simp only at q1 q2 q3;have hn:n=fl.length:=by rw[<-q3,aR];omega
    subst hn;have cl:=ai1 (L:=L) (a:=fl.length) (n:=k.b.p.length-fl.length) (by omega);rw[q3] at cl;have bn:RF.ev .bnd [.v (.int .i64 (fl.length:Int)),.v (.int .i64 (k.b.p.length:Int))]=some (.i64 (fl.length:Int)):=by rw[kq,ad ⟨by omega,by omega⟩]
    have dd:(k.b.p.length:Int)-(fl.length:Int)=((k.b.p.length-fl.length:Nat):Int):=by omega
    have ap:=ZM (L:=fl++List.replicate (k.b.p.length-fl.length) 0) (S:=S) (by rw[aD];omega);unfold Hj;simp only[EV,aa,ac (show¬((k.b.p.length:Nat):Int)<((k.b.p.length:Nat):Int) by omega),Qc,bn,Int.zero_add,dd,cl,ai2,hs160,ap,cKT2,ah,aE,aj,bA,az]
    by_cases h5:fl.length=k.c.p.length
    rotate_left
    .rw[ad (by omega)];exact no (λh=>h5 (by have:=h.2.2.2.2.1;rw[hfe] at this;exact this))
    rw[ac (by omega)];have hzl:(S.zip k.c.p).length=fl.length:=by rw[qd];omega
    refine(cL (m:=1001) (l:=S.zip k.c.p) (p:=λx=>decide (x.1=x.2.id)) (st:=λi=>[.i64 (i:Int)]) (r:=some [.i64 8]) (fin:=some [.i64 (okE (decide (fk k)))]) (λi x self hx _=>?_) (λhall self=>?_) (by omega)).trans ?_
    .obtain⟨hp,hq⟩:=lO hx;have hp':(S++(fl++List.replicate (k.b.p.length-fl.length) 0).drop S.length)[i]?=some x.1:=by rw[aH (aO hp)];exact hp
     have hi:=aO hx;unfold Hi;simp only[ay,cKT2,EV,aa,bj (show i<fl.length by omega),ixM (show i<fl.length by omega),aM hp',aT hq (b6 _),aM hq,cZ,gu,iQ,up1 (show i<1000000000 by omega),aE,aj]
     by_cases e:x.1=x.2.id
     .rw[ac (by simp[e]),ad e]
     .rw[ad e,ac e];rfl
    .rw[hzl];have h4:S=k.c.p.map Pt.id:=LQ (by omega) hall;obtain⟨hv,hlen5⟩:=hsame.1 h4;obtain⟨e123,hmm⟩:=t123 hv;unfold Hi;simp only[EV,aa,ac (show¬((fl.length:Nat):Int)<((fl.length:Nat):Int) by omega),Qb,aF,au,aw,pKT2,pKT0,cKT11,cKT12,e123,kD,cB1,phi (T8 (l:=w) (k:=k.b.w) (by omega)),aE,aj]
     by_cases h6:w=k.b.w
     rotate_left
     .rw[ad h6];exact no (λh=>h6 (hfine.2 h.2.2.2.2.2.1))
     rw[ac (by simp[h6])];have hd:=tOk hv hlen5 h6;rw[hd];have hEl:(edsB w k.b.p w.length).length<=w.length:=mM ..;generalize edsB w k.b.p w.length=E at hEl;have cc:=jd g1;simp only[ay,pKT,fO,EV,ah];by_cases c1:E.length=k.c.q.l.length
     .rw[ad (aq (by omega))];refine(cL (m:=1001) (l:=k.c.q.l) (p:=λh=>decide (h.c∈E)) (st:=λi=>[.i64 (i:Int)]) (r:=some [.i64 8]) (fin:=some [.i64 0]) (λi a self ha _=>?_) (λ_ self=>?_) (by omega)).trans ?_
      .unfold Hh;simp only[ay,fO,aT ha (fL _),aM ha,kY,pHP,phi (yh (l:=E) a.c (by omega)),EV,aa,bj (aO ha),up1 (show i<1000000000 by have:=aO ha;omega),aE,aj]
       by_cases c2:a.c∈E
       .rw[ac (by simp[c2]),ad c2]
       .rw[ad c2,ac c2];unfold BY;simp only[EV];rfl
      .unfold Hh Qa BY;simp only[EV,aa,bK];rfl
      .have:(k.c.q.l.all λh=>decide (h.c∈E))=decide (JustP k.c E):=by
        rw[eC,aa];unfold JustP;simp[c1]
       rw[this];cases decide (JustP k.c E)<;>rfl
     .rw[ac (by simp;omega),show decide (JustP k.c E)=false from ak (λh=>c1 h.1)]
      unfold BY;simp only[EV];rfl
    .by_cases hT:fk k
     .rw[ad (GC (hsame.2 ⟨hT.2.2.2.1,by have:=hT.2.2.2.2.1;rw[hfe] at this;exact this⟩))]
     .split
      .rfl
      .exact no hT
 .have hall':fl=k.b.p:=by
   rw[<-hfe];exact fd.2 λx hx=>by
    have:=aV.1 hall x hx;simp at this|-;omega
  have ap:=ZM (L:=k.b.p) (S:=S) (by omega);have hsu:RF.ev .sub [sl I1 k.b.p,.v (.int .i64 0),.v (.int .i64 (k.b.p.length:Int))]=some (sl I1 fl):=by rw[hall'];exact bI
  unfold Hk;simp only[EV,aa,bK,P9,dH,az,hsu,hs160,ap,cKT2,ah,aE,aj,bA];have hpl':k.b.p.length=fl.length:=by rw[hall']
  rw[hpl'];by_cases h5:fl.length=k.c.p.length
  rotate_left
  .rw[ad (by omega)];exact no (λh=>h5 (by have:=h.2.2.2.2.1;rw[hfe] at this;exact this))
  rw[ac (by omega)];have hzl:(S.zip k.c.p).length=fl.length:=by rw[qd];omega
  refine(cL (m:=1001) (l:=S.zip k.c.p) (p:=λx=>decide (x.1=x.2.id)) (st:=λi=>[.i64 (i:Int)]) (r:=some [.i64 8]) (fin:=some [.i64 (okE (decide (fk k)))]) (λi x self hx _=>?_) (λhall self=>?_) (by omega)).trans ?_
  .obtain⟨hp,hq⟩:=lO hx;have hp':(S++k.b.p.drop S.length)[i]?=some x.1:=by rw[aH (aO hp)];exact hp
   have hi:=aO hx;unfold Hg;simp only[ay,cKT2,EV,aa,bj (show i<fl.length by omega),ixM (show i<fl.length by omega),aM hp',aT hq (b6 _),aM hq,cZ,gu,iQ,up1 (show i<1000000000 by omega),aE,aj]
   by_cases e:x.1=x.2.id
   .rw[ac (by simp[e]),ad e]
   .rw[ad e,ac e];rfl
  .rw[hzl];have h4:S=k.c.p.map Pt.id:=LQ (by omega) hall;obtain⟨hv,hlen5⟩:=hsame.1 h4;obtain⟨e123,hmm⟩:=t123 hv;unfold Hg;simp only[EV,aa,ac (show¬((fl.length:Nat):Int)<((fl.length:Nat):Int) by omega),W9,aF,au,aw,pKT2,pKT0,cKT11,cKT12,e123,kD,cB1,phi (T8 (l:=w) (k:=k.b.w) (by omega)),aE,aj]
   by_cases h6:w=k.b.w
   rotate_left
   .rw[ad h6];exact no (λh=>h6 (hfine.2 h.2.2.2.2.2.1))
   rw[ac (by simp[h6])];have hd:=tOk hv hlen5 h6;rw[hd];have hEl:(edsB w k.b.p w.length).length<=w.length:=mM ..;generalize edsB w k.b.p w.length=E at hEl;have cc:=jd g1;simp only[ay,pKT,fO,EV,ah];by_cases c1:E.length=k.c.q.l.length
   .rw[ad (aq (by omega))];refine(cL (m:=1001) (l:=k.c.q.l) (p:=λh=>decide (h.c∈E)) (st:=λi=>[.i64 (i:Int)]) (r:=some [.i64 8]) (fin:=some [.i64 0]) (λi a self ha _=>?_) (λ_ self=>?_) (by omega)).trans ?_
    .unfold Oc;simp only[ay,fO,aT ha (fL _),aM ha,kY,pHP,phi (yh (l:=E) a.c (by omega)),EV,aa,bj (aO ha),up1 (show i<1000000000 by have:=aO ha;omega),aE,aj]
     by_cases c2:a.c∈E
     .rw[ac (by simp[c2]),ad c2]
     .rw[ad c2,ac c2];unfold FM;simp only[EV];rfl
    .unfold Oc W8 FM;simp only[EV,aa,bK];rfl
    .have:(k.c.q.l.all λh=>decide (h.c∈E))=decide (JustP k.c E):=by
      rw[eC,aa];unfold JustP;simp[c1]
     rw[this];cases decide (JustP k.c E)<;>rfl
   .rw[ac (by simp;omega),show decide (JustP k.c E)=false from ak (λh=>c1 h.1)]
    unfold FM;simp only[EV];rfl
  .by_cases hT:fk k
   .rw[ad (GC (hsame.2 ⟨hT.2.2.2.1,by have:=hT.2.2.2.2.1;rw[hfe] at this;exact this⟩))]
   .split
    .rfl
    .exact no hT
 .split<;>rfl
def zC:Clock:=⟨⟨0,0⟩,[],⟨0,[]⟩,⟨⟨[],[],[]⟩,[],[]⟩,[]⟩
def zKH:KHeap:=⟨zC,[]⟩
def zKT:KTourn:=⟨zC,⟨[],[]⟩⟩
def zHT:Heater:=⟨zC,⟨0,[]⟩⟩
def ago {bb:Nat}{l:List Pt}(h:gF bb l=false):l.length<=70:=by
 unfold gF at h
 grind
def c76 {bb:Nat}{c:Clock}(hg:gCl bb c=false):Ans D 67 [CL c] [.bool (decide (c=zC))]:=by
 unfold gCl gAg gSl at hg;simp only[eP,aj] at hg;obtain⟨⟨⟨g1,g2⟩,g3⟩,⟨⟨⟨g4,g5⟩,g6⟩,g7⟩,g8⟩:=hg;have g3:=ago g3;have pS:RF.ev (.part 5 3) [CL c]=some (SL c.a.s):=rfl;have c3:RF.ev (.cell 3) [CL c]=some (.i64 c.q.next):=rfl;have sAG:RF.ev (.shape 5) [AG c.a]=some (AG c.a):=rfl;have sSL:RF.ev (.shape 3) [SL c.a.s]=some (SL c.a.s):=rfl;have a2:RF.ev .agg [.v (.int .i64 0),.v (.int .i64 0)]=some (R ⟨0,0⟩):=rfl;refine am ?_;unfold k76;have w:∀a b:Nat,a<=10000->b<=10000->IntKind.i64.wrap ((a:Int)+(b:Int))=((a+b:Nat):Int):=λa b ha hb=>by rw[cU (by omega) (by omega)];omega
 simp only[ay,bX,sP,pS,sAG,sSL,eZ,c3,k8,fO,dT,fV,lX,kZ,oo,lV,a2,ZC,EV,ah,W5,aa];rw[w _ _ (by omega) (by omega),w _ _ (by omega) (by omega),w _ _ (by omega) (by omega),w _ _ (by omega) (by omega),w _ _ (by omega) (by omega),w _ _ (by omega) (by omega),w _ _ (by omega) (by omega)];obtain⟨n,p,⟨nx,cl⟩,⟨⟨u,ud,f⟩,hp,wh⟩,d⟩:=c;simp only at*;by_cases e1:n=⟨0,0⟩
 .by_cases e2:nx=0
  .rw[ad e1,ad e2]
   congr 4
   refine c7.2 ?_;subst e1;subst e2;unfold zC;simp only[Clock.mk.injEq,Certs.mk.injEq,Agenda.mk.injEq,Slots.mk.injEq,ic,<-cX];omega
  .rw[ad e1,ac e2,ak (λh=>e2 (by cases h;rfl))]
 .rw[ac e1,ak (λh=>e1 (by cases h;rfl))]
def jz (c:Choice):Clock:=if c.tag=1 then c.heap.c else if c.tag=2 then c.o.c else if c.tag=3 then c.x.c else c.g.c
section
variable (c:Choice)
def pK1:RF.ev (.part 1 11) [CHO c]=some (CL c.heap.c):=rfl
def pK2:RF.ev (.part 13 11) [CHO c]=some (CL c.o.c):=rfl
def pK3:RF.ev (.part 26 11) [CHO c]=some (CL c.x.c):=rfl
def pK4:RF.ev (.part 39 11) [CHO c]=some (CL c.g.c):=rfl
def ai3:RF.ev (.cell 12) [CHO c]=some (sl I1 c.heap.heap):=rfl
def ai4:RF.ev (.cell 24) [CHO c]=some (sl I1 c.o.b.p):=rfl
def ai5:RF.ev (.cell 25) [CHO c]=some (sl I1 c.o.b.w):=rfl
def ai6:RF.ev (.cell 37) [CHO c]=some (.i64 c.x.t.root):=rfl
def ai7:RF.ev (.cell 38) [CHO c]=some (sl dB c.x.t.n):=rfl
def ai8:RF.ev (.cell 50) [CHO c]=some (sl I1 c.g.heap):=rfl
end
def u8E (a b:Int):RF.ev (.bin .eql) [.v (.int .u8 a),.v (.int .u8 b)]=some (.v (.bool (decide (a=b)))):=rfl
def d66 (c:Choice):∃N,den (bx D) N k66 [] [CHO c]=some [CL (jz c)]:=by
 refine⟨1,?_⟩;unfold k66 jz;simp[dt,cCH,pK1,pK2,pK3,pK4,EV]
 grind
def c66 (c:Choice):Ans D 65 [CHO c] [CL (jz c)]:=an (d66 c)
def c13 (c:Choice):Ans D 22 [CHO c] [CL (jz c)]:=an (d66 c)
def wO (c:Choice):Prop:=(c.tag≠1->c.heap=zKH)/\(c.tag≠2->c.o=zKT)/\(c.tag≠3->c.x=zHT)/\(c.tag≠4->c.g=zKH)
def fJ (c:Choice):Prop:=if c.tag=1 then iR c.heap else if c.tag=2 then fk c.o else if c.tag=3 then jO c.x else if c.tag=4 then jN c.g else False
def qK (c:Choice):Prop:=wO c/\ fJ c/\ cH (jz c).n=0
structure Cho64 (c:Choice):Prop where
 tag:0<=c.tag/\ c.tag<=255
 h1:fb c.heap.c
 h2:fb c.o.c
 h3:fb c.x.c
 h4:fb c.g.c
def ZN {c:Choice}(h:Cho64 c):fb (jz c):=by
 unfold jz;split
 .exact h.h1
 split
 .exact h.h2
 split
 .exact h.h3
 .exact h.h4
def wP {bb:Nat}{c:Choice}(h:gCh bb c=false):gKh bb c.heap=false/\ gKt bb c.o=false/\ gHt bb c.x=false/\ gKh bb c.g=false:=by
 unfold gCh at h
 grind
def tX (b:Bool)(e:Int):Int:=if b=false then 8 else if e≠0 then 8 else 0
open Classical in
def GE {c:Choice}(ha:wO c):tX (decide (fJ c)) (cH (jz c).n)=okE (decide (qK c)):=by
 unfold tX;by_cases h1:fJ c
 .rw[aq h1,ac (by simp)];by_cases h2:cH (jz c).n=0
  .rw[ac (λg=>g h2),aq (show qK c from⟨ha,h1,h2⟩)];rfl
  .rw[ad h2,ak (λh=>h2 h.2.2)];rfl
 .rw[ak h1,ad rfl,ak (λh=>h1 h.2.1)];rfl
def usedB (c:Choice):Nat->Bool
 |0=>!decide (c.heap=zKH)
 |1=>!decide (c.o=zKT)
 |2=>!decide (c.x=zHT)
 |_=>!decide (c.g=zKH)
def EC {c:Choice}(ht:0<=c.tag/\ c.tag<=255):(∀i:Nat,i<4->¬(usedB c i=true/\((i+1:Nat):Int)≠c.tag))↔wO c:=by
 unfold wO;constructor
 .intro h;have h0:=h 0 (by omega);have h1:=h 1 (by omega);have h2:=h 2 (by omega);have h3:=h 3 (by omega);simp[usedB] at h0 h1 h2 h3
  grind
 .rintro⟨h0,h1,h2,h3⟩ i hi ⟨hu,hne⟩
  match i,hi with
  |0,_=>simp[usedB] at hu;exact hu (h0 (λe=>hne (by omega)))
  |1,_=>simp[usedB] at hu;exact hu (h1 (λe=>hne (by omega)))
  |2,_=>simp[usedB] at hu;exact hu (h2 (λe=>hne (by omega)))
  |3,_=>simp[usedB] at hu;exact hu (h3 (λe=>hne (by omega)))
open Classical in
def e26 {bb:Nat}{c:Choice}(h64:Cho64 c)(hg:gCh bb c=false){e2 e3 e4 e5:PV}:den (bx D) 1001 N1 [] [CHO c,CHO c,e2,e3,e4,e5]=some [.i64 (tX (decide (fJ c)) (cH (jz c).n))]:=by
 obtain⟨g1,g2,g3,g4⟩:=wP hg;have fin:∀(x:Int) (p:Prop),x=okE (decide p)->(fJ c↔p)->den (bx D) 1001 N0 [] [CHO c,CHO c,e2,e3,e4,e5,.v (.int .u8 c.tag),.v (.bool (decide (c.tag=1))),.i64 x]=some [.i64 (tX (decide (fJ c)) (cH (jz c).n))]:=λx p hx hp=>by
  subst hx;unfold N0 tX;simp only[ay,EV,jG,aE,aj,phi (c66 c),eZ,phi (c44 (ZN h64).1)]
  grind
 unfold N1;simp only[ay,cCH,Dw,Dx,Dy,Dz,EV,aa,phi (c77 h64.h1 g1),phi (c78 h64.h2 g2),phi (c79 h64.h3 g3),phi (c80 h64.h4 g4),WX,WY,WZ];by_cases t1:c.tag=1
 .rw[ad t1];exact fin _ _ rfl (by unfold fJ;rw[ad t1])
 rw[ac t1];by_cases t2:c.tag=2
 .rw[ad t2];exact fin _ _ rfl (by unfold fJ;rw[ac t1,ad t2])
 rw[ac t2];by_cases t3:c.tag=3
 .rw[ad t3];exact fin _ _ rfl (by unfold fJ;rw[ac t1,ac t2,ad t3])
 rw[ac t3];by_cases t4:c.tag=4
 .rw[ad t4];exact fin _ _ rfl (by unfold fJ;rw[ac t1,ac t2,ac t3,ad t4])
 rw[ac t4];exact fin 8 False (by simp;rfl) (by unfold fJ;rw[ac t1,ac t2,ac t3,ac t4])
def agU (a b c d:Bool):RF.ev .agg [.v (.bool a),.v (.bool b),.v (.bool c),.v (.bool d)]=some (.agg [.v (.bool a),.v (.bool b),.v (.bool c),.v (.bool d)]):=rfl
open Classical in
def f26 {bb:Nat}{c:Choice}(h64:Cho64 c)(hg:gCh bb c=false){b1 b2 b3 b4:Bool}(h1:b1=usedB c 0)(h2:b2=usedB c 1)(h3:b3=usedB c 2)(h4:b4=usedB c 3):den (bx D) 1001 N3 [] [CHO c,CHO c,.v (.bool b1),.v (.bool b2),.v (.bool b3),.v (.bool b4)]=some [.i64 (okE (decide (qK c)))]:=by
 obtain⟨t1,t2⟩:=h64.tag;have wt:IntKind.i64.wrap c.tag=c.tag:=cU (by omega) (by omega);unfold N3;simp only[EV];refine(fI (m:=1001) (n:=4) (P:=λi=>¬(usedB c i=true/\((i+1:Nat):Int)≠c.tag)) (st:=λi=>[.i64 (i:Int)]) (r:=some [.i64 8]) (fin:=some [.i64 (tX (decide (fJ c)) (cH (jz c).n))]) (λi self hi _=>?_) (λ_ self=>?_) (by omega)).trans ?_
 .have hu:RF.ev (.aix 1 4 0) [.agg [.v (.bool b1),.v (.bool b2),.v (.bool b3),.v (.bool b4)],.v (.int .i64 (i:Int))]=some (.v (.bool (usedB c i))):=by
   match i,hi with
   |0,_=>rw[h1];rfl
   |1,_=>rw[h2];rfl
   |2,_=>rw[h3];rfl
   |3,_=>rw[h4];rfl
  have l4:decide ((i:Int)<4)=true:=aq (by omega);unfold N2;simp only[ay,cCH,agU,hu,EV,l4,dH,az,wt,W1,up1 (show i<1000000000 by omega)]
  cases usedB c i with
  |false=>simp
  |true=>
   by_cases e:((i+1:Nat):Int)=c.tag
   .simp[e]
   .simp[]
 .unfold N2;simp only[EV,show decide (((4:Nat):Int)<4)=false from rfl,au,aw]
  exact e26 h64 hg
 .by_cases ha:wO c
  .rw[ad ((EC ⟨t1,t2⟩).2 ha),GE ha]
  .rw[ac (λh=>ha ((EC ⟨t1,t2⟩).1 h)),ak (λh:qK c=>ha h.1)];rfl
set_option maxHeartbeats 4000000 in
open Classical in
def c26 {bb:Nat}{c:Choice}(h64:Cho64 c)(hg:gCh bb c=false):Ans D 27 [CHO c] [.i64 (okE (decide (qK c)))]:=by
 obtain⟨g1,g2,g3,g4⟩:=wP hg;have z1:=phi (c76 (vo g1).1);have z2:=phi (c76 (vq g2).1);have z3:=phi (c76 (Bw g3).1);have z4:=phi (c76 (vo g4).1);have w:∀a b:Nat,a<=10000->b<=10000->IntKind.i64.wrap ((a:Int)+(b:Int))=((a+b:Nat):Int):=λa b ha hb=>by rw[cU (by omega) (by omega)];omega
 have w1:=w c.o.b.p.length c.o.b.w.length (by have:=vq g2;omega) (by have:=vq g2;omega);have p0:∀n:Nat,decide ((0:Int)<(n:Int))=decide (0<n):=λn=>c7.2 (by omega);have u1:(c.heap.c=zC->decide (0<c.heap.heap.length)=usedB c 0)/\(¬c.heap.c=zC->true=usedB c 0):=by
  unfold usedB zKH;obtain⟨t,⟨k,l⟩,b,d,e⟩:=c;simp only[KHeap.mk.injEq];refine⟨λh=>?_,λh=>by simp[h]⟩;cases l<;>simp[h]
 have u2:(c.o.c=zC->decide (0<c.o.b.p.length+c.o.b.w.length)=usedB c 1)/\(¬c.o.c=zC->true=usedB c 1):=by
  unfold usedB zKT;obtain⟨t,b,⟨k,⟨p,l⟩⟩,d,e⟩:=c;simp only[KTourn.mk.injEq,Brk.mk.injEq];refine⟨λh=>?_,λh=>by simp[h]⟩;cases p<;>cases l<;>simp[h]<;>omega
 have u3:(c.x.c=zC->c.x.t.root=0->decide (0<c.x.t.n.length)=usedB c 2)/\(¬c.x.c=zC->true=usedB c 2)/\(¬c.x.t.root=0->true=usedB c 2):=by
  unfold usedB zHT;obtain⟨t,b,d,⟨k,⟨p,l⟩⟩,e⟩:=c;simp only[Heater.mk.injEq,Tree.mk.injEq];refine⟨λh h'=>?_,λh=>by simp[h],λh=>by simp[h]⟩;cases l<;>simp[h,h']
 have u4:(c.g.c=zC->decide (0<c.g.heap.length)=usedB c 3)/\(¬c.g.c=zC->true=usedB c 3):=by
  unfold usedB zKH;obtain⟨t,b,d,e,⟨k,l⟩⟩:=c;simp only[KHeap.mk.injEq];refine⟨λh=>?_,λh=>by simp[h]⟩;cases l<;>simp[h]
 refine an ⟨1001,?_⟩;unfold k26;by_cases y1:c.heap.c=zC<;>by_cases y2:c.o.c=zC<;>by_cases y3:c.x.c=zC<;>by_cases y4:c.g.c=zC<;>by_cases y5:c.x.t.root=0
 all_goals
  first|rw[aq y1] at z1|rw[ak y1] at z1
  first|rw[aq y2] at z2|rw[ak y2] at z2
  first|rw[aq y3] at z3|rw[ak y3] at z3
  first|rw[aq y4] at z4|rw[ak y4] at z4
  simp only[ay,dt,pK1,pK2,pK3,pK4,ai3,ai4,ai5,ai6,ai7,ai8,z1,z2,z3,z4,EV,ah,w1,p0,y5,aA,be,aF,bA,au,az,aw];refine f26 h64 hg ?_ ?_ ?_ ?_
 all_goals first
  |exact u1.1 y1
  |exact u1.2 y1
  |exact u2.1 y2
  |exact u2.2 y2
  |exact u3.1 y3 y5
  |exact u3.2.1 y3
  |exact u3.2.2 y5
  |exact u4.1 y4
  |exact u4.2 y4
open Classical in
def e27 {bb:Nat}{c:Choice}(h64:Cho64 c)(hg:gCh bb c=false){b:Bool}(hb:b=decide (¬wO c)):den (bx D) 1001 NZ [] [CHO c,CHO c,.v (.bool b)]=some [.i64 (okE (decide (qK c)))]:=by
 obtain⟨g1,g2,g3,g4⟩:=wP hg;unfold NZ;by_cases ha:wO c
 rotate_left
 .rw[hb,aq ha,ak (λh:qK c=>ha h.1)];simp only[EV,az];rfl
 rw[hb,ak (λh=>h ha),<-GE ha];have fin:∀(x:Int) (p:Prop),x=okE (decide p)->(fJ c↔p)->den (bx D) 1001 NY [] [CHO c,CHO c,.v (.bool false),.v (.int .u8 c.tag),.v (.bool (decide (c.tag=1))),.i64 x]=some [.i64 (tX (decide (fJ c)) (cH (jz c).n))]:=λx p hx hp=>by
  subst hx;unfold NY tX;simp only[ay,EV,jG,aE,aj,phi (c13 c),eZ,phi (c64 (ZN h64).1)];by_cases hp':p
  .rw[aq hp',ad rfl,ac (show¬¬fJ c fromλg=>g (hp.2 hp'))]
   by_cases e:cH (jz c).n=0<;>simp[e]
  .rw[ak hp',ac (by simp),ad (λh=>hp' (hp.1 h))]
 simp only[ay,cCH,Dw,Dx,Dy,Dz,EV,au,aw,aa,phi (c81 h64.h1 g1),phi (c82 h64.h2 g2),phi (c83 h64.h3 g3),phi (c84 h64.h4 g4),WU,WV,WW];by_cases t1:c.tag=1
 .rw[ad t1];exact fin _ _ rfl (by unfold fJ;rw[ad t1])
 rw[ac t1];by_cases t2:c.tag=2
 .rw[ad t2];exact fin _ _ rfl (by unfold fJ;rw[ac t1,ad t2])
 rw[ac t2];by_cases t3:c.tag=3
 .rw[ad t3];exact fin _ _ rfl (by unfold fJ;rw[ac t1,ac t2,ad t3])
 rw[ac t3];by_cases t4:c.tag=4
 .rw[ad t4];exact fin _ _ rfl (by unfold fJ;rw[ac t1,ac t2,ac t3,ad t4])
 rw[ac t4];exact fin 8 False (by simp;rfl) (by unfold fJ;rw[ac t1,ac t2,ac t3,ac t4])
end Go.Proofs.YtoeigdpfcnaaeaaGreat
