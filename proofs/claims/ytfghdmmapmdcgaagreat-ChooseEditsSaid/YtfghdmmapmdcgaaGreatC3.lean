import Derived.Test.YtfghdmmapmdcgaaGreatC2
import Derived.Test.YtfghdmmapmdcgaaGreatP1
set_option linter.unusedVariables false
set_option linter.unusedSimpArgs false
set_option linter.defProp false
noncomputable section
namespace Go.Proofs.YtfghdmmapmdcgaaGreat
open Go.Sym Bnd
set_option maxRecDepth 100000
def nodC (i:Nat)(n:Nod):Bool:=decide (n.left=(i:Int))||decide (n.right=(i:Int))
def xv (l:List Nod)(i:Nat):Int:=((l[i]?).map Nod.id).getD 0
def nf {l:List Nod}{i:Nat}{n:Nod}(h:l[i]?=some n):xv l i=n.id:=by unfold xv;rw[h];rfl
def tw (l:List Nod)(i:Nat):List Crt:=match l.findIdx? (nodC i) with|some k=>[⟨xv l i,xv l k⟩]|none=>[]
def edgsT (l:List Nod)(n:Nat):List Crt:=(List.range n).flatMap (tw l)
def n9 (l:List Nod)(n:Nat):edgsT l (n+1)=edgsT l n++tw l n:=by
 unfold edgsT;rw[ti,xc];simp
def lA (l:List Nod):∀n,(edgsT l n).length<=n
 |0=>by simp[edgsT]
 |n+1=>by
  have:=lA l n;rw[n9,aB];unfold tw;split<;>simp<;>omega
def Eh (l:List Nod):Prop:=∀(i k k':Nat) (x x':Nod),l[k]?=some x->nodC i x=true->l[k']?=some x'->nodC i x'=true->k=k'
def adY (n:Nod):cF 1 0 (dG n)=some (.i64 n.left):=rfl
def adZ (n:Nod):cF 2 0 (dG n)=some (.i64 n.right):=rfl
def LI (n:Nod):cF 0 0 (dG n)=some (.i64 n.id):=rfl
def R0 {l:List Nod}(h:Eh l)(i:Nat):(l.filter (nodC i)).map (λn=>(⟨xv l i,n.id⟩:Crt))=tw l i:=by
 rw[zI (λk k' x x' h1 h2 h3 h4=>h i k k' x x' h1 h2 h3 h4)];unfold tw;cases e:l.findIdx? (nodC i) with
 |none=>rfl
 |some k=>
  obtain⟨hk,_,_⟩:=bD.1 e;have:=ah hk;simp only;rw[this,nf this];rfl
def XL {x:Tree}(h:Eh x.nodes)(hl:x.nodes.length<=1000):Ans D 178 [TR x] [sl bT (edgsT x.nodes x.nodes.length)]:=by
 refine an ⟨1001,?_⟩;unfold ZT;simp only[ax,qx,EV];have e0:([PV.sl [],.v (.int .i64 0),.v (.int .i64 0)]:List PV)=[sl bT (edgsT x.nodes 0),.i64 ((edgsT x.nodes 0).length:Int),.i64 ((0:Nat):Int)]:=rfl;rw[e0];refine(dP (m:=1001) (n:=x.nodes.length) (st:=λi=>[sl bT (edgsT x.nodes i),.i64 ((edgsT x.nodes i).length:Int),.i64 (i:Int)]) (fin:=some [sl bT (edgsT x.nodes x.nodes.length)]) (λi self hi=>?_) (λself=>?_) (by omega))
 .obtain⟨n,hn⟩:∃n,x.nodes[i]?=some n:=⟨x.nodes[i],ah _⟩;have hel:=lA x.nodes i;unfold Gt;simp only[ax,iZ,EV,ai,aa,bi hi];have e1:([sl bT (edgsT x.nodes i),PV.i64 ((edgsT x.nodes i).length:Int),.v (.int .i64 0)]:List PV)=[sl bT (edgsT x.nodes i++[]),.i64 ((edgsT x.nodes i++[]).length:Int),.i64 ((0:Nat):Int)]:=by rw[aR];rfl
  rw[e1];refine(iH (m:=1001) (l:=x.nodes) (g:=λacc m=>if nodC i m=true then acc++[⟨n.id,m.id⟩] else acc) (I:=λk acc=>acc.length<=k) (S:=λacc k=>[sl bT (edgsT x.nodes i++acc),.i64 ((edgsT x.nodes i++acc).length:Int),.i64 (k:Int)]) (fin:=λacc=>self [sl bT (edgsT x.nodes i++acc),.i64 ((edgsT x.nodes i++acc).length:Int),.i64 ((i+1:Nat):Int)]) (x:=[]) (by simp) (λk a acc _ h=>by
   split
   .rw[aB,aQ];omega
   .omega) (λk m acc self' hm hI=>?_) (λacc self' hI=>?_) (by omega)).1.trans ?_
  .have hk:=aN hm;have fin:∀(e14 e15 e16 e17:PV) (b:Bool),b=nodC i m->den (aY D) 1001 Gr
     [oC (aY D) 1001 Bf [] [TR x,TR x],self,oC (aY D) 1001 Gp [oC (aY D) 1001 Bf [] [TR x,TR x],self] [TR x,TR x,sl bT (edgsT x.nodes i),.i64 ((edgsT x.nodes i).length:Int),.i64 (i:Int),sl dG x.nodes,.v (.int .i64 (x.nodes.length:Int)),.v (.bool (decide ((i:Int)<(x.nodes.length:Int))))],self']
     [TR x,TR x,sl bT (edgsT x.nodes i),.i64 ((edgsT x.nodes i).length:Int),.i64 (i:Int),sl dG x.nodes,.v (.int .i64 (x.nodes.length:Int)),.v (.bool (decide ((i:Int)<(x.nodes.length:Int)))),sl bT (edgsT x.nodes i++acc),.i64 ((edgsT x.nodes i++acc).length:Int),.i64 (k:Int),sl dG x.nodes,.v (.int .i64 (x.nodes.length:Int)),.v (.bool (decide ((k:Int)<(x.nodes.length:Int)))),e14,e15,e16,e17,.v (.bool b)]=
     self' [sl bT (edgsT x.nodes i++if nodC i m=true then acc++[⟨n.id,m.id⟩] else acc),.i64 ((edgsT x.nodes i++if nodC i m=true then acc++[⟨n.id,m.id⟩] else acc).length:Int),.i64 ((k+1:Nat):Int)]:=λe14 e15 e16 e17 b hb=>by
    subst hb;unfold Gr;simp only[EV];cases nodC i m with
    |true=>
     have ap:=fh (f:=bT) (l:=edgsT x.nodes i++acc) (k:=[⟨n.id,m.id⟩]) (bytes:=16) (z:=2) (by rw[aB];simp;omega) jz;rw[aU] at ap;simp only[aA,ax,iZ,aS hn (ke _),aJ hn,aS hm (ke _),aJ hm,LI,qC,bsC,mQ,ap,EV,ai,Gq,up1 (show k<1000000000 by omega)]
    |false=>
     simp only[aq,aw,EV,Gq,up1 (show k<1000000000 by omega)]
   unfold Gs;simp only[ax,iZ,aS hm (ke _),aJ hm,adY,adZ,EV,ai,aa,bi hk];by_cases c1:m.left=(i:Int)
   .rw[ad c1];exact fin _ _ _ _ true (by unfold nodC;rw[au c1];rfl)
   .rw[ac c1];exact fin _ _ _ _ _ (by unfold nodC;rw[aj c1,Bool.false_or])
  .unfold Gs;simp only[ax,iZ,EV,ai,aa,bK,Gp,up1 (show i<1000000000 by omega)]
  .rw[n9];have:x.nodes.foldl (λacc m=>if nodC i m=true then acc++[(⟨n.id,m.id⟩:Crt)] else acc) []=tw x.nodes i:=by
    rw[<-R0 h i,nf hn];have:∀(l:List Nod) (acc:List Crt),l.foldl (λacc m=>if nodC i m=true then acc++[(⟨n.id,m.id⟩:Crt)] else acc) acc=acc++(l.filter (nodC i)).map (λm=>⟨n.id,m.id⟩):=by
     intro l;induction l with
     |nil=>simp
     |cons a l ih=>
      intro acc;rw[cV,ih,cy];cases nodC i a<;>simp
    rw[this,aT]
   rw[this]
 .unfold Gt;simp only[ax,iZ,EV,ai,aa,bK,Bf,bF]
def xw (x:Int×Int):∀(l:List (Int×Int)) (j:Nat) (u:List Int),upArr (l++[x]) j u=upArr [x] (j+l.length) (upArr l j u)
 |[],j,u=>rfl
 |y::l,j,u=>by
  show upArr (l++[x]) (j+1) _=_
  rw[xw x l];show _=upArr [x] (j+(l.length+1)) (upArr l (j+1) _)
  rw[show j+1+l.length=j+(l.length+1) by omega]
def R1 (i n:Nat)(h:i<n):(List.replicate i (-1:Int)++List.replicate (n-i) 0).set i (-1)=List.replicate (i+1) (-1)++List.replicate (n-(i+1)) 0:=by
 refine cG λk=>?_
 grind
def ik {l:List Pt}{t:Rt}(h:okF l){k:Nat}{x:Int×Int}(hx:(cmake (ldF t l) l.length).2.2[k]?=some x):∃n,(cart t l).nodes[k]?=some n/\ n.left=x.1/\ n.right=x.2/\∃p,l[k]?=some p/\ n.id=p.id:=by
 have hlen:=(gR (fU (t:=t) h.2.2) l.length (by omega)).len;obtain⟨p,hp⟩:∃p,l[k]?=some p:=⟨l[k]'(by have:=aN hx;omega),ah _⟩;exact⟨_,kM hp hx,rfl,rfl,p,hp,rfl⟩
def j4 {n:Nod}{x:Int×Int}(h1:n.left=x.1)(h2:n.right=x.2)(i:Nat):nodC i n=decide (nz x i):=by
 unfold nodC;rw[h1,h2,d4];simp;exact Iff.rfl
def DA {l:List Pt}{t:Rt}(h:okF l)(i:Nat):(cmake (ldF t l) l.length).2.2.findIdx? (λx=>decide (nz x i))=(cart t l).nodes.findIdx? (nodC i):=by
 have hlen:(cmake (ldF t l) l.length).2.2.length=l.length:=(gR (fU (t:=t) h.2.2) l.length (by omega)).len;have hnl:(cart t l).nodes.length=l.length:=by unfold cart;rw[gD _ _ (by omega)];exact hlen
 cases e:(cart t l).nodes.findIdx? (nodC i) with
 |none=>
  rw[eb] at e|-;intro x hx;obtain⟨k,hk⟩:=aL.1 hx;obtain⟨n,a1,a2,a3,_⟩:=ik h hk;rw[<-j4 a2 a3]
  grind
 |some k=>
  rw[bD] at e|-;obtain⟨e1,e2,e3⟩:=e;have hk:=ah (show k<(cmake (ldF t l) l.length).2.2.length by omega)
  refine⟨by omega,?_,λj hj=>?_⟩
  .obtain⟨n,a1,a2,a3,_⟩:=ik h hk;rw[<-j4 a2 a3]
   grind
  .have hj':=ah (show j<(cmake (ldF t l) l.length).2.2.length by omega)
   obtain⟨n,a1,a2,a3,_⟩:=ik h hj';rw[<-j4 a2 a3];rw[ah (by omega)] at a1;have a1:=lh a1;rw[<-a1];exact e3 j hj
def agu {l:List Pt}{t:Rt}(h:okF l)(ht:aX t)(hr:rok t=true)(hone:Eh (cart t l).nodes)(hlk:∀x∈(cmake (ldF t l) l.length).2.2,x.1<l.length/\ x.2<l.length):Ans D 125 [F l,R t] [TR (cart t l),sl bT (edgsT (cart t l).nodes l.length)]:=by
 have hl:=h.1;have hlen:(cmake (ldF t l) l.length).2.2.length=l.length:=(gR (fU (t:=t) h.2.2) l.length (by omega)).len;have hnl:(cart t l).nodes.length=l.length:=by unfold cart;rw[gD _ _ (by omega)];exact hlen
 refine an ⟨1001,?_⟩;unfold Zo;have rp:=xu (n:=(cart t l).nodes.length) (by omega);simp only[ax,aO,bU,phi (LH h ht hr),qx,iZ,EV,ai,rp,aP];have e0:([sl I1 (List.replicate (cart t l).nodes.length 0),.v (.int .i64 0)]:List PV)=[sl I1 (List.replicate 0 (-1)++List.replicate ((cart t l).nodes.length-0) 0),.i64 ((0:Nat):Int)]:=rfl;rw[e0];refine dP (m:=1001) (n:=(cart t l).nodes.length) (st:=λi=>[sl I1 (List.replicate i (-1)++List.replicate ((cart t l).nodes.length-i) 0),.i64 (i:Int)]) (λi self hi=>?_) (λself=>?_) (by omega)
 .unfold CD;simp only[EV,aa,bi hi,ixM hi,dQ (l:=List.replicate i (-1)++List.replicate ((cart t l).nodes.length-i) 0) (i:=i) (by simp;omega),R1 i _ hi,up1 (show i<1000000000 by omega)]
 unfold CD;simp only[EV,aa,bK,Oj,ax,iZ,ai,fL,xe,aR];generalize hLK:(cmake (ldF t l) l.length).2.2=lk at*;have e1:([sl I1 (List.replicate (cart t l).nodes.length (-1)),.v (.int .i64 0)]:List PV)=[sl I1 (upArr (lk.take 0) 0 (List.replicate (cart t l).nodes.length (-1))),.i64 ((0:Nat):Int)]:=rfl;rw[e1];refine dP (m:=1001) (n:=(cart t l).nodes.length) (st:=λi=>[sl I1 (upArr (lk.take i) 0 (List.replicate (cart t l).nodes.length (-1))),.i64 (i:Int)]) (λi self hi=>?_) (λself=>?_) (by omega)
 .obtain⟨x,hx⟩:∃x,lk[i]?=some x:=⟨lk[i]'(by omega),ah _⟩;obtain⟨nd,a1,a2,a3,_⟩:=ik (t:=t) h (by rw[hLK];exact hx);obtain⟨b1,b2⟩:=hlk x (ay hx);have hnext:upArr (lk.take (i+1)) 0 (List.replicate (cart t l).nodes.length (-1))=upArr [x] i (upArr (lk.take i) 0 (List.replicate (cart t l).nodes.length (-1))):=by
   rw[cH,hx];show upArr (lk.take i++[x]) 0 _=_
   rw[xw,aK,bX,bH (by omega)]
  have hul:(upArr (lk.take i) 0 (List.replicate (cart t l).nodes.length (-1))).length=(cart t l).nodes.length:=by rw[yB];simp
  rw[hnext];generalize upArr (lk.take i) 0 (List.replicate (cart t l).nodes.length (-1))=u at hul;have pN:RF.ev (.part 1 2) [NP nd]=some (.agg [.i64 x.1,.i64 x.2]):=by rw[<-a2,<-a3];rfl
  unfold FO;simp only[EV,aa,bi hi,ax,iZ,aS a1 (ke _),aJ a1,xl,pN]
  let us:Nat->List Int:=λj=>match j with|0=>u|1=>(if 0<=x.1 then u.set x.1.toNat i else u)|_=>(if 0<=x.2 then(if 0<=x.1 then u.set x.1.toNat i else u).set x.2.toNat i else(if 0<=x.1 then u.set x.1.toNat i else u))
  have hus:∀j,(us j).length=(cart t l).nodes.length:=λj=>by
   match j with
   |0=>exact hul
   |1=>simp only[us];split<;>simp[hul]
   |j+2=>simp only[us];repeat' split
         all_goals simp[hul]
  refine(dP (m:=1001) (n:=2) (st:=λj=>[sl I1 (us j),.i64 (j:Int)]) (fin:=self [sl I1 (us 2),.i64 ((i+1:Nat):Int)]) (λj self' hj=>?_) (λself'=>?_) (by omega)).trans rfl
  .obtain⟨c,hc,haix,hu⟩:∃c:Int,c<l.length/\ RF.ev (.aix 1 2 0) [.agg [.i64 x.1,.i64 x.2],.i64 (j:Int)]=some (.i64 c)/\ us (j+1)=(if 0<=c then(us j).set c.toNat i else us j):=by
    match j,hj with
    |0,_=>exact⟨x.1,b1,rfl,rfl⟩
    |1,_=>exact⟨x.2,b2,rfl,rfl⟩
   unfold FN;have l2:decide ((j:Int)<2)=true:=au (by omega);simp only[EV,l2,cQ,aA,haix,aa,bk];rw[hu];by_cases c0:0<=c
   .obtain⟨m,rfl⟩:=rF c0;rw[ad c0,ad c0,aG];simp only[EV,ixM (show m<(cart t l).nodes.length by omega),dQ (l:=us j) (i:=m) (by rw[hus];omega),FM,up1 (show j<1000000000 by omega)]
   .rw[ac c0,ac c0];simp only[EV,FM,up1 (show j<1000000000 by omega)]
  .unfold FN;simp only[EV,show decide (((2:Nat):Int)<2)=false from rfl,aq,aw,Oi,up1 (show i<1000000000 by omega)]
 unfold FO;simp only[EV,aa,bK,Oh,ax,iZ,ai];rw[bv (by omega)];have hU:∀i,i<(cart t l).nodes.length->(upArr lk 0 (List.replicate (cart t l).nodes.length (-1)))[i]?=match(cart t l).nodes.findIdx? (nodC i) with|some k=>some ((k:Nat):Int)|none=>some (-1):=λi hi=>by
  rw[yC lk 0 _ i (by simpa using hi) ?_,<-hLK,DA h i]
  .cases(cart t l).nodes.findIdx? (nodC i) with
   |none=>simp only;rw[eK,ad hi]
   |some k=>simp only[bX]
  .intro k x hk hc k' x' hk' hc';rw[<-hLK] at hk hk';obtain⟨n,a1,a2,a3,_⟩:=ik h hk;obtain⟨n',b1,b2,b3,_⟩:=ik h hk';exact hone i k k' n n' a1 (by rw[j4 a2 a3];exact au hc) b1 (by rw[j4 b2 b3];exact au hc')
 generalize upArr lk 0 (List.replicate (cart t l).nodes.length (-1))=U at hU;have e2:([PV.sl [],.v (.int .i64 0),.v (.int .i64 0)]:List PV)=[sl bT (edgsT (cart t l).nodes 0),.i64 ((edgsT (cart t l).nodes 0).length:Int),.i64 ((0:Nat):Int)]:=rfl;rw[e2];refine dP (m:=1001) (n:=(cart t l).nodes.length) (st:=λi=>[sl bT (edgsT (cart t l).nodes i),.i64 ((edgsT (cart t l).nodes i).length:Int),.i64 (i:Int)]) (λi self hi=>?_) (λself=>?_) (by omega)
 .obtain⟨n,hn⟩:∃n,(cart t l).nodes[i]?=some n:=⟨(cart t l).nodes[i],ah _⟩;have hel:=lA (cart t l).nodes i;have hu:=hU i hi;rw[n9];unfold tw;unfold FL;cases e:(cart t l).nodes.findIdx? (nodC i) with
  |none=>
   rw[e] at hu;simp only[aR];simp only[EV,aa,bi hi,ax,iZ,aS hn (ke _),aJ hn,xl,ixM hi,aJ hu,bZ,bk,Int.reduceNeg,Int.reduceLE,aw,FK,up1 (show i<1000000000 by omega)]
  |some k=>
   rw[e] at hu;obtain⟨hk,_,_⟩:=bD.1 e;have hm:=ah hk;have c0:((0:Int)<=(k:Nat)):=by omega
   have cN:RF.ev (.cell 0) [NP n]=some (.i64 n.id):=rfl;have ap:=fh (f:=bT) (l:=edgsT (cart t l).nodes i) (k:=[⟨n.id,(cart t l).nodes[k].id⟩]) (bytes:=16) (z:=2) (by simp;omega) jz;simp only[EV,aa,bi hi,ax,iZ,aS hn (ke _),aJ hn,xl,ixM hi,aJ hu,bZ,bk,ad c0,aS hm (ke _),aJ hm,LI,cN,qC,bsC,mQ,ap,ai,FK,up1 (show i<1000000000 by omega),nf hn,nf hm]
 .unfold FL;simp only[EV,aa,bK,Og,ax,bF,hnl]
def Fl {l:List Pt}{t:Rt}(h:okF l)(ht:aX t){N:Nat}{f0:JT}{e0 e1 e2:PV}{b:Nat}(hb:b<=l.length):∀(m i:Nat) (best:Option Nat) (n:Nat),i+m=b->m<n->(∀k,best=some k->k<i)->
  cS (aY D) (N+1) xX [f0] [e0,e1,e2,.i64 (b:Int),F l,R t] n [.i64 (lk best),.i64 (i:Int)]=f0 [.i64 (lk (pG (ldF t l) m i best))]
 |0,i,best,n,hi,hn,_=>by
  obtain⟨n,rfl⟩:∃n',n=n'+1:=⟨n-1,by omega⟩;rw[bc];unfold xX pG;simp only[EV,aa];rw[ac (by omega)]
 |m+1,i,best,n,hi,hn,hbest=>by
  obtain⟨n,rfl⟩:∃n',n=n'+1:=⟨n-1,by omega⟩;have hl:=h.1;obtain⟨p,hp⟩:∃p,l[i]?=some p:=⟨l[i]'(by omega),ah _⟩;have ih:=λbest' hb'=>Fl h ht (N:=N) (f0:=f0) (e0:=e0) (e1:=e1) (e2:=e2) hb m (i+1) best' n (by omega) (by omega) hb';rw[bc];generalize hkk:xX=kk at ih;subst hkk;unfold xX pG;have u1:=up1 (show i<1000000000 by omega)
  simp[EV];rw[ad (by omega)];cases best with
  |none=>
   have ih:=ih (some i) (λk hk=>by simp at hk;omega);simp only[lk] at ih;simp[EV,Ix,Bw,u1];exact ih
  |some q=>
   have hq:q<i:=hbest q rfl;obtain⟨r,hr⟩:∃r,l[q]?=some r:=⟨l[q]'(by omega),ah _⟩;have g0:decide ((q:Int)<0)=false:=aj (by omega);simp[lk,EV,b8,aS hp (bY _),aJ hp,aS hr (bY _),aJ hr,gr,phi (Cq (eQ h hp) (eQ h hr) ht),<-Cv hp hr,Ix];cases hL:ldF t l i q with
   |true=>
    have ih:=ih (some i) (λk hk=>by simp only[bW] at hk;omega);simp only[lk] at ih;simp only[aA,EV,Bw,u1];exact ih
   |false=>
    have ih:=ih (some q) (λk hk=>by simp only[bW] at hk;omega);simp only[lk] at ih;simp only[aq,aw,EV,Bw,u1];exact ih
def agv {l:List Pt}{t:Rt}(h:okF l)(ht:aX t){a b:Nat}(hab:a<=b)(hb:b<=l.length):Ans D 397 [F l,R t,.i64 (a:Int),.i64 (b:Int)] [.i64 (lk (wF (ldF t l) a b))]:=by
 have hl:=h.1;refine an ⟨1001,?_⟩;unfold acj;simp[aO,bU,EV];refine(Fl h ht (N:=1000) hb (b-a) a none 1001 (by omega) (by omega) (by simp)).trans ?_;rfl
def ad0 {l:List Nod}{i:Nat}{n:Nod}(h:l[i]?=some n)(r:Int):RF.ev (.set 1) [sl dG l,.v (.int .i64 (i:Int)),.v (.int .i64 r)]=some (sl dG (l.set i ⟨n.id,r,n.right⟩)):=by
 rw[qY,ad (by omega),aG,aW,h];exact bj (λx=>some (PV.sl x)) (jZ (f:=dG) (l:=l) (i:=i) (a:=⟨n.id,r,n.right⟩)).symm
def R2 {l:List Pt}{lk:List (Int×Int)}{e:Nat}{p:Pt}{x:Int×Int}{r:Int}(hp:l[e]?=some p)(hx:lk[e]?=some x):(mkN l lk).set e ⟨p.id,r,x.2⟩=mkN l (lk.modify e λx=>(r,x.2)):=by
 refine cG λk=>?_;by_cases hk:k<l.length/\ k<lk.length
 .have h1:=ah hk.1;have h2:=ah hk.2;by_cases e':k=e
  .subst e';rw[be (by simp[mkN];omega)];rw[kM hp (x:=(r,x.2)) (by rw[gz,hx];rfl)]
  .rw[bG (by omega),kM h1 h2,kM h1 (x:=lk[k]) (by rw[eJ _ _ (by omega)];exact h2)]
 .rw[aZ (by simp[mkN];omega),aZ (by simp[mkN];omega)]
def vB {ld:Nat->Nat->Bool}:∀(f a b:Nat) (l:List (Int×Int)),(grow ld f a b l).1.length=l.length
 |0,_,_,_=>rfl
 |f+1,a,b,l=>by
  unfold grow;split
  .rfl
  .simp[vB f]
def NI {ld:Nat->Nat->Bool}{f a b:Nat}{l:List (Int×Int)}(e:wF ld a b=none):grow ld (f+1) a b l=(l,-1):=by
 rw[grow];simp[e]
def NJ {ld:Nat->Nat->Bool}{f a b i:Nat}{l rl s:List (Int×Int)}{rr sr:Int}(e:wF ld a b=some i)(h1:grow ld f a i l=(rl,rr))(h2:grow ld f (i+1) b (rl.modify i λx=>(rr,x.2))=(s,sr)):grow ld (f+1) a b l=(s.modify i λx=>(x.1,sr),(i:Int)):=by
 rw[grow];simp[e,h1,h2]
def agw (l:List Nod):RF.ev .len [sl dG l]=some (.i64 (l.length:Int)):=by
 rw[Vz,ai]
def T0:PV:=TR ⟨0,[]⟩
def cT0:RF.ev (.cell 0) [T0]=some (.i64 0):=rfl
def agx:RF.ev (.shape 2) [T0]=some T0:=rfl
def XM:RF.ev .agg [.v (.int .i64 0),.sl []]=some T0:=rfl
def R3 {l:List Pt}{t:Rt}(h:okF l)(ht:aX t):∀(f a b:Nat) (ks:List (Int×Int)),b-a<f->a<=b->b<=l.length->ks.length=l.length->
  Ans D 350 [F l,R t,T0,.i64 (a:Int),.i64 (b:Int),sl dG (mkN l ks)] [.i64 (grow (ldF t l) f a b ks).2,sl dG (mkN l (grow (ldF t l) f a b ks).1)]
 |0,a,b,ks,hf,_,_,_=>by omega
 |f+1,a,b,ks,hf,hab,hb,hk=>by
  have hl:=h.1;have ht1:=JE (fU (t:=t) h.2.2) hb hab;refine am ?_;unfold abN;simp only[agx,aO,bU,EV,ai,phi (agv h ht hab hb),gD l ks (by omega),hk];cases e:wF (ldF t l) a b with
  |none=>
   rw[NI e];simp only[lk,EV,Id];rw[ac (by decide)]
  |some i=>
   rw[e] at ht1;rcases ht1 with⟨_,t1⟩|⟨k,t1,t2⟩
   .simp[lk] at t1
   have hik:i=k:=by simp[lk] at t1;omega
   subst hik;obtain⟨t3,t4,_⟩:=t2;have u1:=up1 (show i<1000000000 by omega)
   have hgl:=vB (ld:=ldF t l) f a i ks;have p1:=phi (R3 h ht f a i ks (by omega) t3 (by omega) hk);generalize hg1:grow (ldF t l) f a i ks=r at hgl p1;obtain⟨rl,rr⟩:=r;simp only at hgl p1;obtain⟨p,hp⟩:∃p,l[i]?=some p:=⟨l[i]'(by omega),ah _⟩;obtain⟨x,hx⟩:∃x,rl[i]?=some x:=⟨rl[i]'(by omega),ah _⟩;have s1:=ad0 (kM hp hx) rr;simp only at s1;rw[R2 hp hx] at s1;have hgl1:(rl.modify i λx=>(rr,x.2)).length=l.length:=by rw[dF];omega
   have p2:=phi (R3 h ht f (i+1) b _ (by omega) (by omega) hb hgl1);have hgl2:=vB (ld:=ldF t l) f (i+1) b (rl.modify i λx=>(rr,x.2));simp only[lk,EV,cT0,XM,p1,ixM (show i<l.length by omega),s1,u1,p2]
   generalize hg2:grow (ldF t l) f (i+1) b (rl.modify i λx=>(rr,x.2))=s at hgl2 p2;obtain⟨sl',sr⟩:=s;simp only at hgl2;obtain⟨y,hy⟩:∃y,sl'[i]?=some y:=⟨sl'[i]'(by omega),ah _⟩;have s2:=Um (kM hp hy) sr;simp only at s2;rw[Ko hp hy] at s2;rw[NJ e hg1 hg2];simp only[s2,Id,EV];exact ad (au (by omega))
def NK {l:List Pt}{i:Nat}{p:Pt}(hp:l[i]?=some p):mkN l (List.replicate i (0,0))++[⟨p.id,0,0⟩]=mkN l (List.replicate (i+1) (0,0)):=by
 rw[pa];exact Cw (x:=(0,0)) (by rw[aP];exact hp)
def agy {l:List Pt}{t:Rt}(h:okF l)(ht:aX t):Ans D 268 [F l,R t] [TR (cart t l)]:=by
 have hl:=h.1;refine an ⟨1001,?_⟩;unfold aaN;simp only[ax,aO,bU,EV];have e0:([PV.sl [],.v (.int .i64 0),.v (.int .i64 0)]:List PV)=[sl dG (mkN l (List.replicate 0 (0,0))),.i64 ((0:Nat):Int),.i64 ((0:Nat):Int)]:=by simp[mkN]
 rw[e0];refine(dP (m:=1001) (n:=l.length) (st:=λi=>[sl dG (mkN l (List.replicate i (0,0))),.i64 (i:Int),.i64 (i:Int)]) (fin:=some [TR (cart t l)]) (λi self hi=>?_) (λself=>?_) (by omega))
 .obtain⟨p,hp⟩:∃p,l[i]?=some p:=⟨l[i],ah _⟩;have ap:RF.ev (.app 24 3) [sl dG (mkN l (List.replicate i (0,0))),.v (.int .i64 (i:Int)),sl dG [⟨p.id,0,0⟩]]=some (sl dG (mkN l (List.replicate (i+1) (0,0)))):=by
   have:=fh (f:=dG) (l:=mkN l (List.replicate i (0,0))) (k:=[⟨p.id,0,0⟩]) (bytes:=24) (z:=3) (by rw[gD _ _ (by rw[aP];omega),aP];simp;omega) ke;rw[gD _ _ (by rw[aP];omega),aP] at this;rw[this,NK hp]
  unfold Hr;simp only[ax,b8,EV,ai,aa,bi hi,aS hp (bY _),aJ hp,pP,RZ,bsN,LF,ap,agw,gD l (List.replicate (i+1) ((0:Int),(0:Int))) (by rw[aP];omega),aP,up1 (show i<1000000000 by omega)]
 .have p1:=phi (R3 h ht (l.length+1) 0 l.length (List.replicate l.length (0,0)) (by omega) (by omega) (aC _) (by rw[aP]));have hgl:=vB (ld:=ldF t l) (l.length+1) 0 l.length (List.replicate l.length (0,0));rw[aP] at hgl;have L:=fU (t:=t) h.2.2;obtain⟨g1,g2,_,g4⟩:=nK L (l.length+1) 0 l.length (List.replicate l.length (0,0)) (by omega) (by rw[aP]) ⟨by omega,aC _,.inl rfl,.inl rfl⟩;have hu:=Rf L (oI L) ⟨g1,g2,λk x hx=>g4 k x (by omega) (by have:=aN hx;omega) hx⟩;have hs:=bF (f:=dG) (l:=mkN l (grow (ldF t l) (l.length+1) 0 l.length (List.replicate l.length (0,0))).1);rw[gD _ _ (by omega),hgl] at hs;unfold Hr;have ag:RF.ev .agg [.i64 (grow (ldF t l) (l.length+1) 0 l.length (List.replicate l.length (0,0))).2,sl dG (mkN l (grow (ldF t l) (l.length+1) 0 l.length (List.replicate l.length (0,0))).1)]=some (TR (cart t l)):=by
   rw[<-hu.1,<-hu.2];rfl
  simp only[fP] at p1;simp only[ax,b8,EV,ai,aa,bK,PI,XM,p1,hs,ag]
def Kq {l:List Pt}{t:Rt}(h:okF l):∀x∈(cmake (ldF t l) l.length).2.2,x.1<l.length/\ x.2<l.length:=λx hx=>by
 obtain⟨k,hk⟩:=aL.1 hx;have C:=oI (fU (t:=t) h.2.2);obtain⟨a,b,⟨a1,_⟩,⟨b1,b2,_⟩,l1,l2⟩:=C.2.2 k x hk;constructor
 .rcases l1 with⟨_,l1⟩|⟨i,l1,t1,t2,_⟩
  .omega
  .have:=aN hk;have:=C.2.1;omega
 .rcases l2 with⟨_,l2⟩|⟨i,l2,t1,t2,_⟩<;>omega
def lB {l:List Pt}{t:Rt}(h:okF l):(cart t l).nodes.length=l.length:=by
 unfold cart;have hlen:=(gR (fU (t:=t) h.2.2) l.length (by omega)).len;rw[gD _ _ (by omega)];exact hlen
def qL {l:List Pt}{t:Rt}(h:okF l){i k:Nat}{x:Nod}(hx:(cart t l).nodes[k]?=some x)(hc:nodC i x=true):Below (cmake (ldF t l) l.length).2.2 i k:=by
 have hk:=aN hx;rw[lB h] at hk;have hlen:=(gR (fU (t:=t) h.2.2) l.length (by omega)).len;obtain⟨y,hy⟩:∃y,(cmake (ldF t l) l.length).2.2[k]?=some y:=⟨_,ah (by omega)⟩;obtain⟨n,a1,a2,a3,_⟩:=ik h hy;refine⟨y,hy,?_⟩;unfold nodC at hc
 grind
def vC {l:List Pt}{t:Rt}(h:okF l):Eh (cart t l).nodes:=λi k k' x x' h1 h2 h3 h4=>
 Nh (fU (t:=t) h.2.2) (oI (fU (t:=t) h.2.2)) (qL h h1 h2) (qL h h3 h4)
def yQ {l:List Pt}{t:Rt}(h:okF l){i:Nat}{p:Pt}(hp:l[i]?=some p):xv (cart t l).nodes i=p.id:=by
 have hlen:=(gR (fU (t:=t) h.2.2) l.length (by omega)).len;have:=aN hp;obtain⟨y,hy⟩:∃y,(cmake (ldF t l) l.length).2.2[i]?=some y:=⟨_,ah (by omega)⟩;obtain⟨n,a1,a2,a3,q,hq,e⟩:=ik h hy;rw[nf a1,e,hp.symm.trans hq|>lh]
def DB {l:List Nod}{n:Nat}{e:Crt}(h:e∈edgsT l n):∃i k,i<n/\ l.findIdx? (nodC i)=some k/\ e=⟨xv l i,xv l k⟩:=by
 obtain⟨i,hi,he⟩:=sE.1 h;unfold tw at he
 grind
def lU {l:List Pt}{t:Rt}(h:okF l){e:Crt}(he:e∈edgsT (cart t l).nodes l.length):inF l e.low=true/\ inF l e.high=true/\ leads t (ptOf l e.high) (ptOf l e.low)=true:=by
 obtain⟨i,k,hi,hf,rfl⟩:=DB he;obtain⟨hk,hc,_⟩:=bD.1 hf;have hb:=qL h (ah hk) hc;rw[lB h] at hk;have hp:=ah hi;have hq:=ah hk;obtain⟨hl,_⟩:=pZ (fU (t:=t) h.2.2) (oI (fU (t:=t) h.2.2)) hb;rw[Cv hq hp] at hl;rw[yQ h hp,yQ h hq,nF h hp,nF h hq];exact⟨ey.2 (bh.2 ⟨_,ay hp,rfl⟩),ey.2 (bh.2 ⟨_,ay hq,rfl⟩),hl⟩
def vD {l:List Pt}{t:Rt}(h:okF l):∀n,n<=l.length->(edgsT (cart t l).nodes n).Nodup
 |0,_=>by simp[edgsT]
 |n+1,hn=>by
  rw[n9];have ih:=vD (t:=t) h n (by omega);unfold tw;split
  .rw[fG];refine⟨ih,by simp,λa ha b hb e=>?_⟩;subst e;obtain⟨i,k,hi,hf,e⟩:=DB ha;rw[cg] at hb;rw[e] at hb;simp at hb;have hp:=ah (show i<l.length by omega)
   have hq:=ah (show n<l.length by omega)
   rw[yQ h hp,yQ h hq] at hb;have:=iE h.2.2 hi hp hq;omega
  .rw[aR];exact ih
def R4 {l:List Pt}{t:Rt}(h:okF l)(ht:aX t):Ans D 177 [F l,R t] [TR (cart t l)]:=by
 refine am ?_;unfold ZS;simp[aO,bU,phi (agy h ht),qx,EV]
def mJ (k:Heater):Prop:=bx k.clock/\ cart k.clock.now k.clock.pts=k.tree/\ JustR k.clock (edgsT (cart k.clock.now k.clock.pts).nodes k.clock.pts.length)
def AM {k:Heater}(h:gHt k=false):gCl k.clock=false/\ k.tree.nodes.length<=70:=by
 unfold gHt at h
 grind
open Classical in
def c83 {k:Heater}(h64:ij k.clock)(hg:gHt k=false):Ans D 83 [HT k] [.i64 (okE (decide (mJ k)))]:=by
 obtain⟨g1,g2⟩:=AM hg;have no:∀h:¬mJ k,(some [PV.v (.int .i64 8)]:Option (List PV))=some [.i64 (okE (decide (mJ k)))]:=λh=>by rw[aj h];rfl
 have pHT2:RF.ev (.part 2 1) [HT k]=some (F k.clock.pts):=rfl;have pHT0:RF.ev (.part 0 2) [HT k]=some (R k.clock.now):=rfl;refine an ⟨1001,?_⟩;unfold k83;simp only[ax,gC,pHT,EV,phi (Lx h64 g1),jb,aF,ak];by_cases h1:bx k.clock
 .have hF:=h1.2.1;have hl:=hF.1;have hnl:=lB (t:=k.clock.now) hF;rw[au h1,ad rfl];simp only[ax,pHT,pHT2,pHT0,Lo,qx,phi (R4 hF h64.1),phi (XB (s:=cart k.clock.now k.clock.pts) (t:=k.tree) (by omega)),EV,aF,ak];by_cases h2:cart k.clock.now k.clock.pts=k.tree
  .rw[ac (by simp[h2])];have hel:=lA (cart k.clock.now k.clock.pts).nodes k.clock.pts.length;have e178:=phi (XL (x:=cart k.clock.now k.clock.pts) (vC hF) (by omega));rw[hnl] at e178;simp only[ax,EV,e178,phi (LD (c:=k.clock) (edges:=edgsT (cart k.clock.now k.clock.pts).nodes k.clock.pts.length) hF h64.1 (by omega) (by have:=gQ g1;omega) (λe he=>⟨(lU hF he).1,(lU hF he).2.1⟩)),aF,ak];by_cases h3:JustR k.clock (edgsT (cart k.clock.now k.clock.pts).nodes k.clock.pts.length)
   .rw[ac (by simp[h3]),au (show mJ k from⟨h1,h2,h3⟩)];rfl
   .rw[ad h3];exact no (λh=>h3 h.2.2)
  .rw[ad h2];exact no (λh=>h2 h.2.1)
 .rw[aj h1,ac (by simp)];exact no (λh=>h1 h.1)
open Classical in
def c79 {k:Heater}(h64:ij k.clock)(hg:gHt k=false):Ans D 79 [HT k] [.i64 (okE (decide (mJ k)))]:=by
 obtain⟨g1,g2⟩:=AM hg;have no:∀h:¬mJ k,(some [PV.v (.int .i64 8)]:Option (List PV))=some [.i64 (okE (decide (mJ k)))]:=λh=>by rw[aj h];rfl
 have pHT2:RF.ev (.part 2 1) [HT k]=some (F k.clock.pts):=rfl;have pHT0:RF.ev (.part 0 2) [HT k]=some (R k.clock.now):=rfl;have cHT11:RF.ev (.cell 11) [HT k]=some (.i64 k.tree.root):=rfl;have cHT12:RF.ev (.cell 12) [HT k]=some (sl dG k.tree.nodes):=rfl;have cc:=gQ g1;refine an ⟨1001,?_⟩;unfold k79;simp only[ax,gC,pHT,EV,phi (LC h64 g1),jb,aF,ak];by_cases h1:bx k.clock
 .have hF:=h1.2.1;have hl:=hF.1;have hnl:=lB (t:=k.clock.now) hF;have hel:=lA (cart k.clock.now k.clock.pts).nodes k.clock.pts.length;rw[au h1,ad rfl];simp only[ax,pHT,pHT2,pHT0,cHT11,cHT12,RE,iZ,qx,phi (agu hF h64.1 h1.1 (vC hF) (Kq hF)),phi (agh (l:=(cart k.clock.now k.clock.pts).nodes) (k:=k.tree.nodes) (by omega)),EV,aF,ak];have hJ:=xq (c:=k.clock) h1.2.2.1 (vD (t:=k.clock.now) hF k.clock.pts.length (by omega)) (λe he=>(lU hF he).2.2);by_cases h2:(cart k.clock.now k.clock.pts).root=k.tree.root
  .rw[ac (by simp[h2])];by_cases h3:(cart k.clock.now k.clock.pts).nodes=k.tree.nodes
   .rw[ac (by simp[h3])];have h4:cart k.clock.now k.clock.pts=k.tree:=by
     generalize cart k.clock.now k.clock.pts=a at h2 h3;obtain⟨a,b⟩:=a;simp_all
    have hJ':mJ k↔JustP k.clock (edgsT (cart k.clock.now k.clock.pts).nodes k.clock.pts.length):=⟨λh=>hJ.2 h.2.2,λh=>⟨h1,h4,hJ.1 h⟩⟩;have hd:decide (mJ k)=decide (JustP k.clock (edgsT (cart k.clock.now k.clock.pts).nodes k.clock.pts.length)):=by
     rw[d4,aa,aa];exact hJ'
    rw[hd];clear hd hJ' hJ;generalize edgsT (cart k.clock.now k.clock.pts).nodes k.clock.pts.length=E at hel;simp only[ax,fu,EV,ai];by_cases c1:E.length=k.clock.certs.list.length
    .rw[ad (au (by omega))];refine(cw (m:=1001) (l:=k.clock.certs.list) (p:=λh=>decide (h.cert∈E)) (st:=λi=>[.i64 (i:Int)]) (r:=some [.i64 8]) (fin:=some [.i64 0]) (λi a self ha _=>?_) (λ_ self=>?_) (by omega)).trans ?_
     .unfold Mb;simp only[ax,fu,aS ha (fi _),aJ ha,iS,pHP,phi (zW (l:=E) a.cert (by omega)),EV,ai,aa,bi (aN ha),up1 (show i<1000000000 by have:=aN ha;omega),aF,ak]
      by_cases c2:a.cert∈E
      .rw[ac (by simp[c2]),ad c2]
      .rw[ad c2,ac c2];unfold ED;simp only[EV];rfl
     .unfold Mb U7 ED;simp only[EV,aa,bK];rfl
     .have:(k.clock.certs.list.all λh=>decide (h.cert∈E))=decide (JustP k.clock E):=by
       rw[d4,aa];unfold JustP;simp[c1]
      rw[this];cases decide (JustP k.clock E)<;>rfl
    .rw[ac (by simp;omega),show decide (JustP k.clock E)=false from aj (λh=>c1 h.1)]
     unfold ED;simp only[EV];rfl
   .rw[ad h3];exact no (λh=>h3 (by rw[h.2.1]))
  .rw[ad h2];exact no (λh=>h2 (by rw[h.2.1]))
 .rw[aj h1,ac (by simp)];exact no (λh=>h1 h.1)
def mmX (a b:Int):RF.ev (.mm true) [.v (.int .i64 a),.v (.int .i64 b)]=some (.v (.int .i64 (max a b))):=rfl
def mmN (a b:Int):RF.ev (.mm false) [.v (.int .i64 a),.v (.int .i64 b)]=some (.v (.int .i64 (min a b))):=rfl
def dbl {i:Nat}(h:i<100000000):IntKind.i64.wrap (2*(i:Int))=((2*i:Nat):Int):=by rw[bV (by omega) (by omega)];omega
def up2 {i:Nat}(h:i<1000000000):IntKind.i64.wrap ((i:Int)+2)=((i+2:Nat):Int):=by rw[bV (by omega) (by omega)];rfl
def Fm {i j:Nat}(h:j<=i)(k:i<1000000000):IntKind.i64.wrap ((i:Int)-(j:Int))=((i-j:Nat):Int):=by rw[bV (by omega) (by omega)];omega
def LJ {b:Brk}{i:Nat}(hi:i<b.wins.length+b.places.length)(hb:b.wins.length+b.places.length<=1000):Ans D 242 [BR b,.i64 (i:Int)] [.i64 (nodeV b.wins b.places i)]:=by
 refine am ?_;unfold aav;by_cases h:i<b.wins.length
 .obtain⟨x,hx⟩:∃x,b.wins[i]?=some x:=⟨_,ah h⟩;have w:IntKind.i64.wrap ((i:Int)-(b.wins.length:Int))=(i:Int)-(b.wins.length:Int):=bV (by omega) (by omega);simp only[kg,jC,EV,ai,w,aa,ac (show¬(0:Int)<=(i:Int)-(b.wins.length:Int) by omega),aS hx (bS _),aJ hx,bZ,zn hx]
 .obtain⟨x,hx⟩:∃x,b.places[i-b.wins.length]?=some x:=⟨_,ah (by omega)⟩;simp[kg,jC,qw,EV,Fm (show b.wins.length<=i by omega) (by omega),aS hx (bS _),aJ hx,bZ,Dh h hx]
def xx {b:Brk}{i:Nat}(hi:i<b.wins.length+b.places.length)(hb:b.wins.length+b.places.length<=1000):Ans D 266 [BR b,.i64 (i:Int)] [.i64 (nodeV b.wins b.places i)]:=by
 refine am ?_;unfold aaL;by_cases h:i<b.wins.length
 .obtain⟨x,hx⟩:∃x,b.wins[i]?=some x:=⟨_,ah h⟩;simp only[kg,jC,EV,ai,aa,bi h,aS hx (bS _),aJ hx,bZ,zn hx]
 .obtain⟨x,hx⟩:∃x,b.places[i-b.wins.length]?=some x:=⟨_,ah (by omega)⟩;simp only[kg,jC,qw,EV,ai,Fm (show b.wins.length<=i by omega) (by omega),aa,ac (show¬(i:Int)<(b.wins.length:Int) by omega),aS hx (bS _),aJ hx,bZ,Dh h hx]
open Classical in
def agz {l:List Int}(hl:l.length<=1000):Ans D 265 [sl I1 l] [.bool (decide (¬iC l))]:=by
 refine an ⟨1001,?_⟩;unfold aaK;simp only[EV];refine(fD (m:=1001) (n:=l.length) (P:=λi=>∀x,l[i]?=some x->0<=x->∀j,j<i->l[j]?≠some x) (st:=λi=>[.i64 (i:Int)]) (r:=some [.bool true]) (fin:=some [.bool false]) (λi self hi _=>?_) (λhall self=>?_) (by omega)).trans ?_
 .have hx:=ew hi;generalize nthI l i=x at hx;have hP:(∀x',l[i]?=some x'->0<=x'->∀j,j<i->l[j]?≠some x')↔(0<=x->∀j,j<i->l[j]?≠some x):=
   ⟨λh=>h x hx,λh x' e=>by rw[hx] at e;cases e;exact h⟩
  unfold Hq;simp only[hP,EV,ai,aa,bi hi];refine(fD (m:=1001) (n:=i) (P:=λj=>0<=x->l[j]?≠some x) (st:=λi=>[.i64 (i:Int)]) (r:=some [.bool true]) (fin:=self [.i64 ((i+1:Nat):Int)]) (λj self' hj _=>?_) (λ_ self'=>?_) (by omega)).trans ?_
  .have hy:=ew (l:=l) (i:=j) (by omega);generalize nthI l j=y at hy;unfold Hp;simp only[aS hx (bS _),aJ hx,aS hy (bS _),aJ hy,bZ,EV,aa,bi hj,bk,PH,up1 (show j<1000000000 by omega),hy,ne_eq,bW]
   grind
  .unfold Hp;simp only[EV,aa,bK,PG,up1 (show i<1000000000 by omega)]
  .by_cases hq:0<=x->∀j,j<i->l[j]?≠some x
   .rw[ad hq,ad (λj hj h0=>hq h0 j hj)]
   .rw[ac hq,ac (λh=>hq λh0 j hj=>h j hj h0)]
 .unfold Hq;simp only[EV,ai,aa,bK,PF]
 .by_cases h:iC l
  .rw[ad (show∀i,i<l.length->_ from h),aj (by simpa using h)]
  .rw[ac (show¬∀i,i<l.length->_ from h),au h]
def Bm (m:List (Int×Bool)):PV:= .sl (m.map λp=>[.i64 p.1]++[.bool p.2])
def nh:List (Int×Bool)->Int->Bool
 |[],_=>false
 |p::m,k=>if p.1=k then p.2 else nh m k
def rJ:List (Int×Bool)->Int->Bool->List (Int×Bool)
 |[],k,v=>[(k,v)]
 |p::m,k,v=>if p.1=k then(p.1,v)::m else p::rJ m k v
def Fo (k j:Int)(v:Bool):∀m,nh (rJ m k v) j=if j=k then v else nh m j
 |[]=>by simp[rJ,nh];by_cases h:k=j<;>simp[eq_comm]
 |p::m=>by
  unfold rJ;by_cases h:p.1=k
  .rw[ad h];unfold nh;by_cases h2:j=k
   .rw[ad h2,ad (by rw[h,h2])]
   .rw[ac h2,ac (by rw[h];exactλe=>h2 e.symm),ac (by rw[h];exactλe=>h2 e.symm)]
  .rw[ac h];unfold nh;rw[Fo k j v m];by_cases h2:p.1=j
   .rw[ad h2,ad h2,ac (by rw[<-h2];exact h)]
   .rw[ac h2,ac h2]
def Fq (k:Int):∀m:List (Int×Bool),(dL [.i] [.i64 k] (m.map λp=>[.i64 p.1]++[.bool p.2])).map (λo=>o.getD [.bool false])=some [.bool (nh m k)]
 |[]=>by simp[dL,nh,eqN]
 |p::m=>by
  simp only[bN,dL];rw[show List.take [Ck.i].length ([PV.i64 p.fst]++[PV.bool p.snd])=[PV.i64 p.fst] from rfl,show List.drop [Ck.i].length ([PV.i64 p.fst]++[PV.bool p.snd])=[PV.bool p.snd] from rfl,eqN]
  unfold nh;by_cases e:p.1=k
  .rw[au e,ad e];rfl
  .rw[aj e,ac e];exact Fq k m
def Fr (k:Int)(v:Bool):∀m:List (Int×Bool),jl [.i] [.i64 k] [.bool v] (m.map λp=>[.i64 p.1]++[.bool p.2])=some ((rJ m k v).map λp=>[.i64 p.1]++[.bool p.2])
 |[]=>by simp[jl,rJ,eqN]
 |p::m=>by
  simp only[bN,jl];rw[show List.take [Ck.i].length ([PV.i64 p.fst]++[PV.bool p.snd])=[PV.i64 p.fst] from rfl,eqN]
  unfold rJ;by_cases e:p.1=k
  .rw[au e,ad e];simp
  .rw[aj e,ac e];simp only;rw[Fr k v m];rfl
def ad1 (m:List (Int×Bool))(k:Int):RF.ev (.mget [.i] [.v (.bool false)]) [Bm m,.v (.int .i64 k)]=some (.bool (nh m k)):=by
 have h:=Fq k m;unfold Bm;simp only[RF.ev,show(PV.v (.int .i64 k)).cells=[.i64 k] from rfl]
 cases hg:dL [.i] [.i64 k] (m.map λp=>[.i64 p.1]++[.bool p.2]) with
 |none=>rw[hg] at h;cases h
 |some o=>
  rw[hg] at h;simp at h;cases o with
  |none=>simp only[Option.getD_none] at h;simp[h];rfl
  |some r=>simp at h;subst h;rfl
def Uo (m:List (Int×Bool))(k:Int)(v:Bool):RF.ev (.mset [.i] 1) [Bm m,.v (.int .i64 k),.v (.bool v)]=some (Bm (rJ m k v)):=by
 have h:=Fr k v m;unfold Bm;simp only[RF.ev,show(PV.v (.int .i64 k)).cells=[.i64 k] from rfl,show(PV.v (.bool v)).cells=[.bool v] from rfl,h]
 rfl
def mAt (l:List Int)(i:Nat):List (Int×Bool):=(l.take i).foldl (λm x=>rJ m x (decide (0<=x))) [(-1,false)]
def DC:∀(l:List Int) (m:List (Int×Bool)) (k:Int),nh (l.foldl (λm x=>rJ m x (decide (0<=x))) m) k=if k∈l then decide (0<=k) else nh m k
 |[],m,k=>by simp
 |x::l,m,k=>by
  rw[cV,DC l,Fo];by_cases h:k∈l
  .simp[h]
  .by_cases e:k=x
   .subst e;simp
   .simp[h,e]
def VW {l:List Int}{i:Nat}{x:Int}(hx:l[i]?=some x):nh (mAt l i) x=decide (¬∀y,l[i]?=some y->0<=y->∀j,j<i->l[j]?≠some y):=by
 unfold mAt;rw[DC];have e1:(¬∀y,l[i]?=some y->0<=y->∀j,j<i->l[j]?≠some y)↔(x∈l.take i/\ 0<=x):=by
  constructor
  .intro h;simp only[Classical.not_forall,Classical.not_not,not_imp] at h;obtain⟨y,h1,h2,j,h3,h4⟩:=h;rw[hx] at h1;cases h1;exact⟨aL.2 ⟨j,by rw[fY,ad h3];exact h4⟩,h2⟩
  .rintro⟨h1,h2⟩ h;obtain⟨j,hj⟩:=aL.1 h1
   grind
 rw[show decide (¬∀y,l[i]?=some y->0<=y->∀j,j<i->l[j]?≠some y)=decide (x∈l.take i/\ 0<=x) from cv.2 e1]
 by_cases h:x∈l.take i
 .simp[h]
 .rw[ac h,aj (λe=>h e.1)];unfold nh nh;split<;>rfl
def R5 {l:List Int}{i:Nat}{x:Int}(hx:l[i]?=some x):rJ (mAt l i) x (decide (0<=x))=mAt l (i+1):=by
 unfold mAt;rw[cH,hx]
 grind
open Classical in
def XN {l:List Int}(hl:l.length<=1000):Ans D 250 [sl I1 l] [.bool (decide (iC l))]:=by
 refine an ⟨1001,?_⟩;unfold aaD;have e0:RF.ev (.mset [.i] 1) [.sl [],.v (.int .i64 (-1)),.v (.bool false)]=some (Bm (mAt l 0)):=Uo [] (-1) false;simp only[e0,EV,ai];refine(fD (m:=1001) (n:=l.length) (P:=λi=>∀x,l[i]?=some x->0<=x->∀j,j<i->l[j]?≠some x) (st:=λi=>[Bm (mAt l i),.i64 (i:Int)]) (r:=some [.bool false]) (fin:=some [.bool true]) (λi self hi _=>?_) (λhall self=>?_) (by omega)).trans ?_
 .have hx:=ew hi;generalize nthI l i=x at hx;unfold Hg;simp only[aS hx (bS _),aJ hx,bZ,EV,aa,bi hi,ad1,VW hx,bk,Uo,R5 hx,up1 (show i<1000000000 by omega)]
  by_cases hq:∀y,l[i]?=some y->0<=y->∀j,j<i->l[j]?≠some y
  .grind
  .rw[au hq,ac hq];simp_all
 .unfold Hg Px;simp only[EV,aa,bK];rfl
 .by_cases h:iC l
  .rw[ad (show∀i,i<l.length->_ from h),au h]
  .rw[ac (show¬∀i,i<l.length->_ from h),aj h]
def wn {b:Brk}{i:Nat}(hi:i<b.wins.length):b.wins[i]?=some (nodeV b.wins b.places i):=by
 obtain⟨x,hx⟩:∃x,b.wins[i]?=some x:=⟨_,ah hi⟩;rw[hx,zn hx]
open Classical in
def agA {b:Brk}(h1:b.places.length<=70)(h2:b.wins.length<=70):Ans D 157 [BR b] [.i64 (okE (decide (kQ b.wins b.places)))]:=by
 have no:∀h:¬kQ b.wins b.places,(some [PV.v (.int .i64 8)]:Option (List PV))=some [.i64 (okE (decide (kQ b.wins b.places)))]:=λh=>by rw[aj h];rfl
 refine an ⟨1001,?_⟩;unfold ZE;have wp:IntKind.i64.wrap ((b.places.length:Int)-1)=(b.places.length:Int)-1:=bV (by omega) (by omega);simp only[ax,kg,qw,jC,EV,ai,wp,phi (XN (l:=b.places) (by omega)),aa,aF,ak];by_cases a1:b.places.length<1
 .rw[ad (by omega)];exact no (λh=>by have:=h.1.1.1;omega)
 rw[ac (by omega)];by_cases a2:64<b.places.length
 .rw[ad (by omega)];exact no (λh=>by have:=h.1.1.2.1;omega)
 rw[ac (by omega)];by_cases a3:b.places.length=b.wins.length+1
 rotate_left
 .rw[ad (by omega)];exact no (λh=>a3 h.1.1.2.2)
 rw[ac (by omega)];by_cases a4:iC b.places
 rotate_left
 .rw[ad (by simpa using a4)]
  exact no (λh=>a4 h.1.2.1)
 rw[ac (by simpa using a4)]
 refine(cw (m:=1001) (l:=b.places) (p:=λx=>decide (-1<=x)&& decide (x<=65535)) (st:=λi=>[.i64 (i:Int)]) (r:=some [.i64 8]) (fin:=some [.i64 (okE (decide (kQ b.wins b.places)))]) (λi x self hx _=>?_) (λhall self=>?_) (by omega)).trans ?_
 .unfold Ga;simp only[ax,qw,EV,aa,bi (aN hx),aS hx (bS _),aJ hx,bZ];have u1:=up1 (show i<1000000000 by have:=aN hx;omega)
  have g0:decide ((i:Int)>=0)=true:=au (by omega);by_cases c1: -1<=x
  .rw[ad (by omega)];by_cases c2:x<=65535
   .simp only[Bc,EV,c1,c2,az,aE,aq,aw,u1,wY,aA]
   .simp only[Bc,EV,c1,c2,az,bw,aE,bI,aq,aw,aA,g0,uZ]
  .rw[ac (by omega)];simp only[Bc,EV,c1,bw,bI,aE,aA,g0,u7,aq,aw]
 .have hbase:rv b.wins b.places:=⟨⟨by omega,by omega,a3⟩,a4,λx hx=>by have:=aV.1 hall x hx;simp at this;omega⟩;unfold Ga;simp only[ax,jC,EV,ai,aa,bK,OC,aE,bI,aq,aw,show decide ((-1:Int)>=0)=false from rfl]
  refine(fD (m:=1001) (n:=b.wins.length) (P:=λi=>oP b.wins b.places i/\¬(nodeV b.wins b.places i<0/\ 0<=max (nodeV b.wins b.places (2*i+1)) (nodeV b.wins b.places (2*i+2)))) (st:=λi=>[.i64 (i:Int)]) (r:=some [.i64 8]) (fin:=some [.i64 0]) (λi self hi _=>?_) (λ_ self=>?_) (by omega)).trans ?_
  .have hx:=wn hi;unfold F9 oP;simp only[ax,jC,EV,aa,bi hi,aS hx (bS _),aJ hx,bZ,dbl (show i<100000000 by omega),up1 (show 2*i<1000000000 by omega),up2 (show 2*i<1000000000 by omega),phi (LJ (b:=b) (i:=2*i+1) (by omega) (by omega)),phi (LJ (b:=b) (i:=2*i+2) (by omega) (by omega)),mmX,bk,OB,up1 (show i<1000000000 by omega),aF,ak]
   generalize nodeV b.wins b.places i=w;generalize nodeV b.wins b.places (2*i+1)=p;generalize nodeV b.wins b.places (2*i+2)=q;by_cases c1:w=p
   .by_cases c3:w<0
    .by_cases c4:0<=max p q<;>simp[c1,c3,c4]
     all_goals (subst c1;simp[c3,c4]<;>intro h<;>omega)
    .simp[c1,c3];subst c1;simp[c3]
   .by_cases c2:w=q
    .by_cases c3:w<0
     .by_cases c4:0<=max p q<;>simp[c1,c2,c3,c4]
      all_goals (subst c2;simp[c1,c3,c4]<;>intro h<;>omega)
     .simp[c1,c2,c3];subst c2;simp[c1,c3]
    .simp[c1,c2]
  .unfold F9;simp only[EV,aa,bK,OA]
  .by_cases hr:kQ b.wins b.places
   .rw[ad hr.2,au hr];rfl
   .rw[ac (λh=>hr ⟨hbase,h⟩),aj hr];rfl
 .by_cases hr:kQ b.wins b.places
  .rw[ad (by rw[aV];intro x hx;have:=hr.1.2.2 x hx;simp;omega)]
  .split
   .rfl
   .exact no hr
open Classical in
def agD {b:Brk}(h1:b.places.length<=70)(h2:b.wins.length<=70):Ans D 171 [BR b] [.i64 (okE (decide (kQ b.wins b.places)))]:=by
 rw[show decide (kQ b.wins b.places)=decide (Aw b.wins b.places) from cv.2 T2]
 have no:∀h:¬Aw b.wins b.places,(some [PV.v (.int .i64 8)]:Option (List PV))=some [.i64 (okE (decide (Aw b.wins b.places)))]:=λh=>by rw[aj h];rfl
 refine an ⟨1001,?_⟩;unfold ZM;have wp:IntKind.i64.wrap ((b.places.length:Int)-1)=(b.places.length:Int)-1:=bV (by omega) (by omega);simp only[ax,kg,qw,jC,EV,ai,wp,phi (agz (l:=b.places) (by omega)),aa,aF,ak];by_cases a1:b.places.length<1
 .rw[ad (by omega)];exact no (λh=>by have:=h.1.1.1;omega)
 rw[ac (by omega)];by_cases a2:64<b.places.length
 .rw[ad (by omega)];exact no (λh=>by have:=h.1.1.2.1;omega)
 rw[ac (by omega)];by_cases a3:b.places.length=b.wins.length+1
 rotate_left
 .rw[ad (by omega)];exact no (λh=>a3 h.1.1.2.2)
 rw[ac (by omega)];by_cases a4:iC b.places
 rotate_left
 .rw[ad a4];exact no (λh=>a4 h.1.2.1)
 rw[ac (by simpa using a4)]
 refine(cw (m:=1001) (l:=b.places) (p:=λx=>decide (-1<=x)&& decide (x<=65535)) (st:=λi=>[.i64 (i:Int)]) (r:=some [.i64 8]) (fin:=some [.i64 (okE (decide (Aw b.wins b.places)))]) (λi x self hx _=>?_) (λhall self=>?_) (by omega)).trans ?_
 .unfold Gi;simp only[ax,qw,EV,aa,bi (aN hx),aS hx (bS _),aJ hx,bZ,up1 (show i<1000000000 by have:=aN hx;omega)]
  by_cases c1:x< -1
  .rw[ad c1,ac (by simp;omega)]
  .rw[ac c1];by_cases c2:65535<x
   .rw[ad c2,ac (by simp;omega)]
   .rw[ac c2,ad (by simp;omega)]
 .have hbase:rv b.wins b.places:=⟨⟨by omega,by omega,a3⟩,a4,λx hx=>by have:=aV.1 hall x hx;simp at this;omega⟩;unfold Gi;simp only[EV,aa,bK,OK];refine(fD (m:=1001) (n:=b.wins.length) (P:=λi=>oP b.wins b.places i/\¬(nodeV b.wins b.places i= -1/\(nodeV b.wins b.places (2*i+1)≠ -1\/nodeV b.wins b.places (2*i+2)≠ -1))) (st:=λi=>[.i64 (i:Int)]) (r:=some [.i64 8]) (fin:=some [.i64 0]) (λi self hi _=>?_) (λ_ self=>?_) (by omega)).trans ?_
  .have hx:=wn hi;unfold Gh oP;simp only[ax,jC,EV,ai,aa,bi hi,aS hx (bS _),aJ hx,bZ,dbl (show i<100000000 by omega),up1 (show 2*i<1000000000 by omega),up2 (show 2*i<1000000000 by omega),phi (xx (b:=b) (i:=2*i+1) (by omega) (by omega)),phi (xx (b:=b) (i:=2*i+2) (by omega) (by omega)),OJ,up1 (show i<1000000000 by omega),aF,ak]
   generalize nodeV b.wins b.places i=w;generalize nodeV b.wins b.places (2*i+1)=p;generalize nodeV b.wins b.places (2*i+2)=q;by_cases c1:w=p
   .by_cases c3:w= -1
    .by_cases c4:p= -1
     .by_cases c5:q= -1<;>simp[c1,c3,c4,c5]
     .omega
    .simp only[c1,c3];subst c1;simp[c3]
   .by_cases c2:w=q
    .by_cases c3:w= -1
     .subst c3;subst c2;simp[c1,Ne.symm c1]
     .subst c2;simp[c1,c3]
    .simp[c1,c2]
  .unfold Gh;simp only[ax,jC,EV,ai,aa,bK,OI]
  .by_cases hr:Aw b.wins b.places
   .rw[ad hr.2,au hr];rfl
   .rw[ac (λh=>hr ⟨hbase,h⟩),aj hr];rfl
 .by_cases hr:Aw b.wins b.places
  .rw[ad (by rw[aV];intro x hx;have:=hr.1.2.2 x hx;simp;omega)]
  .split
   .rfl
   .exact no hr
def dR (l:List Pt)(x:Int):Prop:=x= -1\/inF l x=true
def wonI (t:Rt)(l:List Pt)(a b:Int):Int:=if a<0 then b else if b<0 then a else if leads t (ptOf l a) (ptOf l b)=true then a else b
def zX {t:Rt}{l:List Pt}(a b:Int)(ha:dR l a)(hb:dR l b):dR l (wonI t l a b):=by
 unfold wonI;split
 .exact hb
 .grind
def valK_in {l:List Pt}(h:okF l){x:Int}(hv:dR l x):x= -1\/∃(i:Nat) (p:Pt),l[i]?=some p/\ p.id=x/\ pos l x=(i:Nat)/\ ptOf l x=p/\ 0<=x:=by
 rcases hv with e|e
 .exact .inl e
 .obtain⟨i,p,h1,h2,h3,h4⟩:=iJ h e;exact .inr ⟨i,p,h1,h2,h3,h4,by rw[<-h2];exact(ji h p (ay h1)).1⟩
open Classical in
def agE {l:List Pt}{pl:List Int}(hl:l.length<=1000)(hp:pl.length<=1000):Ans D 173 [F l,sl I1 pl] [.bool (decide (∀x∈pl,dR l x))]:=by
 refine an ⟨1001,?_⟩;unfold ZO;simp[aO,EV];refine(cw (m:=1001) (l:=pl) (p:=λx=>decide (dR l x)) (st:=λi=>[.i64 (i:Int)]) (r:=some [.bool false]) (fin:=some [.bool true]) (λi x self hx _=>?_) (λhall self=>?_) (by omega)).trans ?_
 .unfold Gk;simp[EV,aS hx (bS _),aJ hx,bZ,phi (me hl x),ON,up1 (show i<1000000000 by have:=aN hx;omega)]
  unfold dR inF
  grind
 .unfold Gk;simp only[EV,ai,aa,bK,OM]
 .grind
open Classical in
def agF {l:List Pt}{pl:List Int}(h:okF l)(hp:pl.length<=1000):Ans D 301 [F l,sl I1 pl] [.bool (decide (∀x∈pl,dR l x))]:=by
 refine an ⟨1001,?_⟩;unfold abd;simp only[ax,aO,EV,ai];refine(cw (m:=1001) (l:=pl) (p:=λx=>decide (dR l x)) (st:=λi=>[.i64 (i:Int)]) (r:=some [.bool false]) (fin:=some [.bool true]) (λi x self hx _=>?_) (λhall self=>?_) (by omega)).trans ?_
 .have u1:=up1 (show i<1000000000 by have:=aN hx;omega)
  unfold HS;rcases has_cases l x with hn|⟨j,p,hj,rfl⟩
  .obtain⟨P,hP⟩:=adL h hn;have hf:inF l x=false:=by
    unfold inF;rcases pos_cases l x with⟨e,_⟩|⟨i,p,h1,h2,_⟩
    .rw[e];rfl
    .grind
   simp only[ax,EV,aa,bi (aN hx),aS hx (bS _),aJ hx,bZ,phi hP,aq,aw,HR,u1];unfold dR;simp_all
  .have hf:inF l p.id=true:=ey.2 (bh.2 ⟨p,ay hj,rfl⟩);simp only[ax,EV,aa,bi (aN hx),aS hx (bS _),aJ hx,bZ,phi (RD h hj),aA,HR,u1];unfold dR;rw[hf];simp
 .unfold HS PY;simp only[EV,aa,bK];rfl
 .by_cases h:∀x∈pl,dR l x
  .rw[ad (by simpa using h),au h]
  .rw[ac (by simpa using h),aj h]
def agG {l:List Pt}{t:Rt}(h:okF l)(ht:aX t)(hr:rok t=true):Ans D 300 [F l,R t] [.i64 0]:=by
 have h1:=phi (vr l);rw[eu.2 h] at h1;have h2:=phi (c43 ht);rw[hr] at h2;have e0:okE true=0:=rfl;rw[e0] at h2;refine am ?_;unfold abc;simp[aO,bU,EV,h1,h2]
def agH {l:List Pt}{t:Rt}(h:okF l)(ht:aX t)(hr:rok t=true){a b:Int}(ha:dR l a)(hb:dR l b):Ans D 302 [F l,R t,.i64 a,.i64 b] [.i64 (wonI t l a b)]:=by
 refine am ?_;unfold abe wonI;rcases valK_in h ha with e|⟨i,p,p1,p2,p3,p4,p5⟩
 .rcases valK_in h hb with e'|⟨j,q,q1,q2,q3,q4,q5⟩
  .subst e;subst e';simp only[ax,aO,bU,mmN,mmX,EV];rfl
  .subst e;simp only[ax,aO,bU,mmN,mmX,EV,aa,ad (show min (-1) b<0 by omega),ad (show(-1:Int)<0 by omega),show max (-1) b=b by omega]
 .rcases valK_in h hb with e'|⟨j,q,q1,q2,q3,q4,q5⟩
  .subst e';simp only[ax,aO,bU,mmN,mmX,EV,aa,ad (show min a (-1)<0 by omega),ac (show¬a<0 by omega),ad (show(-1:Int)<0 by omega),show max a (-1)=a by omega]
  .have d1:=phi (RD h p1);have d2:=phi (RD h q1);rw[p2] at d1;rw[q2] at d2;have d3:∃e:Int,aY D 249 [PP p,PP q,R t]=some [.bool (leads t p q),.i64 e]:=by
    have:=phi (E6 (p:=p) (q:=q) ht);by_cases e:p.id=q.id
    .have:p=q:=(dD h.2.2).inj (ay p1) (ay q1) e;subst this;by_cases c:kO p p t=0
     .rw[ad c] at this;exact⟨_,this⟩
     .rw[ac c] at this;rw[D1];exact⟨_,this⟩
    .rw[ad (lu (eQ h p1) (eQ h q1) hr e)] at this;exact⟨_,this⟩
   obtain⟨e,d3⟩:=d3;simp only[ax,aO,bU,b8,mmN,mmX,EV,aa,ac (show¬min a b<0 by omega),ac (show¬a<0 by omega),ac (show¬b<0 by omega),d1,d2,aS p1 (bY _),aJ p1,aS q1 (bY _),aJ q1,gr,d3,p4,q4]
   cases leads t p q<;>rfl
def XO {l:List Pt}{t:Rt}(h:okF l)(ht:aX t){a b:Int}(ha:dR l a)(hb:dR l b):Ans D 267 [F l,R t,.i64 a,.i64 b] [.i64 (wonI t l a b)]:=by
 have hl:=h.1;refine am ?_;unfold aaM wonI;simp[aO,bU,EV];by_cases c1:a<0
 .grind
 rw[ac c1,ac c1];by_cases c2:b<0
 .grind
 rw[ac c2,ac c2];rcases valK_in h ha with e|⟨i,p,p1,p2,p3,p4,p5⟩
 .omega
 rcases valK_in h hb with e|⟨j,q,q1,q2,q3,q4,q5⟩
 .omega
 simp[b8,phi (me (l:=l) (by omega) a),phi (me (l:=l) (by omega) b),p3,q3,aS p1 (bY _),aJ p1,aS q1 (bY _),aJ q1,gr,phi (Cq (eQ h p1) (eQ h q1) ht),p4,q4,EV];split<;>rfl
open Classical in
def XP {l:List Pt}{t:Rt}{pl:List Int}(h:okF l)(ht:aX t)(hr:rok t=true)(h1:1<=pl.length)(h2:pl.length<=64)(hv:∀x∈pl,dR l x)(ho:iC pl):Ans D 218 [F l,R t,sl I1 pl] [BR ⟨pl,playD (wonI t l) pl (pl.length-1) (pl.length-1)⟩,.i64 0]:=by
 have wp:IntKind.i64.wrap ((pl.length:Int)-1)=((pl.length-1:Nat):Int):=by rw[bV (by omega) (by omega)];omega
 have e1:=phi (agF h (pl:=pl) (by omega));rw[au hv] at e1;have e2:=phi (XN (l:=pl) (by omega));rw[au ho] at e2;have rp:=xu (n:=pl.length-1) (by omega);have agB:∀w:List Int,RF.ev .agg [sl I1 pl,sl I1 w]=some (BR ⟨pl,w⟩):=λw=>rfl;refine an ⟨1001,?_⟩;unfold aaj;simp only[ax,aO,bU,EV,phi (agG h ht hr),ai,az,aE,aq,aw,aa,ac (show¬(pl.length:Int)<1 by omega),Pd,cJ,aj (show¬(64:Int)<(pl.length:Int) by omega),e1,e2,Pa,Pb,Pc,O9,phi (ml (l:=pl) (by omega)),wp,rp,aP]
 generalize hm:pl.length-1=m at*;have w1:IntKind.i64.wrap ((m:Int)-1)=(m:Int)-1:=bV (by omega) (by omega);rw[w1];have e0:([sl I1 (List.replicate m 0),PV.v (.int .i64 ((m:Int)-1))]:List PV)=[sl I1 (playD (wonI t l) pl m 0),.i64 ((m:Int)-1-((0:Nat):Int))]:=by
  simp[playD]
 rw[e0];refine(dP (m:=1001) (n:=m) (st:=λk=>[sl I1 (playD (wonI t l) pl m k),.i64 ((m:Int)-1-(k:Int))]) (λk self hk=>?_) (λself=>?_) (by omega))
 .obtain⟨i,hi⟩:∃i:Nat,m-1-k=i:=⟨_,rfl⟩;have hii:(m:Int)-1-(k:Int)=(i:Int):=by omega
  have hdn:IntKind.i64.wrap ((i:Int)-1)=(m:Int)-1-((k+1:Nat):Int):=by rw[bV (by omega) (by omega)];omega
  have hP:=zo (P:=dR l) (.inl rfl) (won:=wonI t l) (λa b=>zX a b) hv k (by omega:k<=m);have hlen:=gU (won:=wonI t l) (places:=pl) (m:=m) k;have hnx:playD (wonI t l) pl m (k+1)=(playD (wonI t l) pl m k).set i (wonI t l (nodeV (playD (wonI t l) pl m k) pl (2*i+1)) (nodeV (playD (wonI t l) pl m k) pl (2*i+2))):=by rw[<-hi];rfl
  rw[hnx];generalize playD (wonI t l) pl m k=w at hP hlen;have su:RF.ev .sub [sl I1 w,.v (.int .i64 0),.v (.int .i64 (m:Int))]=some (sl I1 w):=by rw[<-hlen];exact bF
  unfold GO;simp only[EV,hii,aa,bk,ad (show(0:Int)<=(i:Int) by omega),dbl (show i<100000000 by omega),up1 (show 2*i<1000000000 by omega),up2 (show 2*i<1000000000 by omega),bF,su,agB,ax,phi (LJ (b:=⟨pl,w⟩) (i:=2*i+1) (by simp only;omega) (by simp only;omega)),phi (LJ (b:=⟨pl,w⟩) (i:=2*i+2) (by simp only;omega) (by simp only;omega)),phi (agH h ht hr (hP (2*i+1) (by omega)) (hP (2*i+2) (by omega))),ixM (show i<m by omega),dQ (l:=w) (i:=i) (by omega),hdn]
 .have hlen:=gU (won:=wonI t l) (places:=pl) (m:=m) m;generalize playD (wonI t l) pl m m=w at hlen;have su:RF.ev .sub [sl I1 w,.v (.int .i64 0),.v (.int .i64 (m:Int))]=some (sl I1 w):=by rw[<-hlen];exact bF
  unfold GO;simp only[EV,aa,bk,ac (show¬(0:Int)<=(m:Int)-1-(m:Int) by omega),O8,bF,su,agB,ax]
def edB (w p:List Int)(i:Nat):List Crt:=if 0<=nodeV w p (2*i+1)/\ 0<=nodeV w p (2*i+2) then [⟨nodeV w p (2*i+1)+nodeV w p (2*i+2)-nodeV w p i,nodeV w p i⟩] else []
def edsB (w p:List Int)(n:Nat):List Crt:=(List.range n).flatMap (edB w p)
def qd (w p:List Int)(n:Nat):edsB w p (n+1)=edsB w p n++edB w p n:=by
 unfold edsB;rw[ti,xc];simp
def lC (w p:List Int):∀n,(edsB w p n).length<=n
 |0=>by simp[edsB]
 |n+1=>by
  have:=lC w p n;rw[qd,aB];unfold edB;split<;>simp<;>omega
def lD {l:List Pt}(h:okF l){x:Int}(hv:dR l x): -1<=x/\ x<=65535:=by
 rcases valK_in h hv with e|⟨i,p,p1,p2,_⟩
 .omega
 .have:=ji h p (ay p1);omega
def sO {w p:List Int}{j:Nat}(hj:j<w.length+p.length):(j<w.length->w[j]?=some (nodeV w p j))/\(¬j<w.length->p[j-w.length]?=some (nodeV w p j)):=by
 constructor
 .intro h;obtain⟨x,hx⟩:∃x,w[j]?=some x:=⟨_,ah h⟩;rw[hx,zn hx]
 .intro h;obtain⟨x,hx⟩:∃x,p[j-w.length]?=some x:=⟨_,ah (by omega)⟩;rw[hx,Dh h hx]
open Classical in
def agI {l:List Pt}{t:Rt}{pl:List Int}(h:okF l)(ht:aX t)(hr:rok t=true)(h1:1<=pl.length)(h2:pl.length<=64)(hv:∀x∈pl,dR l x)(ho:iC pl){w:List Int}(hw:w=playD (wonI t l) pl (pl.length-1) (pl.length-1)):Ans D 123 [F l,R t,sl I1 pl] [BR ⟨pl,w⟩,sl bT (edsB w pl w.length)]:=by
 have hlen:w.length=pl.length-1:=by rw[hw,gU]
 have hP:∀j,dR l (nodeV w pl j):=λj=>by rw[hw];exact zo (P:=dR l) (.inl rfl) (won:=wonI t l) (λa b=>zX a b) hv _ (aC _) j (by omega)
 have e218:=phi (XP h ht hr h1 h2 hv ho);rw[<-hw] at e218;refine an ⟨1001,?_⟩;unfold Zn;simp only[ax,aO,bU,EV,e218,kg,jC,ai];have e0:([PV.sl [],.v (.int .i64 0),.v (.int .i64 0)]:List PV)=[sl bT (edsB w pl 0),.i64 ((edsB w pl 0).length:Int),.i64 ((0:Nat):Int)]:=rfl;rw[e0];refine(dP (m:=1001) (n:=w.length) (st:=λi=>[sl bT (edsB w pl i),.i64 ((edsB w pl i).length:Int),.i64 (i:Int)]) (λi self hi=>?_) (λself=>?_) (by omega))
 .have hx:=wn (b:=⟨pl,w⟩) (i:=i) hi;have hel:=lC w pl i;have b0:=lD h (hP i);have b1:=lD h (hP (2*i+1));have b2:=lD h (hP (2*i+2));have c1':(2*i+1<w.length->w[2*i+1]?=some (nodeV w pl (2*i+1)))/\(¬2*i+1<w.length->pl[2*i+1-w.length]?=some (nodeV w pl (2*i+1))):=sO (by omega);have c2':(2*i+2<w.length->w[2*i+2]?=some (nodeV w pl (2*i+2)))/\(¬2*i+2<w.length->pl[2*i+2-w.length]?=some (nodeV w pl (2*i+2))):=sO (by omega);simp only at hx;rw[qd];unfold edB;generalize nodeV w pl i=v at hx b0;generalize nodeV w pl (2*i+1)=a at b1 c1';generalize nodeV w pl (2*i+2)=b at b2 c2';have w1:IntKind.i64.wrap (a+b)=a+b:=bV (by omega) (by omega);have w2:IntKind.i64.wrap (a+b-v)=a+b-v:=bV (by omega) (by omega);have ap:=fh (f:=bT) (l:=edsB w pl i) (k:=[⟨a+b-v,v⟩]) (bytes:=16) (z:=2) (by simp;omega) jz;have u1:=up1 (show i<1000000000 by omega)
  unfold CC;by_cases q1:2*i+1<w.length
  .have r1:=c1'.1 q1;by_cases q2:2*i+2<w.length
   .have r2:=c2'.1 q2;simp only[ax,jC,qw,EV,ai,aa,bi hi,aS hx (bS _),aJ hx,bZ,dbl (show i<100000000 by omega),up1 (show 2*i<1000000000 by omega),up2 (show 2*i<1000000000 by omega),bi q1,bi q2,aS r1 (bS _),aJ r1,aS r2 (bS _),aJ r2,bk,Oc,Ob,A9,u1,w1,w2,qC,bsC,mQ]
    by_cases g1:0<=a
    .by_cases g2:0<=b
     .simp only[g1,g2,aA,az,fx,ap,qk,ax,EV,ai,u1]
     .simp only[g1,g2,aA,bw,eF,aw,aq,aR]
    .simp only[g1,aw,gZ,aq,aR]
   .have r2:=c2'.2 q2;simp only[ax,jC,qw,EV,ai,aa,bi hi,aS hx (bS _),aJ hx,bZ,dbl (show i<100000000 by omega),up1 (show 2*i<1000000000 by omega),up2 (show 2*i<1000000000 by omega),bi q1,ac (show¬((2*i+2:Nat):Int)<(w.length:Int) by omega),Fm (show w.length<=2*i+2 by omega) (by omega),aS r1 (bS _),aJ r1,aS r2 (bS _),aJ r2,bk,Oe,Od,A9,u1,w1,w2,qC,bsC,mQ]
    by_cases g1:0<=a
    .by_cases g2:0<=b
     .simp only[g1,g2,aA,az,fx,ap,qk,ax,EV,ai,u1]
     .simp only[g1,g2,aA,bw,eF,aw,aq,aR]
    .simp only[g1,aw,gZ,aq,aR]
  .have r1:=c1'.2 q1;have q2:¬2*i+2<w.length:=by omega
   have r2:=c2'.2 q2;simp only[ax,jC,qw,EV,ai,aa,bi hi,aS hx (bS _),aJ hx,bZ,dbl (show i<100000000 by omega),up1 (show 2*i<1000000000 by omega),up2 (show 2*i<1000000000 by omega),ac (show¬((2*i+1:Nat):Int)<(w.length:Int) by omega),ac (show¬((2*i+2:Nat):Int)<(w.length:Int) by omega),Fm (show w.length<=2*i+1 by omega) (by omega),Fm (show w.length<=2*i+2 by omega) (by omega),aS r1 (bS _),aJ r1,aS r2 (bS _),aJ r2,bk,Kw,Of,A9,u1,w1,w2,qC,bsC,mQ]
   by_cases g1:0<=a
   .by_cases g2:0<=b
    .simp only[g1,g2,aA,az,fx,ap,qk,ax,EV,ai,u1]
    .simp only[g1,g2,aA,bw,eF,aw,aq,aR]
   .simp only[g1,aw,gZ,aq,aR]
 .unfold CC;simp only[EV,aa,bK,Oa,bF,ax]
def XQ {b:Brk}(h1:b.places.length=b.wins.length+1)(h2:b.places.length<=70)(hk:∀i,i<b.wins.length->oP b.wins b.places i)(hb:∀j,-1<=nodeV b.wins b.places j/\ nodeV b.wins b.places j<=65535):Ans D 176 [BR b] [sl bT (edsB b.wins b.places b.wins.length)]:=by
 refine an ⟨1001,?_⟩;unfold ZR;simp only[ax,kg,EV];have e0:([PV.sl [],.v (.int .i64 0),.v (.int .i64 0)]:List PV)=[sl bT (edsB b.wins b.places 0),.i64 ((edsB b.wins b.places 0).length:Int),.i64 ((0:Nat):Int)]:=rfl;rw[e0];refine(dP (m:=1001) (n:=b.wins.length) (st:=λi=>[sl bT (edsB b.wins b.places i),.i64 ((edsB b.wins b.places i).length:Int),.i64 (i:Int)]) (λi self hi=>?_) (λself=>?_) (by omega))
 .have hx:=wn (b:=b) (i:=i) hi;have hel:=lC b.wins b.places i;have hpk:=hk i hi;have b0:=hb i;have b1:=hb (2*i+1);have b2:=hb (2*i+2);have c1':=phi (xx (b:=b) (i:=2*i+1) (by omega) (by omega));have c2':=phi (xx (b:=b) (i:=2*i+2) (by omega) (by omega));rw[qd];unfold edB;unfold oP at hpk;generalize nodeV b.wins b.places i=v at hx b0 hpk;generalize nodeV b.wins b.places (2*i+1)=p at b1 c1' hpk;generalize nodeV b.wins b.places (2*i+2)=q at b2 c2' hpk;have ap:=λc=>fh (f:=bT) (l:=edsB b.wins b.places i) (k:=[c]) (bytes:=16) (z:=2) (by simp;omega) jz;unfold Gn;simp only[ax,jC,EV,ai,aa,bi hi,dbl (show i<100000000 by omega),up1 (show 2*i<1000000000 by omega),up2 (show 2*i<1000000000 by omega),c1',c2',OT,up1 (show i<1000000000 by omega),aS hx (bS _),aJ hx,bZ,OU,qC,bsC,mQ,ap]
  by_cases g1:p<0
  .rw[ad g1,ac (by omega),aR]
  by_cases g2:q<0
  .rw[ac g1,ad g2,ac (by omega),aR]
  rw[ac g1,ac g2,ad (show 0<=p/\ 0<=q by omega)]
  by_cases g3:v=p
  .rw[ad g3,g3,show p+q-p=q by omega]
  .rw[ac g3,show v=q by omega,show p+q-q=p by omega]
 .unfold Gn;simp only[ax,jC,EV,ai,aa,bK,OS,bF]
open Classical in
def agJ {b:Brk}{l:List Pt}{t:Rt}(h:okF l)(ht:aX t)(h1:b.places.length=b.wins.length+1)(h2:b.places.length<=70)(hv:∀j,dR l (nodeV b.wins b.places j)):Ans D 175 [BR b,F l,R t] [.bool (decide (mT (wonI t l) b.wins b.places))]:=by
 refine an ⟨1001,?_⟩;unfold ZQ;simp only[ax,kg,aO,bU,EV];refine(fD (m:=1001) (n:=b.wins.length) (P:=λi=>nodeV b.wins b.places i=wonI t l (nodeV b.wins b.places (2*i+1)) (nodeV b.wins b.places (2*i+2))) (st:=λi=>[.i64 (i:Int)]) (r:=some [.bool false]) (fin:=some [.bool true]) (λi self hi _=>?_) (λ_ self=>?_) (by omega)).trans ?_
 .have hx:=wn (b:=b) (i:=i) hi;unfold Gm;simp only[ax,jC,EV,ai,aa,bi hi,dbl (show i<100000000 by omega),up1 (show 2*i<1000000000 by omega),up2 (show 2*i<1000000000 by omega),phi (xx (b:=b) (i:=2*i+1) (by omega) (by omega)),phi (xx (b:=b) (i:=2*i+2) (by omega) (by omega)),phi (XO h ht (hv (2*i+1)) (hv (2*i+2))),up1 (show i<1000000000 by omega),aS hx (bS _),aJ hx,bZ,aF,ak]
  by_cases g:nodeV b.wins b.places i=wonI t l (nodeV b.wins b.places (2*i+1)) (nodeV b.wins b.places (2*i+2))
  .rw[ac (by simpa using g),ad g]
  .rw[ad g,ac g]
 .unfold Gm;simp only[ax,jC,EV,ai,aa,bK,OQ]
 .by_cases h:mT (wonI t l) b.wins b.places
  .rw[ad (show∀i,i<b.wins.length->_ from h),au h]
  .rw[ac (show¬∀i,i<b.wins.length->_ from h),aj h]
def szd (n:Nat):Bool:=decide (n∈[1,2,4,8,16,32,64])
def VX:∀n:Nat,n<65->1<=n->((BitVec.ofInt 64 (n:Int)&&& BitVec.ofInt 64 ((n:Int)-1)).toNat=0↔szd n=true):=by decide
def agK {n:Nat}(h:n<=1000):Ans D 172 [.i64 (n:Int)] [.bool (szd n)]:=by
 have wr:∀m:Nat,m<=1000->IntKind.i64.wrap ((m:Int)*2)=((m*2:Nat):Int):=λm hm=>by rw[bV (by omega) (by omega)];omega
 refine an ⟨1001,?_⟩;unfold ZN;simp only[EV];refine(jy (m:=1001) (l:=[1,2,4,8,16,32,64]) (p:=λa:Nat=>decide (n=a)) (st:=λi=>[.i64 ((2^ i:Nat):Int)]) (ret:=λ_=>some [.bool true]) (fin:=some [.bool false]) (λi a self ha=>?_) (λself=>?_) (by decide)).trans ?_
 .have hi:=aN ha;have ha2:a=2^ i:=by
   match i,hi with
   |0,_=>simpa using ha.symm
   |1,_=>simpa using ha.symm
   |2,_=>simpa using ha.symm
   |3,_=>simpa using ha.symm
   |4,_=>simpa using ha.symm
   |5,_=>simpa using ha.symm
   |6,_=>simpa using ha.symm
  have h64:2^ i<=64:=by
   have:i<=6:=by simp at hi;omega
   exact bM (Nat.pow_le_pow_right (by omega) this) (by decide)
  have hnx:2^(i+1)=2^ i*2:=Nat.pow_succ ..;rw[hnx];subst ha2;generalize 2^ i=m at h64;unfold Gj;simp only[EV,aa,ad (show(m:Int)<=64 by omega),wr m (by omega)]
  by_cases c:n=m
  .rw[ad (by omega),ad c]
  .rw[ac (by omega),ac c]
 .unfold Gj;simp only[EV,bA,dI,show decide ((((2:Nat)^(0+1+1+1+1+1+1+1):Nat):Int)<=64)=false from rfl,aq,aw,OL]
 .cases e:List.findIdx? (λa:Nat=>decide (n=a)) [1,2,4,8,16,32,64] with
  |none=>
   rw[eb] at e;have:szd n=false:=aj (λh=>by have:=e n h;simp at this);rw[this];rfl
  |some i=>
   obtain⟨hi,h2,_⟩:=bD.1 e;have:szd n=true:=au (by rw[ba h2];exact List.getElem_mem hi);rw[this];rfl
def agL {l:List Int}(hl:l.length<=1000):Ans D 174 [sl I1 l] [sl I1 (l.filter λx=>decide (0<=x))]:=by
 refine an ⟨1001,?_⟩;unfold ZP;simp only[EV];have e0:([PV.sl [],.v (.int .i64 0),.v (.int .i64 0)]:List PV)=[sl I1 [],.i64 (([]:List Int).length:Int),.i64 ((0:Nat):Int)]:=rfl;rw[e0];refine(iH (m:=1001) (l:=l) (g:=λacc x=>if 0<=x then acc++[x] else acc) (I:=λk acc=>acc.length<=k) (S:=λacc k=>[sl I1 acc,.i64 (acc.length:Int),.i64 (k:Int)]) (fin:=λacc=>some [sl I1 acc]) (x:=[]) (by simp) (λk a acc _ h=>by
   split
   .rw[aB,aQ];omega
   .omega) (λk x acc self hx hI=>?_) (λacc self hI=>?_) (by omega)).1.trans ?_
 .have hk:=aN hx;have ap:=fh (f:=I1) (l:=acc) (k:=[x]) (bytes:=8) (z:=1) (by simp;omega) bS;unfold Gl;simp only[ax,EV,ai,aa,bi hk,aS hx (bS _),aJ hx,bZ,bk,OP,up1 (show k<1000000000 by omega),bsI,kV,ap]
  by_cases c:0<=x
  .simp only[c,aA]
  .simp only[c,aw]
 .unfold Gl;simp only[EV,ai,aa,bK,OO,bF]
 .have:∀(l acc:List Int),l.foldl (λacc x=>if 0<=x then acc++[x] else acc) acc=acc++l.filter λx=>decide (0<=x):=by
   intro l;induction l with
   |nil=>simp
   |cons a l ih=>
    intro acc;rw[cV,ih,cy];by_cases c:0<=a<;>simp[c]
  rw[this,aT]
def AN (l:List Int):List Int:=gK l
def agM {l:List Int}(hl:l.length<=1000):Ans D 160 [.sl [],sl I1 l] [sl I1 (AN l)]:=by
 have h0:D.T 160=none:=by kernel_rfl
 refine Vy h0 ?_;show wD 160 160 [.sl [],.sl (jP l)]=some [.sl (jP (gK l))]
 unfold wD;simp[zG]
 grind
def eH (k:KTourn):Prop:=bx k.clock/\ kQ k.brk.wins k.brk.places/\ szd k.brk.places.length=true/\(∀x∈k.brk.places,dR k.clock.pts x)/\(k.brk.places.filter λx=>decide (0<=x)).length=k.clock.pts.length/\ mT (wonI k.clock.now k.clock.pts) k.brk.wins k.brk.places/\ JustR k.clock (edsB k.brk.wins k.brk.places k.brk.wins.length)
def tV {k:KTourn}(h:gKt k=false):gCl k.clock=false/\ k.brk.places.length<=70/\ k.brk.wins.length<=70:=by
 unfold gKt at h
 grind
def brk_val {b:Brk}{l:List Pt}(hb:kQ b.wins b.places)(hv:∀x∈b.places,dR l x)(j:Nat):dR l (nodeV b.wins b.places j):=
 W0 (P:=dR l) (.inl rfl) hb.1.1.2.2 hv (λi hi=>(hb.2 i hi).1) _ j rfl
def Fs {w p:List Int}{n:Nat}{e:Crt}(h:e∈edsB w p n):∃i,i<n/\(0<=nodeV w p (2*i+1)/\ 0<=nodeV w p (2*i+2))/\ e=⟨nodeV w p (2*i+1)+nodeV w p (2*i+2)-nodeV w p i,nodeV w p i⟩:=by
 unfold edsB at h;obtain⟨i,hi,he⟩:=sE.1 h;rw[dW] at hi;unfold edB at he;split at he
 .rename_i c;exact⟨i,hi,c,cg.1 he⟩
 .cases he
def qM {b:Brk}{l:List Pt}{t:Rt}(h:okF l)(hb:kQ b.wins b.places)(hv:∀x∈b.places,dR l x)(hf:mT (wonI t l) b.wins b.places){e:Crt}(he:e∈edsB b.wins b.places b.wins.length):inF l e.low=true/\ inF l e.high=true/\ leads t (ptOf l e.high) (ptOf l e.low)=true:=by
 obtain⟨i,hi,⟨c1,c2⟩,rfl⟩:=Fs he;have hF:=hf i hi;have hd:nodeV b.wins b.places (2*i+1)≠nodeV b.wins b.places (2*i+2):=λe=>JF (yD hb) c1 hi rfl e.symm;rcases valK_in h (brk_val hb hv (2*i+1)) with e|⟨j1,p,p1,p2,p3,p4,p5⟩
 .omega
 rcases valK_in h (brk_val hb hv (2*i+2)) with e|⟨j2,q,q1,q2,q3,q4,q5⟩
 .omega
 have ip:inF l (nodeV b.wins b.places (2*i+1))=true:=by rw[<-p2];exact ey.2 (bh.2 ⟨p,ay p1,rfl⟩)
 have iq:inF l (nodeV b.wins b.places (2*i+2))=true:=by rw[<-q2];exact ey.2 (bh.2 ⟨q,ay q1,rfl⟩)
 unfold wonI at hF;rw[ac (by omega),ac (by omega),p4,q4] at hF;cases hL:leads t p q with
 |true=>
  grind
 |false=>
  rw[hL,ac (by simp)] at hF;rw[hF,Int.add_sub_cancel,p4,q4];refine⟨ip,iq,?_⟩;rcases leads_total (t:=t) (p:=p) (q:=q) (by rw[p2,q2];exact hd) with g|g
  .grind
  .exact g
def vE {b:Brk}{l:List Pt}{t:Rt}(h:okF l)(hb:kQ b.wins b.places)(hv:∀x∈b.places,dR l x)(hf:mT (wonI t l) b.wins b.places):∀n,n<=b.wins.length->(edsB b.wins b.places n).Nodup
 |0,_=>by simp[edsB]
 |n+1,hn=>by
  rw[qd];have ih:=vE h hb hv hf n (by omega);have one:∀i,i<b.wins.length->(0<=nodeV b.wins b.places (2*i+1)/\ 0<=nodeV b.wins b.places (2*i+2))->∃c,(c=2*i+1\/c=2*i+2)/\ nodeV b.wins b.places c=nodeV b.wins b.places (2*i+1)+nodeV b.wins b.places (2*i+2)-nodeV b.wins b.places i/\ nodeV b.wins b.places i≠nodeV b.wins b.places c/\ 0<=nodeV b.wins b.places c:=λi hi hc=>by
   have hd:nodeV b.wins b.places (2*i+1)≠nodeV b.wins b.places (2*i+2):=λe=>JF (yD hb) hc.1 hi rfl e.symm;rcases(hb.2 i hi).1 with g|g
   .exact⟨2*i+2,.inr rfl,by omega,by omega,hc.2⟩
   .exact⟨2*i+1,.inl rfl,by omega,by omega,hc.1⟩
  unfold edB;split
  .rename_i c;rw[fG];refine⟨ih,by simp,λa ha b' hb' e=>?_⟩;subst e;obtain⟨i,hi,c',e⟩:=Fs ha;rw[cg] at hb';rw[e] at hb';simp at hb';obtain⟨x,x1,x2,x3,x4⟩:=one i (by omega) c';obtain⟨y,y1,y2,y3,y4⟩:=one n (by omega) c;have:=Ri (yD hb) (z:=nodeV b.wins b.places x) x4 (i:=i) (j:=n) (by omega) (by omega) x1 y1 rfl (by omega) x3 (by omega);omega
  .rw[aR];exact ih
open Classical in
def c82 {k:KTourn}(h64:ij k.clock)(hg:gKt k=false):Ans D 82 [KT k] [.i64 (okE (decide (eH k)))]:=by
 obtain⟨g1,g2,g3⟩:=tV hg;have no:∀h:¬eH k,(some [PV.v (.int .i64 8)]:Option (List PV))=some [.i64 (okE (decide (eH k)))]:=λh=>by rw[aj h];rfl
 have pKT2:RF.ev (.part 2 1) [KT k]=some (F k.clock.pts):=rfl;have pKT0:RF.ev (.part 0 2) [KT k]=some (R k.clock.now):=rfl;have cKT11:RF.ev (.cell 11) [KT k]=some (sl I1 k.brk.places):=rfl;refine an ⟨1001,?_⟩;unfold k82;simp only[ax,gu,pKT,zU,pKT2,pKT0,cKT11,b8,EV,ai,phi (Lx h64 g1),phi (agD g2 g3),phi (agK (n:=k.brk.places.length) (by omega)),jb,aF,ak,aa];by_cases h1:bx k.clock
 rotate_left
 .rw[ac h1];exact no (λh=>h1 h.1)
 rw[ad h1];by_cases h2:kQ k.brk.wins k.brk.places
 rotate_left
 .rw[ac h2];exact no (λh=>h2 h.2.1)
 rw[ad h2];cases h3:szd k.brk.places.length with
 |false=>
  rw[ad rfl];exact no (λh=>by have:=h.2.2.1;rw[h3] at this;cases this)
 |true=>
 rw[ac (by simp)];have hF:=h1.2.1;have hl:=hF.1;simp only[ax,pKT2,cKT11,b8,EV,ai,phi (agE (l:=k.clock.pts) (pl:=k.brk.places) (by omega) (by omega)),phi (agL (l:=k.brk.places) (by omega)),aF,ak,aa];by_cases h4:∀x∈k.brk.places,dR k.clock.pts x
 rotate_left
 .rw[ad h4];exact no (λh=>h4 h.2.2.2.1)
 rw[ac (λg=>g h4)];by_cases h5:(k.brk.places.filter λx=>decide (0<=x)).length=k.clock.pts.length
 rotate_left
 .rw[ad (by omega)];exact no (λh=>h5 h.2.2.2.2.1)
 rw[ac (by omega)];have hlen:=h2.1.1.2.2;have hval:=brk_val h2 h4;simp only[ax,zU,pKT0,EV,phi (agJ (b:=k.brk) (l:=k.clock.pts) (t:=k.clock.now) hF h64.1 hlen (by omega) hval),aF,ak];by_cases h6:mT (wonI k.clock.now k.clock.pts) k.brk.wins k.brk.places
 rotate_left
 .rw[ad h6];exact no (λh=>h6 h.2.2.2.2.2.1)
 rw[ac (λg=>g h6)];have hel:=lC k.brk.wins k.brk.places k.brk.wins.length;simp only[ax,pKT,zU,EV,phi (XQ (b:=k.brk) hlen (by omega) (λi hi=>(h2.2 i hi).1) (λj=>lD hF (hval j))),phi (LD (c:=k.clock) (edges:=edsB k.brk.wins k.brk.places k.brk.wins.length) hF h64.1 (by omega) (by have:=gQ g1;omega) (λe he=>⟨(qM hF h2 h4 h6 he).1,(qM hF h2 h4 h6 he).2.1⟩)),aF,ak];by_cases h7:JustR k.clock (edsB k.brk.wins k.brk.places k.brk.wins.length)
 .rw[ac (λg=>g h7),au (show eH k from⟨h1,h2,h3,h4,h5,h6,h7⟩)];rfl
 .rw[ad h7];exact no (λh=>h7 h.2.2.2.2.2.2)
def R6 {l:List Pt}{pl:List Int}(hF:okF l)(ho:iC pl)(hb:∀x∈pl,-1<=x):AN (pl.filter λx=>decide (0<=x))=l.map Pt.id↔(∀x∈pl,dR l x)/\(pl.filter λx=>decide (0<=x)).length=l.length:=by
 have hperm:(AN (pl.filter λx=>decide (0<=x))).Perm (pl.filter λx=>decide (0<=x)):=xd _ _;constructor
 .intro h;rw[h] at hperm;refine⟨λx hx=>?_,by have:=hperm.length_eq;rw[ai] at this;exact this.symm⟩;by_cases c:0<=x
  .exact .inr (ey.2 (hperm.mem_iff.2 (bE.2 ⟨hx,by simpa using c⟩)))
  .exact .inl (by have:=hb x hx;omega)
 .rintro⟨h1,h2⟩;have hnd:(pl.filter λx=>decide (0<=x)).Nodup:=by
   have:∀(l:List Int),(∀(i j:Nat) (x:Int),0<=x->l[i]?=some x->l[j]?=some x->i=j)->(l.filter λx=>decide (0<=x)).Nodup:=by
    intro l;induction l with
    |nil=>intro _;simp
    |cons a l ih=>
     intro h;have ih:=ih λi j x hx hi hj=>by have:=h (i+1) (j+1) x hx (by simpa using hi) (by simpa using hj);omega
     rw[cy];split
     .rename_i c;refine cd.2 ⟨λhm=>?_,ih⟩;obtain⟨j,hj⟩:=aL.1 (bE.1 hm).1;have:=h 0 (j+1) a (by simpa using c) (by simp) (by simpa using hj)
      omega
     .exact ih
   exact this pl (gT.1 ho)
  have hp:(pl.filter λx=>decide (0<=x)).Perm (l.map Pt.id):=jI hnd (λx hx=>by
   obtain⟨a,b⟩:=bE.1 hx;rcases h1 x a with e|e
   .simp at b;omega
   .exact ey.1 e) (by rw[ai];omega)
  refine List.Perm.eq_of_pairwise (le:=λa b=>a<=b) (λa b _ _ h1 h2=>by omega) ?_ ?_ (hperm.trans hp)
  .have:=sJ (le:=λa b:Int=>decide (a<=b)) (λa b c h1 h2=>by simp at h1 h2|-;omega) (λa b=>by simp;omega) (pl.filter λx=>decide (0<=x));exact this.imp λh=>by simpa using h
  .rw[ec];intro i j hi hj hij;rw[ai] at hi hj;have:=iE hF.2.2 hij (ah hi) (ah hj);rw[List.getElem_map,List.getElem_map];omega
def Kr {S:List Int}{k:List Pt}(h:S.length=k.length)(ha:(S.zip k).all (λx=>decide (x.1=x.2.id))=true):S=k.map Pt.id:=by
 rw[aV] at ha;refine List.ext_getElem (by simpa using h) λi h1 h2=>?_
 have:=ha (S[i],k[i]'(by omega)) (List.mem_iff_getElem.2 ⟨i,by rw[o7];omega,by simp⟩)
 grind
def Ft {S:List Int}{k:List Pt}(h:S=k.map Pt.id):(S.zip k).all (λx=>decide (x.1=x.2.id))=true:=by
 rw[aV];intro x hx;obtain⟨i,hi⟩:=aL.1 hx
 grind
def cpt (l:List Int)(i:Nat):Nat->List Int×Nat
 |0=>(l,i)
 |t+1=>if 0<=nthI l (i+1+t) then((cpt l i t).1.set (cpt l i t).2 (nthI l (i+1+t)),(cpt l i t).2+1) else cpt l i t
def xy {l:List Int}{i:Nat}{a:Int}(ha:l[i]?=some a)(hn:a<0)(hp:(l.take i).all (λx=>!decide (x<0))=true):∀t,i+1+t<=l.length->(cpt l i t).1.length=l.length/\(cpt l i t).2<=i+t/\(cpt l i t).1.take (cpt l i t).2=(l.take (i+1+t)).filter (λx=>decide (0<=x))/\∀j,i+1+t<=j->(cpt l i t).1[j]?=l[j]?
 |0,_=>by
  refine⟨rfl,aC _,?_,λj _=>rfl⟩;rw[pd,cH,ha,jv];have h1:(l.take i).filter (λx=>decide (0<=x))=l.take i:=ee.2 λx hx=>by
   have:=aV.1 hp x hx;simp at this|-;omega
  have h2:(some a).toList.filter (λx=>decide (0<=x))=[]:=by simp;omega
  rw[h1,h2,aR];rfl
 |t+1,h=>by
  obtain⟨h1,h2,h3,h4⟩:=xy ha hn hp t (by omega);have hx:=ew (l:=l) (i:=i+1+t) (by omega);have e1:(l.take (i+1+(t+1))).filter (λx=>decide (0<=x))=(l.take (i+1+t)).filter (λx=>decide (0<=x))++if 0<=nthI l (i+1+t) then [nthI l (i+1+t)] else []:=by
   rw[show i+1+(t+1)=i+1+t+1 by omega,cH,hx,jv]
   congr 1
   simp[cy]
  rw[e1];unfold cpt;by_cases c:0<=nthI l (i+1+t)
  .rw[ad c,ad c];refine⟨by rw[aH];exact h1,by simp only;omega,?_,λj hj=>?_⟩
   .simp only;rw[cH,be (by omega),wZ,sF (by rw[aK];omega),h3];rfl
   .simp only;rw[bG (by omega)];exact h4 j (by omega)
  .rw[ac c,ac c,aR];exact⟨h1,by omega,h3,λj hj=>h4 j (by omega)⟩
def XR {L S:List Int}(h:S.length<=L.length):RF.ev (.appK 0 1) [sl I1 L,.v (.int .i64 0),sl I1 S]=some (sl I1 (S++L.drop S.length)):=by
 show(if(0:Int)<=0/\(0:Int)<=((L.map I1).length:Nat)/\((0:Int).toNat+(S.map I1).length)*0<=140737488355328/\ dK 1 (S.map I1)=true then some (PV.sl ((L.map I1).take (0:Int).toNat++S.map I1++(L.map I1).drop ((0:Int).toNat+(S.map I1).length))) else none)=_
 have he:dK 1 (S.map I1)=true:=by
  cases S with
  |nil=>rfl
  |cons a k=>simp[dK,bS]
 simp_all
def XS {L:List Int}{a n:Nat}(h:a+n=L.length):RF.ev (.clr [KP.z]) [sl I1 L,.v (.int .i64 (a:Int)),.v (.int .i64 (n:Int))]=some (sl I1 (L.take a++List.replicate n 0)):=by
 show(if(0:Int)<=a/\(0:Int)<=n/\(a:Int)+n<=((L.map I1).length:Nat) then some (PV.sl ((L.map I1).take (a:Int).toNat++List.replicate (n:Int).toNat [KP.z]++(L.map I1).drop ((a:Int).toNat+(n:Int).toNat))) else none)=_
 rw[ad ⟨by omega,by omega,by rw[ai];omega⟩,cD (by simp;omega)];simp;exact .inr rfl
def agN {L Z:List Int}:RF.ev .sub [sl I1 (L++Z),.v (.int .i64 0),.v (.int .i64 (L.length:Int))]=some (sl I1 L):=by
 rw[td,ad (by simp;omega)];simp
open Classical in
def c78 {k:KTourn}(h64:ij k.clock)(hg:gKt k=false):Ans D 78 [KT k] [.i64 (okE (decide (eH k)))]:=by
 obtain⟨g1,g2,g3⟩:=tV hg;have no:∀h:¬eH k,(some [PV.v (.int .i64 8)]:Option (List PV))=some [.i64 (okE (decide (eH k)))]:=λh=>by rw[aj h];rfl
 have pKT2:RF.ev (.part 2 1) [KT k]=some (F k.clock.pts):=rfl;have pKT0:RF.ev (.part 0 2) [KT k]=some (R k.clock.now):=rfl;have cKT2:RF.ev (.cell 2) [KT k]=some (sl row k.clock.pts):=rfl;have cKT11:RF.ev (.cell 11) [KT k]=some (sl I1 k.brk.places):=rfl;have cKT12:RF.ev (.cell 12) [KT k]=some (sl I1 k.brk.wins):=rfl;have wp:IntKind.i64.wrap ((k.brk.places.length:Int)-1)=(k.brk.places.length:Int)-1:=bV (by omega) (by omega);refine an ⟨1001,?_⟩;unfold k78;simp only[ax,gu,pKT,zU,cKT11,EV,ai,wp,phi (LC h64 g1),phi (agA g2 g3),jb,aF,ak,aa];by_cases h1:bx k.clock
 rotate_left
 .rw[ac h1];exact no (λh=>h1 h.1)
 rw[ad h1];by_cases h2:kQ k.brk.wins k.brk.places
 rotate_left
 .rw[ac h2];exact no (λh=>h2 h.2.1)
 rw[ad h2];have hF:=h1.2.1;have hl:=hF.1;have hpl:=h2.1.1;have hand:IntKind.i64.wrap (((BitVec.ofInt IntKind.i64.bits (k.brk.places.length:Int)&&& BitVec.ofInt IntKind.i64.bits ((k.brk.places.length:Int)-1)).toNat:Nat):Int)=(((BitVec.ofInt 64 (k.brk.places.length:Int)&&& BitVec.ofInt 64 ((k.brk.places.length:Int)-1)).toNat:Nat):Int):=by
  show IntKind.i64.wrap (((BitVec.ofInt 64 (k.brk.places.length:Int)&&& BitVec.ofInt 64 ((k.brk.places.length:Int)-1)).toNat:Nat):Int)=_
  have:(BitVec.ofInt 64 (k.brk.places.length:Int)&&& BitVec.ofInt 64 ((k.brk.places.length:Int)-1)).toNat<=k.brk.places.length:=by
   rw[BitVec.toNat_and];refine bM Nat.and_le_left ?_;rw[qp];omega
  exact bV (by omega) (by omega)
 have hsz:=VX k.brk.places.length (by omega) (by omega);rw[hand];generalize (BitVec.ofInt 64 (k.brk.places.length:Int)&&& BitVec.ofInt 64 ((k.brk.places.length:Int)-1)).toNat=z at hsz;by_cases h3:z=0
 rotate_left
 .rw[ad (by omega)];exact no (λh=>h3 (hsz.2 h.2.2.1))
 rw[ac (by omega)];have h3:=hsz.1 h3;have hfl:=eZ (λx=>decide (0<=x)) k.brk.places;have hsl:(AN (k.brk.places.filter λx=>decide (0<=x))).length=(k.brk.places.filter λx=>decide (0<=x)).length:=vk ..;have hsame:=R6 (l:=k.clock.pts) (pl:=k.brk.places) hF h2.1.2.1 (λx hx=>(h2.1.2.2 x hx).1);generalize hS:AN (k.brk.places.filter λx=>decide (0<=x))=S at hsl hsame;have hs160:=phi (agM (l:=k.brk.places.filter λx=>decide (0<=x)) (by omega));rw[hS] at hs160;generalize hfe:(k.brk.places.filter λx=>decide (0<=x))=fl at hsl hsame hs160 hfl hS;have ho:=h2.1.2.1;have hmm:k.brk.wins.length=k.brk.places.length-1:=by have:=h2.1.1.2.2;omega
 have hwl:=gU (won:=wonI k.clock.now k.clock.pts) (places:=k.brk.places) (m:=k.brk.places.length-1) (k.brk.places.length-1);have hfine:=D4 (won:=wonI k.clock.now k.clock.pts) (places:=k.brk.places) (v:=k.brk.wins) hmm;obtain⟨w,hw⟩:∃w,w=playD (wonI k.clock.now k.clock.pts) k.brk.places (k.brk.places.length-1) (k.brk.places.length-1):=⟨_,rfl⟩;have t123:(∀x∈k.brk.places,dR k.clock.pts x)->aY D 123 [F k.clock.pts,R k.clock.now,sl I1 k.brk.places]=some [BR ⟨k.brk.places,w⟩,sl bT (edsB w k.brk.places w.length)]/\ True:=λhv=>⟨phi (agI hF h64.1 h1.1 hpl.1 hpl.2.1 hv ho hw),trivial⟩;rw[<-hw] at hwl hfine;have cB1:RF.ev (.cell 1) [BR ⟨k.brk.places,w⟩]=some (sl I1 w):=rfl;have tOk:(∀x∈k.brk.places,dR k.clock.pts x)->fl.length=k.clock.pts.length->w=k.brk.wins->decide (eH k)=decide (JustP k.clock (edsB w k.brk.places w.length)):=λhv hlen5 h6=>by
  have h6':=hfine.1 h6;have hJ:=xq (c:=k.clock) h1.2.2.1 (vE (b:=k.brk) hF h2 hv h6' _ (aC _)) (λe he=>(qM (b:=k.brk) hF h2 hv h6' he).2.2);rw[h6,d4,aa,aa];exact⟨λh=>hJ.2 h.2.2.2.2.2.2,λh=>⟨h1,h2,h3,hv,by rw[hfe];exact hlen5,h6',hJ.1 h⟩⟩
 have cKT2':RF.ev (.cell 0) [F k.clock.pts]=some (sl row k.clock.pts):=rfl;simp only[ax,cKT11,phi (ml (l:=k.brk.places) (by omega)),EV,ai];refine(cw (m:=1001) (l:=k.brk.places) (p:=λx=>!decide (x<0)) (st:=λi=>[.i64 (i:Int)]) (r:=some [.i64 (okE (decide (eH k)))]) (fin:=some [.i64 (okE (decide (eH k)))]) (λi a self ha hp=>?_) (λhall self=>?_) (by omega)).trans ?_
 .have hi:=aN ha;unfold FI;simp only[EV,aa,bi hi,ixM hi,aJ ha,bZ,up1 (show i<1000000000 by omega)]
  by_cases c:a<0
  rotate_left
  .rw[ac c,ad (by simp;omega)]
  .rw[ad c,ac (show¬(i:Int)= -1 by omega),ac (by simp[c])]
   have hend:=xy ha c hp (k.brk.places.length-(i+1)) (by omega);refine(dP (m:=1001) (n:=k.brk.places.length-(i+1)) (st:=λt=>[sl I1 (cpt k.brk.places i t).1,.i64 ((cpt k.brk.places i t).2:Int),.i64 ((i+1+t:Nat):Int)]) (fin:=some [.i64 (okE (decide (eH k)))]) (λt self ht=>?_) (λself=>?_) (by omega))
   .obtain⟨q1,q2,_,q4⟩:=xy ha c hp t (by omega);have hx:=ew (l:=k.brk.places) (i:=i+1+t) (by omega);have hy:=q4 (i+1+t) (aC _);rw[hx] at hy;have hz:cpt k.brk.places i (t+1)=if 0<=nthI k.brk.places (i+1+t) then((cpt k.brk.places i t).1.set (cpt k.brk.places i t).2 (nthI k.brk.places (i+1+t)),(cpt k.brk.places i t).2+1) else cpt k.brk.places i t:=rfl
    rw[hz];generalize cpt k.brk.places i t=s at q1 q2 hy;generalize nthI k.brk.places (i+1+t)=x at hy;unfold FH;simp only[EV,aa,bi (show i+1+t<k.brk.places.length by omega),ixM (show i+1+t<k.brk.places.length by omega),aJ hy,bZ,ixM (show s.2<k.brk.places.length by omega),dQ (l:=s.1) (i:=s.2) (by omega),up1 (show s.2<1000000000 by omega),N2,up1 (show i+1+t<1000000000 by omega)]
    by_cases c0:x<0
    .rw[ac (by simp[c0]),ac (by omega)];rfl
    .rw[ad (by simp[c0]),ad (by omega)];rfl
   .rw[show i+1+(k.brk.places.length-(i+1))=k.brk.places.length by omega,cW,hfe] at hend
    rw[show i+1+(k.brk.places.length-(i+1))=k.brk.places.length by omega]
    generalize cpt k.brk.places i (k.brk.places.length-(i+1))=s at hend;obtain⟨L,n⟩:=s;obtain⟨q1,q2,q3,q4⟩:=hend;simp only at q1 q2 q3;have hn:n=fl.length:=by rw[<-q3,aK];omega
    subst hn;have cl:=XS (L:=L) (a:=fl.length) (n:=k.brk.places.length-fl.length) (by omega);rw[q3] at cl;have bn:RF.ev .bnd [.v (.int .i64 (fl.length:Int)),.v (.int .i64 (k.brk.places.length:Int))]=some (.i64 (fl.length:Int)):=by rw[jO,ad ⟨by omega,by omega⟩]
    have dd:(k.brk.places.length:Int)-(fl.length:Int)=((k.brk.places.length-fl.length:Nat):Int):=by omega
    have ap:=XR (L:=fl++List.replicate (k.brk.places.length-fl.length) 0) (S:=S) (by rw[aB];omega);unfold FH;simp only[EV,aa,ac (show¬((k.brk.places.length:Nat):Int)<((k.brk.places.length:Nat):Int) by omega),N1,bn,yK,dd,cl,agN,ax,hs160,ap,cKT2,ai,aF,ak,bI,aA]
    by_cases h5:fl.length=k.clock.pts.length
    rotate_left
    .rw[ad (by omega)];exact no (λh=>h5 (by have:=h.2.2.2.2.1;rw[hfe] at this;exact this))
    rw[ac (by omega)];have hzl:(S.zip k.clock.pts).length=fl.length:=by rw[o7];omega
    refine(cw (m:=1001) (l:=S.zip k.clock.pts) (p:=λx=>decide (x.1=x.2.id)) (st:=λi=>[.i64 (i:Int)]) (r:=some [.i64 8]) (fin:=some [.i64 (okE (decide (eH k)))]) (λi x self hx _=>?_) (λhall self=>?_) (by omega)).trans ?_
    .obtain⟨hp,hq⟩:=g9 hx;have hp':(S++(fl++List.replicate (k.brk.places.length-fl.length) 0).drop S.length)[i]?=some x.1:=by rw[aI (aN hp)];exact hp
     have hi:=aN hx;unfold FG;simp only[ax,cKT2,EV,ai,aa,bi (show i<fl.length by omega),ixM (show i<fl.length by omega),aJ hp',aS hq (bY _),aJ hq,bZ,gr,dl,up1 (show i<1000000000 by omega),aF,ak]
     by_cases e:x.1=x.2.id
     .rw[ac (by simp[e]),ad e]
     .rw[ad e,ac e];rfl
    .rw[hzl];have h4:S=k.clock.pts.map Pt.id:=Kr (by omega) hall;obtain⟨hv,hlen5⟩:=hsame.1 h4;obtain⟨e123,hmm⟩:=t123 hv;unfold FG;simp only[EV,aa,ai,ac (show¬((fl.length:Nat):Int)<((fl.length:Nat):Int) by omega),ac (show¬((fl.length:Nat):Int)<((fl.length:Nat):Int) by omega),N0,aE,aq,aw,ax,pKT2,pKT0,cKT11,cKT12,e123,kg,cB1,phi (RS (l:=w) (k:=k.brk.wins) (by omega)),aF,ak]
     by_cases h6:w=k.brk.wins
     rotate_left
     .rw[ad h6];exact no (λh=>h6 (hfine.2 h.2.2.2.2.2.1))
     rw[ac (by simp[h6])];have hd:=tOk hv hlen5 h6;rw[hd];have hEl:(edsB w k.brk.places w.length).length<=w.length:=lC ..;generalize edsB w k.brk.places w.length=E at hEl;have cc:=gQ g1;simp only[ax,pKT,fu,EV,ai];by_cases c1:E.length=k.clock.certs.list.length
     .rw[ad (au (by omega))];refine(cw (m:=1001) (l:=k.clock.certs.list) (p:=λh=>decide (h.cert∈E)) (st:=λi=>[.i64 (i:Int)]) (r:=some [.i64 8]) (fin:=some [.i64 0]) (λi a self ha _=>?_) (λ_ self=>?_) (by omega)).trans ?_
      .unfold FF;simp only[ax,fu,aS ha (fi _),aJ ha,iS,pHP,phi (zW (l:=E) a.cert (by omega)),EV,ai,aa,bi (aN ha),up1 (show i<1000000000 by have:=aN ha;omega),aF,ak]
       by_cases c2:a.cert∈E
       .rw[ac (by simp[c2]),ad c2]
       .rw[ad c2,ac c2];unfold A5;simp only[EV];rfl
      .unfold FF NZ A5;simp only[EV,aa,bK];rfl
      .have:(k.clock.certs.list.all λh=>decide (h.cert∈E))=decide (JustP k.clock E):=by
        rw[d4,aa];unfold JustP;simp[c1]
       rw[this];cases decide (JustP k.clock E)<;>rfl
     .rw[ac (by simp;omega),show decide (JustP k.clock E)=false from aj (λh=>c1 h.1)]
      unfold A5;simp only[EV];rfl
    .by_cases hT:eH k
     .rw[ad (Ft (hsame.2 ⟨hT.2.2.2.1,by have:=hT.2.2.2.2.1;rw[hfe] at this;exact this⟩))]
     .split
      .rfl
      .exact no hT
 .have hall':fl=k.brk.places:=by
   rw[<-hfe];exact ee.2 λx hx=>by
    have:=aV.1 hall x hx;simp at this|-;omega
  have ap:=XR (L:=k.brk.places) (S:=S) (by omega);have hsu:RF.ev .sub [sl I1 k.brk.places,.v (.int .i64 0),.v (.int .i64 (k.brk.places.length:Int))]=some (sl I1 fl):=by rw[hall'];exact bF
  unfold FI;simp only[EV,aa,bK,NY,cQ,aA,hsu,ax,hs160,ap,cKT2,ai,aF,ak,bI];have hpl':k.brk.places.length=fl.length:=by rw[hall']
  rw[hpl'];by_cases h5:fl.length=k.clock.pts.length
  rotate_left
  .rw[ad (by omega)];exact no (λh=>h5 (by have:=h.2.2.2.2.1;rw[hfe] at this;exact this))
  rw[ac (by omega)];have hzl:(S.zip k.clock.pts).length=fl.length:=by rw[o7];omega
  refine(cw (m:=1001) (l:=S.zip k.clock.pts) (p:=λx=>decide (x.1=x.2.id)) (st:=λi=>[.i64 (i:Int)]) (r:=some [.i64 8]) (fin:=some [.i64 (okE (decide (eH k)))]) (λi x self hx _=>?_) (λhall self=>?_) (by omega)).trans ?_
  .obtain⟨hp,hq⟩:=g9 hx;have hp':(S++k.brk.places.drop S.length)[i]?=some x.1:=by rw[aI (aN hp)];exact hp
   have hi:=aN hx;unfold FE;simp only[ax,cKT2,EV,ai,aa,bi (show i<fl.length by omega),ixM (show i<fl.length by omega),aJ hp',aS hq (bY _),aJ hq,bZ,gr,dl,up1 (show i<1000000000 by omega),aF,ak]
   by_cases e:x.1=x.2.id
   .rw[ac (by simp[e]),ad e]
   .rw[ad e,ac e];rfl
  .rw[hzl];have h4:S=k.clock.pts.map Pt.id:=Kr (by omega) hall;obtain⟨hv,hlen5⟩:=hsame.1 h4;obtain⟨e123,hmm⟩:=t123 hv;unfold FE;simp only[EV,aa,ai,ac (show¬((fl.length:Nat):Int)<((fl.length:Nat):Int) by omega),ac (show¬((fl.length:Nat):Int)<((fl.length:Nat):Int) by omega),U6,aE,aq,aw,ax,pKT2,pKT0,cKT11,cKT12,e123,kg,cB1,phi (RS (l:=w) (k:=k.brk.wins) (by omega)),aF,ak]
   by_cases h6:w=k.brk.wins
   rotate_left
   .rw[ad h6];exact no (λh=>h6 (hfine.2 h.2.2.2.2.2.1))
   rw[ac (by simp[h6])];have hd:=tOk hv hlen5 h6;rw[hd];have hEl:(edsB w k.brk.places w.length).length<=w.length:=lC ..;generalize edsB w k.brk.places w.length=E at hEl;have cc:=gQ g1;simp only[ax,pKT,fu,EV,ai];by_cases c1:E.length=k.clock.certs.list.length
   .rw[ad (au (by omega))];refine(cw (m:=1001) (l:=k.clock.certs.list) (p:=λh=>decide (h.cert∈E)) (st:=λi=>[.i64 (i:Int)]) (r:=some [.i64 8]) (fin:=some [.i64 0]) (λi a self ha _=>?_) (λ_ self=>?_) (by omega)).trans ?_
    .unfold Ma;simp only[ax,fu,aS ha (fi _),aJ ha,iS,pHP,phi (zW (l:=E) a.cert (by omega)),EV,ai,aa,bi (aN ha),up1 (show i<1000000000 by have:=aN ha;omega),aF,ak]
     by_cases c2:a.cert∈E
     .rw[ac (by simp[c2]),ad c2]
     .rw[ad c2,ac c2];unfold EC;simp only[EV];rfl
    .unfold Ma U5 EC;simp only[EV,aa,bK];rfl
    .have:(k.clock.certs.list.all λh=>decide (h.cert∈E))=decide (JustP k.clock E):=by
      rw[d4,aa];unfold JustP;simp[c1]
     rw[this];cases decide (JustP k.clock E)<;>rfl
   .rw[ac (by simp;omega),show decide (JustP k.clock E)=false from aj (λh=>c1 h.1)]
    unfold EC;simp only[EV];rfl
  .by_cases hT:eH k
   .rw[ad (Ft (hsame.2 ⟨hT.2.2.2.1,by have:=hT.2.2.2.2.1;rw[hfe] at this;exact this⟩))]
   .split
    .rfl
    .exact no hT
 .split<;>rfl
def zC:Clock:=⟨⟨0,0⟩,[],⟨0,[]⟩,⟨⟨[],[],[]⟩,[],[]⟩,[]⟩
def zKH:KHeap:=⟨zC,[]⟩
def zKT:KTourn:=⟨zC,⟨[],[]⟩⟩
def zHT:Heater:=⟨zC,⟨0,[]⟩⟩
def ad2 {l:List Pt}(h:gF l=false):l.length<=70:=by
 unfold gF at h
 grind
def c76 {c:Clock}(hg:gCl c=false):Ans D 76 [CL c] [.bool (decide (c=zC))]:=by
 unfold gCl gAg gSl at hg;simp only[eN,ak] at hg;obtain⟨⟨⟨g1,g2⟩,g3⟩,⟨⟨⟨g4,g5⟩,g6⟩,g7⟩,g8⟩:=hg;have g3:=ad2 g3;have pS:RF.ev (.part 5 3) [CL c]=some (SL c.agenda.slots):=rfl;have c3:RF.ev (.cell 3) [CL c]=some (.i64 c.certs.next):=rfl;have sAG:RF.ev (.shape 5) [AG c.agenda]=some (AG c.agenda):=rfl;have sSL:RF.ev (.shape 3) [SL c.agenda.slots]=some (SL c.agenda.slots):=rfl;have a2:RF.ev .agg [.v (.int .i64 0),.v (.int .i64 0)]=some (R ⟨0,0⟩):=rfl;refine am ?_;unfold k76;have w:∀a b:Nat,a<=10000->b<=10000->IntKind.i64.wrap ((a:Int)+(b:Int))=((a+b:Nat):Int):=λa b ha hb=>by rw[bV (by omega) (by omega)];omega
 simp only[ax,db,mi,pS,sAG,sSL,fq,c3,m8,fu,cU,d7,gt,iX,kf,iY,a2,RI,EV,ai,U2,aa];rw[w _ _ (by omega) (by omega),w _ _ (by omega) (by omega),w _ _ (by omega) (by omega),w _ _ (by omega) (by omega),w _ _ (by omega) (by omega),w _ _ (by omega) (by omega),w _ _ (by omega) (by omega)];obtain⟨n,p,⟨nx,cl⟩,⟨⟨u,ud,f⟩,hp,wh⟩,d⟩:=c;simp only at*;by_cases e1:n=⟨0,0⟩
 .by_cases e2:nx=0
  .rw[ad e1,ad e2]
   congr 4
   refine cv.2 ?_;subst e1;subst e2;unfold zC;simp only[Clock.mk.injEq,Certs.mk.injEq,Agenda.mk.injEq,Slots.mk.injEq,fS,<-c9];omega
  .rw[ad e1,ac e2,aj (λh=>e2 (by cases h;rfl))]
 .rw[ac e1,aj (λh=>e1 (by cases h;rfl))]
def oa (c:Choice):Clock:=if c.tag=1 then c.heap.clock else if c.tag=2 then c.tourn.clock else if c.tag=3 then c.heater.clock else c.hanger.clock
section
variable (c:Choice)
def pK1:RF.ev (.part 1 11) [CHO c]=some (CL c.heap.clock):=rfl
def pK2:RF.ev (.part 13 11) [CHO c]=some (CL c.tourn.clock):=rfl
def pK3:RF.ev (.part 26 11) [CHO c]=some (CL c.heater.clock):=rfl
def pK4:RF.ev (.part 39 11) [CHO c]=some (CL c.hanger.clock):=rfl
def agO:RF.ev (.cell 12) [CHO c]=some (sl I1 c.heap.heap):=rfl
def agP:RF.ev (.cell 24) [CHO c]=some (sl I1 c.tourn.brk.places):=rfl
def agQ:RF.ev (.cell 25) [CHO c]=some (sl I1 c.tourn.brk.wins):=rfl
def agR:RF.ev (.cell 37) [CHO c]=some (.i64 c.heater.tree.root):=rfl
def agS:RF.ev (.cell 38) [CHO c]=some (sl dG c.heater.tree.nodes):=rfl
def agT:RF.ev (.cell 50) [CHO c]=some (sl I1 c.hanger.heap):=rfl
end
def u8E (a b:Int):RF.ev (.bin .eql) [.v (.int .u8 a),.v (.int .u8 b)]=some (.v (.bool (decide (a=b)))):=rfl
def d66 (c:Choice):∃N,den (aY D) N k66 [] [CHO c]=some [CL (oa c)]:=by
 refine⟨1,?_⟩;unfold k66 oa;simp[er,cCH,pK1,pK2,pK3,pK4,EV]
 grind
def c66 (c:Choice):Ans D 66 [CHO c] [CL (oa c)]:=an (d66 c)
def c13 (c:Choice):Ans D 13 [CHO c] [CL (oa c)]:=an (d66 c)
def sP (c:Choice):Prop:=(c.tag≠1->c.heap=zKH)/\(c.tag≠2->c.tourn=zKT)/\(c.tag≠3->c.heater=zHT)/\(c.tag≠4->c.hanger=zKH)
def fv (c:Choice):Prop:=if c.tag=1 then gP c.heap else if c.tag=2 then eH c.tourn else if c.tag=3 then mJ c.heater else if c.tag=4 then mI c.hanger else False
def ob (c:Choice):Prop:=sP c/\ fv c/\ mP (oa c).now=0
structure Cho64 (c:Choice):Prop where
 tag:0<=c.tag/\ c.tag<=255
 h1:ij c.heap.clock
 h2:ij c.tourn.clock
 h3:ij c.heater.clock
 h4:ij c.hanger.clock
def XT {c:Choice}(h:Cho64 c):ij (oa c):=by
 unfold oa;split
 .exact h.h1
 split
 .exact h.h2
 split
 .exact h.h3
 .exact h.h4
def sQ {c:Choice}(h:gCh c=false):gKh c.heap=false/\ gKt c.tourn=false/\ gHt c.heater=false/\ gKh c.hanger=false:=by
 unfold gCh at h
 grind
def sR (b:Bool)(e:Int):Int:=if b=false then 8 else if e≠0 then 8 else 0
open Classical in
def Fu {c:Choice}(ha:sP c):sR (decide (fv c)) (mP (oa c).now)=okE (decide (ob c)):=by
 unfold sR;by_cases h1:fv c
 .rw[au h1,ac (by simp)];by_cases h2:mP (oa c).now=0
  .rw[ac (λg=>g h2),au (show ob c from⟨ha,h1,h2⟩)];rfl
  .rw[ad h2,aj (λh=>h2 h.2.2)];rfl
 .rw[aj h1,ad rfl,aj (λh=>h1 h.2.1)];rfl
def usedB (c:Choice):Nat->Bool
 |0=>!decide (c.heap=zKH)
 |1=>!decide (c.tourn=zKT)
 |2=>!decide (c.heater=zHT)
 |_=>!decide (c.hanger=zKH)
def DD {c:Choice}(ht:0<=c.tag/\ c.tag<=255):(∀i:Nat,i<4->¬(usedB c i=true/\((i+1:Nat):Int)≠c.tag))↔sP c:=by
 unfold sP;constructor
 .intro h;have h0:=h 0 (by omega);have h1:=h 1 (by omega);have h2:=h 2 (by omega);have h3:=h 3 (by omega);simp[usedB] at h0 h1 h2 h3
  grind
 .rintro⟨h0,h1,h2,h3⟩ i hi ⟨hu,hne⟩
  match i,hi with
  |0,_=>simp[usedB] at hu;exact hu (h0 (λe=>hne (by omega)))
  |1,_=>simp[usedB] at hu;exact hu (h1 (λe=>hne (by omega)))
  |2,_=>simp[usedB] at hu;exact hu (h2 (λe=>hne (by omega)))
  |3,_=>simp[usedB] at hu;exact hu (h3 (λe=>hne (by omega)))
open Classical in
def e26 {c:Choice}(h64:Cho64 c)(hg:gCh c=false){e2 e3 e4 e5:PV}:den (aY D) 1001 LV [] [CHO c,CHO c,e2,e3,e4,e5]=some [.i64 (sR (decide (fv c)) (mP (oa c).now))]:=by
 obtain⟨g1,g2,g3,g4⟩:=sQ hg;have fin:∀(x:Int) (p:Prop),x=okE (decide p)->(fv c↔p)->den (aY D) 1001 LU [] [CHO c,CHO c,e2,e3,e4,e5,.v (.int .u8 c.tag),.v (.bool (decide (c.tag=1))),.i64 x]=some [.i64 (sR (decide (fv c)) (mP (oa c).now))]:=λx p hx hp=>by
  subst hx;unfold LU sR;simp only[ax,EV,jb,aF,ak,phi (c66 c),fq,phi (c44 (XT h64).1)]
  grind
 unfold LV;simp only[ax,cCH,u8E,qy,qz,qA,qB,EV,aa,phi (c77 h64.h1 g1),phi (c78 h64.h2 g2),phi (c79 h64.h3 g3),phi (c80 h64.h4 g4),UK,UL,UM];by_cases t1:c.tag=1
 .rw[ad t1];exact fin _ _ rfl (by unfold fv;rw[ad t1])
 rw[ac t1];by_cases t2:c.tag=2
 .rw[ad t2];exact fin _ _ rfl (by unfold fv;rw[ac t1,ad t2])
 rw[ac t2];by_cases t3:c.tag=3
 .rw[ad t3];exact fin _ _ rfl (by unfold fv;rw[ac t1,ac t2,ad t3])
 rw[ac t3];by_cases t4:c.tag=4
 .rw[ad t4];exact fin _ _ rfl (by unfold fv;rw[ac t1,ac t2,ac t3,ad t4])
 rw[ac t4];exact fin 8 False (by simp;rfl) (by unfold fv;rw[ac t1,ac t2,ac t3,ac t4])
def agU (a b c d:Bool):RF.ev .agg [.v (.bool a),.v (.bool b),.v (.bool c),.v (.bool d)]=some (.agg [.v (.bool a),.v (.bool b),.v (.bool c),.v (.bool d)]):=rfl
open Classical in
def f26 {c:Choice}(h64:Cho64 c)(hg:gCh c=false){b1 b2 b3 b4:Bool}(h1:b1=usedB c 0)(h2:b2=usedB c 1)(h3:b3=usedB c 2)(h4:b4=usedB c 3):den (aY D) 1001 LX [] [CHO c,CHO c,.v (.bool b1),.v (.bool b2),.v (.bool b3),.v (.bool b4)]=some [.i64 (okE (decide (ob c)))]:=by
 obtain⟨t1,t2⟩:=h64.tag;have wt:IntKind.i64.wrap c.tag=c.tag:=bV (by omega) (by omega);unfold LX;simp only[EV];refine(fD (m:=1001) (n:=4) (P:=λi=>¬(usedB c i=true/\((i+1:Nat):Int)≠c.tag)) (st:=λi=>[.i64 (i:Int)]) (r:=some [.i64 8]) (fin:=some [.i64 (sR (decide (fv c)) (mP (oa c).now))]) (λi self hi _=>?_) (λ_ self=>?_) (by omega)).trans ?_
 .have hu:RF.ev (.aix 1 4 0) [.agg [.v (.bool b1),.v (.bool b2),.v (.bool b3),.v (.bool b4)],.v (.int .i64 (i:Int))]=some (.v (.bool (usedB c i))):=by
   match i,hi with
   |0,_=>rw[h1];rfl
   |1,_=>rw[h2];rfl
   |2,_=>rw[h3];rfl
   |3,_=>rw[h4];rfl
  have l4:decide ((i:Int)<4)=true:=au (by omega);unfold LW;simp only[ax,cCH,agU,hu,EV,l4,cQ,aA,wt,UN,up1 (show i<1000000000 by omega)]
  cases usedB c i with
  |false=>simp
  |true=>
   by_cases e:((i+1:Nat):Int)=c.tag
   .simp[e]
   .simp[e]
 .unfold LW;simp only[EV,show decide (((4:Nat):Int)<4)=false from rfl,aq,aw]
  exact e26 h64 hg
 .by_cases ha:sP c
  .rw[ad ((DD ⟨t1,t2⟩).2 ha),Fu ha]
  .rw[ac (λh=>ha ((DD ⟨t1,t2⟩).1 h)),aj (λh:ob c=>ha h.1)];rfl
set_option maxHeartbeats 4000000 in
open Classical in
def c26 {c:Choice}(h64:Cho64 c)(hg:gCh c=false):Ans D 26 [CHO c] [.i64 (okE (decide (ob c)))]:=by
 obtain⟨g1,g2,g3,g4⟩:=sQ hg;have z1:=phi (c76 (tU g1).1);have z2:=phi (c76 (tV g2).1);have z3:=phi (c76 (AM g3).1);have z4:=phi (c76 (tU g4).1);have w:∀a b:Nat,a<=10000->b<=10000->IntKind.i64.wrap ((a:Int)+(b:Int))=((a+b:Nat):Int):=λa b ha hb=>by rw[bV (by omega) (by omega)];omega
 have w1:=w c.tourn.brk.places.length c.tourn.brk.wins.length (by have:=tV g2;omega) (by have:=tV g2;omega);have p0:∀n:Nat,decide ((0:Int)<(n:Int))=decide (0<n):=λn=>cv.2 (by omega);have u1:(c.heap.clock=zC->decide (0<c.heap.heap.length)=usedB c 0)/\(¬c.heap.clock=zC->true=usedB c 0):=by
  unfold usedB zKH;obtain⟨t,⟨k,l⟩,b,d,e⟩:=c;simp only[KHeap.mk.injEq];refine⟨λh=>?_,λh=>by simp[h]⟩;cases l<;>simp[h]
 have u2:(c.tourn.clock=zC->decide (0<c.tourn.brk.places.length+c.tourn.brk.wins.length)=usedB c 1)/\(¬c.tourn.clock=zC->true=usedB c 1):=by
  unfold usedB zKT;obtain⟨t,b,⟨k,⟨p,l⟩⟩,d,e⟩:=c;simp only[KTourn.mk.injEq,Brk.mk.injEq];refine⟨λh=>?_,λh=>by simp[h]⟩;cases p<;>cases l<;>simp[h]<;>omega
 have u3:(c.heater.clock=zC->c.heater.tree.root=0->decide (0<c.heater.tree.nodes.length)=usedB c 2)/\(¬c.heater.clock=zC->true=usedB c 2)/\(¬c.heater.tree.root=0->true=usedB c 2):=by
  unfold usedB zHT;obtain⟨t,b,d,⟨k,⟨p,l⟩⟩,e⟩:=c;simp only[Heater.mk.injEq,Tree.mk.injEq];refine⟨λh h'=>?_,λh=>by simp[h],λh=>by simp[h]⟩;cases l<;>simp[h,h']
 have u4:(c.hanger.clock=zC->decide (0<c.hanger.heap.length)=usedB c 3)/\(¬c.hanger.clock=zC->true=usedB c 3):=by
  unfold usedB zKH;obtain⟨t,b,d,e,⟨k,l⟩⟩:=c;simp only[KHeap.mk.injEq];refine⟨λh=>?_,λh=>by simp[h]⟩;cases l<;>simp[h]
 refine an ⟨1001,?_⟩;unfold k26;by_cases y1:c.heap.clock=zC<;>by_cases y2:c.tourn.clock=zC<;>by_cases y3:c.heater.clock=zC<;>by_cases y4:c.hanger.clock=zC<;>by_cases y5:c.heater.tree.root=0
 all_goals
  first|rw[au y1] at z1|rw[aj y1] at z1
  first|rw[au y2] at z2|rw[aj y2] at z2
  first|rw[au y3] at z3|rw[aj y3] at z3
  first|rw[au y4] at z4|rw[aj y4] at z4
  simp only[ax,er,pK1,pK2,pK3,pK4,agO,agP,agQ,agR,agS,agT,z1,z2,z3,z4,EV,ai,w1,p0,y5,az,bw,aE,bI,aq,aA,aw,cJ];refine f26 h64 hg ?_ ?_ ?_ ?_
 all_goals first
  |exact u1.1 y1
  |exact u1.2 y1
  |exact u2.1 y2
  |exact u2.2 y2
  |exact u3.1 y3 y5
  |exact u3.2.1 y3
  |exact u3.2.2 y5
  |exact u4.1 y4
  |exact u4.2 y4
open Classical in
def e27 {c:Choice}(h64:Cho64 c)(hg:gCh c=false){b:Bool}(hb:b=decide (¬sP c)):den (aY D) 1001 LZ [] [CHO c,CHO c,.v (.bool b)]=some [.i64 (okE (decide (ob c)))]:=by
 obtain⟨g1,g2,g3,g4⟩:=sQ hg;unfold LZ;by_cases ha:sP c
 rotate_left
 .rw[hb,au ha,aj (λh:ob c=>ha h.1)];simp only[EV,aA];rfl
 rw[hb,aj (λh=>h ha),<-Fu ha];have fin:∀(x:Int) (p:Prop),x=okE (decide p)->(fv c↔p)->den (aY D) 1001 LY [] [CHO c,CHO c,.v (.bool false),.v (.int .u8 c.tag),.v (.bool (decide (c.tag=1))),.i64 x]=some [.i64 (sR (decide (fv c)) (mP (oa c).now))]:=λx p hx hp=>by
  subst hx;unfold LY sR;simp only[ax,EV,jb,aF,ak,phi (c13 c),fq,phi (c64 (XT h64).1)];by_cases hp':p
  .rw[au hp',ad rfl,ac (show¬¬fv c fromλg=>g (hp.2 hp'))]
   by_cases e:mP (oa c).now=0<;>simp[e]
  .rw[aj hp',ac (by simp),ad (λh=>hp' (hp.1 h))]
 simp only[ax,cCH,u8E,qy,qz,qA,qB,EV,aq,aw,aa,phi (c81 h64.h1 g1),phi (c82 h64.h2 g2),phi (c83 h64.h3 g3),phi (c84 h64.h4 g4),UO,UP,UQ];by_cases t1:c.tag=1
 .rw[ad t1];exact fin _ _ rfl (by unfold fv;rw[ad t1])
 rw[ac t1];by_cases t2:c.tag=2
 .rw[ad t2];exact fin _ _ rfl (by unfold fv;rw[ac t1,ad t2])
 rw[ac t2];by_cases t3:c.tag=3
 .rw[ad t3];exact fin _ _ rfl (by unfold fv;rw[ac t1,ac t2,ad t3])
 rw[ac t3];by_cases t4:c.tag=4
 .rw[ad t4];exact fin _ _ rfl (by unfold fv;rw[ac t1,ac t2,ac t3,ad t4])
 rw[ac t4];exact fin 8 False (by simp;rfl) (by unfold fv;rw[ac t1,ac t2,ac t3,ac t4])
def u8N (a b:Int):RF.ev (.bin .neq) [.v (.int .u8 a),.v (.int .u8 b)]=some (.v (.bool (!decide (a=b)))):=rfl
set_option maxHeartbeats 4000000 in
open Classical in
def c27 {c:Choice}(h64:Cho64 c)(hg:gCh c=false):Ans D 27 [CHO c] [.i64 (okE (decide (ob c)))]:=by
 obtain⟨g1,g2,g3,g4⟩:=sQ hg;have z1:=phi (c51 (t:=zKH) g1);have z2:=phi (c52 (t:=zKT) g2);have z3:=phi (c53 (t:=zHT) g3);have z4:=phi (c54 (t:=zKH) g4);have a12:RF.ev .agg [.v (.int .i64 0),.v (.int .i64 0),.sl [],.v (.int .i64 0),.sl [],.sl [],.sl [],.sl [],.sl [],.sl [],.sl [],.sl []]=some (KH zKH):=rfl;have a13:RF.ev .agg [.v (.int .i64 0),.v (.int .i64 0),.sl [],.v (.int .i64 0),.sl [],.sl [],.sl [],.sl [],.sl [],.sl [],.sl [],.sl [],.sl []]=some (KT zKT):=rfl;have a14:RF.ev .agg [.v (.int .i64 0),.v (.int .i64 0),.sl [],.v (.int .i64 0),.sl [],.sl [],.sl [],.sl [],.sl [],.sl [],.sl [],.v (.int .i64 0),.sl []]=some (HT zHT):=rfl;refine an ⟨1001,?_⟩;have e:=λb=>e27 h64 hg (b:=b);unfold k27;unfold sP at e;have y0:((c.tag=1/\¬c.tag=2/\¬c.tag=3/\¬c.tag=4)\/(¬c.tag=1/\ c.tag=2/\¬c.tag=3/\¬c.tag=4))\/((¬c.tag=1/\¬c.tag=2/\ c.tag=3/\¬c.tag=4)\/(¬c.tag=1/\¬c.tag=2/\¬c.tag=3/\ c.tag=4))\/(¬c.tag=1/\¬c.tag=2/\¬c.tag=3/\¬c.tag=4):=by omega
 by_cases y1:c.heap=zKH<;>by_cases y2:c.tourn=zKT<;>by_cases y3:c.heater=zHT<;>by_cases y4:c.hanger=zKH<;>rcases y0 with(⟨t1,t2,t3,t4⟩|⟨t1,t2,t3,t4⟩)|(⟨t1,t2,t3,t4⟩|⟨t1,t2,t3,t4⟩)|⟨t1,t2,t3,t4⟩
 all_goals
  first|rw[au y1] at z1|rw[aj y1] at z1
  first|rw[au y2] at z2|rw[aj y2] at z2
  first|rw[au y3] at z3|rw[aj y3] at z3
  first|rw[au y4] at z4|rw[aj y4] at z4
  simp only[ax,er,cCH,u8N,qy,qz,qA,qB,a12,a13,a14,z1,z2,z3,z4,EV,t1,t2,t3,t4,Int.reduceEq,az,bw,aE,bI,aq,aA,aw];refine e _ ?_;simp only[y1,y2,y3,y4,t1,t2,t3,t4,Int.reduceEq,ne_eq,cX,fI,false_implies,true_implies,fx,nD,fS,eF,gZ,az,bw]
end Go.Proofs.YtfghdmmapmdcgaaGreat
