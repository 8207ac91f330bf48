import Derived.Test.YtndgdhbpojakpaaGreatC2
import Derived.Test.YtndgdhbpojakpaaGreatP1
set_option linter.unusedVariables false
set_option linter.unusedSimpArgs false
set_option linter.defProp false
noncomputable section
namespace Go.Proofs.YtndgdhbpojakpaaGreat
open Go.Sym Bnd
set_option maxRecDepth 100000
def nodC (i:Nat)(n:Nod):Bool:=decide (n.left=(i:Int))||decide (n.right=(i:Int))
def tq (l:List Nod)(i:Nat):Int:=((l[i]?).map Nod.id).getD 0
def oX {l:List Nod}{i:Nat}{n:Nod}(h:l[i]?=some n):tq l i=n.id:=by unfold tq;rw[h];rfl
def rH (l:List Nod)(i:Nat):List Crt:=match l.findIdx? (nodC i) with|some k=>[⟨tq l i,tq l k⟩]|none=>[]
def edgsT (l:List Nod)(n:Nat):List Crt:=(List.range n).flatMap (rH l)
def ob (l:List Nod)(n:Nat):edgsT l (n+1)=edgsT l n++rH l n:=by
 unfold edgsT;rw[lZ,sW];simp
def kS (l:List Nod):∀n,(edgsT l n).length<=n
 |0=>by simp[edgsT]
 |n+1=>by
  have:=kS l n;rw[ob,aE];unfold rH;split<;>simp<;>omega
def An (l:List Nod):Prop:=∀(i k k':Nat) (x x':Nod),l[k]?=some x->nodC i x=true->l[k']?=some x'->nodC i x'=true->k=k'
def ZJ (n:Nod):ct 1 0 (cL n)=some (.i64 n.left):=rfl
def ZK (n:Nod):ct 2 0 (cL n)=some (.i64 n.right):=rfl
def O1 (n:Nod):ct 0 0 (cL n)=some (.i64 n.id):=rfl
def M1 {l:List Nod}(h:An l)(i:Nat):(l.filter (nodC i)).map (λn=>(⟨tq l i,n.id⟩:Crt))=rH l i:=by
 rw[vO (λk k' x x' h1 h2 h3 h4=>h i k k' x x' h1 h2 h3 h4)];unfold rH;cases e:l.findIdx? (nodC i) with
 |none=>rfl
 |some k=>
  obtain⟨hk,_,_⟩:=b8.1 e;have:=ak hk;simp only;rw[this,oX this];rfl
def Sv {x:Tree}(h:An x.nodes)(hl:x.nodes.length<=1000):Ans D 161 [TR x] [sl cv (edgsT x.nodes x.nodes.length)]:=by
 refine an ⟨1001,?_⟩;unfold Vm;simp only[au,oU,EV];have e0:([PV.sl [],.v (.int .i64 0),.v (.int .i64 0)]:List PV)=[sl cv (edgsT x.nodes 0),.i64 ((edgsT x.nodes 0).length:Int),.i64 ((0:Nat):Int)]:=rfl;rw[e0];refine(dG (m:=1001) (n:=x.nodes.length) (st:=λi=>[sl cv (edgsT x.nodes i),.i64 ((edgsT x.nodes i).length:Int),.i64 (i:Int)]) (fin:=some [sl cv (edgsT x.nodes x.nodes.length)]) (λi self hi=>?_) (λself=>?_) (by omega))
 .obtain⟨n,hn⟩:∃n,x.nodes[i]?=some n:=⟨x.nodes[i],ak _⟩;have hel:=kS x.nodes i;unfold CO;simp only[au,js,EV,aj,aa,bc hi];have e1:([sl cv (edgsT x.nodes i),PV.i64 ((edgsT x.nodes i).length:Int),.v (.int .i64 0)]:List PV)=[sl cv (edgsT x.nodes i++[]),.i64 ((edgsT x.nodes i++[]).length:Int),.i64 ((0:Nat):Int)]:=by rw[aP];rfl
  rw[e1];refine(hY (m:=1001) (l:=x.nodes) (g:=λacc m=>if nodC i m=true then acc++[⟨n.id,m.id⟩] else acc) (I:=λk acc=>acc.length<=k) (S:=λacc k=>[sl cv (edgsT x.nodes i++acc),.i64 ((edgsT x.nodes i++acc).length:Int),.i64 (k:Int)]) (fin:=λacc=>self [sl cv (edgsT x.nodes i++acc),.i64 ((edgsT x.nodes i++acc).length:Int),.i64 ((i+1:Nat):Int)]) (x:=[]) (by simp) (λk a acc _ h=>by
   split
   .rw[aE,aS];omega
   .omega) (λk m acc self' hm hI=>?_) (λacc self' hI=>?_) (by omega)).1.trans ?_
  .have hk:=aK hm;have fin:∀(e14 e15 e16 e17:PV) (b:Bool),b=nodC i m->den (PhiS D) 1001 CM
     [mD (PhiS D) 1001 xn [] [TR x,TR x],self,mD (PhiS D) 1001 CJ [mD (PhiS D) 1001 xn [] [TR x,TR x],self] [TR x,TR x,sl cv (edgsT x.nodes i),.i64 ((edgsT x.nodes i).length:Int),.i64 (i:Int),sl cL x.nodes,.v (.int .i64 (x.nodes.length:Int)),.v (.bool (decide ((i:Int)<(x.nodes.length:Int))))],self']
     [TR x,TR x,sl cv (edgsT x.nodes i),.i64 ((edgsT x.nodes i).length:Int),.i64 (i:Int),sl cL x.nodes,.v (.int .i64 (x.nodes.length:Int)),.v (.bool (decide ((i:Int)<(x.nodes.length:Int)))),sl cv (edgsT x.nodes i++acc),.i64 ((edgsT x.nodes i++acc).length:Int),.i64 (k:Int),sl cL x.nodes,.v (.int .i64 (x.nodes.length:Int)),.v (.bool (decide ((k:Int)<(x.nodes.length:Int)))),e14,e15,e16,e17,.v (.bool b)]=
     self' [sl cv (edgsT x.nodes i++if nodC i m=true then acc++[⟨n.id,m.id⟩] else acc),.i64 ((edgsT x.nodes i++if nodC i m=true then acc++[⟨n.id,m.id⟩] else acc).length:Int),.i64 ((k+1:Nat):Int)]:=λe14 e15 e16 e17 b hb=>by
    subst hb;unfold CM;simp only[EV];cases nodC i m with
    |true=>
     have ap:=fJ (f:=cv) (l:=edgsT x.nodes i++acc) (k:=[⟨n.id,m.id⟩]) (bytes:=16) (z:=2) (by rw[aE];simp;omega) kw;rw[aX] at ap;simp only[ay,au,js,aO hn (jU _),aL hn,aO hm (jU _),aL hm,O1,rG,bsC,n9,ap,EV,aj,CK,up1 (show k<1000000000 by omega)]
    |false=>
     simp only[aw,ax,EV,CK,up1 (show k<1000000000 by omega)]
   unfold CN;simp only[au,js,aO hm (jU _),aL hm,ZJ,ZK,EV,aj,aa,bc hk];by_cases c1:m.left=(i:Int)
   .rw[ad c1];exact fin _ _ _ _ true (by unfold nodC;rw[aq c1];rfl)
   .rw[ac c1];exact fin _ _ _ _ _ (by unfold nodC;rw[ai c1,Bool.false_or])
  .unfold CN;simp only[au,js,EV,aj,aa,bw,CJ,up1 (show i<1000000000 by omega)]
  .rw[ob];have:x.nodes.foldl (λacc m=>if nodC i m=true then acc++[(⟨n.id,m.id⟩:Crt)] else acc) []=rH x.nodes i:=by
    rw[<-M1 h i,oX hn];have:∀(l:List Nod) (acc:List Crt),l.foldl (λacc m=>if nodC i m=true then acc++[(⟨n.id,m.id⟩:Crt)] else acc) acc=acc++(l.filter (nodC i)).map (λm=>⟨n.id,m.id⟩):=by
     intro l;induction l with
     |nil=>simp
     |cons a l ih=>
      intro acc;rw[cH,ih,cS];cases nodC i a<;>simp
    rw[this,bV]
   rw[this]
 .unfold CO;simp only[au,js,EV,aj,aa,bw,xn,bm]
def zA (x:Int×Int):∀(l:List (Int×Int)) (j:Nat) (u:List Int),upArr (l++[x]) j u=upArr [x] (j+l.length) (upArr l j u)
 |[],j,u=>rfl
 |y::l,j,u=>by
  show upArr (l++[x]) (j+1) _=_
  rw[zA x l];show _=upArr [x] (j+(l.length+1)) (upArr l (j+1) _)
  rw[show j+1+l.length=j+(l.length+1) by omega]
def M2 (i n:Nat)(h:i<n):(List.replicate i (-1:Int)++List.replicate (n-i) 0).set i (-1)=List.replicate (i+1) (-1)++List.replicate (n-(i+1)) 0:=by
 refine cB λk=>?_
 grind
def jt {l:List Pt}{t:Rt}(h:okF l){k:Nat}{x:Int×Int}(hx:(cmake (ldF t l) l.length).2.2[k]?=some x):∃n,(cart t l).nodes[k]?=some n/\ n.left=x.1/\ n.right=x.2/\∃p,l[k]?=some p/\ n.id=p.id:=by
 have hlen:=(gq (fx (t:=t) h.2.2) l.length (by omega)).len;obtain⟨p,hp⟩:∃p,l[k]?=some p:=⟨l[k]'(by have:=aK hx;omega),ak _⟩;exact⟨_,iS hp hx,rfl,rfl,p,hp,rfl⟩
def nc {n:Nod}{x:Int×Int}(h1:n.left=x.1)(h2:n.right=x.2)(i:Nat):nodC i n=decide (kH x i):=by
 unfold nodC;rw[h1,h2,dE];simp;exact Iff.rfl
def IG {l:List Pt}{t:Rt}(h:okF l)(i:Nat):(cmake (ldF t l) l.length).2.2.findIdx? (λx=>decide (kH x i))=(cart t l).nodes.findIdx? (nodC i):=by
 have hlen:(cmake (ldF t l) l.length).2.2.length=l.length:=(gq (fx (t:=t) h.2.2) l.length (by omega)).len;have hnl:(cart t l).nodes.length=l.length:=by unfold cart;rw[fy _ _ (by omega)];exact hlen
 cases e:(cart t l).nodes.findIdx? (nodC i) with
 |none=>
  rw[gm] at e|-;intro x hx;obtain⟨k,hk⟩:=aN.1 hx;obtain⟨n,a1,a2,a3,_⟩:=jt h hk;rw[<-nc a2 a3]
  grind
 |some k=>
  rw[b8] at e|-;obtain⟨e1,e2,e3⟩:=e;have hk:=ak (show k<(cmake (ldF t l) l.length).2.2.length by omega)
  refine⟨by omega,?_,λj hj=>?_⟩
  .obtain⟨n,a1,a2,a3,_⟩:=jt h hk;rw[<-nc a2 a3]
   grind
  .have hj':=ak (show j<(cmake (ldF t l) l.length).2.2.length by omega)
   obtain⟨n,a1,a2,a3,_⟩:=jt h hj';rw[<-nc a2 a3];rw[ak (by omega)] at a1;have a1:=jg a1;rw[<-a1];exact e3 j hj
def Sw {l:List Pt}{t:Rt}(h:okF l)(ht:bi t)(hr:rok t=true)(hone:An (cart t l).nodes)(hlk:∀x∈(cmake (ldF t l) l.length).2.2,x.1<l.length/\ x.2<l.length):Ans D 185 [F l,R t] [TR (cart t l),sl cv (edgsT (cart t l).nodes l.length)]:=by
 have hl:=h.1;have hlen:(cmake (ldF t l) l.length).2.2.length=l.length:=(gq (fx (t:=t) h.2.2) l.length (by omega)).len;have hnl:(cart t l).nodes.length=l.length:=by unfold cart;rw[fy _ _ (by omega)];exact hlen
 refine an ⟨1001,?_⟩;unfold VQ;have rp:=oV (n:=(cart t l).nodes.length) (by omega);simp only[au,aW,aY,phi (abW h ht hr),oU,js,EV,aj,rp,aI];have e0:([sl I1 (List.replicate (cart t l).nodes.length 0),.v (.int .i64 0)]:List PV)=[sl I1 (List.replicate 0 (-1)++List.replicate ((cart t l).nodes.length-0) 0),.i64 ((0:Nat):Int)]:=rfl;rw[e0];refine dG (m:=1001) (n:=(cart t l).nodes.length) (st:=λi=>[sl I1 (List.replicate i (-1)++List.replicate ((cart t l).nodes.length-i) 0),.i64 (i:Int)]) (λi self hi=>?_) (λself=>?_) (by omega)
 .unfold yP;simp only[EV,aa,bc hi,ixM hi,gt (l:=List.replicate i (-1)++List.replicate ((cart t l).nodes.length-i) 0) (i:=i) (by simp;omega),M2 i _ hi,up1 (show i<1000000000 by omega)]
 unfold yP;simp only[EV,aa,bw,KA,au,js,aj,fe,sY,aP];generalize hLK:(cmake (ldF t l) l.length).2.2=lk at*;have e1:([sl I1 (List.replicate (cart t l).nodes.length (-1)),.v (.int .i64 0)]:List PV)=[sl I1 (upArr (lk.take 0) 0 (List.replicate (cart t l).nodes.length (-1))),.i64 ((0:Nat):Int)]:=rfl;rw[e1];refine dG (m:=1001) (n:=(cart t l).nodes.length) (st:=λi=>[sl I1 (upArr (lk.take i) 0 (List.replicate (cart t l).nodes.length (-1))),.i64 (i:Int)]) (λi self hi=>?_) (λself=>?_) (by omega)
 .obtain⟨x,hx⟩:∃x,lk[i]?=some x:=⟨lk[i]'(by omega),ak _⟩;obtain⟨nd,a1,a2,a3,_⟩:=jt (t:=t) h (by rw[hLK];exact hx);obtain⟨b1,b2⟩:=hlk x (aB hx);have hnext:upArr (lk.take (i+1)) 0 (List.replicate (cart t l).nodes.length (-1))=upArr [x] i (upArr (lk.take i) 0 (List.replicate (cart t l).nodes.length (-1))):=by
   rw[cd,hx];show upArr (lk.take i++[x]) 0 _=_
   rw[zA,aM,b7,bv (by omega)]
  have hul:(upArr (lk.take i) 0 (List.replicate (cart t l).nodes.length (-1))).length=(cart t l).nodes.length:=by rw[Ac];simp
  rw[hnext];generalize upArr (lk.take i) 0 (List.replicate (cart t l).nodes.length (-1))=u at hul;have pN:RF.ev (.part 1 2) [NP nd]=some (.agg [.i64 x.1,.i64 x.2]):=by rw[<-a2,<-a3];rfl
  unfold C8;simp only[EV,aa,bc hi,au,js,aO a1 (jU _),aL a1,AX,pN]
  let us:Nat->List Int:=λj=>match j with|0=>u|1=>(if 0<=x.1 then u.set x.1.toNat i else u)|_=>(if 0<=x.2 then(if 0<=x.1 then u.set x.1.toNat i else u).set x.2.toNat i else(if 0<=x.1 then u.set x.1.toNat i else u))
  have hus:∀j,(us j).length=(cart t l).nodes.length:=λj=>by
   match j with
   |0=>exact hul
   |1=>simp only[us];split<;>simp[hul]
   |j+2=>simp only[us];repeat' split
         all_goals simp[hul]
  refine(dG (m:=1001) (n:=2) (st:=λj=>[sl I1 (us j),.i64 (j:Int)]) (fin:=self [sl I1 (us 2),.i64 ((i+1:Nat):Int)]) (λj self' hj=>?_) (λself'=>?_) (by omega)).trans rfl
  .obtain⟨c,hc,haix,hu⟩:∃c:Int,c<l.length/\ RF.ev (.aix 1 2 0) [.agg [.i64 x.1,.i64 x.2],.i64 (j:Int)]=some (.i64 c)/\ us (j+1)=(if 0<=c then(us j).set c.toNat i else us j):=by
    match j,hj with
    |0,_=>exact⟨x.1,b1,rfl,rfl⟩
    |1,_=>exact⟨x.2,b2,rfl,rfl⟩
   unfold C7;have l2:decide ((j:Int)<2)=true:=aq (by omega);simp only[EV,l2,cI,ay,haix,aa,be];rw[hu];by_cases c0:0<=c
   .obtain⟨m,rfl⟩:=qq c0;rw[ad c0,ad c0,aG];simp only[EV,ixM (show m<(cart t l).nodes.length by omega),gt (l:=us j) (i:=m) (by rw[hus];omega),C6,up1 (show j<1000000000 by omega)]
   .rw[ac c0,ac c0];simp only[EV,C6,up1 (show j<1000000000 by omega)]
  .unfold C7;simp only[EV,show decide (((2:Nat):Int)<2)=false from rfl,aw,ax,Kz,up1 (show i<1000000000 by omega)]
 unfold C8;simp only[EV,aa,bw,Ky,au,js,aj];rw[aZ (by omega)];have hU:∀i,i<(cart t l).nodes.length->(upArr lk 0 (List.replicate (cart t l).nodes.length (-1)))[i]?=match(cart t l).nodes.findIdx? (nodC i) with|some k=>some ((k:Nat):Int)|none=>some (-1):=λi hi=>by
  rw[Ad lk 0 _ i (by simpa using hi) ?_,<-hLK,IG h i]
  .cases(cart t l).nodes.findIdx? (nodC i) with
   |none=>simp only;rw[dO,ad hi]
   |some k=>simp only[b7]
  .intro k x hk hc k' x' hk' hc';rw[<-hLK] at hk hk';obtain⟨n,a1,a2,a3,_⟩:=jt h hk;obtain⟨n',b1,b2,b3,_⟩:=jt h hk';exact hone i k k' n n' a1 (by rw[nc a2 a3];exact aq hc) b1 (by rw[nc b2 b3];exact aq hc')
 generalize upArr lk 0 (List.replicate (cart t l).nodes.length (-1))=U at hU;have e2:([PV.sl [],.v (.int .i64 0),.v (.int .i64 0)]:List PV)=[sl cv (edgsT (cart t l).nodes 0),.i64 ((edgsT (cart t l).nodes 0).length:Int),.i64 ((0:Nat):Int)]:=rfl;rw[e2];refine dG (m:=1001) (n:=(cart t l).nodes.length) (st:=λi=>[sl cv (edgsT (cart t l).nodes i),.i64 ((edgsT (cart t l).nodes i).length:Int),.i64 (i:Int)]) (λi self hi=>?_) (λself=>?_) (by omega)
 .obtain⟨n,hn⟩:∃n,(cart t l).nodes[i]?=some n:=⟨(cart t l).nodes[i],ak _⟩;have hel:=kS (cart t l).nodes i;have hu:=hU i hi;rw[ob];unfold rH;unfold C5;cases e:(cart t l).nodes.findIdx? (nodC i) with
  |none=>
   rw[e] at hu;simp only[aP];simp only[EV,aa,bc hi,au,js,aO hn (jU _),aL hn,AX,ixM hi,aL hu,cj,be,Int.reduceNeg,Int.reduceLE,ax,C4,up1 (show i<1000000000 by omega)]
  |some k=>
   rw[e] at hu;obtain⟨hk,_,_⟩:=b8.1 e;have hm:=ak hk;have c0:((0:Int)<=(k:Nat)):=by omega
   have cN:RF.ev (.cell 0) [NP n]=some (.i64 n.id):=rfl;have ap:=fJ (f:=cv) (l:=edgsT (cart t l).nodes i) (k:=[⟨n.id,(cart t l).nodes[k].id⟩]) (bytes:=16) (z:=2) (by simp;omega) kw;simp only[EV,aa,bc hi,au,js,aO hn (jU _),aL hn,AX,ixM hi,aL hu,cj,be,ad c0,aO hm (jU _),aL hm,O1,cN,rG,bsC,n9,ap,aj,C4,up1 (show i<1000000000 by omega),oX hn,oX hm]
 .unfold C5;simp only[EV,aa,bw,Kx,au,bm,hnl]
def Ba {l:List Pt}{t:Rt}(h:okF l)(ht:bi t){N:Nat}{f0:JT}{e0 e1 e2:PV}{b:Nat}(hb:b<=l.length):∀(m i:Nat) (best:Option Nat) (n:Nat),i+m=b->m<n->(∀k,best=some k->k<i)->
  denW (PhiS D) (N+1) tL [f0] [e0,e1,e2,.i64 (b:Int),F l,R t] n [.i64 (lk best),.i64 (i:Int)]=f0 [.i64 (lk (mG (ldF t l) m i best))]
 |0,i,best,n,hi,hn,_=>by
  obtain⟨n,rfl⟩:∃n',n=n'+1:=⟨n-1,by omega⟩;rw[bG];unfold tL mG;simp only[EV,aa];rw[ac (by omega)]
 |m+1,i,best,n,hi,hn,hbest=>by
  obtain⟨n,rfl⟩:∃n',n=n'+1:=⟨n-1,by omega⟩;have hl:=h.1;obtain⟨p,hp⟩:∃p,l[i]?=some p:=⟨l[i]'(by omega),ak _⟩;have ih:=λbest' hb'=>Ba h ht (N:=N) (f0:=f0) (e0:=e0) (e1:=e1) (e2:=e2) hb m (i+1) best' n (by omega) (by omega) hb';rw[bG];generalize hkk:tL=kk at ih;subst hkk;unfold tL mG;have u1:=up1 (show i<1000000000 by omega)
  simp[EV];rw[ad (by omega)];cases best with
  |none=>
   have ih:=ih (some i) (λk hk=>by simp at hk;omega);simp only[lk] at ih;simp[EV,DY,xy,u1];exact ih
  |some q=>
   have hq:q<i:=hbest q rfl;obtain⟨r,hr⟩:∃r,l[q]?=some r:=⟨l[q]'(by omega),ak _⟩;have g0:decide ((q:Int)<0)=false:=ai (by omega);simp[lk,EV,bQ,aO hp (bL _),aL hp,aO hr (bL _),aL hr,eU,phi (yp (ea h hp) (ea h hr) ht),<-yE hp hr,DY];cases hL:ldF t l i q with
   |true=>
    have ih:=ih (some i) (λk hk=>by simp only[bS] at hk;omega);simp only[lk] at ih;simp only[ay,EV,xy,u1];exact ih
   |false=>
    have ih:=ih (some q) (λk hk=>by simp only[bS] at hk;omega);simp only[lk] at ih;simp only[aw,ax,EV,xy,u1];exact ih
def abX {l:List Pt}{t:Rt}(h:okF l)(ht:bi t){a b:Nat}(hab:a<=b)(hb:b<=l.length):Ans D 341 [F l,R t,.i64 (a:Int),.i64 (b:Int)] [.i64 (lk (sF (ldF t l) a b))]:=by
 have hl:=h.1;refine an ⟨1001,?_⟩;unfold Yl;simp[aW,aY,EV];refine(Ba h ht (N:=1000) hb (b-a) a none 1001 (by omega) (by omega) (by simp)).trans ?_;rfl
def ZL {l:List Nod}{i:Nat}{n:Nod}(h:l[i]?=some n)(r:Int):RF.ev (.set 1) [sl cL l,.v (.int .i64 (i:Int)),.v (.int .i64 r)]=some (sl cL (l.set i ⟨n.id,r,n.right⟩)):=by
 rw[yd,ad (by omega),aG,aT,h];exact aR (λx=>some (PV.sl x)) (pG (f:=cL) (l:=l) (i:=i) (a:=⟨n.id,r,n.right⟩)).symm
def M3 {l:List Pt}{lk:List (Int×Int)}{e:Nat}{p:Pt}{x:Int×Int}{r:Int}(hp:l[e]?=some p)(hx:lk[e]?=some x):(mkN l lk).set e ⟨p.id,r,x.2⟩=mkN l (lk.modify e λx=>(r,x.2)):=by
 refine cB λk=>?_;by_cases hk:k<l.length/\ k<lk.length
 .have h1:=ak hk.1;have h2:=ak hk.2;by_cases e':k=e
  .subst e';rw[bk (by simp[mkN];omega)];rw[iS hp (x:=(r,x.2)) (by rw[fj,hx];rfl)]
  .rw[bA (by omega),iS h1 h2,iS h1 (x:=lk[k]) (by rw[dN _ _ (by omega)];exact h2)]
 .rw[bI (by simp[mkN];omega),bI (by simp[mkN];omega)]
def rI {ld:Nat->Nat->Bool}:∀(f a b:Nat) (l:List (Int×Int)),(grow ld f a b l).1.length=l.length
 |0,_,_,_=>rfl
 |f+1,a,b,l=>by
  unfold grow;split
  .rfl
  .simp[rI f]
def IH {ld:Nat->Nat->Bool}{f a b:Nat}{l:List (Int×Int)}(e:sF ld a b=none):grow ld (f+1) a b l=(l,-1):=by
 rw[grow];simp[e]
def II {ld:Nat->Nat->Bool}{f a b i:Nat}{l rl s:List (Int×Int)}{rr sr:Int}(e:sF ld a b=some i)(h1:grow ld f a i l=(rl,rr))(h2:grow ld f (i+1) b (rl.modify i λx=>(rr,x.2))=(s,sr)):grow ld (f+1) a b l=(s.modify i λx=>(x.1,sr),(i:Int)):=by
 rw[grow];simp[e,h1,h2]
def abY (l:List Nod):RF.ev .len [sl cL l]=some (.i64 (l.length:Int)):=by
 rw[P5,aj]
def T0:PV:=TR ⟨0,[]⟩
def cT0:RF.ev (.cell 0) [T0]=some (.i64 0):=rfl
def abZ:RF.ev (.shape 2) [T0]=some T0:=rfl
def Sy:RF.ev .agg [.v (.int .i64 0),.sl []]=some T0:=rfl
def M4 {l:List Pt}{t:Rt}(h:okF l)(ht:bi t):∀(f a b:Nat) (ks:List (Int×Int)),b-a<f->a<=b->b<=l.length->ks.length=l.length->
  Ans D 285 [F l,R t,T0,.i64 (a:Int),.i64 (b:Int),sl cL (mkN l ks)] [.i64 (grow (ldF t l) f a b ks).2,sl cL (mkN l (grow (ldF t l) f a b ks).1)]
 |0,a,b,ks,hf,_,_,_=>by omega
 |f+1,a,b,ks,hf,hab,hb,hk=>by
  have hl:=h.1;have ht1:=Ff (fx (t:=t) h.2.2) hb hab;refine am ?_;unfold Xt;simp only[abZ,aW,aY,EV,aj,phi (abX h ht hab hb),fy l ks (by omega),hk];cases e:sF (ldF t l) a b with
  |none=>
   rw[IH e];simp only[lk,EV,DO];rw[ac (by decide)]
  |some i=>
   rw[e] at ht1;rcases ht1 with⟨_,t1⟩|⟨k,t1,t2⟩
   .simp[lk] at t1
   have hik:i=k:=by simp[lk] at t1;omega
   subst hik;obtain⟨t3,t4,_⟩:=t2;have u1:=up1 (show i<1000000000 by omega)
   have hgl:=rI (ld:=ldF t l) f a i ks;have p1:=phi (M4 h ht f a i ks (by omega) t3 (by omega) hk);generalize hg1:grow (ldF t l) f a i ks=r at hgl p1;obtain⟨rl,rr⟩:=r;simp only at hgl p1;obtain⟨p,hp⟩:∃p,l[i]?=some p:=⟨l[i]'(by omega),ak _⟩;obtain⟨x,hx⟩:∃x,rl[i]?=some x:=⟨rl[i]'(by omega),ak _⟩;have s1:=ZL (iS hp hx) rr;simp only at s1;rw[M3 hp hx] at s1;have hgl1:(rl.modify i λx=>(rr,x.2)).length=l.length:=by rw[dc];omega
   have p2:=phi (M4 h ht f (i+1) b _ (by omega) (by omega) hb hgl1);have hgl2:=rI (ld:=ldF t l) f (i+1) b (rl.modify i λx=>(rr,x.2));simp only[lk,EV,cT0,Sy,p1,ixM (show i<l.length by omega),s1,u1,p2]
   generalize hg2:grow (ldF t l) f (i+1) b (rl.modify i λx=>(rr,x.2))=s at hgl2 p2;obtain⟨sl',sr⟩:=s;simp only at hgl2;obtain⟨y,hy⟩:∃y,sl'[i]?=some y:=⟨sl'[i]'(by omega),ak _⟩;have s2:=OZ (iS hp hy) sr;simp only at s2;rw[FO hp hy] at s2;rw[II e hg1 hg2];simp only[s2,DO,EV];exact ad (aq (by omega))
def IJ {l:List Pt}{i:Nat}{p:Pt}(hp:l[i]?=some p):mkN l (List.replicate i (0,0))++[⟨p.id,0,0⟩]=mkN l (List.replicate (i+1) (0,0)):=by
 rw[sO];exact yF (x:=(0,0)) (by rw[aI];exact hp)
def ab0 {l:List Pt}{t:Rt}(h:okF l)(ht:bi t):Ans D 226 [F l,R t] [TR (cart t l)]:=by
 have hl:=h.1;refine an ⟨1001,?_⟩;unfold Wz;simp only[au,aW,aY,EV];have e0:([PV.sl [],.v (.int .i64 0),.v (.int .i64 0)]:List PV)=[sl cL (mkN l (List.replicate 0 (0,0))),.i64 ((0:Nat):Int),.i64 ((0:Nat):Int)]:=by simp[mkN]
 rw[e0];refine(dG (m:=1001) (n:=l.length) (st:=λi=>[sl cL (mkN l (List.replicate i (0,0))),.i64 (i:Int),.i64 (i:Int)]) (fin:=some [TR (cart t l)]) (λi self hi=>?_) (λself=>?_) (by omega))
 .obtain⟨p,hp⟩:∃p,l[i]?=some p:=⟨l[i],ak _⟩;have ap:RF.ev (.app 24 3) [sl cL (mkN l (List.replicate i (0,0))),.v (.int .i64 (i:Int)),sl cL [⟨p.id,0,0⟩]]=some (sl cL (mkN l (List.replicate (i+1) (0,0)))):=by
   have:=fJ (f:=cL) (l:=mkN l (List.replicate i (0,0))) (k:=[⟨p.id,0,0⟩]) (bytes:=24) (z:=3) (by rw[fy _ _ (by rw[aI];omega),aI];simp;omega) jU;rw[fy _ _ (by rw[aI];omega),aI] at this;rw[this,IJ hp]
  unfold Dq;simp only[au,bQ,EV,aj,aa,bc hi,aO hp (bL _),aL hp,mN,M0,bsN,GM,ap,abY,fy l (List.replicate (i+1) ((0:Int),(0:Int))) (by rw[aI];omega),aI,up1 (show i<1000000000 by omega)]
 .have p1:=phi (M4 h ht (l.length+1) 0 l.length (List.replicate l.length (0,0)) (by omega) (by omega) (aD _) (by rw[aI]));have hgl:=rI (ld:=ldF t l) (l.length+1) 0 l.length (List.replicate l.length (0,0));rw[aI] at hgl;have L:=fx (t:=t) h.2.2;obtain⟨g1,g2,_,g4⟩:=kX L (l.length+1) 0 l.length (List.replicate l.length (0,0)) (by omega) (by rw[aI]) ⟨by omega,aD _,.inl rfl,.inl rfl⟩;have hu:=Mr L (oo L) ⟨g1,g2,λk x hx=>g4 k x (by omega) (by have:=aK hx;omega) hx⟩;have hs:=bm (f:=cL) (l:=mkN l (grow (ldF t l) (l.length+1) 0 l.length (List.replicate l.length (0,0))).1);rw[fy _ _ (by omega),hgl] at hs;unfold Dq;have ag:RF.ev .agg [.i64 (grow (ldF t l) (l.length+1) 0 l.length (List.replicate l.length (0,0))).2,sl cL (mkN l (grow (ldF t l) (l.length+1) 0 l.length (List.replicate l.length (0,0))).1)]=some (TR (cart t l)):=by
   rw[<-hu.1,<-hu.2];rfl
  simp only[eH] at p1;simp only[au,bQ,EV,aj,aa,bw,K7,Sy,p1,hs,ag]
def FQ {l:List Pt}{t:Rt}(h:okF l):∀x∈(cmake (ldF t l) l.length).2.2,x.1<l.length/\ x.2<l.length:=λx hx=>by
 obtain⟨k,hk⟩:=aN.1 hx;have C:=oo (fx (t:=t) h.2.2);obtain⟨a,b,⟨a1,_⟩,⟨b1,b2,_⟩,l1,l2⟩:=C.2.2 k x hk;constructor
 .rcases l1 with⟨_,l1⟩|⟨i,l1,t1,t2,_⟩
  .omega
  .have:=aK hk;have:=C.2.1;omega
 .rcases l2 with⟨_,l2⟩|⟨i,l2,t1,t2,_⟩<;>omega
def kA {l:List Pt}{t:Rt}(h:okF l):(cart t l).nodes.length=l.length:=by
 unfold cart;have hlen:=(gq (fx (t:=t) h.2.2) l.length (by omega)).len;rw[fy _ _ (by omega)];exact hlen
def rJ {l:List Pt}{t:Rt}(h:okF l){i k:Nat}{x:Nod}(hx:(cart t l).nodes[k]?=some x)(hc:nodC i x=true):Below (cmake (ldF t l) l.length).2.2 i k:=by
 have hk:=aK hx;rw[kA h] at hk;have hlen:=(gq (fx (t:=t) h.2.2) l.length (by omega)).len;obtain⟨y,hy⟩:∃y,(cmake (ldF t l) l.length).2.2[k]?=some y:=⟨_,ak (by omega)⟩;obtain⟨n,a1,a2,a3,_⟩:=jt h hy;refine⟨y,hy,?_⟩;unfold nodC at hc
 grind
def rK {l:List Pt}{t:Rt}(h:okF l):An (cart t l).nodes:=λi k k' x x' h1 h2 h3 h4=>
 Ik (fx (t:=t) h.2.2) (oo (fx (t:=t) h.2.2)) (rJ h h1 h2) (rJ h h3 h4)
def uM {l:List Pt}{t:Rt}(h:okF l){i:Nat}{p:Pt}(hp:l[i]?=some p):tq (cart t l).nodes i=p.id:=by
 have hlen:=(gq (fx (t:=t) h.2.2) l.length (by omega)).len;have:=aK hp;obtain⟨y,hy⟩:∃y,(cmake (ldF t l) l.length).2.2[i]?=some y:=⟨_,ak (by omega)⟩;obtain⟨n,a1,a2,a3,q,hq,e⟩:=jt h hy;rw[oX a1,e,hp.symm.trans hq|>jg]
def zB {l:List Nod}{n:Nat}{e:Crt}(h:e∈edgsT l n):∃i k,i<n/\ l.findIdx? (nodC i)=some k/\ e=⟨tq l i,tq l k⟩:=by
 obtain⟨i,hi,he⟩:=List.mem_flatMap.1 h;unfold rH at he
 grind
def jL {l:List Pt}{t:Rt}(h:okF l){e:Crt}(he:e∈edgsT (cart t l).nodes l.length):inF l e.low=true/\ inF l e.high=true/\ leads t (bo l e.high) (bo l e.low)=true:=by
 obtain⟨i,k,hi,hf,rfl⟩:=zB he;obtain⟨hk,hc,_⟩:=b8.1 hf;have hb:=rJ h (ak hk) hc;rw[kA h] at hk;have hp:=ak hi;have hq:=ak hk;obtain⟨hl,_⟩:=qB (fx (t:=t) h.2.2) (oo (fx (t:=t) h.2.2)) hb;rw[yE hq hp] at hl;rw[uM h hp,uM h hq,kQ h hp,kQ h hq];exact⟨fk.2 (bg.2 ⟨_,aB hp,rfl⟩),fk.2 (bg.2 ⟨_,aB hq,rfl⟩),hl⟩
def rL {l:List Pt}{t:Rt}(h:okF l):∀n,n<=l.length->(edgsT (cart t l).nodes n).Nodup
 |0,_=>by simp[edgsT]
 |n+1,hn=>by
  rw[ob];have ih:=rL (t:=t) h n (by omega);unfold rH;split
  .rw[ew];refine⟨ih,by simp,λa ha b hb e=>?_⟩;subst e;obtain⟨i,k,hi,hf,e⟩:=zB ha;rw[cC] at hb;rw[e] at hb;simp at hb;have hp:=ak (show i<l.length by omega)
   have hq:=ak (show n<l.length by omega)
   rw[uM h hp,uM h hq] at hb;have:=gQ h.2.2 hi hp hq;omega
  .rw[aP];exact ih
def Sz {l:List Pt}{t:Rt}(h:okF l)(ht:bi t):Ans D 160 [F l,R t] [TR (cart t l)]:=by
 refine am ?_;unfold Vl;simp[aW,aY,phi (ab0 h ht),oU,EV]
def ke (k:Heater):Prop:=dp k.clock/\ cart k.clock.now k.clock.pts=k.tree/\ JustR k.clock (edgsT (cart k.clock.now k.clock.pts).nodes k.clock.pts.length)
def tr {k:Heater}(h:gHt k=false):gCl k.clock=false/\ k.tree.nodes.length<=70:=by
 unfold gHt at h
 grind
open Classical in
def c83 {k:Heater}(h64:fw k.clock)(hg:gHt k=false):Ans D 99 [HT k] [.i64 (okE (decide (ke k)))]:=by
 obtain⟨g1,g2⟩:=tr hg;have no:∀h:¬ke k,(some [PV.v (.int .i64 8)]:Option (List PV))=some [.i64 (okE (decide (ke k)))]:=λh=>by rw[ai h];rfl
 have pHT2:RF.ev (.part 2 1) [HT k]=some (F k.clock.pts):=rfl;have pHT0:RF.ev (.part 0 2) [HT k]=some (R k.clock.now):=rfl;refine an ⟨1001,?_⟩;unfold k83;simp only[au,qp,pHT,EV,phi (A0 h64 g1),gN,aA,ah];by_cases h1:dp k.clock
 .have hF:=h1.2.1;have hl:=hF.1;have hnl:=kA (t:=k.clock.now) hF;rw[aq h1,ad rfl];simp only[au,pHT,pHT2,pHT0,GB,oU,phi (Sz hF h64.1),phi (R3 (s:=cart k.clock.now k.clock.pts) (t:=k.tree) (by omega)),EV,aA,ah];by_cases h2:cart k.clock.now k.clock.pts=k.tree
  .rw[ac (by simp[h2])];have hel:=kS (cart k.clock.now k.clock.pts).nodes k.clock.pts.length;have e178:=phi (Sv (x:=cart k.clock.now k.clock.pts) (rK hF) (by omega));rw[hnl] at e178;simp only[au,EV,e178,phi (GK (c:=k.clock) (edges:=edgsT (cart k.clock.now k.clock.pts).nodes k.clock.pts.length) hF h64.1 (by omega) (by have:=fN g1;omega) (λe he=>⟨(jL hF he).1,(jL hF he).2.1⟩)),aA,ah];by_cases h3:JustR k.clock (edgsT (cart k.clock.now k.clock.pts).nodes k.clock.pts.length)
   .rw[ac (by simp[h3]),aq (show ke k from⟨h1,h2,h3⟩)];rfl
   .rw[ad h3];exact no (λh=>h3 h.2.2)
  .rw[ad h2];exact no (λh=>h2 h.2.1)
 .rw[ai h1,ac (by simp)];exact no (λh=>h1 h.1)
open Classical in
def c79 {k:Heater}(h64:fw k.clock)(hg:gHt k=false):Ans D 140 [HT k] [.i64 (okE (decide (ke k)))]:=by
 obtain⟨g1,g2⟩:=tr hg;have no:∀h:¬ke k,(some [PV.v (.int .i64 8)]:Option (List PV))=some [.i64 (okE (decide (ke k)))]:=λh=>by rw[ai h];rfl
 have pHT2:RF.ev (.part 2 1) [HT k]=some (F k.clock.pts):=rfl;have pHT0:RF.ev (.part 0 2) [HT k]=some (R k.clock.now):=rfl;have cHT11:RF.ev (.cell 11) [HT k]=some (.i64 k.tree.root):=rfl;have cHT12:RF.ev (.cell 12) [HT k]=some (sl cL k.tree.nodes):=rfl;have cc:=fN g1;refine an ⟨1001,?_⟩;unfold k79;simp only[au,qp,pHT,EV,phi (A3 h64 g1),gN,aA,ah];by_cases h1:dp k.clock
 .have hF:=h1.2.1;have hl:=hF.1;have hnl:=kA (t:=k.clock.now) hF;have hel:=kS (cart k.clock.now k.clock.pts).nodes k.clock.pts.length;rw[aq h1,ad rfl];simp only[au,pHT,pHT2,pHT0,cHT11,cHT12,MQ,js,oU,phi (Sw hF h64.1 h1.1 (rK hF) (FQ hF)),phi (abL (l:=(cart k.clock.now k.clock.pts).nodes) (k:=k.tree.nodes) (by omega)),EV,aA,ah];have hJ:=ti (c:=k.clock) h1.2.2.1 (rL (t:=k.clock.now) hF k.clock.pts.length (by omega)) (λe he=>(jL hF he).2.2);by_cases h2:(cart k.clock.now k.clock.pts).root=k.tree.root
  .rw[ac (by simp[h2])];by_cases h3:(cart k.clock.now k.clock.pts).nodes=k.tree.nodes
   .rw[ac (by simp[h3])];have h4:cart k.clock.now k.clock.pts=k.tree:=by
     generalize cart k.clock.now k.clock.pts=a at h2 h3;obtain⟨a,b⟩:=a;simp_all
    have hJ':ke k↔JustP k.clock (edgsT (cart k.clock.now k.clock.pts).nodes k.clock.pts.length):=⟨λh=>hJ.2 h.2.2,λh=>⟨h1,h4,hJ.1 h⟩⟩;have hd:decide (ke k)=decide (JustP k.clock (edgsT (cart k.clock.now k.clock.pts).nodes k.clock.pts.length)):=by
     rw[dE,aa,aa];exact hJ'
    rw[hd];clear hd hJ' hJ;generalize edgsT (cart k.clock.now k.clock.pts).nodes k.clock.pts.length=E at hel;simp only[au,eS,EV,aj];by_cases c1:E.length=k.clock.certs.list.length
    .rw[ad (aq (by omega))];refine(b9 (m:=1001) (l:=k.clock.certs.list) (p:=λh=>decide (h.cert∈E)) (st:=λi=>[.i64 (i:Int)]) (r:=some [.i64 8]) (fin:=some [.i64 0]) (λi a self ha _=>?_) (λ_ self=>?_) (by omega)).trans ?_
     .unfold Hp;simp only[au,eS,aO ha (eV _),aL ha,jn,pHP,phi (yD (l:=E) a.cert (by omega)),EV,aj,aa,bc (aK ha),up1 (show i<1000000000 by have:=aK ha;omega),aA,ah]
      by_cases c2:a.cert∈E
      .rw[ac (by simp[c2]),ad c2]
      .rw[ad c2,ac c2];unfold Ax;simp only[EV];rfl
     .unfold Hp PI Ax;simp only[EV,aa,bw];rfl
     .have:(k.clock.certs.list.all λh=>decide (h.cert∈E))=decide (JustP k.clock E):=by
       rw[dE,aa];unfold JustP;simp[c1]
      rw[this];cases decide (JustP k.clock E)<;>rfl
    .rw[ac (by simp;omega),show decide (JustP k.clock E)=false from ai (λh=>c1 h.1)]
     unfold Ax;simp only[EV];rfl
   .rw[ad h3];exact no (λh=>h3 (by rw[h.2.1]))
  .rw[ad h2];exact no (λh=>h2 (by rw[h.2.1]))
 .rw[ai h1,ac (by simp)];exact no (λh=>h1 h.1)
def mmX (a b:Int):RF.ev (.mm true) [.v (.int .i64 a),.v (.int .i64 b)]=some (.v (.int .i64 (max a b))):=rfl
def mmN (a b:Int):RF.ev (.mm false) [.v (.int .i64 a),.v (.int .i64 b)]=some (.v (.int .i64 (min a b))):=rfl
def dbl {i:Nat}(h:i<100000000):IntKind.i64.wrap (2*(i:Int))=((2*i:Nat):Int):=by rw[cz (by omega) (by omega)];omega
def up2 {i:Nat}(h:i<1000000000):IntKind.i64.wrap ((i:Int)+2)=((i+2:Nat):Int):=by rw[cz (by omega) (by omega)];rfl
def Bb {i j:Nat}(h:j<=i)(k:i<1000000000):IntKind.i64.wrap ((i:Int)-(j:Int))=((i-j:Nat):Int):=by rw[cz (by omega) (by omega)];omega
def GO {b:Brk}{i:Nat}(hi:i<b.wins.length+b.places.length)(hb:b.wins.length+b.places.length<=1000):Ans D 273 [BR b,.i64 (i:Int)] [.i64 (nodeV b.wins b.places i)]:=by
 refine am ?_;unfold Xn;by_cases h:i<b.wins.length
 .obtain⟨x,hx⟩:∃x,b.wins[i]?=some x:=⟨_,ak h⟩;have w:IntKind.i64.wrap ((i:Int)-(b.wins.length:Int))=(i:Int)-(b.wins.length:Int):=cz (by omega) (by omega);simp only[iY,gH,EV,aj,w,aa,ac (show¬(0:Int)<=(i:Int)-(b.wins.length:Int) by omega),aO hx (bJ _),aL hx,cj,vz hx]
 .obtain⟨x,hx⟩:∃x,b.places[i-b.wins.length]?=some x:=⟨_,ak (by omega)⟩;simp[iY,gH,me,EV,Bb (show b.wins.length<=i by omega) (by omega),aO hx (bJ _),aL hx,cj,zt h hx]
def tu {b:Brk}{i:Nat}(hi:i<b.wins.length+b.places.length)(hb:b.wins.length+b.places.length<=1000):Ans D 224 [BR b,.i64 (i:Int)] [.i64 (nodeV b.wins b.places i)]:=by
 refine am ?_;unfold Wx;by_cases h:i<b.wins.length
 .obtain⟨x,hx⟩:∃x,b.wins[i]?=some x:=⟨_,ak h⟩;simp only[iY,gH,EV,aj,aa,bc h,aO hx (bJ _),aL hx,cj,vz hx]
 .obtain⟨x,hx⟩:∃x,b.places[i-b.wins.length]?=some x:=⟨_,ak (by omega)⟩;simp only[iY,gH,me,EV,aj,Bb (show b.wins.length<=i by omega) (by omega),aa,ac (show¬(i:Int)<(b.wins.length:Int) by omega),aO hx (bJ _),aL hx,cj,zt h hx]
open Classical in
def ab1 {l:List Int}(hl:l.length<=1000):Ans D 223 [sl I1 l] [.bool (decide (¬ja l))]:=by
 refine an ⟨1001,?_⟩;unfold Ww;simp only[EV];refine(ef (m:=1001) (n:=l.length) (P:=λi=>∀x,l[i]?=some x->0<=x->∀j,j<i->l[j]?≠some x) (st:=λi=>[.i64 (i:Int)]) (r:=some [.bool true]) (fin:=some [.bool false]) (λi self hi _=>?_) (λhall self=>?_) (by omega)).trans ?_
 .have hx:=eA hi;generalize nthI l i=x at hx;have hP:(∀x',l[i]?=some x'->0<=x'->∀j,j<i->l[j]?≠some x')↔(0<=x->∀j,j<i->l[j]?≠some x):=
   ⟨λh=>h x hx,λh x' e=>by rw[hx] at e;cases e;exact h⟩
  unfold Dp;simp only[hP,EV,aj,aa,bc hi];refine(ef (m:=1001) (n:=i) (P:=λj=>0<=x->l[j]?≠some x) (st:=λi=>[.i64 (i:Int)]) (r:=some [.bool true]) (fin:=self [.i64 ((i+1:Nat):Int)]) (λj self' hj _=>?_) (λ_ self'=>?_) (by omega)).trans ?_
  .have hy:=eA (l:=l) (i:=j) (by omega);generalize nthI l j=y at hy;unfold Do;simp only[aO hx (bJ _),aL hx,aO hy (bJ _),aL hy,cj,EV,aa,bc hj,be,K6,up1 (show j<1000000000 by omega),hy,ne_eq,bS]
   grind
  .unfold Do;simp only[EV,aa,bw,K5,up1 (show i<1000000000 by omega)]
  .by_cases hq:0<=x->∀j,j<i->l[j]?≠some x
   .rw[ad hq,ad (λj hj h0=>hq h0 j hj)]
   .rw[ac hq,ac (λh=>hq λh0 j hj=>h j hj h0)]
 .unfold Dp;simp only[EV,aj,aa,bw,K4]
 .by_cases h:ja l
  .rw[ad (show∀i,i<l.length->_ from h),ai (by simpa using h)]
  .rw[ac (show¬∀i,i<l.length->_ from h),aq h]
def Bm (m:List (Int×Bool)):PV:= .sl (m.map λp=>[.i64 p.1]++[.bool p.2])
def kB:List (Int×Bool)->Int->Bool
 |[],_=>false
 |p::m,k=>if p.1=k then p.2 else kB m k
def oY:List (Int×Bool)->Int->Bool->List (Int×Bool)
 |[],k,v=>[(k,v)]
 |p::m,k,v=>if p.1=k then(p.1,v)::m else p::oY m k v
def Bc (k j:Int)(v:Bool):∀m,kB (oY m k v) j=if j=k then v else kB m j
 |[]=>by simp[oY,kB];by_cases h:k=j<;>simp[eq_comm]
 |p::m=>by
  unfold oY;by_cases h:p.1=k
  .rw[ad h];unfold kB;by_cases h2:j=k
   .rw[ad h2,ad (by rw[h,h2])]
   .rw[ac h2,ac (by rw[h];exactλe=>h2 e.symm),ac (by rw[h];exactλe=>h2 e.symm)]
  .rw[ac h];unfold kB;rw[Bc k j v m];by_cases h2:p.1=j
   .rw[ad h2,ad h2,ac (by rw[<-h2];exact h)]
   .rw[ac h2,ac h2]
def Be (k:Int):∀m:List (Int×Bool),(di [.i] [.i64 k] (m.map λp=>[.i64 p.1]++[.bool p.2])).map (λo=>o.getD [.bool false])=some [.bool (kB m k)]
 |[]=>by simp[di,kB,eqN]
 |p::m=>by
  simp only[bO,di];rw[show List.take [Ck.i].length ([PV.i64 p.fst]++[PV.bool p.snd])=[PV.i64 p.fst] from rfl,show List.drop [Ck.i].length ([PV.i64 p.fst]++[PV.bool p.snd])=[PV.bool p.snd] from rfl,eqN]
  unfold kB;by_cases e:p.1=k
  .rw[aq e,ad e];rfl
  .rw[ai e,ac e];exact Be k m
def Bf (k:Int)(v:Bool):∀m:List (Int×Bool),gT [.i] [.i64 k] [.bool v] (m.map λp=>[.i64 p.1]++[.bool p.2])=some ((oY m k v).map λp=>[.i64 p.1]++[.bool p.2])
 |[]=>by simp[gT,oY,eqN]
 |p::m=>by
  simp only[bO,gT];rw[show List.take [Ck.i].length ([PV.i64 p.fst]++[PV.bool p.snd])=[PV.i64 p.fst] from rfl,eqN]
  unfold oY;by_cases e:p.1=k
  .rw[aq e,ad e];simp
  .rw[ai e,ac e];simp only;rw[Bf k v m];rfl
def ZM (m:List (Int×Bool))(k:Int):RF.ev (.mget [.i] [.v (.bool false)]) [Bm m,.v (.int .i64 k)]=some (.bool (kB m k)):=by
 have h:=Be k m;unfold Bm;simp only[RF.ev,show(PV.v (.int .i64 k)).cells=[.i64 k] from rfl]
 cases hg:di [.i] [.i64 k] (m.map λp=>[.i64 p.1]++[.bool p.2]) with
 |none=>rw[hg] at h;cases h
 |some o=>
  rw[hg] at h;simp at h;cases o with
  |none=>simp only[Option.getD_none] at h;simp[h];rfl
  |some r=>simp at h;subst h;rfl
def O2 (m:List (Int×Bool))(k:Int)(v:Bool):RF.ev (.mset [.i] 1) [Bm m,.v (.int .i64 k),.v (.bool v)]=some (Bm (oY m k v)):=by
 have h:=Bf k v m;unfold Bm;simp only[RF.ev,show(PV.v (.int .i64 k)).cells=[.i64 k] from rfl,show(PV.v (.bool v)).cells=[.bool v] from rfl,h]
 rfl
def mAt (l:List Int)(i:Nat):List (Int×Bool):=(l.take i).foldl (λm x=>oY m x (decide (0<=x))) [(-1,false)]
def zE:∀(l:List Int) (m:List (Int×Bool)) (k:Int),kB (l.foldl (λm x=>oY m x (decide (0<=x))) m) k=if k∈l then decide (0<=k) else kB m k
 |[],m,k=>by simp
 |x::l,m,k=>by
  rw[cH,zE l,Bc];by_cases h:k∈l
  .simp[h]
  .by_cases e:k=x
   .subst e;simp
   .simp[h,e]
def Qo {l:List Int}{i:Nat}{x:Int}(hx:l[i]?=some x):kB (mAt l i) x=decide (¬∀y,l[i]?=some y->0<=y->∀j,j<i->l[j]?≠some y):=by
 unfold mAt;rw[zE];have e1:(¬∀y,l[i]?=some y->0<=y->∀j,j<i->l[j]?≠some y)↔(x∈l.take i/\ 0<=x):=by
  constructor
  .intro h;simp only[Classical.not_forall,Classical.not_not,not_imp] at h;obtain⟨y,h1,h2,j,h3,h4⟩:=h;rw[hx] at h1;cases h1;exact⟨aN.2 ⟨j,by rw[fS,ad h3];exact h4⟩,h2⟩
  .rintro⟨h1,h2⟩ h;obtain⟨j,hj⟩:=aN.1 h1
   grind
 rw[show decide (¬∀y,l[i]?=some y->0<=y->∀j,j<i->l[j]?≠some y)=decide (x∈l.take i/\ 0<=x) from bU.2 e1]
 by_cases h:x∈l.take i
 .simp[h]
 .rw[ac h,ai (λe=>h e.1)];unfold kB kB;split<;>rfl
def M5 {l:List Int}{i:Nat}{x:Int}(hx:l[i]?=some x):oY (mAt l i) x (decide (0<=x))=mAt l (i+1):=by
 unfold mAt;rw[cd,hx]
 grind
open Classical in
def SA {l:List Int}(hl:l.length<=1000):Ans D 270 [sl I1 l] [.bool (decide (ja l))]:=by
 refine an ⟨1001,?_⟩;unfold Xm;have e0:RF.ev (.mset [.i] 1) [.sl [],.v (.int .i64 (-1)),.v (.bool false)]=some (Bm (mAt l 0)):=O2 [] (-1) false;simp only[e0,EV,aj];refine(ef (m:=1001) (n:=l.length) (P:=λi=>∀x,l[i]?=some x->0<=x->∀j,j<i->l[j]?≠some x) (st:=λi=>[Bm (mAt l i),.i64 (i:Int)]) (r:=some [.bool false]) (fin:=some [.bool true]) (λi self hi _=>?_) (λhall self=>?_) (by omega)).trans ?_
 .have hx:=eA hi;generalize nthI l i=x at hx;unfold DN;simp only[aO hx (bJ _),aL hx,cj,EV,aa,bc hi,ZM,Qo hx,be,O2,M5 hx,up1 (show i<1000000000 by omega)]
  by_cases hq:∀y,l[i]?=some y->0<=y->∀j,j<i->l[j]?≠some y
  .grind
  .rw[aq hq,ac hq];simp_all
 .unfold DN Lw;simp only[EV,aa,bw];rfl
 .by_cases h:ja l
  .rw[ad (show∀i,i<l.length->_ from h),aq h]
  .rw[ac (show¬∀i,i<l.length->_ from h),ai h]
def wn {b:Brk}{i:Nat}(hi:i<b.wins.length):b.wins[i]?=some (nodeV b.wins b.places i):=by
 obtain⟨x,hx⟩:∃x,b.wins[i]?=some x:=⟨_,ak hi⟩;rw[hx,vz hx]
open Classical in
def ab2 {b:Brk}(h1:b.places.length<=70)(h2:b.wins.length<=70):Ans D 205 [BR b] [.i64 (okE (decide (iZ b.wins b.places)))]:=by
 have no:∀h:¬iZ b.wins b.places,(some [PV.v (.int .i64 8)]:Option (List PV))=some [.i64 (okE (decide (iZ b.wins b.places)))]:=λh=>by rw[ai h];rfl
 refine an ⟨1001,?_⟩;unfold Wh;have wp:IntKind.i64.wrap ((b.places.length:Int)-1)=(b.places.length:Int)-1:=cz (by omega) (by omega);simp only[au,iY,me,gH,EV,aj,wp,phi (SA (l:=b.places) (by omega)),aa,aA,ah];by_cases a1:b.places.length<1
 .rw[ad (by omega)];exact no (λh=>by have:=h.1.1.1;omega)
 rw[ac (by omega)];by_cases a2:64<b.places.length
 .rw[ad (by omega)];exact no (λh=>by have:=h.1.1.2.1;omega)
 rw[ac (by omega)];by_cases a3:b.places.length=b.wins.length+1
 rotate_left
 .rw[ad (by omega)];exact no (λh=>a3 h.1.1.2.2)
 rw[ac (by omega)];by_cases a4:ja b.places
 rotate_left
 .rw[ad (by simpa using a4)]
  exact no (λh=>a4 h.1.2.1)
 rw[ac (by simpa using a4)]
 refine(b9 (m:=1001) (l:=b.places) (p:=λx=>decide (-1<=x)&& decide (x<=65535)) (st:=λi=>[.i64 (i:Int)]) (r:=some [.i64 8]) (fin:=some [.i64 (okE (decide (iZ b.wins b.places)))]) (λi x self hx _=>?_) (λhall self=>?_) (by omega)).trans ?_
 .unfold Dk;simp only[au,me,EV,aa,bc (aK hx),aO hx (bJ _),aL hx,cj];have u1:=up1 (show i<1000000000 by have:=aK hx;omega)
  have g0:decide ((i:Int)>=0)=true:=aq (by omega);by_cases c1: -1<=x
  .rw[ad (by omega)];by_cases c2:x<=65535
   .simp only[xv,EV,c1,c2,az,aJ,aw,ax,u1,sR,ay]
   .simp only[xv,EV,c1,c2,az,bb,aJ,aV,aw,ax,ay,g0,rm]
  .rw[ac (by omega)];simp only[xv,EV,c1,bb,aV,aJ,ay,g0,mK,aw,ax]
 .have hbase:oJ b.wins b.places:=⟨⟨by omega,by omega,a3⟩,a4,λx hx=>by have:=aQ.1 hall x hx;simp at this;omega⟩;unfold Dk;simp only[au,gH,EV,aj,aa,bw,KU,aJ,aV,aw,ax,show decide ((-1:Int)>=0)=false from rfl]
  refine(ef (m:=1001) (n:=b.wins.length) (P:=λi=>lS b.wins b.places i/\¬(nodeV b.wins b.places i<0/\ 0<=max (nodeV b.wins b.places (2*i+1)) (nodeV b.wins b.places (2*i+2)))) (st:=λi=>[.i64 (i:Int)]) (r:=some [.i64 8]) (fin:=some [.i64 0]) (λi self hi _=>?_) (λ_ self=>?_) (by omega)).trans ?_
  .have hx:=wn hi;unfold Dj lS;simp only[au,gH,EV,aa,bc hi,aO hx (bJ _),aL hx,cj,dbl (show i<100000000 by omega),up1 (show 2*i<1000000000 by omega),up2 (show 2*i<1000000000 by omega),phi (GO (b:=b) (i:=2*i+1) (by omega) (by omega)),phi (GO (b:=b) (i:=2*i+2) (by omega) (by omega)),mmX,be,KS,up1 (show i<1000000000 by omega),aA,ah]
   generalize nodeV b.wins b.places i=w;generalize nodeV b.wins b.places (2*i+1)=p;generalize nodeV b.wins b.places (2*i+2)=q;by_cases c1:w=p
   .by_cases c3:w<0
    .by_cases c4:0<=max p q<;>simp[c1,c3,c4]
     all_goals (subst c1;simp[c3,c4]<;>intro h<;>omega)
    .simp[c1,c3];subst c1;simp[c3]
   .by_cases c2:w=q
    .by_cases c3:w<0
     .by_cases c4:0<=max p q<;>simp[c1,c2,c3,c4]
      all_goals (subst c2;simp[c1,c3,c4]<;>intro h<;>omega)
     .simp[c1,c2,c3];subst c2;simp[c1,c3]
    .simp[c1,c2]
  .unfold Dj;simp only[EV,aa,bw,KR]
  .by_cases hr:iZ b.wins b.places
   .rw[ad hr.2,aq hr];rfl
   .rw[ac (λh=>hr ⟨hbase,h⟩),ai hr];rfl
 .by_cases hr:iZ b.wins b.places
  .rw[ad (by rw[aQ];intro x hx;have:=hr.1.2.2 x hx;simp;omega)]
  .split
   .rfl
   .exact no hr
open Classical in
def ab3 {b:Brk}(h1:b.places.length<=70)(h2:b.wins.length<=70):Ans D 154 [BR b] [.i64 (okE (decide (iZ b.wins b.places)))]:=by
 rw[show decide (iZ b.wins b.places)=decide (wH b.wins b.places) from bU.2 OB]
 have no:∀h:¬wH b.wins b.places,(some [PV.v (.int .i64 8)]:Option (List PV))=some [.i64 (okE (decide (wH b.wins b.places)))]:=λh=>by rw[ai h];rfl
 refine an ⟨1001,?_⟩;unfold Vf;have wp:IntKind.i64.wrap ((b.places.length:Int)-1)=(b.places.length:Int)-1:=cz (by omega) (by omega);simp only[au,iY,me,gH,EV,aj,wp,phi (ab1 (l:=b.places) (by omega)),aa,aA,ah];by_cases a1:b.places.length<1
 .rw[ad (by omega)];exact no (λh=>by have:=h.1.1.1;omega)
 rw[ac (by omega)];by_cases a2:64<b.places.length
 .rw[ad (by omega)];exact no (λh=>by have:=h.1.1.2.1;omega)
 rw[ac (by omega)];by_cases a3:b.places.length=b.wins.length+1
 rotate_left
 .rw[ad (by omega)];exact no (λh=>a3 h.1.1.2.2)
 rw[ac (by omega)];by_cases a4:ja b.places
 rotate_left
 .rw[ad a4];exact no (λh=>a4 h.1.2.1)
 rw[ac (by simpa using a4)]
 refine(b9 (m:=1001) (l:=b.places) (p:=λx=>decide (-1<=x)&& decide (x<=65535)) (st:=λi=>[.i64 (i:Int)]) (r:=some [.i64 8]) (fin:=some [.i64 (okE (decide (wH b.wins b.places)))]) (λi x self hx _=>?_) (λhall self=>?_) (by omega)).trans ?_
 .unfold CD;simp only[au,me,EV,aa,bc (aK hx),aO hx (bJ _),aL hx,cj,up1 (show i<1000000000 by have:=aK hx;omega)]
  by_cases c1:x< -1
  .rw[ad c1,ac (by simp;omega)]
  .rw[ac c1];by_cases c2:65535<x
   .rw[ad c2,ac (by simp;omega)]
   .rw[ac c2,ad (by simp;omega)]
 .have hbase:oJ b.wins b.places:=⟨⟨by omega,by omega,a3⟩,a4,λx hx=>by have:=aQ.1 hall x hx;simp at this;omega⟩;unfold CD;simp only[EV,aa,bw,J0];refine(ef (m:=1001) (n:=b.wins.length) (P:=λi=>lS b.wins b.places i/\¬(nodeV b.wins b.places i= -1/\(nodeV b.wins b.places (2*i+1)≠ -1\/nodeV b.wins b.places (2*i+2)≠ -1))) (st:=λi=>[.i64 (i:Int)]) (r:=some [.i64 8]) (fin:=some [.i64 0]) (λi self hi _=>?_) (λ_ self=>?_) (by omega)).trans ?_
  .have hx:=wn hi;unfold CC lS;simp only[au,gH,EV,aj,aa,bc hi,aO hx (bJ _),aL hx,cj,dbl (show i<100000000 by omega),up1 (show 2*i<1000000000 by omega),up2 (show 2*i<1000000000 by omega),phi (tu (b:=b) (i:=2*i+1) (by omega) (by omega)),phi (tu (b:=b) (i:=2*i+2) (by omega) (by omega)),JZ,up1 (show i<1000000000 by omega),aA,ah]
   generalize nodeV b.wins b.places i=w;generalize nodeV b.wins b.places (2*i+1)=p;generalize nodeV b.wins b.places (2*i+2)=q;by_cases c1:w=p
   .by_cases c3:w= -1
    .by_cases c4:p= -1
     .by_cases c5:q= -1<;>simp[c1,c3,c4,c5]
     .omega
    .simp only[c1,c3];subst c1;simp[c3]
   .by_cases c2:w=q
    .by_cases c3:w= -1
     .subst c3;subst c2;simp[c1,Ne.symm c1]
     .subst c2;simp[c1,c3]
    .simp[c1,c2]
  .unfold CC;simp only[au,gH,EV,aj,aa,bw,JY]
  .by_cases hr:wH b.wins b.places
   .rw[ad hr.2,aq hr];rfl
   .rw[ac (λh=>hr ⟨hbase,h⟩),ai hr];rfl
 .by_cases hr:wH b.wins b.places
  .rw[ad (by rw[aQ];intro x hx;have:=hr.1.2.2 x hx;simp;omega)]
  .split
   .rfl
   .exact no hr
def dP (l:List Pt)(x:Int):Prop:=x= -1\/inF l x=true
def wonI (t:Rt)(l:List Pt)(a b:Int):Int:=if a<0 then b else if b<0 then a else if leads t (bo l a) (bo l b)=true then a else b
def v8 {t:Rt}{l:List Pt}(a b:Int)(ha:dP l a)(hb:dP l b):dP l (wonI t l a b):=by
 unfold wonI;split
 .exact hb
 .grind
def valK_in {l:List Pt}(h:okF l){x:Int}(hv:dP l x):x= -1\/∃(i:Nat) (p:Pt),l[i]?=some p/\ p.id=x/\ pos l x=(i:Nat)/\ bo l x=p/\ 0<=x:=by
 rcases hv with e|e
 .exact .inl e
 .obtain⟨i,p,h1,h2,h3,h4⟩:=gr h e;exact .inr ⟨i,p,h1,h2,h3,h4,by rw[<-h2];exact(jK h p (aB h1)).1⟩
open Classical in
def ab4 {l:List Pt}{pl:List Int}(hl:l.length<=1000)(hp:pl.length<=1000):Ans D 156 [F l,sl I1 pl] [.bool (decide (∀x∈pl,dP l x))]:=by
 refine an ⟨1001,?_⟩;unfold Vh;simp[aW,EV];refine(b9 (m:=1001) (l:=pl) (p:=λx=>decide (dP l x)) (st:=λi=>[.i64 (i:Int)]) (r:=some [.bool false]) (fin:=some [.bool true]) (λi x self hx _=>?_) (λhall self=>?_) (by omega)).trans ?_
 .unfold CF;simp[EV,aO hx (bJ _),aL hx,cj,phi (nI hl x),J3,up1 (show i<1000000000 by have:=aK hx;omega)]
  unfold dP inF
  grind
 .unfold CF;simp only[EV,aj,aa,bw,J2]
 .grind
open Classical in
def ab5 {l:List Pt}{pl:List Int}(h:okF l)(hp:pl.length<=1000):Ans D 296 [F l,sl I1 pl] [.bool (decide (∀x∈pl,dP l x))]:=by
 refine an ⟨1001,?_⟩;unfold XF;simp only[au,aW,EV,aj];refine(b9 (m:=1001) (l:=pl) (p:=λx=>decide (dP l x)) (st:=λi=>[.i64 (i:Int)]) (r:=some [.bool false]) (fin:=some [.bool true]) (λi x self hx _=>?_) (λhall self=>?_) (by omega)).trans ?_
 .have u1:=up1 (show i<1000000000 by have:=aK hx;omega)
  unfold DR;rcases has_cases l x with hn|⟨j,p,hj,rfl⟩
  .obtain⟨P,hP⟩:=Zw h hn;have hf:inF l x=false:=by
    unfold inF;rcases pos_cases l x with⟨e,_⟩|⟨i,p,h1,h2,_⟩
    .rw[e];rfl
    .grind
   simp only[au,EV,aa,bc (aK hx),aO hx (bJ _),aL hx,cj,phi hP,aw,ax,DQ,u1];unfold dP;simp_all
  .have hf:inF l p.id=true:=fk.2 (bg.2 ⟨p,aB hj,rfl⟩);simp only[au,EV,aa,bc (aK hx),aO hx (bJ _),aL hx,cj,phi (MN h hj),ay,DQ,u1];unfold dP;rw[hf];simp
 .unfold DR LA;simp only[EV,aa,bw];rfl
 .by_cases h:∀x∈pl,dP l x
  .rw[ad (by simpa using h),aq h]
  .rw[ac (by simpa using h),ai h]
def ab6 {l:List Pt}{t:Rt}(h:okF l)(ht:bi t)(hr:rok t=true):Ans D 295 [F l,R t] [.i64 0]:=by
 have h1:=phi (qm l);rw[dH.2 h] at h1;have h2:=phi (c43 ht);rw[hr] at h2;have e0:okE true=0:=rfl;rw[e0] at h2;refine am ?_;unfold XE;simp[aW,aY,EV,h1,h2]
def ab7 {l:List Pt}{t:Rt}(h:okF l)(ht:bi t)(hr:rok t=true){a b:Int}(ha:dP l a)(hb:dP l b):Ans D 297 [F l,R t,.i64 a,.i64 b] [.i64 (wonI t l a b)]:=by
 refine am ?_;unfold XG wonI;rcases valK_in h ha with e|⟨i,p,p1,p2,p3,p4,p5⟩
 .rcases valK_in h hb with e'|⟨j,q,q1,q2,q3,q4,q5⟩
  .subst e;subst e';simp only[au,aW,aY,mmN,mmX,EV];rfl
  .subst e;simp only[au,aW,aY,mmN,mmX,EV,aa,ad (show min (-1) b<0 by omega),ad (show(-1:Int)<0 by omega),show max (-1) b=b by omega]
 .rcases valK_in h hb with e'|⟨j,q,q1,q2,q3,q4,q5⟩
  .subst e';simp only[au,aW,aY,mmN,mmX,EV,aa,ad (show min a (-1)<0 by omega),ac (show¬a<0 by omega),ad (show(-1:Int)<0 by omega),show max a (-1)=a by omega]
  .have d1:=phi (MN h p1);have d2:=phi (MN h q1);rw[p2] at d1;rw[q2] at d2;have d3:∃e:Int,PhiS D 190 [PP p,PP q,R t]=some [.bool (leads t p q),.i64 e]:=by
    have:=phi (AS (p:=p) (q:=q) ht);by_cases e:p.id=q.id
    .have:p=q:=(cM h.2.2).inj (aB p1) (aB q1) e;subst this;by_cases c:hZ p p t=0
     .rw[ad c] at this;exact⟨_,this⟩
     .rw[ac c] at this;rw[qh];exact⟨_,this⟩
    .rw[ad (jm (ea h p1) (ea h q1) hr e)] at this;exact⟨_,this⟩
   obtain⟨e,d3⟩:=d3;simp only[au,aW,aY,bQ,mmN,mmX,EV,aa,ac (show¬min a b<0 by omega),ac (show¬a<0 by omega),ac (show¬b<0 by omega),d1,d2,aO p1 (bL _),aL p1,aO q1 (bL _),aL q1,eU,d3,p4,q4]
   cases leads t p q<;>rfl
def SD {l:List Pt}{t:Rt}(h:okF l)(ht:bi t){a b:Int}(ha:dP l a)(hb:dP l b):Ans D 225 [F l,R t,.i64 a,.i64 b] [.i64 (wonI t l a b)]:=by
 have hl:=h.1;refine am ?_;unfold Wy wonI;simp[aW,aY,EV];by_cases c1:a<0
 .grind
 rw[ac c1,ac c1];by_cases c2:b<0
 .grind
 rw[ac c2,ac c2];rcases valK_in h ha with e|⟨i,p,p1,p2,p3,p4,p5⟩
 .omega
 rcases valK_in h hb with e|⟨j,q,q1,q2,q3,q4,q5⟩
 .omega
 simp[bQ,phi (nI (l:=l) (by omega) a),phi (nI (l:=l) (by omega) b),p3,q3,aO p1 (bL _),aL p1,aO q1 (bL _),aL q1,eU,phi (yp (ea h p1) (ea h q1) ht),p4,q4,EV];split<;>rfl
open Classical in
def ab8 {l:List Pt}{t:Rt}{pl:List Int}(h:okF l)(ht:bi t)(hr:rok t=true)(h1:1<=pl.length)(h2:pl.length<=64)(hv:∀x∈pl,dP l x)(ho:ja pl):Ans D 242 [F l,R t,sl I1 pl] [BR ⟨pl,playD (wonI t l) pl (pl.length-1) (pl.length-1)⟩,.i64 0]:=by
 have wp:IntKind.i64.wrap ((pl.length:Int)-1)=((pl.length-1:Nat):Int):=by rw[cz (by omega) (by omega)];omega
 have e1:=phi (ab5 h (pl:=pl) (by omega));rw[aq hv] at e1;have e2:=phi (SA (l:=pl) (by omega));rw[aq ho] at e2;have rp:=oV (n:=pl.length-1) (by omega);have agB:∀w:List Int,RF.ev .agg [sl I1 pl,sl I1 w]=some (BR ⟨pl,w⟩):=λw=>rfl;refine an ⟨1001,?_⟩;unfold WX;simp only[au,aW,aY,EV,phi (ab6 h ht hr),aj,az,aJ,aw,ax,aa,ac (show¬(pl.length:Int)<1 by omega),Lp,bh,ai (show¬(64:Int)<(pl.length:Int) by omega),e1,e2,Ll,Lm,Lo,Lk,phi (iB (l:=pl) (by omega)),wp,rp,aI]
 generalize hm:pl.length-1=m at*;have w1:IntKind.i64.wrap ((m:Int)-1)=(m:Int)-1:=cz (by omega) (by omega);rw[w1];have e0:([sl I1 (List.replicate m 0),PV.v (.int .i64 ((m:Int)-1))]:List PV)=[sl I1 (playD (wonI t l) pl m 0),.i64 ((m:Int)-1-((0:Nat):Int))]:=by
  simp[playD]
 rw[e0];refine(dG (m:=1001) (n:=m) (st:=λk=>[sl I1 (playD (wonI t l) pl m k),.i64 ((m:Int)-1-(k:Int))]) (λk self hk=>?_) (λself=>?_) (by omega))
 .obtain⟨i,hi⟩:∃i:Nat,m-1-k=i:=⟨_,rfl⟩;have hii:(m:Int)-1-(k:Int)=(i:Int):=by omega
  have hdn:IntKind.i64.wrap ((i:Int)-1)=(m:Int)-1-((k+1:Nat):Int):=by rw[cz (by omega) (by omega)];omega
  have hP:=vA (P:=dP l) (.inl rfl) (won:=wonI t l) (λa b=>v8 a b) hv k (by omega:k<=m);have hlen:=fP (won:=wonI t l) (places:=pl) (m:=m) k;have hnx:playD (wonI t l) pl m (k+1)=(playD (wonI t l) pl m k).set i (wonI t l (nodeV (playD (wonI t l) pl m k) pl (2*i+1)) (nodeV (playD (wonI t l) pl m k) pl (2*i+2))):=by rw[<-hi];rfl
  rw[hnx];generalize playD (wonI t l) pl m k=w at hP hlen;have su:RF.ev .sub [sl I1 w,.v (.int .i64 0),.v (.int .i64 (m:Int))]=some (sl I1 w):=by rw[<-hlen];exact bm
  unfold DC;simp only[EV,hii,aa,be,ad (show(0:Int)<=(i:Int) by omega),dbl (show i<100000000 by omega),up1 (show 2*i<1000000000 by omega),up2 (show 2*i<1000000000 by omega),bm,su,agB,au,phi (GO (b:=⟨pl,w⟩) (i:=2*i+1) (by simp only;omega) (by simp only;omega)),phi (GO (b:=⟨pl,w⟩) (i:=2*i+2) (by simp only;omega) (by simp only;omega)),phi (ab7 h ht hr (hP (2*i+1) (by omega)) (hP (2*i+2) (by omega))),ixM (show i<m by omega),gt (l:=w) (i:=i) (by omega),hdn]
 .have hlen:=fP (won:=wonI t l) (places:=pl) (m:=m) m;generalize playD (wonI t l) pl m m=w at hlen;have su:RF.ev .sub [sl I1 w,.v (.int .i64 0),.v (.int .i64 (m:Int))]=some (sl I1 w):=by rw[<-hlen];exact bm
  unfold DC;simp only[EV,aa,be,ac (show¬(0:Int)<=(m:Int)-1-(m:Int) by omega),Lj,bm,su,agB,au]
def edB (w p:List Int)(i:Nat):List Crt:=if 0<=nodeV w p (2*i+1)/\ 0<=nodeV w p (2*i+2) then [⟨nodeV w p (2*i+1)+nodeV w p (2*i+2)-nodeV w p i,nodeV w p i⟩] else []
def edsB (w p:List Int)(n:Nat):List Crt:=(List.range n).flatMap (edB w p)
def pV (w p:List Int)(n:Nat):edsB w p (n+1)=edsB w p n++edB w p n:=by
 unfold edsB;rw[lZ,sW];simp
def kC (w p:List Int):∀n,(edsB w p n).length<=n
 |0=>by simp[edsB]
 |n+1=>by
  have:=kC w p n;rw[pV,aE];unfold edB;split<;>simp<;>omega
def mf {l:List Pt}(h:okF l){x:Int}(hv:dP l x): -1<=x/\ x<=65535:=by
 rcases valK_in h hv with e|⟨i,p,p1,p2,_⟩
 .omega
 .have:=jK h p (aB p1);omega
def zF {w p:List Int}{j:Nat}(hj:j<w.length+p.length):(j<w.length->w[j]?=some (nodeV w p j))/\(¬j<w.length->p[j-w.length]?=some (nodeV w p j)):=by
 constructor
 .intro h;obtain⟨x,hx⟩:∃x,w[j]?=some x:=⟨_,ak h⟩;rw[hx,vz hx]
 .intro h;obtain⟨x,hx⟩:∃x,p[j-w.length]?=some x:=⟨_,ak (by omega)⟩;rw[hx,zt h hx]
open Classical in
def SE {l:List Pt}{t:Rt}{pl:List Int}(h:okF l)(ht:bi t)(hr:rok t=true)(h1:1<=pl.length)(h2:pl.length<=64)(hv:∀x∈pl,dP l x)(ho:ja pl){w:List Int}(hw:w=playD (wonI t l) pl (pl.length-1) (pl.length-1)):Ans D 182 [F l,R t,sl I1 pl] [BR ⟨pl,w⟩,sl cv (edsB w pl w.length)]:=by
 have hlen:w.length=pl.length-1:=by rw[hw,fP]
 have hP:∀j,dP l (nodeV w pl j):=λj=>by rw[hw];exact vA (P:=dP l) (.inl rfl) (won:=wonI t l) (λa b=>v8 a b) hv _ (aD _) j (by omega)
 have e218:=phi (ab8 h ht hr h1 h2 hv ho);rw[<-hw] at e218;refine an ⟨1001,?_⟩;unfold VN;simp only[au,aW,aY,EV,e218,iY,gH,aj];have e0:([PV.sl [],.v (.int .i64 0),.v (.int .i64 0)]:List PV)=[sl cv (edsB w pl 0),.i64 ((edsB w pl 0).length:Int),.i64 ((0:Nat):Int)]:=rfl;rw[e0];refine(dG (m:=1001) (n:=w.length) (st:=λi=>[sl cv (edsB w pl i),.i64 ((edsB w pl i).length:Int),.i64 (i:Int)]) (λi self hi=>?_) (λself=>?_) (by omega))
 .have hx:=wn (b:=⟨pl,w⟩) (i:=i) hi;have hel:=kC w pl i;have b0:=mf h (hP i);have b1:=mf h (hP (2*i+1));have b2:=mf h (hP (2*i+2));have c1':(2*i+1<w.length->w[2*i+1]?=some (nodeV w pl (2*i+1)))/\(¬2*i+1<w.length->pl[2*i+1-w.length]?=some (nodeV w pl (2*i+1))):=zF (by omega);have c2':(2*i+2<w.length->w[2*i+2]?=some (nodeV w pl (2*i+2)))/\(¬2*i+2<w.length->pl[2*i+2-w.length]?=some (nodeV w pl (2*i+2))):=zF (by omega);simp only at hx;rw[pV];unfold edB;generalize nodeV w pl i=v at hx b0;generalize nodeV w pl (2*i+1)=a at b1 c1';generalize nodeV w pl (2*i+2)=b at b2 c2';have w1:IntKind.i64.wrap (a+b)=a+b:=cz (by omega) (by omega);have w2:IntKind.i64.wrap (a+b-v)=a+b-v:=cz (by omega) (by omega);have ap:=fJ (f:=cv) (l:=edsB w pl i) (k:=[⟨a+b-v,v⟩]) (bytes:=16) (z:=2) (by simp;omega) kw;have u1:=up1 (show i<1000000000 by omega)
  unfold yO;by_cases q1:2*i+1<w.length
  .have r1:=c1'.1 q1;by_cases q2:2*i+2<w.length
   .have r2:=c2'.1 q2;simp only[au,gH,me,EV,aj,aa,bc hi,aO hx (bJ _),aL hx,cj,dbl (show i<100000000 by omega),up1 (show 2*i<1000000000 by omega),up2 (show 2*i<1000000000 by omega),bc q1,bc q2,aO r1 (bJ _),aL r1,aO r2 (bJ _),aL r2,be,Kn,Km,xr,u1,w1,w2,rG,bsC,n9]
    by_cases g1:0<=a
    .by_cases g2:0<=b
     .simp only[g1,g2,ay,az,fG,ap,nq,au,EV,aj,u1]
     .simp only[g1,g2,ay,bb,eP,ax,aw,aP]
    .simp only[g1,ax,fV,aw,aP]
   .have r2:=c2'.2 q2;simp only[au,gH,me,EV,aj,aa,bc hi,aO hx (bJ _),aL hx,cj,dbl (show i<100000000 by omega),up1 (show 2*i<1000000000 by omega),up2 (show 2*i<1000000000 by omega),bc q1,ac (show¬((2*i+2:Nat):Int)<(w.length:Int) by omega),Bb (show w.length<=2*i+2 by omega) (by omega),aO r1 (bJ _),aL r1,aO r2 (bJ _),aL r2,be,Kq,Ko,xr,u1,w1,w2,rG,bsC,n9]
    by_cases g1:0<=a
    .by_cases g2:0<=b
     .simp only[g1,g2,ay,az,fG,ap,nq,au,EV,aj,u1]
     .simp only[g1,g2,ay,bb,eP,ax,aw,aP]
    .simp only[g1,ax,fV,aw,aP]
  .have r1:=c1'.2 q1;have q2:¬2*i+2<w.length:=by omega
   have r2:=c2'.2 q2;simp only[au,gH,me,EV,aj,aa,bc hi,aO hx (bJ _),aL hx,cj,dbl (show i<100000000 by omega),up1 (show 2*i<1000000000 by omega),up2 (show 2*i<1000000000 by omega),ac (show¬((2*i+1:Nat):Int)<(w.length:Int) by omega),ac (show¬((2*i+2:Nat):Int)<(w.length:Int) by omega),Bb (show w.length<=2*i+1 by omega) (by omega),Bb (show w.length<=2*i+2 by omega) (by omega),aO r1 (bJ _),aL r1,aO r2 (bJ _),aL r2,be,FW,Kr,xr,u1,w1,w2,rG,bsC,n9]
   by_cases g1:0<=a
   .by_cases g2:0<=b
    .simp only[g1,g2,ay,az,fG,ap,nq,au,EV,aj,u1]
    .simp only[g1,g2,ay,bb,eP,ax,aw,aP]
   .simp only[g1,ax,fV,aw,aP]
 .unfold yO;simp only[EV,aa,bw,Kl,bm,au]
def SG {b:Brk}(h1:b.places.length=b.wins.length+1)(h2:b.places.length<=70)(hk:∀i,i<b.wins.length->lS b.wins b.places i)(hb:∀j,-1<=nodeV b.wins b.places j/\ nodeV b.wins b.places j<=65535):Ans D 159 [BR b] [sl cv (edsB b.wins b.places b.wins.length)]:=by
 refine an ⟨1001,?_⟩;unfold Vk;simp only[au,iY,EV];have e0:([PV.sl [],.v (.int .i64 0),.v (.int .i64 0)]:List PV)=[sl cv (edsB b.wins b.places 0),.i64 ((edsB b.wins b.places 0).length:Int),.i64 ((0:Nat):Int)]:=rfl;rw[e0];refine(dG (m:=1001) (n:=b.wins.length) (st:=λi=>[sl cv (edsB b.wins b.places i),.i64 ((edsB b.wins b.places i).length:Int),.i64 (i:Int)]) (λi self hi=>?_) (λself=>?_) (by omega))
 .have hx:=wn (b:=b) (i:=i) hi;have hel:=kC b.wins b.places i;have hpk:=hk i hi;have b0:=hb i;have b1:=hb (2*i+1);have b2:=hb (2*i+2);have c1':=phi (tu (b:=b) (i:=2*i+1) (by omega) (by omega));have c2':=phi (tu (b:=b) (i:=2*i+2) (by omega) (by omega));rw[pV];unfold edB;unfold lS at hpk;generalize nodeV b.wins b.places i=v at hx b0 hpk;generalize nodeV b.wins b.places (2*i+1)=p at b1 c1' hpk;generalize nodeV b.wins b.places (2*i+2)=q at b2 c2' hpk;have ap:=λc=>fJ (f:=cv) (l:=edsB b.wins b.places i) (k:=[c]) (bytes:=16) (z:=2) (by simp;omega) kw;unfold CI;simp only[au,gH,EV,aj,aa,bc hi,dbl (show i<100000000 by omega),up1 (show 2*i<1000000000 by omega),up2 (show 2*i<1000000000 by omega),c1',c2',J8,up1 (show i<1000000000 by omega),aO hx (bJ _),aL hx,cj,J9,rG,bsC,n9,ap]
  by_cases g1:p<0
  .rw[ad g1,ac (by omega),aP]
  by_cases g2:q<0
  .rw[ac g1,ad g2,ac (by omega),aP]
  rw[ac g1,ac g2,ad (show 0<=p/\ 0<=q by omega)]
  by_cases g3:v=p
  .rw[ad g3,g3,show p+q-p=q by omega]
  .rw[ac g3,show v=q by omega,show p+q-q=p by omega]
 .unfold CI;simp only[au,gH,EV,aj,aa,bw,J7,bm]
open Classical in
def ab9 {b:Brk}{l:List Pt}{t:Rt}(h:okF l)(ht:bi t)(h1:b.places.length=b.wins.length+1)(h2:b.places.length<=70)(hv:∀j,dP l (nodeV b.wins b.places j)):Ans D 158 [BR b,F l,R t] [.bool (decide (kq (wonI t l) b.wins b.places))]:=by
 refine an ⟨1001,?_⟩;unfold Vj;simp only[au,iY,aW,aY,EV];refine(ef (m:=1001) (n:=b.wins.length) (P:=λi=>nodeV b.wins b.places i=wonI t l (nodeV b.wins b.places (2*i+1)) (nodeV b.wins b.places (2*i+2))) (st:=λi=>[.i64 (i:Int)]) (r:=some [.bool false]) (fin:=some [.bool true]) (λi self hi _=>?_) (λ_ self=>?_) (by omega)).trans ?_
 .have hx:=wn (b:=b) (i:=i) hi;unfold CH;simp only[au,gH,EV,aj,aa,bc hi,dbl (show i<100000000 by omega),up1 (show 2*i<1000000000 by omega),up2 (show 2*i<1000000000 by omega),phi (tu (b:=b) (i:=2*i+1) (by omega) (by omega)),phi (tu (b:=b) (i:=2*i+2) (by omega) (by omega)),phi (SD h ht (hv (2*i+1)) (hv (2*i+2))),up1 (show i<1000000000 by omega),aO hx (bJ _),aL hx,cj,aA,ah]
  by_cases g:nodeV b.wins b.places i=wonI t l (nodeV b.wins b.places (2*i+1)) (nodeV b.wins b.places (2*i+2))
  .rw[ac (by simpa using g),ad g]
  .rw[ad g,ac g]
 .unfold CH;simp only[au,gH,EV,aj,aa,bw,J6]
 .by_cases h:kq (wonI t l) b.wins b.places
  .rw[ad (show∀i,i<b.wins.length->_ from h),aq h]
  .rw[ac (show¬∀i,i<b.wins.length->_ from h),ai h]
def szd (n:Nat):Bool:=decide (n∈[1,2,4,8,16,32,64])
def Qp:∀n:Nat,n<65->1<=n->((BitVec.ofInt 64 (n:Int)&&& BitVec.ofInt 64 ((n:Int)-1)).toNat=0↔szd n=true):=by decide
def aca {n:Nat}(h:n<=1000):Ans D 155 [.i64 (n:Int)] [.bool (szd n)]:=by
 have wr:∀m:Nat,m<=1000->IntKind.i64.wrap ((m:Int)*2)=((m*2:Nat):Int):=λm hm=>by rw[cz (by omega) (by omega)];omega
 refine an ⟨1001,?_⟩;unfold Vg;simp only[EV];refine(ji (m:=1001) (l:=[1,2,4,8,16,32,64]) (p:=λa:Nat=>decide (n=a)) (st:=λi=>[.i64 ((2^ i:Nat):Int)]) (ret:=λ_=>some [.bool true]) (fin:=some [.bool false]) (λi a self ha=>?_) (λself=>?_) (by decide)).trans ?_
 .have hi:=aK ha;have ha2:a=2^ i:=by
   match i,hi with
   |0,_=>simpa using ha.symm
   |1,_=>simpa using ha.symm
   |2,_=>simpa using ha.symm
   |3,_=>simpa using ha.symm
   |4,_=>simpa using ha.symm
   |5,_=>simpa using ha.symm
   |6,_=>simpa using ha.symm
  have h64:2^ i<=64:=by
   have:i<=6:=by simp at hi;omega
   exact bD (Nat.pow_le_pow_right (by omega) this) (by decide)
  have hnx:2^(i+1)=2^ i*2:=Nat.pow_succ ..;rw[hnx];subst ha2;generalize 2^ i=m at h64;unfold CE;simp only[EV,aa,ad (show(m:Int)<=64 by omega),wr m (by omega)]
  by_cases c:n=m
  .rw[ad (by omega),ad c]
  .rw[ac (by omega),ac c]
 .unfold CE;simp only[EV,bj,dg,show decide ((((2:Nat)^(0+1+1+1+1+1+1+1):Nat):Int)<=64)=false from rfl,aw,ax,J1]
 .cases e:List.findIdx? (λa:Nat=>decide (n=a)) [1,2,4,8,16,32,64] with
  |none=>
   rw[gm] at e;have:szd n=false:=ai (λh=>by have:=e n h;simp at this);rw[this];rfl
  |some i=>
   obtain⟨hi,h2,_⟩:=b8.1 e;have:szd n=true:=aq (by rw[aU h2];exact List.getElem_mem hi);rw[this];rfl
def acb {l:List Int}(hl:l.length<=1000):Ans D 157 [sl I1 l] [sl I1 (l.filter λx=>decide (0<=x))]:=by
 refine an ⟨1001,?_⟩;unfold Vi;simp only[EV];have e0:([PV.sl [],.v (.int .i64 0),.v (.int .i64 0)]:List PV)=[sl I1 [],.i64 (([]:List Int).length:Int),.i64 ((0:Nat):Int)]:=rfl;rw[e0];refine(hY (m:=1001) (l:=l) (g:=λacc x=>if 0<=x then acc++[x] else acc) (I:=λk acc=>acc.length<=k) (S:=λacc k=>[sl I1 acc,.i64 (acc.length:Int),.i64 (k:Int)]) (fin:=λacc=>some [sl I1 acc]) (x:=[]) (by simp) (λk a acc _ h=>by
   split
   .rw[aE,aS];omega
   .omega) (λk x acc self hx hI=>?_) (λacc self hI=>?_) (by omega)).1.trans ?_
 .have hk:=aK hx;have ap:=fJ (f:=I1) (l:=acc) (k:=[x]) (bytes:=8) (z:=1) (by simp;omega) bJ;unfold CG;simp only[au,EV,aj,aa,bc hk,aO hx (bJ _),aL hx,cj,be,J5,up1 (show k<1000000000 by omega),bsI,jJ,ap]
  by_cases c:0<=x
  .simp only[c,ay]
  .simp only[c,ax]
 .unfold CG;simp only[EV,aj,aa,bw,J4,bm]
 .have:∀(l acc:List Int),l.foldl (λacc x=>if 0<=x then acc++[x] else acc) acc=acc++l.filter λx=>decide (0<=x):=by
   intro l;induction l with
   |nil=>simp
   |cons a l ih=>
    intro acc;rw[cH,ih,cS];by_cases c:0<=a<;>simp[c]
  rw[this,bV]
def wT (l:List Int):List Int:=fH l
def acd {l:List Int}(hl:l.length<=1000):Ans D 208 [.sl [],sl I1 l] [sl I1 (wT l)]:=by
 have h0:D.T 208=none:=by kernel_rfl
 refine P3 h0 ?_;show ko 208 208 [.sl [],.sl (ij l)]=some [.sl (ij (fH l))]
 unfold ko;simp[vM]
 grind
def fg (k:KTourn):Prop:=dp k.clock/\ iZ k.brk.wins k.brk.places/\ szd k.brk.places.length=true/\(∀x∈k.brk.places,dP k.clock.pts x)/\(k.brk.places.filter λx=>decide (0<=x)).length=k.clock.pts.length/\ kq (wonI k.clock.now k.clock.pts) k.brk.wins k.brk.places/\ JustR k.clock (edsB k.brk.wins k.brk.places k.brk.wins.length)
def oZ {k:KTourn}(h:gKt k=false):gCl k.clock=false/\ k.brk.places.length<=70/\ k.brk.wins.length<=70:=by
 unfold gKt at h
 grind
def brk_val {b:Brk}{l:List Pt}(hb:iZ b.wins b.places)(hv:∀x∈b.places,dP l x)(j:Nat):dP l (nodeV b.wins b.places j):=
 Rx (P:=dP l) (.inl rfl) hb.1.1.2.2 hv (λi hi=>(hb.2 i hi).1) _ j rfl
def Bg {w p:List Int}{n:Nat}{e:Crt}(h:e∈edsB w p n):∃i,i<n/\(0<=nodeV w p (2*i+1)/\ 0<=nodeV w p (2*i+2))/\ e=⟨nodeV w p (2*i+1)+nodeV w p (2*i+2)-nodeV w p i,nodeV w p i⟩:=by
 unfold edsB at h;obtain⟨i,hi,he⟩:=List.mem_flatMap.1 h;rw[de] at hi;unfold edB at he;split at he
 .rename_i c;exact⟨i,hi,c,cC.1 he⟩
 .cases he
def oc {b:Brk}{l:List Pt}{t:Rt}(h:okF l)(hb:iZ b.wins b.places)(hv:∀x∈b.places,dP l x)(hf:kq (wonI t l) b.wins b.places){e:Crt}(he:e∈edsB b.wins b.places b.wins.length):inF l e.low=true/\ inF l e.high=true/\ leads t (bo l e.high) (bo l e.low)=true:=by
 obtain⟨i,hi,⟨c1,c2⟩,rfl⟩:=Bg he;have hF:=hf i hi;have hd:nodeV b.wins b.places (2*i+1)≠nodeV b.wins b.places (2*i+2):=λe=>Fg (uz hb) c1 hi rfl e.symm;rcases valK_in h (brk_val hb hv (2*i+1)) with e|⟨j1,p,p1,p2,p3,p4,p5⟩
 .omega
 rcases valK_in h (brk_val hb hv (2*i+2)) with e|⟨j2,q,q1,q2,q3,q4,q5⟩
 .omega
 have ip:inF l (nodeV b.wins b.places (2*i+1))=true:=by rw[<-p2];exact fk.2 (bg.2 ⟨p,aB p1,rfl⟩)
 have iq:inF l (nodeV b.wins b.places (2*i+2))=true:=by rw[<-q2];exact fk.2 (bg.2 ⟨q,aB q1,rfl⟩)
 unfold wonI at hF;rw[ac (by omega),ac (by omega),p4,q4] at hF;cases hL:leads t p q with
 |true=>
  grind
 |false=>
  rw[hL,ac (by simp)] at hF;rw[hF,Int.add_sub_cancel,p4,q4];refine⟨ip,iq,?_⟩;rcases leads_total (t:=t) (p:=p) (q:=q) (by rw[p2,q2];exact hd) with g|g
  .grind
  .exact g
def rM {b:Brk}{l:List Pt}{t:Rt}(h:okF l)(hb:iZ b.wins b.places)(hv:∀x∈b.places,dP l x)(hf:kq (wonI t l) b.wins b.places):∀n,n<=b.wins.length->(edsB b.wins b.places n).Nodup
 |0,_=>by simp[edsB]
 |n+1,hn=>by
  rw[pV];have ih:=rM h hb hv hf n (by omega);have one:∀i,i<b.wins.length->(0<=nodeV b.wins b.places (2*i+1)/\ 0<=nodeV b.wins b.places (2*i+2))->∃c,(c=2*i+1\/c=2*i+2)/\ nodeV b.wins b.places c=nodeV b.wins b.places (2*i+1)+nodeV b.wins b.places (2*i+2)-nodeV b.wins b.places i/\ nodeV b.wins b.places i≠nodeV b.wins b.places c/\ 0<=nodeV b.wins b.places c:=λi hi hc=>by
   have hd:nodeV b.wins b.places (2*i+1)≠nodeV b.wins b.places (2*i+2):=λe=>Fg (uz hb) hc.1 hi rfl e.symm;rcases(hb.2 i hi).1 with g|g
   .exact⟨2*i+2,.inr rfl,by omega,by omega,hc.2⟩
   .exact⟨2*i+1,.inl rfl,by omega,by omega,hc.1⟩
  unfold edB;split
  .rename_i c;rw[ew];refine⟨ih,by simp,λa ha b' hb' e=>?_⟩;subst e;obtain⟨i,hi,c',e⟩:=Bg ha;rw[cC] at hb';rw[e] at hb';simp at hb';obtain⟨x,x1,x2,x3,x4⟩:=one i (by omega) c';obtain⟨y,y1,y2,y3,y4⟩:=one n (by omega) c;have:=Mv (uz hb) (z:=nodeV b.wins b.places x) x4 (i:=i) (j:=n) (by omega) (by omega) x1 y1 rfl (by omega) x3 (by omega);omega
  .rw[aP];exact ih
open Classical in
def c82 {k:KTourn}(h64:fw k.clock)(hg:gKt k=false):Ans D 98 [KT k] [.i64 (okE (decide (fg k)))]:=by
 obtain⟨g1,g2,g3⟩:=oZ hg;have no:∀h:¬fg k,(some [PV.v (.int .i64 8)]:Option (List PV))=some [.i64 (okE (decide (fg k)))]:=λh=>by rw[ai h];rfl
 have pKT2:RF.ev (.part 2 1) [KT k]=some (F k.clock.pts):=rfl;have pKT0:RF.ev (.part 0 2) [KT k]=some (R k.clock.now):=rfl;have cKT11:RF.ev (.cell 11) [KT k]=some (sl I1 k.brk.places):=rfl;refine an ⟨1001,?_⟩;unfold k82;simp only[au,qo,pKT,vY,pKT2,pKT0,cKT11,bQ,EV,aj,phi (A0 h64 g1),phi (ab3 g2 g3),phi (aca (n:=k.brk.places.length) (by omega)),gN,aA,ah,aa];by_cases h1:dp k.clock
 rotate_left
 .rw[ac h1];exact no (λh=>h1 h.1)
 rw[ad h1];by_cases h2:iZ k.brk.wins k.brk.places
 rotate_left
 .rw[ac h2];exact no (λh=>h2 h.2.1)
 rw[ad h2];cases h3:szd k.brk.places.length with
 |false=>
  rw[ad rfl];exact no (λh=>by have:=h.2.2.1;rw[h3] at this;cases this)
 |true=>
 rw[ac (by simp)];have hF:=h1.2.1;have hl:=hF.1;simp only[au,pKT2,cKT11,bQ,EV,aj,phi (ab4 (l:=k.clock.pts) (pl:=k.brk.places) (by omega) (by omega)),phi (acb (l:=k.brk.places) (by omega)),aA,ah,aa];by_cases h4:∀x∈k.brk.places,dP k.clock.pts x
 rotate_left
 .rw[ad h4];exact no (λh=>h4 h.2.2.2.1)
 rw[ac (λg=>g h4)];by_cases h5:(k.brk.places.filter λx=>decide (0<=x)).length=k.clock.pts.length
 rotate_left
 .rw[ad (by omega)];exact no (λh=>h5 h.2.2.2.2.1)
 rw[ac (by omega)];have hlen:=h2.1.1.2.2;have hval:=brk_val h2 h4;simp only[au,vY,pKT0,EV,phi (ab9 (b:=k.brk) (l:=k.clock.pts) (t:=k.clock.now) hF h64.1 hlen (by omega) hval),aA,ah];by_cases h6:kq (wonI k.clock.now k.clock.pts) k.brk.wins k.brk.places
 rotate_left
 .rw[ad h6];exact no (λh=>h6 h.2.2.2.2.2.1)
 rw[ac (λg=>g h6)];have hel:=kC k.brk.wins k.brk.places k.brk.wins.length;simp only[au,pKT,vY,EV,phi (SG (b:=k.brk) hlen (by omega) (λi hi=>(h2.2 i hi).1) (λj=>mf hF (hval j))),phi (GK (c:=k.clock) (edges:=edsB k.brk.wins k.brk.places k.brk.wins.length) hF h64.1 (by omega) (by have:=fN g1;omega) (λe he=>⟨(oc hF h2 h4 h6 he).1,(oc hF h2 h4 h6 he).2.1⟩)),aA,ah];by_cases h7:JustR k.clock (edsB k.brk.wins k.brk.places k.brk.wins.length)
 .rw[ac (λg=>g h7),aq (show fg k from⟨h1,h2,h3,h4,h5,h6,h7⟩)];rfl
 .rw[ad h7];exact no (λh=>h7 h.2.2.2.2.2.2)
def M6 {l:List Pt}{pl:List Int}(hF:okF l)(ho:ja pl)(hb:∀x∈pl,-1<=x):wT (pl.filter λx=>decide (0<=x))=l.map Pt.id↔(∀x∈pl,dP l x)/\(pl.filter λx=>decide (0<=x)).length=l.length:=by
 have hperm:(wT (pl.filter λx=>decide (0<=x))).Perm (pl.filter λx=>decide (0<=x)):=sX _ _;constructor
 .intro h;rw[h] at hperm;refine⟨λx hx=>?_,by have:=hperm.length_eq;rw[aj] at this;exact this.symm⟩;by_cases c:0<=x
  .exact .inr (fk.2 (hperm.mem_iff.2 (cq.2 ⟨hx,by simpa using c⟩)))
  .exact .inl (by have:=hb x hx;omega)
 .rintro⟨h1,h2⟩;have hnd:(pl.filter λx=>decide (0<=x)).Nodup:=by
   have:∀(l:List Int),(∀(i j:Nat) (x:Int),0<=x->l[i]?=some x->l[j]?=some x->i=j)->(l.filter λx=>decide (0<=x)).Nodup:=by
    intro l;induction l with
    |nil=>intro _;simp
    |cons a l ih=>
     intro h;have ih:=ih λi j x hx hi hj=>by have:=h (i+1) (j+1) x hx (by simpa using hi) (by simpa using hj);omega
     rw[cS];split
     .rename_i c;refine bW.2 ⟨λhm=>?_,ih⟩;obtain⟨j,hj⟩:=aN.1 (cq.1 hm).1;have:=h 0 (j+1) a (by simpa using c) (by simp) (by simpa using hj)
      omega
     .exact ih
   exact this pl (uy.1 ho)
  have hp:(pl.filter λx=>decide (0<=x)).Perm (l.map Pt.id):=jD hnd (λx hx=>by
   obtain⟨a,b⟩:=cq.1 hx;rcases h1 x a with e|e
   .simp at b;omega
   .exact fk.1 e) (by rw[aj];omega)
  refine List.Perm.eq_of_pairwise (le:=λa b=>a<=b) (λa b _ _ h1 h2=>by omega) ?_ ?_ (hperm.trans hp)
  .have:=pO (le:=λa b:Int=>decide (a<=b)) (λa b c h1 h2=>by simp at h1 h2|-;omega) (λa b=>by simp;omega) (pl.filter λx=>decide (0<=x));exact this.imp λh=>by simpa using h
  .rw[d6];intro i j hi hj hij;rw[aj] at hi hj;have:=gQ hF.2.2 hij (ak hi) (ak hj);rw[List.getElem_map,List.getElem_map];omega
def FR {S:List Int}{k:List Pt}(h:S.length=k.length)(ha:(S.zip k).all (λx=>decide (x.1=x.2.id))=true):S=k.map Pt.id:=by
 rw[aQ] at ha;refine List.ext_getElem (by simpa using h) λi h1 h2=>?_
 have:=ha (S[i],k[i]'(by omega)) (List.mem_iff_getElem.2 ⟨i,by rw[lX];omega,by simp⟩)
 grind
def Bh {S:List Int}{k:List Pt}(h:S=k.map Pt.id):(S.zip k).all (λx=>decide (x.1=x.2.id))=true:=by
 rw[aQ];intro x hx;obtain⟨i,hi⟩:=aN.1 hx
 grind
def cpt (l:List Int)(i:Nat):Nat->List Int×Nat
 |0=>(l,i)
 |t+1=>if 0<=nthI l (i+1+t) then((cpt l i t).1.set (cpt l i t).2 (nthI l (i+1+t)),(cpt l i t).2+1) else cpt l i t
def Bi {l:List Int}{i:Nat}{a:Int}(ha:l[i]?=some a)(hn:a<0)(hp:(l.take i).all (λx=>!decide (x<0))=true):∀t,i+1+t<=l.length->(cpt l i t).1.length=l.length/\(cpt l i t).2<=i+t/\(cpt l i t).1.take (cpt l i t).2=(l.take (i+1+t)).filter (λx=>decide (0<=x))/\∀j,i+1+t<=j->(cpt l i t).1[j]?=l[j]?
 |0,_=>by
  refine⟨rfl,aD _,?_,λj _=>rfl⟩;rw[l6,cd,ha,List.filter_append];have h1:(l.take i).filter (λx=>decide (0<=x))=l.take i:=sU.2 λx hx=>by
   have:=aQ.1 hp x hx;simp at this|-;omega
  have h2:(some a).toList.filter (λx=>decide (0<=x))=[]:=by simp;omega
  rw[h1,h2,aP];rfl
 |t+1,h=>by
  obtain⟨h1,h2,h3,h4⟩:=Bi ha hn hp t (by omega);have hx:=eA (l:=l) (i:=i+1+t) (by omega);have e1:(l.take (i+1+(t+1))).filter (λx=>decide (0<=x))=(l.take (i+1+t)).filter (λx=>decide (0<=x))++if 0<=nthI l (i+1+t) then [nthI l (i+1+t)] else []:=by
   rw[show i+1+(t+1)=i+1+t+1 by omega,cd,hx,List.filter_append]
   congr 1
   simp[cS]
  rw[e1];unfold cpt;by_cases c:0<=nthI l (i+1+t)
  .rw[ad c,ad c];refine⟨by rw[bK];exact h1,by simp only;omega,?_,λj hj=>?_⟩
   .simp only;rw[cd,bk (by omega),List.take_set,List.set_eq_of_length_le (by rw[aM];omega),h3];rfl
   .simp only;rw[bA (by omega)];exact h4 j (by omega)
  .rw[ac c,ac c,aP];exact⟨h1,by omega,h3,λj hj=>h4 j (by omega)⟩
def SH {L S:List Int}(h:S.length<=L.length):RF.ev (.appK 0 1) [sl I1 L,.v (.int .i64 0),sl I1 S]=some (sl I1 (S++L.drop S.length)):=by
 show(if(0:Int)<=0/\(0:Int)<=((L.map I1).length:Nat)/\((0:Int).toNat+(S.map I1).length)*0<=140737488355328/\ dU 1 (S.map I1)=true then some (PV.sl ((L.map I1).take (0:Int).toNat++S.map I1++(L.map I1).drop ((0:Int).toNat+(S.map I1).length))) else none)=_
 have he:dU 1 (S.map I1)=true:=by
  cases S with
  |nil=>rfl
  |cons a k=>simp[dU,bJ]
 simp_all
def ace {L:List Int}{a n:Nat}(h:a+n=L.length):RF.ev (.clr [KP.z]) [sl I1 L,.v (.int .i64 (a:Int)),.v (.int .i64 (n:Int))]=some (sl I1 (L.take a++List.replicate n 0)):=by
 show(if(0:Int)<=a/\(0:Int)<=n/\(a:Int)+n<=((L.map I1).length:Nat) then some (PV.sl ((L.map I1).take (a:Int).toNat++List.replicate (n:Int).toNat [KP.z]++(L.map I1).drop ((a:Int).toNat+(n:Int).toNat))) else none)=_
 rw[ad ⟨by omega,by omega,by rw[aj];omega⟩,db (by simp;omega)];simp;exact .inr rfl
def acf {L Z:List Int}:RF.ev .sub [sl I1 (L++Z),.v (.int .i64 0),.v (.int .i64 (L.length:Int))]=some (sl I1 L):=by
 rw[AK,ad (by simp;omega)];simp
open Classical in
def c78 {k:KTourn}(h64:fw k.clock)(hg:gKt k=false):Ans D 139 [KT k] [.i64 (okE (decide (fg k)))]:=by
 obtain⟨g1,g2,g3⟩:=oZ hg;have no:∀h:¬fg k,(some [PV.v (.int .i64 8)]:Option (List PV))=some [.i64 (okE (decide (fg k)))]:=λh=>by rw[ai h];rfl
 have pKT2:RF.ev (.part 2 1) [KT k]=some (F k.clock.pts):=rfl;have pKT0:RF.ev (.part 0 2) [KT k]=some (R k.clock.now):=rfl;have cKT2:RF.ev (.cell 2) [KT k]=some (sl row k.clock.pts):=rfl;have cKT11:RF.ev (.cell 11) [KT k]=some (sl I1 k.brk.places):=rfl;have cKT12:RF.ev (.cell 12) [KT k]=some (sl I1 k.brk.wins):=rfl;have wp:IntKind.i64.wrap ((k.brk.places.length:Int)-1)=(k.brk.places.length:Int)-1:=cz (by omega) (by omega);refine an ⟨1001,?_⟩;unfold k78;simp only[au,qo,pKT,vY,cKT11,EV,aj,wp,phi (A3 h64 g1),phi (ab2 g2 g3),gN,aA,ah,aa];by_cases h1:dp k.clock
 rotate_left
 .rw[ac h1];exact no (λh=>h1 h.1)
 rw[ad h1];by_cases h2:iZ k.brk.wins k.brk.places
 rotate_left
 .rw[ac h2];exact no (λh=>h2 h.2.1)
 rw[ad h2];have hF:=h1.2.1;have hl:=hF.1;have hpl:=h2.1.1;have hand:IntKind.i64.wrap (((BitVec.ofInt IntKind.i64.bits (k.brk.places.length:Int)&&& BitVec.ofInt IntKind.i64.bits ((k.brk.places.length:Int)-1)).toNat:Nat):Int)=(((BitVec.ofInt 64 (k.brk.places.length:Int)&&& BitVec.ofInt 64 ((k.brk.places.length:Int)-1)).toNat:Nat):Int):=by
  show IntKind.i64.wrap (((BitVec.ofInt 64 (k.brk.places.length:Int)&&& BitVec.ofInt 64 ((k.brk.places.length:Int)-1)).toNat:Nat):Int)=_
  have:(BitVec.ofInt 64 (k.brk.places.length:Int)&&& BitVec.ofInt 64 ((k.brk.places.length:Int)-1)).toNat<=k.brk.places.length:=by
   rw[BitVec.toNat_and];refine bD Nat.and_le_left ?_;rw[nz];omega
  exact cz (by omega) (by omega)
 have hsz:=Qp k.brk.places.length (by omega) (by omega);rw[hand];generalize (BitVec.ofInt 64 (k.brk.places.length:Int)&&& BitVec.ofInt 64 ((k.brk.places.length:Int)-1)).toNat=z at hsz;by_cases h3:z=0
 rotate_left
 .rw[ad (by omega)];exact no (λh=>h3 (hsz.2 h.2.2.1))
 rw[ac (by omega)];have h3:=hsz.1 h3;have hfl:=ru (λx=>decide (0<=x)) k.brk.places;have hsl:(wT (k.brk.places.filter λx=>decide (0<=x))).length=(k.brk.places.filter λx=>decide (0<=x)).length:=lg ..;have hsame:=M6 (l:=k.clock.pts) (pl:=k.brk.places) hF h2.1.2.1 (λx hx=>(h2.1.2.2 x hx).1);generalize hS:wT (k.brk.places.filter λx=>decide (0<=x))=S at hsl hsame;have hs160:=phi (acd (l:=k.brk.places.filter λx=>decide (0<=x)) (by omega));rw[hS] at hs160;generalize hfe:(k.brk.places.filter λx=>decide (0<=x))=fl at hsl hsame hs160 hfl hS;have ho:=h2.1.2.1;have hmm:k.brk.wins.length=k.brk.places.length-1:=by have:=h2.1.1.2.2;omega
 have hwl:=fP (won:=wonI k.clock.now k.clock.pts) (places:=k.brk.places) (m:=k.brk.places.length-1) (k.brk.places.length-1);have hfine:=Ae (won:=wonI k.clock.now k.clock.pts) (places:=k.brk.places) (v:=k.brk.wins) hmm;obtain⟨w,hw⟩:∃w,w=playD (wonI k.clock.now k.clock.pts) k.brk.places (k.brk.places.length-1) (k.brk.places.length-1):=⟨_,rfl⟩;have t123:(∀x∈k.brk.places,dP k.clock.pts x)->PhiS D 182 [F k.clock.pts,R k.clock.now,sl I1 k.brk.places]=some [BR ⟨k.brk.places,w⟩,sl cv (edsB w k.brk.places w.length)]/\ True:=λhv=>⟨phi (SE hF h64.1 h1.1 hpl.1 hpl.2.1 hv ho hw),trivial⟩;rw[<-hw] at hwl hfine;have cB1:RF.ev (.cell 1) [BR ⟨k.brk.places,w⟩]=some (sl I1 w):=rfl;have tOk:(∀x∈k.brk.places,dP k.clock.pts x)->fl.length=k.clock.pts.length->w=k.brk.wins->decide (fg k)=decide (JustP k.clock (edsB w k.brk.places w.length)):=λhv hlen5 h6=>by
  have h6':=hfine.1 h6;have hJ:=ti (c:=k.clock) h1.2.2.1 (rM (b:=k.brk) hF h2 hv h6' _ (aD _)) (λe he=>(oc (b:=k.brk) hF h2 hv h6' he).2.2);rw[h6,dE,aa,aa];exact⟨λh=>hJ.2 h.2.2.2.2.2.2,λh=>⟨h1,h2,h3,hv,by rw[hfe];exact hlen5,h6',hJ.1 h⟩⟩
 have cKT2':RF.ev (.cell 0) [F k.clock.pts]=some (sl row k.clock.pts):=rfl;simp only[au,cKT11,phi (iB (l:=k.brk.places) (by omega)),EV,aj];refine(b9 (m:=1001) (l:=k.brk.places) (p:=λx=>!decide (x<0)) (st:=λi=>[.i64 (i:Int)]) (r:=some [.i64 (okE (decide (fg k)))]) (fin:=some [.i64 (okE (decide (fg k)))]) (λi a self ha hp=>?_) (λhall self=>?_) (by omega)).trans ?_
 .have hi:=aK ha;unfold Cj;simp only[EV,aa,bc hi,ixM hi,aL ha,cj,up1 (show i<1000000000 by omega)]
  by_cases c:a<0
  rotate_left
  .rw[ac c,ad (by simp;omega)]
  .rw[ad c,ac (show¬(i:Int)= -1 by omega),ac (by simp[c])]
   have hend:=Bi ha c hp (k.brk.places.length-(i+1)) (by omega);refine(dG (m:=1001) (n:=k.brk.places.length-(i+1)) (st:=λt=>[sl I1 (cpt k.brk.places i t).1,.i64 ((cpt k.brk.places i t).2:Int),.i64 ((i+1+t:Nat):Int)]) (fin:=some [.i64 (okE (decide (fg k)))]) (λt self ht=>?_) (λself=>?_) (by omega))
   .obtain⟨q1,q2,_,q4⟩:=Bi ha c hp t (by omega);have hx:=eA (l:=k.brk.places) (i:=i+1+t) (by omega);have hy:=q4 (i+1+t) (aD _);rw[hx] at hy;have hz:cpt k.brk.places i (t+1)=if 0<=nthI k.brk.places (i+1+t) then((cpt k.brk.places i t).1.set (cpt k.brk.places i t).2 (nthI k.brk.places (i+1+t)),(cpt k.brk.places i t).2+1) else cpt k.brk.places i t:=rfl
    rw[hz];generalize cpt k.brk.places i t=s at q1 q2 hy;generalize nthI k.brk.places (i+1+t)=x at hy;unfold Ci;simp only[EV,aa,bc (show i+1+t<k.brk.places.length by omega),ixM (show i+1+t<k.brk.places.length by omega),aL hy,cj,ixM (show s.2<k.brk.places.length by omega),gt (l:=s.1) (i:=s.2) (by omega),up1 (show s.2<1000000000 by omega),JQ,up1 (show i+1+t<1000000000 by omega)]
    by_cases c0:x<0
    .rw[ac (by simp[c0]),ac (by omega)];rfl
    .rw[ad (by simp[c0]),ad (by omega)];rfl
   .rw[show i+1+(k.brk.places.length-(i+1))=k.brk.places.length by omega,gA,hfe] at hend
    rw[show i+1+(k.brk.places.length-(i+1))=k.brk.places.length by omega]
    generalize cpt k.brk.places i (k.brk.places.length-(i+1))=s at hend;obtain⟨L,n⟩:=s;obtain⟨q1,q2,q3,q4⟩:=hend;simp only at q1 q2 q3;have hn:n=fl.length:=by rw[<-q3,aM];omega
    subst hn;have cl:=ace (L:=L) (a:=fl.length) (n:=k.brk.places.length-fl.length) (by omega);rw[q3] at cl;have bn:RF.ev .bnd [.v (.int .i64 (fl.length:Int)),.v (.int .i64 (k.brk.places.length:Int))]=some (.i64 (fl.length:Int)):=by rw[qf,ad ⟨by omega,by omega⟩]
    have dd:(k.brk.places.length:Int)-(fl.length:Int)=((k.brk.places.length-fl.length:Nat):Int):=by omega
    have ap:=SH (L:=fl++List.replicate (k.brk.places.length-fl.length) 0) (S:=S) (by rw[aE];omega);unfold Ci;simp only[EV,aa,ac (show¬((k.brk.places.length:Nat):Int)<((k.brk.places.length:Nat):Int) by omega),JP,bn,Int.zero_add,dd,cl,acf,au,hs160,ap,cKT2,aj,aA,ah,aV,ay]
    by_cases h5:fl.length=k.clock.pts.length
    rotate_left
    .rw[ad (by omega)];exact no (λh=>h5 (by have:=h.2.2.2.2.1;rw[hfe] at this;exact this))
    rw[ac (by omega)];have hzl:(S.zip k.clock.pts).length=fl.length:=by rw[lX];omega
    refine(b9 (m:=1001) (l:=S.zip k.clock.pts) (p:=λx=>decide (x.1=x.2.id)) (st:=λi=>[.i64 (i:Int)]) (r:=some [.i64 8]) (fin:=some [.i64 (okE (decide (fg k)))]) (λi x self hx _=>?_) (λhall self=>?_) (by omega)).trans ?_
    .obtain⟨hp,hq⟩:=fW hx;have hp':(S++(fl++List.replicate (k.brk.places.length-fl.length) 0).drop S.length)[i]?=some x.1:=by rw[aH (aK hp)];exact hp
     have hi:=aK hx;unfold Ch;simp only[au,cKT2,EV,aj,aa,bc (show i<fl.length by omega),ixM (show i<fl.length by omega),aL hp',aO hq (bL _),aL hq,cj,eU,fK,up1 (show i<1000000000 by omega),aA,ah]
     by_cases e:x.1=x.2.id
     .rw[ac (by simp[e]),ad e]
     .rw[ad e,ac e];rfl
    .rw[hzl];have h4:S=k.clock.pts.map Pt.id:=FR (by omega) hall;obtain⟨hv,hlen5⟩:=hsame.1 h4;obtain⟨e123,hmm⟩:=t123 hv;unfold Ch;simp only[EV,aa,aj,ac (show¬((fl.length:Nat):Int)<((fl.length:Nat):Int) by omega),ac (show¬((fl.length:Nat):Int)<((fl.length:Nat):Int) by omega),JO,aJ,aw,ax,au,pKT2,pKT0,cKT11,cKT12,e123,iY,cB1,phi (GJ (l:=w) (k:=k.brk.wins) (by omega)),aA,ah]
     by_cases h6:w=k.brk.wins
     rotate_left
     .rw[ad h6];exact no (λh=>h6 (hfine.2 h.2.2.2.2.2.1))
     rw[ac (by simp[h6])];have hd:=tOk hv hlen5 h6;rw[hd];have hEl:(edsB w k.brk.places w.length).length<=w.length:=kC ..;generalize edsB w k.brk.places w.length=E at hEl;have cc:=fN g1;simp only[au,pKT,eS,EV,aj];by_cases c1:E.length=k.clock.certs.list.length
     .rw[ad (aq (by omega))];refine(b9 (m:=1001) (l:=k.clock.certs.list) (p:=λh=>decide (h.cert∈E)) (st:=λi=>[.i64 (i:Int)]) (r:=some [.i64 8]) (fin:=some [.i64 0]) (λi a self ha _=>?_) (λ_ self=>?_) (by omega)).trans ?_
      .unfold Cg;simp only[au,eS,aO ha (eV _),aL ha,jn,pHP,phi (yD (l:=E) a.cert (by omega)),EV,aj,aa,bc (aK ha),up1 (show i<1000000000 by have:=aK ha;omega),aA,ah]
       by_cases c2:a.cert∈E
       .rw[ac (by simp[c2]),ad c2]
       .rw[ad c2,ac c2];unfold xk;simp only[EV];rfl
      .unfold Cg JN xk;simp only[EV,aa,bw];rfl
      .have:(k.clock.certs.list.all λh=>decide (h.cert∈E))=decide (JustP k.clock E):=by
        rw[dE,aa];unfold JustP;simp[c1]
       rw[this];cases decide (JustP k.clock E)<;>rfl
     .rw[ac (by simp;omega),show decide (JustP k.clock E)=false from ai (λh=>c1 h.1)]
      unfold xk;simp only[EV];rfl
    .by_cases hT:fg k
     .rw[ad (Bh (hsame.2 ⟨hT.2.2.2.1,by have:=hT.2.2.2.2.1;rw[hfe] at this;exact this⟩))]
     .split
      .rfl
      .exact no hT
 .have hall':fl=k.brk.places:=by
   rw[<-hfe];exact sU.2 λx hx=>by
    have:=aQ.1 hall x hx;simp at this|-;omega
  have ap:=SH (L:=k.brk.places) (S:=S) (by omega);have hsu:RF.ev .sub [sl I1 k.brk.places,.v (.int .i64 0),.v (.int .i64 (k.brk.places.length:Int))]=some (sl I1 fl):=by rw[hall'];exact bm
  unfold Cj;simp only[EV,aa,bw,JM,cI,ay,hsu,au,hs160,ap,cKT2,aj,aA,ah,aV];have hpl':k.brk.places.length=fl.length:=by rw[hall']
  rw[hpl'];by_cases h5:fl.length=k.clock.pts.length
  rotate_left
  .rw[ad (by omega)];exact no (λh=>h5 (by have:=h.2.2.2.2.1;rw[hfe] at this;exact this))
  rw[ac (by omega)];have hzl:(S.zip k.clock.pts).length=fl.length:=by rw[lX];omega
  refine(b9 (m:=1001) (l:=S.zip k.clock.pts) (p:=λx=>decide (x.1=x.2.id)) (st:=λi=>[.i64 (i:Int)]) (r:=some [.i64 8]) (fin:=some [.i64 (okE (decide (fg k)))]) (λi x self hx _=>?_) (λhall self=>?_) (by omega)).trans ?_
  .obtain⟨hp,hq⟩:=fW hx;have hp':(S++k.brk.places.drop S.length)[i]?=some x.1:=by rw[aH (aK hp)];exact hp
   have hi:=aK hx;unfold Cf;simp only[au,cKT2,EV,aj,aa,bc (show i<fl.length by omega),ixM (show i<fl.length by omega),aL hp',aO hq (bL _),aL hq,cj,eU,fK,up1 (show i<1000000000 by omega),aA,ah]
   by_cases e:x.1=x.2.id
   .rw[ac (by simp[e]),ad e]
   .rw[ad e,ac e];rfl
  .rw[hzl];have h4:S=k.clock.pts.map Pt.id:=FR (by omega) hall;obtain⟨hv,hlen5⟩:=hsame.1 h4;obtain⟨e123,hmm⟩:=t123 hv;unfold Cf;simp only[EV,aa,aj,ac (show¬((fl.length:Nat):Int)<((fl.length:Nat):Int) by omega),ac (show¬((fl.length:Nat):Int)<((fl.length:Nat):Int) by omega),PH,aJ,aw,ax,au,pKT2,pKT0,cKT11,cKT12,e123,iY,cB1,phi (GJ (l:=w) (k:=k.brk.wins) (by omega)),aA,ah]
   by_cases h6:w=k.brk.wins
   rotate_left
   .rw[ad h6];exact no (λh=>h6 (hfine.2 h.2.2.2.2.2.1))
   rw[ac (by simp[h6])];have hd:=tOk hv hlen5 h6;rw[hd];have hEl:(edsB w k.brk.places w.length).length<=w.length:=kC ..;generalize edsB w k.brk.places w.length=E at hEl;have cc:=fN g1;simp only[au,pKT,eS,EV,aj];by_cases c1:E.length=k.clock.certs.list.length
   .rw[ad (aq (by omega))];refine(b9 (m:=1001) (l:=k.clock.certs.list) (p:=λh=>decide (h.cert∈E)) (st:=λi=>[.i64 (i:Int)]) (r:=some [.i64 8]) (fin:=some [.i64 0]) (λi a self ha _=>?_) (λ_ self=>?_) (by omega)).trans ?_
    .unfold Ho;simp only[au,eS,aO ha (eV _),aL ha,jn,pHP,phi (yD (l:=E) a.cert (by omega)),EV,aj,aa,bc (aK ha),up1 (show i<1000000000 by have:=aK ha;omega),aA,ah]
     by_cases c2:a.cert∈E
     .rw[ac (by simp[c2]),ad c2]
     .rw[ad c2,ac c2];unfold Aw;simp only[EV];rfl
    .unfold Ho PG Aw;simp only[EV,aa,bw];rfl
    .have:(k.clock.certs.list.all λh=>decide (h.cert∈E))=decide (JustP k.clock E):=by
      rw[dE,aa];unfold JustP;simp[c1]
     rw[this];cases decide (JustP k.clock E)<;>rfl
   .rw[ac (by simp;omega),show decide (JustP k.clock E)=false from ai (λh=>c1 h.1)]
    unfold Aw;simp only[EV];rfl
  .by_cases hT:fg k
   .rw[ad (Bh (hsame.2 ⟨hT.2.2.2.1,by have:=hT.2.2.2.2.1;rw[hfe] at this;exact this⟩))]
   .split
    .rfl
    .exact no hT
 .split<;>rfl
def zC:Clock:=⟨⟨0,0⟩,[],⟨0,[]⟩,⟨⟨[],[],[]⟩,[],[]⟩,[]⟩
def zKH:KHeap:=⟨zC,[]⟩
def zKT:KTourn:=⟨zC,⟨[],[]⟩⟩
def zHT:Heater:=⟨zC,⟨0,[]⟩⟩
def ZN {l:List Pt}(h:gF l=false):l.length<=70:=by
 unfold gF at h
 grind
def c76 {c:Clock}(hg:gCl c=false):Ans D 137 [CL c] [.bool (decide (c=zC))]:=by
 unfold gCl gAg gSl at hg;simp only[cg,ah] at hg;obtain⟨⟨⟨g1,g2⟩,g3⟩,⟨⟨⟨g4,g5⟩,g6⟩,g7⟩,g8⟩:=hg;have g3:=ZN g3;have pS:RF.ev (.part 5 3) [CL c]=some (SL c.agenda.slots):=rfl;have c3:RF.ev (.cell 3) [CL c]=some (.i64 c.certs.next):=rfl;have sAG:RF.ev (.shape 5) [AG c.agenda]=some (AG c.agenda):=rfl;have sSL:RF.ev (.shape 3) [SL c.agenda.slots]=some (SL c.agenda.slots):=rfl;have a2:RF.ev .agg [.v (.int .i64 0),.v (.int .i64 0)]=some (R ⟨0,0⟩):=rfl;refine am ?_;unfold k76;have w:∀a b:Nat,a<=10000->b<=10000->IntKind.i64.wrap ((a:Int)+(b:Int))=((a+b:Nat):Int):=λa b ha hb=>by rw[cz (by omega) (by omega)];omega
 simp only[au,cV,mb,pS,sAG,sSL,eR,c3,jW,eS,dw,eW,ky,iw,jV,iy,a2,AY,EV,aj,PD,aa];rw[w _ _ (by omega) (by omega),w _ _ (by omega) (by omega),w _ _ (by omega) (by omega),w _ _ (by omega) (by omega),w _ _ (by omega) (by omega),w _ _ (by omega) (by omega),w _ _ (by omega) (by omega)];obtain⟨n,p,⟨nx,cl⟩,⟨⟨u,ud,f⟩,hp,wh⟩,d⟩:=c;simp only at*;by_cases e1:n=⟨0,0⟩
 .by_cases e2:nx=0
  .rw[ad e1,ad e2]
   congr 4
   refine bU.2 ?_;subst e1;subst e2;unfold zC;simp only[Clock.mk.injEq,Certs.mk.injEq,Agenda.mk.injEq,Slots.mk.injEq,dT,<-c8];omega
  .rw[ad e1,ac e2,ai (λh=>e2 (by cases h;rfl))]
 .rw[ac e1,ai (λh=>e1 (by cases h;rfl))]
def ed (c:Choice):Clock:=if c.tag=1 then c.heap.clock else if c.tag=2 then c.tourn.clock else if c.tag=3 then c.heater.clock else c.hanger.clock
section
variable (c:Choice)
def pK1:RF.ev (.part 1 11) [CHO c]=some (CL c.heap.clock):=rfl
def pK2:RF.ev (.part 13 11) [CHO c]=some (CL c.tourn.clock):=rfl
def pK3:RF.ev (.part 26 11) [CHO c]=some (CL c.heater.clock):=rfl
def pK4:RF.ev (.part 39 11) [CHO c]=some (CL c.hanger.clock):=rfl
def acg:RF.ev (.cell 12) [CHO c]=some (sl I1 c.heap.heap):=rfl
def ach:RF.ev (.cell 24) [CHO c]=some (sl I1 c.tourn.brk.places):=rfl
def aci:RF.ev (.cell 25) [CHO c]=some (sl I1 c.tourn.brk.wins):=rfl
def acj:RF.ev (.cell 37) [CHO c]=some (.i64 c.heater.tree.root):=rfl
def ack:RF.ev (.cell 38) [CHO c]=some (sl cL c.heater.tree.nodes):=rfl
def acl:RF.ev (.cell 50) [CHO c]=some (sl I1 c.hanger.heap):=rfl
end
def u8E (a b:Int):RF.ev (.bin .eql) [.v (.int .u8 a),.v (.int .u8 b)]=some (.v (.bool (decide (a=b)))):=rfl
def d66 (c:Choice):∃N,den (PhiS D) N k66 [] [CHO c]=some [CL (ed c)]:=by
 refine⟨1,?_⟩;unfold k66 ed;simp[eG,cCH,pK1,pK2,pK3,pK4,EV]
 grind
def c66 (c:Choice):Ans D 86 [CHO c] [CL (ed c)]:=an (d66 c)
def c13 (c:Choice):Ans D 25 [CHO c] [CL (ed c)]:=an (d66 c)
def pX (c:Choice):Prop:=(c.tag≠1->c.heap=zKH)/\(c.tag≠2->c.tourn=zKT)/\(c.tag≠3->c.heater=zHT)/\(c.tag≠4->c.hanger=zKH)
def ei (c:Choice):Prop:=if c.tag=1 then iM c.heap else if c.tag=2 then fg c.tourn else if c.tag=3 then ke c.heater else if c.tag=4 then kb c.hanger else False
def jM (c:Choice):Prop:=pX c/\ ei c/\ dl (ed c).now=0
structure Cho64 (c:Choice):Prop where
 tag:0<=c.tag/\ c.tag<=255
 h1:fw c.heap.clock
 h2:fw c.tourn.clock
 h3:fw c.heater.clock
 h4:fw c.hanger.clock
def tv {c:Choice}(h:Cho64 c):fw (ed c):=by
 unfold ed;split
 .exact h.h1
 split
 .exact h.h2
 split
 .exact h.h3
 .exact h.h4
def uN {c:Choice}(h:gCh c=false):gKh c.heap=false/\ gKt c.tourn=false/\ gHt c.heater=false/\ gKh c.hanger=false:=by
 unfold gCh at h
 grind
def pY (b:Bool)(e:Int):Int:=if b=false then 8 else if e≠0 then 8 else 0
open Classical in
def Bj {c:Choice}(ha:pX c):pY (decide (ei c)) (dl (ed c).now)=okE (decide (jM c)):=by
 unfold pY;by_cases h1:ei c
 .rw[aq h1,ac (by simp)];by_cases h2:dl (ed c).now=0
  .rw[ac (λg=>g h2),aq (show jM c from⟨ha,h1,h2⟩)];rfl
  .rw[ad h2,ai (λh=>h2 h.2.2)];rfl
 .rw[ai h1,ad rfl,ai (λh=>h1 h.2.1)];rfl
def usedB (c:Choice):Nat->Bool
 |0=>!decide (c.heap=zKH)
 |1=>!decide (c.tourn=zKT)
 |2=>!decide (c.heater=zHT)
 |_=>!decide (c.hanger=zKH)
def zG {c:Choice}(ht:0<=c.tag/\ c.tag<=255):(∀i:Nat,i<4->¬(usedB c i=true/\((i+1:Nat):Int)≠c.tag))↔pX c:=by
 unfold pX;constructor
 .intro h;have h0:=h 0 (by omega);have h1:=h 1 (by omega);have h2:=h 2 (by omega);have h3:=h 3 (by omega);simp[usedB] at h0 h1 h2 h3
  grind
 .rintro⟨h0,h1,h2,h3⟩ i hi ⟨hu,hne⟩
  match i,hi with
  |0,_=>simp[usedB] at hu;exact hu (h0 (λe=>hne (by omega)))
  |1,_=>simp[usedB] at hu;exact hu (h1 (λe=>hne (by omega)))
  |2,_=>simp[usedB] at hu;exact hu (h2 (λe=>hne (by omega)))
  |3,_=>simp[usedB] at hu;exact hu (h3 (λe=>hne (by omega)))
open Classical in
def e26 {c:Choice}(h64:Cho64 c)(hg:gCh c=false){e2 e3 e4 e5:PV}:den (PhiS D) 1001 Hf [] [CHO c,CHO c,e2,e3,e4,e5]=some [.i64 (pY (decide (ei c)) (dl (ed c).now))]:=by
 obtain⟨g1,g2,g3,g4⟩:=uN hg;have fin:∀(x:Int) (p:Prop),x=okE (decide p)->(ei c↔p)->den (PhiS D) 1001 He [] [CHO c,CHO c,e2,e3,e4,e5,.v (.int .u8 c.tag),.v (.bool (decide (c.tag=1))),.i64 x]=some [.i64 (pY (decide (ei c)) (dl (ed c).now))]:=λx p hx hp=>by
  subst hx;unfold He pY;simp only[au,EV,gN,aA,ah,phi (c66 c),eR,phi (c44 (tv h64).1)]
  grind
 unfold Hf;simp only[au,cCH,u8E,yr,yu,yw,yx,EV,aa,phi (c77 h64.h1 g1),phi (c78 h64.h2 g2),phi (c79 h64.h3 g3),phi (c80 h64.h4 g4),Px,Py,Pz];by_cases t1:c.tag=1
 .rw[ad t1];exact fin _ _ rfl (by unfold ei;rw[ad t1])
 rw[ac t1];by_cases t2:c.tag=2
 .rw[ad t2];exact fin _ _ rfl (by unfold ei;rw[ac t1,ad t2])
 rw[ac t2];by_cases t3:c.tag=3
 .rw[ad t3];exact fin _ _ rfl (by unfold ei;rw[ac t1,ac t2,ad t3])
 rw[ac t3];by_cases t4:c.tag=4
 .rw[ad t4];exact fin _ _ rfl (by unfold ei;rw[ac t1,ac t2,ac t3,ad t4])
 rw[ac t4];exact fin 8 False (by simp;rfl) (by unfold ei;rw[ac t1,ac t2,ac t3,ac t4])
def agU (a b c d:Bool):RF.ev .agg [.v (.bool a),.v (.bool b),.v (.bool c),.v (.bool d)]=some (.agg [.v (.bool a),.v (.bool b),.v (.bool c),.v (.bool d)]):=rfl
open Classical in
def f26 {c:Choice}(h64:Cho64 c)(hg:gCh c=false){b1 b2 b3 b4:Bool}(h1:b1=usedB c 0)(h2:b2=usedB c 1)(h3:b3=usedB c 2)(h4:b4=usedB c 3):den (PhiS D) 1001 Hh [] [CHO c,CHO c,.v (.bool b1),.v (.bool b2),.v (.bool b3),.v (.bool b4)]=some [.i64 (okE (decide (jM c)))]:=by
 obtain⟨t1,t2⟩:=h64.tag;have wt:IntKind.i64.wrap c.tag=c.tag:=cz (by omega) (by omega);unfold Hh;simp only[EV];refine(ef (m:=1001) (n:=4) (P:=λi=>¬(usedB c i=true/\((i+1:Nat):Int)≠c.tag)) (st:=λi=>[.i64 (i:Int)]) (r:=some [.i64 8]) (fin:=some [.i64 (pY (decide (ei c)) (dl (ed c).now))]) (λi self hi _=>?_) (λ_ self=>?_) (by omega)).trans ?_
 .have hu:RF.ev (.aix 1 4 0) [.agg [.v (.bool b1),.v (.bool b2),.v (.bool b3),.v (.bool b4)],.v (.int .i64 (i:Int))]=some (.v (.bool (usedB c i))):=by
   match i,hi with
   |0,_=>rw[h1];rfl
   |1,_=>rw[h2];rfl
   |2,_=>rw[h3];rfl
   |3,_=>rw[h4];rfl
  have l4:decide ((i:Int)<4)=true:=aq (by omega);unfold Hg;simp only[au,cCH,agU,hu,EV,l4,cI,ay,wt,PA,up1 (show i<1000000000 by omega)]
  cases usedB c i with
  |false=>simp
  |true=>
   by_cases e:((i+1:Nat):Int)=c.tag
   .simp[e]
   .simp[e]
 .unfold Hg;simp only[EV,show decide (((4:Nat):Int)<4)=false from rfl,aw,ax]
  exact e26 h64 hg
 .by_cases ha:pX c
  .rw[ad ((zG ⟨t1,t2⟩).2 ha),Bj ha]
  .rw[ac (λh=>ha ((zG ⟨t1,t2⟩).1 h)),ai (λh:jM c=>ha h.1)];rfl
set_option maxHeartbeats 4000000 in
open Classical in
def c26 {c:Choice}(h64:Cho64 c)(hg:gCh c=false):Ans D 85 [CHO c] [.i64 (okE (decide (jM c)))]:=by
 obtain⟨g1,g2,g3,g4⟩:=uN hg;have z1:=phi (c76 (j9 g1).1);have z2:=phi (c76 (oZ g2).1);have z3:=phi (c76 (tr g3).1);have z4:=phi (c76 (j9 g4).1);have w:∀a b:Nat,a<=10000->b<=10000->IntKind.i64.wrap ((a:Int)+(b:Int))=((a+b:Nat):Int):=λa b ha hb=>by rw[cz (by omega) (by omega)];omega
 have w1:=w c.tourn.brk.places.length c.tourn.brk.wins.length (by have:=oZ g2;omega) (by have:=oZ g2;omega);have p0:∀n:Nat,decide ((0:Int)<(n:Int))=decide (0<n):=λn=>bU.2 (by omega);have u1:(c.heap.clock=zC->decide (0<c.heap.heap.length)=usedB c 0)/\(¬c.heap.clock=zC->true=usedB c 0):=by
  unfold usedB zKH;obtain⟨t,⟨k,l⟩,b,d,e⟩:=c;simp only[KHeap.mk.injEq];refine⟨λh=>?_,λh=>by simp[h]⟩;cases l<;>simp[h]
 have u2:(c.tourn.clock=zC->decide (0<c.tourn.brk.places.length+c.tourn.brk.wins.length)=usedB c 1)/\(¬c.tourn.clock=zC->true=usedB c 1):=by
  unfold usedB zKT;obtain⟨t,b,⟨k,⟨p,l⟩⟩,d,e⟩:=c;simp only[KTourn.mk.injEq,Brk.mk.injEq];refine⟨λh=>?_,λh=>by simp[h]⟩;cases p<;>cases l<;>simp[h]<;>omega
 have u3:(c.heater.clock=zC->c.heater.tree.root=0->decide (0<c.heater.tree.nodes.length)=usedB c 2)/\(¬c.heater.clock=zC->true=usedB c 2)/\(¬c.heater.tree.root=0->true=usedB c 2):=by
  unfold usedB zHT;obtain⟨t,b,d,⟨k,⟨p,l⟩⟩,e⟩:=c;simp only[Heater.mk.injEq,Tree.mk.injEq];refine⟨λh h'=>?_,λh=>by simp[h],λh=>by simp[h]⟩;cases l<;>simp[h,h']
 have u4:(c.hanger.clock=zC->decide (0<c.hanger.heap.length)=usedB c 3)/\(¬c.hanger.clock=zC->true=usedB c 3):=by
  unfold usedB zKH;obtain⟨t,b,d,e,⟨k,l⟩⟩:=c;simp only[KHeap.mk.injEq];refine⟨λh=>?_,λh=>by simp[h]⟩;cases l<;>simp[h]
 refine an ⟨1001,?_⟩;unfold k26;by_cases y1:c.heap.clock=zC<;>by_cases y2:c.tourn.clock=zC<;>by_cases y3:c.heater.clock=zC<;>by_cases y4:c.hanger.clock=zC<;>by_cases y5:c.heater.tree.root=0
 all_goals
  first|rw[aq y1] at z1|rw[ai y1] at z1
  first|rw[aq y2] at z2|rw[ai y2] at z2
  first|rw[aq y3] at z3|rw[ai y3] at z3
  first|rw[aq y4] at z4|rw[ai y4] at z4
  simp only[au,eG,pK1,pK2,pK3,pK4,acg,ach,aci,acj,ack,acl,z1,z2,z3,z4,EV,aj,w1,p0,y5,az,bb,aJ,aV,aw,ay,ax,bh];refine f26 h64 hg ?_ ?_ ?_ ?_
 all_goals first
  |exact u1.1 y1
  |exact u1.2 y1
  |exact u2.1 y2
  |exact u2.2 y2
  |exact u3.1 y3 y5
  |exact u3.2.1 y3
  |exact u3.2.2 y5
  |exact u4.1 y4
  |exact u4.2 y4
open Classical in
def e27 {c:Choice}(h64:Cho64 c)(hg:gCh c=false){b:Bool}(hb:b=decide (¬pX c)):den (PhiS D) 1001 Hb [] [CHO c,CHO c,.v (.bool b)]=some [.i64 (okE (decide (jM c)))]:=by
 obtain⟨g1,g2,g3,g4⟩:=uN hg;unfold Hb;by_cases ha:pX c
 rotate_left
 .rw[hb,aq ha,ai (λh:jM c=>ha h.1)];simp only[EV,ay];rfl
 rw[hb,ai (λh=>h ha),<-Bj ha];have fin:∀(x:Int) (p:Prop),x=okE (decide p)->(ei c↔p)->den (PhiS D) 1001 Ha [] [CHO c,CHO c,.v (.bool false),.v (.int .u8 c.tag),.v (.bool (decide (c.tag=1))),.i64 x]=some [.i64 (pY (decide (ei c)) (dl (ed c).now))]:=λx p hx hp=>by
  subst hx;unfold Ha pY;simp only[au,EV,gN,aA,ah,phi (c13 c),eR,phi (c64 (tv h64).1)];by_cases hp':p
  .rw[aq hp',ad rfl,ac (show¬¬ei c fromλg=>g (hp.2 hp'))]
   by_cases e:dl (ed c).now=0<;>simp[e]
  .rw[ai hp',ac (by simp),ad (λh=>hp' (hp.1 h))]
 simp only[au,cCH,u8E,yr,yu,yw,yx,EV,aw,ax,aa,phi (c81 h64.h1 g1),phi (c82 h64.h2 g2),phi (c83 h64.h3 g3),phi (c84 h64.h4 g4),Pk,Pl,Pm];by_cases t1:c.tag=1
 .rw[ad t1];exact fin _ _ rfl (by unfold ei;rw[ad t1])
 rw[ac t1];by_cases t2:c.tag=2
 .rw[ad t2];exact fin _ _ rfl (by unfold ei;rw[ac t1,ad t2])
 rw[ac t2];by_cases t3:c.tag=3
 .rw[ad t3];exact fin _ _ rfl (by unfold ei;rw[ac t1,ac t2,ad t3])
 rw[ac t3];by_cases t4:c.tag=4
 .rw[ad t4];exact fin _ _ rfl (by unfold ei;rw[ac t1,ac t2,ac t3,ad t4])
 rw[ac t4];exact fin 8 False (by simp;rfl) (by unfold ei;rw[ac t1,ac t2,ac t3,ac t4])
def u8N (a b:Int):RF.ev (.bin .neq) [.v (.int .u8 a),.v (.int .u8 b)]=some (.v (.bool (!decide (a=b)))):=rfl
set_option maxHeartbeats 4000000 in
open Classical in
def c27 {c:Choice}(h64:Cho64 c)(hg:gCh c=false):Ans D 46 [CHO c] [.i64 (okE (decide (jM c)))]:=by
 obtain⟨g1,g2,g3,g4⟩:=uN hg;have z1:=phi (c51 (t:=zKH) g1);have z2:=phi (c52 (t:=zKT) g2);have z3:=phi (c53 (t:=zHT) g3);have z4:=phi (c54 (t:=zKH) g4);have a12:RF.ev .agg [.v (.int .i64 0),.v (.int .i64 0),.sl [],.v (.int .i64 0),.sl [],.sl [],.sl [],.sl [],.sl [],.sl [],.sl [],.sl []]=some (KH zKH):=rfl;have a13:RF.ev .agg [.v (.int .i64 0),.v (.int .i64 0),.sl [],.v (.int .i64 0),.sl [],.sl [],.sl [],.sl [],.sl [],.sl [],.sl [],.sl [],.sl []]=some (KT zKT):=rfl;have a14:RF.ev .agg [.v (.int .i64 0),.v (.int .i64 0),.sl [],.v (.int .i64 0),.sl [],.sl [],.sl [],.sl [],.sl [],.sl [],.sl [],.v (.int .i64 0),.sl []]=some (HT zHT):=rfl;refine an ⟨1001,?_⟩;have e:=λb=>e27 h64 hg (b:=b);unfold k27;unfold pX at e;have y0:((c.tag=1/\¬c.tag=2/\¬c.tag=3/\¬c.tag=4)\/(¬c.tag=1/\ c.tag=2/\¬c.tag=3/\¬c.tag=4))\/((¬c.tag=1/\¬c.tag=2/\ c.tag=3/\¬c.tag=4)\/(¬c.tag=1/\¬c.tag=2/\¬c.tag=3/\ c.tag=4))\/(¬c.tag=1/\¬c.tag=2/\¬c.tag=3/\¬c.tag=4):=by omega
 by_cases y1:c.heap=zKH<;>by_cases y2:c.tourn=zKT<;>by_cases y3:c.heater=zHT<;>by_cases y4:c.hanger=zKH<;>rcases y0 with(⟨t1,t2,t3,t4⟩|⟨t1,t2,t3,t4⟩)|(⟨t1,t2,t3,t4⟩|⟨t1,t2,t3,t4⟩)|⟨t1,t2,t3,t4⟩
 all_goals
  first|rw[aq y1] at z1|rw[ai y1] at z1
  first|rw[aq y2] at z2|rw[ai y2] at z2
  first|rw[aq y3] at z3|rw[ai y3] at z3
  first|rw[aq y4] at z4|rw[ai y4] at z4
  simp only[au,eG,cCH,u8N,yr,yu,yw,yx,a12,a13,a14,z1,z2,z3,z4,EV,t1,t2,t3,t4,Int.reduceEq,az,bb,aJ,aV,aw,ay,ax];refine e _ ?_;simp only[y1,y2,y3,y4,t1,t2,t3,t4,Int.reduceEq,ne_eq,cJ,ez,false_implies,true_implies,fG,gC,dT,eP,fV,az,bb]
end Go.Proofs.YtndgdhbpojakpaaGreat
