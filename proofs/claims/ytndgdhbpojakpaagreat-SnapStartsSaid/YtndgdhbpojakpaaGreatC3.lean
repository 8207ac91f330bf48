import Derived.Test.YtndgdhbpojakpaaGreatC2
import Derived.Test.YtndgdhbpojakpaaGreatP1
set_option linter.unusedVariables false
set_option linter.unusedSimpArgs false
set_option linter.defProp false
noncomputable section
namespace Go.Proofs.YtndgdhbpojakpaaGreat
open Go.Sym Bnd
set_option maxRecDepth 100000
def nodC (i:Nat)(n:Nod):Bool:=decide (n.left=(i:Int))||decide (n.right=(i:Int))
def s8 (l:List Nod)(i:Nat):Int:=((l[i]?).map Nod.id).getD 0
def oO {l:List Nod}{i:Nat}{n:Nod}(h:l[i]?=some n):s8 l i=n.id:=by unfold s8;rw[h];rfl
def rz (l:List Nod)(i:Nat):List Crt:=match l.findIdx? (nodC i) with|some k=>[⟨s8 l i,s8 l k⟩]|none=>[]
def edgsT (l:List Nod)(n:Nat):List Crt:=(List.range n).flatMap (rz l)
def nW (l:List Nod)(n:Nat):edgsT l (n+1)=edgsT l n++rz l n:=by
 unfold edgsT;rw[lP,sN];simp
def kJ (l:List Nod):∀n,(edgsT l n).length<=n
 |0=>by simp[edgsT]
 |n+1=>by
  have:=kJ l n;rw[nW,aE];unfold rz;split<;>simp<;>omega
def zY (l:List Nod):Prop:=∀(i k k':Nat) (x x':Nod),l[k]?=some x->nodC i x=true->l[k']?=some x'->nodC i x'=true->k=k'
def Zn (n:Nod):cq 1 0 (c8 n)=some (.i64 n.left):=rfl
def Zo (n:Nod):cq 2 0 (c8 n)=some (.i64 n.right):=rfl
def OC (n:Nod):cq 0 0 (c8 n)=some (.i64 n.id):=rfl
def Mz {l:List Nod}(h:zY l)(i:Nat):(l.filter (nodC i)).map (λn=>(⟨s8 l i,n.id⟩:Crt))=rz l i:=by
 rw[vE (λk k' x x' h1 h2 h3 h4=>h i k k' x x' h1 h2 h3 h4)];unfold rz;cases e:l.findIdx? (nodC i) with
 |none=>rfl
 |some k=>
  obtain⟨hk,_,_⟩:=b8.1 e;have:=ak hk;simp only;rw[this,oO this];rfl
def R9 {x:Tree}(h:zY x.nodes)(hl:x.nodes.length<=1000):Ans D 161 [TR x] [sl ct (edgsT x.nodes x.nodes.length)]:=by
 refine an ⟨1001,?_⟩;unfold U1;simp only[au,ro,EV];have e0:([PV.sl [],.v (.int .i64 0),.v (.int .i64 0)]:List PV)=[sl ct (edgsT x.nodes 0),.i64 ((edgsT x.nodes 0).length:Int),.i64 ((0:Nat):Int)]:=rfl;rw[e0];refine(dF (m:=1001) (n:=x.nodes.length) (st:=λi=>[sl ct (edgsT x.nodes i),.i64 ((edgsT x.nodes i).length:Int),.i64 (i:Int)]) (fin:=some [sl ct (edgsT x.nodes x.nodes.length)]) (λi self hi=>?_) (λself=>?_) (by omega))
 .obtain⟨n,hn⟩:∃n,x.nodes[i]?=some n:=⟨x.nodes[i],ak _⟩;have hel:=kJ x.nodes i;unfold CB;simp only[au,jR,EV,aj,aa,bc hi];have e1:([sl ct (edgsT x.nodes i),PV.i64 ((edgsT x.nodes i).length:Int),.v (.int .i64 0)]:List PV)=[sl ct (edgsT x.nodes i++[]),.i64 ((edgsT x.nodes i++[]).length:Int),.i64 ((0:Nat):Int)]:=by rw[aP];rfl
  rw[e1];refine(g9 (m:=1001) (l:=x.nodes) (g:=λacc m=>if nodC i m=true then acc++[⟨n.id,m.id⟩] else acc) (I:=λk acc=>acc.length<=k) (S:=λacc k=>[sl ct (edgsT x.nodes i++acc),.i64 ((edgsT x.nodes i++acc).length:Int),.i64 (k:Int)]) (fin:=λacc=>self [sl ct (edgsT x.nodes i++acc),.i64 ((edgsT x.nodes i++acc).length:Int),.i64 ((i+1:Nat):Int)]) (x:=[]) (by simp) (λk a acc _ h=>by
   split
   .rw[aE,aS];omega
   .omega) (λk m acc self' hm hI=>?_) (λacc self' hI=>?_) (by omega)).1.trans ?_
  .have hk:=aJ hm;have fin:∀(e14 e15 e16 e17:PV) (b:Bool),b=nodC i m->den (PhiS D) 1001 Cz
     [mj (PhiS D) 1001 xa [] [TR x,TR x],self,mj (PhiS D) 1001 Cw [mj (PhiS D) 1001 xa [] [TR x,TR x],self] [TR x,TR x,sl ct (edgsT x.nodes i),.i64 ((edgsT x.nodes i).length:Int),.i64 (i:Int),sl c8 x.nodes,.v (.int .i64 (x.nodes.length:Int)),.v (.bool (decide ((i:Int)<(x.nodes.length:Int))))],self']
     [TR x,TR x,sl ct (edgsT x.nodes i),.i64 ((edgsT x.nodes i).length:Int),.i64 (i:Int),sl c8 x.nodes,.v (.int .i64 (x.nodes.length:Int)),.v (.bool (decide ((i:Int)<(x.nodes.length:Int)))),sl ct (edgsT x.nodes i++acc),.i64 ((edgsT x.nodes i++acc).length:Int),.i64 (k:Int),sl c8 x.nodes,.v (.int .i64 (x.nodes.length:Int)),.v (.bool (decide ((k:Int)<(x.nodes.length:Int)))),e14,e15,e16,e17,.v (.bool b)]=
     self' [sl ct (edgsT x.nodes i++if nodC i m=true then acc++[⟨n.id,m.id⟩] else acc),.i64 ((edgsT x.nodes i++if nodC i m=true then acc++[⟨n.id,m.id⟩] else acc).length:Int),.i64 ((k+1:Nat):Int)]:=λe14 e15 e16 e17 b hb=>by
    subst hb;unfold Cz;simp only[EV];cases nodC i m with
    |true=>
     have ap:=fI (f:=ct) (l:=edgsT x.nodes i++acc) (k:=[⟨n.id,m.id⟩]) (bytes:=16) (z:=2) (by rw[aE];simp;omega) kg;rw[aX] at ap;simp only[ay,au,jR,aO hn (lb _),aL hn,aO hm (lb _),aL hm,OC,rv,bsC,nU,ap,EV,aj,Cy,up1 (show k<1000000000 by omega)]
    |false=>
     simp only[aw,ax,EV,Cy,up1 (show k<1000000000 by omega)]
   unfold CA;simp only[au,jR,aO hm (lb _),aL hm,Zn,Zo,EV,aj,aa,bc hk];by_cases c1:m.left=(i:Int)
   .rw[ad c1];exact fin _ _ _ _ true (by unfold nodC;rw[aq c1];rfl)
   .rw[ac c1];exact fin _ _ _ _ _ (by unfold nodC;rw[ah c1,Bool.false_or])
  .unfold CA;simp only[au,jR,EV,aj,aa,bo,Cw,up1 (show i<1000000000 by omega)]
  .rw[nW];have:x.nodes.foldl (λacc m=>if nodC i m=true then acc++[(⟨n.id,m.id⟩:Crt)] else acc) []=rz x.nodes i:=by
    rw[<-Mz h i,oO hn];have:∀(l:List Nod) (acc:List Crt),l.foldl (λacc m=>if nodC i m=true then acc++[(⟨n.id,m.id⟩:Crt)] else acc) acc=acc++(l.filter (nodC i)).map (λm=>⟨n.id,m.id⟩):=by
     intro l;induction l with
     |nil=>simp
     |cons a l ih=>
      intro acc;rw[cE,ih,cP];cases nodC i a<;>simp
    rw[this,bV]
   rw[this]
 .unfold CB;simp only[au,jR,EV,aj,aa,bo,xa,bI]
def zd (x:Int×Int):∀(l:List (Int×Int)) (j:Nat) (u:List Int),upArr (l++[x]) j u=upArr [x] (j+l.length) (upArr l j u)
 |[],j,u=>rfl
 |y::l,j,u=>by
  show upArr (l++[x]) (j+1) _=_
  rw[zd x l];show _=upArr [x] (j+(l.length+1)) (upArr l (j+1) _)
  rw[show j+1+l.length=j+(l.length+1) by omega]
def MA (i n:Nat)(h:i<n):(List.replicate i (-1:Int)++List.replicate (n-i) 0).set i (-1)=List.replicate (i+1) (-1)++List.replicate (n-(i+1)) 0:=by
 refine cA λk=>?_
 grind
def jo {l:List Pt}{t:Rt}(h:okF l){k:Nat}{x:Int×Int}(hx:(cmake (ldF t l) l.length).2.2[k]?=some x):∃n,(cart t l).nodes[k]?=some n/\ n.left=x.1/\ n.right=x.2/\∃p,l[k]?=some p/\ n.id=p.id:=by
 have hlen:=(gl (fw (t:=t) h.2.2) l.length (by omega)).len;obtain⟨p,hp⟩:∃p,l[k]?=some p:=⟨l[k]'(by have:=aJ hx;omega),ak _⟩;exact⟨_,iN hp hx,rfl,rfl,p,hp,rfl⟩
def mY {n:Nod}{x:Int×Int}(h1:n.left=x.1)(h2:n.right=x.2)(i:Nat):nodC i n=decide (kA x i):=by
 unfold nodC;rw[h1,h2,dD];simp;exact Iff.rfl
def Im {l:List Pt}{t:Rt}(h:okF l)(i:Nat):(cmake (ldF t l) l.length).2.2.findIdx? (λx=>decide (kA x i))=(cart t l).nodes.findIdx? (nodC i):=by
 have hlen:(cmake (ldF t l) l.length).2.2.length=l.length:=(gl (fw (t:=t) h.2.2) l.length (by omega)).len;have hnl:(cart t l).nodes.length=l.length:=by unfold cart;rw[fx _ _ (by omega)];exact hlen
 cases e:(cart t l).nodes.findIdx? (nodC i) with
 |none=>
  rw[gj] at e|-;intro x hx;obtain⟨k,hk⟩:=aN.1 hx;obtain⟨n,a1,a2,a3,_⟩:=jo h hk;rw[<-mY a2 a3]
  grind
 |some k=>
  rw[b8] at e|-;obtain⟨e1,e2,e3⟩:=e;have hk:=ak (show k<(cmake (ldF t l) l.length).2.2.length by omega)
  refine⟨by omega,?_,λj hj=>?_⟩
  .obtain⟨n,a1,a2,a3,_⟩:=jo h hk;rw[<-mY a2 a3]
   grind
  .have hj':=ak (show j<(cmake (ldF t l) l.length).2.2.length by omega)
   obtain⟨n,a1,a2,a3,_⟩:=jo h hj';rw[<-mY a2 a3];rw[ak (by omega)] at a1;have a1:=i9 a1;rw[<-a1];exact e3 j hj
def Sa {l:List Pt}{t:Rt}(h:okF l)(ht:bg t)(hr:rok t=true)(hone:zY (cart t l).nodes)(hlk:∀x∈(cmake (ldF t l) l.length).2.2,x.1<l.length/\ x.2<l.length):Ans D 185 [F l,R t] [TR (cart t l),sl ct (edgsT (cart t l).nodes l.length)]:=by
 have hl:=h.1;have hlen:(cmake (ldF t l) l.length).2.2.length=l.length:=(gl (fw (t:=t) h.2.2) l.length (by omega)).len;have hnl:(cart t l).nodes.length=l.length:=by unfold cart;rw[fx _ _ (by omega)];exact hlen
 refine an ⟨1001,?_⟩;unfold Vu;have rp:=oI (n:=(cart t l).nodes.length) (by omega);simp only[au,aW,aY,phi (abv h ht hr),ro,jR,EV,aj,rp,aI];have e0:([sl I1 (List.replicate (cart t l).nodes.length 0),.v (.int .i64 0)]:List PV)=[sl I1 (List.replicate 0 (-1)++List.replicate ((cart t l).nodes.length-0) 0),.i64 ((0:Nat):Int)]:=rfl;rw[e0];refine dF (m:=1001) (n:=(cart t l).nodes.length) (st:=λi=>[sl I1 (List.replicate i (-1)++List.replicate ((cart t l).nodes.length-i) 0),.i64 (i:Int)]) (λi self hi=>?_) (λself=>?_) (by omega)
 .unfold yy;simp only[EV,aa,bc hi,ixM hi,gn (l:=List.replicate i (-1)++List.replicate ((cart t l).nodes.length-i) 0) (i:=i) (by simp;omega),MA i _ hi,up1 (show i<1000000000 by omega)]
 unfold yy;simp only[EV,aa,bo,Ke,au,jR,aj,fd,sP,aP];generalize hLK:(cmake (ldF t l) l.length).2.2=lk at*;have e1:([sl I1 (List.replicate (cart t l).nodes.length (-1)),.v (.int .i64 0)]:List PV)=[sl I1 (upArr (lk.take 0) 0 (List.replicate (cart t l).nodes.length (-1))),.i64 ((0:Nat):Int)]:=rfl;rw[e1];refine dF (m:=1001) (n:=(cart t l).nodes.length) (st:=λi=>[sl I1 (upArr (lk.take i) 0 (List.replicate (cart t l).nodes.length (-1))),.i64 (i:Int)]) (λi self hi=>?_) (λself=>?_) (by omega)
 .obtain⟨x,hx⟩:∃x,lk[i]?=some x:=⟨lk[i]'(by omega),ak _⟩;obtain⟨nd,a1,a2,a3,_⟩:=jo (t:=t) h (by rw[hLK];exact hx);obtain⟨b1,b2⟩:=hlk x (aB hx);have hnext:upArr (lk.take (i+1)) 0 (List.replicate (cart t l).nodes.length (-1))=upArr [x] i (upArr (lk.take i) 0 (List.replicate (cart t l).nodes.length (-1))):=by
   rw[cd,hx];show upArr (lk.take i++[x]) 0 _=_
   rw[zd,aM,b7,bm (by omega)]
  have hul:(upArr (lk.take i) 0 (List.replicate (cart t l).nodes.length (-1))).length=(cart t l).nodes.length:=by rw[zN];simp
  rw[hnext];generalize upArr (lk.take i) 0 (List.replicate (cart t l).nodes.length (-1))=u at hul;have pN:RF.ev (.part 1 2) [NP nd]=some (.agg [.i64 x.1,.i64 x.2]):=by rw[<-a2,<-a3];rfl
  unfold CV;simp only[EV,aa,bc hi,au,jR,aO a1 (lb _),aL a1,AI,pN]
  let us:Nat->List Int:=λj=>match j with|0=>u|1=>(if 0<=x.1 then u.set x.1.toNat i else u)|_=>(if 0<=x.2 then(if 0<=x.1 then u.set x.1.toNat i else u).set x.2.toNat i else(if 0<=x.1 then u.set x.1.toNat i else u))
  have hus:∀j,(us j).length=(cart t l).nodes.length:=λj=>by
   match j with
   |0=>exact hul
   |1=>simp only[us];split<;>simp[hul]
   |j+2=>simp only[us];repeat' split
         all_goals simp[hul]
  refine(dF (m:=1001) (n:=2) (st:=λj=>[sl I1 (us j),.i64 (j:Int)]) (fin:=self [sl I1 (us 2),.i64 ((i+1:Nat):Int)]) (λj self' hj=>?_) (λself'=>?_) (by omega)).trans rfl
  .obtain⟨c,hc,haix,hu⟩:∃c:Int,c<l.length/\ RF.ev (.aix 1 2 0) [.agg [.i64 x.1,.i64 x.2],.i64 (j:Int)]=some (.i64 c)/\ us (j+1)=(if 0<=c then(us j).set c.toNat i else us j):=by
    match j,hj with
    |0,_=>exact⟨x.1,b1,rfl,rfl⟩
    |1,_=>exact⟨x.2,b2,rfl,rfl⟩
   unfold CU;have l2:decide ((j:Int)<2)=true:=aq (by omega);simp only[EV,l2,cG,ay,haix,aa,be];rw[hu];by_cases c0:0<=c
   .obtain⟨m,rfl⟩:=qf c0;rw[ad c0,ad c0,aG];simp only[EV,ixM (show m<(cart t l).nodes.length by omega),gn (l:=us j) (i:=m) (by rw[hus];omega),CT,up1 (show j<1000000000 by omega)]
   .rw[ac c0,ac c0];simp only[EV,CT,up1 (show j<1000000000 by omega)]
  .unfold CU;simp only[EV,show decide (((2:Nat):Int)<2)=false from rfl,aw,ax,Kd,up1 (show i<1000000000 by omega)]
 unfold CV;simp only[EV,aa,bo,Kc,au,jR,aj];rw[aZ (by omega)];have hU:∀i,i<(cart t l).nodes.length->(upArr lk 0 (List.replicate (cart t l).nodes.length (-1)))[i]?=match(cart t l).nodes.findIdx? (nodC i) with|some k=>some ((k:Nat):Int)|none=>some (-1):=λi hi=>by
  rw[zO lk 0 _ i (by simpa using hi) ?_,<-hLK,Im h i]
  .cases(cart t l).nodes.findIdx? (nodC i) with
   |none=>simp only;rw[dN,ad hi]
   |some k=>simp only[b7]
  .intro k x hk hc k' x' hk' hc';rw[<-hLK] at hk hk';obtain⟨n,a1,a2,a3,_⟩:=jo h hk;obtain⟨n',b1,b2,b3,_⟩:=jo h hk';exact hone i k k' n n' a1 (by rw[mY a2 a3];exact aq hc) b1 (by rw[mY b2 b3];exact aq hc')
 generalize upArr lk 0 (List.replicate (cart t l).nodes.length (-1))=U at hU;have e2:([PV.sl [],.v (.int .i64 0),.v (.int .i64 0)]:List PV)=[sl ct (edgsT (cart t l).nodes 0),.i64 ((edgsT (cart t l).nodes 0).length:Int),.i64 ((0:Nat):Int)]:=rfl;rw[e2];refine dF (m:=1001) (n:=(cart t l).nodes.length) (st:=λi=>[sl ct (edgsT (cart t l).nodes i),.i64 ((edgsT (cart t l).nodes i).length:Int),.i64 (i:Int)]) (λi self hi=>?_) (λself=>?_) (by omega)
 .obtain⟨n,hn⟩:∃n,(cart t l).nodes[i]?=some n:=⟨(cart t l).nodes[i],ak _⟩;have hel:=kJ (cart t l).nodes i;have hu:=hU i hi;rw[nW];unfold rz;unfold CQ;cases e:(cart t l).nodes.findIdx? (nodC i) with
  |none=>
   rw[e] at hu;simp only[aP];simp only[EV,aa,bc hi,au,jR,aO hn (lb _),aL hn,AI,ixM hi,aL hu,cg,be,Int.reduceNeg,Int.reduceLE,ax,CO,up1 (show i<1000000000 by omega)]
  |some k=>
   rw[e] at hu;obtain⟨hk,_,_⟩:=b8.1 e;have hm:=ak hk;have c0:((0:Int)<=(k:Nat)):=by omega
   have cN:RF.ev (.cell 0) [NP n]=some (.i64 n.id):=rfl;have ap:=fI (f:=ct) (l:=edgsT (cart t l).nodes i) (k:=[⟨n.id,(cart t l).nodes[k].id⟩]) (bytes:=16) (z:=2) (by simp;omega) kg;simp only[EV,aa,bc hi,au,jR,aO hn (lb _),aL hn,AI,ixM hi,aL hu,cg,be,ad c0,aO hm (lb _),aL hm,OC,cN,rv,bsC,nU,ap,aj,CO,up1 (show i<1000000000 by omega),oO hn,oO hm]
 .unfold CQ;simp only[EV,aa,bo,Kb,au,bI,hnl]
def AY {l:List Pt}{t:Rt}(h:okF l)(ht:bg t){N:Nat}{f0:JT}{e0 e1 e2:PV}{b:Nat}(hb:b<=l.length):∀(m i:Nat) (best:Option Nat) (n:Nat),i+m=b->m<n->(∀k,best=some k->k<i)->
  denW (PhiS D) (N+1) tB [f0] [e0,e1,e2,.i64 (b:Int),F l,R t] n [.i64 (lk best),.i64 (i:Int)]=f0 [.i64 (lk (mo (ldF t l) m i best))]
 |0,i,best,n,hi,hn,_=>by
  obtain⟨n,rfl⟩:∃n',n=n'+1:=⟨n-1,by omega⟩;rw[bF];unfold tB mo;simp only[EV,aa];rw[ac (by omega)]
 |m+1,i,best,n,hi,hn,hbest=>by
  obtain⟨n,rfl⟩:∃n',n=n'+1:=⟨n-1,by omega⟩;have hl:=h.1;obtain⟨p,hp⟩:∃p,l[i]?=some p:=⟨l[i]'(by omega),ak _⟩;have ih:=λbest' hb'=>AY h ht (N:=N) (f0:=f0) (e0:=e0) (e1:=e1) (e2:=e2) hb m (i+1) best' n (by omega) (by omega) hb';rw[bF];generalize hkk:tB=kk at ih;subst hkk;unfold tB mo;have u1:=up1 (show i<1000000000 by omega)
  simp[EV];rw[ad (by omega)];cases best with
  |none=>
   have ih:=ih (some i) (λk hk=>by simp at hk;omega);simp only[lk] at ih;simp[EV,DJ,xj,u1];exact ih
  |some q=>
   have hq:q<i:=hbest q rfl;obtain⟨r,hr⟩:∃r,l[q]?=some r:=⟨l[q]'(by omega),ak _⟩;have g0:decide ((q:Int)<0)=false:=ah (by omega);simp[lk,EV,bQ,aO hp (bK _),aL hp,aO hr (bK _),aL hr,eR,phi (yb (ea h hp) (ea h hr) ht),<-yl hp hr,DJ];cases hL:ldF t l i q with
   |true=>
    have ih:=ih (some i) (λk hk=>by simp only[bS] at hk;omega);simp only[lk] at ih;simp only[ay,EV,xj,u1];exact ih
   |false=>
    have ih:=ih (some q) (λk hk=>by simp only[bS] at hk;omega);simp only[lk] at ih;simp only[aw,ax,EV,xj,u1];exact ih
def abw {l:List Pt}{t:Rt}(h:okF l)(ht:bg t){a b:Nat}(hab:a<=b)(hb:b<=l.length):Ans D 341 [F l,R t,.i64 (a:Int),.i64 (b:Int)] [.i64 (lk (so (ldF t l) a b))]:=by
 have hl:=h.1;refine an ⟨1001,?_⟩;unfold XX;simp[aW,aY,EV];refine(AY h ht (N:=1000) hb (b-a) a none 1001 (by omega) (by omega) (by simp)).trans ?_;rfl
def Zp {l:List Nod}{i:Nat}{n:Nod}(h:l[i]?=some n)(r:Int):RF.ev (.set 1) [sl c8 l,.v (.int .i64 (i:Int)),.v (.int .i64 r)]=some (sl c8 (l.set i ⟨n.id,r,n.right⟩)):=by
 rw[xW,ad (by omega),aG,aT,h];exact aR (λx=>some (PV.sl x)) (px (f:=c8) (l:=l) (i:=i) (a:=⟨n.id,r,n.right⟩)).symm
def MB {l:List Pt}{lk:List (Int×Int)}{e:Nat}{p:Pt}{x:Int×Int}{r:Int}(hp:l[e]?=some p)(hx:lk[e]?=some x):(mkN l lk).set e ⟨p.id,r,x.2⟩=mkN l (lk.modify e λx=>(r,x.2)):=by
 refine cA λk=>?_;by_cases hk:k<l.length/\ k<lk.length
 .have h1:=ak hk.1;have h2:=ak hk.2;by_cases e':k=e
  .subst e';rw[bj (by simp[mkN];omega)];rw[iN hp (x:=(r,x.2)) (by rw[fi,hx];rfl)]
  .rw[bx (by omega),iN h1 h2,iN h1 (x:=lk[k]) (by rw[dM _ _ (by omega)];exact h2)]
 .rw[bH (by simp[mkN];omega),bH (by simp[mkN];omega)]
def rA {ld:Nat->Nat->Bool}:∀(f a b:Nat) (l:List (Int×Int)),(grow ld f a b l).1.length=l.length
 |0,_,_,_=>rfl
 |f+1,a,b,l=>by
  unfold grow;split
  .rfl
  .simp[rA f]
def In {ld:Nat->Nat->Bool}{f a b:Nat}{l:List (Int×Int)}(e:so ld a b=none):grow ld (f+1) a b l=(l,-1):=by
 rw[grow];simp[e]
def Io {ld:Nat->Nat->Bool}{f a b i:Nat}{l rl s:List (Int×Int)}{rr sr:Int}(e:so ld a b=some i)(h1:grow ld f a i l=(rl,rr))(h2:grow ld f (i+1) b (rl.modify i λx=>(rr,x.2))=(s,sr)):grow ld (f+1) a b l=(s.modify i λx=>(x.1,sr),(i:Int)):=by
 rw[grow];simp[e,h1,h2]
def abx (l:List Nod):RF.ev .len [sl c8 l]=some (.i64 (l.length:Int)):=by
 rw[PE,aj]
def T0:PV:=TR ⟨0,[]⟩
def cT0:RF.ev (.cell 0) [T0]=some (.i64 0):=rfl
def aby:RF.ev (.shape 2) [T0]=some T0:=rfl
def Sb:RF.ev .agg [.v (.int .i64 0),.sl []]=some T0:=rfl
def MC {l:List Pt}{t:Rt}(h:okF l)(ht:bg t):∀(f a b:Nat) (ks:List (Int×Int)),b-a<f->a<=b->b<=l.length->ks.length=l.length->
  Ans D 285 [F l,R t,T0,.i64 (a:Int),.i64 (b:Int),sl c8 (mkN l ks)] [.i64 (grow (ldF t l) f a b ks).2,sl c8 (mkN l (grow (ldF t l) f a b ks).1)]
 |0,a,b,ks,hf,_,_,_=>by omega
 |f+1,a,b,ks,hf,hab,hb,hk=>by
  have hl:=h.1;have ht1:=E3 (fw (t:=t) h.2.2) hb hab;refine am ?_;unfold W7;simp only[aby,aW,aY,EV,aj,phi (abw h ht hab hb),fx l ks (by omega),hk];cases e:so (ldF t l) a b with
  |none=>
   rw[In e];simp only[lk,EV,DB];rw[ac (by decide)]
  |some i=>
   rw[e] at ht1;rcases ht1 with⟨_,t1⟩|⟨k,t1,t2⟩
   .simp[lk] at t1
   have hik:i=k:=by simp[lk] at t1;omega
   subst hik;obtain⟨t3,t4,_⟩:=t2;have u1:=up1 (show i<1000000000 by omega)
   have hgl:=rA (ld:=ldF t l) f a i ks;have p1:=phi (MC h ht f a i ks (by omega) t3 (by omega) hk);generalize hg1:grow (ldF t l) f a i ks=r at hgl p1;obtain⟨rl,rr⟩:=r;simp only at hgl p1;obtain⟨p,hp⟩:∃p,l[i]?=some p:=⟨l[i]'(by omega),ak _⟩;obtain⟨x,hx⟩:∃x,rl[i]?=some x:=⟨rl[i]'(by omega),ak _⟩;have s1:=Zp (iN hp hx) rr;simp only at s1;rw[MB hp hx] at s1;have hgl1:(rl.modify i λx=>(rr,x.2)).length=l.length:=by rw[db];omega
   have p2:=phi (MC h ht f (i+1) b _ (by omega) (by omega) hb hgl1);have hgl2:=rA (ld:=ldF t l) f (i+1) b (rl.modify i λx=>(rr,x.2));simp only[lk,EV,cT0,Sb,p1,ixM (show i<l.length by omega),s1,u1,p2]
   generalize hg2:grow (ldF t l) f (i+1) b (rl.modify i λx=>(rr,x.2))=s at hgl2 p2;obtain⟨sl',sr⟩:=s;simp only at hgl2;obtain⟨y,hy⟩:∃y,sl'[i]?=some y:=⟨sl'[i]'(by omega),ak _⟩;have s2:=OA (iN hp hy) sr;simp only at s2;rw[FB hp hy] at s2;rw[Io e hg1 hg2];simp only[s2,DB,EV];exact ad (aq (by omega))
def Ip {l:List Pt}{i:Nat}{p:Pt}(hp:l[i]?=some p):mkN l (List.replicate i (0,0))++[⟨p.id,0,0⟩]=mkN l (List.replicate (i+1) (0,0)):=by
 rw[sF];exact ym (x:=(0,0)) (by rw[aI];exact hp)
def abz {l:List Pt}{t:Rt}(h:okF l)(ht:bg t):Ans D 226 [F l,R t] [TR (cart t l)]:=by
 have hl:=h.1;refine an ⟨1001,?_⟩;unfold Wd;simp only[au,aW,aY,EV];have e0:([PV.sl [],.v (.int .i64 0),.v (.int .i64 0)]:List PV)=[sl c8 (mkN l (List.replicate 0 (0,0))),.i64 ((0:Nat):Int),.i64 ((0:Nat):Int)]:=by simp[mkN]
 rw[e0];refine(dF (m:=1001) (n:=l.length) (st:=λi=>[sl c8 (mkN l (List.replicate i (0,0))),.i64 (i:Int),.i64 (i:Int)]) (fin:=some [TR (cart t l)]) (λi self hi=>?_) (λself=>?_) (by omega))
 .obtain⟨p,hp⟩:∃p,l[i]?=some p:=⟨l[i],ak _⟩;have ap:RF.ev (.app 24 3) [sl c8 (mkN l (List.replicate i (0,0))),.v (.int .i64 (i:Int)),sl c8 [⟨p.id,0,0⟩]]=some (sl c8 (mkN l (List.replicate (i+1) (0,0)))):=by
   have:=fI (f:=c8) (l:=mkN l (List.replicate i (0,0))) (k:=[⟨p.id,0,0⟩]) (bytes:=24) (z:=3) (by rw[fx _ _ (by rw[aI];omega),aI];simp;omega) lb;rw[fx _ _ (by rw[aI];omega),aI] at this;rw[this,Ip hp]
  unfold De;simp only[au,bQ,EV,aj,aa,bc hi,aO hp (bK _),aL hp,mG,My,bsN,Gx,ap,abx,fx l (List.replicate (i+1) ((0:Int),(0:Int))) (by rw[aI];omega),aI,up1 (show i<1000000000 by omega)]
 .have p1:=phi (MC h ht (l.length+1) 0 l.length (List.replicate l.length (0,0)) (by omega) (by omega) (aD _) (by rw[aI]));have hgl:=rA (ld:=ldF t l) (l.length+1) 0 l.length (List.replicate l.length (0,0));rw[aI] at hgl;have L:=fw (t:=t) h.2.2;obtain⟨g1,g2,_,g4⟩:=kO L (l.length+1) 0 l.length (List.replicate l.length (0,0)) (by omega) (by rw[aI]) ⟨by omega,aD _,.inl rfl,.inl rfl⟩;have hu:=L4 L (od L) ⟨g1,g2,λk x hx=>g4 k x (by omega) (by have:=aJ hx;omega) hx⟩;have hs:=bI (f:=c8) (l:=mkN l (grow (ldF t l) (l.length+1) 0 l.length (List.replicate l.length (0,0))).1);rw[fx _ _ (by omega),hgl] at hs;unfold De;have ag:RF.ev .agg [.i64 (grow (ldF t l) (l.length+1) 0 l.length (List.replicate l.length (0,0))).2,sl c8 (mkN l (grow (ldF t l) (l.length+1) 0 l.length (List.replicate l.length (0,0))).1)]=some (TR (cart t l)):=by
   rw[<-hu.1,<-hu.2];rfl
  simp only[eF] at p1;simp only[au,bQ,EV,aj,aa,bo,KG,Sb,p1,hs,ag]
def FC {l:List Pt}{t:Rt}(h:okF l):∀x∈(cmake (ldF t l) l.length).2.2,x.1<l.length/\ x.2<l.length:=λx hx=>by
 obtain⟨k,hk⟩:=aN.1 hx;have C:=od (fw (t:=t) h.2.2);obtain⟨a,b,⟨a1,_⟩,⟨b1,b2,_⟩,l1,l2⟩:=C.2.2 k x hk;constructor
 .rcases l1 with⟨_,l1⟩|⟨i,l1,t1,t2,_⟩
  .omega
  .have:=aJ hk;have:=C.2.1;omega
 .rcases l2 with⟨_,l2⟩|⟨i,l2,t1,t2,_⟩<;>omega
def kq {l:List Pt}{t:Rt}(h:okF l):(cart t l).nodes.length=l.length:=by
 unfold cart;have hlen:=(gl (fw (t:=t) h.2.2) l.length (by omega)).len;rw[fx _ _ (by omega)];exact hlen
def rB {l:List Pt}{t:Rt}(h:okF l){i k:Nat}{x:Nod}(hx:(cart t l).nodes[k]?=some x)(hc:nodC i x=true):Below (cmake (ldF t l) l.length).2.2 i k:=by
 have hk:=aJ hx;rw[kq h] at hk;have hlen:=(gl (fw (t:=t) h.2.2) l.length (by omega)).len;obtain⟨y,hy⟩:∃y,(cmake (ldF t l) l.length).2.2[k]?=some y:=⟨_,ak (by omega)⟩;obtain⟨n,a1,a2,a3,_⟩:=jo h hy;refine⟨y,hy,?_⟩;unfold nodC at hc
 grind
def rC {l:List Pt}{t:Rt}(h:okF l):zY (cart t l).nodes:=λi k k' x x' h1 h2 h3 h4=>
 H2 (fw (t:=t) h.2.2) (od (fw (t:=t) h.2.2)) (rB h h1 h2) (rB h h3 h4)
def uC {l:List Pt}{t:Rt}(h:okF l){i:Nat}{p:Pt}(hp:l[i]?=some p):s8 (cart t l).nodes i=p.id:=by
 have hlen:=(gl (fw (t:=t) h.2.2) l.length (by omega)).len;have:=aJ hp;obtain⟨y,hy⟩:∃y,(cmake (ldF t l) l.length).2.2[i]?=some y:=⟨_,ak (by omega)⟩;obtain⟨n,a1,a2,a3,q,hq,e⟩:=jo h hy;rw[oO a1,e,hp.symm.trans hq|>i9]
def ze {l:List Nod}{n:Nat}{e:Crt}(h:e∈edgsT l n):∃i k,i<n/\ l.findIdx? (nodC i)=some k/\ e=⟨s8 l i,s8 l k⟩:=by
 obtain⟨i,hi,he⟩:=List.mem_flatMap.1 h;unfold rz at he
 grind
def jH {l:List Pt}{t:Rt}(h:okF l){e:Crt}(he:e∈edgsT (cart t l).nodes l.length):inF l e.low=true/\ inF l e.high=true/\ leads t (bk l e.high) (bk l e.low)=true:=by
 obtain⟨i,k,hi,hf,rfl⟩:=ze he;obtain⟨hk,hc,_⟩:=b8.1 hf;have hb:=rB h (ak hk) hc;rw[kq h] at hk;have hp:=ak hi;have hq:=ak hk;obtain⟨hl,_⟩:=qq (fw (t:=t) h.2.2) (od (fw (t:=t) h.2.2)) hb;rw[yl hq hp] at hl;rw[uC h hp,uC h hq,kH h hp,kH h hq];exact⟨fj.2 (bh.2 ⟨_,aB hp,rfl⟩),fj.2 (bh.2 ⟨_,aB hq,rfl⟩),hl⟩
def rD {l:List Pt}{t:Rt}(h:okF l):∀n,n<=l.length->(edgsT (cart t l).nodes n).Nodup
 |0,_=>by simp[edgsT]
 |n+1,hn=>by
  rw[nW];have ih:=rD (t:=t) h n (by omega);unfold rz;split
  .rw[eu];refine⟨ih,by simp,λa ha b hb e=>?_⟩;subst e;obtain⟨i,k,hi,hf,e⟩:=ze ha;rw[cB] at hb;rw[e] at hb;simp at hb;have hp:=ak (show i<l.length by omega)
   have hq:=ak (show n<l.length by omega)
   rw[uC h hp,uC h hq] at hb;have:=gN h.2.2 hi hp hq;omega
  .rw[aP];exact ih
def Sc {l:List Pt}{t:Rt}(h:okF l)(ht:bg t):Ans D 160 [F l,R t] [TR (cart t l)]:=by
 refine am ?_;unfold UZ;simp[aW,aY,phi (abz h ht),ro,EV]
def j0 (k:Heater):Prop:=dl k.clock/\ cart k.clock.now k.clock.pts=k.tree/\ JustR k.clock (edgsT (cart k.clock.now k.clock.pts).nodes k.clock.pts.length)
def AZ {k:Heater}(h:gHt k=false):gCl k.clock=false/\ k.tree.nodes.length<=70:=by
 unfold gHt at h
 grind
open Classical in
def c83 {k:Heater}(h64:fu k.clock)(hg:gHt k=false):Ans D 99 [HT k] [.i64 (okE (decide (j0 k)))]:=by
 obtain⟨g1,g2⟩:=AZ hg;have no:∀h:¬j0 k,(some [PV.v (.int .i64 8)]:Option (List PV))=some [.i64 (okE (decide (j0 k)))]:=λh=>by rw[ah h];rfl
 have pHT2:RF.ev (.part 2 1) [HT k]=some (F k.clock.pts):=rfl;have pHT0:RF.ev (.part 0 2) [HT k]=some (R k.clock.now):=rfl;refine an ⟨1001,?_⟩;unfold k83;simp only[au,sW,pHT,EV,phi (AP h64 g1),gJ,aA,ai];by_cases h1:dl k.clock
 .have hF:=h1.2.1;have hl:=hF.1;have hnl:=kq (t:=k.clock.now) hF;rw[aq h1,ad rfl];simp only[au,pHT,pHT2,pHT0,Mp,ro,phi (Sc hF h64.1),phi (RI (s:=cart k.clock.now k.clock.pts) (t:=k.tree) (by omega)),EV,aA,ai];by_cases h2:cart k.clock.now k.clock.pts=k.tree
  .rw[ac (by simp[h2])];have hel:=kJ (cart k.clock.now k.clock.pts).nodes k.clock.pts.length;have e178:=phi (R9 (x:=cart k.clock.now k.clock.pts) (rC hF) (by omega));rw[hnl] at e178;simp only[au,EV,e178,phi (Gu (c:=k.clock) (edges:=edgsT (cart k.clock.now k.clock.pts).nodes k.clock.pts.length) hF h64.1 (by omega) (by have:=fL g1;omega) (λe he=>⟨(jH hF he).1,(jH hF he).2.1⟩)),aA,ai];by_cases h3:JustR k.clock (edgsT (cart k.clock.now k.clock.pts).nodes k.clock.pts.length)
   .rw[ac (by simp[h3]),aq (show j0 k from⟨h1,h2,h3⟩)];rfl
   .rw[ad h3];exact no (λh=>h3 h.2.2)
  .rw[ad h2];exact no (λh=>h2 h.2.1)
 .rw[ah h1,ac (by simp)];exact no (λh=>h1 h.1)
open Classical in
def c79 {k:Heater}(h64:fu k.clock)(hg:gHt k=false):Ans D 140 [HT k] [.i64 (okE (decide (j0 k)))]:=by
 obtain⟨g1,g2⟩:=AZ hg;have no:∀h:¬j0 k,(some [PV.v (.int .i64 8)]:Option (List PV))=some [.i64 (okE (decide (j0 k)))]:=λh=>by rw[ah h];rfl
 have pHT2:RF.ev (.part 2 1) [HT k]=some (F k.clock.pts):=rfl;have pHT0:RF.ev (.part 0 2) [HT k]=some (R k.clock.now):=rfl;have cHT11:RF.ev (.cell 11) [HT k]=some (.i64 k.tree.root):=rfl;have cHT12:RF.ev (.cell 12) [HT k]=some (sl c8 k.tree.nodes):=rfl;have cc:=fL g1;refine an ⟨1001,?_⟩;unfold k79;simp only[au,sW,pHT,EV,phi (AR h64 g1),gJ,aA,ai];by_cases h1:dl k.clock
 .have hF:=h1.2.1;have hl:=hF.1;have hnl:=kq (t:=k.clock.now) hF;have hel:=kJ (cart k.clock.now k.clock.pts).nodes k.clock.pts.length;rw[aq h1,ad rfl];simp only[au,pHT,pHT2,pHT0,cHT11,cHT12,RD,jR,ro,phi (Sa hF h64.1 h1.1 (rC hF) (FC hF)),phi (abk (l:=(cart k.clock.now k.clock.pts).nodes) (k:=k.tree.nodes) (by omega)),EV,aA,ai];have hJ:=sZ (c:=k.clock) h1.2.2.1 (rD (t:=k.clock.now) hF k.clock.pts.length (by omega)) (λe he=>(jH hF he).2.2);by_cases h2:(cart k.clock.now k.clock.pts).root=k.tree.root
  .rw[ac (by simp[h2])];by_cases h3:(cart k.clock.now k.clock.pts).nodes=k.tree.nodes
   .rw[ac (by simp[h3])];have h4:cart k.clock.now k.clock.pts=k.tree:=by
     generalize cart k.clock.now k.clock.pts=a at h2 h3;obtain⟨a,b⟩:=a;simp_all
    have hJ':j0 k↔JustP k.clock (edgsT (cart k.clock.now k.clock.pts).nodes k.clock.pts.length):=⟨λh=>hJ.2 h.2.2,λh=>⟨h1,h4,hJ.1 h⟩⟩;have hd:decide (j0 k)=decide (JustP k.clock (edgsT (cart k.clock.now k.clock.pts).nodes k.clock.pts.length)):=by
     rw[dD,aa,aa];exact hJ'
    rw[hd];clear hd hJ' hJ;generalize edgsT (cart k.clock.now k.clock.pts).nodes k.clock.pts.length=E at hel;simp only[au,eV,EV,aj];by_cases c1:E.length=k.clock.certs.list.length
    .rw[ad (aq (by omega))];refine(b9 (m:=1001) (l:=k.clock.certs.list) (p:=λh=>decide (h.cert∈E)) (st:=λi=>[.i64 (i:Int)]) (r:=some [.i64 8]) (fin:=some [.i64 0]) (λi a self ha _=>?_) (λ_ self=>?_) (by omega)).trans ?_
     .unfold G6;simp only[au,eV,aO ha (eS _),aL ha,ji,pHP,phi (yj (l:=E) a.cert (by omega)),EV,aj,aa,bc (aJ ha),up1 (show i<1000000000 by have:=aJ ha;omega),aA,ai]
      by_cases c2:a.cert∈E
      .rw[ac (by simp[c2]),ad c2]
      .rw[ad c2,ac c2];unfold Ag;simp only[EV];rfl
     .unfold G6 Pj Ag;simp only[EV,aa,bo];rfl
     .have:(k.clock.certs.list.all λh=>decide (h.cert∈E))=decide (JustP k.clock E):=by
       rw[dD,aa];unfold JustP;simp[c1]
      rw[this];cases decide (JustP k.clock E)<;>rfl
    .rw[ac (by simp;omega),show decide (JustP k.clock E)=false from ah (λh=>c1 h.1)]
     unfold Ag;simp only[EV];rfl
   .rw[ad h3];exact no (λh=>h3 (by rw[h.2.1]))
  .rw[ad h2];exact no (λh=>h2 (by rw[h.2.1]))
 .rw[ah h1,ac (by simp)];exact no (λh=>h1 h.1)
def mmX (a b:Int):RF.ev (.mm true) [.v (.int .i64 a),.v (.int .i64 b)]=some (.v (.int .i64 (max a b))):=rfl
def mmN (a b:Int):RF.ev (.mm false) [.v (.int .i64 a),.v (.int .i64 b)]=some (.v (.int .i64 (min a b))):=rfl
def dbl {i:Nat}(h:i<100000000):IntKind.i64.wrap (2*(i:Int))=((2*i:Nat):Int):=by rw[cy (by omega) (by omega)];omega
def up2 {i:Nat}(h:i<1000000000):IntKind.i64.wrap ((i:Int)+2)=((i+2:Nat):Int):=by rw[cy (by omega) (by omega)];rfl
def A0 {i j:Nat}(h:j<=i)(k:i<1000000000):IntKind.i64.wrap ((i:Int)-(j:Int))=((i-j:Nat):Int):=by rw[cy (by omega) (by omega)];omega
def Gz {b:Brk}{i:Nat}(hi:i<b.wins.length+b.places.length)(hb:b.wins.length+b.places.length<=1000):Ans D 273 [BR b,.i64 (i:Int)] [.i64 (nodeV b.wins b.places i)]:=by
 refine am ?_;unfold W1;by_cases h:i<b.wins.length
 .obtain⟨x,hx⟩:∃x,b.wins[i]?=some x:=⟨_,ak h⟩;have w:IntKind.i64.wrap ((i:Int)-(b.wins.length:Int))=(i:Int)-(b.wins.length:Int):=cy (by omega) (by omega);simp only[jQ,ij,EV,aj,w,aa,ac (show¬(0:Int)<=(i:Int)-(b.wins.length:Int) by omega),aO hx (bO _),aL hx,cg,vk hx]
 .obtain⟨x,hx⟩:∃x,b.places[i-b.wins.length]?=some x:=⟨_,ak (by omega)⟩;simp[jQ,ij,oF,EV,A0 (show b.wins.length<=i by omega) (by omega),aO hx (bO _),aL hx,cg,y7 h hx]
def tc {b:Brk}{i:Nat}(hi:i<b.wins.length+b.places.length)(hb:b.wins.length+b.places.length<=1000):Ans D 224 [BR b,.i64 (i:Int)] [.i64 (nodeV b.wins b.places i)]:=by
 refine am ?_;unfold Wb;by_cases h:i<b.wins.length
 .obtain⟨x,hx⟩:∃x,b.wins[i]?=some x:=⟨_,ak h⟩;simp only[jQ,ij,EV,aj,aa,bc h,aO hx (bO _),aL hx,cg,vk hx]
 .obtain⟨x,hx⟩:∃x,b.places[i-b.wins.length]?=some x:=⟨_,ak (by omega)⟩;simp only[jQ,ij,oF,EV,aj,A0 (show b.wins.length<=i by omega) (by omega),aa,ac (show¬(i:Int)<(b.wins.length:Int) by omega),aO hx (bO _),aL hx,cg,y7 h hx]
open Classical in
def abA {l:List Int}(hl:l.length<=1000):Ans D 223 [sl I1 l] [.bool (decide (¬i6 l))]:=by
 refine an ⟨1001,?_⟩;unfold Wa;simp only[EV];refine(ef (m:=1001) (n:=l.length) (P:=λi=>∀x,l[i]?=some x->0<=x->∀j,j<i->l[j]?≠some x) (st:=λi=>[.i64 (i:Int)]) (r:=some [.bool true]) (fin:=some [.bool false]) (λi self hi _=>?_) (λhall self=>?_) (by omega)).trans ?_
 .have hx:=ez hi;generalize nthI l i=x at hx;have hP:(∀x',l[i]?=some x'->0<=x'->∀j,j<i->l[j]?≠some x')↔(0<=x->∀j,j<i->l[j]?≠some x):=
   ⟨λh=>h x hx,λh x' e=>by rw[hx] at e;cases e;exact h⟩
  unfold Dd;simp only[hP,EV,aj,aa,bc hi];refine(ef (m:=1001) (n:=i) (P:=λj=>0<=x->l[j]?≠some x) (st:=λi=>[.i64 (i:Int)]) (r:=some [.bool true]) (fin:=self [.i64 ((i+1:Nat):Int)]) (λj self' hj _=>?_) (λ_ self'=>?_) (by omega)).trans ?_
  .have hy:=ez (l:=l) (i:=j) (by omega);generalize nthI l j=y at hy;unfold Dc;simp only[aO hx (bO _),aL hx,aO hy (bO _),aL hy,cg,EV,aa,bc hj,be,KF,up1 (show j<1000000000 by omega),hy,ne_eq,bS]
   grind
  .unfold Dc;simp only[EV,aa,bo,KE,up1 (show i<1000000000 by omega)]
  .by_cases hq:0<=x->∀j,j<i->l[j]?≠some x
   .rw[ad hq,ad (λj hj h0=>hq h0 j hj)]
   .rw[ac hq,ac (λh=>hq λh0 j hj=>h j hj h0)]
 .unfold Dd;simp only[EV,aj,aa,bo,KD]
 .by_cases h:i6 l
  .rw[ad (show∀i,i<l.length->_ from h),ah (by simpa using h)]
  .rw[ac (show¬∀i,i<l.length->_ from h),aq h]
def Bm (m:List (Int×Bool)):PV:= .sl (m.map λp=>[.i64 p.1]++[.bool p.2])
def kr:List (Int×Bool)->Int->Bool
 |[],_=>false
 |p::m,k=>if p.1=k then p.2 else kr m k
def oP:List (Int×Bool)->Int->Bool->List (Int×Bool)
 |[],k,v=>[(k,v)]
 |p::m,k,v=>if p.1=k then(p.1,v)::m else p::oP m k v
def A1 (k j:Int)(v:Bool):∀m,kr (oP m k v) j=if j=k then v else kr m j
 |[]=>by simp[oP,kr];by_cases h:k=j<;>simp[eq_comm]
 |p::m=>by
  unfold oP;by_cases h:p.1=k
  .rw[ad h];unfold kr;by_cases h2:j=k
   .rw[ad h2,ad (by rw[h,h2])]
   .rw[ac h2,ac (by rw[h];exactλe=>h2 e.symm),ac (by rw[h];exactλe=>h2 e.symm)]
  .rw[ac h];unfold kr;rw[A1 k j v m];by_cases h2:p.1=j
   .rw[ad h2,ad h2,ac (by rw[<-h2];exact h)]
   .rw[ac h2,ac h2]
def A2 (k:Int):∀m:List (Int×Bool),(dh [.i] [.i64 k] (m.map λp=>[.i64 p.1]++[.bool p.2])).map (λo=>o.getD [.bool false])=some [.bool (kr m k)]
 |[]=>by simp[dh,kr,eqN]
 |p::m=>by
  simp only[bN,dh];rw[show List.take [Ck.i].length ([PV.i64 p.fst]++[PV.bool p.snd])=[PV.i64 p.fst] from rfl,show List.drop [Ck.i].length ([PV.i64 p.fst]++[PV.bool p.snd])=[PV.bool p.snd] from rfl,eqN]
  unfold kr;by_cases e:p.1=k
  .rw[aq e,ad e];rfl
  .rw[ah e,ac e];exact A2 k m
def A3 (k:Int)(v:Bool):∀m:List (Int×Bool),gQ [.i] [.i64 k] [.bool v] (m.map λp=>[.i64 p.1]++[.bool p.2])=some ((oP m k v).map λp=>[.i64 p.1]++[.bool p.2])
 |[]=>by simp[gQ,oP,eqN]
 |p::m=>by
  simp only[bN,gQ];rw[show List.take [Ck.i].length ([PV.i64 p.fst]++[PV.bool p.snd])=[PV.i64 p.fst] from rfl,eqN]
  unfold oP;by_cases e:p.1=k
  .rw[aq e,ad e];simp
  .rw[ah e,ac e];simp only;rw[A3 k v m];rfl
def Zq (m:List (Int×Bool))(k:Int):RF.ev (.mget [.i] [.v (.bool false)]) [Bm m,.v (.int .i64 k)]=some (.bool (kr m k)):=by
 have h:=A2 k m;unfold Bm;simp only[RF.ev,show(PV.v (.int .i64 k)).cells=[.i64 k] from rfl]
 cases hg:dh [.i] [.i64 k] (m.map λp=>[.i64 p.1]++[.bool p.2]) with
 |none=>rw[hg] at h;cases h
 |some o=>
  rw[hg] at h;simp at h;cases o with
  |none=>simp only[Option.getD_none] at h;simp[h];rfl
  |some r=>simp at h;subst h;rfl
def OD (m:List (Int×Bool))(k:Int)(v:Bool):RF.ev (.mset [.i] 1) [Bm m,.v (.int .i64 k),.v (.bool v)]=some (Bm (oP m k v)):=by
 have h:=A3 k v m;unfold Bm;simp only[RF.ev,show(PV.v (.int .i64 k)).cells=[.i64 k] from rfl,show(PV.v (.bool v)).cells=[.bool v] from rfl,h]
 rfl
def mAt (l:List Int)(i:Nat):List (Int×Bool):=(l.take i).foldl (λm x=>oP m x (decide (0<=x))) [(-1,false)]
def zf:∀(l:List Int) (m:List (Int×Bool)) (k:Int),kr (l.foldl (λm x=>oP m x (decide (0<=x))) m) k=if k∈l then decide (0<=k) else kr m k
 |[],m,k=>by simp
 |x::l,m,k=>by
  rw[cE,zf l,A1];by_cases h:k∈l
  .simp[h]
  .by_cases e:k=x
   .subst e;simp
   .simp[h,e]
def P3 {l:List Int}{i:Nat}{x:Int}(hx:l[i]?=some x):kr (mAt l i) x=decide (¬∀y,l[i]?=some y->0<=y->∀j,j<i->l[j]?≠some y):=by
 unfold mAt;rw[zf];have e1:(¬∀y,l[i]?=some y->0<=y->∀j,j<i->l[j]?≠some y)↔(x∈l.take i/\ 0<=x):=by
  constructor
  .intro h;simp only[Classical.not_forall,Classical.not_not,not_imp] at h;obtain⟨y,h1,h2,j,h3,h4⟩:=h;rw[hx] at h1;cases h1;exact⟨aN.2 ⟨j,by rw[fQ,ad h3];exact h4⟩,h2⟩
  .rintro⟨h1,h2⟩ h;obtain⟨j,hj⟩:=aN.1 h1
   grind
 rw[show decide (¬∀y,l[i]?=some y->0<=y->∀j,j<i->l[j]?≠some y)=decide (x∈l.take i/\ 0<=x) from bU.2 e1]
 by_cases h:x∈l.take i
 .simp[h]
 .rw[ac h,ah (λe=>h e.1)];unfold kr kr;split<;>rfl
def MD {l:List Int}{i:Nat}{x:Int}(hx:l[i]?=some x):oP (mAt l i) x (decide (0<=x))=mAt l (i+1):=by
 unfold mAt;rw[cd,hx]
 grind
open Classical in
def Sd {l:List Int}(hl:l.length<=1000):Ans D 270 [sl I1 l] [.bool (decide (i6 l))]:=by
 refine an ⟨1001,?_⟩;unfold W0;have e0:RF.ev (.mset [.i] 1) [.sl [],.v (.int .i64 (-1)),.v (.bool false)]=some (Bm (mAt l 0)):=OD [] (-1) false;simp only[e0,EV,aj];refine(ef (m:=1001) (n:=l.length) (P:=λi=>∀x,l[i]?=some x->0<=x->∀j,j<i->l[j]?≠some x) (st:=λi=>[Bm (mAt l i),.i64 (i:Int)]) (r:=some [.bool false]) (fin:=some [.bool true]) (λi self hi _=>?_) (λhall self=>?_) (by omega)).trans ?_
 .have hx:=ez hi;generalize nthI l i=x at hx;unfold DA;simp only[aO hx (bO _),aL hx,cg,EV,aa,bc hi,Zq,P3 hx,be,OD,MD hx,up1 (show i<1000000000 by omega)]
  by_cases hq:∀y,l[i]?=some y->0<=y->∀j,j<i->l[j]?≠some y
  .grind
  .rw[aq hq,ac hq];simp_all
 .unfold DA K8;simp only[EV,aa,bo];rfl
 .by_cases h:i6 l
  .rw[ad (show∀i,i<l.length->_ from h),aq h]
  .rw[ac (show¬∀i,i<l.length->_ from h),ah h]
def wn {b:Brk}{i:Nat}(hi:i<b.wins.length):b.wins[i]?=some (nodeV b.wins b.places i):=by
 obtain⟨x,hx⟩:∃x,b.wins[i]?=some x:=⟨_,ak hi⟩;rw[hx,vk hx]
open Classical in
def abB {b:Brk}(h1:b.places.length<=70)(h2:b.wins.length<=70):Ans D 205 [BR b] [.i64 (okE (decide (iV b.wins b.places)))]:=by
 have no:∀h:¬iV b.wins b.places,(some [PV.v (.int .i64 8)]:Option (List PV))=some [.i64 (okE (decide (iV b.wins b.places)))]:=λh=>by rw[ah h];rfl
 refine an ⟨1001,?_⟩;unfold VW;have wp:IntKind.i64.wrap ((b.places.length:Int)-1)=(b.places.length:Int)-1:=cy (by omega) (by omega);simp only[au,jQ,oF,ij,EV,aj,wp,phi (Sd (l:=b.places) (by omega)),aa,aA,ai];by_cases a1:b.places.length<1
 .rw[ad (by omega)];exact no (λh=>by have:=h.1.1.1;omega)
 rw[ac (by omega)];by_cases a2:64<b.places.length
 .rw[ad (by omega)];exact no (λh=>by have:=h.1.1.2.1;omega)
 rw[ac (by omega)];by_cases a3:b.places.length=b.wins.length+1
 rotate_left
 .rw[ad (by omega)];exact no (λh=>a3 h.1.1.2.2)
 rw[ac (by omega)];by_cases a4:i6 b.places
 rotate_left
 .rw[ad (by simpa using a4)]
  exact no (λh=>a4 h.1.2.1)
 rw[ac (by simpa using a4)]
 refine(b9 (m:=1001) (l:=b.places) (p:=λx=>decide (-1<=x)&& decide (x<=65535)) (st:=λi=>[.i64 (i:Int)]) (r:=some [.i64 8]) (fin:=some [.i64 (okE (decide (iV b.wins b.places)))]) (λi x self hx _=>?_) (λhall self=>?_) (by omega)).trans ?_
 .unfold C8;simp only[au,oF,EV,aa,bc (aJ hx),aO hx (bO _),aL hx,cg];have u1:=up1 (show i<1000000000 by have:=aJ hx;omega)
  have g0:decide ((i:Int)>=0)=true:=aq (by omega);by_cases c1: -1<=x
  .rw[ad (by omega)];by_cases c2:x<=65535
   .simp only[xf,EV,c1,c2,az,aK,aw,ax,u1,sI,ay]
   .simp only[xf,EV,c1,c2,az,bb,aK,aV,aw,ax,ay,g0,ra]
  .rw[ac (by omega)];simp only[xf,EV,c1,bb,aV,aK,ay,g0,mz,aw,ax]
 .have hbase:ow b.wins b.places:=⟨⟨by omega,by omega,a3⟩,a4,λx hx=>by have:=aQ.1 hall x hx;simp at this;omega⟩;unfold C8;simp only[au,ij,EV,aj,aa,bo,Kw,aK,aV,aw,ax,show decide ((-1:Int)>=0)=false from rfl]
  refine(ef (m:=1001) (n:=b.wins.length) (P:=λi=>lJ b.wins b.places i/\¬(nodeV b.wins b.places i<0/\ 0<=max (nodeV b.wins b.places (2*i+1)) (nodeV b.wins b.places (2*i+2)))) (st:=λi=>[.i64 (i:Int)]) (r:=some [.i64 8]) (fin:=some [.i64 0]) (λi self hi _=>?_) (λ_ self=>?_) (by omega)).trans ?_
  .have hx:=wn hi;unfold C7 lJ;simp only[au,ij,EV,aa,bc hi,aO hx (bO _),aL hx,cg,dbl (show i<100000000 by omega),up1 (show 2*i<1000000000 by omega),up2 (show 2*i<1000000000 by omega),phi (Gz (b:=b) (i:=2*i+1) (by omega) (by omega)),phi (Gz (b:=b) (i:=2*i+2) (by omega) (by omega)),mmX,be,Kv,up1 (show i<1000000000 by omega),aA,ai]
   generalize nodeV b.wins b.places i=w;generalize nodeV b.wins b.places (2*i+1)=p;generalize nodeV b.wins b.places (2*i+2)=q;by_cases c1:w=p
   .by_cases c3:w<0
    .by_cases c4:0<=max p q<;>simp[c1,c3,c4]
     all_goals (subst c1;simp[c3,c4]<;>intro h<;>omega)
    .simp[c1,c3];subst c1;simp[c3]
   .by_cases c2:w=q
    .by_cases c3:w<0
     .by_cases c4:0<=max p q<;>simp[c1,c2,c3,c4]
      all_goals (subst c2;simp[c1,c3,c4]<;>intro h<;>omega)
     .simp[c1,c2,c3];subst c2;simp[c1,c3]
    .simp[c1,c2]
  .unfold C7;simp only[EV,aa,bo,Ku]
  .by_cases hr:iV b.wins b.places
   .rw[ad hr.2,aq hr];rfl
   .rw[ac (λh=>hr ⟨hbase,h⟩),ah hr];rfl
 .by_cases hr:iV b.wins b.places
  .rw[ad (by rw[aQ];intro x hx;have:=hr.1.2.2 x hx;simp;omega)]
  .split
   .rfl
   .exact no hr
open Classical in
def abC {b:Brk}(h1:b.places.length<=70)(h2:b.wins.length<=70):Ans D 154 [BR b] [.i64 (okE (decide (iV b.wins b.places)))]:=by
 rw[show decide (iV b.wins b.places)=decide (wv b.wins b.places) from bU.2 Oe]
 have no:∀h:¬wv b.wins b.places,(some [PV.v (.int .i64 8)]:Option (List PV))=some [.i64 (okE (decide (wv b.wins b.places)))]:=λh=>by rw[ah h];rfl
 refine an ⟨1001,?_⟩;unfold UT;have wp:IntKind.i64.wrap ((b.places.length:Int)-1)=(b.places.length:Int)-1:=cy (by omega) (by omega);simp only[au,jQ,oF,ij,EV,aj,wp,phi (abA (l:=b.places) (by omega)),aa,aA,ai];by_cases a1:b.places.length<1
 .rw[ad (by omega)];exact no (λh=>by have:=h.1.1.1;omega)
 rw[ac (by omega)];by_cases a2:64<b.places.length
 .rw[ad (by omega)];exact no (λh=>by have:=h.1.1.2.1;omega)
 rw[ac (by omega)];by_cases a3:b.places.length=b.wins.length+1
 rotate_left
 .rw[ad (by omega)];exact no (λh=>a3 h.1.1.2.2)
 rw[ac (by omega)];by_cases a4:i6 b.places
 rotate_left
 .rw[ad a4];exact no (λh=>a4 h.1.2.1)
 rw[ac (by simpa using a4)]
 refine(b9 (m:=1001) (l:=b.places) (p:=λx=>decide (-1<=x)&& decide (x<=65535)) (st:=λi=>[.i64 (i:Int)]) (r:=some [.i64 8]) (fin:=some [.i64 (okE (decide (wv b.wins b.places)))]) (λi x self hx _=>?_) (λhall self=>?_) (by omega)).trans ?_
 .unfold Co;simp only[au,oF,EV,aa,bc (aJ hx),aO hx (bO _),aL hx,cg,up1 (show i<1000000000 by have:=aJ hx;omega)]
  by_cases c1:x< -1
  .rw[ad c1,ac (by simp;omega)]
  .rw[ac c1];by_cases c2:65535<x
   .rw[ad c2,ac (by simp;omega)]
   .rw[ac c2,ad (by simp;omega)]
 .have hbase:ow b.wins b.places:=⟨⟨by omega,by omega,a3⟩,a4,λx hx=>by have:=aQ.1 hall x hx;simp at this;omega⟩;unfold Co;simp only[EV,aa,bo,JD];refine(ef (m:=1001) (n:=b.wins.length) (P:=λi=>lJ b.wins b.places i/\¬(nodeV b.wins b.places i= -1/\(nodeV b.wins b.places (2*i+1)≠ -1\/nodeV b.wins b.places (2*i+2)≠ -1))) (st:=λi=>[.i64 (i:Int)]) (r:=some [.i64 8]) (fin:=some [.i64 0]) (λi self hi _=>?_) (λ_ self=>?_) (by omega)).trans ?_
  .have hx:=wn hi;unfold Cl lJ;simp only[au,ij,EV,aj,aa,bc hi,aO hx (bO _),aL hx,cg,dbl (show i<100000000 by omega),up1 (show 2*i<1000000000 by omega),up2 (show 2*i<1000000000 by omega),phi (tc (b:=b) (i:=2*i+1) (by omega) (by omega)),phi (tc (b:=b) (i:=2*i+2) (by omega) (by omega)),JC,up1 (show i<1000000000 by omega),aA,ai]
   generalize nodeV b.wins b.places i=w;generalize nodeV b.wins b.places (2*i+1)=p;generalize nodeV b.wins b.places (2*i+2)=q;by_cases c1:w=p
   .by_cases c3:w= -1
    .by_cases c4:p= -1
     .by_cases c5:q= -1<;>simp[c1,c3,c4,c5]
     .omega
    .simp only[c1,c3];subst c1;simp[c3]
   .by_cases c2:w=q
    .by_cases c3:w= -1
     .subst c3;subst c2;simp[c1,Ne.symm c1]
     .subst c2;simp[c1,c3]
    .simp[c1,c2]
  .unfold Cl;simp only[au,ij,EV,aj,aa,bo,JB]
  .by_cases hr:wv b.wins b.places
   .rw[ad hr.2,aq hr];rfl
   .rw[ac (λh=>hr ⟨hbase,h⟩),ah hr];rfl
 .by_cases hr:wv b.wins b.places
  .rw[ad (by rw[aQ];intro x hx;have:=hr.1.2.2 x hx;simp;omega)]
  .split
   .rfl
   .exact no hr
def dO (l:List Pt)(x:Int):Prop:=x= -1\/inF l x=true
def wonI (t:Rt)(l:List Pt)(a b:Int):Int:=if a<0 then b else if b<0 then a else if leads t (bk l a) (bk l b)=true then a else b
def vR {t:Rt}{l:List Pt}(a b:Int)(ha:dO l a)(hb:dO l b):dO l (wonI t l a b):=by
 unfold wonI;split
 .exact hb
 .grind
def valK_in {l:List Pt}(h:okF l){x:Int}(hv:dO l x):x= -1\/∃(i:Nat) (p:Pt),l[i]?=some p/\ p.id=x/\ pos l x=(i:Nat)/\ bk l x=p/\ 0<=x:=by
 rcases hv with e|e
 .exact .inl e
 .obtain⟨i,p,h1,h2,h3,h4⟩:=gm h e;exact .inr ⟨i,p,h1,h2,h3,h4,by rw[<-h2];exact(jG h p (aB h1)).1⟩
open Classical in
def abD {l:List Pt}{pl:List Int}(hl:l.length<=1000)(hp:pl.length<=1000):Ans D 156 [F l,sl I1 pl] [.bool (decide (∀x∈pl,dO l x))]:=by
 refine an ⟨1001,?_⟩;unfold UV;simp[aW,EV];refine(b9 (m:=1001) (l:=pl) (p:=λx=>decide (dO l x)) (st:=λi=>[.i64 (i:Int)]) (r:=some [.bool false]) (fin:=some [.bool true]) (λi x self hx _=>?_) (λhall self=>?_) (by omega)).trans ?_
 .unfold Cq;simp[EV,aO hx (bO _),aL hx,cg,phi (nC hl x),JG,up1 (show i<1000000000 by have:=aJ hx;omega)]
  unfold dO inF
  grind
 .unfold Cq;simp only[EV,aj,aa,bo,JF]
 .grind
open Classical in
def abE {l:List Pt}{pl:List Int}(h:okF l)(hp:pl.length<=1000):Ans D 296 [F l,sl I1 pl] [.bool (decide (∀x∈pl,dO l x))]:=by
 refine an ⟨1001,?_⟩;unfold Xk;simp only[au,aW,EV,aj];refine(b9 (m:=1001) (l:=pl) (p:=λx=>decide (dO l x)) (st:=λi=>[.i64 (i:Int)]) (r:=some [.bool false]) (fin:=some [.bool true]) (λi x self hx _=>?_) (λhall self=>?_) (by omega)).trans ?_
 .have u1:=up1 (show i<1000000000 by have:=aJ hx;omega)
  unfold DD;rcases has_cases l x with hn|⟨j,p,hj,rfl⟩
  .obtain⟨P,hP⟩:=Za h hn;have hf:inF l x=false:=by
    unfold inF;rcases pos_cases l x with⟨e,_⟩|⟨i,p,h1,h2,_⟩
    .rw[e];rfl
    .grind
   simp only[au,EV,aa,bc (aJ hx),aO hx (bO _),aL hx,cg,phi hP,aw,ax,DC,u1];unfold dO;simp_all
  .have hf:inF l p.id=true:=fj.2 (bh.2 ⟨p,aB hj,rfl⟩);simp only[au,EV,aa,bc (aJ hx),aO hx (bO _),aL hx,cg,phi (Mn h hj),ay,DC,u1];unfold dO;rw[hf];simp
 .unfold DD Lc;simp only[EV,aa,bo];rfl
 .by_cases h:∀x∈pl,dO l x
  .rw[ad (by simpa using h),aq h]
  .rw[ac (by simpa using h),ah h]
def abF {l:List Pt}{t:Rt}(h:okF l)(ht:bg t)(hr:rok t=true):Ans D 295 [F l,R t] [.i64 0]:=by
 have h1:=phi (qd l);rw[dG.2 h] at h1;have h2:=phi (c43 ht);rw[hr] at h2;have e0:okE true=0:=rfl;rw[e0] at h2;refine am ?_;unfold Xj;simp[aW,aY,EV,h1,h2]
def abG {l:List Pt}{t:Rt}(h:okF l)(ht:bg t)(hr:rok t=true){a b:Int}(ha:dO l a)(hb:dO l b):Ans D 297 [F l,R t,.i64 a,.i64 b] [.i64 (wonI t l a b)]:=by
 refine am ?_;unfold Xl wonI;rcases valK_in h ha with e|⟨i,p,p1,p2,p3,p4,p5⟩
 .rcases valK_in h hb with e'|⟨j,q,q1,q2,q3,q4,q5⟩
  .subst e;subst e';simp only[au,aW,aY,mmN,mmX,EV];rfl
  .subst e;simp only[au,aW,aY,mmN,mmX,EV,aa,ad (show min (-1) b<0 by omega),ad (show(-1:Int)<0 by omega),show max (-1) b=b by omega]
 .rcases valK_in h hb with e'|⟨j,q,q1,q2,q3,q4,q5⟩
  .subst e';simp only[au,aW,aY,mmN,mmX,EV,aa,ad (show min a (-1)<0 by omega),ac (show¬a<0 by omega),ad (show(-1:Int)<0 by omega),show max a (-1)=a by omega]
  .have d1:=phi (Mn h p1);have d2:=phi (Mn h q1);rw[p2] at d1;rw[q2] at d2;have d3:∃e:Int,PhiS D 190 [PP p,PP q,R t]=some [.bool (leads t p q),.i64 e]:=by
    have:=phi (AC (p:=p) (q:=q) ht);by_cases e:p.id=q.id
    .have:p=q:=(cI h.2.2).inj (aB p1) (aB q1) e;subst this;by_cases c:hG p p t=0
     .rw[ad c] at this;exact⟨_,this⟩
     .rw[ac c] at this;rw[p8];exact⟨_,this⟩
    .rw[ad (jh (ea h p1) (ea h q1) hr e)] at this;exact⟨_,this⟩
   obtain⟨e,d3⟩:=d3;simp only[au,aW,aY,bQ,mmN,mmX,EV,aa,ac (show¬min a b<0 by omega),ac (show¬a<0 by omega),ac (show¬b<0 by omega),d1,d2,aO p1 (bK _),aL p1,aO q1 (bK _),aL q1,eR,d3,p4,q4]
   cases leads t p q<;>rfl
def Se {l:List Pt}{t:Rt}(h:okF l)(ht:bg t){a b:Int}(ha:dO l a)(hb:dO l b):Ans D 225 [F l,R t,.i64 a,.i64 b] [.i64 (wonI t l a b)]:=by
 have hl:=h.1;refine am ?_;unfold Wc wonI;simp[aW,aY,EV];by_cases c1:a<0
 .grind
 rw[ac c1,ac c1];by_cases c2:b<0
 .grind
 rw[ac c2,ac c2];rcases valK_in h ha with e|⟨i,p,p1,p2,p3,p4,p5⟩
 .omega
 rcases valK_in h hb with e|⟨j,q,q1,q2,q3,q4,q5⟩
 .omega
 simp[bQ,phi (nC (l:=l) (by omega) a),phi (nC (l:=l) (by omega) b),p3,q3,aO p1 (bK _),aL p1,aO q1 (bK _),aL q1,eR,phi (yb (ea h p1) (ea h q1) ht),p4,q4,EV];split<;>rfl
open Classical in
def abH {l:List Pt}{t:Rt}{pl:List Int}(h:okF l)(ht:bg t)(hr:rok t=true)(h1:1<=pl.length)(h2:pl.length<=64)(hv:∀x∈pl,dO l x)(ho:i6 pl):Ans D 242 [F l,R t,sl I1 pl] [BR ⟨pl,playD (wonI t l) pl (pl.length-1) (pl.length-1)⟩,.i64 0]:=by
 have wp:IntKind.i64.wrap ((pl.length:Int)-1)=((pl.length-1:Nat):Int):=by rw[cy (by omega) (by omega)];omega
 have e1:=phi (abE h (pl:=pl) (by omega));rw[aq hv] at e1;have e2:=phi (Sd (l:=pl) (by omega));rw[aq ho] at e2;have rp:=oI (n:=pl.length-1) (by omega);have agB:∀w:List Int,RF.ev .agg [sl I1 pl,sl I1 w]=some (BR ⟨pl,w⟩):=λw=>rfl;refine an ⟨1001,?_⟩;unfold Wz;simp only[au,aW,aY,EV,phi (abF h ht hr),aj,az,aK,aw,ax,aa,ac (show¬(pl.length:Int)<1 by omega),KY,bA,ah (show¬(64:Int)<(pl.length:Int) by omega),e1,e2,KV,KW,KX,KU,phi (qh (l:=pl) (by omega)),wp,rp,aI]
 generalize hm:pl.length-1=m at*;have w1:IntKind.i64.wrap ((m:Int)-1)=(m:Int)-1:=cy (by omega) (by omega);rw[w1];have e0:([sl I1 (List.replicate m 0),PV.v (.int .i64 ((m:Int)-1))]:List PV)=[sl I1 (playD (wonI t l) pl m 0),.i64 ((m:Int)-1-((0:Nat):Int))]:=by
  simp[playD]
 rw[e0];refine(dF (m:=1001) (n:=m) (st:=λk=>[sl I1 (playD (wonI t l) pl m k),.i64 ((m:Int)-1-(k:Int))]) (λk self hk=>?_) (λself=>?_) (by omega))
 .obtain⟨i,hi⟩:∃i:Nat,m-1-k=i:=⟨_,rfl⟩;have hii:(m:Int)-1-(k:Int)=(i:Int):=by omega
  have hdn:IntKind.i64.wrap ((i:Int)-1)=(m:Int)-1-((k+1:Nat):Int):=by rw[cy (by omega) (by omega)];omega
  have hP:=vl (P:=dO l) (.inl rfl) (won:=wonI t l) (λa b=>vR a b) hv k (by omega:k<=m);have hlen:=fN (won:=wonI t l) (places:=pl) (m:=m) k;have hnx:playD (wonI t l) pl m (k+1)=(playD (wonI t l) pl m k).set i (wonI t l (nodeV (playD (wonI t l) pl m k) pl (2*i+1)) (nodeV (playD (wonI t l) pl m k) pl (2*i+2))):=by rw[<-hi];rfl
  rw[hnx];generalize playD (wonI t l) pl m k=w at hP hlen;have su:RF.ev .sub [sl I1 w,.v (.int .i64 0),.v (.int .i64 (m:Int))]=some (sl I1 w):=by rw[<-hlen];exact bI
  unfold Dp;simp only[EV,hii,aa,be,ad (show(0:Int)<=(i:Int) by omega),dbl (show i<100000000 by omega),up1 (show 2*i<1000000000 by omega),up2 (show 2*i<1000000000 by omega),bI,su,agB,au,phi (Gz (b:=⟨pl,w⟩) (i:=2*i+1) (by simp only;omega) (by simp only;omega)),phi (Gz (b:=⟨pl,w⟩) (i:=2*i+2) (by simp only;omega) (by simp only;omega)),phi (abG h ht hr (hP (2*i+1) (by omega)) (hP (2*i+2) (by omega))),ixM (show i<m by omega),gn (l:=w) (i:=i) (by omega),hdn]
 .have hlen:=fN (won:=wonI t l) (places:=pl) (m:=m) m;generalize playD (wonI t l) pl m m=w at hlen;have su:RF.ev .sub [sl I1 w,.v (.int .i64 0),.v (.int .i64 (m:Int))]=some (sl I1 w):=by rw[<-hlen];exact bI
  unfold Dp;simp only[EV,aa,be,ac (show¬(0:Int)<=(m:Int)-1-(m:Int) by omega),KS,bI,su,agB,au]
def edB (w p:List Int)(i:Nat):List Crt:=if 0<=nodeV w p (2*i+1)/\ 0<=nodeV w p (2*i+2) then [⟨nodeV w p (2*i+1)+nodeV w p (2*i+2)-nodeV w p i,nodeV w p i⟩] else []
def edsB (w p:List Int)(n:Nat):List Crt:=(List.range n).flatMap (edB w p)
def pJ (w p:List Int)(n:Nat):edsB w p (n+1)=edsB w p n++edB w p n:=by
 unfold edsB;rw[lP,sN];simp
def ku (w p:List Int):∀n,(edsB w p n).length<=n
 |0=>by simp[edsB]
 |n+1=>by
  have:=ku w p n;rw[pJ,aE];unfold edB;split<;>simp<;>omega
def lY {l:List Pt}(h:okF l){x:Int}(hv:dO l x): -1<=x/\ x<=65535:=by
 rcases valK_in h hv with e|⟨i,p,p1,p2,_⟩
 .omega
 .have:=jG h p (aB p1);omega
def zg {w p:List Int}{j:Nat}(hj:j<w.length+p.length):(j<w.length->w[j]?=some (nodeV w p j))/\(¬j<w.length->p[j-w.length]?=some (nodeV w p j)):=by
 constructor
 .intro h;obtain⟨x,hx⟩:∃x,w[j]?=some x:=⟨_,ak h⟩;rw[hx,vk hx]
 .intro h;obtain⟨x,hx⟩:∃x,p[j-w.length]?=some x:=⟨_,ak (by omega)⟩;rw[hx,y7 h hx]
open Classical in
def Sf {l:List Pt}{t:Rt}{pl:List Int}(h:okF l)(ht:bg t)(hr:rok t=true)(h1:1<=pl.length)(h2:pl.length<=64)(hv:∀x∈pl,dO l x)(ho:i6 pl){w:List Int}(hw:w=playD (wonI t l) pl (pl.length-1) (pl.length-1)):Ans D 182 [F l,R t,sl I1 pl] [BR ⟨pl,w⟩,sl ct (edsB w pl w.length)]:=by
 have hlen:w.length=pl.length-1:=by rw[hw,fN]
 have hP:∀j,dO l (nodeV w pl j):=λj=>by rw[hw];exact vl (P:=dO l) (.inl rfl) (won:=wonI t l) (λa b=>vR a b) hv _ (aD _) j (by omega)
 have e218:=phi (abH h ht hr h1 h2 hv ho);rw[<-hw] at e218;refine an ⟨1001,?_⟩;unfold Vr;simp only[au,aW,aY,EV,e218,jQ,ij,aj];have e0:([PV.sl [],.v (.int .i64 0),.v (.int .i64 0)]:List PV)=[sl ct (edsB w pl 0),.i64 ((edsB w pl 0).length:Int),.i64 ((0:Nat):Int)]:=rfl;rw[e0];refine(dF (m:=1001) (n:=w.length) (st:=λi=>[sl ct (edsB w pl i),.i64 ((edsB w pl i).length:Int),.i64 (i:Int)]) (λi self hi=>?_) (λself=>?_) (by omega))
 .have hx:=wn (b:=⟨pl,w⟩) (i:=i) hi;have hel:=ku w pl i;have b0:=lY h (hP i);have b1:=lY h (hP (2*i+1));have b2:=lY h (hP (2*i+2));have c1':(2*i+1<w.length->w[2*i+1]?=some (nodeV w pl (2*i+1)))/\(¬2*i+1<w.length->pl[2*i+1-w.length]?=some (nodeV w pl (2*i+1))):=zg (by omega);have c2':(2*i+2<w.length->w[2*i+2]?=some (nodeV w pl (2*i+2)))/\(¬2*i+2<w.length->pl[2*i+2-w.length]?=some (nodeV w pl (2*i+2))):=zg (by omega);simp only at hx;rw[pJ];unfold edB;generalize nodeV w pl i=v at hx b0;generalize nodeV w pl (2*i+1)=a at b1 c1';generalize nodeV w pl (2*i+2)=b at b2 c2';have w1:IntKind.i64.wrap (a+b)=a+b:=cy (by omega) (by omega);have w2:IntKind.i64.wrap (a+b-v)=a+b-v:=cy (by omega) (by omega);have ap:=fI (f:=ct) (l:=edsB w pl i) (k:=[⟨a+b-v,v⟩]) (bytes:=16) (z:=2) (by simp;omega) kg;have u1:=up1 (show i<1000000000 by omega)
  unfold yx;by_cases q1:2*i+1<w.length
  .have r1:=c1'.1 q1;by_cases q2:2*i+2<w.length
   .have r2:=c2'.1 q2;simp only[au,ij,oF,EV,aj,aa,bc hi,aO hx (bO _),aL hx,cg,dbl (show i<100000000 by omega),up1 (show 2*i<1000000000 by omega),up2 (show 2*i<1000000000 by omega),bc q1,bc q2,aO r1 (bO _),aL r1,aO r2 (bO _),aL r2,be,J2,J1,xd,u1,w1,w2,rv,bsC,nU]
    by_cases g1:0<=a
    .by_cases g2:0<=b
     .simp only[g1,g2,ay,az,fF,ap,nc,au,EV,aj,u1]
     .simp only[g1,g2,ay,bb,eN,ax,aw,aP]
    .simp only[g1,ax,fS,aw,aP]
   .have r2:=c2'.2 q2;simp only[au,ij,oF,EV,aj,aa,bc hi,aO hx (bO _),aL hx,cg,dbl (show i<100000000 by omega),up1 (show 2*i<1000000000 by omega),up2 (show 2*i<1000000000 by omega),bc q1,ac (show¬((2*i+2:Nat):Int)<(w.length:Int) by omega),A0 (show w.length<=2*i+2 by omega) (by omega),aO r1 (bO _),aL r1,aO r2 (bO _),aL r2,be,J4,J3,xd,u1,w1,w2,rv,bsC,nU]
    by_cases g1:0<=a
    .by_cases g2:0<=b
     .simp only[g1,g2,ay,az,fF,ap,nc,au,EV,aj,u1]
     .simp only[g1,g2,ay,bb,eN,ax,aw,aP]
    .simp only[g1,ax,fS,aw,aP]
  .have r1:=c1'.2 q1;have q2:¬2*i+2<w.length:=by omega
   have r2:=c2'.2 q2;simp only[au,ij,oF,EV,aj,aa,bc hi,aO hx (bO _),aL hx,cg,dbl (show i<100000000 by omega),up1 (show 2*i<1000000000 by omega),up2 (show 2*i<1000000000 by omega),ac (show¬((2*i+1:Nat):Int)<(w.length:Int) by omega),ac (show¬((2*i+2:Nat):Int)<(w.length:Int) by omega),A0 (show w.length<=2*i+1 by omega) (by omega),A0 (show w.length<=2*i+2 by omega) (by omega),aO r1 (bO _),aL r1,aO r2 (bO _),aL r2,be,FG,J5,xd,u1,w1,w2,rv,bsC,nU]
   by_cases g1:0<=a
   .by_cases g2:0<=b
    .simp only[g1,g2,ay,az,fF,ap,nc,au,EV,aj,u1]
    .simp only[g1,g2,ay,bb,eN,ax,aw,aP]
   .simp only[g1,ax,fS,aw,aP]
 .unfold yx;simp only[EV,aa,bo,J0,bI,au]
def Sg {b:Brk}(h1:b.places.length=b.wins.length+1)(h2:b.places.length<=70)(hk:∀i,i<b.wins.length->lJ b.wins b.places i)(hb:∀j,-1<=nodeV b.wins b.places j/\ nodeV b.wins b.places j<=65535):Ans D 159 [BR b] [sl ct (edsB b.wins b.places b.wins.length)]:=by
 refine an ⟨1001,?_⟩;unfold UY;simp only[au,jQ,EV];have e0:([PV.sl [],.v (.int .i64 0),.v (.int .i64 0)]:List PV)=[sl ct (edsB b.wins b.places 0),.i64 ((edsB b.wins b.places 0).length:Int),.i64 ((0:Nat):Int)]:=rfl;rw[e0];refine(dF (m:=1001) (n:=b.wins.length) (st:=λi=>[sl ct (edsB b.wins b.places i),.i64 ((edsB b.wins b.places i).length:Int),.i64 (i:Int)]) (λi self hi=>?_) (λself=>?_) (by omega))
 .have hx:=wn (b:=b) (i:=i) hi;have hel:=ku b.wins b.places i;have hpk:=hk i hi;have b0:=hb i;have b1:=hb (2*i+1);have b2:=hb (2*i+2);have c1':=phi (tc (b:=b) (i:=2*i+1) (by omega) (by omega));have c2':=phi (tc (b:=b) (i:=2*i+2) (by omega) (by omega));rw[pJ];unfold edB;unfold lJ at hpk;generalize nodeV b.wins b.places i=v at hx b0 hpk;generalize nodeV b.wins b.places (2*i+1)=p at b1 c1' hpk;generalize nodeV b.wins b.places (2*i+2)=q at b2 c2' hpk;have ap:=λc=>fI (f:=ct) (l:=edsB b.wins b.places i) (k:=[c]) (bytes:=16) (z:=2) (by simp;omega) kg;unfold Cv;simp only[au,ij,EV,aj,aa,bc hi,dbl (show i<100000000 by omega),up1 (show 2*i<1000000000 by omega),up2 (show 2*i<1000000000 by omega),c1',c2',JM,up1 (show i<1000000000 by omega),aO hx (bO _),aL hx,cg,JN,rv,bsC,nU,ap]
  by_cases g1:p<0
  .rw[ad g1,ac (by omega),aP]
  by_cases g2:q<0
  .rw[ac g1,ad g2,ac (by omega),aP]
  rw[ac g1,ac g2,ad (show 0<=p/\ 0<=q by omega)]
  by_cases g3:v=p
  .rw[ad g3,g3,show p+q-p=q by omega]
  .rw[ac g3,show v=q by omega,show p+q-q=p by omega]
 .unfold Cv;simp only[au,ij,EV,aj,aa,bo,JL,bI]
open Classical in
def abI {b:Brk}{l:List Pt}{t:Rt}(h:okF l)(ht:bg t)(h1:b.places.length=b.wins.length+1)(h2:b.places.length<=70)(hv:∀j,dO l (nodeV b.wins b.places j)):Ans D 158 [BR b,F l,R t] [.bool (decide (kb (wonI t l) b.wins b.places))]:=by
 refine an ⟨1001,?_⟩;unfold UX;simp only[au,jQ,aW,aY,EV];refine(ef (m:=1001) (n:=b.wins.length) (P:=λi=>nodeV b.wins b.places i=wonI t l (nodeV b.wins b.places (2*i+1)) (nodeV b.wins b.places (2*i+2))) (st:=λi=>[.i64 (i:Int)]) (r:=some [.bool false]) (fin:=some [.bool true]) (λi self hi _=>?_) (λ_ self=>?_) (by omega)).trans ?_
 .have hx:=wn (b:=b) (i:=i) hi;unfold Cu;simp only[au,ij,EV,aj,aa,bc hi,dbl (show i<100000000 by omega),up1 (show 2*i<1000000000 by omega),up2 (show 2*i<1000000000 by omega),phi (tc (b:=b) (i:=2*i+1) (by omega) (by omega)),phi (tc (b:=b) (i:=2*i+2) (by omega) (by omega)),phi (Se h ht (hv (2*i+1)) (hv (2*i+2))),up1 (show i<1000000000 by omega),aO hx (bO _),aL hx,cg,aA,ai]
  by_cases g:nodeV b.wins b.places i=wonI t l (nodeV b.wins b.places (2*i+1)) (nodeV b.wins b.places (2*i+2))
  .rw[ac (by simpa using g),ad g]
  .rw[ad g,ac g]
 .unfold Cu;simp only[au,ij,EV,aj,aa,bo,JK]
 .by_cases h:kb (wonI t l) b.wins b.places
  .rw[ad (show∀i,i<b.wins.length->_ from h),aq h]
  .rw[ac (show¬∀i,i<b.wins.length->_ from h),ah h]
def szd (n:Nat):Bool:=decide (n∈[1,2,4,8,16,32,64])
def P4:∀n:Nat,n<65->1<=n->((BitVec.ofInt 64 (n:Int)&&& BitVec.ofInt 64 ((n:Int)-1)).toNat=0↔szd n=true):=by decide
def abJ {n:Nat}(h:n<=1000):Ans D 155 [.i64 (n:Int)] [.bool (szd n)]:=by
 have wr:∀m:Nat,m<=1000->IntKind.i64.wrap ((m:Int)*2)=((m*2:Nat):Int):=λm hm=>by rw[cy (by omega) (by omega)];omega
 refine an ⟨1001,?_⟩;unfold UU;simp only[EV];refine(jb (m:=1001) (l:=[1,2,4,8,16,32,64]) (p:=λa:Nat=>decide (n=a)) (st:=λi=>[.i64 ((2^ i:Nat):Int)]) (ret:=λ_=>some [.bool true]) (fin:=some [.bool false]) (λi a self ha=>?_) (λself=>?_) (by decide)).trans ?_
 .have hi:=aJ ha;have ha2:a=2^ i:=by
   match i,hi with
   |0,_=>simpa using ha.symm
   |1,_=>simpa using ha.symm
   |2,_=>simpa using ha.symm
   |3,_=>simpa using ha.symm
   |4,_=>simpa using ha.symm
   |5,_=>simpa using ha.symm
   |6,_=>simpa using ha.symm
  have h64:2^ i<=64:=by
   have:i<=6:=by simp at hi;omega
   exact bC (Nat.pow_le_pow_right (by omega) this) (by decide)
  have hnx:2^(i+1)=2^ i*2:=Nat.pow_succ ..;rw[hnx];subst ha2;generalize 2^ i=m at h64;unfold Cp;simp only[EV,aa,ad (show(m:Int)<=64 by omega),wr m (by omega)]
  by_cases c:n=m
  .rw[ad (by omega),ad c]
  .rw[ac (by omega),ac c]
 .unfold Cp;simp only[EV,bi,df,show decide ((((2:Nat)^(0+1+1+1+1+1+1+1):Nat):Int)<=64)=false from rfl,aw,ax,JE]
 .cases e:List.findIdx? (λa:Nat=>decide (n=a)) [1,2,4,8,16,32,64] with
  |none=>
   rw[gj] at e;have:szd n=false:=ah (λh=>by have:=e n h;simp at this);rw[this];rfl
  |some i=>
   obtain⟨hi,h2,_⟩:=b8.1 e;have:szd n=true:=aq (by rw[aU h2];exact List.getElem_mem hi);rw[this];rfl
def abK {l:List Int}(hl:l.length<=1000):Ans D 157 [sl I1 l] [sl I1 (l.filter λx=>decide (0<=x))]:=by
 refine an ⟨1001,?_⟩;unfold UW;simp only[EV];have e0:([PV.sl [],.v (.int .i64 0),.v (.int .i64 0)]:List PV)=[sl I1 [],.i64 (([]:List Int).length:Int),.i64 ((0:Nat):Int)]:=rfl;rw[e0];refine(g9 (m:=1001) (l:=l) (g:=λacc x=>if 0<=x then acc++[x] else acc) (I:=λk acc=>acc.length<=k) (S:=λacc k=>[sl I1 acc,.i64 (acc.length:Int),.i64 (k:Int)]) (fin:=λacc=>some [sl I1 acc]) (x:=[]) (by simp) (λk a acc _ h=>by
   split
   .rw[aE,aS];omega
   .omega) (λk x acc self hx hI=>?_) (λacc self hI=>?_) (by omega)).1.trans ?_
 .have hk:=aJ hx;have ap:=fI (f:=I1) (l:=acc) (k:=[x]) (bytes:=8) (z:=1) (by simp;omega) bO;unfold Cr;simp only[au,EV,aj,aa,bc hk,aO hx (bO _),aL hx,cg,be,JI,up1 (show k<1000000000 by omega),bsI,jE,ap]
  by_cases c:0<=x
  .simp only[c,ay]
  .simp only[c,ax]
 .unfold Cr;simp only[EV,aj,aa,bo,JH,bI]
 .have:∀(l acc:List Int),l.foldl (λacc x=>if 0<=x then acc++[x] else acc) acc=acc++l.filter λx=>decide (0<=x):=by
   intro l;induction l with
   |nil=>simp
   |cons a l ih=>
    intro acc;rw[cE,ih,cP];by_cases c:0<=a<;>simp[c]
  rw[this,bV]
def wI (l:List Int):List Int:=fG l
def abL {l:List Int}(hl:l.length<=1000):Ans D 208 [.sl [],sl I1 l] [sl I1 (wI l)]:=by
 have h0:D.T 208=none:=by kernel_rfl
 refine PC h0 ?_;show j9 208 208 [.sl [],.sl (ic l)]=some [.sl (ic (fG l))]
 unfold j9;simp[vC]
 grind
def fe (k:KTourn):Prop:=dl k.clock/\ iV k.brk.wins k.brk.places/\ szd k.brk.places.length=true/\(∀x∈k.brk.places,dO k.clock.pts x)/\(k.brk.places.filter λx=>decide (0<=x)).length=k.clock.pts.length/\ kb (wonI k.clock.now k.clock.pts) k.brk.wins k.brk.places/\ JustR k.clock (edsB k.brk.wins k.brk.places k.brk.wins.length)
def td {k:KTourn}(h:gKt k=false):gCl k.clock=false/\ k.brk.places.length<=70/\ k.brk.wins.length<=70:=by
 unfold gKt at h
 grind
def brk_val {b:Brk}{l:List Pt}(hb:iV b.wins b.places)(hv:∀x∈b.places,dO l x)(j:Nat):dO l (nodeV b.wins b.places j):=
 Ra (P:=dO l) (.inl rfl) hb.1.1.2.2 hv (λi hi=>(hb.2 i hi).1) _ j rfl
def A4 {w p:List Int}{n:Nat}{e:Crt}(h:e∈edsB w p n):∃i,i<n/\(0<=nodeV w p (2*i+1)/\ 0<=nodeV w p (2*i+2))/\ e=⟨nodeV w p (2*i+1)+nodeV w p (2*i+2)-nodeV w p i,nodeV w p i⟩:=by
 unfold edsB at h;obtain⟨i,hi,he⟩:=List.mem_flatMap.1 h;rw[dc] at hi;unfold edB at he;split at he
 .rename_i c;exact⟨i,hi,c,cB.1 he⟩
 .cases he
def nX {b:Brk}{l:List Pt}{t:Rt}(h:okF l)(hb:iV b.wins b.places)(hv:∀x∈b.places,dO l x)(hf:kb (wonI t l) b.wins b.places){e:Crt}(he:e∈edsB b.wins b.places b.wins.length):inF l e.low=true/\ inF l e.high=true/\ leads t (bk l e.high) (bk l e.low)=true:=by
 obtain⟨i,hi,⟨c1,c2⟩,rfl⟩:=A4 he;have hF:=hf i hi;have hd:nodeV b.wins b.places (2*i+1)≠nodeV b.wins b.places (2*i+2):=λe=>E4 (ul hb) c1 hi rfl e.symm;rcases valK_in h (brk_val hb hv (2*i+1)) with e|⟨j1,p,p1,p2,p3,p4,p5⟩
 .omega
 rcases valK_in h (brk_val hb hv (2*i+2)) with e|⟨j2,q,q1,q2,q3,q4,q5⟩
 .omega
 have ip:inF l (nodeV b.wins b.places (2*i+1))=true:=by rw[<-p2];exact fj.2 (bh.2 ⟨p,aB p1,rfl⟩)
 have iq:inF l (nodeV b.wins b.places (2*i+2))=true:=by rw[<-q2];exact fj.2 (bh.2 ⟨q,aB q1,rfl⟩)
 unfold wonI at hF;rw[ac (by omega),ac (by omega),p4,q4] at hF;cases hL:leads t p q with
 |true=>
  grind
 |false=>
  rw[hL,ac (by simp)] at hF;rw[hF,Int.add_sub_cancel,p4,q4];refine⟨ip,iq,?_⟩;rcases leads_total (t:=t) (p:=p) (q:=q) (by rw[p2,q2];exact hd) with g|g
  .grind
  .exact g
def rE {b:Brk}{l:List Pt}{t:Rt}(h:okF l)(hb:iV b.wins b.places)(hv:∀x∈b.places,dO l x)(hf:kb (wonI t l) b.wins b.places):∀n,n<=b.wins.length->(edsB b.wins b.places n).Nodup
 |0,_=>by simp[edsB]
 |n+1,hn=>by
  rw[pJ];have ih:=rE h hb hv hf n (by omega);have one:∀i,i<b.wins.length->(0<=nodeV b.wins b.places (2*i+1)/\ 0<=nodeV b.wins b.places (2*i+2))->∃c,(c=2*i+1\/c=2*i+2)/\ nodeV b.wins b.places c=nodeV b.wins b.places (2*i+1)+nodeV b.wins b.places (2*i+2)-nodeV b.wins b.places i/\ nodeV b.wins b.places i≠nodeV b.wins b.places c/\ 0<=nodeV b.wins b.places c:=λi hi hc=>by
   have hd:nodeV b.wins b.places (2*i+1)≠nodeV b.wins b.places (2*i+2):=λe=>E4 (ul hb) hc.1 hi rfl e.symm;rcases(hb.2 i hi).1 with g|g
   .exact⟨2*i+2,.inr rfl,by omega,by omega,hc.2⟩
   .exact⟨2*i+1,.inl rfl,by omega,by omega,hc.1⟩
  unfold edB;split
  .rename_i c;rw[eu];refine⟨ih,by simp,λa ha b' hb' e=>?_⟩;subst e;obtain⟨i,hi,c',e⟩:=A4 ha;rw[cB] at hb';rw[e] at hb';simp at hb';obtain⟨x,x1,x2,x3,x4⟩:=one i (by omega) c';obtain⟨y,y1,y2,y3,y4⟩:=one n (by omega) c;have:=L7 (ul hb) (z:=nodeV b.wins b.places x) x4 (i:=i) (j:=n) (by omega) (by omega) x1 y1 rfl (by omega) x3 (by omega);omega
  .rw[aP];exact ih
open Classical in
def c82 {k:KTourn}(h64:fu k.clock)(hg:gKt k=false):Ans D 98 [KT k] [.i64 (okE (decide (fe k)))]:=by
 obtain⟨g1,g2,g3⟩:=td hg;have no:∀h:¬fe k,(some [PV.v (.int .i64 8)]:Option (List PV))=some [.i64 (okE (decide (fe k)))]:=λh=>by rw[ah h];rfl
 have pKT2:RF.ev (.part 2 1) [KT k]=some (F k.clock.pts):=rfl;have pKT0:RF.ev (.part 0 2) [KT k]=some (R k.clock.now):=rfl;have cKT11:RF.ev (.cell 11) [KT k]=some (sl I1 k.brk.places):=rfl;refine an ⟨1001,?_⟩;unfold k82;simp only[au,sV,pKT,yd,pKT2,pKT0,cKT11,bQ,EV,aj,phi (AP h64 g1),phi (abC g2 g3),phi (abJ (n:=k.brk.places.length) (by omega)),gJ,aA,ai,aa];by_cases h1:dl k.clock
 rotate_left
 .rw[ac h1];exact no (λh=>h1 h.1)
 rw[ad h1];by_cases h2:iV k.brk.wins k.brk.places
 rotate_left
 .rw[ac h2];exact no (λh=>h2 h.2.1)
 rw[ad h2];cases h3:szd k.brk.places.length with
 |false=>
  rw[ad rfl];exact no (λh=>by have:=h.2.2.1;rw[h3] at this;cases this)
 |true=>
 rw[ac (by simp)];have hF:=h1.2.1;have hl:=hF.1;simp only[au,pKT2,cKT11,bQ,EV,aj,phi (abD (l:=k.clock.pts) (pl:=k.brk.places) (by omega) (by omega)),phi (abK (l:=k.brk.places) (by omega)),aA,ai,aa];by_cases h4:∀x∈k.brk.places,dO k.clock.pts x
 rotate_left
 .rw[ad h4];exact no (λh=>h4 h.2.2.2.1)
 rw[ac (λg=>g h4)];by_cases h5:(k.brk.places.filter λx=>decide (0<=x)).length=k.clock.pts.length
 rotate_left
 .rw[ad (by omega)];exact no (λh=>h5 h.2.2.2.2.1)
 rw[ac (by omega)];have hlen:=h2.1.1.2.2;have hval:=brk_val h2 h4;simp only[au,yd,pKT0,EV,phi (abI (b:=k.brk) (l:=k.clock.pts) (t:=k.clock.now) hF h64.1 hlen (by omega) hval),aA,ai];by_cases h6:kb (wonI k.clock.now k.clock.pts) k.brk.wins k.brk.places
 rotate_left
 .rw[ad h6];exact no (λh=>h6 h.2.2.2.2.2.1)
 rw[ac (λg=>g h6)];have hel:=ku k.brk.wins k.brk.places k.brk.wins.length;simp only[au,pKT,yd,EV,phi (Sg (b:=k.brk) hlen (by omega) (λi hi=>(h2.2 i hi).1) (λj=>lY hF (hval j))),phi (Gu (c:=k.clock) (edges:=edsB k.brk.wins k.brk.places k.brk.wins.length) hF h64.1 (by omega) (by have:=fL g1;omega) (λe he=>⟨(nX hF h2 h4 h6 he).1,(nX hF h2 h4 h6 he).2.1⟩)),aA,ai];by_cases h7:JustR k.clock (edsB k.brk.wins k.brk.places k.brk.wins.length)
 .rw[ac (λg=>g h7),aq (show fe k from⟨h1,h2,h3,h4,h5,h6,h7⟩)];rfl
 .rw[ad h7];exact no (λh=>h7 h.2.2.2.2.2.2)
def ME {l:List Pt}{pl:List Int}(hF:okF l)(ho:i6 pl)(hb:∀x∈pl,-1<=x):wI (pl.filter λx=>decide (0<=x))=l.map Pt.id↔(∀x∈pl,dO l x)/\(pl.filter λx=>decide (0<=x)).length=l.length:=by
 have hperm:(wI (pl.filter λx=>decide (0<=x))).Perm (pl.filter λx=>decide (0<=x)):=sO _ _;constructor
 .intro h;rw[h] at hperm;refine⟨λx hx=>?_,by have:=hperm.length_eq;rw[aj] at this;exact this.symm⟩;by_cases c:0<=x
  .exact .inr (fj.2 (hperm.mem_iff.2 (cp.2 ⟨hx,by simpa using c⟩)))
  .exact .inl (by have:=hb x hx;omega)
 .rintro⟨h1,h2⟩;have hnd:(pl.filter λx=>decide (0<=x)).Nodup:=by
   have:∀(l:List Int),(∀(i j:Nat) (x:Int),0<=x->l[i]?=some x->l[j]?=some x->i=j)->(l.filter λx=>decide (0<=x)).Nodup:=by
    intro l;induction l with
    |nil=>intro _;simp
    |cons a l ih=>
     intro h;have ih:=ih λi j x hx hi hj=>by have:=h (i+1) (j+1) x hx (by simpa using hi) (by simpa using hj);omega
     rw[cP];split
     .rename_i c;refine bW.2 ⟨λhm=>?_,ih⟩;obtain⟨j,hj⟩:=aN.1 (cp.1 hm).1;have:=h 0 (j+1) a (by simpa using c) (by simp) (by simpa using hj)
      omega
     .exact ih
   exact this pl (uj.1 ho)
  have hp:(pl.filter λx=>decide (0<=x)).Perm (l.map Pt.id):=jz hnd (λx hx=>by
   obtain⟨a,b⟩:=cp.1 hx;rcases h1 x a with e|e
   .simp at b;omega
   .exact fj.1 e) (by rw[aj];omega)
  refine List.Perm.eq_of_pairwise (le:=λa b=>a<=b) (λa b _ _ h1 h2=>by omega) ?_ ?_ (hperm.trans hp)
  .have:=pD (le:=λa b:Int=>decide (a<=b)) (λa b c h1 h2=>by simp at h1 h2|-;omega) (λa b=>by simp;omega) (pl.filter λx=>decide (0<=x));exact this.imp λh=>by simpa using h
  .rw[d6];intro i j hi hj hij;rw[aj] at hi hj;have:=gN hF.2.2 hij (ak hi) (ak hj);rw[List.getElem_map,List.getElem_map];omega
def FD {S:List Int}{k:List Pt}(h:S.length=k.length)(ha:(S.zip k).all (λx=>decide (x.1=x.2.id))=true):S=k.map Pt.id:=by
 rw[aQ] at ha;refine List.ext_getElem (by simpa using h) λi h1 h2=>?_
 have:=ha (S[i],k[i]'(by omega)) (List.mem_iff_getElem.2 ⟨i,by rw[lN];omega,by simp⟩)
 grind
def A5 {S:List Int}{k:List Pt}(h:S=k.map Pt.id):(S.zip k).all (λx=>decide (x.1=x.2.id))=true:=by
 rw[aQ];intro x hx;obtain⟨i,hi⟩:=aN.1 hx
 grind
def cpt (l:List Int)(i:Nat):Nat->List Int×Nat
 |0=>(l,i)
 |t+1=>if 0<=nthI l (i+1+t) then((cpt l i t).1.set (cpt l i t).2 (nthI l (i+1+t)),(cpt l i t).2+1) else cpt l i t
def A6 {l:List Int}{i:Nat}{a:Int}(ha:l[i]?=some a)(hn:a<0)(hp:(l.take i).all (λx=>!decide (x<0))=true):∀t,i+1+t<=l.length->(cpt l i t).1.length=l.length/\(cpt l i t).2<=i+t/\(cpt l i t).1.take (cpt l i t).2=(l.take (i+1+t)).filter (λx=>decide (0<=x))/\∀j,i+1+t<=j->(cpt l i t).1[j]?=l[j]?
 |0,_=>by
  refine⟨rfl,aD _,?_,λj _=>rfl⟩;rw[lR,cd,ha,List.filter_append];have h1:(l.take i).filter (λx=>decide (0<=x))=l.take i:=sL.2 λx hx=>by
   have:=aQ.1 hp x hx;simp at this|-;omega
  have h2:(some a).toList.filter (λx=>decide (0<=x))=[]:=by simp;omega
  rw[h1,h2,aP];rfl
 |t+1,h=>by
  obtain⟨h1,h2,h3,h4⟩:=A6 ha hn hp t (by omega);have hx:=ez (l:=l) (i:=i+1+t) (by omega);have e1:(l.take (i+1+(t+1))).filter (λx=>decide (0<=x))=(l.take (i+1+t)).filter (λx=>decide (0<=x))++if 0<=nthI l (i+1+t) then [nthI l (i+1+t)] else []:=by
   rw[show i+1+(t+1)=i+1+t+1 by omega,cd,hx,List.filter_append]
   congr 1
   simp[cP]
  rw[e1];unfold cpt;by_cases c:0<=nthI l (i+1+t)
  .rw[ad c,ad c];refine⟨by rw[bJ];exact h1,by simp only;omega,?_,λj hj=>?_⟩
   .simp only;rw[cd,bj (by omega),List.take_set,List.set_eq_of_length_le (by rw[aM];omega),h3];rfl
   .simp only;rw[bx (by omega)];exact h4 j (by omega)
  .rw[ac c,ac c,aP];exact⟨h1,by omega,h3,λj hj=>h4 j (by omega)⟩
def Si {L S:List Int}(h:S.length<=L.length):RF.ev (.appK 0 1) [sl I1 L,.v (.int .i64 0),sl I1 S]=some (sl I1 (S++L.drop S.length)):=by
 show(if(0:Int)<=0/\(0:Int)<=((L.map I1).length:Nat)/\((0:Int).toNat+(S.map I1).length)*0<=140737488355328/\ dT 1 (S.map I1)=true then some (PV.sl ((L.map I1).take (0:Int).toNat++S.map I1++(L.map I1).drop ((0:Int).toNat+(S.map I1).length))) else none)=_
 have he:dT 1 (S.map I1)=true:=by
  cases S with
  |nil=>rfl
  |cons a k=>simp[dT,bO]
 simp_all
def abM {L:List Int}{a n:Nat}(h:a+n=L.length):RF.ev (.clr [KP.z]) [sl I1 L,.v (.int .i64 (a:Int)),.v (.int .i64 (n:Int))]=some (sl I1 (L.take a++List.replicate n 0)):=by
 show(if(0:Int)<=a/\(0:Int)<=n/\(a:Int)+n<=((L.map I1).length:Nat) then some (PV.sl ((L.map I1).take (a:Int).toNat++List.replicate (n:Int).toNat [KP.z]++(L.map I1).drop ((a:Int).toNat+(n:Int).toNat))) else none)=_
 rw[ad ⟨by omega,by omega,by rw[aj];omega⟩,da (by simp;omega)];simp;exact .inr rfl
def abN {L Z:List Int}:RF.ev .sub [sl I1 (L++Z),.v (.int .i64 0),.v (.int .i64 (L.length:Int))]=some (sl I1 L):=by
 rw[At,ad (by simp;omega)];simp
open Classical in
def c78 {k:KTourn}(h64:fu k.clock)(hg:gKt k=false):Ans D 139 [KT k] [.i64 (okE (decide (fe k)))]:=by
 obtain⟨g1,g2,g3⟩:=td hg;have no:∀h:¬fe k,(some [PV.v (.int .i64 8)]:Option (List PV))=some [.i64 (okE (decide (fe k)))]:=λh=>by rw[ah h];rfl
 have pKT2:RF.ev (.part 2 1) [KT k]=some (F k.clock.pts):=rfl;have pKT0:RF.ev (.part 0 2) [KT k]=some (R k.clock.now):=rfl;have cKT2:RF.ev (.cell 2) [KT k]=some (sl row k.clock.pts):=rfl;have cKT11:RF.ev (.cell 11) [KT k]=some (sl I1 k.brk.places):=rfl;have cKT12:RF.ev (.cell 12) [KT k]=some (sl I1 k.brk.wins):=rfl;have wp:IntKind.i64.wrap ((k.brk.places.length:Int)-1)=(k.brk.places.length:Int)-1:=cy (by omega) (by omega);refine an ⟨1001,?_⟩;unfold k78;simp only[au,sV,pKT,yd,cKT11,EV,aj,wp,phi (AR h64 g1),phi (abB g2 g3),gJ,aA,ai,aa];by_cases h1:dl k.clock
 rotate_left
 .rw[ac h1];exact no (λh=>h1 h.1)
 rw[ad h1];by_cases h2:iV k.brk.wins k.brk.places
 rotate_left
 .rw[ac h2];exact no (λh=>h2 h.2.1)
 rw[ad h2];have hF:=h1.2.1;have hl:=hF.1;have hpl:=h2.1.1;have hand:IntKind.i64.wrap (((BitVec.ofInt IntKind.i64.bits (k.brk.places.length:Int)&&& BitVec.ofInt IntKind.i64.bits ((k.brk.places.length:Int)-1)).toNat:Nat):Int)=(((BitVec.ofInt 64 (k.brk.places.length:Int)&&& BitVec.ofInt 64 ((k.brk.places.length:Int)-1)).toNat:Nat):Int):=by
  show IntKind.i64.wrap (((BitVec.ofInt 64 (k.brk.places.length:Int)&&& BitVec.ofInt 64 ((k.brk.places.length:Int)-1)).toNat:Nat):Int)=_
  have:(BitVec.ofInt 64 (k.brk.places.length:Int)&&& BitVec.ofInt 64 ((k.brk.places.length:Int)-1)).toNat<=k.brk.places.length:=by
   rw[BitVec.toNat_and];refine bC Nat.and_le_left ?_;rw[ng];omega
  exact cy (by omega) (by omega)
 have hsz:=P4 k.brk.places.length (by omega) (by omega);rw[hand];generalize (BitVec.ofInt 64 (k.brk.places.length:Int)&&& BitVec.ofInt 64 ((k.brk.places.length:Int)-1)).toNat=z at hsz;by_cases h3:z=0
 rotate_left
 .rw[ad (by omega)];exact no (λh=>h3 (hsz.2 h.2.2.1))
 rw[ac (by omega)];have h3:=hsz.1 h3;have hfl:=rd (λx=>decide (0<=x)) k.brk.places;have hsl:(wI (k.brk.places.filter λx=>decide (0<=x))).length=(k.brk.places.filter λx=>decide (0<=x)).length:=kU ..;have hsame:=ME (l:=k.clock.pts) (pl:=k.brk.places) hF h2.1.2.1 (λx hx=>(h2.1.2.2 x hx).1);generalize hS:wI (k.brk.places.filter λx=>decide (0<=x))=S at hsl hsame;have hs160:=phi (abL (l:=k.brk.places.filter λx=>decide (0<=x)) (by omega));rw[hS] at hs160;generalize hfe:(k.brk.places.filter λx=>decide (0<=x))=fl at hsl hsame hs160 hfl hS;have ho:=h2.1.2.1;have hmm:k.brk.wins.length=k.brk.places.length-1:=by have:=h2.1.1.2.2;omega
 have hwl:=fN (won:=wonI k.clock.now k.clock.pts) (places:=k.brk.places) (m:=k.brk.places.length-1) (k.brk.places.length-1);have hfine:=zP (won:=wonI k.clock.now k.clock.pts) (places:=k.brk.places) (v:=k.brk.wins) hmm;obtain⟨w,hw⟩:∃w,w=playD (wonI k.clock.now k.clock.pts) k.brk.places (k.brk.places.length-1) (k.brk.places.length-1):=⟨_,rfl⟩;have t123:(∀x∈k.brk.places,dO k.clock.pts x)->PhiS D 182 [F k.clock.pts,R k.clock.now,sl I1 k.brk.places]=some [BR ⟨k.brk.places,w⟩,sl ct (edsB w k.brk.places w.length)]/\ True:=λhv=>⟨phi (Sf hF h64.1 h1.1 hpl.1 hpl.2.1 hv ho hw),trivial⟩;rw[<-hw] at hwl hfine;have cB1:RF.ev (.cell 1) [BR ⟨k.brk.places,w⟩]=some (sl I1 w):=rfl;have tOk:(∀x∈k.brk.places,dO k.clock.pts x)->fl.length=k.clock.pts.length->w=k.brk.wins->decide (fe k)=decide (JustP k.clock (edsB w k.brk.places w.length)):=λhv hlen5 h6=>by
  have h6':=hfine.1 h6;have hJ:=sZ (c:=k.clock) h1.2.2.1 (rE (b:=k.brk) hF h2 hv h6' _ (aD _)) (λe he=>(nX (b:=k.brk) hF h2 hv h6' he).2.2);rw[h6,dD,aa,aa];exact⟨λh=>hJ.2 h.2.2.2.2.2.2,λh=>⟨h1,h2,h3,hv,by rw[hfe];exact hlen5,h6',hJ.1 h⟩⟩
 have cKT2':RF.ev (.cell 0) [F k.clock.pts]=some (sl row k.clock.pts):=rfl;simp only[au,cKT11,phi (qh (l:=k.brk.places) (by omega)),EV,aj];refine(b9 (m:=1001) (l:=k.brk.places) (p:=λx=>!decide (x<0)) (st:=λi=>[.i64 (i:Int)]) (r:=some [.i64 (okE (decide (fe k)))]) (fin:=some [.i64 (okE (decide (fe k)))]) (λi a self ha hp=>?_) (λhall self=>?_) (by omega)).trans ?_
 .have hi:=aJ ha;unfold B7;simp only[EV,aa,bc hi,ixM hi,aL ha,cg,up1 (show i<1000000000 by omega)]
  by_cases c:a<0
  rotate_left
  .rw[ac c,ad (by simp;omega)]
  .rw[ad c,ac (show¬(i:Int)= -1 by omega),ac (by simp[c])]
   have hend:=A6 ha c hp (k.brk.places.length-(i+1)) (by omega);refine(dF (m:=1001) (n:=k.brk.places.length-(i+1)) (st:=λt=>[sl I1 (cpt k.brk.places i t).1,.i64 ((cpt k.brk.places i t).2:Int),.i64 ((i+1+t:Nat):Int)]) (fin:=some [.i64 (okE (decide (fe k)))]) (λt self ht=>?_) (λself=>?_) (by omega))
   .obtain⟨q1,q2,_,q4⟩:=A6 ha c hp t (by omega);have hx:=ez (l:=k.brk.places) (i:=i+1+t) (by omega);have hy:=q4 (i+1+t) (aD _);rw[hx] at hy;have hz:cpt k.brk.places i (t+1)=if 0<=nthI k.brk.places (i+1+t) then((cpt k.brk.places i t).1.set (cpt k.brk.places i t).2 (nthI k.brk.places (i+1+t)),(cpt k.brk.places i t).2+1) else cpt k.brk.places i t:=rfl
    rw[hz];generalize cpt k.brk.places i t=s at q1 q2 hy;generalize nthI k.brk.places (i+1+t)=x at hy;unfold B6;simp only[EV,aa,bc (show i+1+t<k.brk.places.length by omega),ixM (show i+1+t<k.brk.places.length by omega),aL hy,cg,ixM (show s.2<k.brk.places.length by omega),gn (l:=s.1) (i:=s.2) (by omega),up1 (show s.2<1000000000 by omega),Ju,up1 (show i+1+t<1000000000 by omega)]
    by_cases c0:x<0
    .rw[ac (by simp[c0]),ac (by omega)];rfl
    .rw[ad (by simp[c0]),ad (by omega)];rfl
   .rw[show i+1+(k.brk.places.length-(i+1))=k.brk.places.length by omega,gx,hfe] at hend
    rw[show i+1+(k.brk.places.length-(i+1))=k.brk.places.length by omega]
    generalize cpt k.brk.places i (k.brk.places.length-(i+1))=s at hend;obtain⟨L,n⟩:=s;obtain⟨q1,q2,q3,q4⟩:=hend;simp only at q1 q2 q3;have hn:n=fl.length:=by rw[<-q3,aM];omega
    subst hn;have cl:=abM (L:=L) (a:=fl.length) (n:=k.brk.places.length-fl.length) (by omega);rw[q3] at cl;have bn:RF.ev .bnd [.v (.int .i64 (fl.length:Int)),.v (.int .i64 (k.brk.places.length:Int))]=some (.i64 (fl.length:Int)):=by rw[p6,ad ⟨by omega,by omega⟩]
    have dd:(k.brk.places.length:Int)-(fl.length:Int)=((k.brk.places.length-fl.length:Nat):Int):=by omega
    have ap:=Si (L:=fl++List.replicate (k.brk.places.length-fl.length) 0) (S:=S) (by rw[aE];omega);unfold B6;simp only[EV,aa,ac (show¬((k.brk.places.length:Nat):Int)<((k.brk.places.length:Nat):Int) by omega),Jt,bn,Int.zero_add,dd,cl,abN,au,hs160,ap,cKT2,aj,aA,ai,aV,ay]
    by_cases h5:fl.length=k.clock.pts.length
    rotate_left
    .rw[ad (by omega)];exact no (λh=>h5 (by have:=h.2.2.2.2.1;rw[hfe] at this;exact this))
    rw[ac (by omega)];have hzl:(S.zip k.clock.pts).length=fl.length:=by rw[lN];omega
    refine(b9 (m:=1001) (l:=S.zip k.clock.pts) (p:=λx=>decide (x.1=x.2.id)) (st:=λi=>[.i64 (i:Int)]) (r:=some [.i64 8]) (fin:=some [.i64 (okE (decide (fe k)))]) (λi x self hx _=>?_) (λhall self=>?_) (by omega)).trans ?_
    .obtain⟨hp,hq⟩:=fU hx;have hp':(S++(fl++List.replicate (k.brk.places.length-fl.length) 0).drop S.length)[i]?=some x.1:=by rw[aH (aJ hp)];exact hp
     have hi:=aJ hx;unfold B5;simp only[au,cKT2,EV,aj,aa,bc (show i<fl.length by omega),ixM (show i<fl.length by omega),aL hp',aO hq (bK _),aL hq,cg,eR,fJ,up1 (show i<1000000000 by omega),aA,ai]
     by_cases e:x.1=x.2.id
     .rw[ac (by simp[e]),ad e]
     .rw[ad e,ac e];rfl
    .rw[hzl];have h4:S=k.clock.pts.map Pt.id:=FD (by omega) hall;obtain⟨hv,hlen5⟩:=hsame.1 h4;obtain⟨e123,hmm⟩:=t123 hv;unfold B5;simp only[EV,aa,aj,ac (show¬((fl.length:Nat):Int)<((fl.length:Nat):Int) by omega),ac (show¬((fl.length:Nat):Int)<((fl.length:Nat):Int) by omega),Jr,aK,aw,ax,au,pKT2,pKT0,cKT11,cKT12,e123,jQ,cB1,phi (Gt (l:=w) (k:=k.brk.wins) (by omega)),aA,ai]
     by_cases h6:w=k.brk.wins
     rotate_left
     .rw[ad h6];exact no (λh=>h6 (hfine.2 h.2.2.2.2.2.1))
     rw[ac (by simp[h6])];have hd:=tOk hv hlen5 h6;rw[hd];have hEl:(edsB w k.brk.places w.length).length<=w.length:=ku ..;generalize edsB w k.brk.places w.length=E at hEl;have cc:=fL g1;simp only[au,pKT,eV,EV,aj];by_cases c1:E.length=k.clock.certs.list.length
     .rw[ad (aq (by omega))];refine(b9 (m:=1001) (l:=k.clock.certs.list) (p:=λh=>decide (h.cert∈E)) (st:=λi=>[.i64 (i:Int)]) (r:=some [.i64 8]) (fin:=some [.i64 0]) (λi a self ha _=>?_) (λ_ self=>?_) (by omega)).trans ?_
      .unfold B4;simp only[au,eV,aO ha (eS _),aL ha,ji,pHP,phi (yj (l:=E) a.cert (by omega)),EV,aj,aa,bc (aJ ha),up1 (show i<1000000000 by have:=aJ ha;omega),aA,ai]
       by_cases c2:a.cert∈E
       .rw[ac (by simp[c2]),ad c2]
       .rw[ad c2,ac c2];unfold wX;simp only[EV];rfl
      .unfold B4 Jq wX;simp only[EV,aa,bo];rfl
      .have:(k.clock.certs.list.all λh=>decide (h.cert∈E))=decide (JustP k.clock E):=by
        rw[dD,aa];unfold JustP;simp[c1]
       rw[this];cases decide (JustP k.clock E)<;>rfl
     .rw[ac (by simp;omega),show decide (JustP k.clock E)=false from ah (λh=>c1 h.1)]
      unfold wX;simp only[EV];rfl
    .by_cases hT:fe k
     .rw[ad (A5 (hsame.2 ⟨hT.2.2.2.1,by have:=hT.2.2.2.2.1;rw[hfe] at this;exact this⟩))]
     .split
      .rfl
      .exact no hT
 .have hall':fl=k.brk.places:=by
   rw[<-hfe];exact sL.2 λx hx=>by
    have:=aQ.1 hall x hx;simp at this|-;omega
  have ap:=Si (L:=k.brk.places) (S:=S) (by omega);have hsu:RF.ev .sub [sl I1 k.brk.places,.v (.int .i64 0),.v (.int .i64 (k.brk.places.length:Int))]=some (sl I1 fl):=by rw[hall'];exact bI
  unfold B7;simp only[EV,aa,bo,Jp,cG,ay,hsu,au,hs160,ap,cKT2,aj,aA,ai,aV];have hpl':k.brk.places.length=fl.length:=by rw[hall']
  rw[hpl'];by_cases h5:fl.length=k.clock.pts.length
  rotate_left
  .rw[ad (by omega)];exact no (λh=>h5 (by have:=h.2.2.2.2.1;rw[hfe] at this;exact this))
  rw[ac (by omega)];have hzl:(S.zip k.clock.pts).length=fl.length:=by rw[lN];omega
  refine(b9 (m:=1001) (l:=S.zip k.clock.pts) (p:=λx=>decide (x.1=x.2.id)) (st:=λi=>[.i64 (i:Int)]) (r:=some [.i64 8]) (fin:=some [.i64 (okE (decide (fe k)))]) (λi x self hx _=>?_) (λhall self=>?_) (by omega)).trans ?_
  .obtain⟨hp,hq⟩:=fU hx;have hp':(S++k.brk.places.drop S.length)[i]?=some x.1:=by rw[aH (aJ hp)];exact hp
   have hi:=aJ hx;unfold B3;simp only[au,cKT2,EV,aj,aa,bc (show i<fl.length by omega),ixM (show i<fl.length by omega),aL hp',aO hq (bK _),aL hq,cg,eR,fJ,up1 (show i<1000000000 by omega),aA,ai]
   by_cases e:x.1=x.2.id
   .rw[ac (by simp[e]),ad e]
   .rw[ad e,ac e];rfl
  .rw[hzl];have h4:S=k.clock.pts.map Pt.id:=FD (by omega) hall;obtain⟨hv,hlen5⟩:=hsame.1 h4;obtain⟨e123,hmm⟩:=t123 hv;unfold B3;simp only[EV,aa,aj,ac (show¬((fl.length:Nat):Int)<((fl.length:Nat):Int) by omega),ac (show¬((fl.length:Nat):Int)<((fl.length:Nat):Int) by omega),Pi,aK,aw,ax,au,pKT2,pKT0,cKT11,cKT12,e123,jQ,cB1,phi (Gt (l:=w) (k:=k.brk.wins) (by omega)),aA,ai]
   by_cases h6:w=k.brk.wins
   rotate_left
   .rw[ad h6];exact no (λh=>h6 (hfine.2 h.2.2.2.2.2.1))
   rw[ac (by simp[h6])];have hd:=tOk hv hlen5 h6;rw[hd];have hEl:(edsB w k.brk.places w.length).length<=w.length:=ku ..;generalize edsB w k.brk.places w.length=E at hEl;have cc:=fL g1;simp only[au,pKT,eV,EV,aj];by_cases c1:E.length=k.clock.certs.list.length
   .rw[ad (aq (by omega))];refine(b9 (m:=1001) (l:=k.clock.certs.list) (p:=λh=>decide (h.cert∈E)) (st:=λi=>[.i64 (i:Int)]) (r:=some [.i64 8]) (fin:=some [.i64 0]) (λi a self ha _=>?_) (λ_ self=>?_) (by omega)).trans ?_
    .unfold G5;simp only[au,eV,aO ha (eS _),aL ha,ji,pHP,phi (yj (l:=E) a.cert (by omega)),EV,aj,aa,bc (aJ ha),up1 (show i<1000000000 by have:=aJ ha;omega),aA,ai]
     by_cases c2:a.cert∈E
     .rw[ac (by simp[c2]),ad c2]
     .rw[ad c2,ac c2];unfold Af;simp only[EV];rfl
    .unfold G5 Ph Af;simp only[EV,aa,bo];rfl
    .have:(k.clock.certs.list.all λh=>decide (h.cert∈E))=decide (JustP k.clock E):=by
      rw[dD,aa];unfold JustP;simp[c1]
     rw[this];cases decide (JustP k.clock E)<;>rfl
   .rw[ac (by simp;omega),show decide (JustP k.clock E)=false from ah (λh=>c1 h.1)]
    unfold Af;simp only[EV];rfl
  .by_cases hT:fe k
   .rw[ad (A5 (hsame.2 ⟨hT.2.2.2.1,by have:=hT.2.2.2.2.1;rw[hfe] at this;exact this⟩))]
   .split
    .rfl
    .exact no hT
 .split<;>rfl
def zC:Clock:=⟨⟨0,0⟩,[],⟨0,[]⟩,⟨⟨[],[],[]⟩,[],[]⟩,[]⟩
def zKH:KHeap:=⟨zC,[]⟩
def zKT:KTourn:=⟨zC,⟨[],[]⟩⟩
def zHT:Heater:=⟨zC,⟨0,[]⟩⟩
def Zr {l:List Pt}(h:gF l=false):l.length<=70:=by
 unfold gF at h
 grind
def c76 {c:Clock}(hg:gCl c=false):Ans D 137 [CL c] [.bool (decide (c=zC))]:=by
 unfold gCl gAg gSl at hg;simp only[cR,ai] at hg;obtain⟨⟨⟨g1,g2⟩,g3⟩,⟨⟨⟨g4,g5⟩,g6⟩,g7⟩,g8⟩:=hg;have g3:=Zr g3;have pS:RF.ev (.part 5 3) [CL c]=some (SL c.agenda.slots):=rfl;have c3:RF.ev (.cell 3) [CL c]=some (.i64 c.certs.next):=rfl;have sAG:RF.ev (.shape 5) [AG c.agenda]=some (AG c.agenda):=rfl;have sSL:RF.ev (.shape 3) [SL c.agenda.slots]=some (SL c.agenda.slots):=rfl;have a2:RF.ev .agg [.v (.int .i64 0),.v (.int .i64 0)]=some (R ⟨0,0⟩):=rfl;refine am ?_;unfold k76;have w:∀a b:Nat,a<=10000->b<=10000->IntKind.i64.wrap ((a:Int)+(b:Int))=((a+b:Nat):Int):=λa b ha hb=>by rw[cy (by omega) (by omega)];omega
 simp only[au,dq,lV,pS,sAG,sSL,eU,c3,kn,eV,dY,eT,km,iS,kj,iT,a2,AN,EV,aj,Pe,aa];rw[w _ _ (by omega) (by omega),w _ _ (by omega) (by omega),w _ _ (by omega) (by omega),w _ _ (by omega) (by omega),w _ _ (by omega) (by omega),w _ _ (by omega) (by omega),w _ _ (by omega) (by omega)];obtain⟨n,p,⟨nx,cl⟩,⟨⟨u,ud,f⟩,hp,wh⟩,d⟩:=c;simp only at*;by_cases e1:n=⟨0,0⟩
 .by_cases e2:nx=0
  .rw[ad e1,ad e2]
   congr 4
   refine bU.2 ?_;subst e1;subst e2;unfold zC;simp only[Clock.mk.injEq,Certs.mk.injEq,Agenda.mk.injEq,Slots.mk.injEq,dS,<-cZ];omega
  .rw[ad e1,ac e2,ah (λh=>e2 (by cases h;rfl))]
 .rw[ac e1,ah (λh=>e1 (by cases h;rfl))]
def ed (c:Choice):Clock:=if c.tag=1 then c.heap.clock else if c.tag=2 then c.tourn.clock else if c.tag=3 then c.heater.clock else c.hanger.clock
section
variable (c:Choice)
def pK1:RF.ev (.part 1 11) [CHO c]=some (CL c.heap.clock):=rfl
def pK2:RF.ev (.part 13 11) [CHO c]=some (CL c.tourn.clock):=rfl
def pK3:RF.ev (.part 26 11) [CHO c]=some (CL c.heater.clock):=rfl
def pK4:RF.ev (.part 39 11) [CHO c]=some (CL c.hanger.clock):=rfl
def abO:RF.ev (.cell 12) [CHO c]=some (sl I1 c.heap.heap):=rfl
def abP:RF.ev (.cell 24) [CHO c]=some (sl I1 c.tourn.brk.places):=rfl
def abQ:RF.ev (.cell 25) [CHO c]=some (sl I1 c.tourn.brk.wins):=rfl
def abR:RF.ev (.cell 37) [CHO c]=some (.i64 c.heater.tree.root):=rfl
def abS:RF.ev (.cell 38) [CHO c]=some (sl c8 c.heater.tree.nodes):=rfl
def abT:RF.ev (.cell 50) [CHO c]=some (sl I1 c.hanger.heap):=rfl
end
def u8E (a b:Int):RF.ev (.bin .eql) [.v (.int .u8 a),.v (.int .u8 b)]=some (.v (.bool (decide (a=b)))):=rfl
def d66 (c:Choice):∃N,den (PhiS D) N k66 [] [CHO c]=some [CL (ed c)]:=by
 refine⟨1,?_⟩;unfold k66 ed;simp[eP,cCH,pK1,pK2,pK3,pK4,EV]
 grind
def c66 (c:Choice):Ans D 86 [CHO c] [CL (ed c)]:=an (d66 c)
def c13 (c:Choice):Ans D 25 [CHO c] [CL (ed c)]:=an (d66 c)
def pK (c:Choice):Prop:=(c.tag≠1->c.heap=zKH)/\(c.tag≠2->c.tourn=zKT)/\(c.tag≠3->c.heater=zHT)/\(c.tag≠4->c.hanger=zKH)
def ei (c:Choice):Prop:=if c.tag=1 then iH c.heap else if c.tag=2 then fe c.tourn else if c.tag=3 then j0 c.heater else if c.tag=4 then jZ c.hanger else False
def jI (c:Choice):Prop:=pK c/\ ei c/\ di (ed c).now=0
structure Cho64 (c:Choice):Prop where
 tag:0<=c.tag/\ c.tag<=255
 h1:fu c.heap.clock
 h2:fu c.tourn.clock
 h3:fu c.heater.clock
 h4:fu c.hanger.clock
def te {c:Choice}(h:Cho64 c):fu (ed c):=by
 unfold ed;split
 .exact h.h1
 split
 .exact h.h2
 split
 .exact h.h3
 .exact h.h4
def zZ {c:Choice}(h:gCh c=false):gKh c.heap=false/\ gKt c.tourn=false/\ gHt c.heater=false/\ gKh c.hanger=false:=by
 unfold gCh at h
 grind
def pL (b:Bool)(e:Int):Int:=if b=false then 8 else if e≠0 then 8 else 0
open Classical in
def A7 {c:Choice}(ha:pK c):pL (decide (ei c)) (di (ed c).now)=okE (decide (jI c)):=by
 unfold pL;by_cases h1:ei c
 .rw[aq h1,ac (by simp)];by_cases h2:di (ed c).now=0
  .rw[ac (λg=>g h2),aq (show jI c from⟨ha,h1,h2⟩)];rfl
  .rw[ad h2,ah (λh=>h2 h.2.2)];rfl
 .rw[ah h1,ad rfl,ah (λh=>h1 h.2.1)];rfl
def usedB (c:Choice):Nat->Bool
 |0=>!decide (c.heap=zKH)
 |1=>!decide (c.tourn=zKT)
 |2=>!decide (c.heater=zHT)
 |_=>!decide (c.hanger=zKH)
def zh {c:Choice}(ht:0<=c.tag/\ c.tag<=255):(∀i:Nat,i<4->¬(usedB c i=true/\((i+1:Nat):Int)≠c.tag))↔pK c:=by
 unfold pK;constructor
 .intro h;have h0:=h 0 (by omega);have h1:=h 1 (by omega);have h2:=h 2 (by omega);have h3:=h 3 (by omega);simp[usedB] at h0 h1 h2 h3
  grind
 .rintro⟨h0,h1,h2,h3⟩ i hi ⟨hu,hne⟩
  match i,hi with
  |0,_=>simp[usedB] at hu;exact hu (h0 (λe=>hne (by omega)))
  |1,_=>simp[usedB] at hu;exact hu (h1 (λe=>hne (by omega)))
  |2,_=>simp[usedB] at hu;exact hu (h2 (λe=>hne (by omega)))
  |3,_=>simp[usedB] at hu;exact hu (h3 (λe=>hne (by omega)))
open Classical in
def e26 {c:Choice}(h64:Cho64 c)(hg:gCh c=false){e2 e3 e4 e5:PV}:den (PhiS D) 1001 GY [] [CHO c,CHO c,e2,e3,e4,e5]=some [.i64 (pL (decide (ei c)) (di (ed c).now))]:=by
 obtain⟨g1,g2,g3,g4⟩:=zZ hg;have fin:∀(x:Int) (p:Prop),x=okE (decide p)->(ei c↔p)->den (PhiS D) 1001 GX [] [CHO c,CHO c,e2,e3,e4,e5,.v (.int .u8 c.tag),.v (.bool (decide (c.tag=1))),.i64 x]=some [.i64 (pL (decide (ei c)) (di (ed c).now))]:=λx p hx hp=>by
  subst hx;unfold GX pL;simp only[au,EV,gJ,aA,ai,phi (c66 c),eU,phi (c44 (te h64).1)]
  grind
 unfold GY;simp only[au,cCH,u8E,AJ,AK,AL,AM,EV,aa,phi (c77 h64.h1 g1),phi (c78 h64.h2 g2),phi (c79 h64.h3 g3),phi (c80 h64.h4 g4),O8,O9,Pa];by_cases t1:c.tag=1
 .rw[ad t1];exact fin _ _ rfl (by unfold ei;rw[ad t1])
 rw[ac t1];by_cases t2:c.tag=2
 .rw[ad t2];exact fin _ _ rfl (by unfold ei;rw[ac t1,ad t2])
 rw[ac t2];by_cases t3:c.tag=3
 .rw[ad t3];exact fin _ _ rfl (by unfold ei;rw[ac t1,ac t2,ad t3])
 rw[ac t3];by_cases t4:c.tag=4
 .rw[ad t4];exact fin _ _ rfl (by unfold ei;rw[ac t1,ac t2,ac t3,ad t4])
 rw[ac t4];exact fin 8 False (by simp;rfl) (by unfold ei;rw[ac t1,ac t2,ac t3,ac t4])
def agU (a b c d:Bool):RF.ev .agg [.v (.bool a),.v (.bool b),.v (.bool c),.v (.bool d)]=some (.agg [.v (.bool a),.v (.bool b),.v (.bool c),.v (.bool d)]):=rfl
open Classical in
def f26 {c:Choice}(h64:Cho64 c)(hg:gCh c=false){b1 b2 b3 b4:Bool}(h1:b1=usedB c 0)(h2:b2=usedB c 1)(h3:b3=usedB c 2)(h4:b4=usedB c 3):den (PhiS D) 1001 G0 [] [CHO c,CHO c,.v (.bool b1),.v (.bool b2),.v (.bool b3),.v (.bool b4)]=some [.i64 (okE (decide (jI c)))]:=by
 obtain⟨t1,t2⟩:=h64.tag;have wt:IntKind.i64.wrap c.tag=c.tag:=cy (by omega) (by omega);unfold G0;simp only[EV];refine(ef (m:=1001) (n:=4) (P:=λi=>¬(usedB c i=true/\((i+1:Nat):Int)≠c.tag)) (st:=λi=>[.i64 (i:Int)]) (r:=some [.i64 8]) (fin:=some [.i64 (pL (decide (ei c)) (di (ed c).now))]) (λi self hi _=>?_) (λ_ self=>?_) (by omega)).trans ?_
 .have hu:RF.ev (.aix 1 4 0) [.agg [.v (.bool b1),.v (.bool b2),.v (.bool b3),.v (.bool b4)],.v (.int .i64 (i:Int))]=some (.v (.bool (usedB c i))):=by
   match i,hi with
   |0,_=>rw[h1];rfl
   |1,_=>rw[h2];rfl
   |2,_=>rw[h3];rfl
   |3,_=>rw[h4];rfl
  have l4:decide ((i:Int)<4)=true:=aq (by omega);unfold GZ;simp only[au,cCH,agU,hu,EV,l4,cG,ay,wt,Pb,up1 (show i<1000000000 by omega)]
  cases usedB c i with
  |false=>simp
  |true=>
   by_cases e:((i+1:Nat):Int)=c.tag
   .simp[e]
   .simp[e]
 .unfold GZ;simp only[EV,show decide (((4:Nat):Int)<4)=false from rfl,aw,ax]
  exact e26 h64 hg
 .by_cases ha:pK c
  .rw[ad ((zh ⟨t1,t2⟩).2 ha),A7 ha]
  .rw[ac (λh=>ha ((zh ⟨t1,t2⟩).1 h)),ah (λh:jI c=>ha h.1)];rfl
set_option maxHeartbeats 4000000 in
open Classical in
def c26 {c:Choice}(h64:Cho64 c)(hg:gCh c=false):Ans D 85 [CHO c] [.i64 (okE (decide (jI c)))]:=by
 obtain⟨g1,g2,g3,g4⟩:=zZ hg;have z1:=phi (c76 (qy g1).1);have z2:=phi (c76 (td g2).1);have z3:=phi (c76 (AZ g3).1);have z4:=phi (c76 (qy g4).1);have w:∀a b:Nat,a<=10000->b<=10000->IntKind.i64.wrap ((a:Int)+(b:Int))=((a+b:Nat):Int):=λa b ha hb=>by rw[cy (by omega) (by omega)];omega
 have w1:=w c.tourn.brk.places.length c.tourn.brk.wins.length (by have:=td g2;omega) (by have:=td g2;omega);have p0:∀n:Nat,decide ((0:Int)<(n:Int))=decide (0<n):=λn=>bU.2 (by omega);have u1:(c.heap.clock=zC->decide (0<c.heap.heap.length)=usedB c 0)/\(¬c.heap.clock=zC->true=usedB c 0):=by
  unfold usedB zKH;obtain⟨t,⟨k,l⟩,b,d,e⟩:=c;simp only[KHeap.mk.injEq];refine⟨λh=>?_,λh=>by simp[h]⟩;cases l<;>simp[h]
 have u2:(c.tourn.clock=zC->decide (0<c.tourn.brk.places.length+c.tourn.brk.wins.length)=usedB c 1)/\(¬c.tourn.clock=zC->true=usedB c 1):=by
  unfold usedB zKT;obtain⟨t,b,⟨k,⟨p,l⟩⟩,d,e⟩:=c;simp only[KTourn.mk.injEq,Brk.mk.injEq];refine⟨λh=>?_,λh=>by simp[h]⟩;cases p<;>cases l<;>simp[h]<;>omega
 have u3:(c.heater.clock=zC->c.heater.tree.root=0->decide (0<c.heater.tree.nodes.length)=usedB c 2)/\(¬c.heater.clock=zC->true=usedB c 2)/\(¬c.heater.tree.root=0->true=usedB c 2):=by
  unfold usedB zHT;obtain⟨t,b,d,⟨k,⟨p,l⟩⟩,e⟩:=c;simp only[Heater.mk.injEq,Tree.mk.injEq];refine⟨λh h'=>?_,λh=>by simp[h],λh=>by simp[h]⟩;cases l<;>simp[h,h']
 have u4:(c.hanger.clock=zC->decide (0<c.hanger.heap.length)=usedB c 3)/\(¬c.hanger.clock=zC->true=usedB c 3):=by
  unfold usedB zKH;obtain⟨t,b,d,e,⟨k,l⟩⟩:=c;simp only[KHeap.mk.injEq];refine⟨λh=>?_,λh=>by simp[h]⟩;cases l<;>simp[h]
 refine an ⟨1001,?_⟩;unfold k26;by_cases y1:c.heap.clock=zC<;>by_cases y2:c.tourn.clock=zC<;>by_cases y3:c.heater.clock=zC<;>by_cases y4:c.hanger.clock=zC<;>by_cases y5:c.heater.tree.root=0
 all_goals
  first|rw[aq y1] at z1|rw[ah y1] at z1
  first|rw[aq y2] at z2|rw[ah y2] at z2
  first|rw[aq y3] at z3|rw[ah y3] at z3
  first|rw[aq y4] at z4|rw[ah y4] at z4
  simp only[au,eP,pK1,pK2,pK3,pK4,abO,abP,abQ,abR,abS,abT,z1,z2,z3,z4,EV,aj,w1,p0,y5,az,bb,aK,aV,aw,ay,ax,bA];refine f26 h64 hg ?_ ?_ ?_ ?_
 all_goals first
  |exact u1.1 y1
  |exact u1.2 y1
  |exact u2.1 y2
  |exact u2.2 y2
  |exact u3.1 y3 y5
  |exact u3.2.1 y3
  |exact u3.2.2 y5
  |exact u4.1 y4
  |exact u4.2 y4
open Classical in
def e27 {c:Choice}(h64:Cho64 c)(hg:gCh c=false){b:Bool}(hb:b=decide (¬pK c)):den (PhiS D) 1001 GU [] [CHO c,CHO c,.v (.bool b)]=some [.i64 (okE (decide (jI c)))]:=by
 obtain⟨g1,g2,g3,g4⟩:=zZ hg;unfold GU;by_cases ha:pK c
 rotate_left
 .rw[hb,aq ha,ah (λh:jI c=>ha h.1)];simp only[EV,ay];rfl
 rw[hb,ah (λh=>h ha),<-A7 ha];have fin:∀(x:Int) (p:Prop),x=okE (decide p)->(ei c↔p)->den (PhiS D) 1001 GT [] [CHO c,CHO c,.v (.bool false),.v (.int .u8 c.tag),.v (.bool (decide (c.tag=1))),.i64 x]=some [.i64 (pL (decide (ei c)) (di (ed c).now))]:=λx p hx hp=>by
  subst hx;unfold GT pL;simp only[au,EV,gJ,aA,ai,phi (c13 c),eU,phi (c64 (te h64).1)];by_cases hp':p
  .rw[aq hp',ad rfl,ac (show¬¬ei c fromλg=>g (hp.2 hp'))]
   by_cases e:di (ed c).now=0<;>simp[e]
  .rw[ah hp',ac (by simp),ad (λh=>hp' (hp.1 h))]
 simp only[au,cCH,u8E,AJ,AK,AL,AM,EV,aw,ax,aa,phi (c81 h64.h1 g1),phi (c82 h64.h2 g2),phi (c83 h64.h3 g3),phi (c84 h64.h4 g4),OW,OX,OY];by_cases t1:c.tag=1
 .rw[ad t1];exact fin _ _ rfl (by unfold ei;rw[ad t1])
 rw[ac t1];by_cases t2:c.tag=2
 .rw[ad t2];exact fin _ _ rfl (by unfold ei;rw[ac t1,ad t2])
 rw[ac t2];by_cases t3:c.tag=3
 .rw[ad t3];exact fin _ _ rfl (by unfold ei;rw[ac t1,ac t2,ad t3])
 rw[ac t3];by_cases t4:c.tag=4
 .rw[ad t4];exact fin _ _ rfl (by unfold ei;rw[ac t1,ac t2,ac t3,ad t4])
 rw[ac t4];exact fin 8 False (by simp;rfl) (by unfold ei;rw[ac t1,ac t2,ac t3,ac t4])
def u8N (a b:Int):RF.ev (.bin .neq) [.v (.int .u8 a),.v (.int .u8 b)]=some (.v (.bool (!decide (a=b)))):=rfl
set_option maxHeartbeats 4000000 in
open Classical in
def c27 {c:Choice}(h64:Cho64 c)(hg:gCh c=false):Ans D 46 [CHO c] [.i64 (okE (decide (jI c)))]:=by
 obtain⟨g1,g2,g3,g4⟩:=zZ hg;have z1:=phi (c51 (t:=zKH) g1);have z2:=phi (c52 (t:=zKT) g2);have z3:=phi (c53 (t:=zHT) g3);have z4:=phi (c54 (t:=zKH) g4);have a12:RF.ev .agg [.v (.int .i64 0),.v (.int .i64 0),.sl [],.v (.int .i64 0),.sl [],.sl [],.sl [],.sl [],.sl [],.sl [],.sl [],.sl []]=some (KH zKH):=rfl;have a13:RF.ev .agg [.v (.int .i64 0),.v (.int .i64 0),.sl [],.v (.int .i64 0),.sl [],.sl [],.sl [],.sl [],.sl [],.sl [],.sl [],.sl [],.sl []]=some (KT zKT):=rfl;have a14:RF.ev .agg [.v (.int .i64 0),.v (.int .i64 0),.sl [],.v (.int .i64 0),.sl [],.sl [],.sl [],.sl [],.sl [],.sl [],.sl [],.v (.int .i64 0),.sl []]=some (HT zHT):=rfl;refine an ⟨1001,?_⟩;have e:=λb=>e27 h64 hg (b:=b);unfold k27;unfold pK at e;have y0:((c.tag=1/\¬c.tag=2/\¬c.tag=3/\¬c.tag=4)\/(¬c.tag=1/\ c.tag=2/\¬c.tag=3/\¬c.tag=4))\/((¬c.tag=1/\¬c.tag=2/\ c.tag=3/\¬c.tag=4)\/(¬c.tag=1/\¬c.tag=2/\¬c.tag=3/\ c.tag=4))\/(¬c.tag=1/\¬c.tag=2/\¬c.tag=3/\¬c.tag=4):=by omega
 by_cases y1:c.heap=zKH<;>by_cases y2:c.tourn=zKT<;>by_cases y3:c.heater=zHT<;>by_cases y4:c.hanger=zKH<;>rcases y0 with(⟨t1,t2,t3,t4⟩|⟨t1,t2,t3,t4⟩)|(⟨t1,t2,t3,t4⟩|⟨t1,t2,t3,t4⟩)|⟨t1,t2,t3,t4⟩
 all_goals
  first|rw[aq y1] at z1|rw[ah y1] at z1
  first|rw[aq y2] at z2|rw[ah y2] at z2
  first|rw[aq y3] at z3|rw[ah y3] at z3
  first|rw[aq y4] at z4|rw[ah y4] at z4
  simp only[au,eP,cCH,u8N,AJ,AK,AL,AM,a12,a13,a14,z1,z2,z3,z4,EV,t1,t2,t3,t4,Int.reduceEq,az,bb,aK,aV,aw,ay,ax];refine e _ ?_;simp only[y1,y2,y3,y4,t1,t2,t3,t4,Int.reduceEq,ne_eq,cH,ey,false_implies,true_implies,fF,gz,dS,eN,fS,az,bb]
end Go.Proofs.YtndgdhbpojakpaaGreat
