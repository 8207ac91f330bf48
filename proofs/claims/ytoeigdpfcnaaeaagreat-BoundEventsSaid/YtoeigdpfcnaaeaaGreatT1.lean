import Derived.Test.YtoeigdpfcnaaeaaGreatW1
set_option linter.unusedVariables false
set_option linter.unusedSimpArgs false
set_option linter.defProp false
noncomputable section
namespace Go.Proofs.YtoeigdpfcnaaeaaGreat
open Go.Sym Bnd
set_option maxRecDepth 100000
def Pw (m:Mt):cM 0 4 (cR m)=some (MP m):=rfl
def afR (m:Mt):cM 0 2 (cR m)=some (R m.time):=rfl
def akN {x y:Mt}(hx:aS x.time)(hy:aS y.time):Ans D 211 [MP x,MP y] [.bool (ltM x y)]:=by
 have m:=phi (Do hx hy);refine am ?_;unfold ach ltM;simp only[ay,Pz,pMt,m,afZ,af0,EV];unfold sgn;by_cases h1:crs x.time y.time<0
 .simp[h1]
 .by_cases h2:crs x.time y.time=0
  .by_cases h3:x.i=y.i
   .simp[h2,h3]
   .simp[h2,h3]
  .have:0<crs x.time y.time:=by omega
   simp[h1,h2,show(0:Int)<crs x.time y.time from this]
def l9:List Pt->Nat->List Mt
 |[],_=>[]
 |_,0=>[]
 |p::l,i+1=>(l.filter λq=>decide (p.b≠q.b)).map (gQ p)++l9 l i
def MA:∀l:List Pt,l9 l l.length=rawM l
 |[]=>rfl
 |p::l=>by show _++l9 l l.length=_;rw[MA l];rfl
def Bi:∀{l:List Pt} {i:Nat} {p:Pt},l[i]?=some p->l9 l (i+1)=l9 l i++((l.drop (i+1)).filter λq=>decide (p.b≠q.b)).map (gQ p)
 |[],i,p,h=>by simp at h
 |q::l,0,p,h=>by
  cases h;cases l<;>simp[l9]
 |q::l,i+1,p,h=>by
  have ih:=Bi (l:=l) (i:=i) (p:=p) (by simpa using h)
  show _++l9 l (i+1)=(_++l9 l i)++_
  rw[ih,bg];rfl
def MB {l:List Pt}(h:okF l):∀i,i<=l.length->(l9 l i).length<=i*64
 |0,_=>by cases l<;>simp[l9]
 |i+1,hi=>by
  obtain⟨p,hp⟩:∃p,l[i]?=some p:=⟨_,ai (by omega)⟩;have ih:=MB h i (by omega);rw[Bi hp,aD,ah];have h1:=gn (λq:Pt=>decide (p.b≠q.b)) (l.drop (i+1));have h2:=h.1;rw[bQ] at h1;omega
def MC (p:Pt):∀(l:List Pt) (acc:List Mt),l.foldl (λacc q=>if p.b≠q.b then acc++[gQ p q] else acc) acc=acc++(l.filter λq=>decide (p.b≠q.b)).map (gQ p)
 |[],acc=>by simp
 |q::l,acc=>by
  rw[c6,MC p l,cS];by_cases h:p.b=q.b<;>simp[h]
def afS (m:Mt):RF.ev (.bs 1 [KP.z,KP.z,KP.z,KP.z] [0]) [MP m]=some (sl cR [m]):=rfl
def afT (m:Mt):RF.ev .sub [sl cR [m],.v (.int .i64 0),.v (.int .i64 1)]=some (sl cR [m]):=rfl
def akO (p q:Pt):RF.ev .agg [R (mkR (p.a-q.a) (q.b-p.b)),.i64 p.id,.i64 q.id]=some (MP (gQ p q)):=rfl
def akP (p:Pt):RF.ev (.part 0 3) [PP p]=some (PP p):=rfl
def akQ (t:Rt):RF.ev (.part 0 2) [R t]=some (R t):=rfl
def akR (p:Pt):RF.ev (.cell 0) [PP p]=some (.i64 p.id):=rfl
def afU (p:Pt):RF.ev (.cell 2) [PP p]=some (.i64 p.b):=rfl
section
variable {l:List Pt}(h:okF l)
include h
theorem afV {N:Nat}{f g:JT}{y0 y2 y3 y5 y6 y7 y8:PV}{i:Nat}{p:Pt}(hp:l[i]?=some p){m:Nat}(hm:100<m):
  dl (bx D) N vF [f,g,kJ (bx D) N Ca [f,g] [y0,F l,y2,y3,.i64 (i:Int),y5,y6,y7,y8]] [y0,F l,y2,y3,.i64 (i:Int),y5,y6,y7,y8] m [sl cR (l9 l i),.i64 ((l9 l i).length:Int),.i64 ((i+1:Nat):Int)]=
   g [sl cR (l9 l (i+1)),.i64 ((l9 l (i+1)).length:Int),.i64 ((i+1:Nat):Int)]:=by
 have h64:=h.1;have hil:=aO hp;have hpl:=MB h i (by omega);have key:=(gR (Φ:=bx D) (N:=N) (b:=vF) (J:=[f,g,kJ (bx D) N Ca [f,g] [y0,F l,y2,y3,.i64 (i:Int),y5,y6,y7,y8]]) (e:=[y0,F l,y2,y3,.i64 (i:Int),y5,y6,y7,y8]) (l:=l.drop (i+1)) (g:=λacc q=>if p.b≠q.b then acc++[gQ p q] else acc) (I:=λj acc=>acc.length<=i*64+j) (S:=λacc j=>[sl cR acc,.i64 (acc.length:Int),.i64 ((i+1+j:Nat):Int)]) (fin:=λacc=>g [sl cR acc,.i64 (acc.length:Int),.i64 ((i+1:Nat):Int)]) (x:=l9 l i) (by omega) (λj q acc _ hI=>by
  have hI:acc.length<=i*64+j:=hI;show(if p.b≠q.b then acc++[gQ p q] else acc).length<=i*64+(j+1)
  split
  .rw[aD,aN];omega
  .omega) (λj q acc self hq hI=>?_) (λacc self _=>?_) (m:=m) (by rw[bQ];omega)).1
 .rw[MC,<-Bi hp] at key;exact key
 .have hjl:=aO hq;rw[bQ] at hjl;rw[fC] at hq;have lt:decide (((i+1+j:Nat):Int)<(l.length:Int))=true:=aq (by omega);have a1:RF.ev (.app 32 4) [sl cR acc,.v (.int .i64 (acc.length:Int)),sl cR [gQ p q]]=some (sl cR (acc++[gQ p q])):=eF (by simp;omega) nj;have ep:RF.ev (.elt 0 3) [sl row l,.v (.int .i64 (i:Int))]=some (PP p):=(aM hp).trans (gu p);have eq:RF.ev (.elt 0 3) [sl row l,.v (.int .i64 ((i+1+j:Nat):Int))]=some (PP q):=(aM hq).trans (gu q);have u:=up1 (show i+1+j<1000000000 by omega)
  have hI:acc.length<=i*64+j:=hI;show _=self [sl cR (if p.b≠q.b then acc++[gQ p q] else acc),.i64 ((if p.b≠q.b then acc++[gQ p q] else acc).length:Int),.i64 ((i+1+(j+1):Nat):Int)]
  by_cases hb:p.b=q.b
  .have hd:decide (p.b=q.b)=true:=aq hb;rw[ac (λh=>h hb)];unfold vF;simp only[ay,EV,cv,ah,lt,az,aT hp (b6 p),ep,aT hq (b6 q),eq,jL,afU,hd,aF,au,aw,gY,Hn,u];rfl
  .have hd:decide (p.b=q.b)=false:=ak hb;have m396:=phi (Zw (dr h hp) (dr h hq) hb);rw[ad hb];unfold vF;simp only[ay,EV,cv,ah,lt,az,aT hp (b6 p),ep,aT hq (b6 q),eq,jL,afU,hd,bA,akP,akR,m396,ba,akQ,akO,afS,afT,a1,gY,Hn,u];rfl
 .unfold vF;have lt:decide (((i+1+(l.drop (i+1)).length:Nat):Int)<(l.length:Int))=false:=ak (by rw[bQ];omega);simp only[ay,EV,cv,ah,lt,au,aw,gY,Ca,up1 (show i<1000000000 by omega)]
end
def XK {ds:List Mt}{k:Nat}{c d:Mt}(h:ds[k]?=some c):RF.ev (.set 0) [sl cR ds,.v (.int .i64 (k:Int)),MP d]=some (sl cR (ds.set k d)):=by
 unfold sl;rw[xH,ad (by omega),aG,a8,h];show(if 0+(cR d).length<=(cR c).length then some (PV.sl ((ds.map cR).set k (nY (cR c) 0 (cR d)))) else none)=_
 rw[ad (by rw[nj,nj];omega),show nY (cR c) 0 (cR d)=cR d from rfl,<-nq]
def TH {ds:List Mt}{k:Nat}{x y:Mt}(hx:ds[k+1]?=some x)(hy:ds[k]?=some y):((ds.set (k+1) y).set k x).Perm ds:=by
 obtain⟨h1,rfl⟩:=aC.1 hx;obtain⟨h2,rfl⟩:=aC.1 hy;exact kz h1 h2
section
variable {N:Nat}{f1 f2:JT}{y0 y1 y2:PV}{n:Nat}{L:List Mt}
def XL (hn:n<=5000){i:Nat}{y4 y6:PV}(hi:i<5000)(h64:∀m∈L,aS m.time):
  ∀(k m:Nat) (ds:List Mt),k<m->k<n->ds.length=n->ds.Perm L->
  ∃ds':List Mt,ds'.Perm L/\ dl (bx D) N B9 [f1,f2,kJ (bx D) N B8 [f1,f2] [y0,y1,y2,.v (.int .i64 (n:Int)),y4,.i64 (i:Int),y6]] [y0,y1,y2,.v (.int .i64 (n:Int)),y4,.i64 (i:Int),y6] m [sl cR ds,.i64 (k:Int)]=f2 [sl cR ds',.i64 ((i+1:Nat):Int)]
 |0,m,ds,hm,hk,hd,hp=>by
  obtain⟨m,rfl⟩:∃m',m=m'+1:=⟨m-1,by omega⟩;refine⟨ds,hp,?_⟩;rw[bu];unfold B9;have e0:decide ((0:Int)<((0:Nat):Int))=false:=rfl;simp only[ay,EV,e0,au,aw,gY,B8,up1 (show i<1000000000 by omega)]
 |k+1,m,ds,hm,hk,hd,hp=>by
  obtain⟨m,rfl⟩:∃m',m=m'+1:=⟨m-1,by omega⟩;obtain⟨x,hx⟩:∃x,ds[k+1]?=some x:=⟨_,ai (by omega)⟩;obtain⟨y,hy⟩:∃y,ds[k]?=some y:=⟨_,ai (by omega)⟩;have m711:=phi (akN (h64 x (hp.mem_iff.1 (ax hx))) (h64 y (hp.mem_iff.1 (ax hy))));have e0:decide ((0:Int)<((k+1:Nat):Int))=true:=aq (by omega);have dn:=tS (show k<1000000000 by omega)
  have i1:RF.ev .ix [.v (.int .i64 ((k+1:Nat):Int)),.v (.int .i64 (n:Int))]=some (.i64 ((k+1:Nat):Int)):=ixM (by omega);have i2:RF.ev .ix [.v (.int .i64 (k:Int)),.v (.int .i64 (n:Int))]=some (.i64 (k:Int)):=ixM (by omega);have q1:RF.ev (.elt 0 4) [sl cR ds,.v (.int .i64 ((k+1:Nat):Int))]=some (MP x):=(aM hx).trans (Pw x);have q2:RF.ev (.elt 0 4) [sl cR ds,.v (.int .i64 (k:Int))]=some (MP y):=(aM hy).trans (Pw y);rw[bu];unfold B9;simp only[ay,EV,e0,az,i1,q1,dn,i2,q2,m711];cases hl:ltM x y with
  |true=>
   have hy':(ds.set (k+1) y)[k]?=some y:=by rw[bB (by omega)];exact hy
   have ps:=(TH hx hy).trans hp;obtain⟨ds',p',ih⟩:=XL hn (y4:=y4) (y6:=y6) hi h64 k m ((ds.set (k+1) y).set k x) (by omega) (by omega) (by simp[hd]) ps;refine⟨ds',p',?_⟩;simp only[EV,az,dn,i1,i2,q1,q2,Pz,XK hx,XK hy'];exact ih
  |false=>
   refine⟨ds,hp,?_⟩;simp only[EV,au,aw,gY,B8,up1 (show i<1000000000 by omega)]
def MD (hn:n<=5000)(hN:6000<N)(h64:∀m∈L,aS m.time):
  ∀(d i m:Nat) (ds:List Mt),(n<=i\/i+d=n)->(n<=i->d=0)->1<=i->i<=5000->d<m->ds.length=n->ds.Perm L->
  ∃ds':List Mt,ds'.Perm L/\ dl (bx D) N yE [f1] [y0,y1,y2,.v (.int .i64 (n:Int))] m [sl cR ds,.i64 (i:Int)]=f1 [sl cR ds']
 |0,i,m,ds,h1,_,_,_,hm,hd,hp=>by
  obtain⟨m,rfl⟩:∃m',m=m'+1:=⟨m-1,by omega⟩;refine⟨ds,hp,?_⟩;rw[bu];unfold yE;have e0:decide ((i:Int)<(n:Int))=false:=ak (by omega);simp only[ay,EV,e0,au,aw]
 |d+1,i,m,ds,h1,h2,h3,h4,hm,hd,hp=>by
  obtain⟨m,rfl⟩:∃m',m=m'+1:=⟨m-1,by omega⟩;have hin:i<n:=by
   rcases qh i n with q|q
   .exact q
   .have:=h2 q;omega
  have e0:decide ((i:Int)<(n:Int))=true:=aq (by omega);obtain⟨d1,p1,r1⟩:=XL (N:=N) (f1:=f1) (f2:=dl (bx D) N yE [f1] [y0,y1,y2,.v (.int .i64 (n:Int))] m) (y0:=y0) (y1:=y1) (y2:=y2) (y4:=sl cR ds) (y6:= .v (.bool true)) hn (i:=i) (by omega) h64 i N ds (by omega) hin hd hp;obtain⟨d2,p2,r2⟩:=MD hn hN h64 d (i+1) m d1 (by omega) (by omega) (by omega) (by omega) (by omega) (p1.length_eq.trans (hp.length_eq.symm.trans hd)) p1;refine⟨d2,p2,?_⟩;rw[bu];unfold yE;simp only[ay,EV,e0,az];exact r1.trans r2
end
def TI {l:List Pt}(h:okF l):∀m∈rawM l,aS m.time:=λ_ hm=>(xe h hm).2
def akS {l:List Pt}(h:okF l):∃L:List Mt,L.Perm (rawM l)/\ Ans D 110 [F l] [sl cR L]:=by
 have h64:=h.1;have hraw:=wj h
 let f1:JT:=kJ (bx D) 6001 B7 [] [F l,F l,sl cR (rawM l),.i64 ((rawM l).length:Int)]
 obtain⟨L,p,r⟩:=MD (n:=(rawM l).length) (N:=6001) (f1:=f1) (y0:=F l) (y1:=F l) (y2:=sl cR (rawM l)) hraw (by omega) (TI h) ((rawM l).length-1) 1 6001 (rawM l) (by omega) (by omega) (by omega) (by omega) (by omega) rfl (List.Perm.refl _);refine⟨L,p,an ⟨6001,?_⟩⟩;unfold abl;simp only[ay,EV,aY];have key:=eG (Φ:=bx D) (N:=6001) (b:=Cb) (J:=[kJ (bx D) 6001 Hl [] [F l,F l]]) (e:=[F l,F l]) (n:=l.length) (st:=λi=>[sl cR (l9 l i),.i64 ((l9 l i).length:Int),.i64 (i:Int)]) (fin:=some [sl cR L]) (λi self hi=>?_) (λself=>?_) 6001 (by omega)
 .have e0:l9 l 0=[]:=by cases l<;>rfl
  rw[e0] at key;exact key
 .obtain⟨q,hq⟩:∃q,l[i]?=some q:=⟨_,ai hi⟩;have e1:decide ((i:Int)<(l.length:Int))=true:=aq (by omega);unfold Cb;simp only[ay,EV,cv,ah,e1,az,up1 (show i<1000000000 by omega)]
  exact afV h hq (by omega)
 .have e1:decide ((l.length:Int)<(l.length:Int))=false:=ak (by omega);unfold Cb;simp only[ay,EV,cv,ah,e1,au,aw,MA,gY,Hl];refine r.trans ?_;show kJ (bx D) 6001 B7 [] [F l,F l,sl cR (rawM l),.i64 ((rawM l).length:Int)] [sl cR L]=_
  have s:=bI (f:=cR) (l:=L);rw[p.length_eq] at s;rw[gY];unfold B7;have s:RF.ev .sub [sl cR L,.v (.int .i64 0),.v (.int .i64 ((rawM l).length:Int))]=some (sl cR L):=s;simp only[ay,EV,s]
def ME (P:Mt->Bool):∀(l acc:List Mt),l.foldl (λacc m=>if P m=true then acc++[m] else acc) acc=acc++l.filter P
 |[],acc=>by simp
 |m::l,acc=>by
  rw[c6,ME P l,cS];cases P m<;>simp
def akT {l:List Pt}(h:okF l){a b:Rt}(ha:aS a)(hb:aS b):∃L:List Mt,L.length=(rawM l).countP (yy a b)/\ Ans D 42 [F l,R a,R b] [sl cR L]:=by
 obtain⟨L,p,r⟩:=akS h;have m110:=phi r;have hL:L.length<=5000:=by rw[p.length_eq];exact wj h
 have h64:∀m∈L,aS m.time:=λm hm=>TI h m (p.mem_iff.1 hm);refine⟨L.filter (yy a b),?_,an ⟨6001,?_⟩⟩
 .rw[<-List.countP_eq_length_filter];exact p.countP_eq _
 unfold aaH;simp only[ay,EV,aY,ba,m110];have key:=(gR (Φ:=bx D) (N:=6001) (b:=BW) (J:=[kJ (bx D) 6001 Hd [] [F l,R a,R b,F l,R a,R b,sl cR L]]) (e:=[F l,R a,R b,F l,R a,R b,sl cR L]) (l:=L) (g:=λacc m=>if yy a b m=true then acc++[m] else acc) (I:=λi acc=>acc.length<=i) (S:=λacc i=>[sl cR acc,.i64 (acc.length:Int),.i64 (i:Int)]) (fin:=λacc=>some [sl cR acc]) (x:=[]) (aB _) (λi m acc _ hI=>by
  have hI:acc.length<=i:=hI;show(if yy a b m=true then acc++[m] else acc).length<=i+1
  split
  .rw[aD,aN];omega
  .omega) (λi m acc self hm hI=>?_) (λacc self hI=>?_) (m:=6001) (by omega)).1
 .rw[ME] at key;exact key
 .have hi:=aO hm;have lt:decide ((i:Int)<(L.length:Int))=true:=aq (by omega);have e2:RF.ev (.elt 0 2) [sl cR L,.v (.int .i64 (i:Int))]=some (R m.time):=(aM hm).trans (afR m);have e4:RF.ev (.elt 0 4) [sl cR L,.v (.int .i64 (i:Int))]=some (MP m):=(aM hm).trans (Pw m);have a1:RF.ev (.app 32 4) [sl cR acc,.v (.int .i64 (acc.length:Int)),sl cR [m]]=some (sl cR (acc++[m])):=eF (by simp;omega) nj;have c1:=phi (Do (h64 m (ax hm)) ha);have c2:=phi (Do (h64 m (ax hm)) hb);have s1:decide (0<sgn (crs m.time a))=zZ a m:=by
   unfold zZ;rw[eJ a m.time];unfold sgn
   grind
  have s2:decide (sgn (crs m.time b)<=0)=decide (crs m.time b<=0):=by unfold sgn;grind
  have u:=up1 (show i<1000000000 by omega)
  have bw:yy a b m=(zZ a m&& decide (crs m.time b<=0)):=rfl;unfold BW;simp only[ay,EV,ah,lt,az,aT hm (nj m),e2,c1,c2,s1,s2];rw[bw];cases q1:zZ a m with
  |false=>
   simp only[au,aw,EV,gY,BV,qF,BU,u]
  |true=>
   cases q2:decide (crs m.time b<=0) with
   |false=>simp only[az,au,aw,EV,gY,BV,qE,BU,u]
   |true=>simp only[az,EV,gY,ay,BV,jK,aT hm (nj m),e4,afS,afT,a1,ah,BU,u]
 .have lt:decide ((L.length:Int)<(L.length:Int))=false:=ak (by omega);have s:=bI (f:=cR) (l:=acc);have s:RF.ev .sub [sl cR acc,.v (.int .i64 0),.v (.int .i64 (acc.length:Int))]=some (sl cR acc):=s;unfold BW;simp only[ay,EV,ah,lt,au,aw,gY,Hd,s]
def afW (tag:Int){l:List Pt}{a b:Rt}(ha:aS a)(hb:aS b)(h10:l.length<=10\/eQ l≠0):Ans D 10 [.v (.int .u8 tag),F l,R a,R b] [.i64 (evE tag l a b).1,.i64 (evE tag l a b).2]:=by
 have m1:=phi (c21 tag (l:=l) ha);refine am ?_;unfold aaA;by_cases hg:tag=1\/tag=2\/tag=3\/tag=4
 .rw[MF hg] at m1;by_cases hn:cV l a=0
  .obtain⟨hba,haa⟩:=Er hn;have h10:l.length<=10:=h10.resolve_right λh=>by
    unfold bE at hba;split at hba
    .contradiction
    .exact h hba
   have hk:fq (cI tag l a) 0=cI tag l a:=rfl;rw[hn,hk] at m1;obtain⟨g,h64⟩:=BF hg ha hba h10;obtain⟨o1,o2,o3⟩:=DJ hg ha hba haa;have m39:=phi (c49 (c:=cI tag l a) hb (by rw[o3];exact ha));by_cases hab:cH b=0
   .by_cases hp:crs b a<0
    .have e:evE tag l a b=(0,44):=by unfold evE;rw[ac (λh=>h hg),ac (λh=>h hn),ac (λh=>h hab),ad hp]
     have eu:yz (cI tag l a) b=44:=by unfold yz;rw[ad hab,o3,ad hp]
     rw[eu] at m39;simp[EV,aY,ba,m1,m39,dt,e]
    .have hp':crs a b<=0:=by have:=eJ a b;omega
     have eu:yz (cI tag l a) b=0:=by unfold yz;rw[ad hab,o3,ac hp]
     rw[eu] at m39;obtain⟨x,hx⟩:=Lk hg ha hba haa h10 hb (rj hab) hab hp';obtain⟨y,out,e,⟨q1,q2⟩,_,_⟩:=aj9 h64 g o1 (rj hab) hb hab (by rw[o3];exact hp');have:=Mn q1 hx;rw[this] at q2;have m2:=phi q2;simp[EV,aY,ba,m1,m39,m2,dt,TJ hg hn hab hp]
   .have e:evE tag l a b=(0,cH b):=by unfold evE;rw[ac (λh=>h hg),ac (λh=>h hn),ad hab]
    have eu:yz (cI tag l a) b=cH b:=by unfold yz;rw[ac hab]
    rw[eu] at m39;simp[EV,aY,ba,m1,m39,dt,e,hab]
  .have e:evE tag l a b=(0,cV l a):=by unfold evE;rw[ac (λh=>h hg),ad hn]
   simp[EV,aY,ba,m1,dt,e,hn]
 .have hm:gB tag l a=[CHO zCH,.i64 2]:=ac hg;rw[hm] at m1;have e:evE tag l a b=(0,2):=by unfold evE;rw[ad hg]
  simp[EV,aY,ba,m1,dt,e]
def V4 {tag:Int}{l:List Pt}{a b:Rt}(h:(evE tag l a b).2=0):okF l/\ rL l a b=0/\ rok a=true/\ rok b=true/\ crs a b<=0:=by
 unfold evE at h;split at h
 .cases h
 split at h
 .rename_i q;exact absurd h q
 rename_i q;split at h
 .rename_i r;exact absurd h r
 rename_i r;split at h
 .cases h
 rename_i s;have q:cV l a=0:=by omega
 have r:cH b=0:=by omega
 obtain⟨hl,hra⟩:=bE_ok (Er q).1;have hrb:=rj r;have hp:crs a b<=0:=by have:=eJ a b;omega
 refine⟨hl,?_,hra,hrb,hp⟩;unfold rL;rw[ac (λh=>h (eH.2 hl)),hra,hrb];show(if 0<crs a b then(2:Int) else 0)=0
 rw[ac (by omega)]
def akU (tag:Int){l:List Pt}{a b:Rt}(ha:aS a)(hb:aS b)(h10:l.length<=10\/eQ l≠0):Ans D 12 [.v (.int .u8 tag),F l,R a,R b] [.i64 (Eu tag l a b).1,.i64 (Eu tag l a b).2]:=by
 have m1:=phi (afW tag (l:=l) ha hb h10);obtain⟨q1,q2⟩:=MO tag l a b;have q3:=Lq (l:=l) (a:=a) (b:=b);have hw:=cU (show-9223372036854775808<=((uY l a b).length:Int)-(evE tag l a b).1 by omega) (by omega)
 refine am ?_;unfold aaC Eu;by_cases h:(evE tag l a b).2=0
 .obtain⟨hl,ht,hra,hrb,hp⟩:=V4 h;obtain⟨L,e,r⟩:=akT hl ha hb;have m2:=phi r;have e:L.length=(uY l a b).length:=by
   unfold uY;rw[ad ht,Lm hl hra hrb hp];exact e
  rw[<-e] at hw|-;simp only[ay,aY,ba,m1,m2,EV,h,aA,aF,au,aw,ah,hw,az,ht]
 .simp[aY,ba,m1,EV,h]
def LF {tag:Int}{l:List Pt}{a b:Rt}(ha:aS a)(hb:aS b):Ans D 3 [.v (.int .u8 tag),F l,R a,R b] [.bool true]:=by
 refine am ?_;unfold aay;have key:(l.length<=10\/eQ l≠0)->den (bx D) 1 vE [] [.v (.int .u8 tag),F l,R a,R b,F l,R a,R b,.bool false]=some [.bool true]:=λh10=>by
  have m9:=phi (afX tag (l:=l) ha hb h10);have m10:=phi (afW tag (l:=l) ha hb h10);have m11:=phi (ak6 tag (l:=l) ha hb h10);have m12:=phi (akU tag (l:=l) ha hb h10);unfold vE;simp only[ay,EV,au,aw,m9,m10,m11,m12,aA,az,P1]
 have big:(l.length:Int)>64->eQ l≠0:=λh=>by
  unfold eQ;rw[ad (by omega)];decide
 simp only[ay,EV,aY,ba,cv,ah,aa];by_cases h1:(10:Int)<l.length
 .rw[ad h1];by_cases h2:(l.length:Int)<=64
  .rw[ad h2];simp only[gY,EV,vE,az]
  .rw[ac h2];cases h3:decide ((70:Int)<l.length) with
   |true=>simp only[gY,EV,vE,az]
   |false=>exact key (.inr (big (by omega)))
 .rw[ac h1];cases h3:decide ((70:Int)<l.length) with
  |true=>simp only[gY,EV,vE,az]
  |false=>exact key (.inl (by omega))
end Go.Proofs.YtoeigdpfcnaaeaaGreat
