import Derived.Test.YtoeigdpfcnaaeaaGreatC1
import Derived.Test.YtoeigdpfcnaaeaaGreatP1
set_option linter.unusedVariables false
set_option linter.unusedSimpArgs false
set_option linter.defProp false
noncomputable section
namespace Go.Proofs.YtoeigdpfcnaaeaaGreat
open Go.Sym Bnd
set_option maxRecDepth 100000
section
variable {α:Type}[DecidableEq α]{ks:List Ck}{kc:α->List PV}
def uJ (hl:∀a,(kc a).length=ks.length)(he:∀a b,eqL ks (kc a) (kc b)=some (decide (a=b)))(v:PV)(k:α):∀seen:List α,dW ks (kc k) (seen.map λa=>kc a++[v])=some (if k∈seen then some [v] else none)
 |[]=>by simp[dW,he]
 |a::l=>by
  simp only[bY,dW];rw[iG (hl a),he,qc (hl a)];by_cases e:a=k
  .subst e;simp
  .rw[ak e];simp only;rw[uJ hl he v k l]
   congr 1
   have:(k∈a::l)↔k∈l:=by simp[show k≠a fromλh=>e h.symm]
   simp[this]
def wJ (hl:∀a,(kc a).length=ks.length)(he:∀a b,eqL ks (kc a) (kc b)=some (decide (a=b)))(v:PV)(k:α):∀seen:List α,k∉seen->jS ks (kc k) [v] (seen.map λa=>kc a++[v])=some ((seen++[k]).map λa=>kc a++[v])
 |[],_=>by simp[jS,he]
 |a::l,h=>by
  simp only[bY,aL,jS];rw[iG (hl a),he,ak (λe=>h (by simp[e]))];simp only;rw[wJ hl he v k l (λe=>h (by simp[e]))]
end
abbrev T1:PV:= .bool true
def Nm (seen:List Int):PV:= .sl (seen.map λn=>[.i64 n]++[T1])
def Cm (seen:List Crt):PV:= .sl (seen.map λc=>crow c++[T1])
def eqN (a b:Int):eqL [.i] [.i64 a] [.i64 b]=some (decide (a=b)):=by
 simp[eqL,eqC]
def ZF (a b:Crt):eqL [.i,.i] (crow a) (crow b)=some (decide (a=b)):=by
 have h:=wH a b;injection h with h
 injection h with h
 injection h with h
 rw[<-h];rfl
def aip (seen:List Int)(k:Int):RF.ev (.mget [.i] [.v (.bool false)]) [Nm seen,.v (.int .i64 k)]=some (.bool (decide (k∈seen))):=by
 have h:=uJ (ks:=[.i]) (kc:=λn:Int=>[.i64 n]) (λ_=>rfl) eqN T1 k seen;unfold Nm;simp only[RF.ev,show(PV.v (.int .i64 k)).cells=[.i64 k] from rfl,h]
 by_cases e:k∈seen
 .simp[e];rfl
 .simp[e];rfl
def aiq (seen:List Int){k:Int}(h:k∉seen):RF.ev (.mset [.i] 1) [Nm seen,.v (.int .i64 k),.v (.bool true)]=some (Nm (seen++[k])):=by
 have h:=wJ (ks:=[.i]) (kc:=λn:Int=>[.i64 n]) (λ_=>rfl) eqN T1 k seen h;unfold Nm;simp only[RF.ev,show(PV.v (.int .i64 k)).cells=[.i64 k] from rfl,show(PV.v (.bool true)).cells=[T1] from rfl,h]
 rfl
def agd (seen:List Crt)(k:Crt):RF.ev (.mget [.i,.i] [.v (.bool false)]) [Cm seen,CP k]=some (.bool (decide (k∈seen))):=by
 have h:=uJ (ks:=[.i,.i]) (kc:=crow) (λ_=>rfl) ZF T1 k seen;unfold Cm;simp[RF.ev,show(CP k).cells=crow k from rfl,h]
 by_cases e:k∈seen
 .simp[e];rfl
 .simp[e];rfl
def age (seen:List Crt){k:Crt}(h:k∉seen):RF.ev (.mset [.i,.i] 1) [Cm seen,CP k,.v (.bool true)]=some (Cm (seen++[k])):=by
 have h:=wJ (ks:=[.i,.i]) (kc:=crow) (λ_=>rfl) ZF T1 k seen h;unfold Cm;simp[RF.ev,show(CP k).cells=crow k from rfl,show(PV.v (.bool true)).cells=[T1] from rfl,h]
 rfl
def iZ {α:Type}{f:α->List PV}{bytes z:Nat}{l:List α}(h:l.length*bytes<=140737488355328)(hz:∀a,(f a).length=z):RF.ev (.app bytes z) [.sl [],.v (.int .i64 0),.sl (l.map f)]=some (.sl (l.map f)):=by
 have:=eF (f:=f) (l:=[]) (k:=l) (bytes:=bytes) (z:=z) (by simpa using h) hz
 grind
def Na {l:List Bool}(hl:l.length<=1000):Ans D 368 [sl B1 l] [sl B1 l]:=by
 refine am ?_;unfold aeg;simp only[EV,ah,aa];have h1:den (bx D) 1 Ju [] [sl B1 l,.i64 (l.length:Int),.bool (decide ((l.length:Int)=0))]=some [sl B1 l]:=by
  unfold Ju;simp[EV,iZ (l:=l) (f:=B1) (bytes:=1) (z:=1) (by omega) wF,bI]
 by_cases h:(l.length:Int)=0
 .have:l=[]:=bS (by omega);subst this;rw[ad h];exact o7 rfl h1
 .grind
def air {l:List Bool}(_:0<l.length)(hl:l.length<=1000):Ans D 368 [sl B1 l] [sl B1 l]:=Na hl
def rG {l:List Int}(hl:l.length<=1000):Ans D 153 [sl I1 l] [sl I1 l]:=by
 refine am ?_;unfold abU;simp only[EV,ah,aa];have h1:den (bx D) 1 HU [] [sl I1 l,.i64 (l.length:Int),.bool (decide ((l.length:Int)=0))]=some [sl I1 l]:=by
  unfold HU;simp[EV,iZ (l:=l) (f:=I1) (bytes:=8) (z:=1) (by omega) ct,bI]
 by_cases h:(l.length:Int)=0
 .have:l=[]:=bS (by omega);subst this;rw[ad h];exact o7 rfl h1
 .grind
def DA {α:Type}[DecidableEq α](v:α)(l:List α):l.any (λy=>decide (v=y))=decide (v∈l):=by
 grind
def ais {l:List Bool}(v:Bool)(hl:l.length<=1000):Ans D 432 [sl B1 l,.bool v] [.i64 (rC (λy=>decide (v=y)) l)]:=by
 refine an ⟨1001,?_⟩;unfold aeX;simp[EV];refine(j7 (m:=1001) (l:=l) (p:=λy=>decide (v=y)) (st:=λi=>[.i64 (i:Int)]) (ret:=λi=>some [.i64 (i:Int)]) (fin:=some [.i64 (-1)]) (λi a self ha=>?_) (λself=>?_) (by omega)).trans Fq
 .unfold JN;simp only[aT ha (wF _),aM ha,wE,EV,aa,bj (aO ha),up1 (show i<1000000000 by have:=aO ha;omega),beq_iff_eq]
 .unfold JN;simp[EV,Sy]
def ait {l:List Bool}(v:Bool)(hl:l.length<=1000):Ans D 393 [sl B1 l,.bool v] [.bool (decide (v∈l))]:=by
 refine am ?_;unfold aeJ;simp[EV,phi (ais v hl),AK,DA]
open Classical in
def Nb {s:Slots}(hg:gSl s=false):Ans D 324 [SL s] [.i64 (okE (decide s.okR))]:=by
 unfold gSl at hg;simp only[eP,aj] at hg;rw[show decide s.okR=decide s.okP from c7.2 (Slots.ok_iff s).symm]
 have no:∀h:¬s.okP,(some [PV.v (.int .i64 8)]:Option (List PV))=some [.i64 (okE (decide s.okP))]:=λh=>by rw[ak h];rfl
 refine an ⟨1001,?_⟩;unfold adL;simp only[ay,jy,kZ,oo,EV,ah,aa,aE,aj];by_cases h1:s.u.length<1
 .rw[ad (by omega)];exact no (λh=>by have:=h.1;omega)
 rw[ac (by omega)];by_cases h2:200<s.u.length
 .rw[ad (by omega)];exact no (λh=>by have:=h.2.1;omega)
 rw[ac (by omega)];by_cases h3:s.v.length=s.u.length
 rotate_left
 .rw[ad (by omega)];exact no (λh=>h3 h.2.2.1)
 rw[ac (by omega)];simp only[phi (air (l:=s.v) (by omega) (by omega)),EV,ah,lV];refine(wI (m:=1001) (l:=s.f) (g:=λl x=>if 0<=x/\ x<l.length/\ l[x.toNat]?=some false then some (l.set x.toNat true) else none) (I:=λl=>l.length=s.u.length) (S:=λl i=>[sl B1 l,.i64 (i:Int)]) (r:=some [.i64 8])
  (fin:=λacc=>some [.i64 (okE (decide s.okP))]) (x:=s.v) h3 (λa acc acc' hI hg=>?_) (λi x acc self hx hI=>?_) (λacc self hI hm=>?_) (by omega)).trans ?_
 .split at hg
  .cases hg;simpa using hI
  .cases hg
 .unfold DQ;have hi:=aO hx;simp only[ay,lV,aT hx (ct _),aM hx,cZ,EV,aa,bj hi,show((0:Int)<=(i:Int)) by omega,az]
  by_cases c1:x<0
  .rw[ad c1,ac (by omega)]
  .rw[ac c1];by_cases c2:(s.u.length:Int)<=x
   .rw[ad c2,ac (by rw[hI];omega)]
   .rw[ac c2];obtain⟨n,rfl⟩:=uI (show 0<=x by omega)
    obtain⟨b,hb⟩:∃b,acc[n]?=some b:=⟨acc[n]'(by omega),ai _⟩;simp only[ay,ixM (show n<s.v.length by omega),aM hb,wE,M6 (show n<acc.length by omega),EV,up1 (show i<1000000000 by omega)]
    cases b with
    |true=>
     rw[ad rfl,ad (show decide ((0:Int)<=(i:Int))=true from aq (by omega)),ac (λg=>by have:=g.2.2;rw[aG,hb] at this;cases this)]
    |false=>rw[ac (by simp),ad ⟨by omega,by omega,by rw[aG];exact hb⟩,aG]
 .rw[<-pu] at hm;have su:RF.ev .sub [sl B1 acc,.v (.int .i64 0),.v (.int .i64 (s.v.length:Int))]=some (sl B1 acc):=by rw[h3,<-hI];exact bI
  unfold DQ;simp only[ay,EV,aa,bK,R9,su,kZ,ah,phi (ait (l:=acc) false (by omega)),show¬((0:Int)<= -1) by omega,aw]
  by_cases c1:false∈acc
  .simp only[c1,az];exact no (λh=>by
    obtain⟨l,e1,e2⟩:=h.2.2.2.1;rw[hm] at e1;cases e1;exact e2 c1)
  simp only[c1,aw];refine(fI (m:=1001) (n:=s.u.length) (P:=λi=>∀u,s.u[i]?=some u->0<=u/\ u<=1000000/\¬(u=0/\ s.v[i]?=some true)) (st:=λi=>[.i64 (i:Int)]) (r:=some [.i64 8]) (fin:=some [.i64 0]) (λi self hi _=>?_) (λ_ self=>?_) (by omega)).trans ?_
  .obtain⟨u,hu⟩:∃u,s.u[i]?=some u:=⟨s.u[i],ai _⟩;obtain⟨b,hb⟩:∃b,s.v[i]?=some b:=⟨s.v[i]'(by omega),ai _⟩;have hP:(∀u',s.u[i]?=some u'->0<=u'/\ u'<=1000000/\¬(u'=0/\ s.v[i]?=some true))↔(0<=u/\ u<=1000000/\¬(u=0/\ b=true)):=by
    rw[hu,hb];simp
   unfold Je;simp only[hP,ay,kZ,oo,aT hu (ct _),aM hu,cZ,aT hb (wF _),aM hb,wE,EV,aa,bj hi,R8,up1 (show i<1000000000 by omega)]
   by_cases c1:u<0
   .simp only[ad c1,az];rw[ac (by omega)]
   simp only[ac c1];by_cases c2:1000000<u
   .simp only[ad c2,az];rw[ac (by omega)]
   simp only[ac c2];by_cases c3:u=0
   .simp only[ad c3];cases b with
    |true=>simp[c3]
    |false=>simp[c3]
   .simp only[ac c3,au,aw];rw[ad ⟨by omega,by omega,λh=>c3 h.1⟩]
  .unfold Je;simp only[EV,aa,bK,R7]
  .by_cases hr:s.okP
   .rw[ad (λi _=>hr.2.2.2.2 i),aq hr];rfl
   .rw[ac (λh=>hr ⟨by omega,by omega,h3,⟨acc,hm,c1⟩,λi u hu=>h i (aO hu) u hu⟩),ak hr];rfl
 .rw[<-pu];cases hm:pX s.v s.f with
  |some l=>rfl
  |none=>
   exact no (λh=>by
    obtain⟨l,e1,_⟩:=h.2.2.2.1;rw[hm] at e1;cases e1)
def AM (x y:Evt):Int:=if sgn (crs x.time y.time)=0 then sgn (x.n-y.n) else sgn (crs x.time y.time)
def qp (x y:Evt):AM x y<0↔evLess x y=true:=by
 unfold AM evLess;have:=mG x.n y.n
 grind
def AN {x y:Evt}(hx:aS x.time)(hy:aS y.time)(rx:rok x.time=true)(ry:rok y.time=true):Ans D 325 [EP x,EP y] [.i64 (AM x y)]:=by
 have e:=phi (rD hx hy);rw[rx,ry,gH,ad rfl] at e;have bs:RF.ev (.bs 2 [KP.z] [0,1]) [.v (.int .i64 (sgn (crs x.time y.time))),.v (.int .i64 (sgn (x.n-y.n)))]=some (.sl [[.i64 (sgn (crs x.time y.time))],[.i64 (sgn (x.n-y.n))]]):=rfl;have su:∀a b:List PV,RF.ev .sub [.sl [a,b],.v (.int .i64 0),.v (.int .i64 2)]=some (.sl [a,b]):=λa b=>rfl;refine am ?_;unfold adM AM;simp[fx,pEP,yg,EV,e,phi (wD _ _),bs,su,phi (orr _ _)]
def qJ (c:Certs):Nat->Int
 |0=> -1
 |i+1=>((c.l[i]?).map Held.n).getD (-1)
def Br (c:Certs)(j:Nat)(h:Held):Prop:=h.c.ok/\(∀k,k<j->∀g,c.l[k]?=some g->g.c≠h.c)/\ qJ c j<h.n/\ h.n<c.next
def PD {c:Certs}(h1:c.l.length<=200)(h2:0<=c.next)(h3:c.next<=1000000):(∀j h,c.l[j]?=some h->Br c j h)↔dp c:=by
 constructor
 .intro h;have nn:∀(j:Nat) (g:Held),c.l[j]?=some g->0<=g.n:=by
   intro j;induction j with
   |zero=>intro g hg;have:=(h 0 g hg).2.2.1;simp only[qJ] at this;omega
   |succ j ih=>
    intro g hg;obtain⟨p,hp⟩:∃p,c.l[j]?=some p:=⟨c.l[j]'(by have:=aO hg;omega),ai _⟩;have h5:=(h (j+1) g hg).2.2.1;simp only[qJ,hp,cD,cC] at h5
    grind
  refine⟨h1,h2,h3,λi x hx=>⟨(h i x hx).1,nn i x hx,(h i x hx).2.2.2,λg hi hg=>?_,(h i x hx).2.1⟩⟩;obtain⟨i,rfl⟩:∃k,i=k+1:=⟨i-1,by omega⟩;have:=(h (i+1) x hx).2.2.1;rw[dD] at hg;simp only[qJ,hg,cD,cC] at this;exact this
 .rintro⟨_,_,_,h⟩ j x hx;obtain⟨a1,a2,a3,a4,a5⟩:=h j x hx;refine⟨a1,a5,?_,a3⟩;cases j with
  |zero=>simp only[qJ];omega
  |succ j=>
   obtain⟨p,hp⟩:∃p,c.l[j]?=some p:=⟨c.l[j]'(by have:=aO hx;omega),ai _⟩;simp only[qJ,hp,cD,cC];exact a4 p (by omega) (by simpa using hp)
def Gk {c:Certs}{i:Nat}{k:Crt}:k∉(c.l.take i).map (·.c)↔∀j,j<i->∀g,c.l[j]?=some g->g.c≠k:=by
 constructor
 .intro h j hj g hg e;exact h (bk.2 ⟨g,aK.2 ⟨j,by rw[db hj];exact hg⟩,e⟩)
 .intro h hm;obtain⟨g,hg,e⟩:=bk.1 hm;obtain⟨j,hj⟩:=aK.1 hg
  grind
open Classical in
def Nc {c:Certs}(hl:c.l.length<=1000):Ans D 239 [CS c] [.i64 (okE (decide (dp c)))]:=by
 refine an ⟨1001,?_⟩;unfold acC;have no:∀h:¬dp c,(some [PV.v (.int .i64 8)]:Option (List PV))=some [.i64 (okE (decide (dp c)))]:=λh=>by rw[ak h];rfl
 simp only[ay,ji,nN,fM,EV,ah,aa];by_cases h1:200<c.l.length
 .rw[ad (by omega)];exact no (λh=>by have:=h.1;omega)
 rw[ac (by omega)];by_cases h2:c.next<0
 .rw[ad h2];exact no (λh=>by have:=h.2.1;omega)
 rw[ac h2];by_cases h3:1000000<c.next
 .rw[ad h3];exact no (λh=>by have:=h.2.2.1;omega)
 rw[ac h3];refine(fI (n:=c.l.length) (P:=λi=>∀h,c.l[i]?=some h->Br c i h) (st:=λi=>[Cm ((c.l.take i).map (·.c)),.i64 (qJ c i),.i64 (i:Int)]) (r:=some [.i64 8]) (fin:=some [.i64 0]) (λi self hi _=>?_) (λ_ self=>?_) (by omega)).trans ?_
 .obtain⟨h,hh⟩:∃h,c.l[i]?=some h:=⟨c.l[i],ai _⟩;have hP:(∀h',c.l[i]?=some h'->Br c i h')↔Br c i h:=⟨λx=>x h hh,λx h' e=>by rw[hh] at e;cases e;exact x⟩;have hs:(c.l.take (i+1)).map (·.c)=(c.l.take i).map (·.c)++[h.c]:=by
   rw[cA,hh];simp
  have hn:qJ c (i+1)=h.n:=by simp only[qJ,hh,cD,cC]
  unfold II;simp only[hP,hs,hn,ay,nN,fM,aT hh (fL _),aM hh,kY,pHP,om,phi (T2 _),agd,EV,aa,bj hi,aE,aj];by_cases a1:h.c.ok
  rotate_left
  .rw[ad a1,ac (λx=>a1 x.1)]
  rw[ac (lN a1)];by_cases a2:h.c∈(c.l.take i).map (·.c)
  .rw[ad a2,ac (λx=>absurd a2 (Gk.2 x.2.1))]
  rw[ac a2];by_cases a3:h.n<=qJ c i
  .rw[ad a3,ac (λx=>by have:=x.2.2.1;omega)]
  rw[ac a3];by_cases a4:c.next<=h.n
  .rw[ad a4,ac (λx=>by have:=x.2.2.2;omega)]
  rw[ac a4,ad ⟨a1,Gk.1 a2,by omega,by omega⟩];simp only[ay,om,age _ a2,EV,up1 (show i<1000000000 by omega)]
 .unfold II;simp only[ay,fM,EV,aa,bK,Ru]
 .have:(∀i,i<c.l.length->∀h,c.l[i]?=some h->Br c i h)↔dp c:=by
   rw[<-PD (by omega) (by omega) (by omega)];exact⟨λh i x hx=>h i (aO hx) x hx,λh i _=>h i⟩
  by_cases hr:dp c
  .rw[ad (this.2 hr),aq hr];rfl
  .rw[ac (λh=>hr (this.1 h)),ak hr];rfl
def agf (p q:Hnd):RF.ev (.eqv [.i,.i]) [HD p,HD q]=some (.bool (decide (p=q))):=by
 obtain⟨a,b⟩:=p;obtain⟨c,d⟩:=q;show some (PV.bool (decide (a=c)&&(decide (b=d)&& true)))=_
 simp_all
open Classical in
def Gl {a:Agenda}(hg:gAg a=false)(h64:∀e∈a.heap,aS e.time):Ans D 240 [AG a] [.i64 (okE (decide (eR a)))]:=by
 have hgs:=hg;unfold gAg at hgs;simp only[eP,aj] at hgs;have hsl:a.s.u.length<=210/\ a.s.v.length<=210/\ a.s.f.length<=210:=by
  have:=hgs.1.1;unfold gSl at this
  grind
 have cAG0:RF.ev (.cell 0) [AG a]=some (sl I1 a.s.u):=rfl;have cAG1:RF.ev (.cell 1) [AG a]=some (sl B1 a.s.v):=rfl;have cAG2:RF.ev (.cell 2) [AG a]=some (sl I1 a.s.f):=rfl;have no:∀h:¬eR a,(some [PV.v (.int .i64 8)]:Option (List PV))=some [.i64 (okE (decide (eR a)))]:=λh=>by rw[ak h];rfl
 refine an ⟨1001,?_⟩;unfold acD;simp only[ay,jk,pAG,cAG1,cAG2,fV,lX,EV,ah,phi (Nb hgs.1.1),aE,aj,cU (show-9223372036854775808<=(a.s.v.length:Int)-(a.s.f.length:Int) by omega) (by omega)]
 by_cases q1:a.s.okR
 rotate_left
 .rw[ad (by rw[ak q1];decide)];exact no (λh=>q1 h.1)
 rw[ac (by rw[aq q1];decide)];obtain⟨g1,g2,g3,g4,_⟩:=id q1;by_cases q2:a.w.length=a.s.v.length
 rotate_left
 .rw[ad (by omega)];exact no (λh=>q2 (by rw[h.2.1.1,g3]))
 rw[ac (by omega)];by_cases q3:a.heap.length+a.s.f.length=a.s.v.length
 rotate_left
 .rw[ad (by omega)];exact no (λh=>q3 (by rw[h.2.1.2.1,g3]))
 rw[ac (by omega)];refine(fI (n:=a.w.length) (P:=λi=>∀(b:Bool) (w u:Int),a.s.v[i]?=some b->a.w[i]?=some w->a.s.u[i]?=some u->if b=true then 0<=w/\∃e,a.heap[w.toNat]?=some e/\ e.h=⟨i,u⟩ else w= -1) (st:=λi=>[.i64 (i:Int)]) (r:=some [.i64 8]) (fin:=some [.i64 (okE (decide (eR a)))]) (λi self hi _=>?_) (λhall self=>?_) (by omega)).trans ?_
 .obtain⟨u,hu⟩:∃u,a.s.u[i]?=some u:=⟨a.s.u[i]'(by omega),ai _⟩;obtain⟨b,hb⟩:∃b,a.s.v[i]?=some b:=⟨a.s.v[i]'(by omega),ai _⟩;obtain⟨w,hw⟩:∃w,a.w[i]?=some w:=⟨a.w[i]'(by omega),ai _⟩;have hP:(∀(b':Bool) (w' u':Int),a.s.v[i]?=some b'->a.w[i]?=some w'->a.s.u[i]?=some u'->if b'=true then 0<=w'/\∃e,a.heap[w'.toNat]?=some e/\ e.h=⟨i,u'⟩ else w'= -1)↔(if b=true then 0<=w/\∃e,a.heap[w.toNat]?=some e/\ e.h=⟨i,u⟩ else w= -1):=
   ⟨λh=>h b w u hb hw hu,λh b' w' u' h1 h2 h3=>by rw[hu] at h3;rw[hb] at h1;rw[hw] at h2;cases h1;cases h2;cases h3;exact h⟩
  have nxt:=up1 (show i<1000000000 by omega)
  unfold IM;simp only[hP,ay,cAG1,fV,lX,aT hb (wF _),aM hb,wE,aT hw (ct _),aM hw,cZ,EV,ah,aa,bj hi];cases b with
  |false=>
   simp only[bA,az,au,aw,aE,aj];by_cases c1:w= -1
   .rw[ac (by omega),ad c1];unfold IL;simp only[EV,nxt]
   .rw[ad c1,ac c1]
  |true=>
   simp only[aF,au,aw,az];by_cases c1:w<0
   .rw[ad c1,ac (by omega)]
   rw[ac c1];obtain⟨n,rfl⟩:=uI (show 0<=w by omega)
   by_cases c2:a.heap.length<=n
   .rw[ad (by omega),ac (λh=>by
     obtain⟨_,e,he,_⟩:=h;have:=aO he;omega)]
   rw[ac (by omega)];obtain⟨e,he⟩:∃e,a.heap[n]?=some e:=⟨a.heap[n]'(by omega),ai _⟩;have ag:RF.ev .agg [.v (.int .i64 (i:Int)),.v (.int .i64 u)]=some (HD ⟨i,u⟩):=rfl;simp only[ay,cAG0,aT he (j8 _),aM he,Wf,aT hu (ct _),aM hu,cZ,ag,agf,EV,aG,aE,aj];by_cases c3:e.h=⟨i,u⟩
   .rw[ac (lN c3),ad ⟨by omega,e,he,c3⟩];unfold IL;simp only[EV,nxt]
   .rw[ad c3,ac (λh=>by
     obtain⟨_,e',he',h'⟩:=h;rw[he] at he';cases he';exact c3 h')]
 .have hpl:qT a:=⟨by omega,by omega,λi b w u hb hw hu=>hall i (aO hw) b w u hb hw hu⟩;unfold IM;simp only[EV,aa,bK];unfold Rx;simp only[ay,fV,EV,ah];refine(fI (n:=a.heap.length) (P:=λi=>∀e,a.heap[i]?=some e->qo e/\(∀k,k<i->∀e',a.heap[k]?=some e'->e'.n≠e.n)/\∀p,0<i->a.heap[(i-1)/2]?=some p->evLess e p=false) (st:=λi=>[Nm ((a.heap.take i).map (·.n)),.i64 (i:Int)]) (r:=some [.i64 8]) (fin:=some [.i64 0]) (λi self hi hbef=>?_) (λ_ self=>?_) (by omega)).trans ?_
  .obtain⟨e,he⟩:∃e,a.heap[i]?=some e:=⟨a.heap[i],ai _⟩;have hP:(∀e',a.heap[i]?=some e'->qo e'/\(∀k,k<i->∀x,a.heap[k]?=some x->x.n≠e'.n)/\∀p,0<i->a.heap[(i-1)/2]?=some p->evLess e' p=false)↔(qo e/\(∀k,k<i->∀x,a.heap[k]?=some x->x.n≠e.n)/\∀p,0<i->a.heap[(i-1)/2]?=some p->evLess e p=false):=
    ⟨λh=>h e he,λh e' h1=>by rw[he] at h1;cases h1;exact h⟩
   have hs:(a.heap.take (i+1)).map (·.n)=(a.heap.take i).map (·.n)++[e.n]:=by
    rw[cA,he];simp
   have hseen:e.n∉(a.heap.take i).map (·.n)↔∀k,k<i->∀x,a.heap[k]?=some x->x.n≠e.n:=by
    constructor
    .intro h j hj g hg e';exact h (bk.2 ⟨g,aK.2 ⟨j,by rw[db hj];exact hg⟩,e'⟩)
    .intro h hm;obtain⟨g,hg,e'⟩:=bk.1 hm;obtain⟨j,hj⟩:=aK.1 hg;rw[iv] at hj;split at hj
     .exact h j (by assumption) g hj e'
     .cases hj
   unfold IK;simp only[hP,hs,ay,fV,aT he (j8 _),aM he,gS,pEP,yg,phi (c43 (h64 e (ax he))),sM,aip,EV,aa,bj hi];by_cases c1:rok e.time=true
   rotate_left
   .rw[ac c1,ac (λh=>c1 h.1.1)]
   rw[ad c1];by_cases c2:e.n<0
   .rw[ad c2,ac (λh=>by have:=h.1.2;omega)]
   rw[ac c2];by_cases c3:1000000<e.n
   .rw[ad c3,ac (λh=>by have:=h.1.2;omega)]
   rw[ac c3];by_cases c4:e.n∈(a.heap.take i).map (·.n)
   .rw[ad c4,ac (λh=>absurd c4 (hseen.2 h.2.1))]
   rw[ac c4];have nxt:=up1 (show i<1000000000 by omega)
   simp only[ay,aiq _ c4,EV,aa];cases i with
   |zero=>
    rw[ac (by omega),ad ⟨⟨c1,by omega,by omega⟩,hseen.1 c4,λp h=>absurd h (di _)⟩];unfold IJ;simp only[EV,au,aw,nxt]
   |succ j=>
    obtain⟨p,hp⟩:∃p,a.heap[j/2]?=some p:=⟨a.heap[j/2]'(by omega),ai _⟩;have rp:rok p.time=true:=(hbef (j/2) (by omega) p hp).1.1;rw[ad (by omega)];simp only[ay,oe,M7 (show j<1000000 by omega),fV,aT hp (j8 _),aM hp,gS,phi (AN (h64 e (ax he)) (h64 p (ax hp)) c1 rp),EV]
    unfold IJ;simp only[EV,aa,nxt];by_cases c5:AM e p<0
    .rw[ad c5,ac (λh=>by
      have:=h.2.2 p (by omega) (by simpa using hp)
      rw[(qp e p).1 c5] at this;cases this)]
    .rw[ac c5,ad ⟨⟨c1,by omega,by omega⟩,hseen.1 c4,λq _ hq=>by
      rw[dD,hp] at hq;cases hq;cases h:evLess e p with
      |false=>rfl
      |true=>exact absurd ((qp e p).2 h) c5⟩]
  .unfold IK;simp only[EV,aa,bK,Rv]
  .have:(∀i,i<a.heap.length->∀e,a.heap[i]?=some e->qo e/\(∀k,k<i->∀e',a.heap[k]?=some e'->e'.n≠e.n)/\∀p,0<i->a.heap[(i-1)/2]?=some p->evLess e p=false)↔eR a:=by
    constructor
    .intro h;refine⟨q1,hpl,λe he=>?_,?_,λi e p he hp=>?_⟩
     .obtain⟨i,hi⟩:=aK.1 he;exact(h i (aO hi) e hi).1
     .rw[qA];intro i j x hj hi hjx;rw[a8,bW] at hi hjx;obtain⟨e,he,rfl⟩:=hi;obtain⟨e',he',h'⟩:=hjx;exact(h i (aO he) e he).2.1 j hj e' he' h'
     .exact(h (i+1) (aO he) e he).2.2 p (by omega) (by rw[dD];exact hp)
    .rintro⟨_,_,h3,h4,h5⟩ i hi e he;rw[qA] at h4;refine⟨h3 e (ax he),λk hk e' he' hn=>?_,λp hp0 hp=>?_⟩
     .exact h4 i k e.n hk (by rw[a8,he];rfl) (by rw[a8,he',cD,hn])
     .obtain⟨j,rfl⟩:∃j,i=j+1:=⟨i-1,by omega⟩;exact h5 j e p he (by rw[dD] at hp;exact hp)
   by_cases hr:eR a
   .rw[ad (this.2 hr),aq hr];rfl
   .rw[ac (λh=>hr (this.1 h)),ak hr];rfl
 .by_cases hall:∀i,i<a.w.length->∀(b:Bool) (w u:Int),a.s.v[i]?=some b->a.w[i]?=some w->a.s.u[i]?=some u->if b=true then 0<=w/\∃e,a.heap[w.toNat]?=some e/\ e.h=⟨i,u⟩ else w= -1
  .rw[ad hall]
  .rw[ac hall];exact no (λh=>hall λi _=>h.2.1.2.2 i)
def Bt {c:Clock}(h:okF c.p)(hr:rok c.n=true){x:Held}(hx:x.c.ok):lU (bh c.p x.c.h) (bh c.p x.c.j) c.n=0↔d7 c.p x=true:=by
 unfold d7;rw[aJ];constructor
 .intro h0;obtain⟨h1,h2,_,_⟩:=Dp h0;have go:∀id,(bh c.p id).ok=true->inF c.p id=true:=λid hp=>by
   cases e:inF c.p id with
   |true=>rfl
   |false=>rw[Ev (LJ e)] at hp;simp[Pt.ok] at hp
  grind
 .rintro⟨h1,h2⟩;obtain⟨i,p,a1,a2,a3,a4⟩:=d6 h h1;obtain⟨j,q,b1,b2,b3,b4⟩:=d6 h h2;rw[a4,b4];exact mH (dr h b1) (dr h a1) hr (by rw[a2,b2];exactλe=>hx.2.2.2.2 e.symm)
def agh {d:Due}{rest:List Due}:RF.ev (.tsub 3) [sl cp (d::rest),.v (.int .i64 1),.v (.int .i64 ((rest.length+1:Nat):Int))]=some (sl cp rest):=by
 rw[zn,ad ⟨by omega,by omega,by simp,by simp[d8,cp],by decide⟩];simp;exact bi (by simp)
def aiu {n:Nat}:RF.ev .bnd [.v (.int .i64 1),.v (.int .i64 ((n+1:Nat):Int))]=some (.i64 1):=by
 rw[kq,ad ⟨by omega,by omega⟩]
def aiv (e:Rt)(n:Int)(h:Hnd):RF.ev .agg [R e,.i64 n,HD h]=some (EP ⟨e,n,h⟩):=rfl
open Classical in
def wK {c:Clock}(h64:fb c)(hg:gW c):Ans D 147 [CL c] [.i64 (okE (decide (bJ c)))]:=by
 obtain⟨hg1,hg2,hg3,hga⟩:=hg;have hg':=hga;unfold gAg gSl at hg';simp only[eP,aj] at hg';have no:∀h:¬bJ c,(some [PV.v (.int .i64 8)]:Option (List PV))=some [.i64 (okE (decide (bJ c)))]:=λh=>by rw[ak h];rfl
 have b4:∀w x y z:Int,RF.ev (.bs 4 [KP.z] [0,1,2,3]) [.i64 w,.i64 x,.i64 y,.i64 z]=some (sl I1 [w,x,y,z]):=λ_ _ _ _=>rfl;refine an ⟨1001,?_⟩;unfold abM;simp only[ay,bX,eZ,fN,oq,sP,b4,EV,phi (c43 h64.1),phi (uG _),phi (Nc (c:=c.q) (by omega)),phi (Gl hga h64.2)];refine(cL (m:=1001) (l:=[okE (rok c.n),eQ c.p,okE (decide (dp c.q)),okE (decide (eR c.a))]) (p:=λe=>decide (e=0)) (st:=λi=>[.i64 (i:Int)]) (r:=some [.i64 8]) (fin:=some [.i64 (okE (decide (bJ c)))]) (λi e self he _=>?_) (λhall self=>?_) (by simp)).trans ?_
 .have hi:i<4:=by simpa using aO he
  unfold HN;have i4:RF.ev .ix [.i64 (i:Int),.v (.int .i64 4)]=some (.i64 (i:Int)):=by rw[afH,ad (by omega)]
  have l4:decide ((i:Int)<4)=true:=aq (by omega);simp only[EV,l4,dH,az,i4,aM he,cZ,up1 (show i<1000000000 by omega),aE,aa]
  by_cases e0:e=0
  .rw[aq e0,ac (by simp),ad e0]
  .rw[ak e0,ad rfl,ac e0]
 .simp only[dJ,zJ,jK,aJ,aa,Ga] at hall;obtain⟨h1,h2,h3,h5⟩:=hall;have h2':=eH.1 h2;unfold HN;have l4:decide (((4:Nat):Int)<4)=false:=by decide
  simp only[aZ,cw,cQ,EV,l4,au,aw];unfold QH;simp only[ay,fO,iK,kf,dT,EV,ah,aE,aj];by_cases h6:c.a.w.length=200
  .rw[ac (by omega)];by_cases h7:c.a.heap.length=c.d.length
   .rw[ac (by omega)];refine(wI (m:=1001) (l:=c.q.l) (b:=Ce) (g:=ec c) (I:=λ_=>True) (S:=λleft i=>[sl cp left,.i64 (i:Int)]) (r:=some [.i64 8]) (fin:=λleft=>some [.i64 (if left=[] then 0 else 8)]) (x:=c.d) trivial (λ_ _ _ _ _=>trivial) (λi h left self hh _=>?_) (λleft self _ hm=>?_) (by omega)).trans ?_
    .have hx:h.c.ok:=(h3.2.2.2 i h hh).1;have hk:=Bt h2' h1 hx;have hw:=phi (T5 (x:=h.c) (t:=c.n) h2' h64.1);unfold Ce ec;generalize hF:cT c.n (bh c.p h.c.h) (bh c.p h.c.j)=FT at hw|-;by_cases hkn:d7 c.p h=true
     .rw[ad (hk.2 hkn)] at hw;rw[ad hkn];simp only[ay,fO,eZ,fN,aT hh (fL _),aM hh,kY,pHP,om,ba,hw,EV,ah,aa,bj (aO hh),aE,aA,aF,au,aw];cases hF2:FT.2 with
      |false=>
       simp only[dH,az,au,aw];simp only[ay,Gi,Gj,ph,pi,EV,HM,up1 (show i<1000000000 by have:=aO hh;omega)]
      |true=>
       simp only[rm,aw,az];cases left with
       |nil=>rw[ad (by simp)]
       |cons d rest=>
        have d0:(d::rest)[0]?=some d:=rfl;have t0':RF.ev (.tix 3) [sl cp (d::rest),.v (.int .i64 0)]=some (.i64 ((0:Nat):Int)):=aT d0 (po _);rw[ac (by simp;omega)];simp only[ay,t0',aM d0,M8,Ft,pw,om,EV,aE,aj,aa];by_cases n1:d.n=h.n
        .rw[ac (by simp[n1])];by_cases n2:d.h.i<0
         .rw[ad n2,ac (λy=>by have:=y.2.1.1;omega)]
         .rw[ac n2];by_cases n3:200<=d.h.i
          .rw[ad n3,ac (λy=>by
            have:=aO y.2.1.2.2;have:=h5.2.1.1;omega)]
          .rw[ac n3];obtain⟨ix,hix⟩:=uI (show 0<=d.h.i by omega)
           obtain⟨w,hwh⟩:∃w,c.a.w[ix]?=some w:=⟨c.a.w[ix]'(by omega),ai _⟩;obtain⟨b,hb⟩:∃b,c.a.s.v[ix]?=some b:=⟨c.a.s.v[ix]'(by have:=h5.2.1.1;have:=h5.1.2.2.1;omega),ai _⟩;obtain⟨u,hu⟩:∃u,c.a.s.u[ix]?=some u:=⟨c.a.s.u[ix]'(by have:=h5.2.1.1;omega),ai _⟩;have hpl:=h5.2.1.2.2 ix b w u hb hwh hu;simp only[ay,iK,kf,pw,hix,aT hwh (ct _),aM hwh,cZ,EV,aa];by_cases n4:w<0
           .rw[ad n4,ac (λy=>by
             have hl:=y.2.1.2.1;rw[hix,aG,hb] at hl;cases hl;rw[ad rfl] at hpl;have:=hpl.1;omega)]
           .rw[ac n4];have hbt:b=true:=by
             cases b with
             |true=>rfl
             |false=>rw[ac (by simp)] at hpl;omega
            subst hbt;rw[ad rfl] at hpl;obtain⟨_,e,he,hex⟩:=hpl;obtain⟨n,rfl⟩:=uI (show 0<=w by omega)
            rw[aG] at he;have hD:qI c.a d h.n FT.1↔e=⟨FT.1,h.n,d.h⟩:=by
             constructor
             .intro y;have hl:=y.2.1.2.2;rw[hix,aG,hu] at hl;have:=y.2.2 ix n e hix hwh he;obtain⟨e1,e2,e3⟩:=e;simp only at this hex;rw[this.1,this.2,hex];obtain⟨d1,d2,d3⟩:=d;simp only at hix hl;simp only[bZ] at hl;rw[hix,hl]
             .intro y;subst y;simp only at hex;refine⟨n1,⟨by omega,by rw[hix,aG];exact hb,by rw[hix,aG,hu,hex]⟩,λi' n' e' y1 y2 y3=>?_⟩;rw[hix] at y1;have:ix=i':=by omega
              subst this;rw[hwh] at y2;have:(n:Int)=n':=by simpa using y2
              have:n=n':=by omega
              subst this;rw[he] at y3;cases y3;exact⟨rfl,rfl⟩
            have pR:RF.ev (.part 0 2) [R FT.1]=some (R FT.1):=rfl;have pH2:RF.ev (.part 0 2) [HD d.h]=some (HD d.h):=rfl;simp only[ay,aT he (j8 _),aM he,gS,pR,pH2,om,aiv,aig,EV,aE,aj];by_cases n5:e=⟨FT.1,h.n,d.h⟩
            .rw[ac (by simp[n5]),ad (hD.2 n5)];simp only[ay,aZ,ah,aiu,agh,om,Gi,Gj,ph,pi,EV,HM,up1 (show i<1000000000 by have:=aO hh;omega)]
            .rw[ad n5,ac (λy=>n5 (hD.1 y))]
        .rw[ad n1,ac (λy=>n1 y.1)]
     .rw[ac (λy=>hkn (hk.1 y))] at hw;rw[ac hkn];simp only[ay,fO,eZ,fN,aT hh (fL _),aM hh,kY,pHP,om,ba,hw,EV,ah,aa,bj (aO hh),aE,aj];rw[ad (λy=>hkn (hk.1 y))]
    .unfold Ce;simp only[EV,ah,aa,bK,QG];cases left with
     |nil=>rw[ac (by simp),ad rfl]
     |cons d rest=>rw[ad (by simp),ac (by simp)]
    .cases hm:ez (ec c) c.d c.q.l with
     |none=>exact no (λh=>by rw[h.2.2.2.2.2.2] at hm;cases hm)
     |some left=>
      cases left with
      |nil=>rw[aq (show bJ c from⟨h1,h2',h3,h5,h6,h7,hm⟩)];rfl
      |cons d rest=>exact no (λh=>by rw[h.2.2.2.2.2.2] at hm;cases hm)
   .rw[ad (by omega)];exact no (λh=>h7 h.2.2.2.2.2.1)
  .rw[ad (by omega)];exact no (λh=>h6 h.2.2.2.2.1)
 .simp only[dJ,zJ,jK,aJ,aa,Ga];split
  .rfl
  .rename_i hn;exact no (λh=>hn ⟨h.1,eH.2 h.2.1,h.2.2.1,h.2.2.2.1⟩)
open Classical in
def Nd {bb:Nat}{c:Clock}(h64:fb c)(hg:gCl bb c=false):Ans D 147 [CL c] [.i64 (okE (decide (bJ c)))]:=wK h64 (Fs hg)
def T7 {l:List Int}(v:Int)(hl:l.length<=1000):Ans D 178 [sl I1 l,.i64 v] [.i64 (rC (λy=>decide (v=y)) l)]:=by
 refine an ⟨1001,?_⟩;unfold ab4;simp[EV];refine(j7 (m:=1001) (l:=l) (p:=λy=>decide (v=y)) (st:=λi=>[.i64 (i:Int)]) (ret:=λi=>some [.i64 (i:Int)]) (fin:=some [.i64 (-1)]) (λi a self ha=>?_) (λself=>?_) (by omega)).trans Fq
 .unfold Ie;simp only[aT ha (ct _),aM ha,cZ,EV,aa,bj (aO ha),up1 (show i<1000000000 by have:=aO ha;omega)]
 .unfold Ie;simp[EV,Q1]
def aiw {l:List Int}(v:Int)(hl:l.length<=1000):Ans D 148 [sl I1 l,.i64 v] [.bool (decide (v∈l))]:=by
 refine am ?_;unfold abN;simp[EV,phi (T7 v hl),AK,DA]
def aiy {l:List Crt}(v:Crt)(hl:l.length<=1000):Ans D 242 [sl crow l,CP v] [.i64 (rC (λy=>decide (v=y)) l)]:=by
 refine an ⟨1001,?_⟩;unfold acF;simp[j9,EV];refine(j7 (m:=1001) (l:=l) (p:=λy=>decide (v=y)) (st:=λi=>[.i64 (i:Int)]) (ret:=λi=>some [.i64 (i:Int)]) (fin:=some [.i64 (-1)]) (λi a self ha=>?_) (λself=>?_) (by omega)).trans Fq
 .unfold IN;simp only[aT ha (gb _),aM ha,oj,wH,EV,aa,bj (aO ha),up1 (show i<1000000000 by have:=aO ha;omega)]
 .unfold IN;simp[EV,Ry]
def yh {l:List Crt}(v:Crt)(hl:l.length<=1000):Ans D 150 [sl crow l,CP v] [.bool (decide (v∈l))]:=by
 refine am ?_;unfold abO;simp[j9,EV,phi (aiy v hl),AK,DA]
def JustP (c:Clock)(edges:List Crt):Prop:=edges.length=c.q.l.length/\∀h∈c.q.l,h.c∈edges
def T8 {l k:List Int}(hl:l.length<=1000):Ans D 160 [sl I1 l,sl I1 k] [.bool (decide (l=k))]:=by
 refine an ⟨1001,?_⟩;unfold abY;simp only[EV,ah,aE,aj];by_cases h:l.length=k.length
 .rw[ac (by omega)];refine zN h (cL (l:=l.zip k) (st:=λi=>[.i64 (i:Int)]) (λi x self hx _=>?_) (λ_ self=>?_) (by rw[iz h];omega))
  .obtain⟨hp,hq⟩:=lO hx;unfold HV;simp only[aT hp (ct _),aM hp,aT hq (ct _),aM hq,cZ,EV,aa,aE,aj,bj (aO hp),up1 (show i<1000000000 by have:=aO hp;omega)]
   grind
  .rw[iz h];unfold HV;simp only[EV,aa,bK,QS]
 .rw[ad (by omega),ak (λe=>h (by rw[e]))]
def aiz {l k:List Nod}(hl:l.length<=1000):Ans D 163 [sl dB l,sl dB k] [.bool (decide (l=k))]:=by
 refine an ⟨1001,?_⟩;unfold ab0;simp only[EV,ah,aE,aj];by_cases h:l.length=k.length
 .rw[ac (by omega)];refine zN h (cL (l:=l.zip k) (st:=λi=>[.i64 (i:Int)]) (λi x self hx _=>?_) (λ_ self=>?_) (by rw[iz h];omega))
  .obtain⟨hp,hq⟩:=lO hx;unfold H4;simp only[aT hp (ol _),aM hp,aT hq (ol _),aM hq,Ge,ZA,EV,aa,aE,aj,bj (aO hp),up1 (show i<1000000000 by have:=aO hp;omega)]
   grind
  .rw[iz h];unfold H4;simp only[EV,aa,bK,QX]
 .rw[ad (by omega),ak (λe=>h (by rw[e]))]
def nthI (l:List Int)(i:Nat):Int:=(l[i]?).getD 0
def eX {l:List Int}{i:Nat}(h:i<l.length):l[i]?=some (nthI l i):=by
 unfold nthI
 grind
def lP (l:List Int)(n:Nat):List Crt:=(List.range n).map λi=>⟨nthI l (i+1),nthI l (i/2)⟩
def kg (l:List Int)(n:Nat):(lP l n).length=n:=by simp[lP]
def Gm (l:List Int)(n:Nat):lP l (n+1)=lP l n++[⟨nthI l (n+1),nthI l (n/2)⟩]:=by
 unfold lP;rw[qe,dU];rfl
def cW (l:List Int):List Crt:=lP l (l.length-1)
def wL (a b:Int):RF.ev .agg [.i64 a,.i64 b]=some (CP ⟨a,b⟩):=rfl
def bsC (c:Crt):RF.ev (.bs 1 [KP.z,KP.z] [0]) [CP c]=some (sl crow [c]):=rfl
def rU (c:Crt):RF.ev .sub [sl crow [c],.v (.int .i64 0),.v (.int .i64 1)]=some (sl crow [c]):=rfl
def ZG {l:List Int}(hl:l.length<=1000):∃N,den (bx D) N UH [] [sl I1 l]=some [sl crow (cW l)]:=by
 refine⟨1001,?_⟩;unfold UH;simp[EV];refine eG (m:=1001) (n:=l.length-1) (st:=λi=>[sl crow (lP l i),.i64 ((lP l i).length:Int),.i64 ((i+1:Nat):Int)]) (λi self hi=>?_) (λself=>?_) (by omega)
 .have h1:=eX (l:=l) (i:=i+1) (by omega);have h2:=eX (l:=l) (i:=i/2) (by omega);unfold HQ;simp only[aT h1 (ct _),aM h1,cZ,aT h2 (ct _),aM h2,wL,bsC,rU,M7 (show i<1000000 by omega),oe,EV,ah,aa,bj (show i+1<l.length by omega),
   eF (f:=crow) (l:=lP l i) (k:=[⟨nthI l (i+1),nthI l (i/2)⟩]) (bytes:=16) (z:=2) (by rw[kg];simp;omega) gb,up1 (show i+1<1000000000 by omega),<-Gm]
 .unfold HQ;simp only[EV,ah,aa];rw[ac (by omega)];unfold QI;simp only[bI,EV];rfl
def T9 {l:List Int}(hl:l.length<=1000):Ans D 149 [sl I1 l] [sl crow (cW l)]:=an (ZG hl)
def Ua {l:List Int}(hl:l.length<=1000):Ans D 136 [sl I1 l] [sl crow (cW l)]:=an (ZG hl)
def JustR (c:Clock)(edges:List Crt):Prop:=c.q.l.length=edges.length/\∀e∈edges,(∃h∈c.q.l,h.c=e)/\ leads c.n (bh c.p e.h) (bh c.p e.j)=true
open Classical in
def Nf {c:Clock}{edges:List Crt}(hF:okF c.p)(h64:aS c.n)(hl:edges.length<=1000)(hc:c.q.l.length<=1000)(hin:∀e∈edges,inF c.p e.j=true/\ inF c.p e.h=true):Ans D 135 [CL c,sl crow edges] [.bool (decide (JustR c edges))]:=by
 refine an ⟨1001,?_⟩;unfold abz;simp only[ay,bX,fO,EV,ah,aE,aj];by_cases h1:c.q.l.length=edges.length
 .rw[ac (by omega)];refine(cL (m:=1001) (l:=edges) (p:=λe=>(c.q.l.any λh=>decide (h.c=e))&& leads c.n (bh c.p e.h) (bh c.p e.j)) (st:=λi=>[.i64 (i:Int)]) (r:=some [.bool false]) (fin:=some [.bool true]) (λi e self he _=>?_) (λ_ self=>?_) (by omega)).trans ?_
  .obtain⟨a1,a2⟩:=hin e (ax he);unfold Hw;simp only[ay,eZ,fN,oq,aT he (gb _),aM he,oj,phi (Gg (c:=c.q) (x:=e) hc),phi (ail (x:=e) hF h64 a1 a2),EV,ah,aa,bj (aO he),up1 (show i<1000000000 by have:=aO he;omega)]
   grind
  .unfold Hw;simp only[EV,ah,aa,bK,Qq]
  .have:(edges.all λe=>(c.q.l.any λh=>decide (h.c=e))&& leads c.n (bh c.p e.h) (bh c.p e.j))=decide (JustR c edges):=by
    rw[eC,aa];unfold JustR;simp[h1]
   rw[this];cases decide (JustR c edges)<;>rfl
 .rw[ad (by omega),ak (λh=>h1 h.1)]
def Lt {c:Certs}(h:dp c):(c.l.map (·.c)).Nodup:=by
 rw[qA];intro i j x hj hi e;rw[a8,bW] at hi e;obtain⟨a,ha,rfl⟩:=hi;obtain⟨b,hb,e⟩:=e;exact(h.2.2.2 i a ha).2.2.2.2 j hj b hb e
def Gn {c:Clock}{edges:List Crt}(hc:dp c.q)(hn:edges.Nodup)(Q:Crt->Prop):
  (edges.length=c.q.l.length/\∀h∈c.q.l,h.c∈edges/\ Q h.c)↔(c.q.l.length=edges.length/\∀e∈edges,(∃h∈c.q.l,h.c=e)/\ Q e):=by
 have key:=λh:(c.q.l.map (·.c)).length=edges.length=>VU (Lt hc) hn h Q
 grind
def tT {c:Clock}{edges:List Crt}(hc:dp c.q)(hn:edges.Nodup)(hQ:∀e∈edges,leads c.n (bh c.p e.h) (bh c.p e.j)=true):JustP c edges↔JustR c edges:=by
 unfold JustP JustR;rw[<-Gn hc hn]
 grind
def LL {l:List Int}{i:Nat}(h:i<l.length):nthI l i∈l:=ax (eX h)
def oQ {l:List Int}{e:Crt}(h:e∈cW l):e.j∈l/\ e.h∈l:=by
 obtain⟨i,hi,rfl⟩:=bk.1 h;rw[dc] at hi;exact⟨LL (by omega),LL (by omega)⟩
def uK {l:List Int}(h:l.Nodup):(cW l).Nodup:=by
 rw[dL];intro i j x hi hj;unfold cW lP at hi hj;rw[a8,bW] at hi hj;obtain⟨a,ha,rfl⟩:=hi;obtain⟨b,hb,e⟩:=hj;have ha':=aO ha;have hb':=aO hb;rw[nU] at ha' hb';rw[jw ha'] at ha;rw[jw hb'] at hb;cases ha;cases hb;simp at e;have:=dL.1 h (i+1) (j+1) (nthI l (i+1)) (eX (by omega)) (by rw[<-e.1];exact eX (by omega));omega
def iR (k:KHeap):Prop:=bJ k.c/\ k.heap.length=k.c.p.length/\(∀x∈k.heap,inF k.c.p x=true)/\ k.heap.Nodup/\ JustR k.c (cW k.heap)
def gO {l:List Pt}{x:Int}:inF l x=true↔x∈l.map Pt.id:=by
 constructor
 .intro h;have h:=aX h;rcases pos_cases l x with⟨e,_⟩|⟨i,p,h1,h2,h3⟩
  .omega
  .grind
 .intro h;obtain⟨p,hp,rfl⟩:=bk.1 h;cases e:inF l p.id with
  |true=>rfl
  |false=>exact absurd rfl (LJ e p hp)
def vo {bb:Nat}{k:KHeap}(h:gKh bb k=false):gCl bb k.c=false/\ k.heap.length<=70:=by
 unfold gKh at h
 grind
def jd {bb:Nat}{c:Clock}(h:gCl bb c=false):c.q.l.length<=40:=by
 unfold gCl at h
 grind
open Classical in
def c81 {bb:Nat}{k:KHeap}(h64:fb k.c)(hg:gKh bb k=false):Ans D 61 [KH k] [.i64 (okE (decide (iR k)))]:=by
 obtain⟨g1,g2⟩:=vo hg;have no:∀h:¬iR k,(some [PV.v (.int .i64 8)]:Option (List PV))=some [.i64 (okE (decide (iR k)))]:=λh=>by rw[ak h];rfl
 have cKH2:RF.ev (.cell 2) [KH k]=some (sl row k.c.p):=rfl;have pKH2:RF.ev (.part 2 1) [KH k]=some (F k.c.p):=rfl;refine an ⟨1001,?_⟩;unfold k81;simp only[ay,gc,pKH,cKH,cKH2,EV,ah,phi (M9 h64 g1),jG,aE,aj,aa];by_cases h1:bJ k.c
 .rw[ad h1];by_cases h2:k.heap.length=k.c.p.length
  .rw[ac (by omega)];have hF:=h1.2.1;refine(fI (m:=1001) (n:=k.heap.length) (P:=λi=>∀x,k.heap[i]?=some x->inF k.c.p x=true/\∀j,j<i->∀y,k.heap[j]?=some y->y≠x) (st:=λi=>[.i64 (i:Int)]) (r:=some [.i64 8]) (fin:=some [.i64 (okE (decide (iR k)))]) (λi self hi _=>?_) (λhall self=>?_) (by omega)).trans ?_
   .have hx:=eX hi;generalize nthI k.heap i=x at hx;have hP:(∀x',k.heap[i]?=some x'->inF k.c.p x'=true/\∀j,j<i->∀y,k.heap[j]?=some y->y≠x')↔(inF k.c.p x=true/\∀j,j<i->∀y,k.heap[j]?=some y->y≠x):=
     ⟨λh=>h x hx,λh x' e=>by rw[hx] at e;cases e;exact h⟩
    unfold N8;simp only[hP,ay,cKH,pKH2,aT hx (ct _),aM hx,cZ,phi (rF (l:=k.c.p) (by have:=hF.1;omega) x),EV,ah,aa,bj hi];by_cases c1:pos k.c.p x<0
    .rw[ad c1,ac (λy=>by have:=aX y.1;omega)]
    .rw[ac c1];have c1':inF k.c.p x=true:=aq (by omega);refine(fI (m:=1001) (n:=i) (P:=λj=>∀y,k.heap[j]?=some y->y≠x) (st:=λi=>[.i64 (i:Int)]) (r:=some [.i64 8]) (fin:=self [.i64 ((i+1:Nat):Int)]) (λj self' hj _=>?_) (λ_ self'=>?_) (by omega)).trans ?_
     .have hy:=eX (l:=k.heap) (i:=j) (by omega);generalize nthI k.heap j=y at hy;have hQ:(∀y',k.heap[j]?=some y'->y'≠x)↔y≠x:=⟨λh=>h y hy,λh y' e=>by rw[hy] at e;cases e;exact h⟩;unfold N7;simp only[hQ,ay,cKH,aT hx (ct _),aM hx,aT hy (ct _),aM hy,cZ,EV,aa,bj hj,up1 (show j<1000000000 by omega)]
      by_cases c4:y=x
      .rw[ad c4,ac (by simp[c4])]
      .rw[ac c4,ad c4]
     .unfold N7;simp only[EV,aa,bK,W4,up1 (show i<1000000000 by omega)]
     .by_cases hq:∀j,j<i->∀y,k.heap[j]?=some y->y≠x
      .rw[ad hq,ad ⟨c1',hq⟩]
      .rw[ac hq,ac (λy=>hq y.2)]
   .have hin:∀x∈k.heap,inF k.c.p x=true:=λx hx=>by
     obtain⟨i,hi⟩:=aK.1 hx;exact(hall i (aO hi) x hi).1
    have hnd:k.heap.Nodup:=qA.2 λi j x hj hi e=>(hall i (aO hi) x hi).2 j hj x e rfl;unfold N8;simp only[ay,cKH,EV,ah,aa,bK,W2,pKH,bI,phi (Ua (l:=k.heap) (by omega)),phi (Nf (c:=k.c) (edges:=cW k.heap) hF h64.1 (by unfold cW;rw[kg];omega) (by have:=jd g1;omega) (λe he=>⟨hin _ (oQ he).1,hin _ (oQ he).2⟩)),aE,aj];by_cases hj:JustR k.c (cW k.heap)
    .rw[ac (by simp[hj]),aq (show iR k from⟨h1,h2,hin,hnd,hj⟩)];rfl
    .rw[ad hj];exact no (λh=>hj h.2.2.2.2)
   .by_cases hq:∀i,i<k.heap.length->∀x,k.heap[i]?=some x->inF k.c.p x=true/\∀j,j<i->∀y,k.heap[j]?=some y->y≠x
    .rw[ad hq]
    .rw[ac hq];refine no (λh=>hq λi hi x hx=>⟨h.2.2.1 x (ax hx),λj hj y hy e=>?_⟩);subst e;exact qA.1 h.2.2.2.1 i j y hj hx hy
  .rw[ad (by omega)];exact no (λh=>h2 h.2.1)
 .rw[ac h1];exact no (λh=>h1 h.1)
def Gp {l:List Pt}{h:List Int}(hs:jY l)(hl:h.length=l.length):(∀p∈l,p.id∈h)↔((∀x∈h,inF l x=true)/\ h.Nodup):=by
 constructor
 .intro a;have hp:=m8 (l:=l.map Pt.id) (k:=h) (c9 hs) (λx hx=>by obtain⟨p,hp,rfl⟩:=bk.1 hx;exact a p hp) (by rw[ah];omega);exact⟨λx hx=>gO.2 (hp.mem_iff.2 hx),hp.nodup_iff.1 (c9 hs)⟩
 .rintro⟨a,b⟩ p hp;have hp':=m8 (l:=h) (k:=l.map Pt.id) b (λx hx=>gO.1 (a x hx)) (by rw[ah];omega)
  grind
open Classical in
def c77 {bb:Nat}{k:KHeap}(h64:fb k.c)(hg:gKh bb k=false):Ans D 68 [KH k] [.i64 (okE (decide (iR k)))]:=by
 obtain⟨g1,g2⟩:=vo hg;have no:∀h:¬iR k,(some [PV.v (.int .i64 8)]:Option (List PV))=some [.i64 (okE (decide (iR k)))]:=λh=>by rw[ak h];rfl
 have cKH2:RF.ev (.cell 2) [KH k]=some (sl row k.c.p):=rfl;have cKH4:RF.ev (.cell 4) [KH k]=some (sl hrow k.c.q.l):=rfl;have pKH2:RF.ev (.part 2 1) [KH k]=some (F k.c.p):=rfl;have pKH0:RF.ev (.part 0 2) [KH k]=some (R k.c.n):=rfl;have el:(cW k.heap).length=k.heap.length-1:=by unfold cW;rw[kg]
 refine an ⟨1001,?_⟩;unfold k77;simp only[ay,gc,pKH,cKH,cKH2,EV,ah,phi (Nd h64 g1),jG,aE,aj,aa];by_cases h1:bJ k.c
 .rw[ad h1];by_cases h2:k.heap.length=k.c.p.length
  .rw[ac (by omega)];have hF:=h1.2.1;refine(cL (m:=1001) (l:=k.c.p) (p:=λp=>decide (p.id∈k.heap)) (st:=λi=>[.i64 (i:Int)]) (r:=some [.i64 8]) (fin:=some [.i64 (okE (decide (iR k)))]) (λi p self hp _=>?_) (λhall self=>?_) (by omega)).trans ?_
   .unfold Ob;simp only[ay,cKH,cKH2,iQ,aT hp (b6 _),aM hp,gu,phi (aiw (l:=k.heap) p.id (by omega)),EV,aa,bj (aO hp),up1 (show i<1000000000 by have:=aO hp;omega)]
    grind
   .have hall:∀p∈k.c.p,p.id∈k.heap:=λp hp=>aX (aV.1 hall p hp);obtain⟨hin,hnd⟩:=(Gp hF.2.2 h2).1 hall;unfold Ob;simp only[ay,cKH,cKH4,EV,ah,aa,bK,W7,phi (T9 (l:=k.heap) (by omega)),aE,aj];by_cases h3:(cW k.heap).length=k.c.q.l.length
    .rw[ac (by omega)];have hJ:=Gn (c:=k.c) h1.2.2.1 (uK hnd) (λe=>leads k.c.n (bh k.c.p e.h) (bh k.c.p e.j)=true);refine(cL (m:=1001) (l:=k.c.q.l) (p:=λh=>decide (h.c∈cW k.heap)&& leads k.c.n (bh k.c.p h.c.h) (bh k.c.p h.c.j)) (st:=λi=>[.i64 (i:Int)]) (r:=some [.i64 8]) (fin:=some [.i64 0]) (λi h self hh _=>?_) (λ_ self=>?_) (by have:=jd g1;omega)).trans ?_
     .unfold Oa;simp only[ay,cKH4,pKH0,pKH2,Gi,Gj,pHP,aT hh (fL _),aM hh,kY,phi (yh (l:=cW k.heap) h.c (by omega)),EV,aa,bj (aO hh)];by_cases c1:h.c∈cW k.heap
      .obtain⟨m1,m2⟩:=oQ c1;obtain⟨i1,p,a1,a2,a3,a4⟩:=d6 hF (hin _ m1);obtain⟨j1,q,b1,b2,b3,b4⟩:=d6 hF (hin _ m2);have hne:q.id≠p.id:=by rw[a2,b2];exactλe=>(h1.2.2.1.2.2.2 i h hh).1.2.2.2.2 e.symm
       have hA:=phi (Zy hF h64.1 h1.1 b1 a1 hne);rw[a2,b2] at hA;simp only[c1,aA,aF,au,aw,gI,ay,hA,a4,b4,EV,up1 (show i<1000000000 by have:=aO hh;have:=jd g1;omega)]
       cases leads k.c.n q p<;>simp
      .simp[c1]
     .unfold Oa;simp only[EV,aa,bK,W6]
     .have:(k.c.q.l.all λh=>decide (h.c∈cW k.heap)&& leads k.c.n (bh k.c.p h.c.h) (bh k.c.p h.c.j))=true↔iR k:=by
       rw[aV];simp only[aJ,aa];constructor
       .intro h;exact⟨h1,h2,hin,hnd,hJ.1 ⟨h3,h⟩⟩
       .intro h;exact(hJ.2 h.2.2.2.2).2
      by_cases hr:iR k
      .rw[ad (this.2 hr),aq hr];rfl
      .rw[ac (λh=>hr (this.1 h)),ak hr];rfl
    .rw[ad (by omega)];exact no (λh=>h3 h.2.2.2.2.1.symm)
   .by_cases hq:(k.c.p.all λp=>decide (p.id∈k.heap))=true
    .rw[ad hq]
    .rw[ac hq];refine no (λh=>hq (aV.2 λp hp=>aq ((Gp hF.2.2 h2).2 ⟨h.2.2.1,h.2.2.2.1⟩ p hp)))
  .rw[ad (by omega)];exact no (λh=>h2 h.2.1)
 .rw[ac h1];exact no (λh=>h1 h.1)
def Bu {α:Type}(p:α->Bool):∀(l:List α) (n:Nat),l.foldl (λn q=>if p q=true then n+1 else n) n=n+(l.filter p).length
 |[],n=>rfl
 |a::l,n=>by
  rw[c6,Bu p l,cS];cases p a
  .rfl
  .simp;omega
def aiA {l:List Pt}{t:Rt}(h:okF l)(ht:aS t){i:Nat}{p:Pt}(hp:l[i]?=some p):Ans D 322 [F l,PP p,R t] [.i64 (rank t l p:Nat)]:=by
 have hl:=h.1;refine an ⟨1001,?_⟩;unfold adE;simp only[ay,aY,jL,ba,EV];have e0:([PV.v (.int .i64 0),.v (.int .i64 0)]:List PV)=[.i64 ((0:Nat):Int),.i64 ((0:Nat):Int)]:=rfl;rw[e0];refine(gR (m:=1001) (l:=l) (g:=λn q=>if(decide (q.id≠p.id)&& leads t q p)=true then n+1 else n) (I:=λi n=>n<=i) (S:=λn i=>[.i64 ((n:Nat):Int),.i64 (i:Int)]) (fin:=λn=>some [.i64 ((n:Nat):Int)]) (x:=0) (aB _) (λi a acc _ h=>by split<;>omega) (λi q acc self hq hI=>?_) (λacc self _=>?_) (by omega)).1.trans ?_
 .unfold Jd;have hi:=aO hq;simp only[ay,cv,iQ,aT hq (b6 _),aM hq,gu,rT,EV,ah,aa,bj hi,aE,aj,R5,phi (Dq (dr h hq) (dr h hp) ht)];by_cases c1:q.id=p.id
  .rw[ac (by simp[c1])];simp only[au,aw,EV,Cl,up1 (show i<1000000000 by omega)]
   simp[c1]
  .rw[ad c1];cases leads t q p with
   |true=>simp only[az,EV,Cl,up1 (show i<1000000000 by omega),up1 (show acc<1000000000 by omega)];simp[c1]
   |false=>simp only[au,aw,EV,Cl,up1 (show i<1000000000 by omega)];simp
 .unfold Jd;simp only[ay,cv,EV,ah,aa,bK,R4]
 .rw[Bu (λq=>decide (q.id≠p.id)&& leads t q p),cQ];rfl
def yi (t:Rt)(l:List Pt):∀(ps:List Pt) (out:List Int),Bnd.ordered t l ps out=ps.foldl (λout p=>out.set (rank t l p) p.id) out
 |[],out=>rfl
 |p::ps,out=>by unfold Bnd.ordered;rw[yi t l ps,c6]
def LM {t:Rt}{l:List Pt}{p:Pt}(h:p∈l):rank t l p<l.length:=by
 unfold rank;rw[List.length_filter_lt_length_iff_exists]
 grind
def yj {n:Nat}(h:n<=1000):RF.ev (.rep [KP.z] 8) [.v (.int .i64 (n:Int)),.v (.int .i64 (n:Int))]=some (sl I1 (List.replicate n 0)):=by
 rw[Pi,ad ⟨by omega,by omega,by omega,by omega⟩,aG];show _=some (PV.sl ((List.replicate n 0).map I1))
 rw[rA];rfl
def fy {l:List Int}{i:Nat}(h:i<l.length)(x:Int):RF.ev (.set 0) [sl I1 l,.v (.int .i64 (i:Int)),.v (.int .i64 x)]=some (sl I1 (l.set i x)):=by
 rw[xH,ad (by omega),aG,a8,ai h];exact aW (λx=>some (PV.sl x)) (nq (f:=I1) (l:=l) (i:=i) (a:=x)).symm
def aiB {l:List Pt}{t:Rt}(h:okF l)(ht:aS t):Ans D 238 [F l,R t] [sl I1 ((pV t l).map Pt.id)]:=by
 have hl:=h.1;refine an ⟨1001,?_⟩;unfold acB;simp[aY,ba,cv,yj (show l.length<=1000 by omega),EV]
 refine(gR (m:=1001) (l:=l) (g:=λout p=>out.set (rank t l p) p.id) (I:=λ_ out=>out.length=l.length) (S:=λout i=>[sl I1 out,.i64 (i:Int)]) (fin:=λout=>some [sl I1 out]) (x:=List.replicate l.length 0) (by simp) (λi a acc _ h=>by simpa using h) (λi p acc self hp hI=>?_) (λacc self hI=>?_) (by omega)).1.trans ?_
 .unfold IH;simp only[cv,aT hp (b6 _),aM hp,gu,rT,EV,ah,aa,bj (aO hp),phi (aiA h ht hp),ixM (LM (ax hp)),fy (show rank t l p<acc.length by rw[hI];exact LM (ax hp)),up1 (show i<1000000000 by have:=aO hp;omega)]
 .unfold IH;have:=bI (f:=I1) (l:=acc);rw[hI] at this;simp only[ay,cv,EV,ah,aa,bK,Rs,this]
 .rw[<-yi,Po (c9 h.2.2) (by simp)]
def nP (x:Int×Int):List PV:=[.i64 x.1,.i64 x.2]
def ZH (x:Int×Int):(nP x).length=2:=rfl
def agi (x:Int×Int):cM 0 0 (nP x)=some (.i64 x.1):=rfl
def agj (x:Int×Int):cM 1 0 (nP x)=some (.i64 x.2):=rfl
def Ew (l:List Int)(d:Nat):(iC l d 0).length+(iC l d 1).length<=l.length:=by
 unfold iC;induction l with
 |nil=>simp
 |cons x l ih=>
  grind
def tU:∀(n:Nat) (l:List Int) (f:Int) (d:Nat),l.length<=n->(i7 l f d).length<=l.length
 |0,l,f,d,h=>by
  have hl:l=[]:=cX.1 (by omega);subst hl;unfold i7;simp
 |n+1,[],f,d,_=>by unfold i7;simp
 |n+1,o::os,f,d,h=>by
  unfold i7;simp at h|-;have h0:=xN (l:=os) (d:=d) (b:=0);have h1:=xN (l:=os) (d:=d) (b:=1);have a:=tU n (iC os d 0) o (d+1) (by omega);have b:=tU n (iC os d 1) o (d+1) (by omega);have:=Ew os d;omega
def uL {α:Type}(p:α->Bool):∀(l acc:List α),l.foldl (λacc x=>if p x=true then acc++[x] else acc) acc=acc++l.filter p
 |[],acc=>by simp
 |a::l,acc=>by
  rw[c6,uL p l,cS];cases p a<;>simp
def bsI (x:Int):RF.ev (.bs 1 [KP.z] [0]) [.i64 x]=some (sl I1 [x]):=rfl
def nB (x:Int):RF.ev .sub [sl I1 [x],.v (.int .i64 0),.v (.int .i64 1)]=some (sl I1 [x]):=rfl
def ZI {x:Int}(h:0<=x)(d:Nat):dC .shr .i64 x .i64 (d:Int)=some (.v (.int .i64 (x.fdiv (2^(min d 64)))))/\ dC .rem .i64 (x.fdiv (2^(min d 64))) .i64 2=some (.v (.int .i64 (fZ x d))):=by
 constructor
 .rw[Pk,ac (by omega),aG];rfl
 .rw[F0,ac (by decide)];unfold fZ;have:0<=x.fdiv (2^(min d 64)):=by
   rw[iP _ (tE (AI (by decide)))];exact Int.ediv_nonneg h (tE (AI (by decide)))
  grind
def aiC:∀(n:Nat) (os:List Int) (f:Int) (d:Nat),os.length<=n->n<=1000->d+n<=10000->(∀x∈os,0<=x)->Ans D 237 [sl I1 os,.i64 f,.i64 (d:Int)] [sl nP (i7 os f d)]:=by
 intro n;induction n with
 |zero=>
  intro os f d h _ _ _;have hl:os=[]:=cX.1 (by omega);subst hl;refine an ⟨1001,?_⟩;unfold Ow i7;simp only[EV,ah,cw,gg,aA,az];rfl
 |succ n ih=>
  intro os f d h hn hd h0;cases os with
  |nil=>
   refine an ⟨1001,?_⟩;unfold Ow i7;simp only[EV,ah,cw,gg,aA,az];rfl
  |cons o os=>
   simp only[aZ] at h;have hlen:=Ew os d;have hs:∀b,(iC os d b).length<=n/\∀x∈iC os d b,0<=x:=λb=>⟨by have:=xN (l:=os) (d:=d) (b:=b);omega,λx hx=>h0 x (aU _ (bF.1 hx).1)⟩;have hr:=λb=>tU n (iC os d b) o (d+1) (hs b).1;have hh:=λb=>phi (ih (iC os d b) o (d+1) (hs b).1 (by omega) (by omega) (hs b).2);have o0:(o::os)[0]?=some o:=rfl;have tx0:RF.ev (.tix 1) [sl I1 (o::os),.v (.int .i64 0)]=some (.i64 ((0:Nat):Int)):=aT o0 (ct _);have ag:RF.ev .agg [.i64 o,.i64 f]=some (.agg (nP (o,f))):=rfl;have bs:RF.ev (.bs 1 [KP.z,KP.z] [0]) [.agg (nP (o,f))]=some (sl nP [(o,f)]):=rfl
   let outs:Nat->List (Int×Int):=λi=>match i with|0=>[(o,f)]|1=>[(o,f)]++i7 (iC os d 0) o (d+1)|_=>[(o,f)]++i7 (iC os d 0) o (d+1)++i7 (iC os d 1) o (d+1)
   refine an ⟨1001,?_⟩;unfold Ow;have ne:decide (((o::os).length:Int)=0)=false:=ak (by simp;omega);simp only[tx0,aM o0,cZ,ag,bs,EV,ah,ne,au,aw];refine(eG (m:=1001) (n:=2) (st:=λi=>[sl nP (outs i),.i64 ((outs i).length:Int),.i64 (i:Int)]) (fin:=some [sl nP (outs 2)]) (λi self hi=>?_) (λself=>?_) (by omega)).trans ?_
   .unfold IG;have l2:decide ((i:Int)<2)=true:=aq (by omega);simp only[EV,l2,dH,az];have e0:([PV.sl [],.v (.int .i64 0),.v (.int .i64 1)]:List PV)=[sl I1 ([]:List Int),.i64 ((([]:List Int).length:Nat):Int),.i64 ((0+1:Nat):Int)]:=rfl;rw[e0];refine(gR (m:=1001) (l:=os) (g:=λacc x=>if decide (fZ x d=(i:Int))=true then acc++[x] else acc) (I:=λi acc=>acc.length<=i) (S:=λacc k=>[sl I1 acc,.i64 (acc.length:Int),.i64 ((k+1:Nat):Int)]) (fin:=λacc=>den (bx D) 1001 IE [kJ (bx D) 1001 ID [] [sl I1 (o::os),.i64 f,.i64 (d:Int),.v (.int .i64 ((o::os).length:Int)),.v (.bool false),.i64 ((0:Nat):Int),.i64 o,.agg (nP (o,f)),sl nP [(o,f)]],self] [sl I1 (o::os),.i64 f,.i64 (d:Int),.v (.int .i64 ((o::os).length:Int)),.v (.bool false),.i64 ((0:Nat):Int),.i64 o,.agg (nP (o,f)),sl nP [(o,f)],sl nP (outs i),.i64 ((outs i).length:Int),.i64 (i:Int),.v (.bool true),.i64 ((os.length+1:Nat):Int),sl I1 acc,.i64 (acc.length:Int),.v (.int .i64 ((o::os).length:Int)),.v (.bool (decide (((os.length+1:Nat):Int)<((o::os).length:Int))))]) (x:=[]) (by simp) (λi a acc _ h=>by
     split
     .rw[aD,aN];omega
     .omega) (λk x acc self' hx hI=>?_) (λacc self' hI=>?_) (by omega)).1.trans ?_
    .have hx':(o::os)[k+1]?=some x:=by simpa using hx
     have hk:=aO hx;obtain⟨b1,b2⟩:=ZI (h0 x (aU _ (ax hx))) d;unfold IF;simp only[aT hx' (ct _),aM hx',cZ,oe,b1,b2,EV,ah,aa,bj (show k+1<(o::os).length by simp;omega),Rr]
     by_cases c1:fZ x d=(i:Int)
     .rw[ad c1,ad c1];simp only[bsI,nB,eF (f:=I1) (l:=acc) (k:=[x]) (bytes:=8) (z:=1) (by simp;omega) ct,EV,ah,up1 (show k+1<1000000000 by omega)]
     .rw[ac c1,ac c1];simp only[up1 (show k+1<1000000000 by omega)]
    .unfold IF;simp only[EV,ah,aa];rw[ac (by simp)]
    .rw[uL (λx=>decide (fZ x d=(i:Int))),aI];have hi2:=hh (i:Int);have he:(List.filter (λx=>decide (fZ x d=(i:Int))) os)=iC os d (i:Int):=rfl;rw[he];unfold IE;have ho:(outs i).length<=2000:=by
      have:=hr 0
      match i,hi with
      |0,_=>simp[outs]
      |1,_=>simp[outs];omega
     have hn1:outs i++i7 (iC os d (i:Int)) o (d+1)=outs (i+1):=by
      match i,hi with
      |0,_=>rfl
      |1,_=>rfl
     have hd1:IntKind.i64.wrap ((d:Int)+1)=((d+1:Nat):Int):=up1 (by omega);simp only[tx0,aM o0,cZ,bI,EV,hd1,hi2,eF (f:=nP) (l:=outs i) (k:=i7 (iC os d (i:Int)) o (d+1)) (bytes:=16) (z:=2) (by have:=hr (i:Int);have:=(hs (i:Int)).1;omega) ZH,ah,hn1,up1 (show i<1000000000 by omega)]
   .unfold IG;simp only[EV,show decide (((2:Nat):Int)<2)=false from rfl,au,aw,ID,bI]
   .unfold i7;simp only[outs,aL,aI]
def Ng {t:Rt}:∀(n:Nat) (l:List Pt) (f:Int) (d:Nat),l.length<=n->Ids l->((ek t l f d).map (·.1)).Nodup:=by
 intro n;induction n with
 |zero=>
  intro l f d h _;have:l=[]:=cX.1 (by omega);subst this;rw[ek];simp
 |succ n ih=>
  intro l f d h hi;cases l with
  |nil=>rw[ek];simp
  |cons p l=>
   simp only[aZ] at h;have hmem:∀(bt:Int) (x:Pt),x∈side (p::l) (df t l p).id d bt->x∈p::l/\ x.id≠(df t l p).id/\ fZ x.id d=bt:=λbt x hx=>by
    unfold side at hx
    grind
   have hs:∀bt:Int,(side (p::l) (df t l p).id d bt).length<=n:=λbt=>by
    have:=qC (t:=t) (p:=p) (l:=l) (d:=d) (b:=bt);omega
   have hid:∀bt:Int,Ids (side (p::l) (df t l p).id d bt):=λbt=>hi.filter _;have fac:=λbt:Int=>qR (t:=t) n (side (p::l) (df t l p).id d bt) (df t l p).id (d+1) (hs bt) (hid bt);rw[ek,bY,dU,cj,eY]
   grind
def LN {k v:Int}:∀{ps:List (Int×Int)},(∀x∈ps,x.1≠k)->luk ps k v=v
 |[],_=>rfl
 |x::ps,h=>by
  show luk ps k (if x.1=k then x.2 else v)=v
  rw[ac (h x (by simp))];exact LN λy hy=>h y (by simp[hy])
def Hm (ps:List (Int×Int)):PV:= .sl (ps.map λx=>[.i64 x.1,.i64 x.2])
def Wg {k v:Int}:∀(ps:List (Int×Int)),(∀x∈ps,x.1≠k)->jS [.i] [.i64 k] [.i64 v] (ps.map λx=>[.i64 x.1,.i64 x.2])=some ((ps++[(k,v)]).map λx=>[.i64 x.1,.i64 x.2])
 |[],_=>by simp[jS,eqN]
 |a::l,h=>by
  simp only[bY,aL,jS];rw[show([PV.i64 a.1,.i64 a.2].take [Ck.i].length)=[.i64 a.1] from rfl,eqN,ak (h a (by simp))]
  simp only;rw[Wg l (λx hx=>h x (by simp[hx]))]
def aiD {ps:List (Int×Int)}{k v:Int}(h:∀x∈ps,x.1≠k):RF.ev (.mset [.i] 1) [Hm ps,.v (.int .i64 k),.v (.int .i64 v)]=some (Hm (ps++[(k,v)])):=by
 unfold Hm;simp[RF.ev,show(PV.v (.int .i64 k)).cells=[.i64 k] from rfl,show(PV.v (.int .i64 v)).cells=[.i64 v] from rfl,Wg ps h]
 rfl
def Wh {k:Int}:∀(ps:List (Int×Int)),(ps.map (·.1)).Nodup->∀v,∃r,dW [.i] [.i64 k] (ps.map λx=>[.i64 x.1,.i64 x.2])=some r/\ r.getD [.i64 v]=[.i64 (luk ps k v)]
 |[],_,v=>⟨none,by simp[dW,eqN],rfl⟩
 |a::l,h,v=>by
  rw[bY,cj] at h;simp only[bY,dW];rw[show([PV.i64 a.1,.i64 a.2].take [Ck.i].length)=[.i64 a.1] from rfl,eqN]
  by_cases e:a.1=k
  .rw[aq e];refine⟨some [.i64 a.2],rfl,?_⟩;show [PV.i64 a.2]=[.i64 (luk l k (if a.1=k then a.2 else v))]
   rw[ad e,LN λy hy e'=>h.1 (by rw[e,<-e'];exact bk.2 ⟨y,hy,rfl⟩)]
  .rw[ak e];obtain⟨r,h1,h2⟩:=Wh l h.2 v;refine⟨r,h1,?_⟩;show _=[PV.i64 (luk l k (if a.1=k then a.2 else v))]
   rw[ac e,h2]
def aiE {ps:List (Int×Int)}{k:Int}(h:(ps.map (·.1)).Nodup):RF.ev (.mget [.i] [KP.z]) [Hm ps,.v (.int .i64 k)]=some (.i64 (luk ps k 0)):=by
 obtain⟨r,h1,h2⟩:=Wh ps h 0 (k:=k);unfold Hm;simp only[RF.ev,show(PV.v (.int .i64 k)).cells=[.i64 k] from rfl,h1]
 exact aW (λx=>some (JP x)) h2
def aiF {a:Int}(h0:0<=a)(h1:a<4611686018427387904):dC .and .i64 a .i64 1=some (.v (.int .i64 (a% 2))):=by
 rw[XD]
 congr 3
 have e:(BitVec.ofInt IntKind.i64.bits a&&& BitVec.ofInt IntKind.i64.bits 1).toNat=a.toNat% 2:=by
  show(BitVec.ofInt 64 a&&& BitVec.ofInt 64 1).toNat=_
  grind
 rw[e,cU (by omega) (by omega)];omega
def aiG {x:Int}(h:0<=x)(h1:x<4611686018427387904)(d:Nat):dC .shr .i64 x .i64 (d:Int)=some (.v (.int .i64 (x.fdiv (2^(min d 64)))))/\ dC .and .i64 (x.fdiv (2^(min d 64))) .i64 1=some (.v (.int .i64 (fZ x d))):=by
 refine⟨(ZI h d).1,?_⟩;have hp:(0:Int)<2^(min d 64):=AI (by decide);rw[iP _ (tE hp)];have h2:=Int.ediv_nonneg h (tE hp);have h3:x/2^(min d 64)<=x:=Int.ediv_le_self _ h;rw[aiF h2 (by omega)];unfold fZ
 grind
def bit_two (x:Int)(d:Nat):fZ x d=0\/fZ x d=1:=by
 unfold fZ;omega
def rV {α:Type}(p q:α->Bool):∀(l a b:List α),l.foldl (λ(acc:List α×List α) x=>if p x=true then(acc.1++[x],acc.2) else if q x=true then(acc.1,acc.2++[x]) else acc) (a,b)=(a++l.filter p,b++l.filter λx=>!p x&& q x)
 |[],a,b=>by simp
 |x::l,a,b=>by
  rw[c6,cS,cS];cases hp:p x with
  |true=>simp[rV p q l]
  |false=>
   cases hq:q x with
   |true=>simp[rV p q l]
   |false=>simp[rV p q l]
def Ex (t:Rt):∀(l:List Pt) (b:Pt),l.foldl (λb p=>if leads t p b=true then p else b) b=df t l b
 |[],_=>rfl
 |p::l,b=>by rw[c6,Ex t l];rfl
def aiH (p:Pt):RF.ev .agg [.v (.int .i64 p.id),.v (.int .i64 p.a),.v (.int .i64 p.b)]=some (PP p):=rfl
def bsP (p:Pt):RF.ev (.bs 1 [KP.z,KP.z,KP.z] [0]) [PP p]=some (sl row [p]):=rfl
def Wi (p:Pt):RF.ev .sub [sl row [p],.v (.int .i64 0),.v (.int .i64 1)]=some (sl row [p]):=rfl
def aiI {t:Rt}(ht:aS t)(hr:rok t=true):∀(n:Nat) (l:List Pt) (f:Int) (d:Nat) (ps:List (Int×Int)),l.length<=n->n<=1000->d+n<=10000->(∀p∈l,p.ok=true)->Ids l->(∀x∈ps,∀p∈l,x.1≠p.id)->Ans D 257 [sl row l,R t,.i64 f,.i64 (d:Int),.sl [],Hm ps] [Hm (ps++ek t l f d)]:=by
 intro n;induction n with
 |zero=>
  intro l f d ps h _ _ _ _ _;have hl:l=[]:=cX.1 (by omega);subst hl;refine am ?_;unfold Oy;rw[ek,bc];simp only[ay,ba,EV,ah,cw,gg,aA,az]
 |succ n ih=>
  intro l f d ps h hn hd hok hids hps;cases l with
  |nil=>
   refine am ?_;unfold Oy;rw[ek,bc];simp only[ay,ba,EV,ah,cw,gg,aA,az]
  |cons p0 l=>
   simp only[aZ] at h;have hbn:∀p∈p0::l,0<=p.id/\ p.id<=65535:=λp hp=>by have:=Pt.bnd (hok p hp);omega
   have htop:df t l p0∈p0::l:=by
    rcases topP_mem t l p0 with e|e
    .rw[e];simp
    .simp[e]
   have o0:(p0::l)[0]?=some p0:=rfl;have tx0:RF.ev (.tix 3) [sl row (p0::l),.v (.int .i64 0)]=some (.i64 ((0:Nat):Int)):=aT o0 (b6 _);have bn:RF.ev .bnd [.v (.int .i64 1),.v (.int .i64 (((p0::l).length:Nat):Int))]=some (.i64 1):=by rw[kq,ad ⟨by omega,by simp;omega⟩]
   have ts:RF.ev (.tsub 3) [sl row (p0::l),.v (.int .i64 1),.v (.int .i64 (((p0::l).length:Nat):Int))]=some (sl row l):=by
    rw[zn,ad ⟨by omega,by simp;omega,by simp,rfl,by decide⟩];simp[bi]
   have ne:decide (((p0::l).length:Int)=0)=false:=ak (by simp;omega);refine an ⟨1001,?_⟩;unfold Oy;simp only[ay,ba,tx0,aM o0,gu,bn,ts,iQ,vl,nX,EV,ah,ne,au,aw];refine(gR (m:=1001) (l:=l) (g:=λb p=>if leads t p b=true then p else b) (I:=λi b=>b=p0\/∃j,j<i/\ l[j]?=some b) (S:=λb i=>[.i64 b.id,.i64 b.a,.i64 b.b,.i64 (i:Int)]) (fin:=λb=>den (bx D) 1001 IV [] [sl row (p0::l),R t,.i64 f,.i64 (d:Int),.sl [],Hm ps,R t,.v (.int .i64 (((p0::l).length:Nat):Int)),.v (.bool false),.i64 ((0:Nat):Int),PP p0,.v (.int .i64 (((p0::l).length:Nat):Int)),.i64 1,sl row l,.v (.int .i64 ((l.length:Nat):Int)),.i64 b.id,.i64 b.a,.i64 b.b]) (x:=p0) (.inl rfl) (λi a b ha hI=>?_) (λi p b self hp hI=>?_) (λb self hI=>?_) (by omega)).1.trans ?_
   .split
    .exact .inr ⟨i,hG _,ha⟩
    .exact hI.imp id λ⟨j,h1,h2⟩=>⟨j,Nat.lt_succ_of_lt h1,h2⟩
   .have hlt:=aO hp;have hpm:p∈p0::l:=by simp[ax hp]
    have hbm:b∈p0::l:=by
     rcases hI with e|⟨j,_,e⟩
     .rw[e];simp
     .simp[ax e]
    have hne:p.id≠b.id:=λe=>by
     have e:=hids.inj hpm hbm e;subst e;unfold Ids at hids;rcases hI with e|⟨j,hj,e⟩
     .subst e;exact(cj.1 hids).1 (bk.2 ⟨_,ax hp,rfl⟩)
     .have:=dL.1 (cj.1 hids).2 j i p.id (by rw[a8,e];rfl) (by rw[a8,hp];rfl);omega
    have hA:=phi (M1 (p:=p) (q:=b) ht);rw[ad (mH (hok p hpm) (hok b hbm) hr hne)] at hA;unfold IW;simp only[ay,aT hp (b6 _),aM hp,gu,aiH,hA,iQ,vl,nX,EV,aa,bj hlt,RK,up1 (show i<1000000000 by omega)]
    cases leads t p b<;>simp
   .unfold IW;simp only[EV,aa,bK]
   .rw[Ex];generalize htt:df t l p0=tp at htop;have hseen:∀x∈ps,x.1≠tp.id:=λx hx=>hps x hx tp htop;unfold IV;simp only[ay,aiD hseen,EV,ah];have e0:([PV.sl [],.v (.int .i64 0),.sl [],.v (.int .i64 0),.v (.int .i64 0)]:List PV)=[sl row ([]:List Pt),.i64 ((([]:List Pt).length:Nat):Int),sl row ([]:List Pt),.i64 ((([]:List Pt).length:Nat):Int),.i64 ((0:Nat):Int)]:=rfl;rw[e0];refine(gR (m:=1001) (l:=p0::l) (g:=λ(acc:List Pt×List Pt) x=>if(decide (x.id≠tp.id)&& decide (fZ x.id d=0))=true then(acc.1++[x],acc.2) else if(decide (x.id≠tp.id)&& decide (fZ x.id d=1))=true then(acc.1,acc.2++[x]) else acc) (I:=λi acc=>acc.1.length<=i/\ acc.2.length<=i) (S:=λacc i=>[sl row acc.1,.i64 (acc.1.length:Int),sl row acc.2,.i64 (acc.2.length:Int),.i64 (i:Int)]) (fin:=λacc=>den (bx D) 1001 IT [] [sl row (p0::l),R t,.i64 f,.i64 (d:Int),.sl [],Hm ps,R t,.v (.int .i64 (((p0::l).length:Nat):Int)),.v (.bool false),.i64 ((0:Nat):Int),PP p0,.v (.int .i64 (((p0::l).length:Nat):Int)),.i64 1,sl row l,.v (.int .i64 ((l.length:Nat):Int)),.i64 tp.id,.i64 tp.a,.i64 tp.b,Hm (ps++[(tp.id,f)]),.v (.int .i64 (((p0::l).length:Nat):Int)),sl row acc.1,.i64 (acc.1.length:Int),sl row acc.2,.i64 (acc.2.length:Int)]) (x:=(([],[]):List Pt×List Pt)) ⟨aB _,aB _⟩ (λi a acc _ hI=>?_) (λi x acc self hx hI=>?_) (λacc self hI=>?_) (by simp;omega)).1.trans ?_
    .split
     .exact⟨by simp;omega,by show acc.2.length<=_;have:=hI.2;omega⟩
     .split
      .exact⟨by show acc.1.length<=_;have:=hI.1;omega,by simp;omega⟩
      .exact⟨by have:=hI.1;omega,by have:=hI.2;omega⟩
    .have hlt:=aO hx;have hl1:(p0::l).length<=1000:=by simp;omega
     have hxb:=hbn x (ax hx);obtain⟨b1,b2⟩:=aiG hxb.1 (by omega) d;unfold IU;simp only[ay,aT hx (b6 _),aM hx,gu,iQ,oe,b1,b2,EV,aa,bj hlt,RJ,up1 (show i<1000000000 by omega),aE,aj]
     by_cases c1:x.id=tp.id
     .simp only[c1,fS,aw,ne_eq,be,qF,au]
     .simp only[c1,not_false_eq_true,az,ne_eq,aA,gI,aa];rcases bit_two x.id d with c2|c2
      .simp only[c2,az,ay,bsP,Wi,eF (f:=row) (l:=acc.1) (k:=[x]) (bytes:=24) (z:=3) (by simp;omega) b6,EV,ah,up1 (show i<1000000000 by omega)]
      .simp only[c2,show¬((1:Int)=0) by decide,aw,az,aA,ay,bsP,Wi,eF (f:=row) (l:=acc.2) (k:=[x]) (bytes:=24) (z:=3) (by simp;omega) b6,EV,ah,up1 (show i<1000000000 by omega)]
    .unfold IU;simp only[EV,aa,bK]
    .rw[rV];have s0:(p0::l).filter (λx=>decide (x.id≠tp.id)&& decide (fZ x.id d=0))=side (p0::l) tp.id d 0:=rfl;have s1:(p0::l).filter (λx=>!(decide (x.id≠tp.id)&& decide (fZ x.id d=0))&&(decide (x.id≠tp.id)&& decide (fZ x.id d=1)))=side (p0::l) tp.id d 1:=by
      unfold side;refine ky λx _=>?_;by_cases c1:x.id=tp.id
      .simp[c1]
      .rcases bit_two x.id d with c2|c2<;>simp[c1,c2]
     rw[s0,s1,aI,aI];have hm:∀(b:Int) (x:Pt),x∈side (p0::l) tp.id d b->x∈p0::l/\ x.id≠tp.id/\ fZ x.id d=b:=λb x hx=>by
      obtain⟨h1,h2⟩:=bF.1 hx;simp only[aJ,aa] at h2;exact⟨h1,h2.1,h2.2⟩
     have hsl:∀b:Int,(side (p0::l) tp.id d b).length<=n:=λb=>by
      have:=qC (t:=t) (p:=p0) (l:=l) (d:=d) (b:=b);rw[htt] at this;omega
     have hsi:∀b:Int,Ids (side (p0::l) tp.id d b):=λb=>hids.filter _;have r0:=phi (ih (side (p0::l) tp.id d 0) tp.id (d+1) (ps++[(tp.id,f)]) (hsl 0) (by omega) (by omega) (λp hp=>hok p (hm 0 p hp).1) (hsi 0) (λx hx p hp=>by
      rcases b9.1 hx with hx|hx
      .exact hps x hx p (hm 0 p hp).1
      .simp only[cJ] at hx;subst hx;exactλe=>(hm 0 p hp).2.1 e.symm))
     have r1:=phi (ih (side (p0::l) tp.id d 1) tp.id (d+1) (ps++[(tp.id,f)]++ek t (side (p0::l) tp.id d 0) tp.id (d+1)) (hsl 1) (by omega) (by omega) (λp hp=>hok p (hm 1 p hp).1) (hsi 1) (λx hx p hp=>by
      rcases b9.1 hx with hx|hx
      .rcases b9.1 hx with hx|hx
       .exact hps x hx p (hm 1 p hp).1
       .simp only[cJ] at hx;subst hx;exactλe=>(hm 1 p hp).2.1 e.symm
      .obtain⟨q,hq,e,_⟩:=qR (t:=t) n _ tp.id (d+1) (hsl 0) (hsi 0) x hx;intro e';have:=hids.inj (hm 0 q hq).1 (hm 1 p hp).1 (e.trans e');subst this;have h1:=(hm 0 q hq).2.2;rw[(hm 1 q hp).2.2] at h1;cases h1))
     have hd1:IntKind.i64.wrap ((d:Int)+1)=((d+1:Nat):Int):=up1 (by omega);unfold IT;simp only[EV,hd1,bI,r0,r1];rw[ek,htt];simp[bg]
def i5 (t:Rt)(l:List Pt):List (Int×Int):=ek t l (-1) 0
def cF (t:Rt)(l:List Pt):List Int:=l.map λp=>luk (i5 t l) p.id 0
def Gq {l:List Pt}(hs:jY l):∀(ps:List (Int×Int)) (out:List Int),out.length=l.length->(∀x∈ps,∃p∈l,p.id=x.1)->∀(i:Nat) (p:Pt) (v:Int),l[i]?=some p->out[i]?=some v->(ps.foldl (λout x=>out.set (pos l x.1).toNat x.2) out)[i]?=some (luk ps p.id v)
 |[],out,_,_,i,p,v,_,hv=>hv
 |x::ps,out,ho,hm,i,p,v,hp,hv=>by
  rw[c6];unfold luk;rw[c6];obtain⟨q,hq,hqx⟩:=hm x (by simp);obtain⟨j,hj⟩:=aK.1 hq;have hpos:pos l x.1=j:=by rw[<-hqx];exact sO hs hj
  refine Gq hs ps _ (by simpa using ho) (λy hy=>hm y (aU _ hy)) i p _ hp ?_
  rw[hpos,aG];by_cases e:i=j
  .subst e;rw[hp] at hj;cases hj;rw[ad hqx.symm,bv (by have:=aO hp;omega)]
  .rw[bB (by omega),ac (λh=>e ?_)]
   .exact hv
   .exact dL.1 (c9 hs) i j p.id (by rw[a8,hp];rfl) (by rw[a8,hj,cD,hqx,h])
def Gr (l:List Pt):∀(ps:List (Int×Int)) (out:List Int),(ps.foldl (λout x=>out.set (pos l x.1).toNat x.2) out).length=out.length
 |[],out=>rfl
 |x::ps,out=>by rw[c6,Gr l ps,aP]
def nC {l:List Pt}(h:okF l):∀p∈l,0<=p.id/\ p.id<=65535:=λp hp=>by
 obtain⟨i,hi⟩:=aK.1 hp;have:=Pt.bnd (dr h hi);omega
def Nh {l:List Pt}{t:Rt}(h:okF l)(ht:aS t):Ans D 145 [F l,R t] [sl I1 (cF t l)]:=by
 have hl:=h.1;have hh:=phi (aiC 64 ((pV t l).map Pt.id) (-1) 0 (by rw[ah,(jZ t l).length_eq];omega) (by omega) (by omega) (λx hx=>by
  obtain⟨p,hp,rfl⟩:=bk.1 hx;exact(nC h p ((jZ t l).mem_iff.1 hp)).1))
 rw[Mq 64 l (pV t l) (-1) 0 hl (jZ t l) (zw (c9 h.2.2)) (c9 h.2.2)] at hh;have hlen:(i5 t l).length<=64:=by
  have:=tU 64 ((pV t l).map Pt.id) (-1) 0 (by rw[ah,(jZ t l).length_eq];omega);rw[Mq 64 l (pV t l) (-1) 0 hl (jZ t l) (zw (c9 h.2.2)) (c9 h.2.2),ah,(jZ t l).length_eq] at this;unfold i5;omega
 have hkey:∀x∈i5 t l,∃p∈l,p.id=x.1:=λx hx=>by
  obtain⟨p,hp,e,_⟩:=qR 64 l (-1) 0 hl (c9 h.2.2) x hx
  grind
 refine an ⟨1001,?_⟩;unfold abK;have z0:PV.v (.int .i64 0)= .i64 ((0:Nat):Int):=rfl;have hh':bx D 237 [sl I1 ((pV t l).map Pt.id),.v (.int .i64 (-1)),.v (.int .i64 0)]=some [sl nP (i5 t l)]:=hh;simp only[ay,aY,ba,cv,phi (aiB h ht),hh',yj (show l.length<=1000 by omega),EV,ah,aQ]
 refine(gR (m:=1001) (l:=i5 t l) (g:=λout x=>out.set (pos l x.1).toNat x.2) (I:=λ_ out=>out.length=l.length) (S:=λout i=>[sl I1 out,.i64 (i:Int)]) (fin:=λout=>some [sl I1 out]) (x:=List.replicate l.length 0) (by simp) (λi a acc _ h=>by simpa using h) (λi x acc self hx hI=>?_) (λacc self hI=>?_) (by omega)).1.trans ?_
 .obtain⟨p,hp,e⟩:=hkey x (ax hx);obtain⟨j,hj⟩:=aK.1 hp;have hpos:pos l x.1=j:=by rw[<-e];exact sO h.2.2 hj
  have hAt:=phi (rF (l:=l) (by omega) x.1);rw[hpos] at hAt;unfold HK;simp only[ay,aT hx (ZH _),aM hx,agi,agj,hAt,ixM (aO hj),fy (show j<acc.length by rw[hI];exact aO hj),EV,ah,aa,bj (aO hx),up1 (show i<1000000000 by have:=aO hx;omega)]
  rw[hpos,aG]
 .unfold HK;have:=bI (f:=I1) (l:=acc);rw[hI] at this;simp only[EV,ah,aa,bK,QD,this]
 .congr 4
  refine c8 λi=>?_;by_cases hi:i<l.length
  .have hp:=ai hi;rw[Gq h.2.2 (i5 t l) _ (by simp) hkey i _ 0 hp (by rw[eM,ad hi])];unfold cF;rw[a8,hp];rfl
  .rw[bD (by rw[Gr];simp;omega),bD (by unfold cF;simp;omega)]
def cG (l:List Pt)(up:List Int):List Crt:=(l.zip up).filterMap λx=>if 0<=x.2 then some ⟨x.1.id,x.2⟩ else none
def LO {α β:Type}(f:α->Option β):∀(l:List α) (acc:List β),l.foldl (λacc x=>acc++(f x).toList) acc=acc++l.filterMap f
 |[],acc=>by simp
 |a::l,acc=>by
  rw[c6,LO f l,me];cases f a<;>simp
def Ni {l:List Pt}{up:List Int}(hl:l.length=up.length)(hb:l.length<=1000):Ans D 146 [F l,sl I1 up] [sl crow (cG l up)]:=by
 refine an ⟨1001,?_⟩;unfold abL;simp only[ay,aY,EV];have e0:([PV.sl [],.v (.int .i64 0),.v (.int .i64 0)]:List PV)=[sl crow ([]:List Crt),.i64 ((([]:List Crt).length:Nat):Int),.i64 ((0:Nat):Int)]:=rfl;rw[e0];refine(gR (m:=1001) (l:=l.zip up) (g:=λacc x=>acc++(if 0<=x.2 then some (Crt.mk x.1.id x.2) else none).toList) (I:=λi acc=>acc.length<=i) (S:=λacc i=>[sl crow acc,.i64 (acc.length:Int),.i64 (i:Int)]) (fin:=λacc=>some [sl crow acc]) (x:=[]) (by simp) (λi a acc _ h=>?_) (λi x acc self hx hI=>?_) (λacc self hI=>?_) (by rw[iz hl];omega)).1.trans ?_
 .grind
 .obtain⟨hp,hq⟩:=lO hx;have hi:=aO hp;unfold HL;simp only[ay,cv,aT hp (b6 _),aM hp,rT,aT hq (ct _),aM hq,cZ,EV,ah,aa,bj (aO hq),QF];by_cases c:0<=x.2
  .rw[ad c];simp only[ay,wL,bsC,rU,eF (f:=crow) (l:=acc) (k:=[⟨x.1.id,x.2⟩]) (bytes:=16) (z:=2) (by simp;omega) gb,EV,ah,up1 (show i<1000000000 by omega),c,az,Option.toList]
  .rw[ac c];simp only[up1 (show i<1000000000 by omega),c,aw,Option.toList,bc]
 .rw[iz hl,hl];unfold HL;simp only[EV,ah,aa,bK,QE,bI]
 .rw[LO (λx:Pt×Int=>if 0<=x.2 then some (Crt.mk x.1.id x.2) else none)]
  rfl
def wM {l:List Pt}{up:List Int}{e:Crt}:e∈cG l up↔∃(i:Nat) (p:Pt) (u:Int),l[i]?=some p/\ up[i]?=some u/\ 0<=u/\ e=⟨p.id,u⟩:=by
 unfold cG;rw[List.mem_filterMap];constructor
 .rintro⟨x,hx,h⟩;obtain⟨i,hi⟩:=aK.1 hx;obtain⟨h1,h2⟩:=lO hi
  grind
 .rintro⟨i,p,u,h1,h2,h3,rfl⟩;refine⟨(p,u),ax (i:=i) ?_,ad h3⟩
  grind
def px:∀{l:List Pt} {up:List Int},Ids l->(cG l up).Nodup
 |[],_,_=>by simp[cG]
 |p::l,[],_=>by simp[cG]
 |p::l,u::us,h=>by
  have ih:=px (l:=l) (up:=us) h.tail;unfold cG at ih|-;rw[List.zip_cons_cons,me];by_cases c:0<=u
  .simp only[c,az];rw[cj];refine⟨λhm=>?_,ih⟩;obtain⟨i,q,v,h1,h2,h3,h4⟩:=wM.1 (show(⟨p.id,u⟩:Crt)∈cG l us from hm)
   simp at h4;refine(cj.1 h).1 ?_;show p.id∈l.map Pt.id
   rw[h4.1];exact bk.2 ⟨q,ax h1,rfl⟩
  .simp only[c,aw];exact ih
def jN (k:KHeap):Prop:=bJ k.c/\ cF k.c.n k.c.p=k.heap/\ JustR k.c (cG k.c.p (cF k.c.n k.c.p))
def oR (t:Rt)(l:List Pt):(cF t l).length=l.length:=by simp[cF]
def fX {l:List Pt}{t:Rt}(h:okF l){e:Crt}(he:e∈cG l (cF t l)):inF l e.j=true/\ inF l e.h=true/\ leads t (bh l e.h) (bh l e.j)=true:=by
 obtain⟨i,p,u,h1,h2,h3,rfl⟩:=wM.1 he;unfold cF at h2;rw[a8,h1,cD,bZ] at h2;have hpm:=ax h1;obtain⟨f,hf⟩:=Pp 64 l (-1) 0 h.1 (c9 h.2.2) (λp hp=>(nC h p hp).1) p hpm;have hmem:(p.id,u)∈i5 t l:=by
  rcases luk_mem (ps:=i5 t l) (k:=p.id) (v:=0) with e|e
  .rw[h2] at e;have:=Ek (ps:=i5 t l) (k:=p.id) (v:=0) ⟨f,hf⟩
   grind
  .grind
 obtain⟨p',hp',e1,e2⟩:=qR 64 l (-1) 0 h.1 (c9 h.2.2) (p.id,u) hmem;simp only at e1 e2;have:=(c9 h.2.2).inj hp' hpm e1;subst this;rcases e2 with e2|⟨q,hq,e3,e4⟩
 .omega
 .refine⟨gO.2 (bk.2 ⟨p',hpm,rfl⟩),gO.2 (bk.2 ⟨q,hq,e3⟩),?_⟩;obtain⟨j,hj⟩:=aK.1 hq;rw[<-e3,io h hj,io h h1];exact e4
open Classical in
def c84 {bb:Nat}{k:KHeap}(h64:fb k.c)(hg:gKh bb k=false):Ans D 64 [KH k] [.i64 (okE (decide (jN k)))]:=by
 obtain⟨g1,g2⟩:=vo hg;have no:∀h:¬jN k,(some [PV.v (.int .i64 8)]:Option (List PV))=some [.i64 (okE (decide (jN k)))]:=λh=>by rw[ak h];rfl
 have pKH2:RF.ev (.part 2 1) [KH k]=some (F k.c.p):=rfl;have pKH0:RF.ev (.part 0 2) [KH k]=some (R k.c.n):=rfl;refine an ⟨1001,?_⟩;unfold k84;simp only[ay,gc,pKH,EV,phi (M9 h64 g1),jG,aE,aj];by_cases h1:bJ k.c
 .have hF:=h1.2.1;have hl:=hF.1;rw[aq h1,ad rfl];simp only[ay,pKH,pKH2,pKH0,cKH,phi (Nh hF h64.1),phi (aic (l:=cF k.c.n k.c.p) (k:=k.heap) (by rw[oR];omega)),phi (Ni (l:=k.c.p) (up:=cF k.c.n k.c.p) (oR _ _).symm (by omega)),EV,aE,aj];by_cases h2:cF k.c.n k.c.p=k.heap
  .rw[ac (by simp[h2])];have hel:(cG k.c.p (cF k.c.n k.c.p)).length<=1000:=by
    unfold cG
    grind
   simp only[ay,EV,phi (Nf (c:=k.c) (edges:=cG k.c.p (cF k.c.n k.c.p)) hF h64.1 hel (by have:=jd g1;omega) (λe he=>⟨(fX hF he).1,(fX hF he).2.1⟩)),aE,aj];by_cases h3:JustR k.c (cG k.c.p (cF k.c.n k.c.p))
   .rw[ac (by simp[h3]),aq (show jN k from⟨h1,h2,h3⟩)];rfl
   .rw[ad h3];exact no (λh=>h3 h.2.2)
  .rw[ad h2];exact no (λh=>h2 h.2.1)
 .rw[ak h1,ac (by simp)];exact no (λh=>h1 h.1)
def At {t:Rt}{l:List Pt}(h:okF l):((i5 t l).map (·.1)).Nodup:=Ng l.length l (-1) 0 (aB _) (c9 h.2.2)
def ot (g:Pt->Int)(k:List Pt):List Crt:=k.filterMap λp=>if 0<=g p then some ⟨p.id,g p⟩ else none
def Bv (g:Pt->Int):∀k:List Pt,cG k (k.map g)=ot g k
 |[]=>rfl
 |x::k=>by
  have:=Bv g k;unfold cG ot at this|-;rw[bY,List.zip_cons_cons,me,me,this]
def Ub (g:Pt->Int)(k:List Pt):(ot g k).length<=k.length:=List.length_filterMap_le ..
def Gs {l:List Pt}{t:Rt}(h:okF l)(ht:aS t)(hr:rok t=true):Ans D 165 [F l,R t] [sl I1 (cF t l),sl crow (cG l (cF t l))]:=by
 have hl:=h.1;have h0:=phi (aiI ht hr l.length l (-1) 0 [] (aB _) (by omega) (by omega) (λp hp=>aV.1 h.2.1 p hp) (c9 h.2.2) (λx hx=>by cases hx));rw[aI] at h0;have e0:Hm []= .sl []:=rfl;rw[e0] at h0;have hgt:∀k:Int,RF.ev (.mget [.i] [KP.z]) [Hm (i5 t l),.v (.int .i64 k)]=some (.i64 (luk (i5 t l) k 0)):=λk=>aiE (At h);have hh:bx D 257 [sl row l,R t,.v (.int .i64 (-1)),.v (.int .i64 0),.sl [],.sl []]=some [Hm (i5 t l)]:=h0;unfold cF;rw[Bv];generalize hg:(λp:Pt=>luk (i5 t l) p.id 0)=g;have hgp:∀p:Pt,luk (i5 t l) p.id 0=g p:=λp=>by rw[<-hg]
 refine an ⟨1001,?_⟩;unfold ab1;simp only[ay,aY,ba,cv,hh,EV,ah];have st0:([PV.sl [],.v (.int .i64 0),.sl [],.v (.int .i64 0),.v (.int .i64 0)]:List PV)=[sl I1 (([]:List Pt).map g),.i64 ((([]:List Pt).length:Nat):Int),sl crow (ot g []),.i64 (((ot g []).length:Nat):Int),.i64 ((0:Nat):Int)]:=rfl;rw[st0];refine(gR (m:=1001) (l:=l) (g:=λacc x=>acc++[x]) (I:=λi acc=>acc.length<=i) (S:=λacc i=>[sl I1 (acc.map g),.i64 (acc.length:Int),sl crow (ot g acc),.i64 ((ot g acc).length:Int),.i64 (i:Int)]) (fin:=λacc=>some [sl I1 (acc.map g),sl crow (ot g acc)]) (x:=[]) (aB _) (λi a acc _ hI=>by simp;omega) (λi p acc self hp hI=>?_) (λacc self hI=>?_) (by omega)).1.trans ?_
 .have hlt:=aO hp;have hel:=Ub g acc;have a1:=eF (f:=I1) (l:=acc.map g) (k:=[g p]) (bytes:=8) (z:=1) (by simp;omega) ct;rw[ah] at a1;have hs:acc.map g++[g p]=(acc++[p]).map g:=by simp
  have nxt:=up1 (show i<1000000000 by omega)
  unfold H6;simp only[ay,cv,aT hp (b6 _),aM hp,gu,iQ,hgt,hgp,bsI,nB,a1,hs,EV,ah,aD,aN,aa,bj hlt];by_cases c1:0<=g p
  .have he:ot g (acc++[p])=ot g acc++[⟨p.id,g p⟩]:=by
    unfold ot;rw[wy];simp[c1]
   rw[ad c1];simp only[ay,wL,bsC,rU,he,eF (f:=crow) (l:=ot g acc) (k:=[⟨p.id,g p⟩]) (bytes:=16) (z:=2) (by simp;omega) gb,EV,ah,aD,aN,H5,nxt]
  .have he:ot g (acc++[p])=ot g acc:=by
    unfold ot;rw[wy];simp[c1]
   rw[ac c1];simp only[EV,H5,nxt,he]
 .unfold H6;have a1:RF.ev .sub [sl I1 (acc.map g),.v (.int .i64 0),.v (.int .i64 (acc.length:Int))]=some (sl I1 (acc.map g)):=by
   have:=bI (f:=I1) (l:=acc.map g);rwa [ah] at this
  simp only[EV,aa,bK,QY,a1,bI]
 .have:∀(k a:List Pt),k.foldl (λacc x=>acc++[x]) a=a++k:=by
   intro k;induction k with
   |nil=>intro a;simp
   |cons x k ih=>intro a;rw[c6,ih];simp
  rw[this,aI]
open Classical in
def c80 {bb:Nat}{k:KHeap}(h64:fb k.c)(hg:gKh bb k=false):Ans D 71 [KH k] [.i64 (okE (decide (jN k)))]:=by
 obtain⟨g1,g2⟩:=vo hg;have no:∀h:¬jN k,(some [PV.v (.int .i64 8)]:Option (List PV))=some [.i64 (okE (decide (jN k)))]:=λh=>by rw[ak h];rfl
 have pKH2:RF.ev (.part 2 1) [KH k]=some (F k.c.p):=rfl;have pKH0:RF.ev (.part 0 2) [KH k]=some (R k.c.n):=rfl;have cKH4:RF.ev (.cell 4) [KH k]=some (sl hrow k.c.q.l):=rfl;have cc:=jd g1;refine an ⟨1001,?_⟩;unfold k80;simp only[ay,gc,pKH,EV,phi (Nd h64 g1),jG,aE,aj];by_cases h1:bJ k.c
 .have hF:=h1.2.1;have hl:=hF.1;rw[aq h1,ad rfl];simp only[ay,pKH2,pKH0,cKH,cKH4,phi (Gs hF h64.1 h1.1),phi (T8 (l:=cF k.c.n k.c.p) (k:=k.heap) (by rw[oR];omega)),EV,ah,aE,aj];by_cases h2:cF k.c.n k.c.p=k.heap
  .rw[ac (by simp[h2])];have hel:(cG k.c.p (cF k.c.n k.c.p)).length<=1000:=by
    unfold cG
    grind
   have hJ:=tT (c:=k.c) h1.2.2.1 (px (up:=cF k.c.n k.c.p) (c9 hF.2.2)) (λe he=>(fX hF he).2.2);by_cases h3:(cG k.c.p (cF k.c.n k.c.p)).length=k.c.q.l.length
   .rw[ac (by omega)];refine(cL (m:=1001) (l:=k.c.q.l) (p:=λh=>decide (h.c∈cG k.c.p (cF k.c.n k.c.p))) (st:=λi=>[.i64 (i:Int)]) (r:=some [.i64 8]) (fin:=some [.i64 0]) (λi h self hh _=>?_) (λ_ self=>?_) (by omega)).trans ?_
    .unfold Oe;simp only[ay,cKH4,pHP,aT hh (fL _),aM hh,kY,phi (yh h.c hel),EV,aa,bj (aO hh),up1 (show i<1000000000 by have:=aO hh;omega)]
     by_cases c1:h.c∈cG k.c.p (cF k.c.n k.c.p)<;>simp[c1]
    .unfold Oe;simp only[EV,aa,bK,Xc]
    .have:(k.c.q.l.all λh=>decide (h.c∈cG k.c.p (cF k.c.n k.c.p)))=true↔jN k:=by
      rw[aV];simp only[aa];exact⟨λh=>⟨h1,h2,hJ.1 ⟨h3,h⟩⟩,λh=>(hJ.2 h.2.2).2⟩
     by_cases hr:jN k
     .rw[ad (this.2 hr),aq hr];rfl
     .rw[ac (λh=>hr (this.1 h)),ak hr];rfl
   .rw[ad (by omega)];exact no (λh=>h3 h.2.2.1.symm)
  .rw[ad h2];exact no (λh=>h2 h.2.1)
 .rw[ak h1,ac (by simp)];exact no (λh=>h1 h.1)
def ldF (t:Rt)(l:List Pt)(i j:Nat):Bool:=leads t ((l[i]?).getD ⟨0,0,0⟩) ((l[j]?).getD ⟨0,0,0⟩)
def zO {t:Rt}{l:List Pt}{i j:Nat}{p q:Pt}(hp:l[i]?=some p)(hq:l[j]?=some q):ldF t l i j=leads t p q:=by
 unfold ldF;rw[hp,hq];rfl
def gj {t:Rt}{l:List Pt}(hs:jY l):Lin (ldF t l) l.length where
 asymm:=λi j h=>fY h
 trans:=λi j k h1 h2=>lT h1 h2
 total:=λi j hi hj hne=>by
  unfold ldF;refine leads_total ?_;rw[ai hi,ai hj];intro e;refine hne (dL.1 (c9 hs) i j l[i].id ?_ ?_)
  .rw[a8,ai hi];rfl
  .rw[a8,ai hj,cD];exact aW some e.symm
def mkN (l:List Pt)(lk:List (Int×Int)):List Nod:=(l.zip lk).map λx=>⟨x.1.id,x.2.1,x.2.2⟩
def gT (l:List Pt)(lk:List (Int×Int))(h:lk.length<=l.length):(mkN l lk).length=lk.length:=by simp[mkN];omega
def lQ {l:List Pt}{lk:List (Int×Int)}{i:Nat}{p:Pt}{x:Int×Int}(hp:l[i]?=some p)(hx:lk[i]?=some x):(mkN l lk)[i]?=some ⟨p.id,x.1,x.2⟩:=by
 unfold mkN
 grind
def cart (t:Rt)(l:List Pt):Tree:=⟨(cmake (ldF t l) l.length).2.1,mkN l (cmake (ldF t l) l.length).2.2⟩
def aiJ {l:List Pt}{t:Rt}(h:okF l)(ht:aS t)(hr:rok t=true):Ans D 345 [F l,R t] [.i64 0]:=by
 have h1:=phi (uG l);rw[eH.2 h] at h1;have h2:=phi (c43 ht);rw[hr] at h2;have e0:okE true=0:=rfl;rw[e0] at h2;refine am ?_;unfold adW;simp[aY,ba,EV,h1,h2]
def tV (l:List Nat):List Int:=l.map λn:Nat=>(n:Int)
def Gt {l:List Pt}{t:Rt}(h:okF l)(ht:aS t)(hr:rok t=true){N:Nat}{i:Nat}{p:Pt}(hp:l[i]?=some p){f0 f1 f2:JT}{e0 e1 e4 e5 e6 e7 e8 e9 e10 e13 e14 e15 e16 e17:PV}{E:List Int}(hE:E.length<=1000):∀(rem:List Nat) (m:Nat) (left:Int),rem.length<m->(∀(k:Nat) (e:Nat),rem.reverse[k]?=some e->E[k]?=some (e:Int))->(∀e∈rem,e<i)->rem.length<=E.length->
  dl (bx D) N yI [f0,f1,f2] [e0,e1,F l,R t,e4,e5,e6,e7,e8,e9,e10,sl I1 E,.i64 (E.length:Int),e13,e14,e15,e16,e17,PP p] m [.i64 (rem.length:Int),.i64 left]=
   f2 [.i64 (popAll (ldF t l) i rem left).2,.i64 ((popAll (ldF t l) i rem left).1.length:Int),.bool (decide (0<(popAll (ldF t l) i rem left).1.length))]
 |[],m,left,hm,_,_,_=>by
  obtain⟨m,rfl⟩:∃m',m=m'+1:=⟨m-1,by omega⟩;rw[bu];unfold yI popAll;simp only[EV,cw,aa];rw[ac (by omega)];rfl
 |e::es,m,left,hm,hk,hlt,hEl=>by
  obtain⟨m,rfl⟩:∃m',m=m'+1:=⟨m-1,by omega⟩;have hee:=hk es.length e (by rw[nW,bP (by simp)];simp);simp at hm hEl;obtain⟨q,hq⟩:∃q,l[e]?=some q:=⟨l[e]'(by have:=hlt e (by simp);have:=aO hp;omega),ai _⟩;have hne:q.id≠p.id:=by have:=jM h.2.2 (hlt e (by simp)) hq hp;omega
  have hA:=phi (M1 (p:=q) (q:=p) ht);rw[ad (mH (dr h hq) (dr h hp) hr hne),<-zO hq hp] at hA;have ih:=Gt h ht hr (N:=N) hp (f0:=f0) (f1:=f1) (f2:=f2) (e0:=e0) (e1:=e1) (e4:=e4) (e5:=e5) (e6:=e6) (e7:=e7) (e8:=e8) (e9:=e9) (e10:=e10) (e13:=e13) (e14:=e14) (e15:=e15) (e16:=e16) (e17:=e17) hE es m (e:Int) (by omega) (λk e' hke=>hk k e' (by
   rw[nW,aH (aO hke)];exact hke)) (λx hx=>hlt x (aU _ hx)) (by omega)
  rw[bu];generalize hkk:yI=kk at ih;subst hkk;unfold yI popAll;have d1:IntKind.i64.wrap (((es.length+1:Nat):Int)-1)=(es.length:Int):=tS (by omega);have bn:RF.ev .bnd [.v (.int .i64 (es.length:Int)),.v (.int .i64 (E.length:Int))]=some (.i64 (es.length:Int)):=by rw[kq,ad ⟨by omega,by omega⟩]
  have g0:decide ((0:Int)<((es.length+1:Nat):Int))=true:=aq (by omega);simp only[EV,aZ,g0,dH,az,d1,ixM (show es.length<es.length+1 by omega),aM hee,cZ,cv,aT hq (b6 _),aM hq,gu,hA,bn]
  cases hL:ldF t l e i with
  |true=>
   simp only[az,aZ];rw[show decide (0<es.length+1)=true from aq (by omega)]
  |false=>
   simp;exact ih
def PE {l:List Nat}{k e:Nat}(h:l[k]?=some e):(tV l)[k]?=some (e:Int):=by
 unfold tV;rw[a8,h];rfl
def Wj {l:List Nod}{i:Nat}{n:Nod}(h:l[i]?=some n)(r:Int):RF.ev (.set 2) [sl dB l,.v (.int .i64 (i:Int)),.v (.int .i64 r)]=some (sl dB (l.set i ⟨n.id,n.left,r⟩)):=by
 rw[xH,ad (by omega),aG,a8,h];exact aW (λx=>some (PV.sl x)) (nq (f:=dB) (l:=l) (i:=i) (a:=⟨n.id,n.left,r⟩)).symm
def bsN (n:Nod):RF.ev (.bs 1 [KP.z,KP.z,KP.z] [0]) [NP n]=some (sl dB [n]):=rfl
def Nj (n:Nod):RF.ev .sub [sl dB [n],.v (.int .i64 0),.v (.int .i64 1)]=some (sl dB [n]):=rfl
def Uc (a b c:Int):RF.ev .agg [.i64 a,.i64 b,.i64 c]=some (NP ⟨a,b,c⟩):=rfl
def LP {l:List Pt}{lk:List (Int×Int)}{e:Nat}{p:Pt}{x:Int×Int}{r:Int}(hp:l[e]?=some p)(hx:lk[e]?=some x):(mkN l lk).set e ⟨p.id,x.1,r⟩=mkN l (lk.modify e λx=>(x.1,r)):=by
 refine c8 λk=>?_;by_cases hk:k<l.length/\ k<lk.length
 .have h1:=ai hk.1;have h2:=ai hk.2;by_cases e':k=e
  .subst e';rw[bv (by simp[mkN];omega)];rw[lQ hp (x:=(x.1,r)) (by rw[gN,hx];rfl)]
  .rw[bB (by omega),lQ h1 h2,lQ h1 (x:=lk[k]) (by rw[eL _ _ (by omega)];exact h2)]
 .rw[bD (by simp[mkN];omega),bD (by simp[mkN];omega)]
def DB {l:List Pt}{lk:List (Int×Int)}{p:Pt}{x:Int×Int}(hp:l[lk.length]?=some p):mkN l lk++[⟨p.id,x.1,x.2⟩]=mkN l (lk++[x]):=by
 unfold mkN;have hlt:=aO hp;have:l.zip (lk++[x])=l.zip lk++[(p,x)]:=by
  have h1:l=l.take lk.length++l.drop lk.length:=(iF _ _).symm;have h2:l.drop lk.length=p::l.drop (lk.length+1):=by
   rw[cY hlt,(aC.1 hp).2]
  rw[h1,List.zip_append (by rw[aR];omega),h2];rw[<-bc lk];rw[bc]
  conv=>rhs;rw[show l.take lk.length++p::l.drop (lk.length+1)=l.take lk.length++([p]++l.drop (lk.length+1)) from rfl]
  rw[show lk=lk++[] by simp,List.zip_append (by rw[aR,bc];omega)]
  simp
 rw[this,dU];rfl
def PF (l:List Nat)(n:Nat):tV (l++[n])=tV l++[(n:Int)]:=by simp[tV]
def ce (t:Rt)(l:List Pt):Nat->List Int
 |0=>[]
 |i+1=>(ce t l i).take (popAll (ldF t l) i (cmake (ldF t l) i).1 (-1)).1.length++[(i:Int)]++(ce t l i).drop ((popAll (ldF t l) i (cmake (ldF t l) i).1 (-1)).1.length+1)
def Nk (ld:Nat->Nat->Bool)(i:Nat)(s:List Nat×Int×List (Int×Int)):(uC ld i s).1=i::(popAll ld i s.1 (-1)).1:=by
 unfold uC
 grind
def Wk (t:Rt)(l:List Pt):∀i,(ce t l i).take (cmake (ldF t l) i).1.length=tV (cmake (ldF t l) i).1.reverse/\(cmake (ldF t l) i).1.length<=(ce t l i).length/\(ce t l i).length<=i
 |0=>⟨rfl,aB _,aB _⟩
 |i+1=>by
  obtain⟨h1,h2,h3⟩:=Wk t l i;have hs:cmake (ldF t l) (i+1)=uC (ldF t l) i (cmake (ldF t l) i):=rfl;rw[hs,Nk];obtain⟨gone,p1,_⟩:=pU (ld:=ldF t l) i (cmake (ldF t l) i).1 (-1);unfold ce;generalize (popAll (ldF t l) i (cmake (ldF t l) i).1 (-1)).1=kept at p1;generalize (cmake (ldF t l) i).1=edge at p1 h1 h2;have hk:kept.length<=edge.length:=by rw[p1,aD];omega
  have h4:(ce t l i).take kept.length=tV kept.reverse:=by
   have:(ce t l i).take kept.length=((ce t l i).take edge.length).take kept.length:=by rw[dG,bM hk]
   rw[this,h1,p1,yd];unfold tV;rw[dU,iG (by simp)]
  have hl:((ce t l i).take kept.length).length=kept.length:=by rw[aR];omega
  refine⟨?_,?_,?_⟩
  .rw[fw (by simp;omega),bi (by simp;omega),h4,nW,PF]
  .simp;omega
  .simp;omega
def cst (t:Rt)(l:List Pt)(i:Nat):List PV:=
 [.i64 (cmake (ldF t l) i).2.1,sl dB (mkN l (cmake (ldF t l) i).2.2),.i64 (i:Int),sl I1 (ce t l i),.i64 ((ce t l i).length:Int),.i64 ((cmake (ldF t l) i).1.length:Int),.i64 (i:Int)]
def aiK {E:List Int}{n:Nat}{x:Int}(h:n<=E.length)(hE:E.length<=1000):RF.ev (.appK 8 1) [sl I1 E,.v (.int .i64 (n:Int)),sl I1 [x]]=some (sl I1 (E.take n++[x]++E.drop (n+1))):=by
 show(if(0:Int)<=n/\(n:Int)<=((E.map I1).length:Nat)/\((n:Int).toNat+([x].map I1).length)*8<=140737488355328/\ d8 1 ([x].map I1)=true then some (PV.sl ((E.map I1).take (n:Int).toNat++[x].map I1++(E.map I1).drop ((n:Int).toNat+([x].map I1).length))) else none)=_
 rw[ad ⟨by omega,by simp;omega,by simp;omega,rfl⟩];simp
def aiL {l:List Pt}{t:Rt}(h:okF l)(ht:aS t)(hr:rok t=true):Ans D 255 [F l,R t] [TR (cart t l),.i64 0]:=by
 have hl:=h.1;refine an ⟨1001,?_⟩;unfold acL;simp only[ay,aY,ba,cv,EV,ah,phi (aiJ h ht hr),aA,aF,au,aw];have e0:([PV.v (.int .i64 (-1)),.sl [],.v (.int .i64 0),.sl [],.v (.int .i64 0),.v (.int .i64 0),.v (.int .i64 0)]:List PV)=cst t l 0:=by simp[cst,cmake,mkN,ce]
 rw[e0];refine(eG (m:=1001) (n:=l.length) (st:=cst t l) (fin:=some [TR (cart t l),.i64 0]) (λi self hi=>?_) (λself=>?_) (by omega))
 .obtain⟨p,hp⟩:∃p,l[i]?=some p:=⟨l[i],ai _⟩;have I:=jh (gj (t:=t) h.2.2) i (by omega);obtain⟨ce1,ce2,ce3⟩:=Wk t l i;unfold cst;have hs:cmake (ldF t l) (i+1)=uC (ldF t l) i (cmake (ldF t l) i):=rfl;have hce:ce t l (i+1)=(ce t l i).take (popAll (ldF t l) i (cmake (ldF t l) i).1 (-1)).1.length++[(i:Int)]++(ce t l i).drop ((popAll (ldF t l) i (cmake (ldF t l) i).1 (-1)).1.length+1):=rfl;rw[hs,hce];generalize cmake (ldF t l) i=s at I ce1 ce2;generalize ce t l i=E at ce1 ce2 ce3;obtain⟨edge,root,lk⟩:=s;obtain⟨desc,mem,_,len,_⟩:=I;simp only at desc mem len ce1 ce2;have helt:∀e∈edge,e<i:=λe he=>((mem e).1 he).1;have hk:∀(k:Nat) (e:Nat),edge.reverse[k]?=some e->E[k]?=some (e:Int):=λk e hk=>by
   have h1:=PE hk
   grind
  unfold IS;simp only[EV,aa,bj hi,cv,aT hp (b6 _),aM hp,gu];refine(Gt h ht hr hp (E:=E) (by omega) edge 1001 (-1) (by omega) hk helt ce2).trans ?_;obtain⟨gone,p1,_,_,_⟩:=pU (ld:=ldF t l) i edge (-1);unfold uC;simp only;generalize popAll (ldF t l) i edge (-1)=pr at p1;obtain⟨kept,y⟩:=pr;simp only at p1;have hkl:kept.length<=E.length:=by rw[p1,aD] at ce2;omega
  have hkl':kept.length<=1000:=by omega
  have hpl:l[lk.length]?=some p:=by rw[len];exact hp
  have u1:=up1 (show i<1000000000 by omega)
  have uk:((kept.length:Int)+((1:Nat):Int))=((kept.length+1:Nat):Int):=by omega
  simp only[EV];unfold RI;simp only[EV,Int.natCast_pos];have ae:=aiK (E:=E) (n:=kept.length) (x:=(i:Int)) hkl (by omega);cases kept with
  |nil=>
   simp only[cw,di,be,au,aw,EV,gg];have ap:RF.ev (.app 24 3) [sl dB (mkN l lk),.v (.int .i64 (i:Int)),sl dB [⟨p.id,y,-1⟩]]=some (sl dB (mkN l (lk++[(y,-1)]))):=by
    have:=eF (f:=dB) (l:=mkN l lk) (k:=[⟨p.id,y,-1⟩]) (bytes:=24) (z:=3) (by rw[gT _ _ (by omega)];simp;omega) ol;rw[gT _ _ (by omega),len] at this;rw[this,<-DB (x:=(y,-1)) hpl]
   simp only[cw,gg] at ae;unfold IR;simp only[ay,iQ,Uc,bsN,Nj,ae,ap,bsI,nB,EV,ah,u1,gT _ _ (show(lk++[(y,-1)]).length<=l.length by simp;omega),aD,len,aZ,cw,cQ]
   rfl
  |cons e es=>
   have hee:E[es.length]?=some (e:Int):=hk es.length e (by
    rw[p1,yd,nW,aH (by simp),bP (by simp)];simp)
   have hei:e<i:=helt e (by rw[p1];simp);obtain⟨q,hq⟩:∃q,l[e]?=some q:=⟨l[e]'(by omega),ai _⟩;obtain⟨x,hx⟩:∃x,lk[e]?=some x:=⟨lk[e]'(by omega),ai _⟩;have hnod:=lQ hq hx;have g0:decide (0<(e::es).length)=true:=by simp
   have d1:IntKind.i64.wrap (((es.length+1:Nat):Int)-1)=(es.length:Int):=tS (by simp at hkl';omega);have ap:RF.ev (.app 24 3) [sl dB (mkN l (lk.modify e λx=>(x.1,(i:Int)))),.v (.int .i64 (i:Int)),sl dB [⟨p.id,y,-1⟩]]=some (sl dB (mkN l ((lk.modify e λx=>(x.1,(i:Int)))++[(y,-1)]))):=by
    have:=eF (f:=dB) (l:=mkN l (lk.modify e λx=>(x.1,(i:Int)))) (k:=[⟨p.id,y,-1⟩]) (bytes:=24) (z:=3) (by rw[gT _ _ (by rw[dS];omega),dS];simp;omega) ol;rw[gT _ _ (by rw[dS];omega),dS,len] at this;rw[this,<-DB (x:=(y,-1)) (by rw[dS];exact hpl)]
   simp only[EV,aZ,d1,ixM (show es.length<es.length+1 by omega),aM hee,cZ,ixM hei,Wj hnod,LP hq hx]
   unfold IR;simp only[aZ] at ae uk;simp only[ay,iQ,Uc,ae,ap,bsN,Nj,bsI,nB,EV,ah,u1,uk,aZ,gT _ _ (show((lk.modify e λx=>(x.1,(i:Int)))++[(y,-1)]).length<=l.length by simp;omega),aD,dS,len,cw,cQ]
   rw[ad (aq (by omega))]
 .unfold cst IS;have hlk:(cmake (ldF t l) l.length).2.2.length=l.length:=(jh (gj (t:=t) h.2.2) l.length (by omega)).len;have hs:=bI (f:=dB) (l:=mkN l (cmake (ldF t l) l.length).2.2);rw[gT _ _ (by omega),hlk] at hs;have ag:RF.ev .agg [.i64 (cmake (ldF t l) l.length).2.1,sl dB (mkN l (cmake (ldF t l) l.length).2.2)]=some (TR (cart t l)):=rfl;simp only[EV,aa,bK,RH,hs,ag]
def nodC (i:Nat)(n:Nod):Bool:=decide (n.left=(i:Int))||decide (n.right=(i:Int))
def uM (l:List Nod)(i:Nat):Int:=((l[i]?).map Nod.id).getD 0
def sQ {l:List Nod}{i:Nat}{n:Nod}(h:l[i]?=some n):uM l i=n.id:=by unfold uM;rw[h];rfl
def uN (l:List Nod)(i:Nat):List Crt:=match l.findIdx? (nodC i) with|some k=>[⟨uM l i,uM l k⟩]|none=>[]
def edgsT (l:List Nod)(n:Nat):List Crt:=(List.range n).flatMap (uN l)
def rW (l:List Nod)(n:Nat):edgsT l (n+1)=edgsT l n++uN l n:=by
 unfold edgsT;rw[qe,mh];simp
def mK (l:List Nod):∀n,(edgsT l n).length<=n
 |0=>by simp[edgsT]
 |n+1=>by
  have:=mK l n;rw[rW,aD];unfold uN;split<;>simp<;>omega
def Fu (l:List Nod):Prop:=∀(i k k':Nat) (x x':Nod),l[k]?=some x->nodC i x=true->l[k']?=some x'->nodC i x'=true->k=k'
def agk (n:Nod):cM 1 0 (dB n)=some (.i64 n.left):=rfl
def agl (n:Nod):cM 2 0 (dB n)=some (.i64 n.right):=rfl
def Wl (n:Nod):cM 0 0 (dB n)=some (.i64 n.id):=rfl
def Ud {l:List Nod}(h:Fu l)(i:Nat):(l.filter (nodC i)).map (λn=>(⟨uM l i,n.id⟩:Crt))=uN l i:=by
 rw[AC (λk k' x x' h1 h2 h3 h4=>h i k k' x x' h1 h2 h3 h4)];unfold uN;cases e:l.findIdx? (nodC i) with
 |none=>rfl
 |some k=>
  obtain⟨hk,_,_⟩:=bL.1 e;have:=ai hk;simp only;rw[this,sQ this];rfl
def Ue {x:Tree}(h:Fu x.n)(hl:x.n.length<=1000):Ans D 144 [TR x] [sl crow (edgsT x.n x.n.length)]:=by
 refine an ⟨1001,?_⟩;unfold abJ;simp only[ay,pq,EV];have e0:([PV.sl [],.v (.int .i64 0),.v (.int .i64 0)]:List PV)=[sl crow (edgsT x.n 0),.i64 ((edgsT x.n 0).length:Int),.i64 ((0:Nat):Int)]:=rfl;rw[e0];refine(eG (m:=1001) (n:=x.n.length) (st:=λi=>[sl crow (edgsT x.n i),.i64 ((edgsT x.n i).length:Int),.i64 (i:Int)]) (fin:=some [sl crow (edgsT x.n x.n.length)]) (λi self hi=>?_) (λself=>?_) (by omega))
 .obtain⟨n,hn⟩:∃n,x.n[i]?=some n:=⟨x.n[i],ai _⟩;have hel:=mK x.n i;unfold HJ;simp only[ay,nO,EV,ah,aa,bj hi];have e1:([sl crow (edgsT x.n i),PV.i64 ((edgsT x.n i).length:Int),.v (.int .i64 0)]:List PV)=[sl crow (edgsT x.n i++[]),.i64 ((edgsT x.n i++[]).length:Int),.i64 ((0:Nat):Int)]:=by rw[bc];rfl
  rw[e1];refine(gR (m:=1001) (l:=x.n) (g:=λacc m=>if nodC i m=true then acc++[⟨n.id,m.id⟩] else acc) (I:=λk acc=>acc.length<=k) (S:=λacc k=>[sl crow (edgsT x.n i++acc),.i64 ((edgsT x.n i++acc).length:Int),.i64 (k:Int)]) (fin:=λacc=>self [sl crow (edgsT x.n i++acc),.i64 ((edgsT x.n i++acc).length:Int),.i64 ((i+1:Nat):Int)]) (x:=[]) (by simp) (λk a acc _ h=>by
   split
   .rw[aD,aN];omega
   .omega) (λk m acc self' hm hI=>?_) (λacc self' hI=>?_) (by omega)).1.trans ?_
  .have hk:=aO hm;have fin:∀(e14 e15 e16 e17:PV) (b:Bool),b=nodC i m->den (bx D) 1001 HH
     [kJ (bx D) 1001 Cd [] [TR x,TR x],self,kJ (bx D) 1001 HF [kJ (bx D) 1001 Cd [] [TR x,TR x],self] [TR x,TR x,sl crow (edgsT x.n i),.i64 ((edgsT x.n i).length:Int),.i64 (i:Int),sl dB x.n,.v (.int .i64 (x.n.length:Int)),.v (.bool (decide ((i:Int)<(x.n.length:Int))))],self']
     [TR x,TR x,sl crow (edgsT x.n i),.i64 ((edgsT x.n i).length:Int),.i64 (i:Int),sl dB x.n,.v (.int .i64 (x.n.length:Int)),.v (.bool (decide ((i:Int)<(x.n.length:Int)))),sl crow (edgsT x.n i++acc),.i64 ((edgsT x.n i++acc).length:Int),.i64 (k:Int),sl dB x.n,.v (.int .i64 (x.n.length:Int)),.v (.bool (decide ((k:Int)<(x.n.length:Int)))),e14,e15,e16,e17,.v (.bool b)]=
     self' [sl crow (edgsT x.n i++if nodC i m=true then acc++[⟨n.id,m.id⟩] else acc),.i64 ((edgsT x.n i++if nodC i m=true then acc++[⟨n.id,m.id⟩] else acc).length:Int),.i64 ((k+1:Nat):Int)]:=λe14 e15 e16 e17 b hb=>by
    subst hb;unfold HH;simp only[EV];cases nodC i m with
    |true=>
     have ap:=eF (f:=crow) (l:=edgsT x.n i++acc) (k:=[⟨n.id,m.id⟩]) (bytes:=16) (z:=2) (by rw[aD];simp;omega) gb;rw[bg] at ap;simp only[az,ay,nO,aT hn (ol _),aM hn,aT hm (ol _),aM hm,Wl,wL,bsC,rU,ap,EV,ah,HG,up1 (show k<1000000000 by omega)]
    |false=>
     simp only[au,aw,EV,HG,up1 (show k<1000000000 by omega)]
   unfold HI;simp only[ay,nO,aT hm (ol _),aM hm,agk,agl,EV,ah,aa,bj hk];by_cases c1:m.left=(i:Int)
   .rw[ad c1];exact fin _ _ _ _ true (by unfold nodC;rw[aq c1];rfl)
   .rw[ac c1];exact fin _ _ _ _ _ (by unfold nodC;rw[ak c1,og])
  .unfold HI;simp only[ay,nO,EV,ah,aa,bK,HF,up1 (show i<1000000000 by omega)]
  .rw[rW];have:x.n.foldl (λacc m=>if nodC i m=true then acc++[(⟨n.id,m.id⟩:Crt)] else acc) []=uN x.n i:=by
    rw[<-Ud h i,sQ hn];have:∀(l:List Nod) (acc:List Crt),l.foldl (λacc m=>if nodC i m=true then acc++[(⟨n.id,m.id⟩:Crt)] else acc) acc=acc++(l.filter (nodC i)).map (λm=>⟨n.id,m.id⟩):=by
     intro l;induction l with
     |nil=>simp
     |cons a l ih=>
      intro acc;rw[c6,ih,cS];cases nodC i a<;>simp
    rw[this,aI]
   rw[this]
 .unfold HJ;simp only[ay,nO,EV,ah,aa,bK,Cd,bI]
def Ey (x:Int×Int):∀(l:List (Int×Int)) (j:Nat) (u:List Int),upArr (l++[x]) j u=upArr [x] (j+l.length) (upArr l j u)
 |[],j,u=>rfl
 |y::l,j,u=>by
  show upArr (l++[x]) (j+1) _=_
  rw[Ey x l];show _=upArr [x] (j+(l.length+1)) (upArr l (j+1) _)
  rw[show j+1+l.length=j+(l.length+1) by omega]
def Uf (i n:Nat)(h:i<n):(List.replicate i (-1:Int)++List.replicate (n-i) 0).set i (-1)=List.replicate (i+1) (-1)++List.replicate (n-(i+1)) 0:=by
 refine c8 λk=>?_
 grind
def lg {l:List Pt}{t:Rt}(h:okF l){k:Nat}{x:Int×Int}(hx:(cmake (ldF t l) l.length).2.2[k]?=some x):∃n,(cart t l).n[k]?=some n/\ n.left=x.1/\ n.right=x.2/\∃p,l[k]?=some p/\ n.id=p.id:=by
 have hlen:=(jh (gj (t:=t) h.2.2) l.length (by omega)).len;obtain⟨p,hp⟩:∃p,l[k]?=some p:=⟨l[k]'(by have:=aO hx;omega),ai _⟩;exact⟨_,lQ hp hx,rfl,rfl,p,hp,rfl⟩
def qU {n:Nod}{x:Int×Int}(h1:n.left=x.1)(h2:n.right=x.2)(i:Nat):nodC i n=decide (oB x i):=by
 unfold nodC;rw[h1,h2,eC];simp;exact Iff.rfl
def PG {l:List Pt}{t:Rt}(h:okF l)(i:Nat):(cmake (ldF t l) l.length).2.2.findIdx? (λx=>decide (oB x i))=(cart t l).n.findIdx? (nodC i):=by
 have hlen:(cmake (ldF t l) l.length).2.2.length=l.length:=(jh (gj (t:=t) h.2.2) l.length (by omega)).len;have hnl:(cart t l).n.length=l.length:=by unfold cart;rw[gT _ _ (by omega)];exact hlen
 cases e:(cart t l).n.findIdx? (nodC i) with
 |none=>
  rw[fh] at e|-;intro x hx;obtain⟨k,hk⟩:=aK.1 hx;obtain⟨n,a1,a2,a3,_⟩:=lg h hk;rw[<-qU a2 a3]
  grind
 |some k=>
  rw[bL] at e|-;obtain⟨e1,e2,e3⟩:=e;have hk:=ai (show k<(cmake (ldF t l) l.length).2.2.length by omega)
  refine⟨by omega,?_,λj hj=>?_⟩
  .obtain⟨n,a1,a2,a3,_⟩:=lg h hk;rw[<-qU a2 a3]
   grind
  .have hj':=ai (show j<(cmake (ldF t l) l.length).2.2.length by omega)
   obtain⟨n,a1,a2,a3,_⟩:=lg h hj';rw[<-qU a2 a3];rw[ai (by omega)] at a1;have a1:=qi a1;rw[<-a1];exact e3 j hj
def Gu {l:List Pt}{t:Rt}(h:okF l)(ht:aS t)(hr:rok t=true)(hone:Fu (cart t l).n)(hlk:∀x∈(cmake (ldF t l) l.length).2.2,x.1<l.length/\ x.2<l.length):Ans D 162 [F l,R t] [TR (cart t l),sl crow (edgsT (cart t l).n l.length)]:=by
 have hl:=h.1;have hlen:(cmake (ldF t l) l.length).2.2.length=l.length:=(jh (gj (t:=t) h.2.2) l.length (by omega)).len;have hnl:(cart t l).n.length=l.length:=by unfold cart;rw[gT _ _ (by omega)];exact hlen
 refine an ⟨1001,?_⟩;unfold abZ;have rp:=yj (n:=(cart t l).n.length) (by omega);simp only[ay,aY,ba,phi (aiL h ht hr),pq,nO,EV,ah,rp,aQ];have e0:([sl I1 (List.replicate (cart t l).n.length 0),.v (.int .i64 0)]:List PV)=[sl I1 (List.replicate 0 (-1)++List.replicate ((cart t l).n.length-0) 0),.i64 ((0:Nat):Int)]:=rfl;rw[e0];refine eG (m:=1001) (n:=(cart t l).n.length) (st:=λi=>[sl I1 (List.replicate i (-1)++List.replicate ((cart t l).n.length-i) 0),.i64 (i:Int)]) (λi self hi=>?_) (λself=>?_) (by omega)
 .unfold DO;simp only[EV,aa,bj hi,ixM hi,fy (l:=List.replicate i (-1)++List.replicate ((cart t l).n.length-i) 0) (i:=i) (by simp;omega),Uf i _ hi,up1 (show i<1000000000 by omega)]
 unfold DO;simp only[EV,aa,bK,QW,nO,ah,js,List.replicate_zero,bc];generalize hLK:(cmake (ldF t l) l.length).2.2=lk at*;have e1:([sl I1 (List.replicate (cart t l).n.length (-1)),.v (.int .i64 0)]:List PV)=[sl I1 (upArr (lk.take 0) 0 (List.replicate (cart t l).n.length (-1))),.i64 ((0:Nat):Int)]:=rfl;rw[e1];refine eG (m:=1001) (n:=(cart t l).n.length) (st:=λi=>[sl I1 (upArr (lk.take i) 0 (List.replicate (cart t l).n.length (-1))),.i64 (i:Int)]) (λi self hi=>?_) (λself=>?_) (by omega)
 .obtain⟨x,hx⟩:∃x,lk[i]?=some x:=⟨lk[i]'(by omega),ai _⟩;obtain⟨nd,a1,a2,a3,_⟩:=lg (t:=t) h (by rw[hLK];exact hx);obtain⟨b1,b2⟩:=hlk x (ax hx);have hnext:upArr (lk.take (i+1)) 0 (List.replicate (cart t l).n.length (-1))=upArr [x] i (upArr (lk.take i) 0 (List.replicate (cart t l).n.length (-1))):=by
   rw[cA,hx];show upArr (lk.take i++[x]) 0 _=_
   rw[Ey,aR,cQ,bM (by omega)]
  have hul:(upArr (lk.take i) 0 (List.replicate (cart t l).n.length (-1))).length=(cart t l).n.length:=by rw[Fg];simp
  rw[hnext];generalize upArr (lk.take i) 0 (List.replicate (cart t l).n.length (-1))=u at hul;have pN:RF.ev (.part 1 2) [NP nd]=some (.agg [.i64 x.1,.i64 x.2]):=by rw[<-a2,<-a3];rfl
  unfold H3;simp only[EV,aa,bj hi,nO,aT a1 (ol _),aM a1,Ge,pN]
  let us:Nat->List Int:=λj=>match j with|0=>u|1=>(if 0<=x.1 then u.set x.1.toNat i else u)|_=>(if 0<=x.2 then(if 0<=x.1 then u.set x.1.toNat i else u).set x.2.toNat i else(if 0<=x.1 then u.set x.1.toNat i else u))
  have hus:∀j,(us j).length=(cart t l).n.length:=λj=>by
   match j with
   |0=>exact hul
   |1=>simp only[us];split<;>simp[hul]
   |j+2=>simp only[us];repeat' split
         all_goals simp[hul]
  refine(eG (m:=1001) (n:=2) (st:=λj=>[sl I1 (us j),.i64 (j:Int)]) (fin:=self [sl I1 (us 2),.i64 ((i+1:Nat):Int)]) (λj self' hj=>?_) (λself'=>?_) (by omega)).trans rfl
  .obtain⟨c,hc,haix,hu⟩:∃c:Int,c<l.length/\ RF.ev (.aix 1 2 0) [.agg [.i64 x.1,.i64 x.2],.i64 (j:Int)]=some (.i64 c)/\ us (j+1)=(if 0<=c then(us j).set c.toNat i else us j):=by
    match j,hj with
    |0,_=>exact⟨x.1,b1,rfl,rfl⟩
    |1,_=>exact⟨x.2,b2,rfl,rfl⟩
   unfold HZ;have l2:decide ((j:Int)<2)=true:=aq (by omega);simp only[EV,l2,dH,az,haix,aa];rw[hu];by_cases c0:0<=c
   .obtain⟨m,rfl⟩:=uI c0;rw[ad c0,ad c0,aG];simp only[EV,ixM (show m<(cart t l).n.length by omega),fy (l:=us j) (i:=m) (by rw[hus];omega),HY,up1 (show j<1000000000 by omega)]
   .rw[ac c0,ac c0];simp only[EV,HY,up1 (show j<1000000000 by omega)]
  .unfold HZ;simp only[EV,show decide (((2:Nat):Int)<2)=false from rfl,au,aw,QV,up1 (show i<1000000000 by omega)]
 unfold H3;simp only[EV,aa,bK,QU,nO,ah];rw[bi (by omega)];have hU:∀i,i<(cart t l).n.length->(upArr lk 0 (List.replicate (cart t l).n.length (-1)))[i]?=match(cart t l).n.findIdx? (nodC i) with|some k=>some ((k:Nat):Int)|none=>some (-1):=λi hi=>by
  rw[Fh lk 0 _ i (by simpa using hi) ?_,<-hLK,PG h i]
  .cases(cart t l).n.findIdx? (nodC i) with
   |none=>simp only;rw[eM,ad hi]
   |some k=>simp only[cQ]
  .intro k x hk hc k' x' hk' hc';rw[<-hLK] at hk hk';obtain⟨n,a1,a2,a3,_⟩:=lg h hk;obtain⟨n',b1,b2,b3,_⟩:=lg h hk';exact hone i k k' n n' a1 (by rw[qU a2 a3];exact aq hc) b1 (by rw[qU b2 b3];exact aq hc')
 generalize upArr lk 0 (List.replicate (cart t l).n.length (-1))=U at hU;have e2:([PV.sl [],.v (.int .i64 0),.v (.int .i64 0)]:List PV)=[sl crow (edgsT (cart t l).n 0),.i64 ((edgsT (cart t l).n 0).length:Int),.i64 ((0:Nat):Int)]:=rfl;rw[e2];refine eG (m:=1001) (n:=(cart t l).n.length) (st:=λi=>[sl crow (edgsT (cart t l).n i),.i64 ((edgsT (cart t l).n i).length:Int),.i64 (i:Int)]) (λi self hi=>?_) (λself=>?_) (by omega)
 .obtain⟨n,hn⟩:∃n,(cart t l).n[i]?=some n:=⟨(cart t l).n[i],ai _⟩;have hel:=mK (cart t l).n i;have hu:=hU i hi;rw[rW];unfold uN;unfold HX;cases e:(cart t l).n.findIdx? (nodC i) with
  |none=>
   rw[e] at hu;simp only[bc];simp only[EV,aa,bj hi,nO,aT hn (ol _),aM hn,Ge,ixM hi,aM hu,cZ,Int.reduceNeg,Int.reduceLE,aw,HW,up1 (show i<1000000000 by omega)]
  |some k=>
   rw[e] at hu;obtain⟨hk,_,_⟩:=bL.1 e;have hm:=ai hk;have c0:((0:Int)<=(k:Nat)):=by omega
   have cN:RF.ev (.cell 0) [NP n]=some (.i64 n.id):=rfl;have ap:=eF (f:=crow) (l:=edgsT (cart t l).n i) (k:=[⟨n.id,(cart t l).n[k].id⟩]) (bytes:=16) (z:=2) (by simp;omega) gb;simp only[EV,aa,bj hi,nO,aT hn (ol _),aM hn,Ge,ixM hi,aM hu,cZ,ad c0,aT hm (ol _),aM hm,Wl,cN,wL,bsC,rU,ap,ah,HW,up1 (show i<1000000000 by omega),sQ hn,sQ hm]
 .unfold HX;simp only[EV,aa,bK,QT,bI,hnl]
end Go.Proofs.YtoeigdpfcnaaeaaGreat
