import Derived.Test.YtoeigdpfcnaaeaaGreatC1
import Derived.Test.YtoeigdpfcnaaeaaGreatP1
set_option linter.unusedVariables false
set_option linter.unusedSimpArgs false
set_option linter.defProp false
noncomputable section
namespace Go.Proofs.YtoeigdpfcnaaeaaGreat
open Go.Sym Bnd
set_option maxRecDepth 100000
section
variable {α:Type}[DecidableEq α]{ks:List Ck}{kc:α->List PV}
def tj (hl:∀a,(kc a).length=ks.length)(he:∀a b,eqL ks (kc a) (kc b)=some (decide (a=b)))(v:PV)(k:α):∀seen:List α,dR ks (kc k) (seen.map λa=>kc a++[v])=some (if k∈seen then some [v] else none)
 |[]=>by simp[dR,he]
 |a::l=>by
  simp only[bQ,dR];rw[g9 (hl a),he,ow (hl a)];by_cases e:a=k
  .subst e;simp
  .rw[ak e];simp only;rw[tj hl he v k l]
   congr 1
   have:(k∈a::l)↔k∈l:=by simp[show k≠a fromλh=>e h.symm]
   simp[this]
def vo (hl:∀a,(kc a).length=ks.length)(he:∀a b,eqL ks (kc a) (kc b)=some (decide (a=b)))(v:PV)(k:α):∀seen:List α,k∉seen->ji ks (kc k) [v] (seen.map λa=>kc a++[v])=some ((seen++[k]).map λa=>kc a++[v])
 |[],_=>by simp[ji,he]
 |a::l,h=>by
  simp only[bQ,aU,ji];rw[g9 (hl a),he,ak (λe=>h (by simp[e]))];simp only;rw[vo hl he v k l (λe=>h (by simp[e]))]
end
abbrev T1:PV:= .bool true
def Nm (seen:List Int):PV:= .sl (seen.map λn=>[.i64 n]++[T1])
def Cm (seen:List Crt):PV:= .sl (seen.map λc=>crow c++[T1])
def eqN (a b:Int):eqL [.i] [.i64 a] [.i64 b]=some (decide (a=b)):=by
 simp[eqL,eqC]
def Xf (a b:Crt):eqL [.i,.i] (crow a) (crow b)=some (decide (a=b)):=by
 have h:=wT a b;injection h with h
 injection h with h
 injection h with h
 rw[<-h];rfl
def afw (seen:List Int)(k:Int):RF.ev (.mget [.i] [.v (.bool false)]) [Nm seen,.v (.int .i64 k)]=some (.bool (decide (k∈seen))):=by
 have h:=tj (ks:=[.i]) (kc:=λn:Int=>[.i64 n]) (λ_=>rfl) eqN T1 k seen;unfold Nm;simp only[RF.ev,show(PV.v (.int .i64 k)).cells=[.i64 k] from rfl,h]
 by_cases e:k∈seen
 .simp[e];rfl
 .simp[e];rfl
def afx (seen:List Int){k:Int}(h:k∉seen):RF.ev (.mset [.i] 1) [Nm seen,.v (.int .i64 k),.v (.bool true)]=some (Nm (seen++[k])):=by
 have h:=vo (ks:=[.i]) (kc:=λn:Int=>[.i64 n]) (λ_=>rfl) eqN T1 k seen h;unfold Nm;simp only[RF.ev,show(PV.v (.int .i64 k)).cells=[.i64 k] from rfl,show(PV.v (.bool true)).cells=[T1] from rfl,h]
 rfl
def adf (seen:List Crt)(k:Crt):RF.ev (.mget [.i,.i] [.v (.bool false)]) [Cm seen,CP k]=some (.bool (decide (k∈seen))):=by
 have h:=tj (ks:=[.i,.i]) (kc:=crow) (λ_=>rfl) Xf T1 k seen;unfold Cm;simp[RF.ev,show(CP k).cells=crow k from rfl,h]
 by_cases e:k∈seen
 .simp[e];rfl
 .simp[e];rfl
def adg (seen:List Crt){k:Crt}(h:k∉seen):RF.ev (.mset [.i,.i] 1) [Cm seen,CP k,.v (.bool true)]=some (Cm (seen++[k])):=by
 have h:=vo (ks:=[.i,.i]) (kc:=crow) (λ_=>rfl) Xf T1 k seen h;unfold Cm;simp[RF.ev,show(CP k).cells=crow k from rfl,show(PV.v (.bool true)).cells=[T1] from rfl,h]
 rfl
def mU {α:Type}{f:α->List PV}{bytes z:Nat}{l:List α}(h:l.length*bytes<=140737488355328)(hz:∀a,(f a).length=z):RF.ev (.app bytes z) [.sl [],.v (.int .i64 0),.sl (l.map f)]=some (.sl (l.map f)):=by
 have:=gn (f:=f) (l:=[]) (k:=l) (bytes:=bytes) (z:=z) (by simpa using h) hz
 grind
def K9 {l:List Bool}(hl:l.length<=1000):Ans D 368 [sl B1 l] [sl B1 l]:=by
 refine am ?_;unfold abz;simp only[EV,ai,aa];have h1:den (bL D) 1 Hw [] [sl B1 l,.i64 (l.length:Int),.bool (decide ((l.length:Int)=0))]=some [sl B1 l]:=by
  unfold Hw;simp[EV,mU (l:=l) (f:=B1) (bytes:=1) (z:=1) (by omega) uZ,cp]
 by_cases h:(l.length:Int)=0
 .have:l=[]:=bJ (by omega);subst this;rw[ad h];exact o7 rfl h1
 .grind
def afy {l:List Bool}(_:0<l.length)(hl:l.length<=1000):Ans D 368 [sl B1 l] [sl B1 l]:=K9 hl
def qg {l:List Int}(hl:l.length<=1000):Ans D 153 [sl I1 l] [sl I1 l]:=by
 refine am ?_;unfold ZB;simp only[EV,ai,aa];have h1:den (bL D) 1 Gc [] [sl I1 l,.i64 (l.length:Int),.bool (decide ((l.length:Int)=0))]=some [sl I1 l]:=by
  unfold Gc;simp[EV,mU (l:=l) (f:=I1) (bytes:=8) (z:=1) (by omega) cA,cp]
 by_cases h:(l.length:Int)=0
 .have:l=[]:=bJ (by omega);subst this;rw[ad h];exact o7 rfl h1
 .grind
def BY {α:Type}[DecidableEq α](v:α)(l:List α):l.any (λy=>decide (v=y))=decide (v∈l):=by
 grind
def afz {l:List Bool}(v:Bool)(hl:l.length<=1000):Ans D 432 [sl B1 l,.bool v] [.i64 (qd (λy=>decide (v=y)) l)]:=by
 refine an ⟨1001,?_⟩;unfold ab0;simp[EV];refine(oI (m:=1001) (l:=l) (p:=λy=>decide (v=y)) (st:=λi=>[.i64 (i:Int)]) (ret:=λi=>some [.i64 (i:Int)]) (fin:=some [.i64 (-1)]) (λi a self ha=>?_) (λself=>?_) (by omega)).trans DV
 .unfold HG;simp only[aX ha (uZ _),aM ha,uY,EV,aa,bi (aL ha),up1 (show i<1000000000 by have:=aL ha;omega),beq_iff_eq]
 .unfold HG;simp[EV,PW]
def afA {l:List Bool}(v:Bool)(hl:l.length<=1000):Ans D 393 [sl B1 l,.bool v] [.bool (decide (v∈l))]:=by
 refine am ?_;unfold abN;simp[EV,phi (afz v hl),zk,BY]
open Classical in
def La {s:Slots}(hg:gSl s=false):Ans D 324 [SL s] [.i64 (okE (decide s.okR))]:=by
 unfold gSl at hg;simp only[eG,aj] at hg;rw[show decide s.okR=decide s.okP from cD.2 (Slots.ok_iff s).symm]
 have no:∀h:¬s.okP,(some [PV.v (.int .i64 8)]:Option (List PV))=some [.i64 (okE (decide s.okP))]:=λh=>by rw[ak h];rfl
 refine an ⟨1001,?_⟩;unfold aa4;simp only[ay,jS,jT,mn,jU,EV,ai,aa,aE,aj];by_cases h1:s.uses.length<1
 .rw[ad (by omega)];exact no (λh=>by have:=h.1;omega)
 rw[ac (by omega)];by_cases h2:200<s.uses.length
 .rw[ad (by omega)];exact no (λh=>by have:=h.2.1;omega)
 rw[ac (by omega)];by_cases h3:s.used.length=s.uses.length
 rotate_left
 .rw[ad (by omega)];exact no (λh=>h3 h.2.2.1)
 rw[ac (by omega)];simp only[phi (afy (l:=s.used) (by omega) (by omega)),EV,ai,ay,jU];refine(vl (m:=1001) (l:=s.free) (g:=λl x=>if 0<=x/\ x<l.length/\ l[x.toNat]?=some false then some (l.set x.toNat true) else none) (I:=λl=>l.length=s.uses.length) (S:=λl i=>[sl B1 l,.i64 (i:Int)]) (r:=some [.i64 8])
  (fin:=λacc=>some [.i64 (okE (decide s.okP))]) (x:=s.used) h3 (λa acc acc' hI hg=>?_) (λi x acc self hx hI=>?_) (λacc self hI hm=>?_) (by omega)).trans ?_
 .split at hg
  .cases hg;simpa using hI
  .cases hg
 .unfold Ce;have hi:=aL hx;simp only[ay,jU,aX hx (cA _),aM hx,cQ,EV,ai,aa,bi hi,bB,show((0:Int)<=(i:Int)) by omega,az]
  by_cases c1:x<0
  .rw[ad c1,ac (by omega)]
  .rw[ac c1];by_cases c2:(s.uses.length:Int)<=x
   .rw[ad c2,ac (by rw[hI];omega)]
   .rw[ac c2];obtain⟨n,rfl⟩:=ti (show 0<=x by omega)
    obtain⟨b,hb⟩:∃b,acc[n]?=some b:=⟨acc[n]'(by omega),ah _⟩;simp only[ay,jU,aX hx (cA _),aM hx,cQ,ixM (show n<s.used.length by omega),aM hb,uY,K5 (show n<acc.length by omega),EV,up1 (show i<1000000000 by omega)]
    cases b with
    |true=>
     rw[ad rfl,ad (show decide ((0:Int)<=(i:Int))=true from aq (by omega)),ac (λg=>by have:=g.2.2;rw[aF,hb] at this;cases this)]
    |false=>rw[ac (by simp),ad ⟨by omega,by omega,by rw[aF];exact hb⟩,aF]
 .rw[<-nS] at hm;have su:RF.ev .sub [sl B1 acc,.v (.int .i64 0),.v (.int .i64 (s.used.length:Int))]=some (sl B1 acc):=by rw[h3,<-hI];exact cp
  unfold Ce;simp only[ay,EV,aa,bP,PG,su,jT,ai,phi (afA (l:=acc) false (by omega)),bB,show¬((0:Int)<= -1) by omega,ax]
  by_cases c1:false∈acc
  .simp only[c1,az];exact no (λh=>by
    obtain⟨l,e1,e2⟩:=h.2.2.2.1;rw[hm] at e1;cases e1;exact e2 c1)
  simp only[c1,ax];refine(eV (m:=1001) (n:=s.uses.length) (P:=λi=>∀u,s.uses[i]?=some u->0<=u/\ u<=1000000/\¬(u=0/\ s.used[i]?=some true)) (st:=λi=>[.i64 (i:Int)]) (r:=some [.i64 8]) (fin:=some [.i64 0]) (λi self hi _=>?_) (λ_ self=>?_) (by omega)).trans ?_
  .obtain⟨u,hu⟩:∃u,s.uses[i]?=some u:=⟨s.uses[i],ah _⟩;obtain⟨b,hb⟩:∃b,s.used[i]?=some b:=⟨s.used[i]'(by omega),ah _⟩;have hP:(∀u',s.uses[i]?=some u'->0<=u'/\ u'<=1000000/\¬(u'=0/\ s.used[i]?=some true))↔(0<=u/\ u<=1000000/\¬(u=0/\ b=true)):=by
    rw[hu,hb];simp
   unfold Hg;simp only[hP,ay,jT,mn,aX hu (cA _),aM hu,cQ,aX hb (uZ _),aM hb,uY,EV,aa,bi hi,PF,up1 (show i<1000000000 by omega)]
   by_cases c1:u<0
   .simp only[ad c1,az];rw[ac (by omega)]
   simp only[ac c1];by_cases c2:1000000<u
   .simp only[ad c2,az];rw[ac (by omega)]
   simp only[ac c2];by_cases c3:u=0
   .simp only[ad c3];cases b with
    |true=>simp[c3]
    |false=>simp[c3]
   .simp only[ac c3,aw,ax];rw[ad ⟨by omega,by omega,λh=>c3 h.1⟩]
  .unfold Hg;simp only[EV,aa,bP,PE]
  .by_cases hr:s.okP
   .rw[ad (λi _=>hr.2.2.2.2 i),aq hr];rfl
   .rw[ac (λh=>hr ⟨by omega,by omega,h3,⟨acc,hm,c1⟩,λi u hu=>h i (aL hu) u hu⟩),ak hr];rfl
 .rw[<-nS];cases hm:ol s.used s.free with
  |some l=>rfl
  |none=>
   exact no (λh=>by
    obtain⟨l,e1,_⟩:=h.2.2.2.1;rw[hm] at e1;cases e1)
def zn (x y:Evt):Int:=if sgn (crs x.time y.time)=0 then sgn (x.number-y.number) else sgn (crs x.time y.time)
def oO (x y:Evt):zn x y<0↔evLess x y=true:=by
 unfold zn evLess;have:=lh x.number y.number
 grind
def zo {x y:Evt}(hx:aQ x.time)(hy:aQ y.time)(rx:rok x.time=true)(ry:rok y.time=true):Ans D 325 [EP x,EP y] [.i64 (zn x y)]:=by
 have e:=phi (qe hx hy);rw[rx,ry,gb,ad rfl] at e;have bs:RF.ev (.bs 2 [KP.z] [0,1]) [.v (.int .i64 (sgn (crs x.time y.time))),.v (.int .i64 (sgn (x.number-y.number)))]=some (.sl [[.i64 (sgn (crs x.time y.time))],[.i64 (sgn (x.number-y.number))]]):=rfl;have su:∀a b:List PV,RF.ev .sub [.sl [a,b],.v (.int .i64 0),.v (.int .i64 2)]=some (.sl [a,b]):=λa b=>rfl;refine am ?_;unfold aa5 zn;simp[ir,pEP,vn,EV,e,phi (uX _ _),bs,su,phi (orr _ _)]
def pi (c:Certs):Nat->Int
 |0=> -1
 |i+1=>((c.list[i]?).map Held.number).getD (-1)
def Ah (c:Certs)(j:Nat)(h:Held):Prop:=h.cert.ok/\(∀k,k<j->∀g,c.list[k]?=some g->g.cert≠h.cert)/\ pi c j<h.number/\ h.number<c.next
def Nd {c:Certs}(h1:c.list.length<=200)(h2:0<=c.next)(h3:c.next<=1000000):(∀j h,c.list[j]?=some h->Ah c j h)↔dy c:=by
 constructor
 .intro h;have nn:∀(j:Nat) (g:Held),c.list[j]?=some g->0<=g.number:=by
   intro j;induction j with
   |zero=>intro g hg;have:=(h 0 g hg).2.2.1;simp only[pi] at this;omega
   |succ j ih=>
    intro g hg;obtain⟨p,hp⟩:∃p,c.list[j]?=some p:=⟨c.list[j]'(by have:=aL hg;omega),ah _⟩;have h5:=(h (j+1) g hg).2.2.1;simp only[pi,hp,cg,cx] at h5
    grind
  refine⟨h1,h2,h3,λi x hx=>⟨(h i x hx).1,nn i x hx,(h i x hx).2.2.2,λg hi hg=>?_,(h i x hx).2.1⟩⟩;obtain⟨i,rfl⟩:∃k,i=k+1:=⟨i-1,by omega⟩;have:=(h (i+1) x hx).2.2.1;rw[dz] at hg;simp only[pi,hg,cg,cx] at this;exact this
 .rintro⟨_,_,_,h⟩ j x hx;obtain⟨a1,a2,a3,a4,a5⟩:=h j x hx;refine⟨a1,a5,?_,a3⟩;cases j with
  |zero=>simp only[pi];omega
  |succ j=>
   obtain⟨p,hp⟩:∃p,c.list[j]?=some p:=⟨c.list[j]'(by have:=aL hx;omega),ah _⟩;simp only[pi,hp,cg,cx];exact a4 p (by omega) (by simpa using hp)
def EI {c:Certs}{i:Nat}{k:Crt}:k∉(c.list.take i).map (·.cert)↔∀j,j<i->∀g,c.list[j]?=some g->g.cert≠k:=by
 constructor
 .intro h j hj g hg e;exact h (bf.2 ⟨g,aI.2 ⟨j,by rw[c7 hj];exact hg⟩,e⟩)
 .intro h hm;obtain⟨g,hg,e⟩:=bf.1 hm;obtain⟨j,hj⟩:=aI.1 hg
  grind
open Classical in
def Lb {c:Certs}(hl:c.list.length<=1000):Ans D 239 [CS c] [.i64 (okE (decide (dy c)))]:=by
 refine an ⟨1001,?_⟩;unfold aab;have no:∀h:¬dy c,(some [PV.v (.int .i64 8)]:Option (List PV))=some [.i64 (okE (decide (dy c)))]:=λh=>by rw[ak h];rfl
 simp only[ay,kD,nO,gg,EV,ai,aa,cw];by_cases h1:200<c.list.length
 .rw[ad (by omega)];exact no (λh=>by have:=h.1;omega)
 rw[ac (by omega)];by_cases h2:c.next<0
 .rw[ad h2];exact no (λh=>by have:=h.2.1;omega)
 rw[ac h2];by_cases h3:1000000<c.next
 .rw[ad h3];exact no (λh=>by have:=h.2.2.1;omega)
 rw[ac h3];refine(eV (n:=c.list.length) (P:=λi=>∀h,c.list[i]?=some h->Ah c i h) (st:=λi=>[Cm ((c.list.take i).map (·.cert)),.i64 (pi c i),.i64 (i:Int)]) (r:=some [.i64 8]) (fin:=some [.i64 0]) (λi self hi _=>?_) (λ_ self=>?_) (by omega)).trans ?_
 .obtain⟨h,hh⟩:∃h,c.list[i]?=some h:=⟨c.list[i],ah _⟩;have hP:(∀h',c.list[i]?=some h'->Ah c i h')↔Ah c i h:=⟨λx=>x h hh,λx h' e=>by rw[hh] at e;cases e;exact x⟩;have hs:(c.list.take (i+1)).map (·.cert)=(c.list.take i).map (·.cert)++[h.cert]:=by
   rw[cC,hh];simp
  have hn:pi c (i+1)=h.number:=by simp only[pi,hh,cg,cx]
  unfold GP;simp only[hP,hs,hn,ay,nO,gg,aX hh (gL _),aM hh,lr,pHP,lu,phi (Rf _),adf,EV,ai,aa,bi hi,aE,aj,bB];by_cases a1:h.cert.ok
  rotate_left
  .rw[ad a1,ac (λx=>a1 x.1)]
  rw[ac (ku a1)];by_cases a2:h.cert∈(c.list.take i).map (·.cert)
  .rw[ad a2,ac (λx=>absurd a2 (EI.2 x.2.1))]
  rw[ac a2];by_cases a3:h.number<=pi c i
  .rw[ad a3,ac (λx=>by have:=x.2.2.1;omega)]
  rw[ac a3];by_cases a4:c.next<=h.number
  .rw[ad a4,ac (λx=>by have:=x.2.2.2;omega)]
  rw[ac a4,ad ⟨a1,EI.1 a2,by omega,by omega⟩];simp only[ay,pHP,lu,adg _ a2,EV,up1 (show i<1000000000 by omega)]
 .unfold GP;simp only[ay,gg,EV,ai,aa,bP,Pb]
 .have:(∀i,i<c.list.length->∀h,c.list[i]?=some h->Ah c i h)↔dy c:=by
   rw[<-Nd (by omega) (by omega) (by omega)];exact⟨λh i x hx=>h i (aL hx) x hx,λh i _=>h i⟩
  by_cases hr:dy c
  .rw[ad (this.2 hr),aq hr];rfl
  .rw[ac (λh=>hr (this.1 h)),ak hr];rfl
def adh (p q:Hnd):RF.ev (.eqv [.i,.i]) [HD p,HD q]=some (.bool (decide (p=q))):=by
 obtain⟨a,b⟩:=p;obtain⟨c,d⟩:=q;show some (PV.bool (decide (a=c)&&(decide (b=d)&& true)))=_
 simp_all
open Classical in
def EJ {a:Agenda}(hg:gAg a=false)(h64:∀e∈a.heap,aQ e.time):Ans D 240 [AG a] [.i64 (okE (decide (eO a)))]:=by
 have hgs:=hg;unfold gAg at hgs;simp only[eG,aj] at hgs;have hsl:a.slots.uses.length<=210/\ a.slots.used.length<=210/\ a.slots.free.length<=210:=by
  have:=hgs.1.1;unfold gSl at this
  grind
 have cAG0:RF.ev (.cell 0) [AG a]=some (sl I1 a.slots.uses):=rfl;have cAG1:RF.ev (.cell 1) [AG a]=some (sl B1 a.slots.used):=rfl;have cAG2:RF.ev (.cell 2) [AG a]=some (sl I1 a.slots.free):=rfl;have no:∀h:¬eO a,(some [PV.v (.int .i64 8)]:Option (List PV))=some [.i64 (okE (decide (eO a)))]:=λh=>by rw[ak h];rfl
 refine an ⟨1001,?_⟩;unfold aac;simp only[ay,jE,pAG,cAG1,cAG2,fE,mo,EV,ai,phi (La hgs.1.1),pC,aa,aE,aj,cI (show-9223372036854775808<=(a.slots.used.length:Int)-(a.slots.free.length:Int) by omega) (by omega)]
 by_cases q1:a.slots.okR
 rotate_left
 .rw[ad (by rw[ak q1];decide)];exact no (λh=>q1 h.1)
 rw[ac (by rw[aq q1];decide)];obtain⟨g1,g2,g3,g4,_⟩:=id q1;by_cases q2:a.wher.length=a.slots.used.length
 rotate_left
 .rw[ad (by omega)];exact no (λh=>q2 (by rw[h.2.1.1,g3]))
 rw[ac (by omega)];by_cases q3:a.heap.length+a.slots.free.length=a.slots.used.length
 rotate_left
 .rw[ad (by omega)];exact no (λh=>q3 (by rw[h.2.1.2.1,g3]))
 rw[ac (by omega)];refine(eV (n:=a.wher.length) (P:=λi=>∀(b:Bool) (w u:Int),a.slots.used[i]?=some b->a.wher[i]?=some w->a.slots.uses[i]?=some u->if b=true then 0<=w/\∃e,a.heap[w.toNat]?=some e/\ e.hnd=⟨i,u⟩ else w= -1) (st:=λi=>[.i64 (i:Int)]) (r:=some [.i64 8]) (fin:=some [.i64 (okE (decide (eO a)))]) (λi self hi _=>?_) (λhall self=>?_) (by omega)).trans ?_
 .obtain⟨u,hu⟩:∃u,a.slots.uses[i]?=some u:=⟨a.slots.uses[i]'(by omega),ah _⟩;obtain⟨b,hb⟩:∃b,a.slots.used[i]?=some b:=⟨a.slots.used[i]'(by omega),ah _⟩;obtain⟨w,hw⟩:∃w,a.wher[i]?=some w:=⟨a.wher[i]'(by omega),ah _⟩;have hP:(∀(b':Bool) (w' u':Int),a.slots.used[i]?=some b'->a.wher[i]?=some w'->a.slots.uses[i]?=some u'->if b'=true then 0<=w'/\∃e,a.heap[w'.toNat]?=some e/\ e.hnd=⟨i,u'⟩ else w'= -1)↔(if b=true then 0<=w/\∃e,a.heap[w.toNat]?=some e/\ e.hnd=⟨i,u⟩ else w= -1):=
   ⟨λh=>h b w u hb hw hu,λh b' w' u' h1 h2 h3=>by rw[hu] at h3;rw[hb] at h1;rw[hw] at h2;cases h1;cases h2;cases h3;exact h⟩
  have nxt:=up1 (show i<1000000000 by omega)
  unfold GT;simp only[hP,ay,cAG1,fE,mo,aX hb (uZ _),aM hb,uY,aX hw (cA _),aM hw,cQ,EV,ai,aa,bi hi];cases b with
  |false=>
   simp only[bZ,az,aw,ax,EV,aE,aj];by_cases c1:w= -1
   .rw[ac (by omega),ad c1];unfold GS;simp only[EV,nxt]
   .rw[ad c1,ac c1]
  |true=>
   simp only[aJ,aw,ax,az,bB];by_cases c1:w<0
   .rw[ad c1,ac (by omega)]
   rw[ac c1];obtain⟨n,rfl⟩:=ti (show 0<=w by omega)
   by_cases c2:a.heap.length<=n
   .rw[ad (by omega),ac (λh=>by
     obtain⟨_,e,he,_⟩:=h;have:=aL he;omega)]
   rw[ac (by omega)];obtain⟨e,he⟩:∃e,a.heap[n]?=some e:=⟨a.heap[n]'(by omega),ah _⟩;have ag:RF.ev .agg [.v (.int .i64 (i:Int)),.v (.int .i64 u)]=some (HD ⟨i,u⟩):=rfl;simp only[ay,cAG0,fE,aX he (jP _),aM he,TG,aX hu (cA _),aM hu,cQ,ag,adh,EV,aF,aE,aj];by_cases c3:e.hnd=⟨i,u⟩
   .rw[ac (ku c3),ad ⟨by omega,e,he,c3⟩];unfold GS;simp only[EV,nxt]
   .rw[ad c3,ac (λh=>by
     obtain⟨_,e',he',h'⟩:=h;rw[he] at he';cases he';exact c3 h')]
 .have hpl:pE a:=⟨by omega,by omega,λi b w u hb hw hu=>hall i (aL hw) b w u hb hw hu⟩;unfold GT;simp only[EV,aa,bP];unfold Pd;simp only[ay,fE,EV,ai];refine(eV (n:=a.heap.length) (P:=λi=>∀e,a.heap[i]?=some e->oJ e/\(∀k,k<i->∀e',a.heap[k]?=some e'->e'.number≠e.number)/\∀p,0<i->a.heap[(i-1)/2]?=some p->evLess e p=false) (st:=λi=>[Nm ((a.heap.take i).map (·.number)),.i64 (i:Int)]) (r:=some [.i64 8]) (fin:=some [.i64 0]) (λi self hi hbef=>?_) (λ_ self=>?_) (by omega)).trans ?_
  .obtain⟨e,he⟩:∃e,a.heap[i]?=some e:=⟨a.heap[i],ah _⟩;have hP:(∀e',a.heap[i]?=some e'->oJ e'/\(∀k,k<i->∀x,a.heap[k]?=some x->x.number≠e'.number)/\∀p,0<i->a.heap[(i-1)/2]?=some p->evLess e' p=false)↔(oJ e/\(∀k,k<i->∀x,a.heap[k]?=some x->x.number≠e.number)/\∀p,0<i->a.heap[(i-1)/2]?=some p->evLess e p=false):=
    ⟨λh=>h e he,λh e' h1=>by rw[he] at h1;cases h1;exact h⟩
   have hs:(a.heap.take (i+1)).map (·.number)=(a.heap.take i).map (·.number)++[e.number]:=by
    rw[cC,he];simp
   have hseen:e.number∉(a.heap.take i).map (·.number)↔∀k,k<i->∀x,a.heap[k]?=some x->x.number≠e.number:=by
    constructor
    .intro h j hj g hg e';exact h (bf.2 ⟨g,aI.2 ⟨j,by rw[c7 hj];exact hg⟩,e'⟩)
    .intro h hm;obtain⟨g,hg,e'⟩:=bf.1 hm;obtain⟨j,hj⟩:=aI.1 hg;rw[gR] at hj;split at hj
     .exact h j (by assumption) g hj e'
     .cases hj
   unfold GR;simp only[hP,hs,ay,fE,aX he (jP _),aM he,iX,pEP,vn,phi (c43 (h64 e (au he))),pC,afw,EV,ai,aa,bi hi,cw];by_cases c1:rok e.time=true
   rotate_left
   .rw[ac c1,ac (λh=>c1 h.1.1)]
   rw[ad c1];by_cases c2:e.number<0
   .rw[ad c2,ac (λh=>by have:=h.1.2;omega)]
   rw[ac c2];by_cases c3:1000000<e.number
   .rw[ad c3,ac (λh=>by have:=h.1.2;omega)]
   rw[ac c3];by_cases c4:e.number∈(a.heap.take i).map (·.number)
   .rw[ad c4,ac (λh=>absurd c4 (hseen.2 h.2.1))]
   rw[ac c4];have nxt:=up1 (show i<1000000000 by omega)
   simp only[ay,vn,afx _ c4,EV,aa];cases i with
   |zero=>
    rw[ac (by omega),ad ⟨⟨c1,by omega,by omega⟩,hseen.1 c4,λp h=>absurd h (df _)⟩];unfold GQ;simp only[EV,aw,ax,nxt]
   |succ j=>
    obtain⟨p,hp⟩:∃p,a.heap[j/2]?=some p:=⟨a.heap[j/2]'(by omega),ah _⟩;have rp:rok p.time=true:=(hbef (j/2) (by omega) p hp).1.1;rw[ad (by omega)];simp only[ay,mb,K6 (show j<1000000 by omega),fE,aX hp (jP _),aM hp,iX,phi (zo (h64 e (au he)) (h64 p (au hp)) c1 rp),EV]
    unfold GQ;simp only[EV,aa,nxt];by_cases c5:zn e p<0
    .rw[ad c5,ac (λh=>by
      have:=h.2.2 p (by omega) (by simpa using hp)
      rw[(oO e p).1 c5] at this;cases this)]
    .rw[ac c5,ad ⟨⟨c1,by omega,by omega⟩,hseen.1 c4,λq _ hq=>by
      rw[dz,hp] at hq;cases hq;cases h:evLess e p with
      |false=>rfl
      |true=>exact absurd ((oO e p).2 h) c5⟩]
  .unfold GR;simp only[EV,aa,bP,Pc]
  .have:(∀i,i<a.heap.length->∀e,a.heap[i]?=some e->oJ e/\(∀k,k<i->∀e',a.heap[k]?=some e'->e'.number≠e.number)/\∀p,0<i->a.heap[(i-1)/2]?=some p->evLess e p=false)↔eO a:=by
    constructor
    .intro h;refine⟨q1,hpl,λe he=>?_,?_,λi e p he hp=>?_⟩
     .obtain⟨i,hi⟩:=aI.1 he;exact(h i (aL hi) e hi).1
     .rw[o8];intro i j x hj hi hjx;rw[a8,bM] at hi hjx;obtain⟨e,he,rfl⟩:=hi;obtain⟨e',he',h'⟩:=hjx;exact(h i (aL he) e he).2.1 j hj e' he' h'
     .exact(h (i+1) (aL he) e he).2.2 p (by omega) (by rw[dz];exact hp)
    .rintro⟨_,_,h3,h4,h5⟩ i hi e he;rw[o8] at h4;refine⟨h3 e (au he),λk hk e' he' hn=>?_,λp hp0 hp=>?_⟩
     .exact h4 i k e.number hk (by rw[a8,he];rfl) (by rw[a8,he',cg,hn])
     .obtain⟨j,rfl⟩:∃j,i=j+1:=⟨i-1,by omega⟩;exact h5 j e p he (by rw[dz] at hp;exact hp)
   by_cases hr:eO a
   .rw[ad (this.2 hr),aq hr];rfl
   .rw[ac (λh=>hr (this.1 h)),ak hr];rfl
 .by_cases hall:∀i,i<a.wher.length->∀(b:Bool) (w u:Int),a.slots.used[i]?=some b->a.wher[i]?=some w->a.slots.uses[i]?=some u->if b=true then 0<=w/\∃e,a.heap[w.toNat]?=some e/\ e.hnd=⟨i,u⟩ else w= -1
  .rw[ad hall]
  .rw[ac hall];exact no (λh=>hall λi _=>h.2.1.2.2 i)
def Ai {c:Clock}(h:okF c.pts)(hr:rok c.now=true){x:Held}(hx:x.cert.ok):kB (be c.pts x.cert.high) (be c.pts x.cert.low) c.now=0↔dT c.pts x=true:=by
 unfold dT;rw[aH];constructor
 .intro h0;obtain⟨h1,h2,_,_⟩:=BS h0;have go:∀id,(be c.pts id).ok=true->inF c.pts id=true:=λid hp=>by
   cases e:inF c.pts id with
   |true=>rfl
   |false=>rw[C1 (JH e)] at hp;simp[Pt.ok] at hp
  grind
 .rintro⟨h1,h2⟩;obtain⟨i,p,a1,a2,a3,a4⟩:=ea h h1;obtain⟨j,q,b1,b2,b3,b4⟩:=ea h h2;rw[a4,b4];exact ln (dH h b1) (dH h a1) hr (by rw[a2,b2];exactλe=>hx.2.2.2.2 e.symm)
def adi {d:Due}{rest:List Due}:RF.ev (.tsub 3) [sl cR (d::rest),.v (.int .i64 1),.v (.int .i64 ((rest.length+1:Nat):Int))]=some (sl cR rest):=by
 rw[xT,ad ⟨by omega,by omega,by simp,by simp[ec,cR],by decide⟩];simp;exact bk (by simp)
def afB {n:Nat}:RF.ev .bnd [.v (.int .i64 1),.v (.int .i64 ((n+1:Nat):Int))]=some (.i64 1):=by
 rw[j5,ad ⟨by omega,by omega⟩]
def afC (e:Rt)(n:Int)(h:Hnd):RF.ev .agg [R e,.i64 n,HD h]=some (EP ⟨e,n,h⟩):=rfl
open Classical in
def vp {c:Clock}(h64:fF c)(hg:gW c):Ans D 147 [CL c] [.i64 (okE (decide (bD c)))]:=by
 obtain⟨hg1,hg2,hg3,hga⟩:=hg;have hg':=hga;unfold gAg gSl at hg';simp only[eG,aj] at hg';have no:∀h:¬bD c,(some [PV.v (.int .i64 8)]:Option (List PV))=some [.i64 (okE (decide (bD c)))]:=λh=>by rw[ak h];rfl
 have b4:∀w x y z:Int,RF.ev (.bs 4 [KP.z] [0,1,2,3]) [.i64 w,.i64 x,.i64 y,.i64 z]=some (sl I1 [w,x,y,z]):=λ_ _ _ _=>rfl;refine an ⟨1001,?_⟩;unfold Zt;simp only[ay,cZ,gM,io,rj,nP,b4,EV,phi (c43 h64.1),phi (te _),phi (Lb (c:=c.certs) (by omega)),phi (EJ hga h64.2)];refine(cz (m:=1001) (l:=[okE (rok c.now),gk c.pts,okE (decide (dy c.certs)),okE (decide (eO c.agenda))]) (p:=λe=>decide (e=0)) (st:=λi=>[.i64 (i:Int)]) (r:=some [.i64 8]) (fin:=some [.i64 (okE (decide (bD c)))]) (λi e self he _=>?_) (λhall self=>?_) (by simp)).trans ?_
 .have hi:i<4:=by simpa using aL he
  unfold F8;have i4:RF.ev .ix [.i64 (i:Int),.v (.int .i64 4)]=some (.i64 (i:Int)):=by rw[acK,ad (by omega)]
  have l4:decide ((i:Int)<4)=true:=aq (by omega);simp only[EV,l4,da,az,i4,aM he,cQ,up1 (show i<1000000000 by omega),aE,aa]
  by_cases e0:e=0
  .rw[aq e0,ac (by simp),ad e0]
  .rw[ak e0,ad rfl,ac e0]
 .simp only[dF,yg,kq,aH,aa,Ae] at hall;obtain⟨h1,h2,h3,h5⟩:=hall;have h2':=eL.1 h2;unfold F8;have l4:decide (((4:Nat):Int)<4)=false:=by decide
  simp only[aV,cL,cj,Nat.reduceAdd,EV,l4,aw,ax];unfold Ov;simp only[ay,jx,mq,nQ,fA,EV,ai,aE,aj];by_cases h6:c.agenda.wher.length=200
  .rw[ac (by omega)];by_cases h7:c.agenda.heap.length=c.due.length
   .rw[ac (by omega)];refine(vl (m:=1001) (l:=c.certs.list) (b:=AO) (g:=dX c) (I:=λ_=>True) (S:=λleft i=>[sl cR left,.i64 (i:Int)]) (r:=some [.i64 8]) (fin:=λleft=>some [.i64 (if left=[] then 0 else 8)]) (x:=c.due) trivial (λ_ _ _ _ _=>trivial) (λi h left self hh _=>?_) (λleft self _ hm=>?_) (by omega)).trans ?_
    .have hx:h.cert.ok:=(h3.2.2.2 i h hh).1;have hk:=Ai h2' h1 hx;have hw:=phi (Rg (x:=h.cert) (t:=c.now) h2' h64.1);unfold AO dX;generalize hF:cB c.now (be c.pts h.cert.high) (be c.pts h.cert.low)=FT at hw|-;by_cases hkn:dT c.pts h=true
     .rw[ad (hk.2 hkn)] at hw;rw[ad hkn];simp only[ay,jx,fA,gM,io,nP,aX hh (gL _),aM hh,lr,pHP,lu,bm,hw,EV,ai,aa,bi (aL hh),bB,aE,aA,aJ,aw,ax];cases hF2:FT.2 with
      |false=>
       simp only[da,az,aw,ax];simp only[ay,lu,BW,BX,nL,nM,EV,F7,up1 (show i<1000000000 by have:=aL hh;omega)]
      |true=>
       simp only[pX,ax,az];cases left with
       |nil=>rw[ad (by simp)]
       |cons d rest=>
        have d0:(d::rest)[0]?=some d:=rfl;have t0':RF.ev (.tix 3) [sl cR (d::rest),.v (.int .i64 0)]=some (.i64 ((0:Nat):Int)):=aX d0 (u9 _);rw[ac (by simp;omega)];simp only[ay,t0',aM d0,TI,K7,rm,lu,EV,aE,aj,aa,bB];by_cases n1:d.number=h.number
        .rw[ac (by simp[n1])];by_cases n2:d.hnd.index<0
         .rw[ad n2,ac (λy=>by have:=y.2.1.1;omega)]
         .rw[ac n2];by_cases n3:200<=d.hnd.index
          .rw[ad n3,ac (λy=>by
            have:=aL y.2.1.2.2;have:=h5.2.1.1;omega)]
          .rw[ac n3];obtain⟨ix,hix⟩:=ti (show 0<=d.hnd.index by omega)
           obtain⟨w,hwh⟩:∃w,c.agenda.wher[ix]?=some w:=⟨c.agenda.wher[ix]'(by omega),ah _⟩;obtain⟨b,hb⟩:∃b,c.agenda.slots.used[ix]?=some b:=⟨c.agenda.slots.used[ix]'(by have:=h5.2.1.1;have:=h5.1.2.2.1;omega),ah _⟩;obtain⟨u,hu⟩:∃u,c.agenda.slots.uses[ix]?=some u:=⟨c.agenda.slots.uses[ix]'(by have:=h5.2.1.1;omega),ah _⟩;have hpl:=h5.2.1.2.2 ix b w u hb hwh hu;simp only[ay,mq,nQ,rm,hix,aX hwh (cA _),aM hwh,cQ,EV,aa];by_cases n4:w<0
           .rw[ad n4,ac (λy=>by
             have hl:=y.2.1.2.1;rw[hix,aF,hb] at hl;cases hl;rw[ad rfl] at hpl;have:=hpl.1;omega)]
           .rw[ac n4];have hbt:b=true:=by
             cases b with
             |true=>rfl
             |false=>rw[ac (by simp)] at hpl;omega
            subst hbt;rw[ad rfl] at hpl;obtain⟨_,e,he,hex⟩:=hpl;obtain⟨n,rfl⟩:=ti (show 0<=w by omega)
            rw[aF] at he;have hD:ph c.agenda d h.number FT.1↔e=⟨FT.1,h.number,d.hnd⟩:=by
             constructor
             .intro y;have hl:=y.2.1.2.2;rw[hix,aF,hu] at hl;have:=y.2.2 ix n e hix hwh he;obtain⟨e1,e2,e3⟩:=e;simp only at this hex;rw[this.1,this.2,hex];obtain⟨d1,d2,d3⟩:=d;simp only at hix hl;simp only[bY] at hl;rw[hix,hl]
             .intro y;subst y;simp only at hex;refine⟨n1,⟨by omega,by rw[hix,aF];exact hb,by rw[hix,aF,hu,hex]⟩,λi' n' e' y1 y2 y3=>?_⟩;rw[hix] at y1;have:ix=i':=by omega
              subst this;rw[hwh] at y2;have:(n:Int)=n':=by simpa using y2
              have:n=n':=by omega
              subst this;rw[he] at y3;cases y3;exact⟨rfl,rfl⟩
            have pR:RF.ev (.part 0 2) [R FT.1]=some (R FT.1):=rfl;have pH2:RF.ev (.part 0 2) [HD d.hnd]=some (HD d.hnd):=rfl;simp only[ay,mq,aX he (jP _),aM he,iX,pR,pH2,lu,afC,afn,EV,aE,aj];by_cases n5:e=⟨FT.1,h.number,d.hnd⟩
            .rw[ac (by simp[n5]),ad (hD.2 n5)];simp only[ay,aV,ai,afB,adi,lu,BW,BX,nL,nM,EV,F7,up1 (show i<1000000000 by have:=aL hh;omega)]
            .rw[ad n5,ac (λy=>n5 (hD.1 y))]
        .rw[ad n1,ac (λy=>n1 y.1)]
     .rw[ac (λy=>hkn (hk.1 y))] at hw;rw[ac hkn];simp only[ay,jx,fA,gM,io,nP,aX hh (gL _),aM hh,lr,pHP,lu,bm,hw,EV,ai,aa,bi (aL hh),aE,aj];rw[ad (λy=>hkn (hk.1 y))]
    .unfold AO;simp only[EV,ai,aa,bP,Ou,cw];cases left with
     |nil=>rw[ac (by simp),ad rfl]
     |cons d rest=>rw[ad (by simp),ac (by simp)]
    .cases hm:ef (dX c) c.due c.certs.list with
     |none=>exact no (λh=>by rw[h.2.2.2.2.2.2] at hm;cases hm)
     |some left=>
      cases left with
      |nil=>rw[aq (show bD c from⟨h1,h2',h3,h5,h6,h7,hm⟩)];rfl
      |cons d rest=>exact no (λh=>by rw[h.2.2.2.2.2.2] at hm;cases hm)
   .rw[ad (by omega)];exact no (λh=>h7 h.2.2.2.2.2.1)
  .rw[ad (by omega)];exact no (λh=>h6 h.2.2.2.2.1)
 .simp only[dF,yg,kq,aH,aa,Ae];split
  .rfl
  .rename_i hn;exact no (λh=>hn ⟨h.1,eL.2 h.2.1,h.2.2.1,h.2.2.2.1⟩)
open Classical in
def Lc {c:Clock}(h64:fF c)(hg:gCl c=false):Ans D 147 [CL c] [.i64 (okE (decide (bD c)))]:=vp h64 (ac9 hg)
def Ri {l:List Int}(v:Int)(hl:l.length<=1000):Ans D 178 [sl I1 l,.i64 v] [.i64 (qd (λy=>decide (v=y)) l)]:=by
 refine an ⟨1001,?_⟩;unfold ZL;simp[EV];refine(oI (m:=1001) (l:=l) (p:=λy=>decide (v=y)) (st:=λi=>[.i64 (i:Int)]) (ret:=λi=>some [.i64 (i:Int)]) (fin:=some [.i64 (-1)]) (λi a self ha=>?_) (λself=>?_) (by omega)).trans DV
 .unfold Gu;simp only[aX ha (cA _),aM ha,cQ,EV,aa,bi (aL ha),up1 (show i<1000000000 by have:=aL ha;omega)]
 .unfold Gu;simp[EV,OP]
def afD {l:List Int}(v:Int)(hl:l.length<=1000):Ans D 148 [sl I1 l,.i64 v] [.bool (decide (v∈l))]:=by
 refine am ?_;unfold Zu;simp[EV,phi (Ri v hl),zk,BY]
def afE {l:List Crt}(v:Crt)(hl:l.length<=1000):Ans D 242 [sl crow l,CP v] [.i64 (qd (λy=>decide (v=y)) l)]:=by
 refine an ⟨1001,?_⟩;unfold aae;simp[kC,EV];refine(oI (m:=1001) (l:=l) (p:=λy=>decide (v=y)) (st:=λi=>[.i64 (i:Int)]) (ret:=λi=>some [.i64 (i:Int)]) (fin:=some [.i64 (-1)]) (λi a self ha=>?_) (λself=>?_) (by omega)).trans DV
 .unfold GU;simp only[aX ha (iY _),aM ha,tg,wT,EV,aa,bi (aL ha),up1 (show i<1000000000 by have:=aL ha;omega)]
 .unfold GU;simp[EV,Pe]
def wW {l:List Crt}(v:Crt)(hl:l.length<=1000):Ans D 150 [sl crow l,CP v] [.bool (decide (v∈l))]:=by
 refine am ?_;unfold Zv;simp[kC,EV,phi (afE v hl),zk,BY]
def JustP (c:Clock)(edges:List Crt):Prop:=edges.length=c.certs.list.length/\∀h∈c.certs.list,h.cert∈edges
def Rj {l k:List Int}(hl:l.length<=1000):Ans D 160 [sl I1 l,sl I1 k] [.bool (decide (l=k))]:=by
 refine an ⟨1001,?_⟩;unfold ZF;simp only[EV,ai,aE,aj];by_cases h:l.length=k.length
 .rw[ac (by omega)];refine Af h (cz (l:=l.zip k) (st:=λi=>[.i64 (i:Int)]) (λi x self hx _=>?_) (λ_ self=>?_) (by rw[i9 h];omega))
  .obtain⟨hp,hq⟩:=lU hx;unfold Ge;simp only[aX hp (cA _),aM hp,aX hq (cA _),aM hq,cQ,EV,aa,aE,aj,bi (aL hp),up1 (show i<1000000000 by have:=aL hp;omega)]
   grind
  .rw[i9 h];unfold Ge;simp only[EV,aa,bP,OG]
 .rw[ad (by omega),ak (λe=>h (by rw[e]))]
def afF {l k:List Nod}(hl:l.length<=1000):Ans D 163 [sl dD l,sl dD k] [.bool (decide (l=k))]:=by
 refine an ⟨1001,?_⟩;unfold ZH;simp only[EV,ai,aE,aj];by_cases h:l.length=k.length
 .rw[ac (by omega)];refine Af h (cz (l:=l.zip k) (st:=λi=>[.i64 (i:Int)]) (λi x self hx _=>?_) (λ_ self=>?_) (by rw[i9 h];omega))
  .obtain⟨hp,hq⟩:=lU hx;unfold Gk;simp only[aX hp (nN _),aM hp,aX hq (nN _),aM hq,EG,W6,EV,aa,aE,aj,bi (aL hp),up1 (show i<1000000000 by have:=aL hp;omega)]
   grind
  .rw[i9 h];unfold Gk;simp only[EV,aa,bP,OL]
 .rw[ad (by omega),ak (λe=>h (by rw[e]))]
def nthI (l:List Int)(i:Nat):Int:=(l[i]?).getD 0
def eM {l:List Int}{i:Nat}(h:i<l.length):l[i]?=some (nthI l i):=by
 unfold nthI
 grind
def kw (l:List Int)(n:Nat):List Crt:=(List.range n).map λi=>⟨nthI l (i+1),nthI l (i/2)⟩
def kx (l:List Int)(n:Nat):(kw l n).length=n:=by simp[kw]
def EK (l:List Int)(n:Nat):kw l (n+1)=kw l n++[⟨nthI l (n+1),nthI l (n/2)⟩]:=by
 unfold kw;rw[oz,dQ];rfl
def cX (l:List Int):List Crt:=kw l (l.length-1)
def vq (a b:Int):RF.ev .agg [.i64 a,.i64 b]=some (CP ⟨a,b⟩):=rfl
def bsC (c:Crt):RF.ev (.bs 1 [KP.z,KP.z] [0]) [CP c]=some (sl crow [c]):=rfl
def qx (c:Crt):RF.ev .sub [sl crow [c],.v (.int .i64 0),.v (.int .i64 1)]=some (sl crow [c]):=rfl
def Xg {l:List Int}(hl:l.length<=1000):∃N,den (bL D) N RU [] [sl I1 l]=some [sl crow (cX l)]:=by
 refine⟨1001,?_⟩;unfold RU;simp[EV];refine gj (m:=1001) (n:=l.length-1) (st:=λi=>[sl crow (kw l i),.i64 ((kw l i).length:Int),.i64 ((i+1:Nat):Int)]) (λi self hi=>?_) (λself=>?_) (by omega)
 .have h1:=eM (l:=l) (i:=i+1) (by omega);have h2:=eM (l:=l) (i:=i/2) (by omega);unfold F9;simp only[aX h1 (cA _),aM h1,cQ,aX h2 (cA _),aM h2,vq,bsC,qx,K6 (show i<1000000 by omega),mb,EV,ai,aa,bi (show i+1<l.length by omega),
   gn (f:=crow) (l:=kw l i) (k:=[⟨nthI l (i+1),nthI l (i/2)⟩]) (bytes:=16) (z:=2) (by rw[kx];simp;omega) iY,up1 (show i+1<1000000000 by omega),<-EK]
 .unfold F9;simp only[EV,ai,aa];rw[ac (by omega)];unfold Ow;simp only[cp,EV];rfl
def Rk {l:List Int}(hl:l.length<=1000):Ans D 149 [sl I1 l] [sl crow (cX l)]:=an (Xg hl)
def afG {l:List Int}(hl:l.length<=1000):Ans D 136 [sl I1 l] [sl crow (cX l)]:=an (Xg hl)
def JustR (c:Clock)(edges:List Crt):Prop:=c.certs.list.length=edges.length/\∀e∈edges,(∃h∈c.certs.list,h.cert=e)/\ leads c.now (be c.pts e.high) (be c.pts e.low)=true
open Classical in
def Lf {c:Clock}{edges:List Crt}(hF:okF c.pts)(h64:aQ c.now)(hl:edges.length<=1000)(hc:c.certs.list.length<=1000)(hin:∀e∈edges,inF c.pts e.low=true/\ inF c.pts e.high=true):Ans D 135 [CL c,sl crow edges] [.bool (decide (JustR c edges))]:=by
 refine an ⟨1001,?_⟩;unfold Zg;simp only[ay,cZ,jx,EV,ai,aE,aj];by_cases h1:c.certs.list.length=edges.length
 .rw[ac (by omega)];refine(cz (m:=1001) (l:=edges) (p:=λe=>(c.certs.list.any λh=>decide (h.cert=e))&& leads c.now (be c.pts e.high) (be c.pts e.low)) (st:=λi=>[.i64 (i:Int)]) (r:=some [.bool false]) (fin:=some [.bool true]) (λi e self he _=>?_) (λ_ self=>?_) (by omega)).trans ?_
  .obtain⟨a1,a2⟩:=hin e (au he);unfold FQ;simp only[ay,gM,io,rj,aX he (iY _),aM he,tg,phi (Xc (c:=c.certs) (x:=e) hc),phi (afs (x:=e) hF h64 a1 a2),EV,ai,aa,bi (aL he),up1 (show i<1000000000 by have:=aL he;omega)]
   grind
  .unfold FQ;simp only[EV,ai,aa,bP,Oc]
  .have:(edges.all λe=>(c.certs.list.any λh=>decide (h.cert=e))&& leads c.now (be c.pts e.high) (be c.pts e.low))=decide (JustR c edges):=by
    rw[eu,aa];unfold JustR;simp[h1]
   rw[this];cases decide (JustR c edges)<;>rfl
 .rw[ad (by omega),ak (λh=>h1 h.1)]
def Jt {c:Certs}(h:dy c):(c.list.map (·.cert)).Nodup:=by
 rw[o8];intro i j x hj hi e;rw[a8,bM] at hi e;obtain⟨a,ha,rfl⟩:=hi;obtain⟨b,hb,e⟩:=e;exact(h.2.2.2 i a ha).2.2.2.2 j hj b hb e
def EL {c:Clock}{edges:List Crt}(hc:dy c.certs)(hn:edges.Nodup)(Q:Crt->Prop):
  (edges.length=c.certs.list.length/\∀h∈c.certs.list,h.cert∈edges/\ Q h.cert)↔(c.certs.list.length=edges.length/\∀e∈edges,(∃h∈c.certs.list,h.cert=e)/\ Q e):=by
 have key:=λh:(c.certs.list.map (·.cert)).length=edges.length=>Tf (Jt hc) hn h Q
 grind
def sD {c:Clock}{edges:List Crt}(hc:dy c.certs)(hn:edges.Nodup)(hQ:∀e∈edges,leads c.now (be c.pts e.high) (be c.pts e.low)=true):JustP c edges↔JustR c edges:=by
 unfold JustP JustR;rw[<-EL hc hn]
 grind
def JI {l:List Int}{i:Nat}(h:i<l.length):nthI l i∈l:=au (eM h)
def nz {l:List Int}{e:Crt}(h:e∈cX l):e.low∈l/\ e.high∈l:=by
 obtain⟨i,hi,rfl⟩:=bf.1 h;rw[c9] at hi;exact⟨JI (by omega),JI (by omega)⟩
def tq {l:List Int}(h:l.Nodup):(cX l).Nodup:=by
 rw[dN];intro i j x hi hj;unfold cX kw at hi hj;rw[a8,bM] at hi hj;obtain⟨a,ha,rfl⟩:=hi;obtain⟨b,hb,e⟩:=hj;have ha':=aL ha;have hb':=aL hb;rw[mF] at ha' hb';rw[iT ha'] at ha;rw[iT hb'] at hb;cases ha;cases hb;simp at e;have:=dN.1 h (i+1) (j+1) (nthI l (i+1)) (eM (by omega)) (by rw[<-e.1];exact eM (by omega));omega
def iG (k:KHeap):Prop:=bD k.clock/\ k.heap.length=k.clock.pts.length/\(∀x∈k.heap,inF k.clock.pts x=true)/\ k.heap.Nodup/\ JustR k.clock (cX k.heap)
def gl {l:List Pt}{x:Int}:inF l x=true↔x∈l.map Pt.id:=by
 constructor
 .intro h;have h:=aT h;rcases pos_cases l x with⟨e,_⟩|⟨i,p,h1,h2,h3⟩
  .omega
  .grind
 .intro h;obtain⟨p,hp,rfl⟩:=bf.1 h;cases e:inF l p.id with
  |true=>rfl
  |false=>exact absurd rfl (JH e p hp)
def tR {k:KHeap}(h:gKh k=false):gCl k.clock=false/\ k.heap.length<=70:=by
 unfold gKh at h
 grind
def gP {c:Clock}(h:gCl c=false):c.certs.list.length<=40:=by
 unfold gCl at h
 grind
open Classical in
def c81 {k:KHeap}(h64:fF k.clock)(hg:gKh k=false):Ans D 61 [KH k] [.i64 (okE (decide (iG k)))]:=by
 obtain⟨g1,g2⟩:=tR hg;have no:∀h:¬iG k,(some [PV.v (.int .i64 8)]:Option (List PV))=some [.i64 (okE (decide (iG k)))]:=λh=>by rw[ak h];rfl
 have cKH2:RF.ev (.cell 2) [KH k]=some (sl row k.clock.pts):=rfl;have pKH2:RF.ev (.part 2 1) [KH k]=some (F k.clock.pts):=rfl;refine an ⟨1001,?_⟩;unfold k81;simp only[ay,jG,pKH,cKH,cKH2,EV,ai,phi (K8 h64 g1),i8,aE,aj,aa];by_cases h1:bD k.clock
 .rw[ad h1];by_cases h2:k.heap.length=k.clock.pts.length
  .rw[ac (by omega)];have hF:=h1.2.1;refine(eV (m:=1001) (n:=k.heap.length) (P:=λi=>∀x,k.heap[i]?=some x->inF k.clock.pts x=true/\∀j,j<i->∀y,k.heap[j]?=some y->y≠x) (st:=λi=>[.i64 (i:Int)]) (r:=some [.i64 8]) (fin:=some [.i64 (okE (decide (iG k)))]) (λi self hi _=>?_) (λhall self=>?_) (by omega)).trans ?_
   .have hx:=eM hi;generalize nthI k.heap i=x at hx;have hP:(∀x',k.heap[i]?=some x'->inF k.clock.pts x'=true/\∀j,j<i->∀y,k.heap[j]?=some y->y≠x')↔(inF k.clock.pts x=true/\∀j,j<i->∀y,k.heap[j]?=some y->y≠x):=
     ⟨λh=>h x hx,λh x' e=>by rw[hx] at e;cases e;exact h⟩
    unfold LU;simp only[hP,ay,cKH,pKH2,aX hx (cA _),aM hx,cQ,phi (tf (l:=k.clock.pts) (by have:=hF.1;omega) x),EV,ai,aa,bi hi];by_cases c1:pos k.clock.pts x<0
    .rw[ad c1,ac (λy=>by have:=aT y.1;omega)]
    .rw[ac c1];have c1':inF k.clock.pts x=true:=aq (by omega);refine(eV (m:=1001) (n:=i) (P:=λj=>∀y,k.heap[j]?=some y->y≠x) (st:=λi=>[.i64 (i:Int)]) (r:=some [.i64 8]) (fin:=self [.i64 ((i+1:Nat):Int)]) (λj self' hj _=>?_) (λ_ self'=>?_) (by omega)).trans ?_
     .have hy:=eM (l:=k.heap) (i:=j) (by omega);generalize nthI k.heap j=y at hy;have hQ:(∀y',k.heap[j]?=some y'->y'≠x)↔y≠x:=⟨λh=>h y hy,λh y' e=>by rw[hy] at e;cases e;exact h⟩;unfold LS;simp only[hQ,ay,cKH,aX hx (cA _),aM hx,aX hy (cA _),aM hy,cQ,EV,aa,bi hj,up1 (show j<1000000000 by omega)]
      by_cases c4:y=x
      .rw[ad c4,ac (by simp[c4])]
      .rw[ac c4,ad c4]
     .unfold LS;simp only[EV,aa,bP,Us,up1 (show i<1000000000 by omega)]
     .by_cases hq:∀j,j<i->∀y,k.heap[j]?=some y->y≠x
      .rw[ad hq,ad ⟨c1',hq⟩]
      .rw[ac hq,ac (λy=>hq y.2)]
   .have hin:∀x∈k.heap,inF k.clock.pts x=true:=λx hx=>by
     obtain⟨i,hi⟩:=aI.1 hx;exact(hall i (aL hi) x hi).1
    have hnd:k.heap.Nodup:=o8.2 λi j x hj hi e=>(hall i (aL hi) x hi).2 j hj x e rfl;unfold LU;simp only[ay,cKH,EV,ai,aa,bP,Ur,pKH,cp,phi (afG (l:=k.heap) (by omega)),phi (Lf (c:=k.clock) (edges:=cX k.heap) hF h64.1 (by unfold cX;rw[kx];omega) (by have:=gP g1;omega) (λe he=>⟨hin _ (nz he).1,hin _ (nz he).2⟩)),aE,aj];by_cases hj:JustR k.clock (cX k.heap)
    .rw[ac (by simp[hj]),aq (show iG k from⟨h1,h2,hin,hnd,hj⟩)];rfl
    .rw[ad hj];exact no (λh=>hj h.2.2.2.2)
   .by_cases hq:∀i,i<k.heap.length->∀x,k.heap[i]?=some x->inF k.clock.pts x=true/\∀j,j<i->∀y,k.heap[j]?=some y->y≠x
    .rw[ad hq]
    .rw[ac hq];refine no (λh=>hq λi hi x hx=>⟨h.2.2.1 x (au hx),λj hj y hy e=>?_⟩);subst e;exact o8.1 h.2.2.2.1 i j y hj hx hy
  .rw[ad (by omega)];exact no (λh=>h2 h.2.1)
 .rw[ac h1];exact no (λh=>h1 h.1)
def EN {l:List Pt}{h:List Int}(hs:jq l)(hl:h.length=l.length):(∀p∈l,p.id∈h)↔((∀x∈h,inF l x=true)/\ h.Nodup):=by
 constructor
 .intro a;have hp:=lK (l:=l.map Pt.id) (k:=h) (cW hs) (λx hx=>by obtain⟨p,hp,rfl⟩:=bf.1 hx;exact a p hp) (by rw[ai];omega);exact⟨λx hx=>gl.2 (hp.mem_iff.2 hx),hp.nodup_iff.1 (cW hs)⟩
 .rintro⟨a,b⟩ p hp;have hp':=lK (l:=h) (k:=l.map Pt.id) b (λx hx=>gl.1 (a x hx)) (by rw[ai];omega)
  grind
open Classical in
def c77 {k:KHeap}(h64:fF k.clock)(hg:gKh k=false):Ans D 68 [KH k] [.i64 (okE (decide (iG k)))]:=by
 obtain⟨g1,g2⟩:=tR hg;have no:∀h:¬iG k,(some [PV.v (.int .i64 8)]:Option (List PV))=some [.i64 (okE (decide (iG k)))]:=λh=>by rw[ak h];rfl
 have cKH2:RF.ev (.cell 2) [KH k]=some (sl row k.clock.pts):=rfl;have cKH4:RF.ev (.cell 4) [KH k]=some (sl hrow k.clock.certs.list):=rfl;have pKH2:RF.ev (.part 2 1) [KH k]=some (F k.clock.pts):=rfl;have pKH0:RF.ev (.part 0 2) [KH k]=some (R k.clock.now):=rfl;have el:(cX k.heap).length=k.heap.length-1:=by unfold cX;rw[kx]
 refine an ⟨1001,?_⟩;unfold k77;simp only[ay,jG,pKH,cKH,cKH2,EV,ai,phi (Lc h64 g1),i8,aE,aj,aa];by_cases h1:bD k.clock
 .rw[ad h1];by_cases h2:k.heap.length=k.clock.pts.length
  .rw[ac (by omega)];have hF:=h1.2.1;refine(cz (m:=1001) (l:=k.clock.pts) (p:=λp=>decide (p.id∈k.heap)) (st:=λi=>[.i64 (i:Int)]) (r:=some [.i64 8]) (fin:=some [.i64 (okE (decide (iG k)))]) (λi p self hp _=>?_) (λhall self=>?_) (by omega)).trans ?_
   .unfold LX;simp only[ay,cKH,cKH2,gI,aX hp (cq _),aM hp,gJ,phi (afD (l:=k.heap) p.id (by omega)),EV,aa,bi (aL hp),up1 (show i<1000000000 by have:=aL hp;omega)]
    grind
   .have hall:∀p∈k.clock.pts,p.id∈k.heap:=λp hp=>aT (aS.1 hall p hp);obtain⟨hin,hnd⟩:=(EN hF.2.2 h2).1 hall;unfold LX;simp only[ay,cKH,cKH4,EV,ai,aa,bP,Uv,phi (Rk (l:=k.heap) (by omega)),aE,aj];by_cases h3:(cX k.heap).length=k.clock.certs.list.length
    .rw[ac (by omega)];have hJ:=EL (c:=k.clock) h1.2.2.1 (tq hnd) (λe=>leads k.clock.now (be k.clock.pts e.high) (be k.clock.pts e.low)=true);refine(cz (m:=1001) (l:=k.clock.certs.list) (p:=λh=>decide (h.cert∈cX k.heap)&& leads k.clock.now (be k.clock.pts h.cert.high) (be k.clock.pts h.cert.low)) (st:=λi=>[.i64 (i:Int)]) (r:=some [.i64 8]) (fin:=some [.i64 0]) (λi h self hh _=>?_) (λ_ self=>?_) (by have:=gP g1;omega)).trans ?_
     .unfold LW;simp only[ay,cKH4,pKH0,pKH2,BW,BX,pHP,aX hh (gL _),aM hh,lr,phi (wW (l:=cX k.heap) h.cert (by omega)),EV,aa,bi (aL hh),up1 (show i<1000000000 by have:=aL hh;have:=gP g1;omega)]
      by_cases c1:h.cert∈cX k.heap
      .obtain⟨m1,m2⟩:=nz c1;obtain⟨i1,p,a1,a2,a3,a4⟩:=ea hF (hin _ m1);obtain⟨j1,q,b1,b2,b3,b4⟩:=ea hF (hin _ m2);have hne:q.id≠p.id:=by rw[a2,b2];exactλe=>(h1.2.2.1.2.2.2 i h hh).1.2.2.2.2 e.symm
       have hA:=phi (W2 hF h64.1 h1.1 b1 a1 hne);rw[a2,b2] at hA;simp only[c1,aA,aJ,aw,ax,gc,ay,BW,BX,pKH0,pKH2,hA,a4,b4,EV,up1 (show i<1000000000 by have:=aL hh;have:=gP g1;omega)]
       cases leads k.clock.now q p<;>simp
      .simp[c1]
     .unfold LW;simp only[EV,aa,bP,Uu]
     .have:(k.clock.certs.list.all λh=>decide (h.cert∈cX k.heap)&& leads k.clock.now (be k.clock.pts h.cert.high) (be k.clock.pts h.cert.low))=true↔iG k:=by
       rw[aS];simp only[aH,aa];constructor
       .intro h;exact⟨h1,h2,hin,hnd,hJ.1 ⟨h3,h⟩⟩
       .intro h;exact(hJ.2 h.2.2.2.2).2
      by_cases hr:iG k
      .rw[ad (this.2 hr),aq hr];rfl
      .rw[ac (λh=>hr (this.1 h)),ak hr];rfl
    .rw[ad (by omega)];exact no (λh=>h3 h.2.2.2.2.1.symm)
   .by_cases hq:(k.clock.pts.all λp=>decide (p.id∈k.heap))=true
    .rw[ad hq]
    .rw[ac hq];refine no (λh=>hq (aS.2 λp hp=>aq ((EN hF.2.2 h2).2 ⟨h.2.2.1,h.2.2.2.1⟩ p hp)))
  .rw[ad (by omega)];exact no (λh=>h2 h.2.1)
 .rw[ac h1];exact no (λh=>h1 h.1)
def Aj {α:Type}(p:α->Bool):∀(l:List α) (n:Nat),l.foldl (λn q=>if p q=true then n+1 else n) n=n+(l.filter p).length
 |[],n=>rfl
 |a::l,n=>by
  rw[c6,Aj p l,cT];cases p a
  .rfl
  .simp;omega
def afH {l:List Pt}{t:Rt}(h:okF l)(ht:aQ t){i:Nat}{p:Pt}(hp:l[i]?=some p):Ans D 322 [F l,PP p,R t] [.i64 (rank t l p:Nat)]:=by
 have hl:=h.1;refine an ⟨1001,?_⟩;unfold aaX;simp only[ay,bv,km,bm,EV];have e0:([PV.v (.int .i64 0),.v (.int .i64 0)]:List PV)=[.i64 ((0:Nat):Int),.i64 ((0:Nat):Int)]:=rfl;rw[e0];refine(jw (m:=1001) (l:=l) (g:=λn q=>if(decide (q.id≠p.id)&& leads t q p)=true then n+1 else n) (I:=λi n=>n<=i) (S:=λn i=>[.i64 ((n:Nat):Int),.i64 (i:Int)]) (fin:=λn=>some [.i64 ((n:Nat):Int)]) (x:=0) (aB _) (λi a acc _ h=>by split<;>omega) (λi q acc self hq hI=>?_) (λacc self _=>?_) (by omega)).1.trans ?_
 .unfold Hf;have hi:=aL hq;simp only[ay,cG,gI,aX hq (cq _),aM hq,gJ,sC,EV,ai,aa,bi hi,aE,aj,PC,phi (ED (dH h hq) (dH h hp) ht)];by_cases c1:q.id=p.id
  .rw[ac (by simp[c1])];simp only[aw,ax,EV,AV,up1 (show i<1000000000 by omega)]
   simp[c1]
  .rw[ad c1];cases leads t q p with
   |true=>simp only[az,EV,AV,up1 (show i<1000000000 by omega),up1 (show acc<1000000000 by omega)];simp[c1]
   |false=>simp only[aw,ax,EV,AV,up1 (show i<1000000000 by omega)];simp
 .unfold Hf;simp only[ay,cG,EV,ai,aa,bP,PB]
 .rw[Aj (λq=>decide (q.id≠p.id)&& leads t q p),cj];rfl
def wX (t:Rt)(l:List Pt):∀(ps:List Pt) (out:List Int),Bnd.ordered t l ps out=ps.foldl (λout p=>out.set (rank t l p) p.id) out
 |[],out=>rfl
 |p::ps,out=>by unfold Bnd.ordered;rw[wX t l ps,c6]
def JK {t:Rt}{l:List Pt}{p:Pt}(h:p∈l):rank t l p<l.length:=by
 unfold rank;rw[List.length_filter_lt_length_iff_exists]
 grind
def BZ {n:Nat}(h:n<=1000):RF.ev (.rep [KP.z] 8) [.v (.int .i64 (n:Int)),.v (.int .i64 (n:Int))]=some (sl I1 (List.replicate n 0)):=by
 rw[MU,ad ⟨by omega,by omega,by omega,by omega⟩,aF];show _=some (PV.sl ((List.replicate n 0).map I1))
 rw[qb];rfl
def iI {l:List Int}{i:Nat}(h:i<l.length)(x:Int):RF.ev (.set 0) [sl I1 l,.v (.int .i64 (i:Int)),.v (.int .i64 x)]=some (sl I1 (l.set i x)):=by
 rw[yP,ad (by omega),aF,a8,ah h];exact aW (λx=>some (PV.sl x)) (oy (f:=I1) (l:=l) (i:=i) (a:=x)).symm
def afI {l:List Pt}{t:Rt}(h:okF l)(ht:aQ t):Ans D 238 [F l,R t] [sl I1 ((oj t l).map Pt.id)]:=by
 have hl:=h.1;refine an ⟨1001,?_⟩;unfold aaa;simp[bv,bm,cG,BZ (show l.length<=1000 by omega),EV]
 refine(jw (m:=1001) (l:=l) (g:=λout p=>out.set (rank t l p) p.id) (I:=λ_ out=>out.length=l.length) (S:=λout i=>[sl I1 out,.i64 (i:Int)]) (fin:=λout=>some [sl I1 out]) (x:=List.replicate l.length 0) (by simp) (λi a acc _ h=>by simpa using h) (λi p acc self hp hI=>?_) (λacc self hI=>?_) (by omega)).1.trans ?_
 .unfold GO;simp only[cG,aX hp (cq _),aM hp,gJ,sC,EV,ai,aa,bi (aL hp),phi (afH h ht hp),ixM (JK (au hp)),iI (show rank t l p<acc.length by rw[hI];exact JK (au hp)),up1 (show i<1000000000 by have:=aL hp;omega)]
 .unfold GO;have:=cp (f:=I1) (l:=acc);rw[hI] at this;simp only[ay,cG,EV,ai,aa,bP,Pa,this]
 .rw[<-wX,MZ (cW h.2.2) (by simp)]
def mu (x:Int×Int):List PV:=[.i64 x.1,.i64 x.2]
def Xh (x:Int×Int):(mu x).length=2:=rfl
def adj (x:Int×Int):cF 0 0 (mu x)=some (.i64 x.1):=rfl
def adk (x:Int×Int):cF 1 0 (mu x)=some (.i64 x.2):=rfl
def C2 (l:List Int)(d:Nat):(gU l d 0).length+(gU l d 1).length<=l.length:=by
 unfold gU;induction l with
 |nil=>simp
 |cons x l ih=>
  grind
def sE:∀(n:Nat) (l:List Int) (f:Int) (d:Nat),l.length<=n->(iw l f d).length<=l.length
 |0,l,f,d,h=>by
  have hl:l=[]:=cH.1 (by omega);subst hl;unfold iw;simp
 |n+1,[],f,d,_=>by unfold iw;simp
 |n+1,o::os,f,d,h=>by
  unfold iw;simp at h|-;have h0:=wl (l:=os) (d:=d) (b:=0);have h1:=wl (l:=os) (d:=d) (b:=1);have a:=sE n (gU os d 0) o (d+1) (by omega);have b:=sE n (gU os d 1) o (d+1) (by omega);have:=C2 os d;omega
def yX {α:Type}(p:α->Bool):∀(l acc:List α),l.foldl (λacc x=>if p x=true then acc++[x] else acc) acc=acc++l.filter p
 |[],acc=>by simp
 |a::l,acc=>by
  rw[c6,yX p l,cT];cases p a<;>simp
def bsI (x:Int):RF.ev (.bs 1 [KP.z] [0]) [.i64 x]=some (sl I1 [x]):=rfl
def sF (x:Int):RF.ev .sub [sl I1 [x],.v (.int .i64 0),.v (.int .i64 1)]=some (sl I1 [x]):=rfl
def Xi {x:Int}(h:0<=x)(d:Nat):dq .shr .i64 x .i64 (d:Int)=some (.v (.int .i64 (x.fdiv (2^(min d 64)))))/\ dq .rem .i64 (x.fdiv (2^(min d 64))) .i64 2=some (.v (.int .i64 (fy x d))):=by
 constructor
 .rw[MV,ac (by omega),aF];rfl
 .rw[Er,ac (by decide)];unfold fy;have:0<=x.fdiv (2^(min d 64)):=by
   rw[ii _ (rZ (zi (by decide)))];exact Int.ediv_nonneg h (rZ (zi (by decide)))
  grind
def afJ:∀(n:Nat) (os:List Int) (f:Int) (d:Nat),os.length<=n->n<=1000->d+n<=10000->(∀x∈os,0<=x)->Ans D 237 [sl I1 os,.i64 f,.i64 (d:Int)] [sl mu (iw os f d)]:=by
 intro n;induction n with
 |zero=>
  intro os f d h _ _ _;have hl:os=[]:=cH.1 (by omega);subst hl;refine an ⟨1001,?_⟩;unfold L8 iw;simp only[EV,ai,cL,fG,aA,az];rfl
 |succ n ih=>
  intro os f d h hn hd h0;cases os with
  |nil=>
   refine an ⟨1001,?_⟩;unfold L8 iw;simp only[EV,ai,cL,fG,aA,az];rfl
  |cons o os=>
   simp only[aV] at h;have hlen:=C2 os d;have hs:∀b,(gU os d b).length<=n/\∀x∈gU os d b,0<=x:=λb=>⟨by have:=wl (l:=os) (d:=d) (b:=b);omega,λx hx=>h0 x (aN _ (bx.1 hx).1)⟩;have hr:=λb=>sE n (gU os d b) o (d+1) (hs b).1;have hh:=λb=>phi (ih (gU os d b) o (d+1) (hs b).1 (by omega) (by omega) (hs b).2);have o0:(o::os)[0]?=some o:=rfl;have tx0:RF.ev (.tix 1) [sl I1 (o::os),.v (.int .i64 0)]=some (.i64 ((0:Nat):Int)):=aX o0 (cA _);have ag:RF.ev .agg [.i64 o,.i64 f]=some (.agg (mu (o,f))):=rfl;have bs:RF.ev (.bs 1 [KP.z,KP.z] [0]) [.agg (mu (o,f))]=some (sl mu [(o,f)]):=rfl
   let outs:Nat->List (Int×Int):=λi=>match i with|0=>[(o,f)]|1=>[(o,f)]++iw (gU os d 0) o (d+1)|_=>[(o,f)]++iw (gU os d 0) o (d+1)++iw (gU os d 1) o (d+1)
   refine an ⟨1001,?_⟩;unfold L8;have ne:decide (((o::os).length:Int)=0)=false:=ak (by simp;omega);simp only[tx0,aM o0,cQ,ag,bs,EV,ai,ne,aw,ax];refine(gj (m:=1001) (n:=2) (st:=λi=>[sl mu (outs i),.i64 ((outs i).length:Int),.i64 (i:Int)]) (fin:=some [sl mu (outs 2)]) (λi self hi=>?_) (λself=>?_) (by omega)).trans ?_
   .unfold GN;have l2:decide ((i:Int)<2)=true:=aq (by omega);simp only[EV,l2,da,az];have e0:([PV.sl [],.v (.int .i64 0),.v (.int .i64 1)]:List PV)=[sl I1 ([]:List Int),.i64 ((([]:List Int).length:Nat):Int),.i64 ((0+1:Nat):Int)]:=rfl;rw[e0];refine(jw (m:=1001) (l:=os) (g:=λacc x=>if decide (fy x d=(i:Int))=true then acc++[x] else acc) (I:=λi acc=>acc.length<=i) (S:=λacc k=>[sl I1 acc,.i64 (acc.length:Int),.i64 ((k+1:Nat):Int)]) (fin:=λacc=>den (bL D) 1001 GL [oZ (bL D) 1001 GK [] [sl I1 (o::os),.i64 f,.i64 (d:Int),.v (.int .i64 ((o::os).length:Int)),.v (.bool false),.i64 ((0:Nat):Int),.i64 o,.agg (mu (o,f)),sl mu [(o,f)]],self] [sl I1 (o::os),.i64 f,.i64 (d:Int),.v (.int .i64 ((o::os).length:Int)),.v (.bool false),.i64 ((0:Nat):Int),.i64 o,.agg (mu (o,f)),sl mu [(o,f)],sl mu (outs i),.i64 ((outs i).length:Int),.i64 (i:Int),.v (.bool true),.i64 ((os.length+1:Nat):Int),sl I1 acc,.i64 (acc.length:Int),.v (.int .i64 ((o::os).length:Int)),.v (.bool (decide (((os.length+1:Nat):Int)<((o::os).length:Int))))]) (x:=[]) (by simp) (λi a acc _ h=>by
     split
     .rw[aC,aK];omega
     .omega) (λk x acc self' hx hI=>?_) (λacc self' hI=>?_) (by omega)).1.trans ?_
    .have hx':(o::os)[k+1]?=some x:=by simpa using hx
     have hk:=aL hx;obtain⟨b1,b2⟩:=Xi (h0 x (aN _ (au hx))) d;unfold GM;simp only[aX hx' (cA _),aM hx',cQ,mb,b1,b2,EV,ai,aa,bi (show k+1<(o::os).length by simp;omega),AT]
     by_cases c1:fy x d=(i:Int)
     .rw[ad c1,ad c1];simp only[aX hx' (cA _),aM hx',cQ,bsI,sF,gn (f:=I1) (l:=acc) (k:=[x]) (bytes:=8) (z:=1) (by simp;omega) cA,EV,ai,AT,up1 (show k+1<1000000000 by omega)]
     .rw[ac c1,ac c1];simp only[EV,AT,up1 (show k+1<1000000000 by omega)]
    .unfold GM;simp only[EV,ai,aa];rw[ac (by simp)]
    .rw[yX (λx=>decide (fy x d=(i:Int))),aO];have hi2:=hh (i:Int);have he:(List.filter (λx=>decide (fy x d=(i:Int))) os)=gU os d (i:Int):=rfl;rw[he];unfold GL;have ho:(outs i).length<=2000:=by
      have:=hr 0
      match i,hi with
      |0,_=>simp[outs]
      |1,_=>simp[outs];omega
     have hn1:outs i++iw (gU os d (i:Int)) o (d+1)=outs (i+1):=by
      match i,hi with
      |0,_=>rfl
      |1,_=>rfl
     have hd1:IntKind.i64.wrap ((d:Int)+1)=((d+1:Nat):Int):=up1 (by omega);simp only[tx0,aM o0,cQ,cp,EV,hd1,hi2,gn (f:=mu) (l:=outs i) (k:=iw (gU os d (i:Int)) o (d+1)) (bytes:=16) (z:=2) (by have:=hr (i:Int);have:=(hs (i:Int)).1;omega) Xh,ai,hn1,up1 (show i<1000000000 by omega)]
   .unfold GN;simp only[EV,show decide (((2:Nat):Int)<2)=false from rfl,aw,ax,GK,cp]
   .unfold iw;simp only[outs,aU,aO]
def Lg {t:Rt}:∀(n:Nat) (l:List Pt) (f:Int) (d:Nat),l.length<=n->Ids l->((d7 t l f d).map (·.1)).Nodup:=by
 intro n;induction n with
 |zero=>
  intro l f d h _;have:l=[]:=cH.1 (by omega);subst this;rw[d7];simp
 |succ n ih=>
  intro l f d h hi;cases l with
  |nil=>rw[d7];simp
  |cons p l=>
   simp only[aV] at h;have hmem:∀(bt:Int) (x:Pt),x∈side (p::l) (dc t l p).id d bt->x∈p::l/\ x.id≠(dc t l p).id/\ fy x.id d=bt:=λbt x hx=>by
    unfold side at hx
    grind
   have hs:∀bt:Int,(side (p::l) (dc t l p).id d bt).length<=n:=λbt=>by
    have:=pa (t:=t) (p:=p) (l:=l) (d:=d) (b:=bt);omega
   have hid:∀bt:Int,Ids (side (p::l) (dc t l p).id d bt):=λbt=>hi.filter _;have fac:=λbt:Int=>pA (t:=t) n (side (p::l) (dc t l p).id d bt) (dc t l p).id (d+1) (hs bt) (hid bt);rw[d7,bQ,dQ,b5,eN]
   grind
def JL {k v:Int}:∀{ps:List (Int×Int)},(∀x∈ps,x.1≠k)->luk ps k v=v
 |[],_=>rfl
 |x::ps,h=>by
  show luk ps k (if x.1=k then x.2 else v)=v
  rw[ac (h x (by simp))];exact JL λy hy=>h y (by simp[hy])
def Hm (ps:List (Int×Int)):PV:= .sl (ps.map λx=>[.i64 x.1,.i64 x.2])
def TJ {k v:Int}:∀(ps:List (Int×Int)),(∀x∈ps,x.1≠k)->ji [.i] [.i64 k] [.i64 v] (ps.map λx=>[.i64 x.1,.i64 x.2])=some ((ps++[(k,v)]).map λx=>[.i64 x.1,.i64 x.2])
 |[],_=>by simp[ji,eqN]
 |a::l,h=>by
  simp only[bQ,aU,ji];rw[show([PV.i64 a.1,.i64 a.2].take [Ck.i].length)=[.i64 a.1] from rfl,eqN,ak (h a (by simp))]
  simp only;rw[TJ l (λx hx=>h x (by simp[hx]))]
def afK {ps:List (Int×Int)}{k v:Int}(h:∀x∈ps,x.1≠k):RF.ev (.mset [.i] 1) [Hm ps,.v (.int .i64 k),.v (.int .i64 v)]=some (Hm (ps++[(k,v)])):=by
 unfold Hm;simp[RF.ev,show(PV.v (.int .i64 k)).cells=[.i64 k] from rfl,show(PV.v (.int .i64 v)).cells=[.i64 v] from rfl,TJ ps h]
 rfl
def TK {k:Int}:∀(ps:List (Int×Int)),(ps.map (·.1)).Nodup->∀v,∃r,dR [.i] [.i64 k] (ps.map λx=>[.i64 x.1,.i64 x.2])=some r/\ r.getD [.i64 v]=[.i64 (luk ps k v)]
 |[],_,v=>⟨none,by simp[dR,eqN],rfl⟩
 |a::l,h,v=>by
  rw[bQ,b5] at h;simp only[bQ,dR];rw[show([PV.i64 a.1,.i64 a.2].take [Ck.i].length)=[.i64 a.1] from rfl,eqN]
  by_cases e:a.1=k
  .rw[aq e];refine⟨some [.i64 a.2],rfl,?_⟩;show [PV.i64 a.2]=[.i64 (luk l k (if a.1=k then a.2 else v))]
   rw[ad e,JL λy hy e'=>h.1 (by rw[e,<-e'];exact bf.2 ⟨y,hy,rfl⟩)]
  .rw[ak e];obtain⟨r,h1,h2⟩:=TK l h.2 v;refine⟨r,h1,?_⟩;show _=[PV.i64 (luk l k (if a.1=k then a.2 else v))]
   rw[ac e,h2]
def afL {ps:List (Int×Int)}{k:Int}(h:(ps.map (·.1)).Nodup):RF.ev (.mget [.i] [KP.z]) [Hm ps,.v (.int .i64 k)]=some (.i64 (luk ps k 0)):=by
 obtain⟨r,h1,h2⟩:=TK ps h 0 (k:=k);unfold Hm;simp only[RF.ev,show(PV.v (.int .i64 k)).cells=[.i64 k] from rfl,h1]
 exact aW (λx=>some (HJ x)) h2
def afM {a:Int}(h0:0<=a)(h1:a<4611686018427387904):dq .and .i64 a .i64 1=some (.v (.int .i64 (a% 2))):=by
 rw[U1]
 congr 3
 have e:(BitVec.ofInt IntKind.i64.bits a&&& BitVec.ofInt IntKind.i64.bits 1).toNat=a.toNat% 2:=by
  show(BitVec.ofInt 64 a&&& BitVec.ofInt 64 1).toNat=_
  grind
 rw[e,cI (by omega) (by omega)];omega
def afN {x:Int}(h:0<=x)(h1:x<4611686018427387904)(d:Nat):dq .shr .i64 x .i64 (d:Int)=some (.v (.int .i64 (x.fdiv (2^(min d 64)))))/\ dq .and .i64 (x.fdiv (2^(min d 64))) .i64 1=some (.v (.int .i64 (fy x d))):=by
 refine⟨(Xi h d).1,?_⟩;have hp:(0:Int)<2^(min d 64):=zi (by decide);rw[ii _ (rZ hp)];have h2:=Int.ediv_nonneg h (rZ hp);have h3:x/2^(min d 64)<=x:=Int.ediv_le_self _ h;rw[afM h2 (by omega)];unfold fy
 grind
def bit_two (x:Int)(d:Nat):fy x d=0\/fy x d=1:=by
 unfold fy;omega
def qy {α:Type}(p q:α->Bool):∀(l a b:List α),l.foldl (λ(acc:List α×List α) x=>if p x=true then(acc.1++[x],acc.2) else if q x=true then(acc.1,acc.2++[x]) else acc) (a,b)=(a++l.filter p,b++l.filter λx=>!p x&& q x)
 |[],a,b=>by simp
 |x::l,a,b=>by
  rw[c6,cT,cT];cases hp:p x with
  |true=>simp[qy p q l]
  |false=>
   cases hq:q x with
   |true=>simp[qy p q l]
   |false=>simp[qy p q l]
def C3 (t:Rt):∀(l:List Pt) (b:Pt),l.foldl (λb p=>if leads t p b=true then p else b) b=dc t l b
 |[],_=>rfl
 |p::l,b=>by rw[c6,C3 t l];rfl
def afO (p:Pt):RF.ev .agg [.v (.int .i64 p.id),.v (.int .i64 p.a),.v (.int .i64 p.b)]=some (PP p):=rfl
def bsP (p:Pt):RF.ev (.bs 1 [KP.z,KP.z,KP.z] [0]) [PP p]=some (sl row [p]):=rfl
def TL (p:Pt):RF.ev .sub [sl row [p],.v (.int .i64 0),.v (.int .i64 1)]=some (sl row [p]):=rfl
def afP {t:Rt}(ht:aQ t)(hr:rok t=true):∀(n:Nat) (l:List Pt) (f:Int) (d:Nat) (ps:List (Int×Int)),l.length<=n->n<=1000->d+n<=10000->(∀p∈l,p.ok=true)->Ids l->(∀x∈ps,∀p∈l,x.1≠p.id)->Ans D 257 [sl row l,R t,.i64 f,.i64 (d:Int),.sl [],Hm ps] [Hm (ps++d7 t l f d)]:=by
 intro n;induction n with
 |zero=>
  intro l f d ps h _ _ _ _ _;have hl:l=[]:=cH.1 (by omega);subst hl;refine am ?_;unfold Ma;rw[d7,aZ];simp only[ay,bm,EV,ai,cL,fG,aA,az]
 |succ n ih=>
  intro l f d ps h hn hd hok hids hps;cases l with
  |nil=>
   refine am ?_;unfold Ma;rw[d7,aZ];simp only[ay,bm,EV,ai,cL,fG,aA,az]
  |cons p0 l=>
   simp only[aV] at h;have hbn:∀p∈p0::l,0<=p.id/\ p.id<=65535:=λp hp=>by have:=Pt.bnd (hok p hp);omega
   have htop:dc t l p0∈p0::l:=by
    rcases topP_mem t l p0 with e|e
    .rw[e];simp
    .simp[e]
   have o0:(p0::l)[0]?=some p0:=rfl;have tx0:RF.ev (.tix 3) [sl row (p0::l),.v (.int .i64 0)]=some (.i64 ((0:Nat):Int)):=aX o0 (cq _);have bn:RF.ev .bnd [.v (.int .i64 1),.v (.int .i64 (((p0::l).length:Nat):Int))]=some (.i64 1):=by rw[j5,ad ⟨by omega,by simp;omega⟩]
   have ts:RF.ev (.tsub 3) [sl row (p0::l),.v (.int .i64 1),.v (.int .i64 (((p0::l).length:Nat):Int))]=some (sl row l):=by
    rw[xT,ad ⟨by omega,by simp;omega,by simp,rfl,by decide⟩];simp[bk]
   have ne:decide (((p0::l).length:Int)=0)=false:=ak (by simp;omega);refine an ⟨1001,?_⟩;unfold Ma;simp only[ay,bm,tx0,aM o0,gJ,bn,ts,gI,tQ,mI,EV,ai,ne,aw,ax];refine(jw (m:=1001) (l:=l) (g:=λb p=>if leads t p b=true then p else b) (I:=λi b=>b=p0\/∃j,j<i/\ l[j]?=some b) (S:=λb i=>[.i64 b.id,.i64 b.a,.i64 b.b,.i64 (i:Int)]) (fin:=λb=>den (bL D) 1001 G1 [] [sl row (p0::l),R t,.i64 f,.i64 (d:Int),.sl [],Hm ps,R t,.v (.int .i64 (((p0::l).length:Nat):Int)),.v (.bool false),.i64 ((0:Nat):Int),PP p0,.v (.int .i64 (((p0::l).length:Nat):Int)),.i64 1,sl row l,.v (.int .i64 ((l.length:Nat):Int)),.i64 b.id,.i64 b.a,.i64 b.b]) (x:=p0) (.inl rfl) (λi a b ha hI=>?_) (λi p b self hp hI=>?_) (λb self hI=>?_) (by omega)).1.trans ?_
   .split
    .exact .inr ⟨i,gB _,ha⟩
    .exact hI.imp id λ⟨j,h1,h2⟩=>⟨j,Nat.lt_succ_of_lt h1,h2⟩
   .have hlt:=aL hp;have hpm:p∈p0::l:=by simp[au hp]
    have hbm:b∈p0::l:=by
     rcases hI with e|⟨j,_,e⟩
     .rw[e];simp
     .simp[au e]
    have hne:p.id≠b.id:=λe=>by
     have e:=hids.inj hpm hbm e;subst e;unfold Ids at hids;rcases hI with e|⟨j,hj,e⟩
     .subst e;exact(b5.1 hids).1 (bf.2 ⟨_,au hp,rfl⟩)
     .have:=dN.1 (b5.1 hids).2 j i p.id (by rw[a8,e];rfl) (by rw[a8,hp];rfl);omega
    have hA:=phi (KQ (p:=p) (q:=b) ht);rw[ad (ln (hok p hpm) (hok b hbm) hr hne)] at hA;unfold G2;simp only[ay,aX hp (cq _),aM hp,gJ,afO,hA,gI,tQ,mI,EV,aa,bi hlt,Po,up1 (show i<1000000000 by omega)]
    cases leads t p b<;>simp
   .unfold G2;simp only[EV,aa,bP]
   .rw[C3];generalize htt:dc t l p0=tp at htop;have hseen:∀x∈ps,x.1≠tp.id:=λx hx=>hps x hx tp htop;unfold G1;simp only[ay,afK hseen,EV,ai];have e0:([PV.sl [],.v (.int .i64 0),.sl [],.v (.int .i64 0),.v (.int .i64 0)]:List PV)=[sl row ([]:List Pt),.i64 ((([]:List Pt).length:Nat):Int),sl row ([]:List Pt),.i64 ((([]:List Pt).length:Nat):Int),.i64 ((0:Nat):Int)]:=rfl;rw[e0];refine(jw (m:=1001) (l:=p0::l) (g:=λ(acc:List Pt×List Pt) x=>if(decide (x.id≠tp.id)&& decide (fy x.id d=0))=true then(acc.1++[x],acc.2) else if(decide (x.id≠tp.id)&& decide (fy x.id d=1))=true then(acc.1,acc.2++[x]) else acc) (I:=λi acc=>acc.1.length<=i/\ acc.2.length<=i) (S:=λacc i=>[sl row acc.1,.i64 (acc.1.length:Int),sl row acc.2,.i64 (acc.2.length:Int),.i64 (i:Int)]) (fin:=λacc=>den (bL D) 1001 GZ [] [sl row (p0::l),R t,.i64 f,.i64 (d:Int),.sl [],Hm ps,R t,.v (.int .i64 (((p0::l).length:Nat):Int)),.v (.bool false),.i64 ((0:Nat):Int),PP p0,.v (.int .i64 (((p0::l).length:Nat):Int)),.i64 1,sl row l,.v (.int .i64 ((l.length:Nat):Int)),.i64 tp.id,.i64 tp.a,.i64 tp.b,Hm (ps++[(tp.id,f)]),.v (.int .i64 (((p0::l).length:Nat):Int)),sl row acc.1,.i64 (acc.1.length:Int),sl row acc.2,.i64 (acc.2.length:Int)]) (x:=(([],[]):List Pt×List Pt)) ⟨aB _,aB _⟩ (λi a acc _ hI=>?_) (λi x acc self hx hI=>?_) (λacc self hI=>?_) (by simp;omega)).1.trans ?_
    .split
     .exact⟨by simp;omega,by show acc.2.length<=_;have:=hI.2;omega⟩
     .split
      .exact⟨by show acc.1.length<=_;have:=hI.1;omega,by simp;omega⟩
      .exact⟨by have:=hI.1;omega,by have:=hI.2;omega⟩
    .have hlt:=aL hx;have hl1:(p0::l).length<=1000:=by simp;omega
     have hxb:=hbn x (au hx);obtain⟨b1,b2⟩:=afN hxb.1 (by omega) d;unfold G0;simp only[ay,aX hx (cq _),aM hx,gJ,gI,mb,b1,b2,EV,ai,aa,bi hlt,AU,up1 (show i<1000000000 by omega),aE,aj]
     by_cases c1:x.id=tp.id
     .simp only[c1,cJ,ax,fg,aY,uN,aw]
     .simp only[c1,db,az,fg,aA,gc,aa];rcases bit_two x.id d with c2|c2
      .simp only[c2,az,ay,bsP,TL,gn (f:=row) (l:=acc.1) (k:=[x]) (bytes:=24) (z:=3) (by simp;omega) cq,EV,ai,AU,up1 (show i<1000000000 by omega)]
      .simp only[c2,show¬((1:Int)=0) by decide,ax,az,aA,ay,bsP,TL,gn (f:=row) (l:=acc.2) (k:=[x]) (bytes:=24) (z:=3) (by simp;omega) cq,EV,ai,AU,up1 (show i<1000000000 by omega)]
    .unfold G0;simp only[EV,aa,bP]
    .rw[qy];have s0:(p0::l).filter (λx=>decide (x.id≠tp.id)&& decide (fy x.id d=0))=side (p0::l) tp.id d 0:=rfl;have s1:(p0::l).filter (λx=>!(decide (x.id≠tp.id)&& decide (fy x.id d=0))&&(decide (x.id≠tp.id)&& decide (fy x.id d=1)))=side (p0::l) tp.id d 1:=by
      unfold side;refine jD λx _=>?_;by_cases c1:x.id=tp.id
      .simp[c1]
      .rcases bit_two x.id d with c2|c2<;>simp[c1,c2]
     rw[s0,s1,aO,aO];have hm:∀(b:Int) (x:Pt),x∈side (p0::l) tp.id d b->x∈p0::l/\ x.id≠tp.id/\ fy x.id d=b:=λb x hx=>by
      obtain⟨h1,h2⟩:=bx.1 hx;simp only[aH,aa] at h2;exact⟨h1,h2.1,h2.2⟩
     have hsl:∀b:Int,(side (p0::l) tp.id d b).length<=n:=λb=>by
      have:=pa (t:=t) (p:=p0) (l:=l) (d:=d) (b:=b);rw[htt] at this;omega
     have hsi:∀b:Int,Ids (side (p0::l) tp.id d b):=λb=>hids.filter _;have r0:=phi (ih (side (p0::l) tp.id d 0) tp.id (d+1) (ps++[(tp.id,f)]) (hsl 0) (by omega) (by omega) (λp hp=>hok p (hm 0 p hp).1) (hsi 0) (λx hx p hp=>by
      rcases bS.1 hx with hx|hx
      .exact hps x hx p (hm 0 p hp).1
      .simp only[b8] at hx;subst hx;exactλe=>(hm 0 p hp).2.1 e.symm))
     have r1:=phi (ih (side (p0::l) tp.id d 1) tp.id (d+1) (ps++[(tp.id,f)]++d7 t (side (p0::l) tp.id d 0) tp.id (d+1)) (hsl 1) (by omega) (by omega) (λp hp=>hok p (hm 1 p hp).1) (hsi 1) (λx hx p hp=>by
      rcases bS.1 hx with hx|hx
      .rcases bS.1 hx with hx|hx
       .exact hps x hx p (hm 1 p hp).1
       .simp only[b8] at hx;subst hx;exactλe=>(hm 1 p hp).2.1 e.symm
      .obtain⟨q,hq,e,_⟩:=pA (t:=t) n _ tp.id (d+1) (hsl 0) (hsi 0) x hx;intro e';have:=hids.inj (hm 0 q hq).1 (hm 1 p hp).1 (e.trans e');subst this;have h1:=(hm 0 q hq).2.2;rw[(hm 1 q hp).2.2] at h1;cases h1))
     have hd1:IntKind.i64.wrap ((d:Int)+1)=((d+1:Nat):Int):=up1 (by omega);unfold GZ;simp only[EV,hd1,cp,r0,r1];rw[d7,htt];simp[bc]
def it (t:Rt)(l:List Pt):List (Int×Int):=d7 t l (-1) 0
def cS (t:Rt)(l:List Pt):List Int:=l.map λp=>luk (it t l) p.id 0
def EO {l:List Pt}(hs:jq l):∀(ps:List (Int×Int)) (out:List Int),out.length=l.length->(∀x∈ps,∃p∈l,p.id=x.1)->∀(i:Nat) (p:Pt) (v:Int),l[i]?=some p->out[i]?=some v->(ps.foldl (λout x=>out.set (pos l x.1).toNat x.2) out)[i]?=some (luk ps p.id v)
 |[],out,_,_,i,p,v,_,hv=>hv
 |x::ps,out,ho,hm,i,p,v,hp,hv=>by
  rw[c6];unfold luk;rw[c6];obtain⟨q,hq,hqx⟩:=hm x (by simp);obtain⟨j,hj⟩:=aI.1 hq;have hpos:pos l x.1=j:=by rw[<-hqx];exact ri hs hj
  refine EO hs ps _ (by simpa using ho) (λy hy=>hm y (aN _ hy)) i p _ hp ?_
  rw[hpos,aF];by_cases e:i=j
  .subst e;rw[hp] at hj;cases hj;rw[ad hqx.symm,bj (by have:=aL hp;omega)]
  .rw[bw (by omega),ac (λh=>e ?_)]
   .exact hv
   .exact dN.1 (cW hs) i j p.id (by rw[a8,hp];rfl) (by rw[a8,hj,cg,hqx,h])
def EQ (l:List Pt):∀(ps:List (Int×Int)) (out:List Int),(ps.foldl (λout x=>out.set (pos l x.1).toNat x.2) out).length=out.length
 |[],out=>rfl
 |x::ps,out=>by rw[c6,EQ l ps,ba]
def lV {l:List Pt}(h:okF l):∀p∈l,0<=p.id/\ p.id<=65535:=λp hp=>by
 obtain⟨i,hi⟩:=aI.1 hp;have:=Pt.bnd (dH h hi);omega
def afQ {l:List Pt}{t:Rt}(h:okF l)(ht:aQ t):Ans D 145 [F l,R t] [sl I1 (cS t l)]:=by
 have hl:=h.1;have hh:=phi (afJ 64 ((oj t l).map Pt.id) (-1) 0 (by rw[ai,(jr t l).length_eq];omega) (by omega) (by omega) (λx hx=>by
  obtain⟨p,hp,rfl⟩:=bf.1 hx;exact(lV h p ((jr t l).mem_iff.1 hp)).1))
 rw[Kk 64 l (oj t l) (-1) 0 hl (jr t l) (xY (cW h.2.2)) (cW h.2.2)] at hh;have hlen:(it t l).length<=64:=by
  have:=sE 64 ((oj t l).map Pt.id) (-1) 0 (by rw[ai,(jr t l).length_eq];omega);rw[Kk 64 l (oj t l) (-1) 0 hl (jr t l) (xY (cW h.2.2)) (cW h.2.2),ai,(jr t l).length_eq] at this;unfold it;omega
 have hkey:∀x∈it t l,∃p∈l,p.id=x.1:=λx hx=>by
  obtain⟨p,hp,e,_⟩:=pA 64 l (-1) 0 hl (cW h.2.2) x hx
  grind
 refine an ⟨1001,?_⟩;unfold Zr;have z0:PV.v (.int .i64 0)= .i64 ((0:Nat):Int):=rfl;have hh':bL D 237 [sl I1 ((oj t l).map Pt.id),.v (.int .i64 (-1)),.v (.int .i64 0)]=some [sl mu (it t l)]:=hh;simp only[ay,bv,bm,cG,phi (afI h ht),hh',BZ (show l.length<=1000 by omega),EV,ai,aR]
 refine(jw (m:=1001) (l:=it t l) (g:=λout x=>out.set (pos l x.1).toNat x.2) (I:=λ_ out=>out.length=l.length) (S:=λout i=>[sl I1 out,.i64 (i:Int)]) (fin:=λout=>some [sl I1 out]) (x:=List.replicate l.length 0) (by simp) (λi a acc _ h=>by simpa using h) (λi x acc self hx hI=>?_) (λacc self hI=>?_) (by omega)).1.trans ?_
 .obtain⟨p,hp,e⟩:=hkey x (au hx);obtain⟨j,hj⟩:=aI.1 hp;have hpos:pos l x.1=j:=by rw[<-e];exact ri h.2.2 hj
  have hAt:=phi (tf (l:=l) (by omega) x.1);rw[hpos] at hAt;unfold F5;simp only[ay,aX hx (Xh _),aM hx,adj,adk,hAt,ixM (aL hj),iI (show j<acc.length by rw[hI];exact aL hj),EV,ai,aa,bi (aL hx),up1 (show i<1000000000 by have:=aL hx;omega)]
  rw[hpos,aF]
 .unfold F5;have:=cp (f:=I1) (l:=acc);rw[hI] at this;simp only[EV,ai,aa,bP,Oq,this]
 .congr 4
  refine cU λi=>?_;by_cases hi:i<l.length
  .have hp:=ah hi;rw[EO h.2.2 (it t l) _ (by simp) hkey i _ 0 hp (by rw[eC,ad hi])];unfold cS;rw[a8,hp];rfl
  .rw[bF (by rw[EQ];simp;omega),bF (by unfold cS;simp;omega)]
def cv (l:List Pt)(up:List Int):List Crt:=(l.zip up).filterMap λx=>if 0<=x.2 then some ⟨x.1.id,x.2⟩ else none
def JM {α β:Type}(f:α->Option β):∀(l:List α) (acc:List β),l.foldl (λacc x=>acc++(f x).toList) acc=acc++l.filterMap f
 |[],acc=>by simp
 |a::l,acc=>by
  rw[c6,JM f l,kL];cases f a<;>simp
def afR {l:List Pt}{up:List Int}(hl:l.length=up.length)(hb:l.length<=1000):Ans D 146 [F l,sl I1 up] [sl crow (cv l up)]:=by
 refine an ⟨1001,?_⟩;unfold Zs;simp only[ay,bv,EV];have e0:([PV.sl [],.v (.int .i64 0),.v (.int .i64 0)]:List PV)=[sl crow ([]:List Crt),.i64 ((([]:List Crt).length:Nat):Int),.i64 ((0:Nat):Int)]:=rfl;rw[e0];refine(jw (m:=1001) (l:=l.zip up) (g:=λacc x=>acc++(if 0<=x.2 then some (Crt.mk x.1.id x.2) else none).toList) (I:=λi acc=>acc.length<=i) (S:=λacc i=>[sl crow acc,.i64 (acc.length:Int),.i64 (i:Int)]) (fin:=λacc=>some [sl crow acc]) (x:=[]) (by simp) (λi a acc _ h=>?_) (λi x acc self hx hI=>?_) (λacc self hI=>?_) (by rw[i9 hl];omega)).1.trans ?_
 .grind
 .obtain⟨hp,hq⟩:=lU hx;have hi:=aL hp;unfold F6;simp only[ay,cG,aX hp (cq _),aM hp,sC,aX hq (cA _),aM hq,cQ,EV,ai,aa,bi (aL hq),bB,AN];by_cases c:0<=x.2
  .rw[ad c];simp only[ay,cG,aX hp (cq _),aM hp,sC,aX hq (cA _),aM hq,cQ,vq,bsC,qx,gn (f:=crow) (l:=acc) (k:=[⟨x.1.id,x.2⟩]) (bytes:=16) (z:=2) (by simp;omega) iY,EV,ai,AN,up1 (show i<1000000000 by omega),c,az,Option.toList]
  .rw[ac c];simp only[EV,AN,up1 (show i<1000000000 by omega),c,ax,Option.toList,aZ]
 .rw[i9 hl,hl];unfold F6;simp only[EV,ai,aa,bP,Ot,cp]
 .rw[JM (λx:Pt×Int=>if 0<=x.2 then some (Crt.mk x.1.id x.2) else none)]
  rfl
def vr {l:List Pt}{up:List Int}{e:Crt}:e∈cv l up↔∃(i:Nat) (p:Pt) (u:Int),l[i]?=some p/\ up[i]?=some u/\ 0<=u/\ e=⟨p.id,u⟩:=by
 unfold cv;rw[List.mem_filterMap];constructor
 .rintro⟨x,hx,h⟩;obtain⟨i,hi⟩:=aI.1 hx;obtain⟨h1,h2⟩:=lU hi
  grind
 .rintro⟨i,p,u,h1,h2,h3,rfl⟩;refine⟨(p,u),au (i:=i) ?_,ad h3⟩
  grind
def nT:∀{l:List Pt} {up:List Int},Ids l->(cv l up).Nodup
 |[],_,_=>by simp[cv]
 |p::l,[],_=>by simp[cv]
 |p::l,u::us,h=>by
  have ih:=nT (l:=l) (up:=us) h.tail;unfold cv at ih|-;rw[List.zip_cons_cons,kL];by_cases c:0<=u
  .simp only[c,az];rw[b5];refine⟨λhm=>?_,ih⟩;obtain⟨i,q,v,h1,h2,h3,h4⟩:=vr.1 (show(⟨p.id,u⟩:Crt)∈cv l us from hm)
   simp at h4;refine(b5.1 h).1 ?_;show p.id∈l.map Pt.id
   rw[h4.1];exact bf.2 ⟨q,au h1,rfl⟩
  .simp only[c,ax];exact ih
def jH (k:KHeap):Prop:=bD k.clock/\ cS k.clock.now k.clock.pts=k.heap/\ JustR k.clock (cv k.clock.pts (cS k.clock.now k.clock.pts))
def yl (t:Rt)(l:List Pt):(cS t l).length=l.length:=by simp[cS]
def eW {l:List Pt}{t:Rt}(h:okF l){e:Crt}(he:e∈cv l (cS t l)):inF l e.low=true/\ inF l e.high=true/\ leads t (be l e.high) (be l e.low)=true:=by
 obtain⟨i,p,u,h1,h2,h3,rfl⟩:=vr.1 he;unfold cS at h2;rw[a8,h1,cg,bY] at h2;have hpm:=au h1;obtain⟨f,hf⟩:=M0 64 l (-1) 0 h.1 (cW h.2.2) (λp hp=>(lV h p hp).1) p hpm;have hmem:(p.id,u)∈it t l:=by
  rcases luk_mem (ps:=it t l) (k:=p.id) (v:=0) with e|e
  .rw[h2] at e;have:=CK (ps:=it t l) (k:=p.id) (v:=0) ⟨f,hf⟩
   grind
  .grind
 obtain⟨p',hp',e1,e2⟩:=pA 64 l (-1) 0 h.1 (cW h.2.2) (p.id,u) hmem;simp only at e1 e2;have:=(cW h.2.2).inj hp' hpm e1;subst this;rcases e2 with e2|⟨q,hq,e3,e4⟩
 .omega
 .refine⟨gl.2 (bf.2 ⟨p',hpm,rfl⟩),gl.2 (bf.2 ⟨q,hq,e3⟩),?_⟩;obtain⟨j,hj⟩:=aI.1 hq;rw[<-e3,gK h hj,gK h h1];exact e4
open Classical in
def c84 {k:KHeap}(h64:fF k.clock)(hg:gKh k=false):Ans D 64 [KH k] [.i64 (okE (decide (jH k)))]:=by
 obtain⟨g1,g2⟩:=tR hg;have no:∀h:¬jH k,(some [PV.v (.int .i64 8)]:Option (List PV))=some [.i64 (okE (decide (jH k)))]:=λh=>by rw[ak h];rfl
 have pKH2:RF.ev (.part 2 1) [KH k]=some (F k.clock.pts):=rfl;have pKH0:RF.ev (.part 0 2) [KH k]=some (R k.clock.now):=rfl;refine an ⟨1001,?_⟩;unfold k84;simp only[ay,jG,pKH,EV,phi (K8 h64 g1),i8,aE,aj];by_cases h1:bD k.clock
 .have hF:=h1.2.1;have hl:=hF.1;rw[aq h1,ad rfl];simp only[ay,pKH,pKH2,pKH0,cKH,phi (afQ hF h64.1),phi (afi (l:=cS k.clock.now k.clock.pts) (k:=k.heap) (by rw[yl];omega)),phi (afR (l:=k.clock.pts) (up:=cS k.clock.now k.clock.pts) (yl _ _).symm (by omega)),EV,aE,aj];by_cases h2:cS k.clock.now k.clock.pts=k.heap
  .rw[ac (by simp[h2])];have hel:(cv k.clock.pts (cS k.clock.now k.clock.pts)).length<=1000:=by
    unfold cv
    grind
   simp only[ay,EV,phi (Lf (c:=k.clock) (edges:=cv k.clock.pts (cS k.clock.now k.clock.pts)) hF h64.1 hel (by have:=gP g1;omega) (λe he=>⟨(eW hF he).1,(eW hF he).2.1⟩)),aE,aj];by_cases h3:JustR k.clock (cv k.clock.pts (cS k.clock.now k.clock.pts))
   .rw[ac (by simp[h3]),aq (show jH k from⟨h1,h2,h3⟩)];rfl
   .rw[ad h3];exact no (λh=>h3 h.2.2)
  .rw[ad h2];exact no (λh=>h2 h.2.1)
 .rw[ak h1,ac (by simp)];exact no (λh=>h1 h.1)
def yY {t:Rt}{l:List Pt}(h:okF l):((it t l).map (·.1)).Nodup:=Lg l.length l (-1) 0 (aB _) (cW h.2.2)
def mX (g:Pt->Int)(k:List Pt):List Crt:=k.filterMap λp=>if 0<=g p then some ⟨p.id,g p⟩ else none
def Ak (g:Pt->Int):∀k:List Pt,cv k (k.map g)=mX g k
 |[]=>rfl
 |x::k=>by
  have:=Ak g k;unfold cv mX at this|-;rw[bQ,List.zip_cons_cons,kL,kL,this]
def Rl (g:Pt->Int)(k:List Pt):(mX g k).length<=k.length:=sf ..
def ER {l:List Pt}{t:Rt}(h:okF l)(ht:aQ t)(hr:rok t=true):Ans D 165 [F l,R t] [sl I1 (cS t l),sl crow (cv l (cS t l))]:=by
 have hl:=h.1;have h0:=phi (afP ht hr l.length l (-1) 0 [] (aB _) (by omega) (by omega) (λp hp=>aS.1 h.2.1 p hp) (cW h.2.2) (λx hx=>by cases hx));rw[aO] at h0;have e0:Hm []= .sl []:=rfl;rw[e0] at h0;have hgt:∀k:Int,RF.ev (.mget [.i] [KP.z]) [Hm (it t l),.v (.int .i64 k)]=some (.i64 (luk (it t l) k 0)):=λk=>afL (yY h);have hh:bL D 257 [sl row l,R t,.v (.int .i64 (-1)),.v (.int .i64 0),.sl [],.sl []]=some [Hm (it t l)]:=h0;unfold cS;rw[Ak];generalize hg:(λp:Pt=>luk (it t l) p.id 0)=g;have hgp:∀p:Pt,luk (it t l) p.id 0=g p:=λp=>by rw[<-hg]
 refine an ⟨1001,?_⟩;unfold ZI;simp only[ay,bv,bm,cG,hh,EV,ai];have st0:([PV.sl [],.v (.int .i64 0),.sl [],.v (.int .i64 0),.v (.int .i64 0)]:List PV)=[sl I1 (([]:List Pt).map g),.i64 ((([]:List Pt).length:Nat):Int),sl crow (mX g []),.i64 (((mX g []).length:Nat):Int),.i64 ((0:Nat):Int)]:=rfl;rw[st0];refine(jw (m:=1001) (l:=l) (g:=λacc x=>acc++[x]) (I:=λi acc=>acc.length<=i) (S:=λacc i=>[sl I1 (acc.map g),.i64 (acc.length:Int),sl crow (mX g acc),.i64 ((mX g acc).length:Int),.i64 (i:Int)]) (fin:=λacc=>some [sl I1 (acc.map g),sl crow (mX g acc)]) (x:=[]) (aB _) (λi a acc _ hI=>by simp;omega) (λi p acc self hp hI=>?_) (λacc self hI=>?_) (by omega)).1.trans ?_
 .have hlt:=aL hp;have hel:=Rl g acc;have a1:=gn (f:=I1) (l:=acc.map g) (k:=[g p]) (bytes:=8) (z:=1) (by simp;omega) cA;rw[ai] at a1;have hs:acc.map g++[g p]=(acc++[p]).map g:=by simp
  have nxt:=up1 (show i<1000000000 by omega)
  unfold Gm;simp only[ay,cG,aX hp (cq _),aM hp,gJ,gI,hgt,hgp,bsI,sF,a1,hs,EV,ai,aC,aK,aa,bi hlt,bB];by_cases c1:0<=g p
  .have he:mX g (acc++[p])=mX g acc++[⟨p.id,g p⟩]:=by
    unfold mX;rw[uR];simp[c1]
   rw[ad c1];simp only[ay,gI,hgt,hgp,vq,bsC,qx,he,gn (f:=crow) (l:=mX g acc) (k:=[⟨p.id,g p⟩]) (bytes:=16) (z:=2) (by simp;omega) iY,EV,ai,aC,aK,Gl,nxt]
  .have he:mX g (acc++[p])=mX g acc:=by
    unfold mX;rw[uR];simp[c1]
   rw[ac c1];simp only[EV,Gl,nxt,he]
 .unfold Gm;have a1:RF.ev .sub [sl I1 (acc.map g),.v (.int .i64 0),.v (.int .i64 (acc.length:Int))]=some (sl I1 (acc.map g)):=by
   have:=cp (f:=I1) (l:=acc.map g);rwa [ai] at this
  simp only[EV,aa,bP,OM,a1,cp]
 .have:∀(k a:List Pt),k.foldl (λacc x=>acc++[x]) a=a++k:=by
   intro k;induction k with
   |nil=>intro a;simp
   |cons x k ih=>intro a;rw[c6,ih];simp
  rw[this,aO]
open Classical in
def c80 {k:KHeap}(h64:fF k.clock)(hg:gKh k=false):Ans D 71 [KH k] [.i64 (okE (decide (jH k)))]:=by
 obtain⟨g1,g2⟩:=tR hg;have no:∀h:¬jH k,(some [PV.v (.int .i64 8)]:Option (List PV))=some [.i64 (okE (decide (jH k)))]:=λh=>by rw[ak h];rfl
 have pKH2:RF.ev (.part 2 1) [KH k]=some (F k.clock.pts):=rfl;have pKH0:RF.ev (.part 0 2) [KH k]=some (R k.clock.now):=rfl;have cKH4:RF.ev (.cell 4) [KH k]=some (sl hrow k.clock.certs.list):=rfl;have cc:=gP g1;refine an ⟨1001,?_⟩;unfold k80;simp only[ay,jG,pKH,EV,phi (Lc h64 g1),i8,aE,aj];by_cases h1:bD k.clock
 .have hF:=h1.2.1;have hl:=hF.1;rw[aq h1,ad rfl];simp only[ay,pKH,pKH2,pKH0,cKH,cKH4,phi (ER hF h64.1 h1.1),phi (Rj (l:=cS k.clock.now k.clock.pts) (k:=k.heap) (by rw[yl];omega)),EV,ai,aE,aj];by_cases h2:cS k.clock.now k.clock.pts=k.heap
  .rw[ac (by simp[h2])];have hel:(cv k.clock.pts (cS k.clock.now k.clock.pts)).length<=1000:=by
    unfold cv
    grind
   have hJ:=sD (c:=k.clock) h1.2.2.1 (nT (up:=cS k.clock.now k.clock.pts) (cW hF.2.2)) (λe he=>(eW hF he).2.2);by_cases h3:(cv k.clock.pts (cS k.clock.now k.clock.pts)).length=k.clock.certs.list.length
   .rw[ac (by omega)];refine(cz (m:=1001) (l:=k.clock.certs.list) (p:=λh=>decide (h.cert∈cv k.clock.pts (cS k.clock.now k.clock.pts))) (st:=λi=>[.i64 (i:Int)]) (r:=some [.i64 8]) (fin:=some [.i64 0]) (λi h self hh _=>?_) (λ_ self=>?_) (by omega)).trans ?_
    .unfold L0;simp only[ay,cKH4,pHP,aX hh (gL _),aM hh,lr,phi (wW h.cert hel),EV,aa,bi (aL hh),up1 (show i<1000000000 by have:=aL hh;omega)]
     by_cases c1:h.cert∈cv k.clock.pts (cS k.clock.now k.clock.pts)<;>simp[c1]
    .unfold L0;simp only[EV,aa,bP,Uz]
    .have:(k.clock.certs.list.all λh=>decide (h.cert∈cv k.clock.pts (cS k.clock.now k.clock.pts)))=true↔jH k:=by
      rw[aS];simp only[aa];exact⟨λh=>⟨h1,h2,hJ.1 ⟨h3,h⟩⟩,λh=>(hJ.2 h.2.2).2⟩
     by_cases hr:jH k
     .rw[ad (this.2 hr),aq hr];rfl
     .rw[ac (λh=>hr (this.1 h)),ak hr];rfl
   .rw[ad (by omega)];exact no (λh=>h3 h.2.2.1.symm)
  .rw[ad h2];exact no (λh=>h2 h.2.1)
 .rw[ak h1,ac (by simp)];exact no (λh=>h1 h.1)
def ldF (t:Rt)(l:List Pt)(i j:Nat):Bool:=leads t ((l[i]?).getD ⟨0,0,0⟩) ((l[j]?).getD ⟨0,0,0⟩)
def ym {t:Rt}{l:List Pt}{i j:Nat}{p q:Pt}(hp:l[i]?=some p)(hq:l[j]?=some q):ldF t l i j=leads t p q:=by
 unfold ldF;rw[hp,hq];rfl
def fK {t:Rt}{l:List Pt}(hs:jq l):Lin (ldF t l) l.length where
 asymm:=λi j h=>fx h
 trans:=λi j k h1 h2=>kA h1 h2
 total:=λi j hi hj hne=>by
  unfold ldF;refine leads_total ?_;rw[ah hi,ah hj];intro e;refine hne (dN.1 (cW hs) i j l[i].id ?_ ?_)
  .rw[a8,ah hi];rfl
  .rw[a8,ah hj,cg];exact aW some e.symm
def mkN (l:List Pt)(lk:List (Int×Int)):List Nod:=(l.zip lk).map λx=>⟨x.1.id,x.2.1,x.2.2⟩
def gq (l:List Pt)(lk:List (Int×Int))(h:lk.length<=l.length):(mkN l lk).length=lk.length:=by simp[mkN];omega
def ky {l:List Pt}{lk:List (Int×Int)}{i:Nat}{p:Pt}{x:Int×Int}(hp:l[i]?=some p)(hx:lk[i]?=some x):(mkN l lk)[i]?=some ⟨p.id,x.1,x.2⟩:=by
 unfold mkN
 grind
def cart (t:Rt)(l:List Pt):Tree:=⟨(cmake (ldF t l) l.length).2.1,mkN l (cmake (ldF t l) l.length).2.2⟩
def afS {l:List Pt}{t:Rt}(h:okF l)(ht:aQ t)(hr:rok t=true):Ans D 345 [F l,R t] [.i64 0]:=by
 have h1:=phi (te l);rw[eL.2 h] at h1;have h2:=phi (c43 ht);rw[hr] at h2;have e0:okE true=0:=rfl;rw[e0] at h2;refine am ?_;unfold abf;simp[bv,bm,EV,h1,h2]
def sG (l:List Nat):List Int:=l.map λn:Nat=>(n:Int)
def ES {l:List Pt}{t:Rt}(h:okF l)(ht:aQ t)(hr:rok t=true){N:Nat}{i:Nat}{p:Pt}(hp:l[i]?=some p){f0 f1 f2:JT}{e0 e1 e4 e5 e6 e7 e8 e9 e10 e13 e14 e15 e16 e17:PV}{E:List Int}(hE:E.length<=1000):∀(rem:List Nat) (m:Nat) (left:Int),rem.length<m->(∀(k:Nat) (e:Nat),rem.reverse[k]?=some e->E[k]?=some (e:Int))->(∀e∈rem,e<i)->rem.length<=E.length->
  dW (bL D) N xl [f0,f1,f2] [e0,e1,F l,R t,e4,e5,e6,e7,e8,e9,e10,sl I1 E,.i64 (E.length:Int),e13,e14,e15,e16,e17,PP p] m [.i64 (rem.length:Int),.i64 left]=
   f2 [.i64 (popAll (ldF t l) i rem left).2,.i64 ((popAll (ldF t l) i rem left).1.length:Int),.bool (decide (0<(popAll (ldF t l) i rem left).1.length))]
 |[],m,left,hm,_,_,_=>by
  obtain⟨m,rfl⟩:∃m',m=m'+1:=⟨m-1,by omega⟩;rw[bC];unfold xl popAll;simp only[EV,cL,aa];rw[ac (by omega)];rfl
 |e::es,m,left,hm,hk,hlt,hEl=>by
  obtain⟨m,rfl⟩:∃m',m=m'+1:=⟨m-1,by omega⟩;have hee:=hk es.length e (by rw[mH,bH (by simp)];simp);simp at hm hEl;obtain⟨q,hq⟩:∃q,l[e]?=some q:=⟨l[e]'(by have:=hlt e (by simp);have:=aL hp;omega),ah _⟩;have hne:q.id≠p.id:=by have:=jg h.2.2 (hlt e (by simp)) hq hp;omega
  have hA:=phi (KQ (p:=q) (q:=p) ht);rw[ad (ln (dH h hq) (dH h hp) hr hne),<-ym hq hp] at hA;have ih:=ES h ht hr (N:=N) hp (f0:=f0) (f1:=f1) (f2:=f2) (e0:=e0) (e1:=e1) (e4:=e4) (e5:=e5) (e6:=e6) (e7:=e7) (e8:=e8) (e9:=e9) (e10:=e10) (e13:=e13) (e14:=e14) (e15:=e15) (e16:=e16) (e17:=e17) hE es m (e:Int) (by omega) (λk e' hke=>hk k e' (by
   rw[mH,aG (aL hke)];exact hke)) (λx hx=>hlt x (aN _ hx)) (by omega)
  rw[bC];generalize hkk:xl=kk at ih;subst hkk;unfold xl popAll;have d1:IntKind.i64.wrap (((es.length+1:Nat):Int)-1)=(es.length:Int):=uU (by omega);have bn:RF.ev .bnd [.v (.int .i64 (es.length:Int)),.v (.int .i64 (E.length:Int))]=some (.i64 (es.length:Int)):=by rw[j5,ad ⟨by omega,by omega⟩]
  have g0:decide ((0:Int)<((es.length+1:Nat):Int))=true:=aq (by omega);simp only[EV,aV,g0,da,az,d1,ixM (show es.length<es.length+1 by omega),aM hee,cQ,ay,cG,aX hq (cq _),aM hq,gJ,hA,bn]
  cases hL:ldF t l e i with
  |true=>
   simp only[az,aV];rw[show decide (0<es.length+1)=true from aq (by omega)]
  |false=>
   simp;exact ih
def Nf {l:List Nat}{k e:Nat}(h:l[k]?=some e):(sG l)[k]?=some (e:Int):=by
 unfold sG;rw[a8,h];rfl
def TM {l:List Nod}{i:Nat}{n:Nod}(h:l[i]?=some n)(r:Int):RF.ev (.set 2) [sl dD l,.v (.int .i64 (i:Int)),.v (.int .i64 r)]=some (sl dD (l.set i ⟨n.id,n.left,r⟩)):=by
 rw[yP,ad (by omega),aF,a8,h];exact aW (λx=>some (PV.sl x)) (oy (f:=dD) (l:=l) (i:=i) (a:=⟨n.id,n.left,r⟩)).symm
def bsN (n:Nod):RF.ev (.bs 1 [KP.z,KP.z,KP.z] [0]) [NP n]=some (sl dD [n]):=rfl
def Lh (n:Nod):RF.ev .sub [sl dD [n],.v (.int .i64 0),.v (.int .i64 1)]=some (sl dD [n]):=rfl
def Rm (a b c:Int):RF.ev .agg [.i64 a,.i64 b,.i64 c]=some (NP ⟨a,b,c⟩):=rfl
def JN {l:List Pt}{lk:List (Int×Int)}{e:Nat}{p:Pt}{x:Int×Int}{r:Int}(hp:l[e]?=some p)(hx:lk[e]?=some x):(mkN l lk).set e ⟨p.id,x.1,r⟩=mkN l (lk.modify e λx=>(x.1,r)):=by
 refine cU λk=>?_;by_cases hk:k<l.length/\ k<lk.length
 .have h1:=ah hk.1;have h2:=ah hk.2;by_cases e':k=e
  .subst e';rw[bj (by simp[mkN];omega)];rw[ky hp (x:=(x.1,r)) (by rw[gi,hx];rfl)]
  .rw[bw (by omega),ky h1 h2,ky h1 (x:=lk[k]) (by rw[eB _ _ (by omega)];exact h2)]
 .rw[bF (by simp[mkN];omega),bF (by simp[mkN];omega)]
def B3 {l:List Pt}{lk:List (Int×Int)}{p:Pt}{x:Int×Int}(hp:l[lk.length]?=some p):mkN l lk++[⟨p.id,x.1,x.2⟩]=mkN l (lk++[x]):=by
 unfold mkN;have hlt:=aL hp;have:l.zip (lk++[x])=l.zip lk++[(p,x)]:=by
  have h1:l=l.take lk.length++l.drop lk.length:=(gZ _ _).symm;have h2:l.drop lk.length=p::l.drop (lk.length+1):=by
   rw[cY hlt,(aD.1 hp).2]
  rw[h1,List.zip_append (by rw[aP];omega),h2];rw[<-aZ lk];rw[aZ]
  conv=>rhs;rw[show l.take lk.length++p::l.drop (lk.length+1)=l.take lk.length++([p]++l.drop (lk.length+1)) from rfl]
  rw[show lk=lk++[] by simp,List.zip_append (by rw[aP,aZ];omega)]
  simp
 rw[this,dQ];rfl
def Ng (l:List Nat)(n:Nat):sG (l++[n])=sG l++[(n:Int)]:=by simp[sG]
def ce (t:Rt)(l:List Pt):Nat->List Int
 |0=>[]
 |i+1=>(ce t l i).take (popAll (ldF t l) i (cmake (ldF t l) i).1 (-1)).1.length++[(i:Int)]++(ce t l i).drop ((popAll (ldF t l) i (cmake (ldF t l) i).1 (-1)).1.length+1)
def Li (ld:Nat->Nat->Bool)(i:Nat)(s:List Nat×Int×List (Int×Int)):(sY ld i s).1=i::(popAll ld i s.1 (-1)).1:=by
 unfold sY
 grind
def TN (t:Rt)(l:List Pt):∀i,(ce t l i).take (cmake (ldF t l) i).1.length=sG (cmake (ldF t l) i).1.reverse/\(cmake (ldF t l) i).1.length<=(ce t l i).length/\(ce t l i).length<=i
 |0=>⟨rfl,aB _,aB _⟩
 |i+1=>by
  obtain⟨h1,h2,h3⟩:=TN t l i;have hs:cmake (ldF t l) (i+1)=sY (ldF t l) i (cmake (ldF t l) i):=rfl;rw[hs,Li];obtain⟨gone,p1,_⟩:=oh (ld:=ldF t l) i (cmake (ldF t l) i).1 (-1);unfold ce;generalize (popAll (ldF t l) i (cmake (ldF t l) i).1 (-1)).1=kept at p1;generalize (cmake (ldF t l) i).1=edge at p1 h1 h2;have hk:kept.length<=edge.length:=by rw[p1,aC];omega
  have h4:(ce t l i).take kept.length=sG kept.reverse:=by
   have:(ce t l i).take kept.length=((ce t l i).take edge.length).take kept.length:=by rw[dC,bG hk]
   rw[this,h1,p1,wP];unfold sG;rw[dQ,g9 (by simp)]
  have hl:((ce t l i).take kept.length).length=kept.length:=by rw[aP];omega
  refine⟨?_,?_,?_⟩
  .rw[eU (by simp;omega),bk (by simp;omega),h4,mH,Ng]
  .simp;omega
  .simp;omega
def cst (t:Rt)(l:List Pt)(i:Nat):List PV:=
 [.i64 (cmake (ldF t l) i).2.1,sl dD (mkN l (cmake (ldF t l) i).2.2),.i64 (i:Int),sl I1 (ce t l i),.i64 ((ce t l i).length:Int),.i64 ((cmake (ldF t l) i).1.length:Int),.i64 (i:Int)]
def afT {E:List Int}{n:Nat}{x:Int}(h:n<=E.length)(hE:E.length<=1000):RF.ev (.appK 8 1) [sl I1 E,.v (.int .i64 (n:Int)),sl I1 [x]]=some (sl I1 (E.take n++[x]++E.drop (n+1))):=by
 show(if(0:Int)<=n/\(n:Int)<=((E.map I1).length:Nat)/\((n:Int).toNat+([x].map I1).length)*8<=140737488355328/\ ec 1 ([x].map I1)=true then some (PV.sl ((E.map I1).take (n:Int).toNat++[x].map I1++(E.map I1).drop ((n:Int).toNat+([x].map I1).length))) else none)=_
 rw[ad ⟨by omega,by simp;omega,by simp;omega,rfl⟩];simp
def afU {l:List Pt}{t:Rt}(h:okF l)(ht:aQ t)(hr:rok t=true):Ans D 255 [F l,R t] [TR (cart t l),.i64 0]:=by
 have hl:=h.1;refine an ⟨1001,?_⟩;unfold aak;simp only[ay,bv,bm,cG,EV,ai,phi (afS h ht hr),aA,aJ,aw,ax];have e0:([PV.v (.int .i64 (-1)),.sl [],.v (.int .i64 0),.sl [],.v (.int .i64 0),.v (.int .i64 0),.v (.int .i64 0)]:List PV)=cst t l 0:=by simp[cst,cmake,mkN,ce]
 rw[e0];refine(gj (m:=1001) (n:=l.length) (st:=cst t l) (fin:=some [TR (cart t l),.i64 0]) (λi self hi=>?_) (λself=>?_) (by omega))
 .obtain⟨p,hp⟩:∃p,l[i]?=some p:=⟨l[i],ah _⟩;have I:=iD (fK (t:=t) h.2.2) i (by omega);obtain⟨ce1,ce2,ce3⟩:=TN t l i;unfold cst;have hs:cmake (ldF t l) (i+1)=sY (ldF t l) i (cmake (ldF t l) i):=rfl;have hce:ce t l (i+1)=(ce t l i).take (popAll (ldF t l) i (cmake (ldF t l) i).1 (-1)).1.length++[(i:Int)]++(ce t l i).drop ((popAll (ldF t l) i (cmake (ldF t l) i).1 (-1)).1.length+1):=rfl;rw[hs,hce];generalize cmake (ldF t l) i=s at I ce1 ce2;generalize ce t l i=E at ce1 ce2 ce3;obtain⟨edge,root,lk⟩:=s;obtain⟨desc,mem,_,len,_⟩:=I;simp only at desc mem len ce1 ce2;have helt:∀e∈edge,e<i:=λe he=>((mem e).1 he).1;have hk:∀(k:Nat) (e:Nat),edge.reverse[k]?=some e->E[k]?=some (e:Int):=λk e hk=>by
   have h1:=Nf hk
   grind
  unfold GY;simp only[EV,aa,bi hi,ay,cG,aX hp (cq _),aM hp,gJ];refine(ES h ht hr hp (E:=E) (by omega) edge 1001 (-1) (by omega) hk helt ce2).trans ?_;obtain⟨gone,p1,_,_,_⟩:=oh (ld:=ldF t l) i edge (-1);unfold sY;simp only;generalize popAll (ldF t l) i edge (-1)=pr at p1;obtain⟨kept,y⟩:=pr;simp only at p1;have hkl:kept.length<=E.length:=by rw[p1,aC] at ce2;omega
  have hkl':kept.length<=1000:=by omega
  have hpl:l[lk.length]?=some p:=by rw[len];exact hp
  have u1:=up1 (show i<1000000000 by omega)
  have uk:((kept.length:Int)+((1:Nat):Int))=((kept.length+1:Nat):Int):=by omega
  simp only[EV];unfold Pn;simp only[EV,Int.natCast_pos,cw];have ae:=afT (E:=E) (n:=kept.length) (x:=(i:Int)) hkl (by omega);cases kept with
  |nil=>
   simp only[cL,df,aY,aw,ax,EV,fG];have ap:RF.ev (.app 24 3) [sl dD (mkN l lk),.v (.int .i64 (i:Int)),sl dD [⟨p.id,y,-1⟩]]=some (sl dD (mkN l (lk++[(y,-1)]))):=by
    have:=gn (f:=dD) (l:=mkN l lk) (k:=[⟨p.id,y,-1⟩]) (bytes:=24) (z:=3) (by rw[gq _ _ (by omega)];simp;omega) nN;rw[gq _ _ (by omega),len] at this;rw[this,<-B3 (x:=(y,-1)) hpl]
   simp only[cL,fG] at ae;unfold GX;simp only[ay,gI,Rm,bsN,Lh,ae,ap,bsI,sF,EV,ai,u1,gq _ _ (show(lk++[(y,-1)]).length<=l.length by simp;omega),aC,len,aK,aV,cL,cj]
   rfl
  |cons e es=>
   have hee:E[es.length]?=some (e:Int):=hk es.length e (by
    rw[p1,wP,mH,aG (by simp),bH (by simp)];simp)
   have hei:e<i:=helt e (by rw[p1];simp);obtain⟨q,hq⟩:∃q,l[e]?=some q:=⟨l[e]'(by omega),ah _⟩;obtain⟨x,hx⟩:∃x,lk[e]?=some x:=⟨lk[e]'(by omega),ah _⟩;have hnod:=ky hq hx;have g0:decide (0<(e::es).length)=true:=by simp
   have d1:IntKind.i64.wrap (((es.length+1:Nat):Int)-1)=(es.length:Int):=uU (by simp at hkl';omega);have ap:RF.ev (.app 24 3) [sl dD (mkN l (lk.modify e λx=>(x.1,(i:Int)))),.v (.int .i64 (i:Int)),sl dD [⟨p.id,y,-1⟩]]=some (sl dD (mkN l ((lk.modify e λx=>(x.1,(i:Int)))++[(y,-1)]))):=by
    have:=gn (f:=dD) (l:=mkN l (lk.modify e λx=>(x.1,(i:Int)))) (k:=[⟨p.id,y,-1⟩]) (bytes:=24) (z:=3) (by rw[gq _ _ (by rw[dO];omega),dO];simp;omega) nN;rw[gq _ _ (by rw[dO];omega),dO,len] at this;rw[this,<-B3 (x:=(y,-1)) (by rw[dO];exact hpl)]
   simp only[g0,az,EV,aV,d1,ixM (show es.length<es.length+1 by omega),aM hee,cQ,ixM hei,TM hnod,JN hq hx]
   unfold GX;simp only[aV] at ae uk;simp only[ay,gI,Rm,ae,ap,bsN,Lh,bsI,sF,EV,ai,u1,uk,aV,gq _ _ (show((lk.modify e λx=>(x.1,(i:Int)))++[(y,-1)]).length<=l.length by simp;omega),aC,dO,len,aK,cL,cj]
   rw[ad (aq (by omega))]
 .unfold cst GY;have hlk:(cmake (ldF t l) l.length).2.2.length=l.length:=(iD (fK (t:=t) h.2.2) l.length (by omega)).len;have hs:=cp (f:=dD) (l:=mkN l (cmake (ldF t l) l.length).2.2);rw[gq _ _ (by omega),hlk] at hs;have ag:RF.ev .agg [.i64 (cmake (ldF t l) l.length).2.1,sl dD (mkN l (cmake (ldF t l) l.length).2.2)]=some (TR (cart t l)):=rfl;simp only[EV,aa,bP,Pm,hs,ag]
def nodC (i:Nat)(n:Nod):Bool:=decide (n.left=(i:Int))||decide (n.right=(i:Int))
def tu (l:List Nod)(i:Nat):Int:=((l[i]?).map Nod.id).getD 0
def ro {l:List Nod}{i:Nat}{n:Nod}(h:l[i]?=some n):tu l i=n.id:=by unfold tu;rw[h];rfl
def tv (l:List Nod)(i:Nat):List Crt:=match l.findIdx? (nodC i) with|some k=>[⟨tu l i,tu l k⟩]|none=>[]
def edgsT (l:List Nod)(n:Nat):List Crt:=(List.range n).flatMap (tv l)
def qz (l:List Nod)(n:Nat):edgsT l (n+1)=edgsT l n++tv l n:=by
 unfold edgsT;rw[oz,kN];simp
def jM (l:List Nod):∀n,(edgsT l n).length<=n
 |0=>by simp[edgsT]
 |n+1=>by
  have:=jM l n;rw[qz,aC];unfold tv;split<;>simp<;>omega
def DW (l:List Nod):Prop:=∀(i k k':Nat) (x x':Nod),l[k]?=some x->nodC i x=true->l[k']?=some x'->nodC i x'=true->k=k'
def adl (n:Nod):cF 1 0 (dD n)=some (.i64 n.left):=rfl
def adm (n:Nod):cF 2 0 (dD n)=some (.i64 n.right):=rfl
def TO (n:Nod):cF 0 0 (dD n)=some (.i64 n.id):=rfl
def Rn {l:List Nod}(h:DW l)(i:Nat):(l.filter (nodC i)).map (λn=>(⟨tu l i,n.id⟩:Crt))=tv l i:=by
 rw[ze (λk k' x x' h1 h2 h3 h4=>h i k k' x x' h1 h2 h3 h4)];unfold tv;cases e:l.findIdx? (nodC i) with
 |none=>rfl
 |some k=>
  obtain⟨hk,_,_⟩:=bU.1 e;have:=ah hk;simp only;rw[this,ro this];rfl
def afV {x:Tree}(h:DW x.nodes)(hl:x.nodes.length<=1000):Ans D 144 [TR x] [sl crow (edgsT x.nodes x.nodes.length)]:=by
 refine an ⟨1001,?_⟩;unfold Zq;simp only[ay,vd,EV];have e0:([PV.sl [],.v (.int .i64 0),.v (.int .i64 0)]:List PV)=[sl crow (edgsT x.nodes 0),.i64 ((edgsT x.nodes 0).length:Int),.i64 ((0:Nat):Int)]:=rfl;rw[e0];refine(gj (m:=1001) (n:=x.nodes.length) (st:=λi=>[sl crow (edgsT x.nodes i),.i64 ((edgsT x.nodes i).length:Int),.i64 (i:Int)]) (fin:=some [sl crow (edgsT x.nodes x.nodes.length)]) (λi self hi=>?_) (λself=>?_) (by omega))
 .obtain⟨n,hn⟩:∃n,x.nodes[i]?=some n:=⟨x.nodes[i],ah _⟩;have hel:=jM x.nodes i;unfold F4;simp only[ay,mT,EV,ai,aa,bi hi];have e1:([sl crow (edgsT x.nodes i),PV.i64 ((edgsT x.nodes i).length:Int),.v (.int .i64 0)]:List PV)=[sl crow (edgsT x.nodes i++[]),.i64 ((edgsT x.nodes i++[]).length:Int),.i64 ((0:Nat):Int)]:=by rw[aZ];rfl
  rw[e1];refine(jw (m:=1001) (l:=x.nodes) (g:=λacc m=>if nodC i m=true then acc++[⟨n.id,m.id⟩] else acc) (I:=λk acc=>acc.length<=k) (S:=λacc k=>[sl crow (edgsT x.nodes i++acc),.i64 ((edgsT x.nodes i++acc).length:Int),.i64 (k:Int)]) (fin:=λacc=>self [sl crow (edgsT x.nodes i++acc),.i64 ((edgsT x.nodes i++acc).length:Int),.i64 ((i+1:Nat):Int)]) (x:=[]) (by simp) (λk a acc _ h=>by
   split
   .rw[aC,aK];omega
   .omega) (λk m acc self' hm hI=>?_) (λacc self' hI=>?_) (by omega)).1.trans ?_
  .have hk:=aL hm;have fin:∀(e14 e15 e16 e17:PV) (b:Bool),b=nodC i m->den (bL D) 1001 F1
     [oZ (bL D) 1001 AM [] [TR x,TR x],self,oZ (bL D) 1001 FZ [oZ (bL D) 1001 AM [] [TR x,TR x],self] [TR x,TR x,sl crow (edgsT x.nodes i),.i64 ((edgsT x.nodes i).length:Int),.i64 (i:Int),sl dD x.nodes,.v (.int .i64 (x.nodes.length:Int)),.v (.bool (decide ((i:Int)<(x.nodes.length:Int))))],self']
     [TR x,TR x,sl crow (edgsT x.nodes i),.i64 ((edgsT x.nodes i).length:Int),.i64 (i:Int),sl dD x.nodes,.v (.int .i64 (x.nodes.length:Int)),.v (.bool (decide ((i:Int)<(x.nodes.length:Int)))),sl crow (edgsT x.nodes i++acc),.i64 ((edgsT x.nodes i++acc).length:Int),.i64 (k:Int),sl dD x.nodes,.v (.int .i64 (x.nodes.length:Int)),.v (.bool (decide ((k:Int)<(x.nodes.length:Int)))),e14,e15,e16,e17,.v (.bool b)]=
     self' [sl crow (edgsT x.nodes i++if nodC i m=true then acc++[⟨n.id,m.id⟩] else acc),.i64 ((edgsT x.nodes i++if nodC i m=true then acc++[⟨n.id,m.id⟩] else acc).length:Int),.i64 ((k+1:Nat):Int)]:=λe14 e15 e16 e17 b hb=>by
    subst hb;unfold F1;simp only[EV];cases nodC i m with
    |true=>
     have ap:=gn (f:=crow) (l:=edgsT x.nodes i++acc) (k:=[⟨n.id,m.id⟩]) (bytes:=16) (z:=2) (by rw[aC];simp;omega) iY;rw[bc] at ap;simp only[az,ay,mT,aX hn (nN _),aM hn,aX hm (nN _),aM hm,TO,vq,bsC,qx,ap,EV,ai,F0,up1 (show k<1000000000 by omega)]
    |false=>
     simp only[aw,ax,EV,F0,up1 (show k<1000000000 by omega)]
   unfold F3;simp only[ay,mT,aX hm (nN _),aM hm,adl,adm,EV,ai,aa,bi hk];by_cases c1:m.left=(i:Int)
   .rw[ad c1];exact fin _ _ _ _ true (by unfold nodC;rw[aq c1];rfl)
   .rw[ac c1];exact fin _ _ _ _ _ (by unfold nodC;rw[ak c1,mR])
  .unfold F3;simp only[ay,mT,EV,ai,aa,bP,FZ,up1 (show i<1000000000 by omega)]
  .rw[qz];have:x.nodes.foldl (λacc m=>if nodC i m=true then acc++[(⟨n.id,m.id⟩:Crt)] else acc) []=tv x.nodes i:=by
    rw[<-Rn h i,ro hn];have:∀(l:List Nod) (acc:List Crt),l.foldl (λacc m=>if nodC i m=true then acc++[(⟨n.id,m.id⟩:Crt)] else acc) acc=acc++(l.filter (nodC i)).map (λm=>⟨n.id,m.id⟩):=by
     intro l;induction l with
     |nil=>simp
     |cons a l ih=>
      intro acc;rw[c6,ih,cT];cases nodC i a<;>simp
    rw[this,aO]
   rw[this]
 .unfold F4;simp only[ay,mT,EV,ai,aa,bP,AM,cp]
def C4 (x:Int×Int):∀(l:List (Int×Int)) (j:Nat) (u:List Int),upArr (l++[x]) j u=upArr [x] (j+l.length) (upArr l j u)
 |[],j,u=>rfl
 |y::l,j,u=>by
  show upArr (l++[x]) (j+1) _=_
  rw[C4 x l];show _=upArr [x] (j+(l.length+1)) (upArr l (j+1) _)
  rw[show j+1+l.length=j+(l.length+1) by omega]
def Ro (i n:Nat)(h:i<n):(List.replicate i (-1:Int)++List.replicate (n-i) 0).set i (-1)=List.replicate (i+1) (-1)++List.replicate (n-(i+1)) 0:=by
 refine cU λk=>?_
 grind
def jV {l:List Pt}{t:Rt}(h:okF l){k:Nat}{x:Int×Int}(hx:(cmake (ldF t l) l.length).2.2[k]?=some x):∃n,(cart t l).nodes[k]?=some n/\ n.left=x.1/\ n.right=x.2/\∃p,l[k]?=some p/\ n.id=p.id:=by
 have hlen:=(iD (fK (t:=t) h.2.2) l.length (by omega)).len;obtain⟨p,hp⟩:∃p,l[k]?=some p:=⟨l[k]'(by have:=aL hx;omega),ah _⟩;exact⟨_,ky hp hx,rfl,rfl,p,hp,rfl⟩
def pF {n:Nod}{x:Int×Int}(h1:n.left=x.1)(h2:n.right=x.2)(i:Nat):nodC i n=decide (m9 x i):=by
 unfold nodC;rw[h1,h2,eu];simp;exact Iff.rfl
def Nh {l:List Pt}{t:Rt}(h:okF l)(i:Nat):(cmake (ldF t l) l.length).2.2.findIdx? (λx=>decide (m9 x i))=(cart t l).nodes.findIdx? (nodC i):=by
 have hlen:(cmake (ldF t l) l.length).2.2.length=l.length:=(iD (fK (t:=t) h.2.2) l.length (by omega)).len;have hnl:(cart t l).nodes.length=l.length:=by unfold cart;rw[gq _ _ (by omega)];exact hlen
 cases e:(cart t l).nodes.findIdx? (nodC i) with
 |none=>
  rw[iA] at e|-;intro x hx;obtain⟨k,hk⟩:=aI.1 hx;obtain⟨n,a1,a2,a3,_⟩:=jV h hk;rw[<-pF a2 a3]
  grind
 |some k=>
  rw[bU] at e|-;obtain⟨e1,e2,e3⟩:=e;have hk:=ah (show k<(cmake (ldF t l) l.length).2.2.length by omega)
  refine⟨by omega,?_,λj hj=>?_⟩
  .obtain⟨n,a1,a2,a3,_⟩:=jV h hk;rw[<-pF a2 a3]
   grind
  .have hj':=ah (show j<(cmake (ldF t l) l.length).2.2.length by omega)
   obtain⟨n,a1,a2,a3,_⟩:=jV h hj';rw[<-pF a2 a3];rw[ah (by omega)] at a1;have a1:=k9 a1;rw[<-a1];exact e3 j hj
def ET {l:List Pt}{t:Rt}(h:okF l)(ht:aQ t)(hr:rok t=true)(hone:DW (cart t l).nodes)(hlk:∀x∈(cmake (ldF t l) l.length).2.2,x.1<l.length/\ x.2<l.length):Ans D 162 [F l,R t] [TR (cart t l),sl crow (edgsT (cart t l).nodes l.length)]:=by
 have hl:=h.1;have hlen:(cmake (ldF t l) l.length).2.2.length=l.length:=(iD (fK (t:=t) h.2.2) l.length (by omega)).len;have hnl:(cart t l).nodes.length=l.length:=by unfold cart;rw[gq _ _ (by omega)];exact hlen
 refine an ⟨1001,?_⟩;unfold ZG;have rp:=BZ (n:=(cart t l).nodes.length) (by omega);simp only[ay,bv,bm,phi (afU h ht hr),vd,mT,EV,ai,rp,aR];have e0:([sl I1 (List.replicate (cart t l).nodes.length 0),.v (.int .i64 0)]:List PV)=[sl I1 (List.replicate 0 (-1)++List.replicate ((cart t l).nodes.length-0) 0),.i64 ((0:Nat):Int)]:=rfl;rw[e0];refine gj (m:=1001) (n:=(cart t l).nodes.length) (st:=λi=>[sl I1 (List.replicate i (-1)++List.replicate ((cart t l).nodes.length-i) 0),.i64 (i:Int)]) (λi self hi=>?_) (λself=>?_) (by omega)
 .unfold Cd;simp only[EV,aa,bi hi,ixM hi,iI (l:=List.replicate i (-1)++List.replicate ((cart t l).nodes.length-i) 0) (i:=i) (by simp;omega),Ro i _ hi,up1 (show i<1000000000 by omega)]
 unfold Cd;simp only[EV,aa,bP,OK,ay,mT,ai,iQ,List.replicate_zero,aZ];generalize hLK:(cmake (ldF t l) l.length).2.2=lk at*;have e1:([sl I1 (List.replicate (cart t l).nodes.length (-1)),.v (.int .i64 0)]:List PV)=[sl I1 (upArr (lk.take 0) 0 (List.replicate (cart t l).nodes.length (-1))),.i64 ((0:Nat):Int)]:=rfl;rw[e1];refine gj (m:=1001) (n:=(cart t l).nodes.length) (st:=λi=>[sl I1 (upArr (lk.take i) 0 (List.replicate (cart t l).nodes.length (-1))),.i64 (i:Int)]) (λi self hi=>?_) (λself=>?_) (by omega)
 .obtain⟨x,hx⟩:∃x,lk[i]?=some x:=⟨lk[i]'(by omega),ah _⟩;obtain⟨nd,a1,a2,a3,_⟩:=jV (t:=t) h (by rw[hLK];exact hx);obtain⟨b1,b2⟩:=hlk x (au hx);have hnext:upArr (lk.take (i+1)) 0 (List.replicate (cart t l).nodes.length (-1))=upArr [x] i (upArr (lk.take i) 0 (List.replicate (cart t l).nodes.length (-1))):=by
   rw[cC,hx];show upArr (lk.take i++[x]) 0 _=_
   rw[C4,aP,cj,bG (by omega)]
  have hul:(upArr (lk.take i) 0 (List.replicate (cart t l).nodes.length (-1))).length=(cart t l).nodes.length:=by rw[DF];simp
  rw[hnext];generalize upArr (lk.take i) 0 (List.replicate (cart t l).nodes.length (-1))=u at hul;have pN:RF.ev (.part 1 2) [NP nd]=some (.agg [.i64 x.1,.i64 x.2]):=by rw[<-a2,<-a3];rfl
  unfold Gj;simp only[EV,aa,bi hi,ay,mT,aX a1 (nN _),aM a1,EG,pN]
  let us:Nat->List Int:=λj=>match j with|0=>u|1=>(if 0<=x.1 then u.set x.1.toNat i else u)|_=>(if 0<=x.2 then(if 0<=x.1 then u.set x.1.toNat i else u).set x.2.toNat i else(if 0<=x.1 then u.set x.1.toNat i else u))
  have hus:∀j,(us j).length=(cart t l).nodes.length:=λj=>by
   match j with
   |0=>exact hul
   |1=>simp only[us];split<;>simp[hul]
   |j+2=>simp only[us];repeat' split
         all_goals simp[hul]
  refine(gj (m:=1001) (n:=2) (st:=λj=>[sl I1 (us j),.i64 (j:Int)]) (fin:=self [sl I1 (us 2),.i64 ((i+1:Nat):Int)]) (λj self' hj=>?_) (λself'=>?_) (by omega)).trans rfl
  .obtain⟨c,hc,haix,hu⟩:∃c:Int,c<l.length/\ RF.ev (.aix 1 2 0) [.agg [.i64 x.1,.i64 x.2],.i64 (j:Int)]=some (.i64 c)/\ us (j+1)=(if 0<=c then(us j).set c.toNat i else us j):=by
    match j,hj with
    |0,_=>exact⟨x.1,b1,rfl,rfl⟩
    |1,_=>exact⟨x.2,b2,rfl,rfl⟩
   unfold Gi;have l2:decide ((j:Int)<2)=true:=aq (by omega);simp only[EV,l2,da,az,haix,aa,bB];rw[hu];by_cases c0:0<=c
   .obtain⟨m,rfl⟩:=ti c0;rw[ad c0,ad c0,aF];simp only[EV,ixM (show m<(cart t l).nodes.length by omega),iI (l:=us j) (i:=m) (by rw[hus];omega),Gh,up1 (show j<1000000000 by omega)]
   .rw[ac c0,ac c0];simp only[EV,Gh,up1 (show j<1000000000 by omega)]
  .unfold Gi;simp only[EV,show decide (((2:Nat):Int)<2)=false from rfl,aw,ax,OJ,up1 (show i<1000000000 by omega)]
 unfold Gj;simp only[EV,aa,bP,OI,ay,mT,ai];rw[bk (by omega)];have hU:∀i,i<(cart t l).nodes.length->(upArr lk 0 (List.replicate (cart t l).nodes.length (-1)))[i]?=match(cart t l).nodes.findIdx? (nodC i) with|some k=>some ((k:Nat):Int)|none=>some (-1):=λi hi=>by
  rw[DG lk 0 _ i (by simpa using hi) ?_,<-hLK,Nh h i]
  .cases(cart t l).nodes.findIdx? (nodC i) with
   |none=>simp only;rw[eC,ad hi]
   |some k=>simp only[cj]
  .intro k x hk hc k' x' hk' hc';rw[<-hLK] at hk hk';obtain⟨n,a1,a2,a3,_⟩:=jV h hk;obtain⟨n',b1,b2,b3,_⟩:=jV h hk';exact hone i k k' n n' a1 (by rw[pF a2 a3];exact aq hc) b1 (by rw[pF b2 b3];exact aq hc')
 generalize upArr lk 0 (List.replicate (cart t l).nodes.length (-1))=U at hU;have e2:([PV.sl [],.v (.int .i64 0),.v (.int .i64 0)]:List PV)=[sl crow (edgsT (cart t l).nodes 0),.i64 ((edgsT (cart t l).nodes 0).length:Int),.i64 ((0:Nat):Int)]:=rfl;rw[e2];refine gj (m:=1001) (n:=(cart t l).nodes.length) (st:=λi=>[sl crow (edgsT (cart t l).nodes i),.i64 ((edgsT (cart t l).nodes i).length:Int),.i64 (i:Int)]) (λi self hi=>?_) (λself=>?_) (by omega)
 .obtain⟨n,hn⟩:∃n,(cart t l).nodes[i]?=some n:=⟨(cart t l).nodes[i],ah _⟩;have hel:=jM (cart t l).nodes i;have hu:=hU i hi;rw[qz];unfold tv;unfold Gg;cases e:(cart t l).nodes.findIdx? (nodC i) with
  |none=>
   rw[e] at hu;simp only[aZ];simp only[EV,aa,bi hi,ay,mT,aX hn (nN _),aM hn,EG,ixM hi,aM hu,cQ,bB,Int.reduceNeg,Int.reduceLE,ax,Gf,up1 (show i<1000000000 by omega)]
  |some k=>
   rw[e] at hu;obtain⟨hk,_,_⟩:=bU.1 e;have hm:=ah hk;have c0:((0:Int)<=(k:Nat)):=by omega
   have cN:RF.ev (.cell 0) [NP n]=some (.i64 n.id):=rfl;have ap:=gn (f:=crow) (l:=edgsT (cart t l).nodes i) (k:=[⟨n.id,(cart t l).nodes[k].id⟩]) (bytes:=16) (z:=2) (by simp;omega) iY;simp only[EV,aa,bi hi,ay,mT,aX hn (nN _),aM hn,EG,ixM hi,aM hu,cQ,bB,ad c0,aX hm (nN _),aM hm,TO,cN,vq,bsC,qx,ap,ai,Gf,up1 (show i<1000000000 by omega),ro hn,ro hm]
 .unfold Gg;simp only[EV,aa,bP,OH,ay,cp,hnl]
end Go.Proofs.YtoeigdpfcnaaeaaGreat
