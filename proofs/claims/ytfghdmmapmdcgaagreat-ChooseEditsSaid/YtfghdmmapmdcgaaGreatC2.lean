import Derived.Test.YtfghdmmapmdcgaaGreatC1
import Derived.Test.YtfghdmmapmdcgaaGreatP1
set_option linter.unusedVariables false
set_option linter.unusedSimpArgs false
set_option linter.defProp false
noncomputable section
namespace Go.Proofs.YtfghdmmapmdcgaaGreat
open Go.Sym Bnd
set_option maxRecDepth 100000
def inF (l:List Pt)(id:Int):Bool:=decide (0<=pos l id)
def iJ {l:List Pt}(h:okF l){id:Int}(hi:inF l id=true):∃(i:Nat) (p:Pt),l[i]?=some p/\ p.id=id/\ pos l id=(i:Nat)/\ ptOf l id=p:=by
 have hi:=ba hi;rcases pos_cases l id with⟨e,_⟩|⟨i,p,h1,h2,h3⟩
 .omega
 .exact⟨i,p,h1,h2,h3,by rw[<-h2];exact nF h h1⟩
def Kj {l:List Pt}{id:Int}(hi:inF l id=false):∀p∈l,p.id≠id:=by
 have hi:=of_decide_eq_false hi;rcases pos_cases l id with⟨_,h⟩|⟨i,p,h1,h2,h3⟩
 .exact h
 .omega
def cT (l:List Pt)(h:Held):Bool:=inF l h.cert.low&& inF l h.cert.high
def af3 {c:Certs}{l:List Pt}(hl:l.length<=1000)(hc:c.list.length<=1000):Ans D 259 [CS c,F l] [.bool (c.list.all (cT l))]:=by
 refine an ⟨1001,?_⟩;unfold aaF;simp[iI,aO,EV];refine(cw (l:=c.list) (p:=cT l) (st:=λi=>[.i64 (i:Int)]) (r:=some [.bool false]) (fin:=some [.bool true]) (λi h self hh _=>?_) (λ_ self=>?_) (by omega)).trans ?_
 .unfold Hj cT inF;simp[fm,aS hh (fi _),aJ hh,adM,adN,phi (me hl _),EV,up1 (show i<1000000000 by have:=aN hh;omega)]
  grind
 .unfold Hj;simp only[ax,fm,EV,ai,aa,bK,PA]
 .grind
def adP {o:Option Nat}:o.elim (some [PV.bool false]) (λ_=>some [.bool true])=some [.bool o.isSome]:=by cases o<;>rfl
def Lt {c:Certs}{x:Crt}(hc:c.list.length<=1000):Ans D 263 [CS c,CP x] [.bool (c.list.any λh=>decide (h.cert=x))]:=by
 refine an ⟨1001,?_⟩;unfold aaI;simp[iI,jA,EV];refine(jy (l:=c.list) (p:=λh=>decide (h.cert=x)) (st:=λi=>[.i64 (i:Int)]) (ret:=λ_=>some [.bool true]) (fin:=some [.bool false]) (λi h self hh=>?_) (λself=>?_) (by omega)).trans (adP.trans ?_)
 .unfold Ho;simp only[fm,aS hh (fi _),aJ hh,Ef,xm,EV,ai,aa,bi (aN hh),up1 (show i<1000000000 by have:=aN hh;omega)]
 .unfold Ho;simp[fm,EV,PE]
 .grind
def af4 {x:Crt}{l:List Pt}{t:Rt}(h:okF l)(ht:aX t)(h1:inF l x.low=true)(h2:inF l x.high=true):Ans D 264 [CP x,F l,R t] [.bool (leads t (ptOf l x.high) (ptOf l x.low))]:=by
 obtain⟨i,p,a1,a2,a3,a4⟩:=iJ h h1;obtain⟨j,q,b1,b2,b3,b4⟩:=iJ h h2;have q1:=phi (me (l:=l) (by have:=h.1;omega) x.low);have q2:=phi (me (l:=l) (by have:=h.1;omega) x.high);rw[a3] at q1;rw[b3] at q2;refine am ?_;unfold aaJ;simp[jA,aO,bU,nY,nZ,b8,q1,q2,aS a1 (bY _),aJ a1,aS b1 (bY _),aJ b1,gr,EV,phi (Cq (eQ h b1) (eQ h a1) ht),a4,b4]
def Lu {x:Crt}{l:List Pt}{t:Rt}(h:okF l)(ht:aX t)(h1:inF l x.low=true)(h2:inF l x.high=true):Ans D 261 [F l,CP x,R t] [R (ef t (ptOf l x.high) (ptOf l x.low)).1,.bool (ef t (ptOf l x.high) (ptOf l x.low)).2]:=by
 obtain⟨i,p,a1,a2,a3,a4⟩:=iJ h h1;obtain⟨j,q,b1,b2,b3,b4⟩:=iJ h h2;have q1:=phi (me (l:=l) (by have:=h.1;omega) x.low);have q2:=phi (me (l:=l) (by have:=h.1;omega) x.high);rw[a3] at q1;rw[b3] at q2;refine am ?_;unfold aaH;simp[jA,aO,bU,nY,nZ,b8,q1,q2,aS a1 (bY _),aJ a1,aS b1 (bY _),aJ b1,gr,Li,EV,phi (afN (eQ h b1) (eQ h a1) ht),a4,b4]
def Lv {x:Crt}{l:List Pt}{t:Rt}(h:okF l)(ht:aX t):Ans D 246 [F l,CP x,R t] (if kO (ptOf l x.high) (ptOf l x.low) t=0 then [R (ef t (ptOf l x.high) (ptOf l x.low)).1,.bool (ef t (ptOf l x.high) (ptOf l x.low)).2,.i64 0] else [R ⟨0,0⟩,.bool false,.i64 (kO (ptOf l x.high) (ptOf l x.low) t)]):=by
 refine am ?_;unfold aaz;by_cases hz:kO (ptOf l x.high) (ptOf l x.low) t=0
 .have:=phi (Xs (p:=ptOf l x.high) (q:=ptOf l x.low) ht);rw[ad hz] at this|-;simp[jA,aO,bU,nY,nZ,Li,EV,phi (zT h _),this]
 .have:=phi (Xs (p:=ptOf l x.high) (q:=ptOf l x.low) ht);rw[ac hz] at this|-;simp[jA,aO,bU,nY,nZ,Li,EV,phi (zT h _),this]
def XG:RF.ev .agg [.i64 0,.i64 0,.i64 0,.i64 0,.i64 0]=some (EP ⟨⟨0,0⟩,0,⟨0,0⟩⟩):=rfl
def adQ (e:Evt):RF.ev .flat [EP e]=some (EP e):=rfl
def af5 (e:Evt):RF.ev (.shape 5) [EP e]=some (EP e):=rfl
def adR (e:Evt):RF.ev (.part 0 5) [EP e]=some (EP e):=rfl
def Fb {a:Agenda}(h:dX a){x:Hnd}(hl:gO a.slots x):∃(i:Nat) (w:Int) (n:Nat) (e:Evt),x.index=i/\ a.wher[i]?=some w/\ w=(n:Int)/\ a.heap[n]?=some e/\ e.hnd=x:=by
 obtain⟨l1,l2,l3⟩:=hl;obtain⟨i,hi⟩:=rF l1;rw[hi,aG] at l2 l3;obtain⟨w,hw⟩:∃w,a.wher[i]?=some w:=⟨a.wher[i]'(by have:=aN l3;have:=h.2.1.1;omega),ah _⟩;have:=h.2.1.2.2 i true w x.use l2 hw l3;rw[ad rfl] at this;obtain⟨w0,e,he,hx⟩:=this;obtain⟨n,hn⟩:=rF w0;rw[hn,aG] at he;exact⟨i,w,n,e,hi,hw,hn,he,by rw[hx,<-hi]⟩
open Classical in
def af6 {a:Agenda}(h:dX a)(hl:a.heap.length<=1000)(hf:a.slots.free.length<=1000)(h64:∀e∈a.heap,aX e.time)(x:Hnd):(¬gO a.slots x->Ans D 262 [AG a,HD x] [EP ⟨⟨0,0⟩,0,⟨0,0⟩⟩,.i64 6])/\∀(i n:Nat) (e:Evt),x.index=i->a.wher[i]?=some (n:Int)->a.heap[n]?=some e->gO a.slots x->Ans D 262 [AG a,HD x] [EP e,.i64 0]:=by
 have hc:=phi (RL hl hf h64);rw[au h] at hc;have e0:okE true=0:=rfl;rw[e0] at hc;constructor
 .intro hn;refine am ?_;unfold SH;simp[ga,lz,pAG,XG,EV,hc,phi (RK h.1.2.2.1 x),aj hn]
 .intro i n e hi hw he hl;refine am ?_;unfold SH;simp[ga,lz,pAG,XG,adQ,adR,af5,EV,hc,phi (RK h.1.2.2.1 x),au hl,d7,gt,m9,hi,aS hw (bS _),aJ hw,bZ,aS he (kb _),aJ he,eU]
def pT (a:Agenda)(d:Due)(number:Int)(t:Rt):Prop:=d.number=number/\ gO a.slots d.hnd/\∀(i n:Nat) (e:Evt),d.hnd.index=i->a.wher[i]?=some (n:Int)->a.heap[n]?=some e->e.number=number/\ e.time=t
open Classical in
def d8 (c:Clock)(left:List Due)(h:Held):Option (List Due):=
 if cT c.pts h=true then
  (if(ef c.now (ptOf c.pts h.cert.high) (ptOf c.pts h.cert.low)).2=true then
   (match left with
    |[]=>none
    |d::rest=>if pT c.agenda d h.number (ef c.now (ptOf c.pts h.cert.high) (ptOf c.pts h.cert.low)).1 then some rest else none)
  else some left)
 else none
def bx (c:Clock):Prop:=rok c.now=true/\ okF c.pts/\ dk c.certs/\ dX c.agenda/\ c.agenda.wher.length=200/\ c.agenda.heap.length=c.due.length/\ foldO (d8 c) c.due c.certs.list=some []
def ij (c:Clock):Prop:=aX c.now/\∀e∈c.agenda.heap,aX e.time
def AF {c:Clock}:∀{l:List Held} {left out:List Due},foldO (d8 c) left l=some out->l.all (cT c.pts)=true
 |[],_,_,_=>rfl
 |h::l,left,out,hh=>by
  unfold foldO d8 at hh;rw[dt];by_cases hk:cT c.pts h=true
  .rw[hk,gm];split at hh
   .exact AF hh
   .cases hh
  .rw[ac hk] at hh;cases hh
def RQ {α:Type}{l rest:List α}{k:Nat}{d:α}(h:l.drop k=d::rest):l.drop (k+1)=rest:=(gI h).2
def rG (h:Held):RF.ev (.cell 1) [HP h]=some (.i64 h.cert.low):=rfl
def rH (h:Held):RF.ev (.cell 2) [HP h]=some (.i64 h.cert.high):=rfl
def Lw (d:Due):cF 0 0 (cE d)=some (.i64 d.number):=rfl
def sL (d:Due):cF 1 2 (cE d)=some (HD d.hnd):=rfl
open Classical in
def Lx {c:Clock}(h64:ij c)(hg:gCl c=false):Ans D 167 [CL c] [.i64 (okE (decide (bx c)))]:=by
 unfold gCl gAg gSl at hg;simp only[eN,ak] at hg;have no:∀h:¬bx c,(some [PV.v (.int .i64 8)]:Option (List PV))=some [.i64 (okE (decide (bx c)))]:=λh=>by rw[aj h];rfl
 refine an ⟨1001,?_⟩;unfold ZH;simp only[ax,db,fq,mf,mh,mi,jB,jU,cU,EV,ai,phi (Rv h64.1),phi (Lk _),phi (RP _),phi (RL (a:=c.agenda) (by omega) (by omega) h64.2),jb,aF,ak,aa];by_cases h1:rok c.now=true
 .rw[ad h1];by_cases h2:eO c.pts=0
  .have h2':=eu.1 h2;rw[ac (by simp[h2])];by_cases h3:dk c.certs
   .rw[ad h3];simp only[ax,mi,jB,jU,cU,EV,ai,phi (af3 (c:=c.certs) (l:=c.pts) (by have:=h2'.1;omega) (by omega)),phi (RL (a:=c.agenda) (by omega) (by omega) h64.2),jb,aF,ak,aa];by_cases h4:c.certs.list.all (cT c.pts)=true
    .rw[ac (by simp[h4])];by_cases h5:dX c.agenda
     .rw[ad h5];by_cases h6:c.agenda.wher.length=200
      .rw[ac (by omega)];by_cases h7:c.agenda.heap.length=c.due.length
       .rw[ac (by omega)];have e0:([PV.v (.int .i64 0),.v (.int .i64 0)]:List PV)=[.i64 ((c.due.length-c.due.length:Nat):Int),.i64 ((0:Nat):Int)]:=by rw[fL];rfl
        rw[e0];refine(vt (m:=1001) (l:=c.certs.list) (b:=Be) (g:=d8 c) (I:=λleft=>left=c.due.drop (c.due.length-left.length)/\ left.length<=c.due.length) (S:=λleft i=>[.i64 ((c.due.length-left.length:Nat):Int),.i64 (i:Int)]) (r:=some [.i64 8]) (fin:=λleft=>some [.i64 (if left=[] then 0 else 8)]) (x:=c.due) (by simp) (λh left out hI hg=>?_) (λi h left self hh hI=>?_) (λleft self hI hm=>?_) (by omega)).trans ?_
        .unfold d8 at hg;split at hg
         .split at hg
          .cases left with
           |nil=>cases hg
           |cons d rest=>
            simp only at hg;split at hg
            .cases hg;obtain⟨e1,e2⟩:=hI;simp only[bA] at e1 e2;refine⟨?_,by omega⟩;rw[show c.due.length-out.length=c.due.length-(out.length+1)+1 by omega]
             exact(RQ e1.symm).symm
            .cases hg
          .cases hg;exact hI
         .cases hg
        .obtain⟨hI1,hI2⟩:=hI;have hk:cT c.pts h=true:=aV.1 h4 h (ay hh);have hk':=hk;unfold cT at hk';simp only[aM] at hk';unfold Be d8;rw[ad hk];generalize hF:ef c.now (ptOf c.pts h.cert.high) (ptOf c.pts h.cert.low)=FT;have hw:=phi (Lu (x:=h.cert) (t:=c.now) h2' h64.1 hk'.1 hk'.2);rw[hF] at hw;simp only[ax,fu,cU,fq,mf,mi,aS hh (fi _),aJ hh,iS,pHP,ii,bU,hw,EV,ai,aa,bi (aN hh),bk,aF];cases hF2:FT.2 with
         |false=>
          simp only[cQ,aA,aq,aw];simp only[ax,ii,rG,rH,nV,nW,EV,Ge,up1 (show i<1000000000 by have:=aN hh;omega)]
         |true=>
          simp only[qq,aw,aA];cases left with
          |nil=>rw[ad (by simp)]
          |cons d rest=>
           simp only[bA] at hI1 hI2|-;have hd:c.due[c.due.length-(rest.length+1)]?=some d:=by
            have:=bj (λl=>l[0]?) hI1;simp only[ja,eE,pd] at this;exact this.symm
           rw[ac (by omega)];simp only[ax,cU,mi,aS hd (iT _),aJ hd,Lw,sL,ii,EV,aF,ak];by_cases n1:d.number=h.number
           .rw[ac (by simp[n1])];obtain⟨q1,q2⟩:=af6 h5 (by omega) (by omega) h64.2 d.hnd;by_cases n2:gO c.agenda.slots d.hnd
            .obtain⟨ix,w,n,e,x1,x2,x3,x4,x5⟩:=Fb h5 n2;subst x3;have hD:pT c.agenda d h.number FT.1↔(e.number=h.number/\ e.time=FT.1):=
              ⟨λy=>y.2.2 ix n e x1 x2 x4,λy=>⟨n1,n2,λi' n' e' y1 y2 y3=>by
               rw[x1] at y1;have:ix=i':=by omega
               subst this;rw[x2] at y2;have:n=n':=by
                have:(n:Int)=n':=by simpa using y2
                omega
               subst this;rw[x4] at y3;cases y3;exact y⟩⟩
             simp only[ax,ly,vu,pEP,ii,rG,rH,nV,nW,RI,phi (q2 ix n e x1 x2 x4 n2),EV,az,aE,aq,aw,aF,ak];by_cases n3:e.number=h.number
             .rw[ac (by simp[n3])];by_cases n4:e.time=FT.1
              .rw[ac (by simp[n4]),ad (hD.2 ⟨n3,n4⟩)];simp only[Ge,EV,up1 (show i<1000000000 by have:=aN hh;omega),up1 (show c.due.length-(rest.length+1)<1000000000 by omega)]
               rw[show c.due.length-(rest.length+1)+1=c.due.length-rest.length by omega]
              .rw[ad n4,ac (λy=>n4 (hD.1 y).2)]
             .rw[ad n3,ac (λy=>n3 (hD.1 y).1)]
            .simp only[ax,ly,phi (q1 n2),EV,Int.reduceEq,fI,aA,bw,bI];rw[ac (λy=>n2 y.2.1)]
           .rw[ad n1,ac (λy=>n1 y.1)]
        .unfold Be;simp only[ax,fu,cU,EV,ai,aa,bK,OF,aF,ak];cases left with
         |nil=>rw[ac (by simp),ad rfl]
         |cons d rest=>
          rw[ad (by have:=hI.2;simp only[bA] at this|-;omega),ac (by simp)]
        .cases hm:foldO (d8 c) c.due c.certs.list with
         |none=>exact no (λh=>by rw[h.2.2.2.2.2.2] at hm;cases hm)
         |some left=>
          cases left with
          |nil=>rw[au (show bx c from⟨h1,h2',h3,h5,h6,h7,hm⟩)];rfl
          |cons d rest=>exact no (λh=>by rw[h.2.2.2.2.2.2] at hm;cases hm)
       .rw[ad (by omega)];exact no (λh=>h7 h.2.2.2.2.2.1)
      .rw[ad (by omega)];exact no (λh=>h6 h.2.2.2.2.1)
     .rw[ac h5];exact no (λh=>h5 h.2.2.2.1)
    .rw[ad (by simpa using h4)]
     exact no (λh=>h4 (AF h.2.2.2.2.2.2))
   .rw[ac h3];exact no (λh=>h3 h.2.2.1)
  .rw[ad h2];exact no (λh=>h2 (eu.2 h.2.1))
 .rw[ac h1];exact no (λh=>h1 h.1)
section
variable {α:Type}[DecidableEq α]{ks:List Ck}{kc:α->List PV}
def tr (hl:∀a,(kc a).length=ks.length)(he:∀a b,eqL ks (kc a) (kc b)=some (decide (a=b)))(v:PV)(k:α):∀seen:List α,dL ks (kc k) (seen.map λa=>kc a++[v])=some (if k∈seen then some [v] else none)
 |[]=>by simp[dL,he]
 |a::l=>by
  simp only[bN,dL];rw[cI (hl a),he,ia (hl a)];by_cases e:a=k
  .subst e;simp
  .rw[aj e];simp only;rw[tr hl he v k l]
   congr 1
   have:(k∈a::l)↔k∈l:=by simp[show k≠a fromλh=>e h.symm]
   simp[this]
def vz (hl:∀a,(kc a).length=ks.length)(he:∀a b,eqL ks (kc a) (kc b)=some (decide (a=b)))(v:PV)(k:α):∀seen:List α,k∉seen->jl ks (kc k) [v] (seen.map λa=>kc a++[v])=some ((seen++[k]).map λa=>kc a++[v])
 |[],_=>by simp[jl,he]
 |a::l,h=>by
  simp only[bN,bf,jl];rw[cI (hl a),he,aj (λe=>h (by simp[e]))];simp only;rw[vz hl he v k l (λe=>h (by simp[e]))]
end
abbrev T1:PV:= .bool true
def Nm (seen:List Int):PV:= .sl (seen.map λn=>[.i64 n]++[T1])
def Cm (seen:List Crt):PV:= .sl (seen.map λc=>bT c++[T1])
def eqN (a b:Int):eqL [.i] [.i64 a] [.i64 b]=some (decide (a=b)):=by
 simp[eqL,eqC]
def XH (a b:Crt):eqL [.i,.i] (bT a) (bT b)=some (decide (a=b)):=by
 have h:=xm a b;injection h with h
 injection h with h
 injection h with h
 rw[<-h];rfl
def af7 (seen:List Int)(k:Int):RF.ev (.mget [.i] [.v (.bool false)]) [Nm seen,.v (.int .i64 k)]=some (.bool (decide (k∈seen))):=by
 have h:=tr (ks:=[.i]) (kc:=λn:Int=>[.i64 n]) (λ_=>rfl) eqN T1 k seen;unfold Nm;simp only[RF.ev,show(PV.v (.int .i64 k)).cells=[.i64 k] from rfl,h]
 by_cases e:k∈seen
 .simp[e];rfl
 .simp[e];rfl
def af8 (seen:List Int){k:Int}(h:k∉seen):RF.ev (.mset [.i] 1) [Nm seen,.v (.int .i64 k),.v (.bool true)]=some (Nm (seen++[k])):=by
 have h:=vz (ks:=[.i]) (kc:=λn:Int=>[.i64 n]) (λ_=>rfl) eqN T1 k seen h;unfold Nm;simp only[RF.ev,show(PV.v (.int .i64 k)).cells=[.i64 k] from rfl,show(PV.v (.bool true)).cells=[T1] from rfl,h]
 rfl
def adS (seen:List Crt)(k:Crt):RF.ev (.mget [.i,.i] [.v (.bool false)]) [Cm seen,CP k]=some (.bool (decide (k∈seen))):=by
 have h:=tr (ks:=[.i,.i]) (kc:=bT) (λ_=>rfl) XH T1 k seen;unfold Cm;simp[RF.ev,show(CP k).cells=bT k from rfl,h]
 by_cases e:k∈seen
 .simp[e];rfl
 .simp[e];rfl
def adT (seen:List Crt){k:Crt}(h:k∉seen):RF.ev (.mset [.i,.i] 1) [Cm seen,CP k,.v (.bool true)]=some (Cm (seen++[k])):=by
 have h:=vz (ks:=[.i,.i]) (kc:=bT) (λ_=>rfl) XH T1 k seen h;unfold Cm;simp[RF.ev,show(CP k).cells=bT k from rfl,show(PV.v (.bool true)).cells=[T1] from rfl,h]
 rfl
def gy {α:Type}{f:α->List PV}{bytes z:Nat}{l:List α}(h:l.length*bytes<=140737488355328)(hz:∀a,(f a).length=z):RF.ev (.app bytes z) [.sl [],.v (.int .i64 0),.sl (l.map f)]=some (.sl (l.map f)):=by
 have:=fh (f:=f) (l:=[]) (k:=l) (bytes:=bytes) (z:=z) (by simpa using h) hz
 grind
def Ly {l:List Bool}(hl:l.length<=1000):Ans D 294 [sl B1 l] [sl B1 l]:=by
 refine am ?_;unfold aa6;simp only[EV,ai,aa];have h1:den (aY D) 1 HN [] [sl B1 l,.i64 (l.length:Int),.bool (decide ((l.length:Int)=0))]=some [sl B1 l]:=by
  unfold HN;simp[EV,gy (l:=l) (f:=B1) (bytes:=1) (z:=1) (by omega) rD,bF]
 by_cases h:(l.length:Int)=0
 .have:l=[]:=bQ (by omega);subst this;rw[ad h];exact l7 rfl h1
 .grind
def af9 {l:List Bool}(_:0<l.length)(hl:l.length<=1000):Ans D 294 [sl B1 l] [sl B1 l]:=Ly hl
def ml {l:List Int}(hl:l.length<=1000):Ans D 120 [sl I1 l] [sl I1 l]:=by
 refine am ?_;unfold Zk;simp only[EV,ai,aa];have h1:den (aY D) 1 FJ [] [sl I1 l,.i64 (l.length:Int),.bool (decide ((l.length:Int)=0))]=some [sl I1 l]:=by
  unfold FJ;simp[EV,gy (l:=l) (f:=I1) (bytes:=8) (z:=1) (by omega) bS,bF]
 by_cases h:(l.length:Int)=0
 .have:l=[]:=bQ (by omega);subst this;rw[ad h];exact l7 rfl h1
 .grind
def Cu {α:Type}[DecidableEq α](v:α)(l:List α):l.any (λy=>decide (v=y))=decide (v∈l):=by
 grind
def aga {l:List Bool}(v:Bool)(hl:l.length<=1000):Ans D 415 [sl B1 l,.bool v] [.i64 (lj (λy=>decide (v=y)) l)]:=by
 refine an ⟨1001,?_⟩;unfold acr;simp[EV];refine(jy (m:=1001) (l:=l) (p:=λy=>decide (v=y)) (st:=λi=>[.i64 (i:Int)]) (ret:=λi=>some [.i64 (i:Int)]) (fin:=some [.i64 (-1)]) (λi a self ha=>?_) (λself=>?_) (by omega)).trans Ee
 .unfold Iy;simp only[aS ha (rD _),aJ ha,tj,EV,aa,bi (aN ha),up1 (show i<1000000000 by have:=aN ha;omega),beq_iff_eq]
 .unfold Iy;simp[EV,QD]
def agb {l:List Bool}(v:Bool)(hl:l.length<=1000):Ans D 386 [sl B1 l,.bool v] [.bool (decide (v∈l))]:=by
 refine am ?_;unfold acb;simp[EV,phi (aga v hl),zN,Cu]
open Classical in
def Lz {s:Slots}(hg:gSl s=false):Ans D 325 [SL s] [.i64 (okE (decide s.okR))]:=by
 unfold gSl at hg;simp only[eN,ak] at hg;rw[show decide s.okR=decide s.okP from cv.2 (Slots.ok_iff s).symm]
 have no:∀h:¬s.okP,(some [PV.v (.int .i64 8)]:Option (List PV))=some [.i64 (okE (decide s.okP))]:=λh=>by rw[aj h];rfl
 refine an ⟨1001,?_⟩;unfold abC;simp only[ax,iW,iX,kf,iY,EV,ai,aa,aF,ak];by_cases h1:s.uses.length<1
 .rw[ad (by omega)];exact no (λh=>by have:=h.1;omega)
 rw[ac (by omega)];by_cases h2:200<s.uses.length
 .rw[ad (by omega)];exact no (λh=>by have:=h.2.1;omega)
 rw[ac (by omega)];by_cases h3:s.used.length=s.uses.length
 rotate_left
 .rw[ad (by omega)];exact no (λh=>h3 h.2.2.1)
 rw[ac (by omega)];simp only[phi (af9 (l:=s.used) (by omega) (by omega)),EV,ai,ax,iY];refine(vt (m:=1001) (l:=s.free) (g:=λl x=>if 0<=x/\ x<l.length/\ l[x.toNat]?=some false then some (l.set x.toNat true) else none) (I:=λl=>l.length=s.uses.length) (S:=λl i=>[sl B1 l,.i64 (i:Int)]) (r:=some [.i64 8])
  (fin:=λacc=>some [.i64 (okE (decide s.okP))]) (x:=s.used) h3 (λa acc acc' hI hg=>?_) (λi x acc self hx hI=>?_) (λacc self hI hm=>?_) (by omega)).trans ?_
 .split at hg
  .cases hg;simpa using hI
  .cases hg
 .unfold CE;have hi:=aN hx;simp only[ax,iY,aS hx (bS _),aJ hx,bZ,EV,ai,aa,bi hi,bk,show((0:Int)<=(i:Int)) by omega,aA]
  by_cases c1:x<0
  .rw[ad c1,ac (by omega)]
  .rw[ac c1];by_cases c2:(s.uses.length:Int)<=x
   .rw[ad c2,ac (by rw[hI];omega)]
   .rw[ac c2];obtain⟨n,rfl⟩:=rF (show 0<=x by omega)
    obtain⟨b,hb⟩:∃b,acc[n]?=some b:=⟨acc[n]'(by omega),ah _⟩;simp only[ax,iY,aS hx (bS _),aJ hx,bZ,ixM (show n<s.used.length by omega),aJ hb,tj,Lr (show n<acc.length by omega),EV,up1 (show i<1000000000 by omega)]
    cases b with
    |true=>
     rw[ad rfl,ad (show decide ((0:Int)<=(i:Int))=true from au (by omega)),ac (λg=>by have:=g.2.2;rw[aG,hb] at this;cases this)]
    |false=>rw[ac (by simp),ad ⟨by omega,by omega,by rw[aG];exact hb⟩,aG]
 .rw[<-n7] at hm;have su:RF.ev .sub [sl B1 acc,.v (.int .i64 0),.v (.int .i64 (s.used.length:Int))]=some (sl B1 acc):=by rw[h3,<-hI];exact bF
  unfold CE;simp only[ax,EV,aa,bK,Qb,su,iX,ai,phi (agb (l:=acc) false (by omega)),bk,show¬((0:Int)<= -1) by omega,aw]
  by_cases c1:false∈acc
  .simp only[c1,aA];exact no (λh=>by
    obtain⟨l,e1,e2⟩:=h.2.2.2.1;rw[hm] at e1;cases e1;exact e2 c1)
  simp only[c1,aw];refine(fD (m:=1001) (n:=s.uses.length) (P:=λi=>∀u,s.uses[i]?=some u->0<=u/\ u<=1000000/\¬(u=0/\ s.used[i]?=some true)) (st:=λi=>[.i64 (i:Int)]) (r:=some [.i64 8]) (fin:=some [.i64 0]) (λi self hi _=>?_) (λ_ self=>?_) (by omega)).trans ?_
  .obtain⟨u,hu⟩:∃u,s.uses[i]?=some u:=⟨s.uses[i],ah _⟩;obtain⟨b,hb⟩:∃b,s.used[i]?=some b:=⟨s.used[i]'(by omega),ah _⟩;have hP:(∀u',s.uses[i]?=some u'->0<=u'/\ u'<=1000000/\¬(u'=0/\ s.used[i]?=some true))↔(0<=u/\ u<=1000000/\¬(u=0/\ b=true)):=by
    rw[hu,hb];simp
   unfold H8;simp only[hP,ax,iX,kf,aS hu (bS _),aJ hu,bZ,aS hb (rD _),aJ hb,tj,EV,aa,bi hi,Qa,up1 (show i<1000000000 by omega)]
   by_cases c1:u<0
   .simp only[ad c1,aA];rw[ac (by omega)]
   simp only[ac c1];by_cases c2:1000000<u
   .simp only[ad c2,aA];rw[ac (by omega)]
   simp only[ac c2];by_cases c3:u=0
   .simp only[ad c3];cases b with
    |true=>simp[c3]
    |false=>simp[c3]
   .simp only[ac c3,aq,aw];rw[ad ⟨by omega,by omega,λh=>c3 h.1⟩]
  .unfold H8;simp only[EV,aa,bK,P9]
  .by_cases hr:s.okP
   .rw[ad (λi _=>hr.2.2.2.2 i),au hr];rfl
   .rw[ac (λh=>hr ⟨by omega,by omega,h3,⟨acc,hm,c1⟩,λi u hu=>h i (aN hu) u hu⟩),aj hr];rfl
 .rw[<-n7];cases hm:oO s.used s.free with
  |some l=>rfl
  |none=>
   exact no (λh=>by
    obtain⟨l,e1,_⟩:=h.2.2.2.1;rw[hm] at e1;cases e1)
def zV (x y:Evt):Int:=if sgn (crs x.time y.time)=0 then sgn (x.number-y.number) else sgn (crs x.time y.time)
def kL (x y:Evt):zV x y<0↔evLess x y=true:=by
 unfold zV evLess;have:=lr x.number y.number
 grind
def tu {x y:Evt}(hx:aX x.time)(hy:aX y.time)(rx:rok x.time=true)(ry:rok y.time=true):Ans D 326 [EP x,EP y] [.i64 (zV x y)]:=by
 have e:=phi (afB hx hy);rw[rx,ry,wY,ad rfl] at e;have bs:RF.ev (.bs 2 [KP.z] [0,1]) [.v (.int .i64 (sgn (crs x.time y.time))),.v (.int .i64 (sgn (x.number-y.number)))]=some (.sl [[.i64 (sgn (crs x.time y.time))],[.i64 (sgn (x.number-y.number))]]):=rfl;have su:∀a b:List PV,RF.ev .sub [.sl [a,b],.v (.int .i64 0),.v (.int .i64 2)]=some (.sl [a,b]):=λa b=>rfl;refine am ?_;unfold abD zV;simp[ly,pEP,vu,EV,e,phi (xh _ _),bs,su,phi (orr _ _)]
def pU (c:Certs):Nat->Int
 |0=> -1
 |i+1=>((c.list[i]?).map Held.number).getD (-1)
def AH (c:Certs)(j:Nat)(h:Held):Prop:=h.cert.ok/\(∀k,k<j->∀g,c.list[k]?=some g->g.cert≠h.cert)/\ pU c j<h.number/\ h.number<c.next
def NF {c:Certs}(h1:c.list.length<=200)(h2:0<=c.next)(h3:c.next<=1000000):(∀j h,c.list[j]?=some h->AH c j h)↔dk c:=by
 constructor
 .intro h;have nn:∀(j:Nat) (g:Held),c.list[j]?=some g->0<=g.number:=by
   intro j;induction j with
   |zero=>intro g hg;have:=(h 0 g hg).2.2.1;simp only[pU] at this;omega
   |succ j ih=>
    intro g hg;obtain⟨p,hp⟩:∃p,c.list[j]?=some p:=⟨c.list[j]'(by have:=aN hg;omega),ah _⟩;have h5:=(h (j+1) g hg).2.2.1;simp only[pU,hp,cf,ct] at h5
    grind
  refine⟨h1,h2,h3,λi x hx=>⟨(h i x hx).1,nn i x hx,(h i x hx).2.2.2,λg hi hg=>?_,(h i x hx).2.1⟩⟩;obtain⟨i,rfl⟩:∃k,i=k+1:=⟨i-1,by omega⟩;have:=(h (i+1) x hx).2.2.1;rw[d6] at hg;simp only[pU,hg,cf,ct] at this;exact this
 .rintro⟨_,_,_,h⟩ j x hx;obtain⟨a1,a2,a3,a4,a5⟩:=h j x hx;refine⟨a1,a5,?_,a3⟩;cases j with
  |zero=>simp only[pU];omega
  |succ j=>
   obtain⟨p,hp⟩:∃p,c.list[j]?=some p:=⟨c.list[j]'(by have:=aN hx;omega),ah _⟩;simp only[pU,hp,cf,ct];exact a4 p (by omega) (by simpa using hp)
def Fc {c:Certs}{i:Nat}{k:Crt}:k∉(c.list.take i).map (·.cert)↔∀j,j<i->∀g,c.list[j]?=some g->g.cert≠k:=by
 constructor
 .intro h j hj g hg e;exact h (bh.2 ⟨g,aL.2 ⟨j,by rw[fw hj];exact hg⟩,e⟩)
 .intro h hm;obtain⟨g,hg,e⟩:=bh.1 hm;obtain⟨j,hj⟩:=aL.1 hg
  grind
open Classical in
def LA {c:Certs}(hl:c.list.length<=1000):Ans D 244 [CS c] [.i64 (okE (decide (dk c)))]:=by
 refine an ⟨1001,?_⟩;unfold aax;have no:∀h:¬dk c,(some [PV.v (.int .i64 8)]:Option (List PV))=some [.i64 (okE (decide (dk c)))]:=λh=>by rw[aj h];rfl
 simp only[ax,iI,lx,fm,EV,ai,aa,cJ];by_cases h1:200<c.list.length
 .rw[ad (by omega)];exact no (λh=>by have:=h.1;omega)
 rw[ac (by omega)];by_cases h2:c.next<0
 .rw[ad h2];exact no (λh=>by have:=h.2.1;omega)
 rw[ac h2];by_cases h3:1000000<c.next
 .rw[ad h3];exact no (λh=>by have:=h.2.2.1;omega)
 rw[ac h3];refine(fD (n:=c.list.length) (P:=λi=>∀h,c.list[i]?=some h->AH c i h) (st:=λi=>[Cm ((c.list.take i).map (·.cert)),.i64 (pU c i),.i64 (i:Int)]) (r:=some [.i64 8]) (fin:=some [.i64 0]) (λi self hi _=>?_) (λ_ self=>?_) (by omega)).trans ?_
 .obtain⟨h,hh⟩:∃h,c.list[i]?=some h:=⟨c.list[i],ah _⟩;have hP:(∀h',c.list[i]?=some h'->AH c i h')↔AH c i h:=⟨λx=>x h hh,λx h' e=>by rw[hh] at e;cases e;exact x⟩;have hs:(c.list.take (i+1)).map (·.cert)=(c.list.take i).map (·.cert)++[h.cert]:=by
   rw[cH,hh];simp
  have hn:pU c (i+1)=h.number:=by simp only[pU,hh,cf,ct]
  unfold Ha;simp only[hP,hs,hn,ax,lx,fm,aS hh (fi _),aJ hh,iS,pHP,ii,phi (RN _),adS,EV,ai,aa,bi hi,aF,ak,bk];by_cases a1:h.cert.ok
  rotate_left
  .rw[ad a1,ac (λx=>a1 x.1)]
  rw[ac (kK a1)];by_cases a2:h.cert∈(c.list.take i).map (·.cert)
  .rw[ad a2,ac (λx=>absurd a2 (Fc.2 x.2.1))]
  rw[ac a2];by_cases a3:h.number<=pU c i
  .rw[ad a3,ac (λx=>by have:=x.2.2.1;omega)]
  rw[ac a3];by_cases a4:c.next<=h.number
  .rw[ad a4,ac (λx=>by have:=x.2.2.2;omega)]
  rw[ac a4,ad ⟨a1,Fc.1 a2,by omega,by omega⟩];simp only[ax,pHP,ii,adT _ a2,EV,up1 (show i<1000000000 by omega)]
 .unfold Ha;simp only[ax,fm,EV,ai,aa,bK,Ps]
 .have:(∀i,i<c.list.length->∀h,c.list[i]?=some h->AH c i h)↔dk c:=by
   rw[<-NF (by omega) (by omega) (by omega)];exact⟨λh i x hx=>h i (aN hx) x hx,λh i _=>h i⟩
  by_cases hr:dk c
  .rw[ad (this.2 hr),au hr];rfl
  .rw[ac (λh=>hr (this.1 h)),aj hr];rfl
def adU (p q:Hnd):RF.ev (.eqv [.i,.i]) [HD p,HD q]=some (.bool (decide (p=q))):=by
 obtain⟨a,b⟩:=p;obtain⟨c,d⟩:=q;show some (PV.bool (decide (a=c)&&(decide (b=d)&& true)))=_
 simp_all
open Classical in
def Fe {a:Agenda}(hg:gAg a=false)(h64:∀e∈a.heap,aX e.time):Ans D 245 [AG a] [.i64 (okE (decide (dX a)))]:=by
 have hgs:=hg;unfold gAg at hgs;simp only[eN,ak] at hgs;have hsl:a.slots.uses.length<=210/\ a.slots.used.length<=210/\ a.slots.free.length<=210:=by
  have:=hgs.1.1;unfold gSl at this
  grind
 have cAG0:RF.ev (.cell 0) [AG a]=some (sl I1 a.slots.uses):=rfl;have cAG1:RF.ev (.cell 1) [AG a]=some (sl B1 a.slots.used):=rfl;have cAG2:RF.ev (.cell 2) [AG a]=some (sl I1 a.slots.free):=rfl;have no:∀h:¬dX a,(some [PV.v (.int .i64 8)]:Option (List PV))=some [.i64 (okE (decide (dX a)))]:=λh=>by rw[aj h];rfl
 refine an ⟨1001,?_⟩;unfold aay;simp only[ax,ga,pAG,cAG1,cAG2,d7,gt,EV,ai,phi (Lz hgs.1.1),qa,aa,aF,ak,bV (show-9223372036854775808<=(a.slots.used.length:Int)-(a.slots.free.length:Int) by omega) (by omega)]
 by_cases q1:a.slots.okR
 rotate_left
 .rw[ad (by rw[aj q1];decide)];exact no (λh=>q1 h.1)
 rw[ac (by rw[au q1];decide)];obtain⟨g1,g2,g3,g4,_⟩:=id q1;by_cases q2:a.wher.length=a.slots.used.length
 rotate_left
 .rw[ad (by omega)];exact no (λh=>q2 (by rw[h.2.1.1,g3]))
 rw[ac (by omega)];by_cases q3:a.heap.length+a.slots.free.length=a.slots.used.length
 rotate_left
 .rw[ad (by omega)];exact no (λh=>q3 (by rw[h.2.1.2.1,g3]))
 rw[ac (by omega)];refine(fD (n:=a.wher.length) (P:=λi=>∀(b:Bool) (w u:Int),a.slots.used[i]?=some b->a.wher[i]?=some w->a.slots.uses[i]?=some u->if b=true then 0<=w/\∃e,a.heap[w.toNat]?=some e/\ e.hnd=⟨i,u⟩ else w= -1) (st:=λi=>[.i64 (i:Int)]) (r:=some [.i64 8]) (fin:=some [.i64 (okE (decide (dX a)))]) (λi self hi _=>?_) (λhall self=>?_) (by omega)).trans ?_
 .obtain⟨u,hu⟩:∃u,a.slots.uses[i]?=some u:=⟨a.slots.uses[i]'(by omega),ah _⟩;obtain⟨b,hb⟩:∃b,a.slots.used[i]?=some b:=⟨a.slots.used[i]'(by omega),ah _⟩;obtain⟨w,hw⟩:∃w,a.wher[i]?=some w:=⟨a.wher[i]'(by omega),ah _⟩;have hP:(∀(b':Bool) (w' u':Int),a.slots.used[i]?=some b'->a.wher[i]?=some w'->a.slots.uses[i]?=some u'->if b'=true then 0<=w'/\∃e,a.heap[w'.toNat]?=some e/\ e.hnd=⟨i,u'⟩ else w'= -1)↔(if b=true then 0<=w/\∃e,a.heap[w.toNat]?=some e/\ e.hnd=⟨i,u⟩ else w= -1):=
   ⟨λh=>h b w u hb hw hu,λh b' w' u' h1 h2 h3=>by rw[hu] at h3;rw[hb] at h1;rw[hw] at h2;cases h1;cases h2;cases h3;exact h⟩
  have nxt:=up1 (show i<1000000000 by omega)
  unfold He;simp only[hP,ax,cAG1,d7,gt,aS hb (rD _),aJ hb,tj,aS hw (bS _),aJ hw,bZ,EV,ai,aa,bi hi];cases b with
  |false=>
   simp only[bI,aA,aq,aw,EV,aF,ak];by_cases c1:w= -1
   .rw[ac (by omega),ad c1];unfold Hd;simp only[EV,nxt]
   .rw[ad c1,ac c1]
  |true=>
   simp only[aE,aq,aw,aA,bk];by_cases c1:w<0
   .rw[ad c1,ac (by omega)]
   rw[ac c1];obtain⟨n,rfl⟩:=rF (show 0<=w by omega)
   by_cases c2:a.heap.length<=n
   .rw[ad (by omega),ac (λh=>by
     obtain⟨_,e,he,_⟩:=h;have:=aN he;omega)]
   rw[ac (by omega)];obtain⟨e,he⟩:∃e,a.heap[n]?=some e:=⟨a.heap[n]'(by omega),ah _⟩;have ag:RF.ev .agg [.v (.int .i64 (i:Int)),.v (.int .i64 u)]=some (HD ⟨i,u⟩):=rfl;simp only[ax,cAG0,d7,aS he (kb _),aJ he,Uj,aS hu (bS _),aJ hu,bZ,ag,adU,EV,aG,aF,ak];by_cases c3:e.hnd=⟨i,u⟩
   .rw[ac (kK c3),ad ⟨by omega,e,he,c3⟩];unfold Hd;simp only[EV,nxt]
   .rw[ad c3,ac (λh=>by
     obtain⟨_,e',he',h'⟩:=h;rw[he] at he';cases he';exact c3 h')]
 .have hpl:qc a:=⟨by omega,by omega,λi b w u hb hw hu=>hall i (aN hw) b w u hb hw hu⟩;unfold He;simp only[EV,aa,bK];unfold Pv;simp only[ax,d7,EV,ai];refine(fD (n:=a.heap.length) (P:=λi=>∀e,a.heap[i]?=some e->mj e/\(∀k,k<i->∀e',a.heap[k]?=some e'->e'.number≠e.number)/\∀p,0<i->a.heap[(i-1)/2]?=some p->evLess e p=false) (st:=λi=>[Nm ((a.heap.take i).map (·.number)),.i64 (i:Int)]) (r:=some [.i64 8]) (fin:=some [.i64 0]) (λi self hi hbef=>?_) (λ_ self=>?_) (by omega)).trans ?_
  .obtain⟨e,he⟩:∃e,a.heap[i]?=some e:=⟨a.heap[i],ah _⟩;have hP:(∀e',a.heap[i]?=some e'->mj e'/\(∀k,k<i->∀x,a.heap[k]?=some x->x.number≠e'.number)/\∀p,0<i->a.heap[(i-1)/2]?=some p->evLess e' p=false)↔(mj e/\(∀k,k<i->∀x,a.heap[k]?=some x->x.number≠e.number)/\∀p,0<i->a.heap[(i-1)/2]?=some p->evLess e p=false):=
    ⟨λh=>h e he,λh e' h1=>by rw[he] at h1;cases h1;exact h⟩
   have hs:(a.heap.take (i+1)).map (·.number)=(a.heap.take i).map (·.number)++[e.number]:=by
    rw[cH,he];simp
   have hseen:e.number∉(a.heap.take i).map (·.number)↔∀k,k<i->∀x,a.heap[k]?=some x->x.number≠e.number:=by
    constructor
    .intro h j hj g hg e';exact h (bh.2 ⟨g,aL.2 ⟨j,by rw[fw hj];exact hg⟩,e'⟩)
    .intro h hm;obtain⟨g,hg,e'⟩:=bh.1 hm;obtain⟨j,hj⟩:=aL.1 hg;rw[fY] at hj;split at hj
     .exact h j (by assumption) g hj e'
     .cases hj
   unfold Hc;simp only[hP,hs,ax,d7,aS he (kb _),aJ he,eU,pEP,vu,phi (c43 (h64 e (ay he))),qa,af7,EV,ai,aa,bi hi,cJ];by_cases c1:rok e.time=true
   rotate_left
   .rw[ac c1,ac (λh=>c1 h.1.1)]
   rw[ad c1];by_cases c2:e.number<0
   .rw[ad c2,ac (λh=>by have:=h.1.2;omega)]
   rw[ac c2];by_cases c3:1000000<e.number
   .rw[ad c3,ac (λh=>by have:=h.1.2;omega)]
   rw[ac c3];by_cases c4:e.number∈(a.heap.take i).map (·.number)
   .rw[ad c4,ac (λh=>absurd c4 (hseen.2 h.2.1))]
   rw[ac c4];have nxt:=up1 (show i<1000000000 by omega)
   simp only[ax,vu,af8 _ c4,EV,aa];cases i with
   |zero=>
    rw[ac (by omega),ad ⟨⟨c1,by omega,by omega⟩,hseen.1 c4,λp h=>absurd h (dJ _)⟩];unfold Hb;simp only[EV,aq,aw,nxt]
   |succ j=>
    obtain⟨p,hp⟩:∃p,a.heap[j/2]?=some p:=⟨a.heap[j/2]'(by omega),ah _⟩;have rp:rok p.time=true:=(hbef (j/2) (by omega) p hp).1.1;rw[ad (by omega)];simp only[ax,fN,Ls (show j<1000000 by omega),d7,aS hp (kb _),aJ hp,eU,phi (tu (h64 e (ay he)) (h64 p (ay hp)) c1 rp),EV]
    unfold Hb;simp only[EV,aa,nxt];by_cases c5:zV e p<0
    .rw[ad c5,ac (λh=>by
      have:=h.2.2 p (by omega) (by simpa using hp)
      rw[(kL e p).1 c5] at this;cases this)]
    .rw[ac c5,ad ⟨⟨c1,by omega,by omega⟩,hseen.1 c4,λq _ hq=>by
      rw[d6,hp] at hq;cases hq;cases h:evLess e p with
      |false=>rfl
      |true=>exact absurd ((kL e p).2 h) c5⟩]
  .unfold Hc;simp only[EV,aa,bK,Pu]
  .have:(∀i,i<a.heap.length->∀e,a.heap[i]?=some e->mj e/\(∀k,k<i->∀e',a.heap[k]?=some e'->e'.number≠e.number)/\∀p,0<i->a.heap[(i-1)/2]?=some p->evLess e p=false)↔dX a:=by
    constructor
    .intro h;refine⟨q1,hpl,λe he=>?_,?_,λi e p he hp=>?_⟩
     .obtain⟨i,hi⟩:=aL.1 he;exact(h i (aN hi) e hi).1
     .rw[pF];intro i j x hj hi hjx;rw[aW,bR] at hi hjx;obtain⟨e,he,rfl⟩:=hi;obtain⟨e',he',h'⟩:=hjx;exact(h i (aN he) e he).2.1 j hj e' he' h'
     .exact(h (i+1) (aN he) e he).2.2 p (by omega) (by rw[d6];exact hp)
    .rintro⟨_,_,h3,h4,h5⟩ i hi e he;rw[pF] at h4;refine⟨h3 e (ay he),λk hk e' he' hn=>?_,λp hp0 hp=>?_⟩
     .exact h4 i k e.number hk (by rw[aW,he];rfl) (by rw[aW,he',cf,hn])
     .obtain⟨j,rfl⟩:∃j,i=j+1:=⟨i-1,by omega⟩;exact h5 j e p he (by rw[d6] at hp;exact hp)
   by_cases hr:dX a
   .rw[ad (this.2 hr),au hr];rfl
   .rw[ac (λh=>hr (this.1 h)),aj hr];rfl
 .by_cases hall:∀i,i<a.wher.length->∀(b:Bool) (w u:Int),a.slots.used[i]?=some b->a.wher[i]?=some w->a.slots.uses[i]?=some u->if b=true then 0<=w/\∃e,a.heap[w.toNat]?=some e/\ e.hnd=⟨i,u⟩ else w= -1
  .rw[ad hall]
  .rw[ac hall];exact no (λh=>hall λi _=>h.2.1.2.2 i)
def AI {c:Clock}(h:okF c.pts)(hr:rok c.now=true){x:Held}(hx:x.cert.ok):kO (ptOf c.pts x.cert.high) (ptOf c.pts x.cert.low) c.now=0↔cT c.pts x=true:=by
 unfold cT;rw[aM];constructor
 .intro h0;obtain⟨h1,h2,_,_⟩:=Cp h0;have go:∀id,(ptOf c.pts id).ok=true->inF c.pts id=true:=λid hp=>by
   cases e:inF c.pts id with
   |true=>rfl
   |false=>rw[Dx (Kj e)] at hp;simp[Pt.ok] at hp
  grind
 .rintro⟨h1,h2⟩;obtain⟨i,p,a1,a2,a3,a4⟩:=iJ h h1;obtain⟨j,q,b1,b2,b3,b4⟩:=iJ h h2;rw[a4,b4];exact lu (eQ h b1) (eQ h a1) hr (by rw[a2,b2];exactλe=>hx.2.2.2.2 e.symm)
def adV {d:Due}{rest:List Due}:RF.ev (.tsub 3) [sl cE (d::rest),.v (.int .i64 1),.v (.int .i64 ((rest.length+1:Nat):Int))]=some (sl cE rest):=by
 rw[B5,ad ⟨by omega,by omega,by simp,by simp[dK,cE],by decide⟩];simp;exact bv (by simp)
def agc {n:Nat}:RF.ev .bnd [.v (.int .i64 1),.v (.int .i64 ((n+1:Nat):Int))]=some (.i64 1):=by
 rw[jO,ad ⟨by omega,by omega⟩]
def agd (e:Rt)(n:Int)(h:Hnd):RF.ev .agg [R e,.i64 n,HD h]=some (EP ⟨e,n,h⟩):=rfl
open Classical in
def yP {c:Clock}(h64:ij c)(hg:gW c):Ans D 153 [CL c] [.i64 (okE (decide (bx c)))]:=by
 obtain⟨hg1,hg2,hg3,hga⟩:=hg;have hg':=hga;unfold gAg gSl at hg';simp only[eN,ak] at hg';have no:∀h:¬bx c,(some [PV.v (.int .i64 8)]:Option (List PV))=some [.i64 (okE (decide (bx c)))]:=λh=>by rw[aj h];rfl
 have b4:∀w x y z:Int,RF.ev (.bs 4 [KP.z] [0,1,2,3]) [.i64 w,.i64 x,.i64 y,.i64 z]=some (sl I1 [w,x,y,z]):=λ_ _ _ _=>rfl;refine an ⟨1001,?_⟩;unfold Zx;simp only[ax,db,fq,mf,mh,mi,b4,EV,phi (c43 h64.1),phi (vr _),phi (LA (c:=c.certs) (by omega)),phi (Fe hga h64.2)];refine(cw (m:=1001) (l:=[okE (rok c.now),eO c.pts,okE (decide (dk c.certs)),okE (decide (dX c.agenda))]) (p:=λe=>decide (e=0)) (st:=λi=>[.i64 (i:Int)]) (r:=some [.i64 8]) (fin:=some [.i64 (okE (decide (bx c)))]) (λi e self he _=>?_) (λhall self=>?_) (by simp)).trans ?_
 .have hi:i<4:=by simpa using aN he
  unfold F8;have i4:RF.ev .ix [.i64 (i:Int),.v (.int .i64 4)]=some (.i64 (i:Int)):=by rw[ac7,ad (by omega)]
  have l4:decide ((i:Int)<4)=true:=au (by omega);simp only[EV,l4,cQ,aA,i4,aJ he,bZ,up1 (show i<1000000000 by omega),aF,aa]
  by_cases e0:e=0
  .rw[au e0,ac (by simp),ad e0]
  .rw[aj e0,ad rfl,ac e0]
 .simp only[dt,List.all_nil,mY,aM,aa,NE] at hall;obtain⟨h1,h2,h3,h5⟩:=hall;have h2':=eu.1 h2;unfold F8;have l4:decide (((4:Nat):Int)<4)=false:=by decide
  simp only[bA,dI,bX,Nat.reduceAdd,EV,l4,aq,aw];unfold Oz;simp only[ax,fu,jB,jU,cU,EV,ai,aF,ak];by_cases h6:c.agenda.wher.length=200
  .rw[ac (by omega)];by_cases h7:c.agenda.heap.length=c.due.length
   .rw[ac (by omega)];refine(vt (m:=1001) (l:=c.certs.list) (b:=Bb) (g:=d8 c) (I:=λ_=>True) (S:=λleft i=>[sl cE left,.i64 (i:Int)]) (r:=some [.i64 8]) (fin:=λleft=>some [.i64 (if left=[] then 0 else 8)]) (x:=c.due) trivial (λ_ _ _ _ _=>trivial) (λi h left self hh _=>?_) (λleft self _ hm=>?_) (by omega)).trans ?_
    .have hx:h.cert.ok:=(h3.2.2.2 i h hh).1;have hk:=AI h2' h1 hx;have hw:=phi (Lv (x:=h.cert) (t:=c.now) h2' h64.1);unfold Bb d8;generalize hF:ef c.now (ptOf c.pts h.cert.high) (ptOf c.pts h.cert.low)=FT at hw|-;by_cases hkn:cT c.pts h=true
     .rw[ad (hk.2 hkn)] at hw;rw[ad hkn];simp only[ax,fu,cU,fq,mf,mi,aS hh (fi _),aJ hh,iS,pHP,ii,bU,hw,EV,ai,aa,bi (aN hh),bk,aF,az,aE,aq,aw];cases hF2:FT.2 with
      |false=>
       simp only[cQ,aA,aq,aw];simp only[ax,ii,rG,rH,nV,nW,EV,F7,up1 (show i<1000000000 by have:=aN hh;omega)]
      |true=>
       simp only[qq,aw,aA];cases left with
       |nil=>rw[ad (by simp)]
       |cons d rest=>
        have d0:(d::rest)[0]?=some d:=rfl;have t0':RF.ev (.tix 3) [sl cE (d::rest),.v (.int .i64 0)]=some (.i64 ((0:Nat):Int)):=aS d0 (iT _);rw[ac (by simp;omega)];simp only[ax,t0',aJ d0,Lw,sL,m9,ii,EV,aF,ak,aa,bk];by_cases n1:d.number=h.number
        .rw[ac (by simp[n1])];by_cases n2:d.hnd.index<0
         .rw[ad n2,ac (λy=>by have:=y.2.1.1;omega)]
         .rw[ac n2];by_cases n3:200<=d.hnd.index
          .rw[ad n3,ac (λy=>by
            have:=aN y.2.1.2.2;have:=h5.2.1.1;omega)]
          .rw[ac n3];obtain⟨ix,hix⟩:=rF (show 0<=d.hnd.index by omega)
           obtain⟨w,hwh⟩:∃w,c.agenda.wher[ix]?=some w:=⟨c.agenda.wher[ix]'(by omega),ah _⟩;obtain⟨b,hb⟩:∃b,c.agenda.slots.used[ix]?=some b:=⟨c.agenda.slots.used[ix]'(by have:=h5.2.1.1;have:=h5.1.2.2.1;omega),ah _⟩;obtain⟨u,hu⟩:∃u,c.agenda.slots.uses[ix]?=some u:=⟨c.agenda.slots.uses[ix]'(by have:=h5.2.1.1;omega),ah _⟩;have hpl:=h5.2.1.2.2 ix b w u hb hwh hu;simp only[ax,jB,jU,m9,hix,aS hwh (bS _),aJ hwh,bZ,EV,aa];by_cases n4:w<0
           .rw[ad n4,ac (λy=>by
             have hl:=y.2.1.2.1;rw[hix,aG,hb] at hl;cases hl;rw[ad rfl] at hpl;have:=hpl.1;omega)]
           .rw[ac n4];have hbt:b=true:=by
             cases b with
             |true=>rfl
             |false=>rw[ac (by simp)] at hpl;omega
            subst hbt;rw[ad rfl] at hpl;obtain⟨_,e,he,hex⟩:=hpl;obtain⟨n,rfl⟩:=rF (show 0<=w by omega)
            rw[aG] at he;have hD:pT c.agenda d h.number FT.1↔e=⟨FT.1,h.number,d.hnd⟩:=by
             constructor
             .intro y;have hl:=y.2.1.2.2;rw[hix,aG,hu] at hl;have:=y.2.2 ix n e hix hwh he;obtain⟨e1,e2,e3⟩:=e;simp only at this hex;rw[this.1,this.2,hex];obtain⟨d1,d2,d3⟩:=d;simp only at hix hl;simp only[bW] at hl;rw[hix,hl]
             .intro y;subst y;simp only at hex;refine⟨n1,⟨by omega,by rw[hix,aG];exact hb,by rw[hix,aG,hu,hex]⟩,λi' n' e' y1 y2 y3=>?_⟩;rw[hix] at y1;have:ix=i':=by omega
              subst this;rw[hwh] at y2;have:(n:Int)=n':=by simpa using y2
              have:n=n':=by omega
              subst this;rw[he] at y3;cases y3;exact⟨rfl,rfl⟩
            have pR:RF.ev (.part 0 2) [R FT.1]=some (R FT.1):=rfl;have pH2:RF.ev (.part 0 2) [HD d.hnd]=some (HD d.hnd):=rfl;simp only[ax,jB,aS he (kb _),aJ he,eU,pR,pH2,ii,agd,XA,EV,aF,ak];by_cases n5:e=⟨FT.1,h.number,d.hnd⟩
            .rw[ac (by simp[n5]),ad (hD.2 n5)];simp only[ax,bA,ai,agc,adV,ii,rG,rH,nV,nW,EV,F7,up1 (show i<1000000000 by have:=aN hh;omega)]
            .rw[ad n5,ac (λy=>n5 (hD.1 y))]
        .rw[ad n1,ac (λy=>n1 y.1)]
     .rw[ac (λy=>hkn (hk.1 y))] at hw;rw[ac hkn];simp only[ax,fu,cU,fq,mf,mi,aS hh (fi _),aJ hh,iS,pHP,ii,bU,hw,EV,ai,aa,bi (aN hh),aF,ak];rw[ad (λy=>hkn (hk.1 y))]
    .unfold Bb;simp only[EV,ai,aa,bK,Oy,cJ];cases left with
     |nil=>rw[ac (by simp),ad rfl]
     |cons d rest=>rw[ad (by simp),ac (by simp)]
    .cases hm:foldO (d8 c) c.due c.certs.list with
     |none=>exact no (λh=>by rw[h.2.2.2.2.2.2] at hm;cases hm)
     |some left=>
      cases left with
      |nil=>rw[au (show bx c from⟨h1,h2',h3,h5,h6,h7,hm⟩)];rfl
      |cons d rest=>exact no (λh=>by rw[h.2.2.2.2.2.2] at hm;cases hm)
   .rw[ad (by omega)];exact no (λh=>h7 h.2.2.2.2.2.1)
  .rw[ad (by omega)];exact no (λh=>h6 h.2.2.2.2.1)
 .simp only[dt,List.all_nil,mY,aM,aa,NE];split
  .rfl
  .rename_i hn;exact no (λh=>hn ⟨h.1,eu.2 h.2.1,h.2.2.1,h.2.2.2.1⟩)
open Classical in
def LC {c:Clock}(h64:ij c)(hg:gCl c=false):Ans D 153 [CL c] [.i64 (okE (decide (bx c)))]:=yP h64 (yO hg)
def Ff {l:List Int}(v:Int)(hl:l.length<=1000):Ans D 151 [sl I1 l,.i64 v] [.i64 (lj (λy=>decide (v=y)) l)]:=by
 refine an ⟨1001,?_⟩;unfold Zv;simp[EV];refine(jy (m:=1001) (l:=l) (p:=λy=>decide (v=y)) (st:=λi=>[.i64 (i:Int)]) (ret:=λi=>some [.i64 (i:Int)]) (fin:=some [.i64 (-1)]) (λi a self ha=>?_) (λself=>?_) (by omega)).trans Ee
 .unfold F5;simp only[aS ha (bS _),aJ ha,bZ,EV,aa,bi (aN ha),up1 (show i<1000000000 by have:=aN ha;omega)]
 .unfold F5;simp[EV,Ow]
def age {l:List Int}(v:Int)(hl:l.length<=1000):Ans D 154 [sl I1 l,.i64 v] [.bool (decide (v∈l))]:=by
 refine am ?_;unfold Zy;simp[EV,phi (Ff v hl),zN,Cu]
def agf {l:List Crt}(v:Crt)(hl:l.length<=1000):Ans D 247 [sl bT l,CP v] [.i64 (lj (λy=>decide (v=y)) l)]:=by
 refine an ⟨1001,?_⟩;unfold aaA;simp[jA,EV];refine(jy (m:=1001) (l:=l) (p:=λy=>decide (v=y)) (st:=λi=>[.i64 (i:Int)]) (ret:=λi=>some [.i64 (i:Int)]) (fin:=some [.i64 (-1)]) (λi a self ha=>?_) (λself=>?_) (by omega)).trans Ee
 .unfold Hf;simp only[aS ha (jz _),aJ ha,tq,xm,EV,aa,bi (aN ha),up1 (show i<1000000000 by have:=aN ha;omega)]
 .unfold Hf;simp[EV,Pw]
def zW {l:List Crt}(v:Crt)(hl:l.length<=1000):Ans D 155 [sl bT l,CP v] [.bool (decide (v∈l))]:=by
 refine am ?_;unfold Zz;simp[jA,EV,phi (agf v hl),zN,Cu]
def JustP (c:Clock)(edges:List Crt):Prop:=edges.length=c.certs.list.length/\∀h∈c.certs.list,h.cert∈edges
def RS {l k:List Int}(hl:l.length<=1000):Ans D 163 [sl I1 l,sl I1 k] [.bool (decide (l=k))]:=by
 refine an ⟨1001,?_⟩;unfold ZF;simp only[EV,ai,aF,ak];by_cases h:l.length=k.length
 .rw[ac (by omega)];refine pQ h (cw (l:=l.zip k) (st:=λi=>[.i64 (i:Int)]) (λi x self hx _=>?_) (λ_ self=>?_) (by rw[eG h];omega))
  .obtain⟨hp,hq⟩:=g9 hx;unfold Gb;simp only[aS hp (bS _),aJ hp,aS hq (bS _),aJ hq,bZ,EV,aa,aF,ak,bi (aN hp),up1 (show i<1000000000 by have:=aN hp;omega)]
   grind
  .rw[eG h];unfold Gb;simp only[EV,aa,bK,OD]
 .rw[ad (by omega),aj (λe=>h (by rw[e]))]
def agh {l k:List Nod}(hl:l.length<=1000):Ans D 165 [sl dG l,sl dG k] [.bool (decide (l=k))]:=by
 refine an ⟨1001,?_⟩;unfold ZG;simp only[EV,ai,aF,ak];by_cases h:l.length=k.length
 .rw[ac (by omega)];refine pQ h (cw (l:=l.zip k) (st:=λi=>[.i64 (i:Int)]) (λi x self hx _=>?_) (λ_ self=>?_) (by rw[eG h];omega))
  .obtain⟨hp,hq⟩:=g9 hx;unfold Gc;simp only[aS hp (ke _),aJ hp,aS hq (ke _),aJ hq,xl,Xy,EV,aa,aF,ak,bi (aN hp),up1 (show i<1000000000 by have:=aN hp;omega)]
   grind
  .rw[eG h];unfold Gc;simp only[EV,aa,bK,OE]
 .rw[ad (by omega),aj (λe=>h (by rw[e]))]
def nthI (l:List Int)(i:Nat):Int:=(l[i]?).getD 0
def ew {l:List Int}{i:Nat}(h:i<l.length):l[i]?=some (nthI l i):=by
 unfold nthI
 grind
def iG (l:List Int)(n:Nat):List Crt:=(List.range n).map λi=>⟨nthI l (i+1),nthI l (i/2)⟩
def mH (l:List Int)(n:Nat):(iG l n).length=n:=by simp[iG]
def xp (l:List Int)(n:Nat):iG l (n+1)=iG l n++[⟨nthI l (n+1),nthI l (n/2)⟩]:=by
 unfold iG;rw[ti,fJ];rfl
def dY (l:List Int):List Crt:=iG l (l.length-1)
def qC (a b:Int):RF.ev .agg [.i64 a,.i64 b]=some (CP ⟨a,b⟩):=rfl
def bsC (c:Crt):RF.ev (.bs 1 [KP.z,KP.z] [0]) [CP c]=some (sl bT [c]):=rfl
def mQ (c:Crt):RF.ev .sub [sl bT [c],.v (.int .i64 0),.v (.int .i64 1)]=some (sl bT [c]):=rfl
def XI {l:List Int}(hl:l.length<=1000):∃N,den (aY D) N Su [] [sl I1 l]=some [sl bT (dY l)]:=by
 refine⟨1001,?_⟩;unfold Su;simp[EV];refine dP (m:=1001) (n:=l.length-1) (st:=λi=>[sl bT (iG l i),.i64 ((iG l i).length:Int),.i64 ((i+1:Nat):Int)]) (λi self hi=>?_) (λself=>?_) (by omega)
 .have h1:=ew (l:=l) (i:=i+1) (by omega);have h2:=ew (l:=l) (i:=i/2) (by omega);unfold F1;simp only[aS h1 (bS _),aJ h1,bZ,aS h2 (bS _),aJ h2,qC,bsC,mQ,Ls (show i<1000000 by omega),fN,EV,ai,aa,bi (show i+1<l.length by omega),
   fh (f:=bT) (l:=iG l i) (k:=[⟨nthI l (i+1),nthI l (i/2)⟩]) (bytes:=16) (z:=2) (by rw[mH];simp;omega) jz,up1 (show i+1<1000000000 by omega),<-xp]
 .unfold F1;simp only[EV,ai,aa];rw[ac (by omega)];unfold Ot;simp only[bF,EV];rfl
def agi {l:List Int}(hl:l.length<=1000):Ans D 141 [sl I1 l] [sl bT (dY l)]:=an (XI hl)
def RU {l:List Int}(hl:l.length<=1000):Ans D 170 [sl I1 l] [sl bT (dY l)]:=an (XI hl)
def JustR (c:Clock)(edges:List Crt):Prop:=c.certs.list.length=edges.length/\∀e∈edges,(∃h∈c.certs.list,h.cert=e)/\ leads c.now (ptOf c.pts e.high) (ptOf c.pts e.low)=true
open Classical in
def LD {c:Clock}{edges:List Crt}(hF:okF c.pts)(h64:aX c.now)(hl:edges.length<=1000)(hc:c.certs.list.length<=1000)(hin:∀e∈edges,inF c.pts e.low=true/\ inF c.pts e.high=true):Ans D 169 [CL c,sl bT edges] [.bool (decide (JustR c edges))]:=by
 refine an ⟨1001,?_⟩;unfold ZJ;simp only[ax,db,fu,EV,ai,aF,ak];by_cases h1:c.certs.list.length=edges.length
 .rw[ac (by omega)];refine(cw (m:=1001) (l:=edges) (p:=λe=>(c.certs.list.any λh=>decide (h.cert=e))&& leads c.now (ptOf c.pts e.high) (ptOf c.pts e.low)) (st:=λi=>[.i64 (i:Int)]) (r:=some [.bool false]) (fin:=some [.bool true]) (λi e self he _=>?_) (λ_ self=>?_) (by omega)).trans ?_
  .obtain⟨a1,a2⟩:=hin e (ay he);unfold Gg;simp only[ax,fq,mf,mh,aS he (jz _),aJ he,tq,phi (Lt (c:=c.certs) (x:=e) hc),phi (af4 (x:=e) hF h64 a1 a2),EV,ai,aa,bi (aN he),up1 (show i<1000000000 by have:=aN he;omega)]
   grind
  .unfold Gg;simp only[EV,ai,aa,bK,OH]
  .have:(edges.all λe=>(c.certs.list.any λh=>decide (h.cert=e))&& leads c.now (ptOf c.pts e.high) (ptOf c.pts e.low))=decide (JustR c edges):=by
    rw[d4,aa];unfold JustR;simp[h1]
   rw[this];cases decide (JustR c edges)<;>rfl
 .rw[ad (by omega),aj (λh=>h1 h.1)]
def J7 {c:Certs}(h:dk c):(c.list.map (·.cert)).Nodup:=by
 rw[pF];intro i j x hj hi e;rw[aW,bR] at hi e;obtain⟨a,ha,rfl⟩:=hi;obtain⟨b,hb,e⟩:=e;exact(h.2.2.2 i a ha).2.2.2.2 j hj b hb e
def Fg {c:Clock}{edges:List Crt}(hc:dk c.certs)(hn:edges.Nodup)(Q:Crt->Prop):
  (edges.length=c.certs.list.length/\∀h∈c.certs.list,h.cert∈edges/\ Q h.cert)↔(c.certs.list.length=edges.length/\∀e∈edges,(∃h∈c.certs.list,h.cert=e)/\ Q e):=by
 have key:=λh:(c.certs.list.map (·.cert)).length=edges.length=>TW (J7 hc) hn h Q
 grind
def xq {c:Clock}{edges:List Crt}(hc:dk c.certs)(hn:edges.Nodup)(hQ:∀e∈edges,leads c.now (ptOf c.pts e.high) (ptOf c.pts e.low)=true):JustP c edges↔JustR c edges:=by
 unfold JustP JustR;rw[<-Fg hc hn]
 grind
def Kk {l:List Int}{i:Nat}(h:i<l.length):nthI l i∈l:=ay (ew h)
def nG {l:List Int}{e:Crt}(h:e∈dY l):e.low∈l/\ e.high∈l:=by
 obtain⟨i,hi,rfl⟩:=bh.1 h;rw[dW] at hi;exact⟨Kk (by omega),Kk (by omega)⟩
def zy {l:List Int}(h:l.Nodup):(dY l).Nodup:=by
 rw[dE];intro i j x hi hj;unfold dY iG at hi hj;rw[aW,bR] at hi hj;obtain⟨a,ha,rfl⟩:=hi;obtain⟨b,hb,e⟩:=hj;have ha':=aN ha;have hb':=aN hb;rw[mF] at ha' hb';rw[iR ha'] at ha;rw[iR hb'] at hb;cases ha;cases hb;simp at e;have:=dE.1 h (i+1) (j+1) (nthI l (i+1)) (ew (by omega)) (by rw[<-e.1];exact ew (by omega));omega
def gP (k:KHeap):Prop:=bx k.clock/\ k.heap.length=k.clock.pts.length/\(∀x∈k.heap,inF k.clock.pts x=true)/\ k.heap.Nodup/\ JustR k.clock (dY k.heap)
def ey {l:List Pt}{x:Int}:inF l x=true↔x∈l.map Pt.id:=by
 constructor
 .intro h;have h:=ba h;rcases pos_cases l x with⟨e,_⟩|⟨i,p,h1,h2,h3⟩
  .omega
  .grind
 .intro h;obtain⟨p,hp,rfl⟩:=bh.1 h;cases e:inF l p.id with
  |true=>rfl
  |false=>exact absurd rfl (Kj e p hp)
def tU {k:KHeap}(h:gKh k=false):gCl k.clock=false/\ k.heap.length<=70:=by
 unfold gKh at h
 grind
def gQ {c:Clock}(h:gCl c=false):c.certs.list.length<=40:=by
 unfold gCl at h
 grind
open Classical in
def c81 {k:KHeap}(h64:ij k.clock)(hg:gKh k=false):Ans D 81 [KH k] [.i64 (okE (decide (gP k)))]:=by
 obtain⟨g1,g2⟩:=tU hg;have no:∀h:¬gP k,(some [PV.v (.int .i64 8)]:Option (List PV))=some [.i64 (okE (decide (gP k)))]:=λh=>by rw[aj h];rfl
 have cKH2:RF.ev (.cell 2) [KH k]=some (sl row k.clock.pts):=rfl;have pKH2:RF.ev (.part 2 1) [KH k]=some (F k.clock.pts):=rfl;refine an ⟨1001,?_⟩;unfold k81;simp only[ax,dz,pKH,cKH,cKH2,EV,ai,phi (Lx h64 g1),jb,aF,ak,aa];by_cases h1:bx k.clock
 .rw[ad h1];by_cases h2:k.heap.length=k.clock.pts.length
  .rw[ac (by omega)];have hF:=h1.2.1;refine(fD (m:=1001) (n:=k.heap.length) (P:=λi=>∀x,k.heap[i]?=some x->inF k.clock.pts x=true/\∀j,j<i->∀y,k.heap[j]?=some y->y≠x) (st:=λi=>[.i64 (i:Int)]) (r:=some [.i64 8]) (fin:=some [.i64 (okE (decide (gP k)))]) (λi self hi _=>?_) (λhall self=>?_) (by omega)).trans ?_
   .have hx:=ew hi;generalize nthI k.heap i=x at hx;have hP:(∀x',k.heap[i]?=some x'->inF k.clock.pts x'=true/\∀j,j<i->∀y,k.heap[j]?=some y->y≠x')↔(inF k.clock.pts x=true/\∀j,j<i->∀y,k.heap[j]?=some y->y≠x):=
     ⟨λh=>h x hx,λh x' e=>by rw[hx] at e;cases e;exact h⟩
    unfold Me;simp only[hP,ax,cKH,pKH2,aS hx (bS _),aJ hx,bZ,phi (me (l:=k.clock.pts) (by have:=hF.1;omega) x),EV,ai,aa,bi hi];by_cases c1:pos k.clock.pts x<0
    .rw[ad c1,ac (λy=>by have:=ba y.1;omega)]
    .rw[ac c1];have c1':inF k.clock.pts x=true:=au (by omega);refine(fD (m:=1001) (n:=i) (P:=λj=>∀y,k.heap[j]?=some y->y≠x) (st:=λi=>[.i64 (i:Int)]) (r:=some [.i64 8]) (fin:=self [.i64 ((i+1:Nat):Int)]) (λj self' hj _=>?_) (λ_ self'=>?_) (by omega)).trans ?_
     .have hy:=ew (l:=k.heap) (i:=j) (by omega);generalize nthI k.heap j=y at hy;have hQ:(∀y',k.heap[j]?=some y'->y'≠x)↔y≠x:=⟨λh=>h y hy,λh y' e=>by rw[hy] at e;cases e;exact h⟩;unfold Md;simp only[hQ,ax,cKH,aS hx (bS _),aJ hx,aS hy (bS _),aJ hy,bZ,EV,aa,bi hj,up1 (show j<1000000000 by omega)]
      by_cases c4:y=x
      .rw[ad c4,ac (by simp[c4])]
      .rw[ac c4,ad c4]
     .unfold Md;simp only[EV,aa,bK,Va,up1 (show i<1000000000 by omega)]
     .by_cases hq:∀j,j<i->∀y,k.heap[j]?=some y->y≠x
      .rw[ad hq,ad ⟨c1',hq⟩]
      .rw[ac hq,ac (λy=>hq y.2)]
   .have hin:∀x∈k.heap,inF k.clock.pts x=true:=λx hx=>by
     obtain⟨i,hi⟩:=aL.1 hx;exact(hall i (aN hi) x hi).1
    have hnd:k.heap.Nodup:=pF.2 λi j x hj hi e=>(hall i (aN hi) x hi).2 j hj x e rfl;unfold Me;simp only[ax,cKH,EV,ai,aa,bK,U9,pKH,bF,phi (RU (l:=k.heap) (by omega)),phi (LD (c:=k.clock) (edges:=dY k.heap) hF h64.1 (by unfold dY;rw[mH];omega) (by have:=gQ g1;omega) (λe he=>⟨hin _ (nG he).1,hin _ (nG he).2⟩)),aF,ak];by_cases hj:JustR k.clock (dY k.heap)
    .rw[ac (by simp[hj]),au (show gP k from⟨h1,h2,hin,hnd,hj⟩)];rfl
    .rw[ad hj];exact no (λh=>hj h.2.2.2.2)
   .by_cases hq:∀i,i<k.heap.length->∀x,k.heap[i]?=some x->inF k.clock.pts x=true/\∀j,j<i->∀y,k.heap[j]?=some y->y≠x
    .rw[ad hq]
    .rw[ac hq];refine no (λh=>hq λi hi x hx=>⟨h.2.2.1 x (ay hx),λj hj y hy e=>?_⟩);subst e;exact pF.1 h.2.2.2.1 i j y hj hx hy
  .rw[ad (by omega)];exact no (λh=>h2 h.2.1)
 .rw[ac h1];exact no (λh=>h1 h.1)
def Fh {l:List Pt}{h:List Int}(hs:hY l)(hl:h.length=l.length):(∀p∈l,p.id∈h)↔((∀x∈h,inF l x=true)/\ h.Nodup):=by
 constructor
 .intro a;have hp:=jI (l:=l.map Pt.id) (k:=h) (dD hs) (λx hx=>by obtain⟨p,hp,rfl⟩:=bh.1 hx;exact a p hp) (by rw[ai];omega);exact⟨λx hx=>ey.2 (hp.mem_iff.2 hx),hp.nodup_iff.1 (dD hs)⟩
 .rintro⟨a,b⟩ p hp;have hp':=jI (l:=h) (k:=l.map Pt.id) b (λx hx=>ey.1 (a x hx)) (by rw[ai];omega)
  grind
open Classical in
def c77 {k:KHeap}(h64:ij k.clock)(hg:gKh k=false):Ans D 77 [KH k] [.i64 (okE (decide (gP k)))]:=by
 obtain⟨g1,g2⟩:=tU hg;have no:∀h:¬gP k,(some [PV.v (.int .i64 8)]:Option (List PV))=some [.i64 (okE (decide (gP k)))]:=λh=>by rw[aj h];rfl
 have cKH2:RF.ev (.cell 2) [KH k]=some (sl row k.clock.pts):=rfl;have cKH4:RF.ev (.cell 4) [KH k]=some (sl hrow k.clock.certs.list):=rfl;have pKH2:RF.ev (.part 2 1) [KH k]=some (F k.clock.pts):=rfl;have pKH0:RF.ev (.part 0 2) [KH k]=some (R k.clock.now):=rfl;have el:(dY k.heap).length=k.heap.length-1:=by unfold dY;rw[mH]
 refine an ⟨1001,?_⟩;unfold k77;simp only[ax,dz,pKH,cKH,cKH2,EV,ai,phi (LC h64 g1),jb,aF,ak,aa];by_cases h1:bx k.clock
 .rw[ad h1];by_cases h2:k.heap.length=k.clock.pts.length
  .rw[ac (by omega)];have hF:=h1.2.1;refine(cw (m:=1001) (l:=k.clock.pts) (p:=λp=>decide (p.id∈k.heap)) (st:=λi=>[.i64 (i:Int)]) (r:=some [.i64 8]) (fin:=some [.i64 (okE (decide (gP k)))]) (λi p self hp _=>?_) (λhall self=>?_) (by omega)).trans ?_
   .unfold L9;simp only[ax,cKH,cKH2,dl,aS hp (bY _),aJ hp,gr,phi (age (l:=k.heap) p.id (by omega)),EV,aa,bi (aN hp),up1 (show i<1000000000 by have:=aN hp;omega)]
    grind
   .have hall:∀p∈k.clock.pts,p.id∈k.heap:=λp hp=>ba (aV.1 hall p hp);obtain⟨hin,hnd⟩:=(Fh hF.2.2 h2).1 hall;unfold L9;simp only[ax,cKH,cKH4,EV,ai,aa,bK,U4,phi (agi (l:=k.heap) (by omega)),aF,ak];by_cases h3:(dY k.heap).length=k.clock.certs.list.length
    .rw[ac (by omega)];have hJ:=Fg (c:=k.clock) h1.2.2.1 (zy hnd) (λe=>leads k.clock.now (ptOf k.clock.pts e.high) (ptOf k.clock.pts e.low)=true);refine(cw (m:=1001) (l:=k.clock.certs.list) (p:=λh=>decide (h.cert∈dY k.heap)&& leads k.clock.now (ptOf k.clock.pts h.cert.high) (ptOf k.clock.pts h.cert.low)) (st:=λi=>[.i64 (i:Int)]) (r:=some [.i64 8]) (fin:=some [.i64 0]) (λi h self hh _=>?_) (λ_ self=>?_) (by have:=gQ g1;omega)).trans ?_
     .unfold L8;simp only[ax,cKH4,pKH0,pKH2,rG,rH,pHP,aS hh (fi _),aJ hh,iS,phi (zW (l:=dY k.heap) h.cert (by omega)),EV,aa,bi (aN hh),up1 (show i<1000000000 by have:=aN hh;have:=gQ g1;omega)]
      by_cases c1:h.cert∈dY k.heap
      .obtain⟨m1,m2⟩:=nG c1;obtain⟨i1,p,a1,a2,a3,a4⟩:=iJ hF (hin _ m1);obtain⟨j1,q,b1,b2,b3,b4⟩:=iJ hF (hin _ m2);have hne:q.id≠p.id:=by rw[a2,b2];exactλe=>(h1.2.2.1.2.2.2 i h hh).1.2.2.2.2 e.symm
       have hA:=phi (afQ hF h64.1 h1.1 b1 a1 hne);rw[a2,b2] at hA;simp only[c1,az,aE,aq,aw,gm,ax,rG,rH,pKH0,pKH2,hA,a4,b4,EV,up1 (show i<1000000000 by have:=aN hh;have:=gQ g1;omega)]
       cases leads k.clock.now q p<;>simp
      .simp[c1]
     .unfold L8;simp only[EV,aa,bK,U3]
     .have:(k.clock.certs.list.all λh=>decide (h.cert∈dY k.heap)&& leads k.clock.now (ptOf k.clock.pts h.cert.high) (ptOf k.clock.pts h.cert.low))=true↔gP k:=by
       rw[aV];simp only[aM,aa];constructor
       .intro h;exact⟨h1,h2,hin,hnd,hJ.1 ⟨h3,h⟩⟩
       .intro h;exact(hJ.2 h.2.2.2.2).2
      by_cases hr:gP k
      .rw[ad (this.2 hr),au hr];rfl
      .rw[ac (λh=>hr (this.1 h)),aj hr];rfl
    .rw[ad (by omega)];exact no (λh=>h3 h.2.2.2.2.1.symm)
   .by_cases hq:(k.clock.pts.all λp=>decide (p.id∈k.heap))=true
    .rw[ad hq]
    .rw[ac hq];refine no (λh=>hq (aV.2 λp hp=>au ((Fh hF.2.2 h2).2 ⟨h.2.2.1,h.2.2.2.1⟩ p hp)))
  .rw[ad (by omega)];exact no (λh=>h2 h.2.1)
 .rw[ac h1];exact no (λh=>h1 h.1)
def AJ {α:Type}(p:α->Bool):∀(l:List α) (n:Nat),l.foldl (λn q=>if p q=true then n+1 else n) n=n+(l.filter p).length
 |[],n=>rfl
 |a::l,n=>by
  rw[cV,AJ p l,cy];cases p a
  .rfl
  .simp;omega
def agj {l:List Pt}{t:Rt}(h:okF l)(ht:aX t){i:Nat}{p:Pt}(hp:l[i]?=some p):Ans D 243 [F l,PP p,R t] [.i64 (rank t l p:Nat)]:=by
 have hl:=h.1;refine an ⟨1001,?_⟩;unfold aaw;simp only[ax,aO,bz,bU,EV];have e0:([PV.v (.int .i64 0),.v (.int .i64 0)]:List PV)=[.i64 ((0:Nat):Int),.i64 ((0:Nat):Int)]:=rfl;rw[e0];refine(iH (m:=1001) (l:=l) (g:=λn q=>if(decide (q.id≠p.id)&& leads t q p)=true then n+1 else n) (I:=λi n=>n<=i) (S:=λn i=>[.i64 ((n:Nat):Int),.i64 (i:Int)]) (fin:=λn=>some [.i64 ((n:Nat):Int)]) (x:=0) (aC _) (λi a acc _ h=>by split<;>omega) (λi q acc self hq hI=>?_) (λacc self _=>?_) (by omega)).1.trans ?_
 .unfold G9;have hi:=aN hq;simp only[ax,b8,dl,aS hq (bY _),aJ hq,gr,pP,EV,ai,aa,bi hi,aF,ak,Pr,phi (Cq (eQ h hq) (eQ h hp) ht)];by_cases c1:q.id=p.id
  .rw[ac (by simp[c1])];simp only[aq,aw,EV,Bk,up1 (show i<1000000000 by omega)]
   simp[c1]
  .rw[ad c1];cases leads t q p with
   |true=>simp only[aA,EV,Bk,up1 (show i<1000000000 by omega),up1 (show acc<1000000000 by omega)];simp[c1]
   |false=>simp only[aq,aw,EV,Bk,up1 (show i<1000000000 by omega)];simp
 .unfold G9;simp only[ax,b8,EV,ai,aa,bK,Pq]
 .rw[AJ (λq=>decide (q.id≠p.id)&& leads t q p),bX];rfl
def xr (t:Rt)(l:List Pt):∀(ps:List Pt) (out:List Int),Bnd.ordered t l ps out=ps.foldl (λout p=>out.set (rank t l p) p.id) out
 |[],out=>rfl
 |p::ps,out=>by unfold Bnd.ordered;rw[xr t l ps,cV]
def Kl {t:Rt}{l:List Pt}{p:Pt}(h:p∈l):rank t l p<l.length:=by
 unfold rank;rw[List.length_filter_lt_length_iff_exists]
 grind
def xu {n:Nat}(h:n<=1000):RF.ev (.rep [KP.z] 8) [.v (.int .i64 (n:Int)),.v (.int .i64 (n:Int))]=some (sl I1 (List.replicate n 0)):=by
 rw[VA,ad ⟨by omega,by omega,by omega,by omega⟩,aG];show _=some (PV.sl ((List.replicate n 0).map I1))
 rw[List.map_replicate];rfl
def dQ {l:List Int}{i:Nat}(h:i<l.length)(x:Int):RF.ev (.set 0) [sl I1 l,.v (.int .i64 (i:Int)),.v (.int .i64 x)]=some (sl I1 (l.set i x)):=by
 rw[qY,ad (by omega),aG,aW,ah h];exact bj (λx=>some (PV.sl x)) (jZ (f:=I1) (l:=l) (i:=i) (a:=x)).symm
def agk {l:List Pt}{t:Rt}(h:okF l)(ht:aX t):Ans D 152 [F l,R t] [sl I1 ((oJ t l).map Pt.id)]:=by
 have hl:=h.1;refine an ⟨1001,?_⟩;unfold Zw;simp[aO,bU,b8,xu (show l.length<=1000 by omega),EV]
 refine(iH (m:=1001) (l:=l) (g:=λout p=>out.set (rank t l p) p.id) (I:=λ_ out=>out.length=l.length) (S:=λout i=>[sl I1 out,.i64 (i:Int)]) (fin:=λout=>some [sl I1 out]) (x:=List.replicate l.length 0) (by simp) (λi a acc _ h=>by simpa using h) (λi p acc self hp hI=>?_) (λacc self hI=>?_) (by omega)).1.trans ?_
 .unfold F6;simp only[b8,aS hp (bY _),aJ hp,gr,pP,EV,ai,aa,bi (aN hp),phi (agj h ht hp),ixM (Kl (ay hp)),dQ (show rank t l p<acc.length by rw[hI];exact Kl (ay hp)),up1 (show i<1000000000 by have:=aN hp;omega)]
 .unfold F6;have:=bF (f:=I1) (l:=acc);rw[hI] at this;simp only[ax,b8,EV,ai,aa,bK,Ox,this]
 .rw[<-xr,Ni (dD h.2.2) (by simp)]
def mo (x:Int×Int):List PV:=[.i64 x.1,.i64 x.2]
def XJ (x:Int×Int):(mo x).length=2:=rfl
def adW (x:Int×Int):cF 0 0 (mo x)=some (.i64 x.1):=rfl
def adX (x:Int×Int):cF 1 0 (mo x)=some (.i64 x.2):=rfl
def Dy (l:List Int)(d:Nat):(hM l d 0).length+(hM l d 1).length<=l.length:=by
 unfold hM;induction l with
 |nil=>simp
 |cons x l ih=>
  grind
def sM:∀(n:Nat) (l:List Int) (f:Int) (d:Nat),l.length<=n->(iB l f d).length<=l.length
 |0,l,f,d,h=>by
  have hl:l=[]:=c9.1 (by omega);subst hl;unfold iB;simp
 |n+1,[],f,d,_=>by unfold iB;simp
 |n+1,o::os,f,d,h=>by
  unfold iB;simp at h|-;have h0:=wG (l:=os) (d:=d) (b:=0);have h1:=wG (l:=os) (d:=d) (b:=1);have a:=sM n (hM os d 0) o (d+1) (by omega);have b:=sM n (hM os d 1) o (d+1) (by omega);have:=Dy os d;omega
def tv {α:Type}(p:α->Bool):∀(l acc:List α),l.foldl (λacc x=>if p x=true then acc++[x] else acc) acc=acc++l.filter p
 |[],acc=>by simp
 |a::l,acc=>by
  rw[cV,tv p l,cy];cases p a<;>simp
def bsI (x:Int):RF.ev (.bs 1 [KP.z] [0]) [.i64 x]=some (sl I1 [x]):=rfl
def kV (x:Int):RF.ev .sub [sl I1 [x],.v (.int .i64 0),.v (.int .i64 1)]=some (sl I1 [x]):=rfl
def XK {x:Int}(h:0<=x)(d:Nat):de .shr .i64 x .i64 (d:Int)=some (.v (.int .i64 (x.fdiv (2^(min d 64)))))/\ de .rem .i64 (x.fdiv (2^(min d 64))) .i64 2=some (.v (.int .i64 (gS x d))):=by
 constructor
 .rw[Nc,ac (by omega),aG];rfl
 .rw[ES,ac (by decide)];unfold gS;have:0<=x.fdiv (2^(min d 64)):=by
   rw[it _ (sA (zK (by decide)))];exact Int.ediv_nonneg h (sA (zK (by decide)))
  grind
def agl:∀(n:Nat) (os:List Int) (f:Int) (d:Nat),os.length<=n->n<=1000->d+n<=10000->(∀x∈os,0<=x)->Ans D 269 [sl I1 os,.i64 f,.i64 (d:Int)] [sl mo (iB os f d)]:=by
 intro n;induction n with
 |zero=>
  intro os f d h _ _ _;have hl:os=[]:=c9.1 (by omega);subst hl;refine an ⟨1001,?_⟩;unfold Mr iB;simp only[EV,ai,dI,fP,az,aA];rfl
 |succ n ih=>
  intro os f d h hn hd h0;cases os with
  |nil=>
   refine an ⟨1001,?_⟩;unfold Mr iB;simp only[EV,ai,dI,fP,az,aA];rfl
  |cons o os=>
   simp only[bA] at h;have hlen:=Dy os d;have hs:∀b,(hM os d b).length<=n/\∀x∈hM os d b,0<=x:=λb=>⟨by have:=wG (l:=os) (d:=d) (b:=b);omega,λx hx=>h0 x (bJ _ (bE.1 hx).1)⟩;have hr:=λb=>sM n (hM os d b) o (d+1) (hs b).1;have hh:=λb=>phi (ih (hM os d b) o (d+1) (hs b).1 (by omega) (by omega) (hs b).2);have o0:(o::os)[0]?=some o:=rfl;have tx0:RF.ev (.tix 1) [sl I1 (o::os),.v (.int .i64 0)]=some (.i64 ((0:Nat):Int)):=aS o0 (bS _);have ag:RF.ev .agg [.i64 o,.i64 f]=some (.agg (mo (o,f))):=rfl;have bs:RF.ev (.bs 1 [KP.z,KP.z] [0]) [.agg (mo (o,f))]=some (sl mo [(o,f)]):=rfl
   let outs:Nat->List (Int×Int):=λi=>match i with|0=>[(o,f)]|1=>[(o,f)]++iB (hM os d 0) o (d+1)|_=>[(o,f)]++iB (hM os d 0) o (d+1)++iB (hM os d 1) o (d+1)
   refine an ⟨1001,?_⟩;unfold Mr;have ne:decide (((o::os).length:Int)=0)=false:=aj (by simp;omega);simp only[tx0,aJ o0,bZ,ag,bs,EV,ai,ne,aq,aw];refine(dP (m:=1001) (n:=2) (st:=λi=>[sl mo (outs i),.i64 ((outs i).length:Int),.i64 (i:Int)]) (fin:=some [sl mo (outs 2)]) (λi self hi=>?_) (λself=>?_) (by omega)).trans ?_
   .unfold Hv;have l2:decide ((i:Int)<2)=true:=au (by omega);simp only[EV,l2,cQ,aA];have e0:([PV.sl [],.v (.int .i64 0),.v (.int .i64 1)]:List PV)=[sl I1 ([]:List Int),.i64 ((([]:List Int).length:Nat):Int),.i64 ((0+1:Nat):Int)]:=rfl;rw[e0];refine(iH (m:=1001) (l:=os) (g:=λacc x=>if decide (gS x d=(i:Int))=true then acc++[x] else acc) (I:=λi acc=>acc.length<=i) (S:=λacc k=>[sl I1 acc,.i64 (acc.length:Int),.i64 ((k+1:Nat):Int)]) (fin:=λacc=>den (aY D) 1001 Ht [oC (aY D) 1001 Hs [] [sl I1 (o::os),.i64 f,.i64 (d:Int),.v (.int .i64 ((o::os).length:Int)),.v (.bool false),.i64 ((0:Nat):Int),.i64 o,.agg (mo (o,f)),sl mo [(o,f)]],self] [sl I1 (o::os),.i64 f,.i64 (d:Int),.v (.int .i64 ((o::os).length:Int)),.v (.bool false),.i64 ((0:Nat):Int),.i64 o,.agg (mo (o,f)),sl mo [(o,f)],sl mo (outs i),.i64 ((outs i).length:Int),.i64 (i:Int),.v (.bool true),.i64 ((os.length+1:Nat):Int),sl I1 acc,.i64 (acc.length:Int),.v (.int .i64 ((o::os).length:Int)),.v (.bool (decide (((os.length+1:Nat):Int)<((o::os).length:Int))))]) (x:=[]) (by simp) (λi a acc _ h=>by
     split
     .rw[aB,aQ];omega
     .omega) (λk x acc self' hx hI=>?_) (λacc self' hI=>?_) (by omega)).1.trans ?_
    .have hx':(o::os)[k+1]?=some x:=by simpa using hx
     have hk:=aN hx;obtain⟨b1,b2⟩:=XK (h0 x (bJ _ (ay hx))) d;unfold Hu;simp only[aS hx' (bS _),aJ hx',bZ,fN,b1,b2,EV,ai,aa,bi (show k+1<(o::os).length by simp;omega),Bl]
     by_cases c1:gS x d=(i:Int)
     .rw[ad c1,ad c1];simp only[aS hx' (bS _),aJ hx',bZ,bsI,kV,fh (f:=I1) (l:=acc) (k:=[x]) (bytes:=8) (z:=1) (by simp;omega) bS,EV,ai,Bl,up1 (show k+1<1000000000 by omega)]
     .rw[ac c1,ac c1];simp only[EV,Bl,up1 (show k+1<1000000000 by omega)]
    .unfold Hu;simp only[EV,ai,aa];rw[ac (by simp)]
    .rw[tv (λx=>decide (gS x d=(i:Int))),aT];have hi2:=hh (i:Int);have he:(List.filter (λx=>decide (gS x d=(i:Int))) os)=hM os d (i:Int):=rfl;rw[he];unfold Ht;have ho:(outs i).length<=2000:=by
      have:=hr 0
      match i,hi with
      |0,_=>simp[outs]
      |1,_=>simp[outs];omega
     have hn1:outs i++iB (hM os d (i:Int)) o (d+1)=outs (i+1):=by
      match i,hi with
      |0,_=>rfl
      |1,_=>rfl
     have hd1:IntKind.i64.wrap ((d:Int)+1)=((d+1:Nat):Int):=up1 (by omega);simp only[tx0,aJ o0,bZ,bF,EV,hd1,hi2,fh (f:=mo) (l:=outs i) (k:=iB (hM os d (i:Int)) o (d+1)) (bytes:=16) (z:=2) (by have:=hr (i:Int);have:=(hs (i:Int)).1;omega) XJ,ai,hn1,up1 (show i<1000000000 by omega)]
   .unfold Hv;simp only[EV,show decide (((2:Nat):Int)<2)=false from rfl,aq,aw,Hs,bF]
   .unfold iB;simp only[outs,bf,aT]
def LE {t:Rt}:∀(n:Nat) (l:List Pt) (f:Int) (d:Nat),l.length<=n->Ids l->((f9 t l f d).map (·.1)).Nodup:=by
 intro n;induction n with
 |zero=>
  intro l f d h _;have:l=[]:=c9.1 (by omega);subst this;rw[f9];simp
 |succ n ih=>
  intro l f d h hi;cases l with
  |nil=>rw[f9];simp
  |cons p l=>
   simp only[bA] at h;have hmem:∀(bt:Int) (x:Pt),x∈io (p::l) (eY t l p).id d bt->x∈p::l/\ x.id≠(eY t l p).id/\ gS x.id d=bt:=λbt x hx=>by
    unfold io at hx
    grind
   have hs:∀bt:Int,(io (p::l) (eY t l p).id d bt).length<=n:=λbt=>by
    have:=rq (t:=t) (p:=p) (l:=l) (d:=d) (b:=bt);omega
   have hid:∀bt:Int,Ids (io (p::l) (eY t l p).id d bt):=λbt=>hi.filter _;have fac:=λbt:Int=>p6 (t:=t) n (io (p::l) (eY t l p).id d bt) (eY t l p).id (d+1) (hs bt) (hid bt);rw[f9,bN,fJ,cd,fG]
   grind
def Km {k v:Int}:∀{ps:List (Int×Int)},(∀x∈ps,x.1≠k)->luk ps k v=v
 |[],_=>rfl
 |x::ps,h=>by
  show luk ps k (if x.1=k then x.2 else v)=v
  rw[ac (h x (by simp))];exact Km λy hy=>h y (by simp[hy])
def Hm (ps:List (Int×Int)):PV:= .sl (ps.map λx=>[.i64 x.1,.i64 x.2])
def Uk {k v:Int}:∀(ps:List (Int×Int)),(∀x∈ps,x.1≠k)->jl [.i] [.i64 k] [.i64 v] (ps.map λx=>[.i64 x.1,.i64 x.2])=some ((ps++[(k,v)]).map λx=>[.i64 x.1,.i64 x.2])
 |[],_=>by simp[jl,eqN]
 |a::l,h=>by
  simp only[bN,bf,jl];rw[show([PV.i64 a.1,.i64 a.2].take [Ck.i].length)=[.i64 a.1] from rfl,eqN,aj (h a (by simp))]
  simp only;rw[Uk l (λx hx=>h x (by simp[hx]))]
def agm {ps:List (Int×Int)}{k v:Int}(h:∀x∈ps,x.1≠k):RF.ev (.mset [.i] 1) [Hm ps,.v (.int .i64 k),.v (.int .i64 v)]=some (Hm (ps++[(k,v)])):=by
 unfold Hm;simp[RF.ev,show(PV.v (.int .i64 k)).cells=[.i64 k] from rfl,show(PV.v (.int .i64 v)).cells=[.i64 v] from rfl,Uk ps h]
 rfl
def Ul {k:Int}:∀(ps:List (Int×Int)),(ps.map (·.1)).Nodup->∀v,∃r,dL [.i] [.i64 k] (ps.map λx=>[.i64 x.1,.i64 x.2])=some r/\ r.getD [.i64 v]=[.i64 (luk ps k v)]
 |[],_,v=>⟨none,by simp[dL,eqN],rfl⟩
 |a::l,h,v=>by
  rw[bN,cd] at h;simp only[bN,dL];rw[show([PV.i64 a.1,.i64 a.2].take [Ck.i].length)=[.i64 a.1] from rfl,eqN]
  by_cases e:a.1=k
  .rw[au e];refine⟨some [.i64 a.2],rfl,?_⟩;show [PV.i64 a.2]=[.i64 (luk l k (if a.1=k then a.2 else v))]
   rw[ad e,Km λy hy e'=>h.1 (by rw[e,<-e'];exact bh.2 ⟨y,hy,rfl⟩)]
  .rw[aj e];obtain⟨r,h1,h2⟩:=Ul l h.2 v;refine⟨r,h1,?_⟩;show _=[PV.i64 (luk l k (if a.1=k then a.2 else v))]
   rw[ac e,h2]
def agn {ps:List (Int×Int)}{k:Int}(h:(ps.map (·.1)).Nodup):RF.ev (.mget [.i] [KP.z]) [Hm ps,.v (.int .i64 k)]=some (.i64 (luk ps k 0)):=by
 obtain⟨r,h1,h2⟩:=Ul ps h 0 (k:=k);unfold Hm;simp only[RF.ev,show(PV.v (.int .i64 k)).cells=[.i64 k] from rfl,h1]
 exact bj (λx=>some (IA x)) h2
def ago {a:Int}(h0:0<=a)(h1:a<4611686018427387904):de .and .i64 a .i64 1=some (.v (.int .i64 (a% 2))):=by
 rw[VD]
 congr 3
 have e:(BitVec.ofInt IntKind.i64.bits a&&& BitVec.ofInt IntKind.i64.bits 1).toNat=a.toNat% 2:=by
  show(BitVec.ofInt 64 a&&& BitVec.ofInt 64 1).toNat=_
  grind
 rw[e,bV (by omega) (by omega)];omega
def agp {x:Int}(h:0<=x)(h1:x<4611686018427387904)(d:Nat):de .shr .i64 x .i64 (d:Int)=some (.v (.int .i64 (x.fdiv (2^(min d 64)))))/\ de .and .i64 (x.fdiv (2^(min d 64))) .i64 1=some (.v (.int .i64 (gS x d))):=by
 refine⟨(XK h d).1,?_⟩;have hp:(0:Int)<2^(min d 64):=zK (by decide);rw[it _ (sA hp)];have h2:=Int.ediv_nonneg h (sA hp);have h3:x/2^(min d 64)<=x:=Int.ediv_le_self _ h;rw[ago h2 (by omega)];unfold gS
 grind
def bit_two (x:Int)(d:Nat):gS x d=0\/gS x d=1:=by
 unfold gS;omega
def qK {α:Type}(p q:α->Bool):∀(l a b:List α),l.foldl (λ(acc:List α×List α) x=>if p x=true then(acc.1++[x],acc.2) else if q x=true then(acc.1,acc.2++[x]) else acc) (a,b)=(a++l.filter p,b++l.filter λx=>!p x&& q x)
 |[],a,b=>by simp
 |x::l,a,b=>by
  rw[cV,cy,cy];cases hp:p x with
  |true=>simp[qK p q l]
  |false=>
   cases hq:q x with
   |true=>simp[qK p q l]
   |false=>simp[qK p q l]
def Dz (t:Rt):∀(l:List Pt) (b:Pt),l.foldl (λb p=>if leads t p b=true then p else b) b=eY t l b
 |[],_=>rfl
 |p::l,b=>by rw[cV,Dz t l];rfl
def agq (p:Pt):RF.ev .agg [.v (.int .i64 p.id),.v (.int .i64 p.a),.v (.int .i64 p.b)]=some (PP p):=rfl
def bsP (p:Pt):RF.ev (.bs 1 [KP.z,KP.z,KP.z] [0]) [PP p]=some (sl row [p]):=rfl
def vA (p:Pt):RF.ev .sub [sl row [p],.v (.int .i64 0),.v (.int .i64 1)]=some (sl row [p]):=rfl
def agr {t:Rt}(ht:aX t)(hr:rok t=true):∀(n:Nat) (l:List Pt) (f:Int) (d:Nat) (ps:List (Int×Int)),l.length<=n->n<=1000->d+n<=10000->(∀p∈l,p.ok=true)->Ids l->(∀x∈ps,∀p∈l,x.1≠p.id)->Ans D 221 [sl row l,R t,.i64 f,.i64 (d:Int),.sl [],Hm ps] [Hm (ps++f9 t l f d)]:=by
 intro n;induction n with
 |zero=>
  intro l f d ps h _ _ _ _ _;have hl:l=[]:=c9.1 (by omega);subst hl;refine am ?_;unfold Mm;rw[f9,aR];simp only[ax,bU,EV,ai,dI,fP,az,aA]
 |succ n ih=>
  intro l f d ps h hn hd hok hids hps;cases l with
  |nil=>
   refine am ?_;unfold Mm;rw[f9,aR];simp only[ax,bU,EV,ai,dI,fP,az,aA]
  |cons p0 l=>
   simp only[bA] at h;have hbn:∀p∈p0::l,0<=p.id/\ p.id<=65535:=λp hp=>by have:=Pt.bnd (hok p hp);omega
   have htop:eY t l p0∈p0::l:=by
    rcases topP_mem t l p0 with e|e
    .rw[e];simp
    .simp[e]
   have o0:(p0::l)[0]?=some p0:=rfl;have tx0:RF.ev (.tix 3) [sl row (p0::l),.v (.int .i64 0)]=some (.i64 ((0:Nat):Int)):=aS o0 (bY _);have bn:RF.ev .bnd [.v (.int .i64 1),.v (.int .i64 (((p0::l).length:Nat):Int))]=some (.i64 1):=by rw[jO,ad ⟨by omega,by simp;omega⟩]
   have ts:RF.ev (.tsub 3) [sl row (p0::l),.v (.int .i64 1),.v (.int .i64 (((p0::l).length:Nat):Int))]=some (sl row l):=by
    rw[B5,ad ⟨by omega,by simp;omega,by simp,rfl,by decide⟩];simp[bv]
   have ne:decide (((p0::l).length:Int)=0)=false:=aj (by simp;omega);refine an ⟨1001,?_⟩;unfold Mm;simp only[ax,bU,tx0,aJ o0,gr,bn,ts,dl,tT,nX,EV,ai,ne,aq,aw];refine(iH (m:=1001) (l:=l) (g:=λb p=>if leads t p b=true then p else b) (I:=λi b=>b=p0\/∃j,j<i/\ l[j]?=some b) (S:=λb i=>[.i64 b.id,.i64 b.a,.i64 b.b,.i64 (i:Int)]) (fin:=λb=>den (aY D) 1001 GT [] [sl row (p0::l),R t,.i64 f,.i64 (d:Int),.sl [],Hm ps,R t,.v (.int .i64 (((p0::l).length:Nat):Int)),.v (.bool false),.i64 ((0:Nat):Int),PP p0,.v (.int .i64 (((p0::l).length:Nat):Int)),.i64 1,sl row l,.v (.int .i64 ((l.length:Nat):Int)),.i64 b.id,.i64 b.a,.i64 b.b]) (x:=p0) (.inl rfl) (λi a b ha hI=>?_) (λi p b self hp hI=>?_) (λb self hI=>?_) (by omega)).1.trans ?_
   .split
    .exact .inr ⟨i,gH _,ha⟩
    .exact hI.imp id λ⟨j,h1,h2⟩=>⟨j,Nat.lt_succ_of_lt h1,h2⟩
   .have hlt:=aN hp;have hpm:p∈p0::l:=by simp[ay hp]
    have hbm:b∈p0::l:=by
     rcases hI with e|⟨j,_,e⟩
     .rw[e];simp
     .simp[ay e]
    have hne:p.id≠b.id:=λe=>by
     have e:=hids.inj hpm hbm e;subst e;unfold Ids at hids;rcases hI with e|⟨j,hj,e⟩
     .subst e;exact(cd.1 hids).1 (bh.2 ⟨_,ay hp,rfl⟩)
     .have:=dE.1 (cd.1 hids).2 j i p.id (by rw[aW,e];rfl) (by rw[aW,hp];rfl);omega
    have hA:=phi (E6 (p:=p) (q:=b) ht);rw[ad (lu (hok p hpm) (hok b hbm) hr hne)] at hA;unfold GU;simp only[ax,aS hp (bY _),aJ hp,gr,agq,hA,dl,tT,nX,EV,aa,bi hlt,Pg,up1 (show i<1000000000 by omega)]
    cases leads t p b<;>simp
   .unfold GU;simp only[EV,aa,bK]
   .rw[Dz];generalize htt:eY t l p0=tp at htop;have hseen:∀x∈ps,x.1≠tp.id:=λx hx=>hps x hx tp htop;unfold GT;simp only[ax,agm hseen,EV,ai];have e0:([PV.sl [],.v (.int .i64 0),.sl [],.v (.int .i64 0),.v (.int .i64 0)]:List PV)=[sl row ([]:List Pt),.i64 ((([]:List Pt).length:Nat):Int),sl row ([]:List Pt),.i64 ((([]:List Pt).length:Nat):Int),.i64 ((0:Nat):Int)]:=rfl;rw[e0];refine(iH (m:=1001) (l:=p0::l) (g:=λ(acc:List Pt×List Pt) x=>if(decide (x.id≠tp.id)&& decide (gS x.id d=0))=true then(acc.1++[x],acc.2) else if(decide (x.id≠tp.id)&& decide (gS x.id d=1))=true then(acc.1,acc.2++[x]) else acc) (I:=λi acc=>acc.1.length<=i/\ acc.2.length<=i) (S:=λacc i=>[sl row acc.1,.i64 (acc.1.length:Int),sl row acc.2,.i64 (acc.2.length:Int),.i64 (i:Int)]) (fin:=λacc=>den (aY D) 1001 GR [] [sl row (p0::l),R t,.i64 f,.i64 (d:Int),.sl [],Hm ps,R t,.v (.int .i64 (((p0::l).length:Nat):Int)),.v (.bool false),.i64 ((0:Nat):Int),PP p0,.v (.int .i64 (((p0::l).length:Nat):Int)),.i64 1,sl row l,.v (.int .i64 ((l.length:Nat):Int)),.i64 tp.id,.i64 tp.a,.i64 tp.b,Hm (ps++[(tp.id,f)]),.v (.int .i64 (((p0::l).length:Nat):Int)),sl row acc.1,.i64 (acc.1.length:Int),sl row acc.2,.i64 (acc.2.length:Int)]) (x:=(([],[]):List Pt×List Pt)) ⟨aC _,aC _⟩ (λi a acc _ hI=>?_) (λi x acc self hx hI=>?_) (λacc self hI=>?_) (by simp;omega)).1.trans ?_
    .split
     .exact⟨by simp;omega,by show acc.2.length<=_;have:=hI.2;omega⟩
     .split
      .exact⟨by show acc.1.length<=_;have:=hI.1;omega,by simp;omega⟩
      .exact⟨by have:=hI.1;omega,by have:=hI.2;omega⟩
    .have hlt:=aN hx;have hl1:(p0::l).length<=1000:=by simp;omega
     have hxb:=hbn x (ay hx);obtain⟨b1,b2⟩:=agp hxb.1 (by omega) d;unfold GS;simp only[ax,aS hx (bY _),aJ hx,gr,dl,fN,b1,b2,EV,ai,aa,bi hlt,Bh,up1 (show i<1000000000 by omega),aF,ak]
     by_cases c1:x.id=tp.id
     .simp only[c1,cX,aw,ne_eq,bw,u7,aq]
     .simp only[c1,fI,aA,ne_eq,az,gm,aa];rcases bit_two x.id d with c2|c2
      .simp only[c2,aA,ax,bsP,vA,fh (f:=row) (l:=acc.1) (k:=[x]) (bytes:=24) (z:=3) (by simp;omega) bY,EV,ai,Bh,up1 (show i<1000000000 by omega)]
      .simp only[c2,show¬((1:Int)=0) by decide,aw,aA,az,ax,bsP,vA,fh (f:=row) (l:=acc.2) (k:=[x]) (bytes:=24) (z:=3) (by simp;omega) bY,EV,ai,Bh,up1 (show i<1000000000 by omega)]
    .unfold GS;simp only[EV,aa,bK]
    .rw[qK];have s0:(p0::l).filter (λx=>decide (x.id≠tp.id)&& decide (gS x.id d=0))=io (p0::l) tp.id d 0:=rfl;have s1:(p0::l).filter (λx=>!(decide (x.id≠tp.id)&& decide (gS x.id d=0))&&(decide (x.id≠tp.id)&& decide (gS x.id d=1)))=io (p0::l) tp.id d 1:=by
      unfold io;refine jR λx _=>?_;by_cases c1:x.id=tp.id
      .simp[c1]
      .rcases bit_two x.id d with c2|c2<;>simp[c1,c2]
     rw[s0,s1,aT,aT];have hm:∀(b:Int) (x:Pt),x∈io (p0::l) tp.id d b->x∈p0::l/\ x.id≠tp.id/\ gS x.id d=b:=λb x hx=>by
      obtain⟨h1,h2⟩:=bE.1 hx;simp only[aM,aa] at h2;exact⟨h1,h2.1,h2.2⟩
     have hsl:∀b:Int,(io (p0::l) tp.id d b).length<=n:=λb=>by
      have:=rq (t:=t) (p:=p0) (l:=l) (d:=d) (b:=b);rw[htt] at this;omega
     have hsi:∀b:Int,Ids (io (p0::l) tp.id d b):=λb=>hids.filter _;have r0:=phi (ih (io (p0::l) tp.id d 0) tp.id (d+1) (ps++[(tp.id,f)]) (hsl 0) (by omega) (by omega) (λp hp=>hok p (hm 0 p hp).1) (hsi 0) (λx hx p hp=>by
      rcases b9.1 hx with hx|hx
      .exact hps x hx p (hm 0 p hp).1
      .simp only[cg] at hx;subst hx;exactλe=>(hm 0 p hp).2.1 e.symm))
     have r1:=phi (ih (io (p0::l) tp.id d 1) tp.id (d+1) (ps++[(tp.id,f)]++f9 t (io (p0::l) tp.id d 0) tp.id (d+1)) (hsl 1) (by omega) (by omega) (λp hp=>hok p (hm 1 p hp).1) (hsi 1) (λx hx p hp=>by
      rcases b9.1 hx with hx|hx
      .rcases b9.1 hx with hx|hx
       .exact hps x hx p (hm 1 p hp).1
       .simp only[cg] at hx;subst hx;exactλe=>(hm 1 p hp).2.1 e.symm
      .obtain⟨q,hq,e,_⟩:=p6 (t:=t) n _ tp.id (d+1) (hsl 0) (hsi 0) x hx;intro e';have:=hids.inj (hm 0 q hq).1 (hm 1 p hp).1 (e.trans e');subst this;have h1:=(hm 0 q hq).2.2;rw[(hm 1 q hp).2.2] at h1;cases h1))
     have hd1:IntKind.i64.wrap ((d:Int)+1)=((d+1:Nat):Int):=up1 (by omega);unfold GR;simp only[EV,hd1,bF,r0,r1];rw[f9,htt];simp[aU]
def jM (t:Rt)(l:List Pt):List (Int×Int):=f9 t l (-1) 0
def upsO (t:Rt)(l:List Pt):List Int:=l.map λp=>luk (jM t l) p.id 0
def Fi {l:List Pt}(hs:hY l):∀(ps:List (Int×Int)) (out:List Int),out.length=l.length->(∀x∈ps,∃p∈l,p.id=x.1)->∀(i:Nat) (p:Pt) (v:Int),l[i]?=some p->out[i]?=some v->(ps.foldl (λout x=>out.set (pos l x.1).toNat x.2) out)[i]?=some (luk ps p.id v)
 |[],out,_,_,i,p,v,_,hv=>hv
 |x::ps,out,ho,hm,i,p,v,hp,hv=>by
  rw[cV];unfold luk;rw[cV];obtain⟨q,hq,hqx⟩:=hm x (by simp);obtain⟨j,hj⟩:=aL.1 hq;have hpos:pos l x.1=j:=by rw[<-hqx];exact zS hs hj
  refine Fi hs ps _ (by simpa using ho) (λy hy=>hm y (bJ _ hy)) i p _ hp ?_
  rw[hpos,aG];by_cases e:i=j
  .subst e;rw[hp] at hj;cases hj;rw[ad hqx.symm,be (by have:=aN hp;omega)]
  .rw[bG (by omega),ac (λh=>e ?_)]
   .exact hv
   .exact dE.1 (dD hs) i j p.id (by rw[aW,hp];rfl) (by rw[aW,hj,cf,hqx,h])
def Fj (l:List Pt):∀(ps:List (Int×Int)) (out:List Int),(ps.foldl (λout x=>out.set (pos l x.1).toNat x.2) out).length=out.length
 |[],out=>rfl
 |x::ps,out=>by rw[cV,Fj l ps,aH]
def ji {l:List Pt}(h:okF l):∀p∈l,0<=p.id/\ p.id<=65535:=λp hp=>by
 obtain⟨i,hi⟩:=aL.1 hp;have:=Pt.bnd (eQ h hi);omega
def RV {l:List Pt}{t:Rt}(h:okF l)(ht:aX t):Ans D 179 [F l,R t] [sl I1 (upsO t l)]:=by
 have hl:=h.1;have hh:=phi (agl 64 ((oJ t l).map Pt.id) (-1) 0 (by rw[ai,(jr t l).length_eq];omega) (by omega) (by omega) (λx hx=>by
  obtain⟨p,hp,rfl⟩:=bh.1 hx;exact(ji h p ((jr t l).mem_iff.1 hp)).1))
 rw[KU 64 l (oJ t l) (-1) 0 hl (jr t l) (yA (dD h.2.2)) (dD h.2.2)] at hh;have hlen:(jM t l).length<=64:=by
  have:=sM 64 ((oJ t l).map Pt.id) (-1) 0 (by rw[ai,(jr t l).length_eq];omega);rw[KU 64 l (oJ t l) (-1) 0 hl (jr t l) (yA (dD h.2.2)) (dD h.2.2),ai,(jr t l).length_eq] at this;unfold jM;omega
 have hkey:∀x∈jM t l,∃p∈l,p.id=x.1:=λx hx=>by
  obtain⟨p,hp,e,_⟩:=p6 64 l (-1) 0 hl (dD h.2.2) x hx
  grind
 refine an ⟨1001,?_⟩;unfold ZU;have z0:PV.v (.int .i64 0)= .i64 ((0:Nat):Int):=rfl;have hh':aY D 269 [sl I1 ((oJ t l).map Pt.id),.v (.int .i64 (-1)),.v (.int .i64 0)]=some [sl mo (jM t l)]:=hh;simp only[ax,aO,bU,b8,phi (agk h ht),hh',xu (show l.length<=1000 by omega),EV,ai,aP]
 refine(iH (m:=1001) (l:=jM t l) (g:=λout x=>out.set (pos l x.1).toNat x.2) (I:=λ_ out=>out.length=l.length) (S:=λout i=>[sl I1 out,.i64 (i:Int)]) (fin:=λout=>some [sl I1 out]) (x:=List.replicate l.length 0) (by simp) (λi a acc _ h=>by simpa using h) (λi x acc self hx hI=>?_) (λacc self hI=>?_) (by omega)).1.trans ?_
 .obtain⟨p,hp,e⟩:=hkey x (ay hx);obtain⟨j,hj⟩:=aL.1 hp;have hpos:pos l x.1=j:=by rw[<-e];exact zS h.2.2 hj
  have hAt:=phi (me (l:=l) (by omega) x.1);rw[hpos] at hAt;unfold Gu;simp only[ax,aS hx (XJ _),aJ hx,adW,adX,hAt,ixM (aN hj),dQ (show j<acc.length by rw[hI];exact aN hj),EV,ai,aa,bi (aN hx),up1 (show i<1000000000 by have:=aN hx;omega)]
  rw[hpos,aG]
 .unfold Gu;have:=bF (f:=I1) (l:=acc);rw[hI] at this;simp only[EV,ai,aa,bK,OV,this]
 .congr 4
  refine cG λi=>?_;by_cases hi:i<l.length
  .have hp:=ah hi;rw[Fi h.2.2 (jM t l) _ (by simp) hkey i _ 0 hp (by rw[eK,ad hi])];unfold upsO;rw[aW,hp];rfl
  .rw[aZ (by rw[Fj];simp;omega),aZ (by unfold upsO;simp;omega)]
def edgesU (l:List Pt)(up:List Int):List Crt:=(l.zip up).filterMap λx=>if 0<=x.2 then some ⟨x.1.id,x.2⟩ else none
def Kn {α β:Type}(f:α->Option β):∀(l:List α) (acc:List β),l.foldl (λacc x=>acc++(f x).toList) acc=acc++l.filterMap f
 |[],acc=>by simp
 |a::l,acc=>by
  rw[cV,Kn f l,kS];cases f a<;>simp
def RW {l:List Pt}{up:List Int}(hl:l.length=up.length)(hb:l.length<=1000):Ans D 180 [F l,sl I1 up] [sl bT (edgesU l up)]:=by
 refine an ⟨1001,?_⟩;unfold ZV;simp only[ax,aO,EV];have e0:([PV.sl [],.v (.int .i64 0),.v (.int .i64 0)]:List PV)=[sl bT ([]:List Crt),.i64 ((([]:List Crt).length:Nat):Int),.i64 ((0:Nat):Int)]:=rfl;rw[e0];refine(iH (m:=1001) (l:=l.zip up) (g:=λacc x=>acc++(if 0<=x.2 then some (Crt.mk x.1.id x.2) else none).toList) (I:=λi acc=>acc.length<=i) (S:=λacc i=>[sl bT acc,.i64 (acc.length:Int),.i64 (i:Int)]) (fin:=λacc=>some [sl bT acc]) (x:=[]) (by simp) (λi a acc _ h=>?_) (λi x acc self hx hI=>?_) (λacc self hI=>?_) (by rw[eG hl];omega)).1.trans ?_
 .grind
 .obtain⟨hp,hq⟩:=g9 hx;have hi:=aN hp;unfold Gw;simp only[ax,b8,aS hp (bY _),aJ hp,pP,aS hq (bS _),aJ hq,bZ,EV,ai,aa,bi (aN hq),bk,Bg];by_cases c:0<=x.2
  .rw[ad c];simp only[ax,b8,aS hp (bY _),aJ hp,pP,aS hq (bS _),aJ hq,bZ,qC,bsC,mQ,fh (f:=bT) (l:=acc) (k:=[⟨x.1.id,x.2⟩]) (bytes:=16) (z:=2) (by simp;omega) jz,EV,ai,Bg,up1 (show i<1000000000 by omega),c,aA,Option.toList]
  .rw[ac c];simp only[EV,Bg,up1 (show i<1000000000 by omega),c,aw,Option.toList,aR]
 .rw[eG hl,hl];unfold Gw;simp only[EV,ai,aa,bK,OW,bF]
 .rw[Kn (λx:Pt×Int=>if 0<=x.2 then some (Crt.mk x.1.id x.2) else none)]
  rfl
def AK {l:List Pt}{up:List Int}{e:Crt}:e∈edgesU l up↔∃(i:Nat) (p:Pt) (u:Int),l[i]?=some p/\ up[i]?=some u/\ 0<=u/\ e=⟨p.id,u⟩:=by
 unfold edgesU;rw[List.mem_filterMap];constructor
 .rintro⟨x,hx,h⟩;obtain⟨i,hi⟩:=aL.1 hx;obtain⟨h1,h2⟩:=g9 hi
  grind
 .rintro⟨i,p,u,h1,h2,h3,rfl⟩;refine⟨(p,u),ay (i:=i) ?_,ad h3⟩
  grind
def rI:∀{l:List Pt} {up:List Int},Ids l->(edgesU l up).Nodup
 |[],_,_=>by simp[edgesU]
 |p::l,[],_=>by simp[edgesU]
 |p::l,u::us,h=>by
  have ih:=rI (l:=l) (up:=us) h.tail;unfold edgesU at ih|-;rw[List.zip_cons_cons,kS];by_cases c:0<=u
  .simp only[c,aA];rw[cd];refine⟨λhm=>?_,ih⟩;obtain⟨i,q,v,h1,h2,h3,h4⟩:=AK.1 (show(⟨p.id,u⟩:Crt)∈edgesU l us from hm)
   simp at h4;refine(cd.1 h).1 ?_;show p.id∈l.map Pt.id
   rw[h4.1];exact bh.2 ⟨q,ay h1,rfl⟩
  .simp only[c,aw];exact ih
def mI (k:KHeap):Prop:=bx k.clock/\ upsO k.clock.now k.clock.pts=k.heap/\ JustR k.clock (edgesU k.clock.pts (upsO k.clock.now k.clock.pts))
def rf (t:Rt)(l:List Pt):(upsO t l).length=l.length:=by simp[upsO]
def jV {l:List Pt}{t:Rt}(h:okF l){e:Crt}(he:e∈edgesU l (upsO t l)):inF l e.low=true/\ inF l e.high=true/\ leads t (ptOf l e.high) (ptOf l e.low)=true:=by
 obtain⟨i,p,u,h1,h2,h3,rfl⟩:=AK.1 he;unfold upsO at h2;rw[aW,h1,cf,bW] at h2;have hpm:=ay h1;obtain⟨f,hf⟩:=Nj 64 l (-1) 0 h.1 (dD h.2.2) (λp hp=>(ji h p hp).1) p hpm;have hmem:(p.id,u)∈jM t l:=by
  rcases luk_mem (ps:=jM t l) (k:=p.id) (v:=0) with e|e
  .rw[h2] at e;have:=KW (ps:=jM t l) (k:=p.id) (v:=0) ⟨f,hf⟩
   grind
  .grind
 obtain⟨p',hp',e1,e2⟩:=p6 64 l (-1) 0 h.1 (dD h.2.2) (p.id,u) hmem;simp only at e1 e2;have:=(dD h.2.2).inj hp' hpm e1;subst this;rcases e2 with e2|⟨q,hq,e3,e4⟩
 .omega
 .refine⟨ey.2 (bh.2 ⟨p',hpm,rfl⟩),ey.2 (bh.2 ⟨q,hq,e3⟩),?_⟩;obtain⟨j,hj⟩:=aL.1 hq;rw[<-e3,nF h hj,nF h h1];exact e4
open Classical in
def c84 {k:KHeap}(h64:ij k.clock)(hg:gKh k=false):Ans D 84 [KH k] [.i64 (okE (decide (mI k)))]:=by
 obtain⟨g1,g2⟩:=tU hg;have no:∀h:¬mI k,(some [PV.v (.int .i64 8)]:Option (List PV))=some [.i64 (okE (decide (mI k)))]:=λh=>by rw[aj h];rfl
 have pKH2:RF.ev (.part 2 1) [KH k]=some (F k.clock.pts):=rfl;have pKH0:RF.ev (.part 0 2) [KH k]=some (R k.clock.now):=rfl;refine an ⟨1001,?_⟩;unfold k84;simp only[ax,dz,pKH,EV,phi (Lx h64 g1),jb,aF,ak];by_cases h1:bx k.clock
 .have hF:=h1.2.1;have hl:=hF.1;rw[au h1,ad rfl];simp only[ax,pKH,pKH2,pKH0,cKH,phi (RV hF h64.1),phi (Ll (l:=upsO k.clock.now k.clock.pts) (k:=k.heap) (by rw[rf];omega)),phi (RW (l:=k.clock.pts) (up:=upsO k.clock.now k.clock.pts) (rf _ _).symm (by omega)),EV,aF,ak];by_cases h2:upsO k.clock.now k.clock.pts=k.heap
  .rw[ac (by simp[h2])];have hel:(edgesU k.clock.pts (upsO k.clock.now k.clock.pts)).length<=1000:=by
    unfold edgesU
    grind
   simp only[ax,EV,phi (LD (c:=k.clock) (edges:=edgesU k.clock.pts (upsO k.clock.now k.clock.pts)) hF h64.1 hel (by have:=gQ g1;omega) (λe he=>⟨(jV hF he).1,(jV hF he).2.1⟩)),aF,ak];by_cases h3:JustR k.clock (edgesU k.clock.pts (upsO k.clock.now k.clock.pts))
   .rw[ac (by simp[h3]),au (show mI k from⟨h1,h2,h3⟩)];rfl
   .rw[ad h3];exact no (λh=>h3 h.2.2)
  .rw[ad h2];exact no (λh=>h2 h.2.1)
 .rw[aj h1,ac (by simp)];exact no (λh=>h1 h.1)
def J8 {t:Rt}{l:List Pt}(h:okF l):((jM t l).map (·.1)).Nodup:=LE l.length l (-1) 0 (aC _) (dD h.2.2)
def nc (g:Pt->Int)(k:List Pt):List Crt:=k.filterMap λp=>if 0<=g p then some ⟨p.id,g p⟩ else none
def AL (g:Pt->Int):∀k:List Pt,edgesU k (k.map g)=nc g k
 |[]=>rfl
 |x::k=>by
  have:=AL g k;unfold edgesU nc at this|-;rw[bN,List.zip_cons_cons,kS,kS,this]
def RX (g:Pt->Int)(k:List Pt):(nc g k).length<=k.length:=List.length_filterMap_le ..
def RY {l:List Pt}{t:Rt}(h:okF l)(ht:aX t)(hr:rok t=true):Ans D 127 [F l,R t] [sl I1 (upsO t l),sl bT (edgesU l (upsO t l))]:=by
 have hl:=h.1;have h0:=phi (agr ht hr l.length l (-1) 0 [] (aC _) (by omega) (by omega) (λp hp=>aV.1 h.2.1 p hp) (dD h.2.2) (λx hx=>by cases hx));rw[aT] at h0;have e0:Hm []= .sl []:=rfl;rw[e0] at h0;have hgt:∀k:Int,RF.ev (.mget [.i] [KP.z]) [Hm (jM t l),.v (.int .i64 k)]=some (.i64 (luk (jM t l) k 0)):=λk=>agn (J8 h);have hh:aY D 221 [sl row l,R t,.v (.int .i64 (-1)),.v (.int .i64 0),.sl [],.sl []]=some [Hm (jM t l)]:=h0;unfold upsO;rw[AL];generalize hg:(λp:Pt=>luk (jM t l) p.id 0)=g;have hgp:∀p:Pt,luk (jM t l) p.id 0=g p:=λp=>by rw[<-hg]
 refine an ⟨1001,?_⟩;unfold Zp;simp only[ax,aO,bU,b8,hh,EV,ai];have st0:([PV.sl [],.v (.int .i64 0),.sl [],.v (.int .i64 0),.v (.int .i64 0)]:List PV)=[sl I1 (([]:List Pt).map g),.i64 ((([]:List Pt).length:Nat):Int),sl bT (nc g []),.i64 (((nc g []).length:Nat):Int),.i64 ((0:Nat):Int)]:=rfl;rw[st0];refine(iH (m:=1001) (l:=l) (g:=λacc x=>acc++[x]) (I:=λi acc=>acc.length<=i) (S:=λacc i=>[sl I1 (acc.map g),.i64 (acc.length:Int),sl bT (nc g acc),.i64 ((nc g acc).length:Int),.i64 (i:Int)]) (fin:=λacc=>some [sl I1 (acc.map g),sl bT (nc g acc)]) (x:=[]) (aC _) (λi a acc _ hI=>by simp;omega) (λi p acc self hp hI=>?_) (λacc self hI=>?_) (by omega)).1.trans ?_
 .have hlt:=aN hp;have hel:=RX g acc;have a1:=fh (f:=I1) (l:=acc.map g) (k:=[g p]) (bytes:=8) (z:=1) (by simp;omega) bS;rw[ai] at a1;have hs:acc.map g++[g p]=(acc++[p]).map g:=by simp
  have nxt:=up1 (show i<1000000000 by omega)
  unfold FR;simp only[ax,b8,aS hp (bY _),aJ hp,gr,dl,hgt,hgp,bsI,kV,a1,hs,EV,ai,aB,aQ,aa,bi hlt,bk];by_cases c1:0<=g p
  .have he:nc g (acc++[p])=nc g acc++[⟨p.id,g p⟩]:=by
    unfold nc;rw[vg];simp[c1]
   rw[ad c1];simp only[ax,dl,hgt,hgp,qC,bsC,mQ,he,fh (f:=bT) (l:=nc g acc) (k:=[⟨p.id,g p⟩]) (bytes:=16) (z:=2) (by simp;omega) jz,EV,ai,aB,aQ,FQ,nxt]
  .have he:nc g (acc++[p])=nc g acc:=by
    unfold nc;rw[vg];simp[c1]
   rw[ac c1];simp only[EV,FQ,nxt,he]
 .unfold FR;have a1:RF.ev .sub [sl I1 (acc.map g),.v (.int .i64 0),.v (.int .i64 (acc.length:Int))]=some (sl I1 (acc.map g)):=by
   have:=bF (f:=I1) (l:=acc.map g);rwa [ai] at this
  simp only[EV,aa,bK,Ok,a1,bF]
 .have:∀(k a:List Pt),k.foldl (λacc x=>acc++[x]) a=a++k:=by
   intro k;induction k with
   |nil=>intro a;simp
   |cons x k ih=>intro a;rw[cV,ih];simp
  rw[this,aT]
open Classical in
def c80 {k:KHeap}(h64:ij k.clock)(hg:gKh k=false):Ans D 80 [KH k] [.i64 (okE (decide (mI k)))]:=by
 obtain⟨g1,g2⟩:=tU hg;have no:∀h:¬mI k,(some [PV.v (.int .i64 8)]:Option (List PV))=some [.i64 (okE (decide (mI k)))]:=λh=>by rw[aj h];rfl
 have pKH2:RF.ev (.part 2 1) [KH k]=some (F k.clock.pts):=rfl;have pKH0:RF.ev (.part 0 2) [KH k]=some (R k.clock.now):=rfl;have cKH4:RF.ev (.cell 4) [KH k]=some (sl hrow k.clock.certs.list):=rfl;have cc:=gQ g1;refine an ⟨1001,?_⟩;unfold k80;simp only[ax,dz,pKH,EV,phi (LC h64 g1),jb,aF,ak];by_cases h1:bx k.clock
 .have hF:=h1.2.1;have hl:=hF.1;rw[au h1,ad rfl];simp only[ax,pKH,pKH2,pKH0,cKH,cKH4,phi (RY hF h64.1 h1.1),phi (RS (l:=upsO k.clock.now k.clock.pts) (k:=k.heap) (by rw[rf];omega)),EV,ai,aF,ak];by_cases h2:upsO k.clock.now k.clock.pts=k.heap
  .rw[ac (by simp[h2])];have hel:(edgesU k.clock.pts (upsO k.clock.now k.clock.pts)).length<=1000:=by
    unfold edgesU
    grind
   have hJ:=xq (c:=k.clock) h1.2.2.1 (rI (up:=upsO k.clock.now k.clock.pts) (dD hF.2.2)) (λe he=>(jV hF he).2.2);by_cases h3:(edgesU k.clock.pts (upsO k.clock.now k.clock.pts)).length=k.clock.certs.list.length
   .rw[ac (by omega)];refine(cw (m:=1001) (l:=k.clock.certs.list) (p:=λh=>decide (h.cert∈edgesU k.clock.pts (upsO k.clock.now k.clock.pts))) (st:=λi=>[.i64 (i:Int)]) (r:=some [.i64 8]) (fin:=some [.i64 0]) (λi h self hh _=>?_) (λ_ self=>?_) (by omega)).trans ?_
    .unfold Mc;simp only[ax,cKH4,pHP,aS hh (fi _),aJ hh,iS,phi (zW h.cert hel),EV,aa,bi (aN hh),up1 (show i<1000000000 by have:=aN hh;omega)]
     by_cases c1:h.cert∈edgesU k.clock.pts (upsO k.clock.now k.clock.pts)<;>simp[c1]
    .unfold Mc;simp only[EV,aa,bK,U8]
    .have:(k.clock.certs.list.all λh=>decide (h.cert∈edgesU k.clock.pts (upsO k.clock.now k.clock.pts)))=true↔mI k:=by
      rw[aV];simp only[aa];exact⟨λh=>⟨h1,h2,hJ.1 ⟨h3,h⟩⟩,λh=>(hJ.2 h.2.2).2⟩
     by_cases hr:mI k
     .rw[ad (this.2 hr),au hr];rfl
     .rw[ac (λh=>hr (this.1 h)),aj hr];rfl
   .rw[ad (by omega)];exact no (λh=>h3 h.2.2.1.symm)
  .rw[ad h2];exact no (λh=>h2 h.2.1)
 .rw[aj h1,ac (by simp)];exact no (λh=>h1 h.1)
def ldF (t:Rt)(l:List Pt)(i j:Nat):Bool:=leads t ((l[i]?).getD ⟨0,0,0⟩) ((l[j]?).getD ⟨0,0,0⟩)
def Cv {t:Rt}{l:List Pt}{i j:Nat}{p q:Pt}(hp:l[i]?=some p)(hq:l[j]?=some q):ldF t l i j=leads t p q:=by
 unfold ldF;rw[hp,hq];rfl
def fU {t:Rt}{l:List Pt}(hs:hY l):Lin (ldF t l) l.length where
 asymm:=λi j h=>mM h
 trans:=λi j k h1 h2=>jJ h1 h2
 total:=λi j hi hj hne=>by
  unfold ldF;refine leads_total ?_;rw[ah hi,ah hj];intro e;refine hne (dE.1 (dD hs) i j l[i].id ?_ ?_)
  .rw[aW,ah hi];rfl
  .rw[aW,ah hj,cf];exact bj some e.symm
def mkN (l:List Pt)(lk:List (Int×Int)):List Nod:=(l.zip lk).map λx=>⟨x.1.id,x.2.1,x.2.2⟩
def gD (l:List Pt)(lk:List (Int×Int))(h:lk.length<=l.length):(mkN l lk).length=lk.length:=by simp[mkN];omega
def kM {l:List Pt}{lk:List (Int×Int)}{i:Nat}{p:Pt}{x:Int×Int}(hp:l[i]?=some p)(hx:lk[i]?=some x):(mkN l lk)[i]?=some ⟨p.id,x.1,x.2⟩:=by
 unfold mkN
 grind
def cart (t:Rt)(l:List Pt):Tree:=⟨(cmake (ldF t l) l.length).2.1,mkN l (cmake (ldF t l) l.length).2.2⟩
def ags {l:List Pt}{t:Rt}(h:okF l)(ht:aX t)(hr:rok t=true):Ans D 303 [F l,R t] [.i64 0]:=by
 have h1:=phi (vr l);rw[eu.2 h] at h1;have h2:=phi (c43 ht);rw[hr] at h2;have e0:okE true=0:=rfl;rw[e0] at h2;refine am ?_;unfold abf;simp[aO,bU,EV,h1,h2]
def sN (l:List Nat):List Int:=l.map λn:Nat=>(n:Int)
def Fk {l:List Pt}{t:Rt}(h:okF l)(ht:aX t)(hr:rok t=true){N:Nat}{i:Nat}{p:Pt}(hp:l[i]?=some p){f0 f1 f2:JT}{e0 e1 e4 e5 e6 e7 e8 e9 e10 e13 e14 e15 e16 e17:PV}{E:List Int}(hE:E.length<=1000):∀(rem:List Nat) (m:Nat) (left:Int),rem.length<m->(∀(k:Nat) (e:Nat),rem.reverse[k]?=some e->E[k]?=some (e:Int))->(∀e∈rem,e<i)->rem.length<=E.length->
  cS (aY D) N xM [f0,f1,f2] [e0,e1,F l,R t,e4,e5,e6,e7,e8,e9,e10,sl I1 E,.i64 (E.length:Int),e13,e14,e15,e16,e17,PP p] m [.i64 (rem.length:Int),.i64 left]=
   f2 [.i64 (popAll (ldF t l) i rem left).2,.i64 ((popAll (ldF t l) i rem left).1.length:Int),.bool (decide (0<(popAll (ldF t l) i rem left).1.length))]
 |[],m,left,hm,_,_,_=>by
  obtain⟨m,rfl⟩:∃m',m=m'+1:=⟨m-1,by omega⟩;rw[bc];unfold xM popAll;simp only[EV,dI,aa];rw[ac (by omega)];rfl
 |e::es,m,left,hm,hk,hlt,hEl=>by
  obtain⟨m,rfl⟩:∃m',m=m'+1:=⟨m-1,by omega⟩;have hee:=hk es.length e (by rw[mG,bL (by simp)];simp);simp at hm hEl;obtain⟨q,hq⟩:∃q,l[e]?=some q:=⟨l[e]'(by have:=hlt e (by simp);have:=aN hp;omega),ah _⟩;have hne:q.id≠p.id:=by have:=iE h.2.2 (hlt e (by simp)) hq hp;omega
  have hA:=phi (E6 (p:=q) (q:=p) ht);rw[ad (lu (eQ h hq) (eQ h hp) hr hne),<-Cv hq hp] at hA;have ih:=Fk h ht hr (N:=N) hp (f0:=f0) (f1:=f1) (f2:=f2) (e0:=e0) (e1:=e1) (e4:=e4) (e5:=e5) (e6:=e6) (e7:=e7) (e8:=e8) (e9:=e9) (e10:=e10) (e13:=e13) (e14:=e14) (e15:=e15) (e16:=e16) (e17:=e17) hE es m (e:Int) (by omega) (λk e' hke=>hk k e' (by
   rw[mG,aI (aN hke)];exact hke)) (λx hx=>hlt x (bJ _ hx)) (by omega)
  rw[bc];generalize hkk:xM=kk at ih;subst hkk;unfold xM popAll;have d1:IntKind.i64.wrap (((es.length+1:Nat):Int)-1)=(es.length:Int):=vn (by omega);have bn:RF.ev .bnd [.v (.int .i64 (es.length:Int)),.v (.int .i64 (E.length:Int))]=some (.i64 (es.length:Int)):=by rw[jO,ad ⟨by omega,by omega⟩]
  have g0:decide ((0:Int)<((es.length+1:Nat):Int))=true:=au (by omega);simp only[EV,bA,g0,cQ,aA,d1,ixM (show es.length<es.length+1 by omega),aJ hee,bZ,ax,b8,aS hq (bY _),aJ hq,gr,hA,bn]
  cases hL:ldF t l e i with
  |true=>
   simp only[aA,bA];rw[show decide (0<es.length+1)=true from au (by omega)]
  |false=>
   simp;exact ih
def NG {l:List Nat}{k e:Nat}(h:l[k]?=some e):(sN l)[k]?=some (e:Int):=by
 unfold sN;rw[aW,h];rfl
def Um {l:List Nod}{i:Nat}{n:Nod}(h:l[i]?=some n)(r:Int):RF.ev (.set 2) [sl dG l,.v (.int .i64 (i:Int)),.v (.int .i64 r)]=some (sl dG (l.set i ⟨n.id,n.left,r⟩)):=by
 rw[qY,ad (by omega),aG,aW,h];exact bj (λx=>some (PV.sl x)) (jZ (f:=dG) (l:=l) (i:=i) (a:=⟨n.id,n.left,r⟩)).symm
def bsN (n:Nod):RF.ev (.bs 1 [KP.z,KP.z,KP.z] [0]) [NP n]=some (sl dG [n]):=rfl
def LF (n:Nod):RF.ev .sub [sl dG [n],.v (.int .i64 0),.v (.int .i64 1)]=some (sl dG [n]):=rfl
def RZ (a b c:Int):RF.ev .agg [.i64 a,.i64 b,.i64 c]=some (NP ⟨a,b,c⟩):=rfl
def Ko {l:List Pt}{lk:List (Int×Int)}{e:Nat}{p:Pt}{x:Int×Int}{r:Int}(hp:l[e]?=some p)(hx:lk[e]?=some x):(mkN l lk).set e ⟨p.id,x.1,r⟩=mkN l (lk.modify e λx=>(x.1,r)):=by
 refine cG λk=>?_;by_cases hk:k<l.length/\ k<lk.length
 .have h1:=ah hk.1;have h2:=ah hk.2;by_cases e':k=e
  .subst e';rw[be (by simp[mkN];omega)];rw[kM hp (x:=(x.1,r)) (by rw[gz,hx];rfl)]
  .rw[bG (by omega),kM h1 h2,kM h1 (x:=lk[k]) (by rw[eJ _ _ (by omega)];exact h2)]
 .rw[aZ (by simp[mkN];omega),aZ (by simp[mkN];omega)]
def Cw {l:List Pt}{lk:List (Int×Int)}{p:Pt}{x:Int×Int}(hp:l[lk.length]?=some p):mkN l lk++[⟨p.id,x.1,x.2⟩]=mkN l (lk++[x]):=by
 unfold mkN;have hlt:=aN hp;have:l.zip (lk++[x])=l.zip lk++[(p,x)]:=by
  have h1:l=l.take lk.length++l.drop lk.length:=(dN _ _).symm;have h2:l.drop lk.length=p::l.drop (lk.length+1):=by
   rw[cB hlt,(aD.1 hp).2]
  rw[h1,List.zip_append (by rw[aK];omega),h2];rw[<-aR lk];rw[aR]
  conv=>rhs;rw[show l.take lk.length++p::l.drop (lk.length+1)=l.take lk.length++([p]++l.drop (lk.length+1)) from rfl]
  rw[show lk=lk++[] by simp,List.zip_append (by rw[aK,aR];omega)]
  simp
 rw[this,fJ];rfl
def NH (l:List Nat)(n:Nat):sN (l++[n])=sN l++[(n:Int)]:=by simp[sN]
def ce (t:Rt)(l:List Pt):Nat->List Int
 |0=>[]
 |i+1=>(ce t l i).take (popAll (ldF t l) i (cmake (ldF t l) i).1 (-1)).1.length++[(i:Int)]++(ce t l i).drop ((popAll (ldF t l) i (cmake (ldF t l) i).1 (-1)).1.length+1)
def LG (ld:Nat->Nat->Bool)(i:Nat)(s:List Nat×Int×List (Int×Int)):(tf ld i s).1=i::(popAll ld i s.1 (-1)).1:=by
 unfold tf
 grind
def Un (t:Rt)(l:List Pt):∀i,(ce t l i).take (cmake (ldF t l) i).1.length=sN (cmake (ldF t l) i).1.reverse/\(cmake (ldF t l) i).1.length<=(ce t l i).length/\(ce t l i).length<=i
 |0=>⟨rfl,aC _,aC _⟩
 |i+1=>by
  obtain⟨h1,h2,h3⟩:=Un t l i;have hs:cmake (ldF t l) (i+1)=tf (ldF t l) i (cmake (ldF t l) i):=rfl;rw[hs,LG];obtain⟨gone,p1,_⟩:=oF (ld:=ldF t l) i (cmake (ldF t l) i).1 (-1);unfold ce;generalize (popAll (ldF t l) i (cmake (ldF t l) i).1 (-1)).1=kept at p1;generalize (cmake (ldF t l) i).1=edge at p1 h1 h2;have hk:kept.length<=edge.length:=by rw[p1,aB];omega
  have h4:(ce t l i).take kept.length=sN kept.reverse:=by
   have:(ce t l i).take kept.length=((ce t l i).take edge.length).take kept.length:=by rw[cO,bH hk]
   rw[this,h1,p1,xf];unfold sN;rw[fJ,cI (by simp)]
  have hl:((ce t l i).take kept.length).length=kept.length:=by rw[aK];omega
  refine⟨?_,?_,?_⟩
  .rw[ed (by simp;omega),bv (by simp;omega),h4,mG,NH]
  .simp;omega
  .simp;omega
def cst (t:Rt)(l:List Pt)(i:Nat):List PV:=
 [.i64 (cmake (ldF t l) i).2.1,sl dG (mkN l (cmake (ldF t l) i).2.2),.i64 (i:Int),sl I1 (ce t l i),.i64 ((ce t l i).length:Int),.i64 ((cmake (ldF t l) i).1.length:Int),.i64 (i:Int)]
def agt {E:List Int}{n:Nat}{x:Int}(h:n<=E.length)(hE:E.length<=1000):RF.ev (.appK 8 1) [sl I1 E,.v (.int .i64 (n:Int)),sl I1 [x]]=some (sl I1 (E.take n++[x]++E.drop (n+1))):=by
 show(if(0:Int)<=n/\(n:Int)<=((E.map I1).length:Nat)/\((n:Int).toNat+([x].map I1).length)*8<=140737488355328/\ dK 1 ([x].map I1)=true then some (PV.sl ((E.map I1).take (n:Int).toNat++[x].map I1++(E.map I1).drop ((n:Int).toNat+([x].map I1).length))) else none)=_
 rw[ad ⟨by omega,by simp;omega,by simp;omega,rfl⟩];simp
def LH {l:List Pt}{t:Rt}(h:okF l)(ht:aX t)(hr:rok t=true):Ans D 220 [F l,R t] [TR (cart t l),.i64 0]:=by
 have hl:=h.1;refine an ⟨1001,?_⟩;unfold aak;simp only[ax,aO,bU,b8,EV,ai,phi (ags h ht hr),az,aE,aq,aw];have e0:([PV.v (.int .i64 (-1)),.sl [],.v (.int .i64 0),.sl [],.v (.int .i64 0),.v (.int .i64 0),.v (.int .i64 0)]:List PV)=cst t l 0:=by simp[cst,cmake,mkN,ce]
 rw[e0];refine(dP (m:=1001) (n:=l.length) (st:=cst t l) (fin:=some [TR (cart t l),.i64 0]) (λi self hi=>?_) (λself=>?_) (by omega))
 .obtain⟨p,hp⟩:∃p,l[i]?=some p:=⟨l[i],ah _⟩;have I:=gR (fU (t:=t) h.2.2) i (by omega);obtain⟨ce1,ce2,ce3⟩:=Un t l i;unfold cst;have hs:cmake (ldF t l) (i+1)=tf (ldF t l) i (cmake (ldF t l) i):=rfl;have hce:ce t l (i+1)=(ce t l i).take (popAll (ldF t l) i (cmake (ldF t l) i).1 (-1)).1.length++[(i:Int)]++(ce t l i).drop ((popAll (ldF t l) i (cmake (ldF t l) i).1 (-1)).1.length+1):=rfl;rw[hs,hce];generalize cmake (ldF t l) i=s at I ce1 ce2;generalize ce t l i=E at ce1 ce2 ce3;obtain⟨edge,root,lk⟩:=s;obtain⟨desc,mem,_,len,_⟩:=I;simp only at desc mem len ce1 ce2;have helt:∀e∈edge,e<i:=λe he=>((mem e).1 he).1;have hk:∀(k:Nat) (e:Nat),edge.reverse[k]?=some e->E[k]?=some (e:Int):=λk e hk=>by
   have h1:=NG hk
   grind
  unfold GQ;simp only[EV,aa,bi hi,ax,b8,aS hp (bY _),aJ hp,gr];refine(Fk h ht hr hp (E:=E) (by omega) edge 1001 (-1) (by omega) hk helt ce2).trans ?_;obtain⟨gone,p1,_,_,_⟩:=oF (ld:=ldF t l) i edge (-1);unfold tf;simp only;generalize popAll (ldF t l) i edge (-1)=pr at p1;obtain⟨kept,y⟩:=pr;simp only at p1;have hkl:kept.length<=E.length:=by rw[p1,aB] at ce2;omega
  have hkl':kept.length<=1000:=by omega
  have hpl:l[lk.length]?=some p:=by rw[len];exact hp
  have u1:=up1 (show i<1000000000 by omega)
  have uk:((kept.length:Int)+((1:Nat):Int))=((kept.length+1:Nat):Int):=by omega
  simp only[EV];unfold Pf;simp only[EV,Int.natCast_pos,cJ];have ae:=agt (E:=E) (n:=kept.length) (x:=(i:Int)) hkl (by omega);cases kept with
  |nil=>
   simp only[dI,dJ,bw,aq,aw,EV,fP];have ap:RF.ev (.app 24 3) [sl dG (mkN l lk),.v (.int .i64 (i:Int)),sl dG [⟨p.id,y,-1⟩]]=some (sl dG (mkN l (lk++[(y,-1)]))):=by
    have:=fh (f:=dG) (l:=mkN l lk) (k:=[⟨p.id,y,-1⟩]) (bytes:=24) (z:=3) (by rw[gD _ _ (by omega)];simp;omega) ke;rw[gD _ _ (by omega),len] at this;rw[this,<-Cw (x:=(y,-1)) hpl]
   simp only[dI,fP] at ae;unfold GP;simp only[ax,dl,RZ,bsN,LF,ae,ap,bsI,kV,EV,ai,u1,gD _ _ (show(lk++[(y,-1)]).length<=l.length by simp;omega),aB,len,aQ,bA,dI,bX]
   rfl
  |cons e es=>
   have hee:E[es.length]?=some (e:Int):=hk es.length e (by
    rw[p1,xf,mG,aI (by simp),bL (by simp)];simp)
   have hei:e<i:=helt e (by rw[p1];simp);obtain⟨q,hq⟩:∃q,l[e]?=some q:=⟨l[e]'(by omega),ah _⟩;obtain⟨x,hx⟩:∃x,lk[e]?=some x:=⟨lk[e]'(by omega),ah _⟩;have hnod:=kM hq hx;have g0:decide (0<(e::es).length)=true:=by simp
   have d1:IntKind.i64.wrap (((es.length+1:Nat):Int)-1)=(es.length:Int):=vn (by simp at hkl';omega);have ap:RF.ev (.app 24 3) [sl dG (mkN l (lk.modify e λx=>(x.1,(i:Int)))),.v (.int .i64 (i:Int)),sl dG [⟨p.id,y,-1⟩]]=some (sl dG (mkN l ((lk.modify e λx=>(x.1,(i:Int)))++[(y,-1)]))):=by
    have:=fh (f:=dG) (l:=mkN l (lk.modify e λx=>(x.1,(i:Int)))) (k:=[⟨p.id,y,-1⟩]) (bytes:=24) (z:=3) (by rw[gD _ _ (by rw[dF];omega),dF];simp;omega) ke;rw[gD _ _ (by rw[dF];omega),dF,len] at this;rw[this,<-Cw (x:=(y,-1)) (by rw[dF];exact hpl)]
   simp only[g0,aA,EV,bA,d1,ixM (show es.length<es.length+1 by omega),aJ hee,bZ,ixM hei,Um hnod,Ko hq hx]
   unfold GP;simp only[bA] at ae uk;simp only[ax,dl,RZ,ae,ap,bsN,LF,bsI,kV,EV,ai,u1,uk,bA,gD _ _ (show((lk.modify e λx=>(x.1,(i:Int)))++[(y,-1)]).length<=l.length by simp;omega),aB,dF,len,aQ,dI,bX]
   rw[ad (au (by omega))]
 .unfold cst GQ;have hlk:(cmake (ldF t l) l.length).2.2.length=l.length:=(gR (fU (t:=t) h.2.2) l.length (by omega)).len;have hs:=bF (f:=dG) (l:=mkN l (cmake (ldF t l) l.length).2.2);rw[gD _ _ (by omega),hlk] at hs;have ag:RF.ev .agg [.i64 (cmake (ldF t l) l.length).2.1,sl dG (mkN l (cmake (ldF t l) l.length).2.2)]=some (TR (cart t l)):=rfl;simp only[EV,aa,bK,Pe,hs,ag]
end Go.Proofs.YtfghdmmapmdcgaaGreat
