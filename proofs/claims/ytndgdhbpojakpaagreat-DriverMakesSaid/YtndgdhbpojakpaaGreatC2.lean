import Derived.Test.YtndgdhbpojakpaaGreatC1
import Derived.Test.YtndgdhbpojakpaaGreatP1
set_option linter.unusedVariables false
set_option linter.unusedSimpArgs false
set_option linter.defProp false
noncomputable section
namespace Go.Proofs.YtndgdhbpojakpaaGreat
open Go.Sym Bnd
set_option maxRecDepth 100000
def inF (l:List Pt)(id:Int):Bool:=decide (0<=pos l id)
def gr {l:List Pt}(h:okF l){id:Int}(hi:inF l id=true):∃(i:Nat) (p:Pt),l[i]?=some p/\ p.id=id/\ pos l id=(i:Nat)/\ bo l id=p:=by
 have hi:=aU hi;rcases pos_cases l id with⟨e,_⟩|⟨i,p,h1,h2,h3⟩
 .omega
 .exact⟨i,p,h1,h2,h3,by rw[<-h2];exact kQ h h1⟩
def yz {l:List Pt}{id:Int}(hi:inF l id=false):∀p∈l,p.id≠id:=by
 have hi:=of_decide_eq_false hi;rcases pos_cases l id with⟨_,h⟩|⟨i,p,h1,h2,h3⟩
 .exact h
 .omega
def eX (l:List Pt)(h:Held):Bool:=inF l h.cert.low&& inF l h.cert.high
def abx {c:Certs}{l:List Pt}(hl:l.length<=1000)(hc:c.list.length<=1000):Ans D 165 [CS c,F l] [.bool (c.list.all (eX l))]:=by
 refine an ⟨1001,?_⟩;unfold Vq;simp[im,aW,EV];refine(b9 (l:=c.list) (p:=eX l) (st:=λi=>[.i64 (i:Int)]) (r:=some [.bool false]) (fin:=some [.bool true]) (λi h self hh _=>?_) (λ_ self=>?_) (by omega)).trans ?_
 .unfold CW eX inF;simp[eb,aO hh (eV _),aL hh,Zx,Zy,phi (nI hl _),EV,up1 (show i<1000000000 by have:=aK hh;omega)]
  grind
 .unfold CW;simp only[au,eb,EV,aj,aa,bw,Ke]
 .grind
def ZA {o:Option Nat}:o.elim (some [PV.bool false]) (λ_=>some [.bool true])=some [.bool o.isSome]:=by cases o<;>rfl
def MW {c:Certs}{x:Crt}(hc:c.list.length<=1000):Ans D 221 [CS c,CP x] [.bool (c.list.any λh=>decide (h.cert=x))]:=by
 refine an ⟨1001,?_⟩;unfold Wu;simp[im,kx,EV];refine(ji (l:=c.list) (p:=λh=>decide (h.cert=x)) (st:=λi=>[.i64 (i:Int)]) (ret:=λ_=>some [.bool true]) (fin:=some [.bool false]) (λi h self hh=>?_) (λself=>?_) (by omega)).trans (ZA.trans ?_)
 .unfold Dn;simp only[eb,aO hh (eV _),aL hh,Ak,tg,EV,aj,aa,bc (aK hh),up1 (show i<1000000000 by have:=aK hh;omega)]
 .unfold Dn;simp[eb,EV,K3]
 .grind
def aby {x:Crt}{l:List Pt}{t:Rt}(h:okF l)(ht:bi t)(h1:inF l x.low=true)(h2:inF l x.high=true):Ans D 222 [CP x,F l,R t] [.bool (leads t (bo l x.high) (bo l x.low))]:=by
 obtain⟨i,p,a1,a2,a3,a4⟩:=gr h h1;obtain⟨j,q,b1,b2,b3,b4⟩:=gr h h2;have q1:=phi (nI (l:=l) (by have:=h.1;omega) x.low);have q2:=phi (nI (l:=l) (by have:=h.1;omega) x.high);rw[a3] at q1;rw[b3] at q2;refine am ?_;unfold Wv;simp[kx,aW,aY,oR,oT,bQ,q1,q2,aO a1 (bL _),aL a1,aO b1 (bL _),aL b1,eU,EV,phi (yp (ea h b1) (ea h a1) ht),a4,b4]
def Sd {x:Crt}{l:List Pt}{t:Rt}(h:okF l)(ht:bi t)(h1:inF l x.low=true)(h2:inF l x.high=true):Ans D 167 [F l,CP x,R t] [R (dY t (bo l x.high) (bo l x.low)).1,.bool (dY t (bo l x.high) (bo l x.low)).2]:=by
 obtain⟨i,p,a1,a2,a3,a4⟩:=gr h h1;obtain⟨j,q,b1,b2,b3,b4⟩:=gr h h2;have q1:=phi (nI (l:=l) (by have:=h.1;omega) x.low);have q2:=phi (nI (l:=l) (by have:=h.1;omega) x.high);rw[a3] at q1;rw[b3] at q2;refine am ?_;unfold Vs;simp[kx,aW,aY,oR,oT,bQ,q1,q2,aO a1 (bL _),aL a1,aO b1 (bL _),aL b1,eU,Gw,EV,phi (abf (ea h b1) (ea h a1) ht),a4,b4]
def Se {x:Crt}{l:List Pt}{t:Rt}(h:okF l)(ht:bi t):Ans D 144 [F l,CP x,R t] (if hZ (bo l x.high) (bo l x.low) t=0 then [R (dY t (bo l x.high) (bo l x.low)).1,.bool (dY t (bo l x.high) (bo l x.low)).2,.i64 0] else [R ⟨0,0⟩,.bool false,.i64 (hZ (bo l x.high) (bo l x.low) t)]):=by
 refine am ?_;unfold U5;by_cases hz:hZ (bo l x.high) (bo l x.low) t=0
 .have:=phi (RV (p:=bo l x.high) (q:=bo l x.low) ht);rw[ad hz] at this|-;simp[kx,aW,aY,oR,oT,Gw,EV,phi (Gz h _),this]
 .have:=phi (RV (p:=bo l x.high) (q:=bo l x.low) ht);rw[ac hz] at this|-;simp[kx,aW,aY,oR,oT,Gw,EV,phi (Gz h _),this]
def Sf:RF.ev .agg [.i64 0,.i64 0,.i64 0,.i64 0,.i64 0]=some (EP ⟨⟨0,0⟩,0,⟨0,0⟩⟩):=rfl
def ZB (e:Evt):RF.ev .flat [EP e]=some (EP e):=rfl
def abz (e:Evt):RF.ev (.shape 5) [EP e]=some (EP e):=rfl
def ZC (e:Evt):RF.ev (.part 0 5) [EP e]=some (EP e):=rfl
def AZ {a:Agenda}(h:gi a){x:Hnd}(hl:fL a.slots x):∃(i:Nat) (w:Int) (n:Nat) (e:Evt),x.index=i/\ a.wher[i]?=some w/\ w=(n:Int)/\ a.heap[n]?=some e/\ e.hnd=x:=by
 obtain⟨l1,l2,l3⟩:=hl;obtain⟨i,hi⟩:=qq l1;rw[hi,aG] at l2 l3;obtain⟨w,hw⟩:∃w,a.wher[i]?=some w:=⟨a.wher[i]'(by have:=aK l3;have:=h.2.1.1;omega),ak _⟩;have:=h.2.1.2.2 i true w x.use l2 hw l3;rw[ad rfl] at this;obtain⟨w0,e,he,hx⟩:=this;obtain⟨n,hn⟩:=qq w0;rw[hn,aG] at he;exact⟨i,w,n,e,hi,hw,hn,he,by rw[hx,<-hi]⟩
open Classical in
def abA {a:Agenda}(h:gi a)(hl:a.heap.length<=1000)(hf:a.slots.free.length<=1000)(h64:∀e∈a.heap,bi e.time)(x:Hnd):(¬fL a.slots x->Ans D 168 [AG a,HD x] [EP ⟨⟨0,0⟩,0,⟨0,0⟩⟩,.i64 6])/\∀(i n:Nat) (e:Evt),x.index=i->a.wher[i]?=some (n:Int)->a.heap[n]?=some e->fL a.slots x->Ans D 168 [AG a,HD x] [EP e,.i64 0]:=by
 have hc:=phi (MV hl hf h64);rw[aq h] at hc;have e0:okE true=0:=rfl;rw[e0] at hc;constructor
 .intro hn;refine am ?_;unfold Nu;simp[jr,vZ,pAG,Sf,EV,hc,phi (MU h.1.2.2.1 x),ai hn]
 .intro i n e hi hw he hl;refine am ?_;unfold Nu;simp[jr,vZ,pAG,Sf,ZB,ZC,abz,EV,hc,phi (MU h.1.2.2.1 x),aq hl,eW,ky,v6,hi,aO hw (bJ _),aL hw,cj,aO he (jo _),aL he,ly]
def pQ (a:Agenda)(d:Due)(number:Int)(t:Rt):Prop:=d.number=number/\ fL a.slots d.hnd/\∀(i n:Nat) (e:Evt),d.hnd.index=i->a.wher[i]?=some (n:Int)->a.heap[n]?=some e->e.number=number/\ e.time=t
open Classical in
def dL (c:Clock)(left:List Due)(h:Held):Option (List Due):=
 if eX c.pts h=true then
  (if(dY c.now (bo c.pts h.cert.high) (bo c.pts h.cert.low)).2=true then
   (match left with
    |[]=>none
    |d::rest=>if pQ c.agenda d h.number (dY c.now (bo c.pts h.cert.high) (bo c.pts h.cert.low)).1 then some rest else none)
  else some left)
 else none
def dp (c:Clock):Prop:=rok c.now=true/\ okF c.pts/\ cU c.certs/\ gi c.agenda/\ c.agenda.wher.length=200/\ c.agenda.heap.length=c.due.length/\ dV (dL c) c.due c.certs.list=some []
def fw (c:Clock):Prop:=bi c.now/\∀e∈c.agenda.heap,bi e.time
def wN {c:Clock}:∀{l:List Held} {left out:List Due},dV (dL c) left l=some out->l.all (eX c.pts)=true
 |[],_,_,_=>rfl
 |h::l,left,out,hh=>by
  unfold dV dL at hh;rw[dA];by_cases hk:eX c.pts h=true
  .rw[hk,eF];split at hh
   .exact wN hh
   .cases hh
  .rw[ac hk] at hh;cases hh
def MX {α:Type}{l rest:List α}{k:Nat}{d:α}(h:l.drop k=d::rest):l.drop (k+1)=rest:=(uK h).2
def yA (h:Held):RF.ev (.cell 1) [HP h]=some (.i64 h.cert.low):=rfl
def yB (h:Held):RF.ev (.cell 2) [HP h]=some (.i64 h.cert.high):=rfl
def OU (d:Due):ct 0 0 (cF d)=some (.i64 d.number):=rfl
def OV (d:Due):ct 1 2 (cF d)=some (HD d.hnd):=rfl
open Classical in
def A0 {c:Clock}(h64:fw c)(hg:gCl c=false):Ans D 101 [CL c] [.i64 (okE (decide (dp c)))]:=by
 unfold gCl gAg gSl at hg;simp only[cg,ah] at hg;have no:∀h:¬dp c,(some [PV.v (.int .i64 8)]:Option (List PV))=some [.i64 (okE (decide (dp c)))]:=λh=>by rw[ai h];rfl
 refine an ⟨1001,?_⟩;unfold TZ;simp only[au,cV,eR,iz,nJ,mb,iA,iX,dw,EV,aj,phi (nG h64.1),phi (ku _),phi (Sc _),phi (MV (a:=c.agenda) (by omega) (by omega) h64.2),gN,aA,ah,aa];by_cases h1:rok c.now=true
 .rw[ad h1];by_cases h2:eg c.pts=0
  .have h2':=dH.1 h2;rw[ac (by simp[h2])];by_cases h3:cU c.certs
   .rw[ad h3];simp only[au,mb,iA,iX,dw,EV,aj,phi (abx (c:=c.certs) (l:=c.pts) (by have:=h2'.1;omega) (by omega)),phi (MV (a:=c.agenda) (by omega) (by omega) h64.2),gN,aA,ah,aa];by_cases h4:c.certs.list.all (eX c.pts)=true
    .rw[ac (by simp[h4])];by_cases h5:gi c.agenda
     .rw[ad h5];by_cases h6:c.agenda.wher.length=200
      .rw[ac (by omega)];by_cases h7:c.agenda.heap.length=c.due.length
       .rw[ac (by omega)];have e0:([PV.v (.int .i64 0),.v (.int .i64 0)]:List PV)=[.i64 ((c.due.length-c.due.length:Nat):Int),.i64 ((0:Nat):Int)]:=by rw[fe];rfl
        rw[e0];refine(rE (m:=1001) (l:=c.certs.list) (b:=xg) (g:=dL c) (I:=λleft=>left=c.due.drop (c.due.length-left.length)/\ left.length<=c.due.length) (S:=λleft i=>[.i64 ((c.due.length-left.length:Nat):Int),.i64 (i:Int)]) (r:=some [.i64 8]) (fin:=λleft=>some [.i64 (if left=[] then 0 else 8)]) (x:=c.due) (by simp) (λh left out hI hg=>?_) (λi h left self hh hI=>?_) (λleft self hI hm=>?_) (by omega)).trans ?_
        .unfold dL at hg;split at hg
         .split at hg
          .cases left with
           |nil=>cases hg
           |cons d rest=>
            simp only at hg;split at hg
            .cases hg;obtain⟨e1,e2⟩:=hI;simp only[bj] at e1 e2;refine⟨?_,by omega⟩;rw[show c.due.length-out.length=c.due.length-(out.length+1)+1 by omega]
             exact(MX e1.symm).symm
            .cases hg
          .cases hg;exact hI
         .cases hg
        .obtain⟨hI1,hI2⟩:=hI;have hk:eX c.pts h=true:=aQ.1 h4 h (aB hh);have hk':=hk;unfold eX at hk';simp only[aF] at hk';unfold xg dL;rw[ad hk];generalize hF:dY c.now (bo c.pts h.cert.high) (bo c.pts h.cert.low)=FT;have hw:=phi (Sd (x:=h.cert) (t:=c.now) h2' h64.1 hk'.1 hk'.2);rw[hF] at hw;simp only[au,eS,dw,eR,iz,mb,aO hh (eV _),aL hh,jn,pHP,iW,aY,hw,EV,aj,aa,bc (aK hh),be,aA];cases hF2:FT.2 with
         |false=>
          simp only[cI,ay,aw,ax];simp only[au,iW,yA,yB,lu,lw,EV,B2,up1 (show i<1000000000 by have:=aK hh;omega)]
         |true=>
          simp only[nA,ax,ay];cases left with
          |nil=>rw[ad (by simp)]
          |cons d rest=>
           simp only[bj] at hI1 hI2|-;have hd:c.due[c.due.length-(rest.length+1)]?=some d:=by
            have:=aR (λl=>l[0]?) hI1;simp only[jS,hR,l6] at this;exact this.symm
           rw[ac (by omega)];simp only[au,dw,mb,aO hd (vX _),aL hd,OU,OV,iW,EV,aA,ah];by_cases n1:d.number=h.number
           .rw[ac (by simp[n1])];obtain⟨q1,q2⟩:=abA h5 (by omega) (by omega) h64.2 d.hnd;by_cases n2:fL c.agenda.slots d.hnd
            .obtain⟨ix,w,n,e,x1,x2,x3,x4,x5⟩:=AZ h5 n2;subst x3;have hD:pQ c.agenda d h.number FT.1↔(e.number=h.number/\ e.time=FT.1):=
              ⟨λy=>y.2.2 ix n e x1 x2 x4,λy=>⟨n1,n2,λi' n' e' y1 y2 y3=>by
               rw[x1] at y1;have:ix=i':=by omega
               subst this;rw[x2] at y2;have:n=n':=by
                have:(n:Int)=n':=by simpa using y2
                omega
               subst this;rw[x4] at y3;cases y3;exact y⟩⟩
             simp only[au,yy,th,pEP,iW,yA,yB,lu,lw,AY,phi (q2 ix n e x1 x2 x4 n2),EV,az,aJ,aw,ax,aA,ah];by_cases n3:e.number=h.number
             .rw[ac (by simp[n3])];by_cases n4:e.time=FT.1
              .rw[ac (by simp[n4]),ad (hD.2 ⟨n3,n4⟩)];simp only[B2,EV,up1 (show i<1000000000 by have:=aK hh;omega),up1 (show c.due.length-(rest.length+1)<1000000000 by omega)]
               rw[show c.due.length-(rest.length+1)+1=c.due.length-rest.length by omega]
              .rw[ad n4,ac (λy=>n4 (hD.1 y).2)]
             .rw[ad n3,ac (λy=>n3 (hD.1 y).1)]
            .simp only[au,yy,phi (q1 n2),EV,Int.reduceEq,ez,ay,bb,aV];rw[ac (λy=>n2 y.2.1)]
           .rw[ad n1,ac (λy=>n1 y.1)]
        .unfold xg;simp only[au,eS,dw,EV,aj,aa,bw,Jm,aA,ah];cases left with
         |nil=>rw[ac (by simp),ad rfl]
         |cons d rest=>
          rw[ad (by have:=hI.2;simp only[bj] at this|-;omega),ac (by simp)]
        .cases hm:dV (dL c) c.due c.certs.list with
         |none=>exact no (λh=>by rw[h.2.2.2.2.2.2] at hm;cases hm)
         |some left=>
          cases left with
          |nil=>rw[aq (show dp c from⟨h1,h2',h3,h5,h6,h7,hm⟩)];rfl
          |cons d rest=>exact no (λh=>by rw[h.2.2.2.2.2.2] at hm;cases hm)
       .rw[ad (by omega)];exact no (λh=>h7 h.2.2.2.2.2.1)
      .rw[ad (by omega)];exact no (λh=>h6 h.2.2.2.2.1)
     .rw[ac h5];exact no (λh=>h5 h.2.2.2.1)
    .rw[ad (by simpa using h4)]
     exact no (λh=>h4 (wN h.2.2.2.2.2.2))
   .rw[ac h3];exact no (λh=>h3 h.2.2.1)
  .rw[ad h2];exact no (λh=>h2 (dH.2 h.2.1))
 .rw[ac h1];exact no (λh=>h1 h.1)
section
variable {α:Type}[DecidableEq α]{ks:List Ck}{kc:α->List PV}
def qr (hl:∀a,(kc a).length=ks.length)(he:∀a b,eqL ks (kc a) (kc b)=some (decide (a=b)))(v:PV)(k:α):∀seen:List α,di ks (kc k) (seen.map λa=>kc a++[v])=some (if k∈seen then some [v] else none)
 |[]=>by simp[di,he]
 |a::l=>by
  simp only[bO,di];rw[f8 (hl a),he,lV (hl a)];by_cases e:a=k
  .subst e;simp
  .rw[ai e];simp only;rw[qr hl he v k l]
   congr 1
   have:(k∈a::l)↔k∈l:=by simp[show k≠a fromλh=>e h.symm]
   simp[this]
def rF (hl:∀a,(kc a).length=ks.length)(he:∀a b,eqL ks (kc a) (kc b)=some (decide (a=b)))(v:PV)(k:α):∀seen:List α,k∉seen->gT ks (kc k) [v] (seen.map λa=>kc a++[v])=some ((seen++[k]).map λa=>kc a++[v])
 |[],_=>by simp[gT,he]
 |a::l,h=>by
  simp only[bO,dR,gT];rw[f8 (hl a),he,ai (λe=>h (by simp[e]))];simp only;rw[rF hl he v k l (λe=>h (by simp[e]))]
end
abbrev T1:PV:= .bool true
def Nm (seen:List Int):PV:= .sl (seen.map λn=>[.i64 n]++[T1])
def Cm (seen:List Crt):PV:= .sl (seen.map λc=>cv c++[T1])
def eqN (a b:Int):eqL [.i] [.i64 a] [.i64 b]=some (decide (a=b)):=by
 simp[eqL,eqC]
def Sg (a b:Crt):eqL [.i,.i] (cv a) (cv b)=some (decide (a=b)):=by
 have h:=tg a b;injection h with h
 injection h with h
 injection h with h
 rw[<-h];rfl
def abB (seen:List Int)(k:Int):RF.ev (.mget [.i] [.v (.bool false)]) [Nm seen,.v (.int .i64 k)]=some (.bool (decide (k∈seen))):=by
 have h:=qr (ks:=[.i]) (kc:=λn:Int=>[.i64 n]) (λ_=>rfl) eqN T1 k seen;unfold Nm;simp only[RF.ev,show(PV.v (.int .i64 k)).cells=[.i64 k] from rfl,h]
 by_cases e:k∈seen
 .simp[e];rfl
 .simp[e];rfl
def abC (seen:List Int){k:Int}(h:k∉seen):RF.ev (.mset [.i] 1) [Nm seen,.v (.int .i64 k),.v (.bool true)]=some (Nm (seen++[k])):=by
 have h:=rF (ks:=[.i]) (kc:=λn:Int=>[.i64 n]) (λ_=>rfl) eqN T1 k seen h;unfold Nm;simp only[RF.ev,show(PV.v (.int .i64 k)).cells=[.i64 k] from rfl,show(PV.v (.bool true)).cells=[T1] from rfl,h]
 rfl
def ZD (seen:List Crt)(k:Crt):RF.ev (.mget [.i,.i] [.v (.bool false)]) [Cm seen,CP k]=some (.bool (decide (k∈seen))):=by
 have h:=qr (ks:=[.i,.i]) (kc:=cv) (λ_=>rfl) Sg T1 k seen;unfold Cm;simp[RF.ev,show(CP k).cells=cv k from rfl,h]
 by_cases e:k∈seen
 .simp[e];rfl
 .simp[e];rfl
def ZE (seen:List Crt){k:Crt}(h:k∉seen):RF.ev (.mset [.i,.i] 1) [Cm seen,CP k,.v (.bool true)]=some (Cm (seen++[k])):=by
 have h:=rF (ks:=[.i,.i]) (kc:=cv) (λ_=>rfl) Sg T1 k seen h;unfold Cm;simp[RF.ev,show(CP k).cells=cv k from rfl,show(PV.v (.bool true)).cells=[T1] from rfl,h]
 rfl
def fM {α:Type}{f:α->List PV}{bytes z:Nat}{l:List α}(h:l.length*bytes<=140737488355328)(hz:∀a,(f a).length=z):RF.ev (.app bytes z) [.sl [],.v (.int .i64 0),.sl (l.map f)]=some (.sl (l.map f)):=by
 have:=fJ (f:=f) (l:=[]) (k:=l) (bytes:=bytes) (z:=z) (by simpa using h) hz
 grind
def A1 {l:List Bool}(hl:l.length<=1000):Ans D 148 [sl B1 l] [sl B1 l]:=by
 refine am ?_;unfold U8;simp only[EV,aj,aa];have h1:den (PhiS D) 1 Cw [] [sl B1 l,.i64 (l.length:Int),.bool (decide ((l.length:Int)=0))]=some [sl B1 l]:=by
  unfold Cw;simp[EV,fM (l:=l) (f:=B1) (bytes:=1) (z:=1) (by omega) qn,bm]
 by_cases h:(l.length:Int)=0
 .have:l=[]:=bu (by omega);subst this;rw[ad h];exact k9 rfl h1
 .grind
def abD {l:List Bool}(_:0<l.length)(hl:l.length<=1000):Ans D 148 [sl B1 l] [sl B1 l]:=A1 hl
def iB {l:List Int}(hl:l.length<=1000):Ans D 95 [sl I1 l] [sl I1 l]:=by
 refine am ?_;unfold TX;simp only[EV,aj,aa];have h1:den (PhiS D) 1 BY [] [sl I1 l,.i64 (l.length:Int),.bool (decide ((l.length:Int)=0))]=some [sl I1 l]:=by
  unfold BY;simp[EV,fM (l:=l) (f:=I1) (bytes:=8) (z:=1) (by omega) bJ,bm]
 by_cases h:(l.length:Int)=0
 .have:l=[]:=bu (by omega);subst this;rw[ad h];exact k9 rfl h1
 .grind
def yC {α:Type}[DecidableEq α](v:α)(l:List α):l.any (λy=>decide (v=y))=decide (v∈l):=by
 grind
def abE {l:List Bool}(v:Bool)(hl:l.length<=1000):Ans D 336 [sl B1 l,.bool v] [.i64 (ql (λy=>decide (v=y)) l)]:=by
 refine an ⟨1001,?_⟩;unfold Yf;simp[EV];refine(ji (m:=1001) (l:=l) (p:=λy=>decide (v=y)) (st:=λi=>[.i64 (i:Int)]) (ret:=λi=>some [.i64 (i:Int)]) (fin:=some [.i64 (-1)]) (λi a self ha=>?_) (λself=>?_) (by omega)).trans Aj
 .unfold DX;simp only[aO ha (qn _),aL ha,rC,EV,aa,bc (aK ha),up1 (show i<1000000000 by have:=aK ha;omega),beq_iff_eq]
 .unfold DX;simp[EV,LH]
def abF {l:List Bool}(v:Bool)(hl:l.length<=1000):Ans D 280 [sl B1 l,.bool v] [.bool (decide (v∈l))]:=by
 refine am ?_;unfold Xo;simp[EV,phi (abE v hl),vR,yC]
open Classical in
def Si {s:Slots}(hg:gSl s=false):Ans D 215 [SL s] [.i64 (okE (decide s.okR))]:=by
 unfold gSl at hg;simp only[cg,ah] at hg;rw[show decide s.okR=decide s.okP from bU.2 (Slots.ok_iff s).symm]
 have no:∀h:¬s.okP,(some [PV.v (.int .i64 8)]:Option (List PV))=some [.i64 (okE (decide s.okP))]:=λh=>by rw[ai h];rfl
 refine an ⟨1001,?_⟩;unfold Wq;simp only[au,jq,iw,jV,iy,EV,aj,aa,aA,ah];by_cases h1:s.uses.length<1
 .rw[ad (by omega)];exact no (λh=>by have:=h.1;omega)
 rw[ac (by omega)];by_cases h2:200<s.uses.length
 .rw[ad (by omega)];exact no (λh=>by have:=h.2.1;omega)
 rw[ac (by omega)];by_cases h3:s.used.length=s.uses.length
 rotate_left
 .rw[ad (by omega)];exact no (λh=>h3 h.2.2.1)
 rw[ac (by omega)];simp only[phi (abD (l:=s.used) (by omega) (by omega)),EV,aj,au,iy];refine(rE (m:=1001) (l:=s.free) (g:=λl x=>if 0<=x/\ x<l.length/\ l[x.toNat]?=some false then some (l.set x.toNat true) else none) (I:=λl=>l.length=s.uses.length) (S:=λl i=>[sl B1 l,.i64 (i:Int)]) (r:=some [.i64 8])
  (fin:=λacc=>some [.i64 (okE (decide s.okP))]) (x:=s.used) h3 (λa acc acc' hI hg=>?_) (λi x acc self hx hI=>?_) (λacc self hI hm=>?_) (by omega)).trans ?_
 .split at hg
  .cases hg;simpa using hI
  .cases hg
 .unfold yR;have hi:=aK hx;simp only[au,iy,aO hx (bJ _),aL hx,cj,EV,aj,aa,bc hi,be,show((0:Int)<=(i:Int)) by omega,ay]
  by_cases c1:x<0
  .rw[ad c1,ac (by omega)]
  .rw[ac c1];by_cases c2:(s.uses.length:Int)<=x
   .rw[ad c2,ac (by rw[hI];omega)]
   .rw[ac c2];obtain⟨n,rfl⟩:=qq (show 0<=x by omega)
    obtain⟨b,hb⟩:∃b,acc[n]?=some b:=⟨acc[n]'(by omega),ak _⟩;simp only[au,iy,aO hx (bJ _),aL hx,cj,ixM (show n<s.used.length by omega),aL hb,rC,GE (show n<acc.length by omega),EV,up1 (show i<1000000000 by omega)]
    cases b with
    |true=>
     rw[ad rfl,ad (show decide ((0:Int)<=(i:Int))=true from aq (by omega)),ac (λg=>by have:=g.2.2;rw[aG,hb] at this;cases this)]
    |false=>rw[ac (by simp),ad ⟨by omega,by omega,by rw[aG];exact hb⟩,aG]
 .rw[<-lz] at hm;have su:RF.ev .sub [sl B1 acc,.v (.int .i64 0),.v (.int .i64 (s.used.length:Int))]=some (sl B1 acc):=by rw[h3,<-hI];exact bm
  unfold yR;simp only[au,EV,aa,bw,KZ,su,iw,aj,phi (abF (l:=acc) false (by omega)),be,show¬((0:Int)<= -1) by omega,ax]
  by_cases c1:false∈acc
  .simp only[c1,ay];exact no (λh=>by
    obtain⟨l,e1,e2⟩:=h.2.2.2.1;rw[hm] at e1;cases e1;exact e2 c1)
  simp only[c1,ax];refine(ef (m:=1001) (n:=s.uses.length) (P:=λi=>∀u,s.uses[i]?=some u->0<=u/\ u<=1000000/\¬(u=0/\ s.used[i]?=some true)) (st:=λi=>[.i64 (i:Int)]) (r:=some [.i64 8]) (fin:=some [.i64 0]) (λi self hi _=>?_) (λ_ self=>?_) (by omega)).trans ?_
  .obtain⟨u,hu⟩:∃u,s.uses[i]?=some u:=⟨s.uses[i],ak _⟩;obtain⟨b,hb⟩:∃b,s.used[i]?=some b:=⟨s.used[i]'(by omega),ak _⟩;have hP:(∀u',s.uses[i]?=some u'->0<=u'/\ u'<=1000000/\¬(u'=0/\ s.used[i]?=some true))↔(0<=u/\ u<=1000000/\¬(u=0/\ b=true)):=by
    rw[hu,hb];simp
   unfold Dm;simp only[hP,au,iw,jV,aO hu (bJ _),aL hu,cj,aO hb (qn _),aL hb,rC,EV,aa,bc hi,KY,up1 (show i<1000000000 by omega)]
   by_cases c1:u<0
   .simp only[ad c1,ay];rw[ac (by omega)]
   simp only[ac c1];by_cases c2:1000000<u
   .simp only[ad c2,ay];rw[ac (by omega)]
   simp only[ac c2];by_cases c3:u=0
   .simp only[ad c3];cases b with
    |true=>simp[c3]
    |false=>simp[c3]
   .simp only[ac c3,aw,ax];rw[ad ⟨by omega,by omega,λh=>c3 h.1⟩]
  .unfold Dm;simp only[EV,aa,bw,KX]
  .by_cases hr:s.okP
   .rw[ad (λi _=>hr.2.2.2.2 i),aq hr];rfl
   .rw[ac (λh=>hr ⟨by omega,by omega,h3,⟨acc,hm,c1⟩,λi u hu=>h i (aK hu) u hu⟩),ai hr];rfl
 .rw[<-lz];cases hm:lR s.used s.free with
  |some l=>rfl
  |none=>
   exact no (λh=>by
    obtain⟨l,e1,_⟩:=h.2.2.2.1;rw[hm] at e1;cases e1)
def v7 (x y:Evt):Int:=if sgn (crs x.time y.time)=0 then sgn (x.number-y.number) else sgn (crs x.time y.time)
def uL (x y:Evt):v7 x y<0↔evLess x y=true:=by
 unfold v7 evLess;have:=jk x.number y.number
 grind
def GG {x y:Evt}(hx:bi x.time)(hy:bi y.time)(rx:rok x.time=true)(ry:rok y.time=true):Ans D 216 [EP x,EP y] [.i64 (v7 x y)]:=by
 have e:=phi (aa3 hx hy);rw[rx,ry,sR,ad rfl] at e;have bs:RF.ev (.bs 2 [KP.z] [0,1]) [.v (.int .i64 (sgn (crs x.time y.time))),.v (.int .i64 (sgn (x.number-y.number)))]=some (.sl [[.i64 (sgn (crs x.time y.time))],[.i64 (sgn (x.number-y.number))]]):=rfl;have su:∀a b:List PV,RF.ev .sub [.sl [a,b],.v (.int .i64 0),.v (.int .i64 2)]=some (.sl [a,b]):=λa b=>rfl;refine am ?_;unfold Wr v7;simp[yy,pEP,th,EV,e,phi (td _ _),bs,su,phi (orr _ _)]
def mP (c:Certs):Nat->Int
 |0=> -1
 |i+1=>((c.list[i]?).map Held.number).getD (-1)
def wO (c:Certs)(j:Nat)(h:Held):Prop:=h.cert.ok/\(∀k,k<j->∀g,c.list[k]?=some g->g.cert≠h.cert)/\ mP c j<h.number/\ h.number<c.next
def ID {c:Certs}(h1:c.list.length<=200)(h2:0<=c.next)(h3:c.next<=1000000):(∀j h,c.list[j]?=some h->wO c j h)↔cU c:=by
 constructor
 .intro h;have nn:∀(j:Nat) (g:Held),c.list[j]?=some g->0<=g.number:=by
   intro j;induction j with
   |zero=>intro g hg;have:=(h 0 g hg).2.2.1;simp only[mP] at this;omega
   |succ j ih=>
    intro g hg;obtain⟨p,hp⟩:∃p,c.list[j]?=some p:=⟨c.list[j]'(by have:=aK hg;omega),ak _⟩;have h5:=(h (j+1) g hg).2.2.1;simp only[mP,hp,bX,cp] at h5
    grind
  refine⟨h1,h2,h3,λi x hx=>⟨(h i x hx).1,nn i x hx,(h i x hx).2.2.2,λg hi hg=>?_,(h i x hx).2.1⟩⟩;obtain⟨i,rfl⟩:∃k,i=k+1:=⟨i-1,by omega⟩;have:=(h (i+1) x hx).2.2.1;rw[dJ] at hg;simp only[mP,hg,bX,cp] at this;exact this
 .rintro⟨_,_,_,h⟩ j x hx;obtain⟨a1,a2,a3,a4,a5⟩:=h j x hx;refine⟨a1,a5,?_,a3⟩;cases j with
  |zero=>simp only[mP];omega
  |succ j=>
   obtain⟨p,hp⟩:∃p,c.list[j]?=some p:=⟨c.list[j]'(by have:=aK hx;omega),ak _⟩;simp only[mP,hp,bX,cp];exact a4 p (by omega) (by simpa using hp)
def A2 {c:Certs}{i:Nat}{k:Crt}:k∉(c.list.take i).map (·.cert)↔∀j,j<i->∀g,c.list[j]?=some g->g.cert≠k:=by
 constructor
 .intro h j hj g hg e;exact h (bg.2 ⟨g,aN.2 ⟨j,by rw[dC hj];exact hg⟩,e⟩)
 .intro h hm;obtain⟨g,hg,e⟩:=bg.1 hm;obtain⟨j,hj⟩:=aN.1 hg
  grind
open Classical in
def GH {c:Certs}(hl:c.list.length<=1000):Ans D 142 [CS c] [.i64 (okE (decide (cU c)))]:=by
 refine an ⟨1001,?_⟩;unfold U3;have no:∀h:¬cU c,(some [PV.v (.int .i64 8)]:Option (List PV))=some [.i64 (okE (decide (cU c)))]:=λh=>by rw[ai h];rfl
 simp only[au,im,l9,eb,EV,aj,aa,bh];by_cases h1:200<c.list.length
 .rw[ad (by omega)];exact no (λh=>by have:=h.1;omega)
 rw[ac (by omega)];by_cases h2:c.next<0
 .rw[ad h2];exact no (λh=>by have:=h.2.1;omega)
 rw[ac h2];by_cases h3:1000000<c.next
 .rw[ad h3];exact no (λh=>by have:=h.2.2.1;omega)
 rw[ac h3];refine(ef (n:=c.list.length) (P:=λi=>∀h,c.list[i]?=some h->wO c i h) (st:=λi=>[Cm ((c.list.take i).map (·.cert)),.i64 (mP c i),.i64 (i:Int)]) (r:=some [.i64 8]) (fin:=some [.i64 0]) (λi self hi _=>?_) (λ_ self=>?_) (by omega)).trans ?_
 .obtain⟨h,hh⟩:∃h,c.list[i]?=some h:=⟨c.list[i],ak _⟩;have hP:(∀h',c.list[i]?=some h'->wO c i h')↔wO c i h:=⟨λx=>x h hh,λx h' e=>by rw[hh] at e;cases e;exact x⟩;have hs:(c.list.take (i+1)).map (·.cert)=(c.list.take i).map (·.cert)++[h.cert]:=by
   rw[cd,hh];simp
  have hn:mP c (i+1)=h.number:=by simp only[mP,hh,bX,cp]
  unfold Cl;simp only[hP,hs,hn,au,l9,eb,aO hh (eV _),aL hh,jn,pHP,iW,phi (Sb _),ZD,EV,aj,aa,bc hi,aA,ah,be];by_cases a1:h.cert.ok
  rotate_left
  .rw[ad a1,ac (λx=>a1 x.1)]
  rw[ac (iQ a1)];by_cases a2:h.cert∈(c.list.take i).map (·.cert)
  .rw[ad a2,ac (λx=>absurd a2 (A2.2 x.2.1))]
  rw[ac a2];by_cases a3:h.number<=mP c i
  .rw[ad a3,ac (λx=>by have:=x.2.2.1;omega)]
  rw[ac a3];by_cases a4:c.next<=h.number
  .rw[ad a4,ac (λx=>by have:=x.2.2.2;omega)]
  rw[ac a4,ad ⟨a1,A2.1 a2,by omega,by omega⟩];simp only[au,pHP,iW,ZE _ a2,EV,up1 (show i<1000000000 by omega)]
 .unfold Cl;simp only[au,eb,EV,aj,aa,bw,JR]
 .have:(∀i,i<c.list.length->∀h,c.list[i]?=some h->wO c i h)↔cU c:=by
   rw[<-ID (by omega) (by omega) (by omega)];exact⟨λh i x hx=>h i (aK hx) x hx,λh i _=>h i⟩
  by_cases hr:cU c
  .rw[ad (this.2 hr),aq hr];rfl
  .rw[ac (λh=>hr (this.1 h)),ai hr];rfl
def ZF (p q:Hnd):RF.ev (.eqv [.i,.i]) [HD p,HD q]=some (.bool (decide (p=q))):=by
 obtain⟨a,b⟩:=p;obtain⟨c,d⟩:=q;show some (PV.bool (decide (a=c)&&(decide (b=d)&& true)))=_
 simp_all
open Classical in
def Sj {a:Agenda}(hg:gAg a=false)(h64:∀e∈a.heap,bi e.time):Ans D 143 [AG a] [.i64 (okE (decide (gi a)))]:=by
 have hgs:=hg;unfold gAg at hgs;simp only[cg,ah] at hgs;have hsl:a.slots.uses.length<=210/\ a.slots.used.length<=210/\ a.slots.free.length<=210:=by
  have:=hgs.1.1;unfold gSl at this
  grind
 have cAG0:RF.ev (.cell 0) [AG a]=some (sl I1 a.slots.uses):=rfl;have cAG1:RF.ev (.cell 1) [AG a]=some (sl B1 a.slots.used):=rfl;have cAG2:RF.ev (.cell 2) [AG a]=some (sl I1 a.slots.free):=rfl;have no:∀h:¬gi a,(some [PV.v (.int .i64 8)]:Option (List PV))=some [.i64 (okE (decide (gi a)))]:=λh=>by rw[ai h];rfl
 refine an ⟨1001,?_⟩;unfold U4;simp only[au,jr,pAG,cAG1,cAG2,eW,ky,EV,aj,phi (Si hgs.1.1),m7,aa,aA,ah,cz (show-9223372036854775808<=(a.slots.used.length:Int)-(a.slots.free.length:Int) by omega) (by omega)]
 by_cases q1:a.slots.okR
 rotate_left
 .rw[ad (by rw[ai q1];decide)];exact no (λh=>q1 h.1)
 rw[ac (by rw[aq q1];decide)];obtain⟨g1,g2,g3,g4,_⟩:=id q1;by_cases q2:a.wher.length=a.slots.used.length
 rotate_left
 .rw[ad (by omega)];exact no (λh=>q2 (by rw[h.2.1.1,g3]))
 rw[ac (by omega)];by_cases q3:a.heap.length+a.slots.free.length=a.slots.used.length
 rotate_left
 .rw[ad (by omega)];exact no (λh=>q3 (by rw[h.2.1.2.1,g3]))
 rw[ac (by omega)];refine(ef (n:=a.wher.length) (P:=λi=>∀(b:Bool) (w u:Int),a.slots.used[i]?=some b->a.wher[i]?=some w->a.slots.uses[i]?=some u->if b=true then 0<=w/\∃e,a.heap[w.toNat]?=some e/\ e.hnd=⟨i,u⟩ else w= -1) (st:=λi=>[.i64 (i:Int)]) (r:=some [.i64 8]) (fin:=some [.i64 (okE (decide (gi a)))]) (λi self hi _=>?_) (λhall self=>?_) (by omega)).trans ?_
 .obtain⟨u,hu⟩:∃u,a.slots.uses[i]?=some u:=⟨a.slots.uses[i]'(by omega),ak _⟩;obtain⟨b,hb⟩:∃b,a.slots.used[i]?=some b:=⟨a.slots.used[i]'(by omega),ak _⟩;obtain⟨w,hw⟩:∃w,a.wher[i]?=some w:=⟨a.wher[i]'(by omega),ak _⟩;have hP:(∀(b':Bool) (w' u':Int),a.slots.used[i]?=some b'->a.wher[i]?=some w'->a.slots.uses[i]?=some u'->if b'=true then 0<=w'/\∃e,a.heap[w'.toNat]?=some e/\ e.hnd=⟨i,u'⟩ else w'= -1)↔(if b=true then 0<=w/\∃e,a.heap[w.toNat]?=some e/\ e.hnd=⟨i,u⟩ else w= -1):=
   ⟨λh=>h b w u hb hw hu,λh b' w' u' h1 h2 h3=>by rw[hu] at h3;rw[hb] at h1;rw[hw] at h2;cases h1;cases h2;cases h3;exact h⟩
  have nxt:=up1 (show i<1000000000 by omega)
  unfold Cr;simp only[hP,au,cAG1,eW,ky,aO hb (qn _),aL hb,rC,aO hw (bJ _),aL hw,cj,EV,aj,aa,bc hi];cases b with
  |false=>
   simp only[aV,ay,aw,ax,EV,aA,ah];by_cases c1:w= -1
   .rw[ac (by omega),ad c1];unfold Cq;simp only[EV,nxt]
   .rw[ad c1,ac c1]
  |true=>
   simp only[aJ,aw,ax,ay,be];by_cases c1:w<0
   .rw[ad c1,ac (by omega)]
   rw[ac c1];obtain⟨n,rfl⟩:=qq (show 0<=w by omega)
   by_cases c2:a.heap.length<=n
   .rw[ad (by omega),ac (λh=>by
     obtain⟨_,e,he,_⟩:=h;have:=aK he;omega)]
   rw[ac (by omega)];obtain⟨e,he⟩:∃e,a.heap[n]?=some e:=⟨a.heap[n]'(by omega),ak _⟩;have ag:RF.ev .agg [.v (.int .i64 (i:Int)),.v (.int .i64 u)]=some (HD ⟨i,u⟩):=rfl;simp only[au,cAG0,eW,aO he (jo _),aL he,OS,aO hu (bJ _),aL hu,cj,ag,ZF,EV,aG,aA,ah];by_cases c3:e.hnd=⟨i,u⟩
   .rw[ac (iQ c3),ad ⟨by omega,e,he,c3⟩];unfold Cq;simp only[EV,nxt]
   .rw[ad c3,ac (λh=>by
     obtain⟨_,e',he',h'⟩:=h;rw[he] at he';cases he';exact c3 h')]
 .have hpl:m9 a:=⟨by omega,by omega,λi b w u hb hw hu=>hall i (aK hw) b w u hb hw hu⟩;unfold Cr;simp only[EV,aa,bw];unfold JU;simp only[au,eW,EV,aj];refine(ef (n:=a.heap.length) (P:=λi=>∀e,a.heap[i]?=some e->nK e/\(∀k,k<i->∀e',a.heap[k]?=some e'->e'.number≠e.number)/\∀p,0<i->a.heap[(i-1)/2]?=some p->evLess e p=false) (st:=λi=>[Nm ((a.heap.take i).map (·.number)),.i64 (i:Int)]) (r:=some [.i64 8]) (fin:=some [.i64 0]) (λi self hi hbef=>?_) (λ_ self=>?_) (by omega)).trans ?_
  .obtain⟨e,he⟩:∃e,a.heap[i]?=some e:=⟨a.heap[i],ak _⟩;have hP:(∀e',a.heap[i]?=some e'->nK e'/\(∀k,k<i->∀x,a.heap[k]?=some x->x.number≠e'.number)/\∀p,0<i->a.heap[(i-1)/2]?=some p->evLess e' p=false)↔(nK e/\(∀k,k<i->∀x,a.heap[k]?=some x->x.number≠e.number)/\∀p,0<i->a.heap[(i-1)/2]?=some p->evLess e p=false):=
    ⟨λh=>h e he,λh e' h1=>by rw[he] at h1;cases h1;exact h⟩
   have hs:(a.heap.take (i+1)).map (·.number)=(a.heap.take i).map (·.number)++[e.number]:=by
    rw[cd,he];simp
   have hseen:e.number∉(a.heap.take i).map (·.number)↔∀k,k<i->∀x,a.heap[k]?=some x->x.number≠e.number:=by
    constructor
    .intro h j hj g hg e';exact h (bg.2 ⟨g,aN.2 ⟨j,by rw[dC hj];exact hg⟩,e'⟩)
    .intro h hm;obtain⟨g,hg,e'⟩:=bg.1 hm;obtain⟨j,hj⟩:=aN.1 hg;rw[fS] at hj;split at hj
     .exact h j (by assumption) g hj e'
     .cases hj
   unfold Cp;simp only[hP,hs,au,eW,aO he (jo _),aL he,ly,pEP,th,phi (c43 (h64 e (aB he))),m7,abB,EV,aj,aa,bc hi,bh];by_cases c1:rok e.time=true
   rotate_left
   .rw[ac c1,ac (λh=>c1 h.1.1)]
   rw[ad c1];by_cases c2:e.number<0
   .rw[ad c2,ac (λh=>by have:=h.1.2;omega)]
   rw[ac c2];by_cases c3:1000000<e.number
   .rw[ad c3,ac (λh=>by have:=h.1.2;omega)]
   rw[ac c3];by_cases c4:e.number∈(a.heap.take i).map (·.number)
   .rw[ad c4,ac (λh=>absurd c4 (hseen.2 h.2.1))]
   rw[ac c4];have nxt:=up1 (show i<1000000000 by omega)
   simp only[au,th,abC _ c4,EV,aa];cases i with
   |zero=>
    rw[ac (by omega),ad ⟨⟨c1,by omega,by omega⟩,hseen.1 c4,λp h=>absurd h (dh _)⟩];unfold Co;simp only[EV,aw,ax,nxt]
   |succ j=>
    obtain⟨p,hp⟩:∃p,a.heap[j/2]?=some p:=⟨a.heap[j/2]'(by omega),ak _⟩;have rp:rok p.time=true:=(hbef (j/2) (by omega) p hp).1.1;rw[ad (by omega)];simp only[au,jQ,GF (show j<1000000 by omega),eW,aO hp (jo _),aL hp,ly,phi (GG (h64 e (aB he)) (h64 p (aB hp)) c1 rp),EV]
    unfold Co;simp only[EV,aa,nxt];by_cases c5:v7 e p<0
    .rw[ad c5,ac (λh=>by
      have:=h.2.2 p (by omega) (by simpa using hp)
      rw[(uL e p).1 c5] at this;cases this)]
    .rw[ac c5,ad ⟨⟨c1,by omega,by omega⟩,hseen.1 c4,λq _ hq=>by
      rw[dJ,hp] at hq;cases hq;cases h:evLess e p with
      |false=>rfl
      |true=>exact absurd ((uL e p).2 h) c5⟩]
  .unfold Cp;simp only[EV,aa,bw,JS]
  .have:(∀i,i<a.heap.length->∀e,a.heap[i]?=some e->nK e/\(∀k,k<i->∀e',a.heap[k]?=some e'->e'.number≠e.number)/\∀p,0<i->a.heap[(i-1)/2]?=some p->evLess e p=false)↔gi a:=by
    constructor
    .intro h;refine⟨q1,hpl,λe he=>?_,?_,λi e p he hp=>?_⟩
     .obtain⟨i,hi⟩:=aN.1 he;exact(h i (aK hi) e hi).1
     .rw[mF];intro i j x hj hi hjx;rw[aT,bB] at hi hjx;obtain⟨e,he,rfl⟩:=hi;obtain⟨e',he',h'⟩:=hjx;exact(h i (aK he) e he).2.1 j hj e' he' h'
     .exact(h (i+1) (aK he) e he).2.2 p (by omega) (by rw[dJ];exact hp)
    .rintro⟨_,_,h3,h4,h5⟩ i hi e he;rw[mF] at h4;refine⟨h3 e (aB he),λk hk e' he' hn=>?_,λp hp0 hp=>?_⟩
     .exact h4 i k e.number hk (by rw[aT,he];rfl) (by rw[aT,he',bX,hn])
     .obtain⟨j,rfl⟩:∃j,i=j+1:=⟨i-1,by omega⟩;exact h5 j e p he (by rw[dJ] at hp;exact hp)
   by_cases hr:gi a
   .rw[ad (this.2 hr),aq hr];rfl
   .rw[ac (λh=>hr (this.1 h)),ai hr];rfl
 .by_cases hall:∀i,i<a.wher.length->∀(b:Bool) (w u:Int),a.slots.used[i]?=some b->a.wher[i]?=some w->a.slots.uses[i]?=some u->if b=true then 0<=w/\∃e,a.heap[w.toNat]?=some e/\ e.hnd=⟨i,u⟩ else w= -1
  .rw[ad hall]
  .rw[ac hall];exact no (λh=>hall λi _=>h.2.1.2.2 i)
def wP {c:Clock}(h:okF c.pts)(hr:rok c.now=true){x:Held}(hx:x.cert.ok):hZ (bo c.pts x.cert.high) (bo c.pts x.cert.low) c.now=0↔eX c.pts x=true:=by
 unfold eX;rw[aF];constructor
 .intro h0;obtain⟨h1,h2,_,_⟩:=yn h0;have go:∀id,(bo c.pts id).ok=true->inF c.pts id=true:=λid hp=>by
   cases e:inF c.pts id with
   |true=>rfl
   |false=>rw[zx (yz e)] at hp;simp[Pt.ok] at hp
  grind
 .rintro⟨h1,h2⟩;obtain⟨i,p,a1,a2,a3,a4⟩:=gr h h1;obtain⟨j,q,b1,b2,b3,b4⟩:=gr h h2;rw[a4,b4];exact jm (ea h b1) (ea h a1) hr (by rw[a2,b2];exactλe=>hx.2.2.2.2 e.symm)
def ZG {d:Due}{rest:List Due}:RF.ev (.tsub 3) [sl cF (d::rest),.v (.int .i64 1),.v (.int .i64 ((rest.length+1:Nat):Int))]=some (sl cF rest):=by
 rw[yc,ad ⟨by omega,by omega,by simp,by simp[dU,cF],by decide⟩];simp;exact aZ (by simp)
def abG {n:Nat}:RF.ev .bnd [.v (.int .i64 1),.v (.int .i64 ((n+1:Nat):Int))]=some (.i64 1):=by
 rw[qf,ad ⟨by omega,by omega⟩]
def abH (e:Rt)(n:Int)(h:Hnd):RF.ev .agg [R e,.i64 n,HD h]=some (EP ⟨e,n,h⟩):=rfl
open Classical in
def GI {c:Clock}(h64:fw c)(hg:gW c):Ans D 87 [CL c] [.i64 (okE (decide (dp c)))]:=by
 obtain⟨hg1,hg2,hg3,hga⟩:=hg;have hg':=hga;unfold gAg gSl at hg';simp only[cg,ah] at hg';have no:∀h:¬dp c,(some [PV.v (.int .i64 8)]:Option (List PV))=some [.i64 (okE (decide (dp c)))]:=λh=>by rw[ai h];rfl
 have b4:∀w x y z:Int,RF.ev (.bs 4 [KP.z] [0,1,2,3]) [.i64 w,.i64 x,.i64 y,.i64 z]=some (sl I1 [w,x,y,z]):=λ_ _ _ _=>rfl;refine an ⟨1001,?_⟩;unfold TP;simp only[au,cV,eR,iz,nJ,mb,b4,EV,phi (c43 h64.1),phi (qm _),phi (GH (c:=c.certs) (by omega)),phi (Sj hga h64.2)];refine(b9 (m:=1001) (l:=[okE (rok c.now),eg c.pts,okE (decide (cU c.certs)),okE (decide (gi c.agenda))]) (p:=λe=>decide (e=0)) (st:=λi=>[.i64 (i:Int)]) (r:=some [.i64 8]) (fin:=some [.i64 (okE (decide (dp c)))]) (λi e self he _=>?_) (λhall self=>?_) (by simp)).trans ?_
 .have hi:i<4:=by simpa using aK he
  unfold BW;have i4:RF.ev .ix [.i64 (i:Int),.v (.int .i64 4)]=some (.i64 (i:Int)):=by rw[Zc,ad (by omega)]
  have l4:decide ((i:Int)<4)=true:=aq (by omega);simp only[EV,l4,cI,ay,i4,aL he,cj,up1 (show i<1000000000 by omega),aA,aa]
  by_cases e0:e=0
  .rw[aq e0,ac (by simp),ad e0]
  .rw[ai e0,ad rfl,ac e0]
 .simp only[dA,List.all_nil,kr,aF,aa,AU] at hall;obtain⟨h1,h2,h3,h5⟩:=hall;have h2':=dH.1 h2;unfold BW;have l4:decide (((4:Nat):Int)<4)=false:=by decide
  simp only[bj,dg,b7,Nat.reduceAdd,EV,l4,aw,ax];unfold Jk;simp only[au,eS,iA,iX,dw,EV,aj,aA,ah];by_cases h6:c.agenda.wher.length=200
  .rw[ac (by omega)];by_cases h7:c.agenda.heap.length=c.due.length
   .rw[ac (by omega)];refine(rE (m:=1001) (l:=c.certs.list) (b:=xf) (g:=dL c) (I:=λ_=>True) (S:=λleft i=>[sl cF left,.i64 (i:Int)]) (r:=some [.i64 8]) (fin:=λleft=>some [.i64 (if left=[] then 0 else 8)]) (x:=c.due) trivial (λ_ _ _ _ _=>trivial) (λi h left self hh _=>?_) (λleft self _ hm=>?_) (by omega)).trans ?_
    .have hx:h.cert.ok:=(h3.2.2.2 i h hh).1;have hk:=wP h2' h1 hx;have hw:=phi (Se (x:=h.cert) (t:=c.now) h2' h64.1);unfold xf dL;generalize hF:dY c.now (bo c.pts h.cert.high) (bo c.pts h.cert.low)=FT at hw|-;by_cases hkn:eX c.pts h=true
     .rw[ad (hk.2 hkn)] at hw;rw[ad hkn];simp only[au,eS,dw,eR,iz,mb,aO hh (eV _),aL hh,jn,pHP,iW,aY,hw,EV,aj,aa,bc (aK hh),be,aA,az,aJ,aw,ax];cases hF2:FT.2 with
      |false=>
       simp only[cI,ay,aw,ax];simp only[au,iW,yA,yB,lu,lw,EV,BV,up1 (show i<1000000000 by have:=aK hh;omega)]
      |true=>
       simp only[nA,ax,ay];cases left with
       |nil=>rw[ad (by simp)]
       |cons d rest=>
        have d0:(d::rest)[0]?=some d:=rfl;have t0':RF.ev (.tix 3) [sl cF (d::rest),.v (.int .i64 0)]=some (.i64 ((0:Nat):Int)):=aO d0 (vX _);rw[ac (by simp;omega)];simp only[au,t0',aL d0,OU,OV,v6,iW,EV,aA,ah,aa,be];by_cases n1:d.number=h.number
        .rw[ac (by simp[n1])];by_cases n2:d.hnd.index<0
         .rw[ad n2,ac (λy=>by have:=y.2.1.1;omega)]
         .rw[ac n2];by_cases n3:200<=d.hnd.index
          .rw[ad n3,ac (λy=>by
            have:=aK y.2.1.2.2;have:=h5.2.1.1;omega)]
          .rw[ac n3];obtain⟨ix,hix⟩:=qq (show 0<=d.hnd.index by omega)
           obtain⟨w,hwh⟩:∃w,c.agenda.wher[ix]?=some w:=⟨c.agenda.wher[ix]'(by omega),ak _⟩;obtain⟨b,hb⟩:∃b,c.agenda.slots.used[ix]?=some b:=⟨c.agenda.slots.used[ix]'(by have:=h5.2.1.1;have:=h5.1.2.2.1;omega),ak _⟩;obtain⟨u,hu⟩:∃u,c.agenda.slots.uses[ix]?=some u:=⟨c.agenda.slots.uses[ix]'(by have:=h5.2.1.1;omega),ak _⟩;have hpl:=h5.2.1.2.2 ix b w u hb hwh hu;simp only[au,iA,iX,v6,hix,aO hwh (bJ _),aL hwh,cj,EV,aa];by_cases n4:w<0
           .rw[ad n4,ac (λy=>by
             have hl:=y.2.1.2.1;rw[hix,aG,hb] at hl;cases hl;rw[ad rfl] at hpl;have:=hpl.1;omega)]
           .rw[ac n4];have hbt:b=true:=by
             cases b with
             |true=>rfl
             |false=>rw[ac (by simp)] at hpl;omega
            subst hbt;rw[ad rfl] at hpl;obtain⟨_,e,he,hex⟩:=hpl;obtain⟨n,rfl⟩:=qq (show 0<=w by omega)
            rw[aG] at he;have hD:pQ c.agenda d h.number FT.1↔e=⟨FT.1,h.number,d.hnd⟩:=by
             constructor
             .intro y;have hl:=y.2.1.2.2;rw[hix,aG,hu] at hl;have:=y.2.2 ix n e hix hwh he;obtain⟨e1,e2,e3⟩:=e;simp only at this hex;rw[this.1,this.2,hex];obtain⟨d1,d2,d3⟩:=d;simp only at hix hl;simp only[bS] at hl;rw[hix,hl]
             .intro y;subst y;simp only at hex;refine⟨n1,⟨by omega,by rw[hix,aG];exact hb,by rw[hix,aG,hu,hex]⟩,λi' n' e' y1 y2 y3=>?_⟩;rw[hix] at y1;have:ix=i':=by omega
              subst this;rw[hwh] at y2;have:(n:Int)=n':=by simpa using y2
              have:n=n':=by omega
              subst this;rw[he] at y3;cases y3;exact⟨rfl,rfl⟩
            have pR:RF.ev (.part 0 2) [R FT.1]=some (R FT.1):=rfl;have pH2:RF.ev (.part 0 2) [HD d.hnd]=some (HD d.hnd):=rfl;simp only[au,iA,aO he (jo _),aL he,ly,pR,pH2,iW,abH,R2,EV,aA,ah];by_cases n5:e=⟨FT.1,h.number,d.hnd⟩
            .rw[ac (by simp[n5]),ad (hD.2 n5)];simp only[au,bj,aj,abG,ZG,iW,yA,yB,lu,lw,EV,BV,up1 (show i<1000000000 by have:=aK hh;omega)]
            .rw[ad n5,ac (λy=>n5 (hD.1 y))]
        .rw[ad n1,ac (λy=>n1 y.1)]
     .rw[ac (λy=>hkn (hk.1 y))] at hw;rw[ac hkn];simp only[au,eS,dw,eR,iz,mb,aO hh (eV _),aL hh,jn,pHP,iW,aY,hw,EV,aj,aa,bc (aK hh),aA,ah];rw[ad (λy=>hkn (hk.1 y))]
    .unfold xf;simp only[EV,aj,aa,bw,Jj,bh];cases left with
     |nil=>rw[ac (by simp),ad rfl]
     |cons d rest=>rw[ad (by simp),ac (by simp)]
    .cases hm:dV (dL c) c.due c.certs.list with
     |none=>exact no (λh=>by rw[h.2.2.2.2.2.2] at hm;cases hm)
     |some left=>
      cases left with
      |nil=>rw[aq (show dp c from⟨h1,h2',h3,h5,h6,h7,hm⟩)];rfl
      |cons d rest=>exact no (λh=>by rw[h.2.2.2.2.2.2] at hm;cases hm)
   .rw[ad (by omega)];exact no (λh=>h7 h.2.2.2.2.2.1)
  .rw[ad (by omega)];exact no (λh=>h6 h.2.2.2.2.1)
 .simp only[dA,List.all_nil,kr,aF,aa,AU];split
  .rfl
  .rename_i hn;exact no (λh=>hn ⟨h.1,dH.2 h.2.1,h.2.2.1,h.2.2.2.1⟩)
open Classical in
def A3 {c:Clock}(h64:fw c)(hg:gCl c=false):Ans D 87 [CL c] [.i64 (okE (decide (dp c)))]:=GI h64 (n7 hg)
def abI {l:List Int}(v:Int)(hl:l.length<=1000):Ans D 269 [sl I1 l,.i64 v] [.i64 (ql (λy=>decide (v=y)) l)]:=by
 refine an ⟨1001,?_⟩;unfold Xl;simp[EV];refine(ji (m:=1001) (l:=l) (p:=λy=>decide (v=y)) (st:=λi=>[.i64 (i:Int)]) (ret:=λi=>some [.i64 (i:Int)]) (fin:=some [.i64 (-1)]) (λi a self ha=>?_) (λself=>?_) (by omega)).trans Aj
 .unfold DM;simp only[aO ha (bJ _),aL ha,cj,EV,aa,bc (aK ha),up1 (show i<1000000000 by have:=aK ha;omega)]
 .unfold DM;simp[EV,Lv]
def abJ {l:List Int}(v:Int)(hl:l.length<=1000):Ans D 204 [sl I1 l,.i64 v] [.bool (decide (v∈l))]:=by
 refine am ?_;unfold Wd;simp[EV,phi (abI v hl),vR,yC]
def abK {l:List Crt}(v:Crt)(hl:l.length<=1000):Ans D 236 [sl cv l,CP v] [.i64 (ql (λy=>decide (v=y)) l)]:=by
 refine an ⟨1001,?_⟩;unfold WK;simp[kx,EV];refine(ji (m:=1001) (l:=l) (p:=λy=>decide (v=y)) (st:=λi=>[.i64 (i:Int)]) (ret:=λi=>some [.i64 (i:Int)]) (fin:=some [.i64 (-1)]) (λi a self ha=>?_) (λself=>?_) (by omega)).trans Aj
 .unfold DB;simp only[aO ha (kw _),aL ha,vW,tg,EV,aa,bc (aK ha),up1 (show i<1000000000 by have:=aK ha;omega)]
 .unfold DB;simp[EV,Li]
def yD {l:List Crt}(v:Crt)(hl:l.length<=1000):Ans D 177 [sl cv l,CP v] [.bool (decide (v∈l))]:=by
 refine am ?_;unfold VB;simp[kx,EV,phi (abK v hl),vR,yC]
def JustP (c:Clock)(edges:List Crt):Prop:=edges.length=c.certs.list.length/\∀h∈c.certs.list,h.cert∈edges
def GJ {l k:List Int}(hl:l.length<=1000):Ans D 88 [sl I1 l,sl I1 k] [.bool (decide (l=k))]:=by
 refine an ⟨1001,?_⟩;unfold TQ;simp only[EV,aj,aA,ah];by_cases h:l.length=k.length
 .rw[ac (by omega)];refine mO h (b9 (l:=l.zip k) (st:=λi=>[.i64 (i:Int)]) (λi x self hx _=>?_) (λ_ self=>?_) (by rw[dK h];omega))
  .obtain⟨hp,hq⟩:=fW hx;unfold BX;simp only[aO hp (bJ _),aL hp,aO hq (bJ _),aL hq,cj,EV,aa,aA,ah,bc (aK hp),up1 (show i<1000000000 by have:=aK hp;omega)]
   grind
  .rw[dK h];unfold BX;simp only[EV,aa,bw,Jl]
 .rw[ad (by omega),ai (λe=>h (by rw[e]))]
def abL {l k:List Nod}(hl:l.length<=1000):Ans D 212 [sl cL l,sl cL k] [.bool (decide (l=k))]:=by
 refine an ⟨1001,?_⟩;unfold Wi;simp only[EV,aj,aA,ah];by_cases h:l.length=k.length
 .rw[ac (by omega)];refine mO h (b9 (l:=l.zip k) (st:=λi=>[.i64 (i:Int)]) (λi x self hx _=>?_) (λ_ self=>?_) (by rw[dK h];omega))
  .obtain⟨hp,hq⟩:=fW hx;unfold Dl;simp only[aO hp (jU _),aL hp,aO hq (jU _),aL hq,AX,R0,EV,aa,aA,ah,bc (aK hp),up1 (show i<1000000000 by have:=aK hp;omega)]
   grind
  .rw[dK h];unfold Dl;simp only[EV,aa,bw,KV]
 .rw[ad (by omega),ai (λe=>h (by rw[e]))]
def nthI (l:List Int)(i:Nat):Int:=(l[i]?).getD 0
def eA {l:List Int}{i:Nat}(h:i<l.length):l[i]?=some (nthI l i):=by
 unfold nthI
 grind
def iR (l:List Int)(n:Nat):List Crt:=(List.range n).map λi=>⟨nthI l (i+1),nthI l (i/2)⟩
def mQ (l:List Int)(n:Nat):(iR l n).length=n:=by simp[iR]
def A4 (l:List Int)(n:Nat):iR l (n+1)=iR l n++[⟨nthI l (n+1),nthI l (n/2)⟩]:=by
 unfold iR;rw[lZ,d5];rfl
def eK (l:List Int):List Crt:=iR l (l.length-1)
def rG (a b:Int):RF.ev .agg [.i64 a,.i64 b]=some (CP ⟨a,b⟩):=rfl
def bsC (c:Crt):RF.ev (.bs 1 [KP.z,KP.z] [0]) [CP c]=some (sl cv [c]):=rfl
def n9 (c:Crt):RF.ev .sub [sl cv [c],.v (.int .i64 0),.v (.int .i64 1)]=some (sl cv [c]):=rfl
def Sk {l:List Int}(hl:l.length<=1000):∃N,den (PhiS D) N Nq [] [sl I1 l]=some [sl cv (eK l)]:=by
 refine⟨1001,?_⟩;unfold Nq;simp[EV];refine dG (m:=1001) (n:=l.length-1) (st:=λi=>[sl cv (iR l i),.i64 ((iR l i).length:Int),.i64 ((i+1:Nat):Int)]) (λi self hi=>?_) (λself=>?_) (by omega)
 .have h1:=eA (l:=l) (i:=i+1) (by omega);have h2:=eA (l:=l) (i:=i/2) (by omega);unfold B8;simp only[aO h1 (bJ _),aL h1,cj,aO h2 (bJ _),aL h2,rG,bsC,n9,GF (show i<1000000 by omega),jQ,EV,aj,aa,bc (show i+1<l.length by omega),
   fJ (f:=cv) (l:=iR l i) (k:=[⟨nthI l (i+1),nthI l (i/2)⟩]) (bytes:=16) (z:=2) (by rw[mQ];simp;omega) kw,up1 (show i+1<1000000000 by omega),<-A4]
 .unfold B8;simp only[EV,aj,aa];rw[ac (by omega)];unfold JC;simp only[bm,EV];rfl
def Sl {l:List Int}(hl:l.length<=1000):Ans D 120 [sl I1 l] [sl cv (eK l)]:=an (Sk hl)
def Sn {l:List Int}(hl:l.length<=1000):Ans D 153 [sl I1 l] [sl cv (eK l)]:=an (Sk hl)
def JustR (c:Clock)(edges:List Crt):Prop:=c.certs.list.length=edges.length/\∀e∈edges,(∃h∈c.certs.list,h.cert=e)/\ leads c.now (bo c.pts e.high) (bo c.pts e.low)=true
open Classical in
def GK {c:Clock}{edges:List Crt}(hF:okF c.pts)(h64:bi c.now)(hl:edges.length<=1000)(hc:c.certs.list.length<=1000)(hin:∀e∈edges,inF c.pts e.low=true/\ inF c.pts e.high=true):Ans D 152 [CL c,sl cv edges] [.bool (decide (JustR c edges))]:=by
 refine an ⟨1001,?_⟩;unfold Vc;simp only[au,cV,eS,EV,aj,aA,ah];by_cases h1:c.certs.list.length=edges.length
 .rw[ac (by omega)];refine(b9 (m:=1001) (l:=edges) (p:=λe=>(c.certs.list.any λh=>decide (h.cert=e))&& leads c.now (bo c.pts e.high) (bo c.pts e.low)) (st:=λi=>[.i64 (i:Int)]) (r:=some [.bool false]) (fin:=some [.bool true]) (λi e self he _=>?_) (λ_ self=>?_) (by omega)).trans ?_
  .obtain⟨a1,a2⟩:=hin e (aB he);unfold CB;simp only[au,eR,iz,nJ,aO he (kw _),aL he,vW,phi (MW (c:=c.certs) (x:=e) hc),phi (aby (x:=e) hF h64 a1 a2),EV,aj,aa,bc (aK he),up1 (show i<1000000000 by have:=aK he;omega)]
   grind
  .unfold CB;simp only[EV,aj,aa,bw,JX]
  .have:(edges.all λe=>(c.certs.list.any λh=>decide (h.cert=e))&& leads c.now (bo c.pts e.high) (bo c.pts e.low))=decide (JustR c edges):=by
    rw[dE,aa];unfold JustR;simp[h1]
   rw[this];cases decide (JustR c edges)<;>rfl
 .rw[ad (by omega),ai (λh=>h1 h.1)]
def Fu {c:Certs}(h:cU c):(c.list.map (·.cert)).Nodup:=by
 rw[mF];intro i j x hj hi e;rw[aT,bB] at hi e;obtain⟨a,ha,rfl⟩:=hi;obtain⟨b,hb,e⟩:=e;exact(h.2.2.2 i a ha).2.2.2.2 j hj b hb e
def A5 {c:Clock}{edges:List Crt}(hc:cU c.certs)(hn:edges.Nodup)(Q:Crt->Prop):
  (edges.length=c.certs.list.length/\∀h∈c.certs.list,h.cert∈edges/\ Q h.cert)↔(c.certs.list.length=edges.length/\∀e∈edges,(∃h∈c.certs.list,h.cert=e)/\ Q e):=by
 have key:=λh:(c.certs.list.map (·.cert)).length=edges.length=>Ox (Fu hc) hn h Q
 grind
def ti {c:Clock}{edges:List Crt}(hc:cU c.certs)(hn:edges.Nodup)(hQ:∀e∈edges,leads c.now (bo c.pts e.high) (bo c.pts e.low)=true):JustP c edges↔JustR c edges:=by
 unfold JustP JustR;rw[<-A5 hc hn]
 grind
def FK {l:List Int}{i:Nat}(h:i<l.length):nthI l i∈l:=aB (eA h)
def kR {l:List Int}{e:Crt}(h:e∈eK l):e.low∈l/\ e.high∈l:=by
 obtain⟨i,hi,rfl⟩:=bg.1 h;rw[de] at hi;exact⟨FK (by omega),FK (by omega)⟩
def vE {l:List Int}(h:l.Nodup):(eK l).Nodup:=by
 rw[dt];intro i j x hi hj;unfold eK iR at hi hj;rw[aT,bB] at hi hj;obtain⟨a,ha,rfl⟩:=hi;obtain⟨b,hb,e⟩:=hj;have ha':=aK ha;have hb':=aK hb;rw[il] at ha' hb';rw[fq ha'] at ha;rw[fq hb'] at hb;cases ha;cases hb;simp at e;have:=dt.1 h (i+1) (j+1) (nthI l (i+1)) (eA (by omega)) (by rw[<-e.1];exact eA (by omega));omega
def iM (k:KHeap):Prop:=dp k.clock/\ k.heap.length=k.clock.pts.length/\(∀x∈k.heap,inF k.clock.pts x=true)/\ k.heap.Nodup/\ JustR k.clock (eK k.heap)
def fk {l:List Pt}{x:Int}:inF l x=true↔x∈l.map Pt.id:=by
 constructor
 .intro h;have h:=aU h;rcases pos_cases l x with⟨e,_⟩|⟨i,p,h1,h2,h3⟩
  .omega
  .grind
 .intro h;obtain⟨p,hp,rfl⟩:=bg.1 h;cases e:inF l p.id with
  |true=>rfl
  |false=>exact absurd rfl (yz e p hp)
def j9 {k:KHeap}(h:gKh k=false):gCl k.clock=false/\ k.heap.length<=70:=by
 unfold gKh at h
 grind
def fN {c:Clock}(h:gCl c=false):c.certs.list.length<=40:=by
 unfold gCl at h
 grind
open Classical in
def c81 {k:KHeap}(h64:fw k.clock)(hg:gKh k=false):Ans D 97 [KH k] [.i64 (okE (decide (iM k)))]:=by
 obtain⟨g1,g2⟩:=j9 hg;have no:∀h:¬iM k,(some [PV.v (.int .i64 8)]:Option (List PV))=some [.i64 (okE (decide (iM k)))]:=λh=>by rw[ai h];rfl
 have cKH2:RF.ev (.cell 2) [KH k]=some (sl row k.clock.pts):=rfl;have pKH2:RF.ev (.part 2 1) [KH k]=some (F k.clock.pts):=rfl;refine an ⟨1001,?_⟩;unfold k81;simp only[au,jX,pKH,cKH,cKH2,EV,aj,phi (A0 h64 g1),gN,aA,ah,aa];by_cases h1:dp k.clock
 .rw[ad h1];by_cases h2:k.heap.length=k.clock.pts.length
  .rw[ac (by omega)];have hF:=h1.2.1;refine(ef (m:=1001) (n:=k.heap.length) (P:=λi=>∀x,k.heap[i]?=some x->inF k.clock.pts x=true/\∀j,j<i->∀y,k.heap[j]?=some y->y≠x) (st:=λi=>[.i64 (i:Int)]) (r:=some [.i64 8]) (fin:=some [.i64 (okE (decide (iM k)))]) (λi self hi _=>?_) (λhall self=>?_) (by omega)).trans ?_
   .have hx:=eA hi;generalize nthI k.heap i=x at hx;have hP:(∀x',k.heap[i]?=some x'->inF k.clock.pts x'=true/\∀j,j<i->∀y,k.heap[j]?=some y->y≠x')↔(inF k.clock.pts x=true/\∀j,j<i->∀y,k.heap[j]?=some y->y≠x):=
     ⟨λh=>h x hx,λh x' e=>by rw[hx] at e;cases e;exact h⟩
    unfold Hj;simp only[hP,au,cKH,pKH2,aO hx (bJ _),aL hx,cj,phi (nI (l:=k.clock.pts) (by have:=hF.1;omega) x),EV,aj,aa,bc hi];by_cases c1:pos k.clock.pts x<0
    .rw[ad c1,ac (λy=>by have:=aU y.1;omega)]
    .rw[ac c1];have c1':inF k.clock.pts x=true:=aq (by omega);refine(ef (m:=1001) (n:=i) (P:=λj=>∀y,k.heap[j]?=some y->y≠x) (st:=λi=>[.i64 (i:Int)]) (r:=some [.i64 8]) (fin:=self [.i64 ((i+1:Nat):Int)]) (λj self' hj _=>?_) (λ_ self'=>?_) (by omega)).trans ?_
     .have hy:=eA (l:=k.heap) (i:=j) (by omega);generalize nthI k.heap j=y at hy;have hQ:(∀y',k.heap[j]?=some y'->y'≠x)↔y≠x:=⟨λh=>h y hy,λh y' e=>by rw[hy] at e;cases e;exact h⟩;unfold Hi;simp only[hQ,au,cKH,aO hx (bJ _),aL hx,aO hy (bJ _),aL hy,cj,EV,aa,bc hj,up1 (show j<1000000000 by omega)]
      by_cases c4:y=x
      .rw[ad c4,ac (by simp[c4])]
      .rw[ac c4,ad c4]
     .unfold Hi;simp only[EV,aa,bw,PC,up1 (show i<1000000000 by omega)]
     .by_cases hq:∀j,j<i->∀y,k.heap[j]?=some y->y≠x
      .rw[ad hq,ad ⟨c1',hq⟩]
      .rw[ac hq,ac (λy=>hq y.2)]
   .have hin:∀x∈k.heap,inF k.clock.pts x=true:=λx hx=>by
     obtain⟨i,hi⟩:=aN.1 hx;exact(hall i (aK hi) x hi).1
    have hnd:k.heap.Nodup:=mF.2 λi j x hj hi e=>(hall i (aK hi) x hi).2 j hj x e rfl;unfold Hj;simp only[au,cKH,EV,aj,aa,bw,PB,pKH,bm,phi (Sn (l:=k.heap) (by omega)),phi (GK (c:=k.clock) (edges:=eK k.heap) hF h64.1 (by unfold eK;rw[mQ];omega) (by have:=fN g1;omega) (λe he=>⟨hin _ (kR he).1,hin _ (kR he).2⟩)),aA,ah];by_cases hj:JustR k.clock (eK k.heap)
    .rw[ac (by simp[hj]),aq (show iM k from⟨h1,h2,hin,hnd,hj⟩)];rfl
    .rw[ad hj];exact no (λh=>hj h.2.2.2.2)
   .by_cases hq:∀i,i<k.heap.length->∀x,k.heap[i]?=some x->inF k.clock.pts x=true/\∀j,j<i->∀y,k.heap[j]?=some y->y≠x
    .rw[ad hq]
    .rw[ac hq];refine no (λh=>hq λi hi x hx=>⟨h.2.2.1 x (aB hx),λj hj y hy e=>?_⟩);subst e;exact mF.1 h.2.2.2.1 i j y hj hx hy
  .rw[ad (by omega)];exact no (λh=>h2 h.2.1)
 .rw[ac h1];exact no (λh=>h1 h.1)
def A6 {l:List Pt}{h:List Int}(hs:g9 l)(hl:h.length=l.length):(∀p∈l,p.id∈h)↔((∀x∈h,inF l x=true)/\ h.Nodup):=by
 constructor
 .intro a;have hp:=jD (l:=l.map Pt.id) (k:=h) (cM hs) (λx hx=>by obtain⟨p,hp,rfl⟩:=bg.1 hx;exact a p hp) (by rw[aj];omega);exact⟨λx hx=>fk.2 (hp.mem_iff.2 hx),hp.nodup_iff.1 (cM hs)⟩
 .rintro⟨a,b⟩ p hp;have hp':=jD (l:=h) (k:=l.map Pt.id) b (λx hx=>fk.1 (a x hx)) (by rw[aj];omega)
  grind
open Classical in
def c77 {k:KHeap}(h64:fw k.clock)(hg:gKh k=false):Ans D 138 [KH k] [.i64 (okE (decide (iM k)))]:=by
 obtain⟨g1,g2⟩:=j9 hg;have no:∀h:¬iM k,(some [PV.v (.int .i64 8)]:Option (List PV))=some [.i64 (okE (decide (iM k)))]:=λh=>by rw[ai h];rfl
 have cKH2:RF.ev (.cell 2) [KH k]=some (sl row k.clock.pts):=rfl;have cKH4:RF.ev (.cell 4) [KH k]=some (sl hrow k.clock.certs.list):=rfl;have pKH2:RF.ev (.part 2 1) [KH k]=some (F k.clock.pts):=rfl;have pKH0:RF.ev (.part 0 2) [KH k]=some (R k.clock.now):=rfl;have el:(eK k.heap).length=k.heap.length-1:=by unfold eK;rw[mQ]
 refine an ⟨1001,?_⟩;unfold k77;simp only[au,jX,pKH,cKH,cKH2,EV,aj,phi (A3 h64 g1),gN,aA,ah,aa];by_cases h1:dp k.clock
 .rw[ad h1];by_cases h2:k.heap.length=k.clock.pts.length
  .rw[ac (by omega)];have hF:=h1.2.1;refine(b9 (m:=1001) (l:=k.clock.pts) (p:=λp=>decide (p.id∈k.heap)) (st:=λi=>[.i64 (i:Int)]) (r:=some [.i64 8]) (fin:=some [.i64 (okE (decide (iM k)))]) (λi p self hp _=>?_) (λhall self=>?_) (by omega)).trans ?_
   .unfold Hn;simp only[au,cKH,cKH2,fK,aO hp (bL _),aL hp,eU,phi (abJ (l:=k.heap) p.id (by omega)),EV,aa,bc (aK hp),up1 (show i<1000000000 by have:=aK hp;omega)]
    grind
   .have hall:∀p∈k.clock.pts,p.id∈k.heap:=λp hp=>aU (aQ.1 hall p hp);obtain⟨hin,hnd⟩:=(A6 hF.2.2 h2).1 hall;unfold Hn;simp only[au,cKH,cKH4,EV,aj,aa,bw,PF,phi (Sl (l:=k.heap) (by omega)),aA,ah];by_cases h3:(eK k.heap).length=k.clock.certs.list.length
    .rw[ac (by omega)];have hJ:=A5 (c:=k.clock) h1.2.2.1 (vE hnd) (λe=>leads k.clock.now (bo k.clock.pts e.high) (bo k.clock.pts e.low)=true);refine(b9 (m:=1001) (l:=k.clock.certs.list) (p:=λh=>decide (h.cert∈eK k.heap)&& leads k.clock.now (bo k.clock.pts h.cert.high) (bo k.clock.pts h.cert.low)) (st:=λi=>[.i64 (i:Int)]) (r:=some [.i64 8]) (fin:=some [.i64 0]) (λi h self hh _=>?_) (λ_ self=>?_) (by have:=fN g1;omega)).trans ?_
     .unfold Hl;simp only[au,cKH4,pKH0,pKH2,yA,yB,pHP,aO hh (eV _),aL hh,jn,phi (yD (l:=eK k.heap) h.cert (by omega)),EV,aa,bc (aK hh),up1 (show i<1000000000 by have:=aK hh;have:=fN g1;omega)]
      by_cases c1:h.cert∈eK k.heap
      .obtain⟨m1,m2⟩:=kR c1;obtain⟨i1,p,a1,a2,a3,a4⟩:=gr hF (hin _ m1);obtain⟨j1,q,b1,b2,b3,b4⟩:=gr hF (hin _ m2);have hne:q.id≠p.id:=by rw[a2,b2];exactλe=>(h1.2.2.1.2.2.2 i h hh).1.2.2.2.2 e.symm
       have hA:=phi (RZ hF h64.1 h1.1 b1 a1 hne);rw[a2,b2] at hA;simp only[c1,az,aJ,aw,ax,eF,au,yA,yB,pKH0,pKH2,hA,a4,b4,EV,up1 (show i<1000000000 by have:=aK hh;have:=fN g1;omega)]
       cases leads k.clock.now q p<;>simp
      .simp[c1]
     .unfold Hl;simp only[EV,aa,bw,PE]
     .have:(k.clock.certs.list.all λh=>decide (h.cert∈eK k.heap)&& leads k.clock.now (bo k.clock.pts h.cert.high) (bo k.clock.pts h.cert.low))=true↔iM k:=by
       rw[aQ];simp only[aF,aa];constructor
       .intro h;exact⟨h1,h2,hin,hnd,hJ.1 ⟨h3,h⟩⟩
       .intro h;exact(hJ.2 h.2.2.2.2).2
      by_cases hr:iM k
      .rw[ad (this.2 hr),aq hr];rfl
      .rw[ac (λh=>hr (this.1 h)),ai hr];rfl
    .rw[ad (by omega)];exact no (λh=>h3 h.2.2.2.2.1.symm)
   .by_cases hq:(k.clock.pts.all λp=>decide (p.id∈k.heap))=true
    .rw[ad hq]
    .rw[ac hq];refine no (λh=>hq (aQ.2 λp hp=>aq ((A6 hF.2.2 h2).2 ⟨h.2.2.1,h.2.2.2.1⟩ p hp)))
  .rw[ad (by omega)];exact no (λh=>h2 h.2.1)
 .rw[ac h1];exact no (λh=>h1 h.1)
def wQ {α:Type}(p:α->Bool):∀(l:List α) (n:Nat),l.foldl (λn q=>if p q=true then n+1 else n) n=n+(l.filter p).length
 |[],n=>rfl
 |a::l,n=>by
  rw[cH,wQ p l,cS];cases p a
  .rfl
  .simp;omega
def abM {l:List Pt}{t:Rt}(h:okF l)(ht:bi t){i:Nat}{p:Pt}(hp:l[i]?=some p):Ans D 135 [F l,PP p,R t] [.i64 (rank t l p:Nat)]:=by
 have hl:=h.1;refine an ⟨1001,?_⟩;unfold Uv;simp only[au,aW,jl,aY,EV];have e0:([PV.v (.int .i64 0),.v (.int .i64 0)]:List PV)=[.i64 ((0:Nat):Int),.i64 ((0:Nat):Int)]:=rfl;rw[e0];refine(hY (m:=1001) (l:=l) (g:=λn q=>if(decide (q.id≠p.id)&& leads t q p)=true then n+1 else n) (I:=λi n=>n<=i) (S:=λn i=>[.i64 ((n:Nat):Int),.i64 (i:Int)]) (fin:=λn=>some [.i64 ((n:Nat):Int)]) (x:=0) (aD _) (λi a acc _ h=>by split<;>omega) (λi q acc self hq hI=>?_) (λacc self _=>?_) (by omega)).1.trans ?_
 .unfold Ce;have hi:=aK hq;simp only[au,bQ,fK,aO hq (bL _),aL hq,eU,mN,EV,aj,aa,bc hi,aA,ah,JL,phi (yp (ea h hq) (ea h hp) ht)];by_cases c1:q.id=p.id
  .rw[ac (by simp[c1])];simp only[aw,ax,EV,xj,up1 (show i<1000000000 by omega)]
   simp[c1]
  .rw[ad c1];cases leads t q p with
   |true=>simp only[ay,EV,xj,up1 (show i<1000000000 by omega),up1 (show acc<1000000000 by omega)];simp[c1]
   |false=>simp only[aw,ax,EV,xj,up1 (show i<1000000000 by omega)];simp
 .unfold Ce;simp only[au,bQ,EV,aj,aa,bw,JK]
 .rw[wQ (λq=>decide (q.id≠p.id)&& leads t q p),b7];rfl
def tj (t:Rt)(l:List Pt):∀(ps:List Pt) (out:List Int),Bnd.ordered t l ps out=ps.foldl (λout p=>out.set (rank t l p) p.id) out
 |[],out=>rfl
 |p::ps,out=>by unfold Bnd.ordered;rw[tj t l ps,cH]
def FL {t:Rt}{l:List Pt}{p:Pt}(h:p∈l):rank t l p<l.length:=by
 unfold rank;rw[List.length_filter_lt_length_iff_exists]
 grind
def oV {n:Nat}(h:n<=1000):RF.ev (.rep [KP.z] 8) [.v (.int .i64 (n:Int)),.v (.int .i64 (n:Int))]=some (sl I1 (List.replicate n 0)):=by
 rw[Ie,ad ⟨by omega,by omega,by omega,by omega⟩,aG];show _=some (PV.sl ((List.replicate n 0).map I1))
 rw[nD];rfl
def gt {l:List Int}{i:Nat}(h:i<l.length)(x:Int):RF.ev (.set 0) [sl I1 l,.v (.int .i64 (i:Int)),.v (.int .i64 x)]=some (sl I1 (l.set i x)):=by
 rw[yd,ad (by omega),aG,aT,ak h];exact aR (λx=>some (PV.sl x)) (pG (f:=I1) (l:=l) (i:=i) (a:=x)).symm
def MY {l:List Pt}{t:Rt}(h:okF l)(ht:bi t):Ans D 83 [F l,R t] [sl I1 ((dq t l).map Pt.id)]:=by
 have hl:=h.1;refine an ⟨1001,?_⟩;unfold TN;simp[aW,aY,bQ,oV (show l.length<=1000 by omega),EV]
 refine(hY (m:=1001) (l:=l) (g:=λout p=>out.set (rank t l p) p.id) (I:=λ_ out=>out.length=l.length) (S:=λout i=>[sl I1 out,.i64 (i:Int)]) (fin:=λout=>some [sl I1 out]) (x:=List.replicate l.length 0) (by simp) (λi a acc _ h=>by simpa using h) (λi p acc self hp hI=>?_) (λacc self hI=>?_) (by omega)).1.trans ?_
 .unfold BU;simp only[bQ,aO hp (bL _),aL hp,eU,mN,EV,aj,aa,bc (aK hp),phi (abM h ht hp),ixM (FL (aB hp)),gt (show rank t l p<acc.length by rw[hI];exact FL (aB hp)),up1 (show i<1000000000 by have:=aK hp;omega)]
 .unfold BU;have:=bm (f:=I1) (l:=acc);rw[hI] at this;simp only[au,bQ,EV,aj,aa,bw,Ji,this]
 .rw[<-tj,Il (cM h.2.2) (by simp)]
def jY (x:Int×Int):List PV:=[.i64 x.1,.i64 x.2]
def So (x:Int×Int):(jY x).length=2:=rfl
def ZH (x:Int×Int):ct 0 0 (jY x)=some (.i64 x.1):=rfl
def ZI (x:Int×Int):ct 1 0 (jY x)=some (.i64 x.2):=rfl
def zy (l:List Int)(d:Nat):(fY l d 0).length+(fY l d 1).length<=l.length:=by
 unfold fY;induction l with
 |nil=>simp
 |cons x l ih=>
  grind
def pT:∀(n:Nat) (l:List Int) (f:Int) (d:Nat),l.length<=n->(gk l f d).length<=l.length
 |0,l,f,d,h=>by
  have hl:l=[]:=c8.1 (by omega);subst hl;unfold gk;simp
 |n+1,[],f,d,_=>by unfold gk;simp
 |n+1,o::os,f,d,h=>by
  unfold gk;simp at h|-;have h0:=sG (l:=os) (d:=d) (b:=0);have h1:=sG (l:=os) (d:=d) (b:=1);have a:=pT n (fY os d 0) o (d+1) (by omega);have b:=pT n (fY os d 1) o (d+1) (by omega);have:=zy os d;omega
def vF {α:Type}(p:α->Bool):∀(l acc:List α),l.foldl (λacc x=>if p x=true then acc++[x] else acc) acc=acc++l.filter p
 |[],acc=>by simp
 |a::l,acc=>by
  rw[cH,vF p l,cS];cases p a<;>simp
def bsI (x:Int):RF.ev (.bs 1 [KP.z] [0]) [.i64 x]=some (sl I1 [x]):=rfl
def jJ (x:Int):RF.ev .sub [sl I1 [x],.v (.int .i64 0),.v (.int .i64 1)]=some (sl I1 [x]):=rfl
def Sq {x:Int}(h:0<=x)(d:Nat):cT .shr .i64 x .i64 (d:Int)=some (.v (.int .i64 (x.fdiv (2^(min d 64)))))/\ cT .rem .i64 (x.fdiv (2^(min d 64))) .i64 2=some (.v (.int .i64 (fO x d))):=by
 constructor
 .rw[Ig,ac (by omega),aG];rfl
 .rw[AL,ac (by decide)];unfold fO;have:0<=x.fdiv (2^(min d 64)):=by
   rw[gf _ (pD (vP (by decide)))];exact Int.ediv_nonneg h (pD (vP (by decide)))
  grind
def abN:∀(n:Nat) (os:List Int) (f:Int) (d:Nat),os.length<=n->n<=1000->d+n<=10000->(∀x∈os,0<=x)->Ans D 227 [sl I1 os,.i64 f,.i64 (d:Int)] [sl jY (gk os f d)]:=by
 intro n;induction n with
 |zero=>
  intro os f d h _ _ _;have hl:os=[]:=c8.1 (by omega);subst hl;refine an ⟨1001,?_⟩;unfold Hx gk;simp only[EV,aj,dg,eH,az,ay];rfl
 |succ n ih=>
  intro os f d h hn hd h0;cases os with
  |nil=>
   refine an ⟨1001,?_⟩;unfold Hx gk;simp only[EV,aj,dg,eH,az,ay];rfl
  |cons o os=>
   simp only[bj] at h;have hlen:=zy os d;have hs:∀b,(fY os d b).length<=n/\∀x∈fY os d b,0<=x:=λb=>⟨by have:=sG (l:=os) (d:=d) (b:=b);omega,λx hx=>h0 x (cA _ (cq.1 hx).1)⟩;have hr:=λb=>pT n (fY os d b) o (d+1) (hs b).1;have hh:=λb=>phi (ih (fY os d b) o (d+1) (hs b).1 (by omega) (by omega) (hs b).2);have o0:(o::os)[0]?=some o:=rfl;have tx0:RF.ev (.tix 1) [sl I1 (o::os),.v (.int .i64 0)]=some (.i64 ((0:Nat):Int)):=aO o0 (bJ _);have ag:RF.ev .agg [.i64 o,.i64 f]=some (.agg (jY (o,f))):=rfl;have bs:RF.ev (.bs 1 [KP.z,KP.z] [0]) [.agg (jY (o,f))]=some (sl jY [(o,f)]):=rfl
   let outs:Nat->List (Int×Int):=λi=>match i with|0=>[(o,f)]|1=>[(o,f)]++gk (fY os d 0) o (d+1)|_=>[(o,f)]++gk (fY os d 0) o (d+1)++gk (fY os d 1) o (d+1)
   refine an ⟨1001,?_⟩;unfold Hx;have ne:decide (((o::os).length:Int)=0)=false:=ai (by simp;omega);simp only[tx0,aL o0,cj,ag,bs,EV,aj,ne,aw,ax];refine(dG (m:=1001) (n:=2) (st:=λi=>[sl jY (outs i),.i64 ((outs i).length:Int),.i64 (i:Int)]) (fin:=some [sl jY (outs 2)]) (λi self hi=>?_) (λself=>?_) (by omega)).trans ?_
   .unfold Dv;have l2:decide ((i:Int)<2)=true:=aq (by omega);simp only[EV,l2,cI,ay];have e0:([PV.sl [],.v (.int .i64 0),.v (.int .i64 1)]:List PV)=[sl I1 ([]:List Int),.i64 ((([]:List Int).length:Nat):Int),.i64 ((0+1:Nat):Int)]:=rfl;rw[e0];refine(hY (m:=1001) (l:=os) (g:=λacc x=>if decide (fO x d=(i:Int))=true then acc++[x] else acc) (I:=λi acc=>acc.length<=i) (S:=λacc k=>[sl I1 acc,.i64 (acc.length:Int),.i64 ((k+1:Nat):Int)]) (fin:=λacc=>den (PhiS D) 1001 Ds [mD (PhiS D) 1001 Dr [] [sl I1 (o::os),.i64 f,.i64 (d:Int),.v (.int .i64 ((o::os).length:Int)),.v (.bool false),.i64 ((0:Nat):Int),.i64 o,.agg (jY (o,f)),sl jY [(o,f)]],self] [sl I1 (o::os),.i64 f,.i64 (d:Int),.v (.int .i64 ((o::os).length:Int)),.v (.bool false),.i64 ((0:Nat):Int),.i64 o,.agg (jY (o,f)),sl jY [(o,f)],sl jY (outs i),.i64 ((outs i).length:Int),.i64 (i:Int),.v (.bool true),.i64 ((os.length+1:Nat):Int),sl I1 acc,.i64 (acc.length:Int),.v (.int .i64 ((o::os).length:Int)),.v (.bool (decide (((os.length+1:Nat):Int)<((o::os).length:Int))))]) (x:=[]) (by simp) (λi a acc _ h=>by
     split
     .rw[aE,aS];omega
     .omega) (λk x acc self' hx hI=>?_) (λacc self' hI=>?_) (by omega)).1.trans ?_
    .have hx':(o::os)[k+1]?=some x:=by simpa using hx
     have hk:=aK hx;obtain⟨b1,b2⟩:=Sq (h0 x (cA _ (aB hx))) d;unfold Du;simp only[aO hx' (bJ _),aL hx',cj,jQ,b1,b2,EV,aj,aa,bc (show k+1<(o::os).length by simp;omega),xw]
     by_cases c1:fO x d=(i:Int)
     .rw[ad c1,ad c1];simp only[aO hx' (bJ _),aL hx',cj,bsI,jJ,fJ (f:=I1) (l:=acc) (k:=[x]) (bytes:=8) (z:=1) (by simp;omega) bJ,EV,aj,xw,up1 (show k+1<1000000000 by omega)]
     .rw[ac c1,ac c1];simp only[EV,xw,up1 (show k+1<1000000000 by omega)]
    .unfold Du;simp only[EV,aj,aa];rw[ac (by simp)]
    .rw[vF (λx=>decide (fO x d=(i:Int))),bV];have hi2:=hh (i:Int);have he:(List.filter (λx=>decide (fO x d=(i:Int))) os)=fY os d (i:Int):=rfl;rw[he];unfold Ds;have ho:(outs i).length<=2000:=by
      have:=hr 0
      match i,hi with
      |0,_=>simp[outs]
      |1,_=>simp[outs];omega
     have hn1:outs i++gk (fY os d (i:Int)) o (d+1)=outs (i+1):=by
      match i,hi with
      |0,_=>rfl
      |1,_=>rfl
     have hd1:IntKind.i64.wrap ((d:Int)+1)=((d+1:Nat):Int):=up1 (by omega);simp only[tx0,aL o0,cj,bm,EV,hd1,hi2,fJ (f:=jY) (l:=outs i) (k:=gk (fY os d (i:Int)) o (d+1)) (bytes:=16) (z:=2) (by have:=hr (i:Int);have:=(hs (i:Int)).1;omega) So,aj,hn1,up1 (show i<1000000000 by omega)]
   .unfold Dv;simp only[EV,show decide (((2:Nat):Int)<2)=false from rfl,aw,ax,Dr,bm]
   .unfold gk;simp only[outs,dR,bV]
def GL {t:Rt}:∀(n:Nat) (l:List Pt) (f:Int) (d:Nat),l.length<=n->Ids l->((eQ t l f d).map (·.1)).Nodup:=by
 intro n;induction n with
 |zero=>
  intro l f d h _;have:l=[]:=c8.1 (by omega);subst this;rw[eQ];simp
 |succ n ih=>
  intro l f d h hi;cases l with
  |nil=>rw[eQ];simp
  |cons p l=>
   simp only[bj] at h;have hmem:∀(bt:Int) (x:Pt),x∈gc (p::l) (d7 t l p).id d bt->x∈p::l/\ x.id≠(d7 t l p).id/\ fO x.id d=bt:=λbt x hx=>by
    unfold gc at hx
    grind
   have hs:∀bt:Int,(gc (p::l) (d7 t l p).id d bt).length<=n:=λbt=>by
    have:=oI (t:=t) (p:=p) (l:=l) (d:=d) (b:=bt);omega
   have hid:∀bt:Int,Ids (gc (p::l) (d7 t l p).id d bt):=λbt=>hi.filter _;have fac:=λbt:Int=>m6 (t:=t) n (gc (p::l) (d7 t l p).id d bt) (d7 t l p).id (d+1) (hs bt) (hid bt);rw[eQ,bO,d5,bW,ew]
   grind
def FM {k v:Int}:∀{ps:List (Int×Int)},(∀x∈ps,x.1≠k)->luk ps k v=v
 |[],_=>rfl
 |x::ps,h=>by
  show luk ps k (if x.1=k then x.2 else v)=v
  rw[ac (h x (by simp))];exact FM λy hy=>h y (by simp[hy])
def Hm (ps:List (Int×Int)):PV:= .sl (ps.map λx=>[.i64 x.1,.i64 x.2])
def OW {k v:Int}:∀(ps:List (Int×Int)),(∀x∈ps,x.1≠k)->gT [.i] [.i64 k] [.i64 v] (ps.map λx=>[.i64 x.1,.i64 x.2])=some ((ps++[(k,v)]).map λx=>[.i64 x.1,.i64 x.2])
 |[],_=>by simp[gT,eqN]
 |a::l,h=>by
  simp only[bO,dR,gT];rw[show([PV.i64 a.1,.i64 a.2].take [Ck.i].length)=[.i64 a.1] from rfl,eqN,ai (h a (by simp))]
  simp only;rw[OW l (λx hx=>h x (by simp[hx]))]
def abO {ps:List (Int×Int)}{k v:Int}(h:∀x∈ps,x.1≠k):RF.ev (.mset [.i] 1) [Hm ps,.v (.int .i64 k),.v (.int .i64 v)]=some (Hm (ps++[(k,v)])):=by
 unfold Hm;simp[RF.ev,show(PV.v (.int .i64 k)).cells=[.i64 k] from rfl,show(PV.v (.int .i64 v)).cells=[.i64 v] from rfl,OW ps h]
 rfl
def OX {k:Int}:∀(ps:List (Int×Int)),(ps.map (·.1)).Nodup->∀v,∃r,di [.i] [.i64 k] (ps.map λx=>[.i64 x.1,.i64 x.2])=some r/\ r.getD [.i64 v]=[.i64 (luk ps k v)]
 |[],_,v=>⟨none,by simp[di,eqN],rfl⟩
 |a::l,h,v=>by
  rw[bO,bW] at h;simp only[bO,di];rw[show([PV.i64 a.1,.i64 a.2].take [Ck.i].length)=[.i64 a.1] from rfl,eqN]
  by_cases e:a.1=k
  .rw[aq e];refine⟨some [.i64 a.2],rfl,?_⟩;show [PV.i64 a.2]=[.i64 (luk l k (if a.1=k then a.2 else v))]
   rw[ad e,FM λy hy e'=>h.1 (by rw[e,<-e'];exact bg.2 ⟨y,hy,rfl⟩)]
  .rw[ai e];obtain⟨r,h1,h2⟩:=OX l h.2 v;refine⟨r,h1,?_⟩;show _=[PV.i64 (luk l k (if a.1=k then a.2 else v))]
   rw[ac e,h2]
def abP {ps:List (Int×Int)}{k:Int}(h:(ps.map (·.1)).Nodup):RF.ev (.mget [.i] [KP.z]) [Hm ps,.v (.int .i64 k)]=some (.i64 (luk ps k 0)):=by
 obtain⟨r,h1,h2⟩:=OX ps h 0 (k:=k);unfold Hm;simp only[RF.ev,show(PV.v (.int .i64 k)).cells=[.i64 k] from rfl,h1]
 exact aR (λx=>some (D3 x)) h2
def abQ {a:Int}(h0:0<=a)(h1:a<4611686018427387904):cT .and .i64 a .i64 1=some (.v (.int .i64 (a% 2))):=by
 rw[P8]
 congr 3
 have e:(BitVec.ofInt IntKind.i64.bits a&&& BitVec.ofInt IntKind.i64.bits 1).toNat=a.toNat% 2:=by
  show(BitVec.ofInt 64 a&&& BitVec.ofInt 64 1).toNat=_
  grind
 rw[e,cz (by omega) (by omega)];omega
def abR {x:Int}(h:0<=x)(h1:x<4611686018427387904)(d:Nat):cT .shr .i64 x .i64 (d:Int)=some (.v (.int .i64 (x.fdiv (2^(min d 64)))))/\ cT .and .i64 (x.fdiv (2^(min d 64))) .i64 1=some (.v (.int .i64 (fO x d))):=by
 refine⟨(Sq h d).1,?_⟩;have hp:(0:Int)<2^(min d 64):=vP (by decide);rw[gf _ (pD hp)];have h2:=Int.ediv_nonneg h (pD hp);have h3:x/2^(min d 64)<=x:=Int.ediv_le_self _ h;rw[abQ h2 (by omega)];unfold fO
 grind
def bit_two (x:Int)(d:Nat):fO x d=0\/fO x d=1:=by
 unfold fO;omega
def oa {α:Type}(p q:α->Bool):∀(l a b:List α),l.foldl (λ(acc:List α×List α) x=>if p x=true then(acc.1++[x],acc.2) else if q x=true then(acc.1,acc.2++[x]) else acc) (a,b)=(a++l.filter p,b++l.filter λx=>!p x&& q x)
 |[],a,b=>by simp
 |x::l,a,b=>by
  rw[cH,cS,cS];cases hp:p x with
  |true=>simp[oa p q l]
  |false=>
   cases hq:q x with
   |true=>simp[oa p q l]
   |false=>simp[oa p q l]
def zz (t:Rt):∀(l:List Pt) (b:Pt),l.foldl (λb p=>if leads t p b=true then p else b) b=d7 t l b
 |[],_=>rfl
 |p::l,b=>by rw[cH,zz t l];rfl
def abS (p:Pt):RF.ev .agg [.v (.int .i64 p.id),.v (.int .i64 p.a),.v (.int .i64 p.b)]=some (PP p):=rfl
def bsP (p:Pt):RF.ev (.bs 1 [KP.z,KP.z,KP.z] [0]) [PP p]=some (sl row [p]):=rfl
def OY (p:Pt):RF.ev .sub [sl row [p],.v (.int .i64 0),.v (.int .i64 1)]=some (sl row [p]):=rfl
def abT {t:Rt}(ht:bi t)(hr:rok t=true):∀(n:Nat) (l:List Pt) (f:Int) (d:Nat) (ps:List (Int×Int)),l.length<=n->n<=1000->d+n<=10000->(∀p∈l,p.ok=true)->Ids l->(∀x∈ps,∀p∈l,x.1≠p.id)->Ans D 247 [sl row l,R t,.i64 f,.i64 (d:Int),.sl [],Hm ps] [Hm (ps++eQ t l f d)]:=by
 intro n;induction n with
 |zero=>
  intro l f d ps h _ _ _ _ _;have hl:l=[]:=c8.1 (by omega);subst hl;refine am ?_;unfold HA;rw[eQ,aP];simp only[au,aY,EV,aj,dg,eH,az,ay]
 |succ n ih=>
  intro l f d ps h hn hd hok hids hps;cases l with
  |nil=>
   refine am ?_;unfold HA;rw[eQ,aP];simp only[au,aY,EV,aj,dg,eH,az,ay]
  |cons p0 l=>
   simp only[bj] at h;have hbn:∀p∈p0::l,0<=p.id/\ p.id<=65535:=λp hp=>by have:=Pt.bnd (hok p hp);omega
   have htop:d7 t l p0∈p0::l:=by
    rcases topP_mem t l p0 with e|e
    .rw[e];simp
    .simp[e]
   have o0:(p0::l)[0]?=some p0:=rfl;have tx0:RF.ev (.tix 3) [sl row (p0::l),.v (.int .i64 0)]=some (.i64 ((0:Nat):Int)):=aO o0 (bL _);have bn:RF.ev .bnd [.v (.int .i64 1),.v (.int .i64 (((p0::l).length:Nat):Int))]=some (.i64 1):=by rw[qf,ad ⟨by omega,by simp;omega⟩]
   have ts:RF.ev (.tsub 3) [sl row (p0::l),.v (.int .i64 1),.v (.int .i64 (((p0::l).length:Nat):Int))]=some (sl row l):=by
    rw[yc,ad ⟨by omega,by simp;omega,by simp,rfl,by decide⟩];simp[aZ]
   have ne:decide (((p0::l).length:Int)=0)=false:=ai (by simp;omega);refine an ⟨1001,?_⟩;unfold HA;simp only[au,aY,tx0,aL o0,eU,bn,ts,fK,qH,lx,EV,aj,ne,aw,ax];refine(hY (m:=1001) (l:=l) (g:=λb p=>if leads t p b=true then p else b) (I:=λi b=>b=p0\/∃j,j<i/\ l[j]?=some b) (S:=λb i=>[.i64 b.id,.i64 b.a,.i64 b.b,.i64 (i:Int)]) (fin:=λb=>den (PhiS D) 1001 DH [] [sl row (p0::l),R t,.i64 f,.i64 (d:Int),.sl [],Hm ps,R t,.v (.int .i64 (((p0::l).length:Nat):Int)),.v (.bool false),.i64 ((0:Nat):Int),PP p0,.v (.int .i64 (((p0::l).length:Nat):Int)),.i64 1,sl row l,.v (.int .i64 ((l.length:Nat):Int)),.i64 b.id,.i64 b.a,.i64 b.b]) (x:=p0) (.inl rfl) (λi a b ha hI=>?_) (λi p b self hp hI=>?_) (λb self hI=>?_) (by omega)).1.trans ?_
   .split
    .exact .inr ⟨i,fF _,ha⟩
    .exact hI.imp id λ⟨j,h1,h2⟩=>⟨j,Nat.lt_succ_of_lt h1,h2⟩
   .have hlt:=aK hp;have hpm:p∈p0::l:=by simp[aB hp]
    have hbm:b∈p0::l:=by
     rcases hI with e|⟨j,_,e⟩
     .rw[e];simp
     .simp[aB e]
    have hne:p.id≠b.id:=λe=>by
     have e:=hids.inj hpm hbm e;subst e;unfold Ids at hids;rcases hI with e|⟨j,hj,e⟩
     .subst e;exact(bW.1 hids).1 (bg.2 ⟨_,aB hp,rfl⟩)
     .have:=dt.1 (bW.1 hids).2 j i p.id (by rw[aT,e];rfl) (by rw[aT,hp];rfl);omega
    have hA:=phi (AS (p:=p) (q:=b) ht);rw[ad (jm (hok p hpm) (hok b hbm) hr hne)] at hA;unfold DJ;simp only[au,aO hp (bL _),aL hp,eU,abS,hA,fK,qH,lx,EV,aa,bc hlt,Ls,up1 (show i<1000000000 by omega)]
    cases leads t p b<;>simp
   .unfold DJ;simp only[EV,aa,bw]
   .rw[zz];generalize htt:d7 t l p0=tp at htop;have hseen:∀x∈ps,x.1≠tp.id:=λx hx=>hps x hx tp htop;unfold DH;simp only[au,abO hseen,EV,aj];have e0:([PV.sl [],.v (.int .i64 0),.sl [],.v (.int .i64 0),.v (.int .i64 0)]:List PV)=[sl row ([]:List Pt),.i64 ((([]:List Pt).length:Nat):Int),sl row ([]:List Pt),.i64 ((([]:List Pt).length:Nat):Int),.i64 ((0:Nat):Int)]:=rfl;rw[e0];refine(hY (m:=1001) (l:=p0::l) (g:=λ(acc:List Pt×List Pt) x=>if(decide (x.id≠tp.id)&& decide (fO x.id d=0))=true then(acc.1++[x],acc.2) else if(decide (x.id≠tp.id)&& decide (fO x.id d=1))=true then(acc.1,acc.2++[x]) else acc) (I:=λi acc=>acc.1.length<=i/\ acc.2.length<=i) (S:=λacc i=>[sl row acc.1,.i64 (acc.1.length:Int),sl row acc.2,.i64 (acc.2.length:Int),.i64 (i:Int)]) (fin:=λacc=>den (PhiS D) 1001 DF [] [sl row (p0::l),R t,.i64 f,.i64 (d:Int),.sl [],Hm ps,R t,.v (.int .i64 (((p0::l).length:Nat):Int)),.v (.bool false),.i64 ((0:Nat):Int),PP p0,.v (.int .i64 (((p0::l).length:Nat):Int)),.i64 1,sl row l,.v (.int .i64 ((l.length:Nat):Int)),.i64 tp.id,.i64 tp.a,.i64 tp.b,Hm (ps++[(tp.id,f)]),.v (.int .i64 (((p0::l).length:Nat):Int)),sl row acc.1,.i64 (acc.1.length:Int),sl row acc.2,.i64 (acc.2.length:Int)]) (x:=(([],[]):List Pt×List Pt)) ⟨aD _,aD _⟩ (λi a acc _ hI=>?_) (λi x acc self hx hI=>?_) (λacc self hI=>?_) (by simp;omega)).1.trans ?_
    .split
     .exact⟨by simp;omega,by show acc.2.length<=_;have:=hI.2;omega⟩
     .split
      .exact⟨by show acc.1.length<=_;have:=hI.1;omega,by simp;omega⟩
      .exact⟨by have:=hI.1;omega,by have:=hI.2;omega⟩
    .have hlt:=aK hx;have hl1:(p0::l).length<=1000:=by simp;omega
     have hxb:=hbn x (aB hx);obtain⟨b1,b2⟩:=abR hxb.1 (by omega) d;unfold DG;simp only[au,aO hx (bL _),aL hx,eU,fK,jQ,b1,b2,EV,aj,aa,bc hlt,xx,up1 (show i<1000000000 by omega),aA,ah]
     by_cases c1:x.id=tp.id
     .simp only[c1,cJ,ax,ne_eq,bb,mK,aw]
     .simp only[c1,ez,ay,ne_eq,az,eF,aa];rcases bit_two x.id d with c2|c2
      .simp only[c2,ay,au,bsP,OY,fJ (f:=row) (l:=acc.1) (k:=[x]) (bytes:=24) (z:=3) (by simp;omega) bL,EV,aj,xx,up1 (show i<1000000000 by omega)]
      .simp only[c2,show¬((1:Int)=0) by decide,ax,ay,az,au,bsP,OY,fJ (f:=row) (l:=acc.2) (k:=[x]) (bytes:=24) (z:=3) (by simp;omega) bL,EV,aj,xx,up1 (show i<1000000000 by omega)]
    .unfold DG;simp only[EV,aa,bw]
    .rw[oa];have s0:(p0::l).filter (λx=>decide (x.id≠tp.id)&& decide (fO x.id d=0))=gc (p0::l) tp.id d 0:=rfl;have s1:(p0::l).filter (λx=>!(decide (x.id≠tp.id)&& decide (fO x.id d=0))&&(decide (x.id≠tp.id)&& decide (fO x.id d=1)))=gc (p0::l) tp.id d 1:=by
      unfold gc;refine List.filter_congr λx _=>?_;by_cases c1:x.id=tp.id
      .simp[c1]
      .rcases bit_two x.id d with c2|c2<;>simp[c1,c2]
     rw[s0,s1,bV,bV];have hm:∀(b:Int) (x:Pt),x∈gc (p0::l) tp.id d b->x∈p0::l/\ x.id≠tp.id/\ fO x.id d=b:=λb x hx=>by
      obtain⟨h1,h2⟩:=cq.1 hx;simp only[aF,aa] at h2;exact⟨h1,h2.1,h2.2⟩
     have hsl:∀b:Int,(gc (p0::l) tp.id d b).length<=n:=λb=>by
      have:=oI (t:=t) (p:=p0) (l:=l) (d:=d) (b:=b);rw[htt] at this;omega
     have hsi:∀b:Int,Ids (gc (p0::l) tp.id d b):=λb=>hids.filter _;have r0:=phi (ih (gc (p0::l) tp.id d 0) tp.id (d+1) (ps++[(tp.id,f)]) (hsl 0) (by omega) (by omega) (λp hp=>hok p (hm 0 p hp).1) (hsi 0) (λx hx p hp=>by
      rcases b5.1 hx with hx|hx
      .exact hps x hx p (hm 0 p hp).1
      .simp only[cC] at hx;subst hx;exactλe=>(hm 0 p hp).2.1 e.symm))
     have r1:=phi (ih (gc (p0::l) tp.id d 1) tp.id (d+1) (ps++[(tp.id,f)]++eQ t (gc (p0::l) tp.id d 0) tp.id (d+1)) (hsl 1) (by omega) (by omega) (λp hp=>hok p (hm 1 p hp).1) (hsi 1) (λx hx p hp=>by
      rcases b5.1 hx with hx|hx
      .rcases b5.1 hx with hx|hx
       .exact hps x hx p (hm 1 p hp).1
       .simp only[cC] at hx;subst hx;exactλe=>(hm 1 p hp).2.1 e.symm
      .obtain⟨q,hq,e,_⟩:=m6 (t:=t) n _ tp.id (d+1) (hsl 0) (hsi 0) x hx;intro e';have:=hids.inj (hm 0 q hq).1 (hm 1 p hp).1 (e.trans e');subst this;have h1:=(hm 0 q hq).2.2;rw[(hm 1 q hp).2.2] at h1;cases h1))
     have hd1:IntKind.i64.wrap ((d:Int)+1)=((d+1:Nat):Int):=up1 (by omega);unfold DF;simp only[EV,hd1,bm,r0,r1];rw[eQ,htt];simp[aX]
def ig (t:Rt)(l:List Pt):List (Int×Int):=eQ t l (-1) 0
def eC (t:Rt)(l:List Pt):List Int:=l.map λp=>luk (ig t l) p.id 0
def A7 {l:List Pt}(hs:g9 l):∀(ps:List (Int×Int)) (out:List Int),out.length=l.length->(∀x∈ps,∃p∈l,p.id=x.1)->∀(i:Nat) (p:Pt) (v:Int),l[i]?=some p->out[i]?=some v->(ps.foldl (λout x=>out.set (pos l x.1).toNat x.2) out)[i]?=some (luk ps p.id v)
 |[],out,_,_,i,p,v,_,hv=>hv
 |x::ps,out,ho,hm,i,p,v,hp,hv=>by
  rw[cH];unfold luk;rw[cH];obtain⟨q,hq,hqx⟩:=hm x (by simp);obtain⟨j,hj⟩:=aN.1 hq;have hpos:pos l x.1=j:=by rw[<-hqx];exact vV hs hj
  refine A7 hs ps _ (by simpa using ho) (λy hy=>hm y (cA _ hy)) i p _ hp ?_
  rw[hpos,aG];by_cases e:i=j
  .subst e;rw[hp] at hj;cases hj;rw[ad hqx.symm,bk (by have:=aK hp;omega)]
  .rw[bA (by omega),ac (λh=>e ?_)]
   .exact hv
   .exact dt.1 (cM hs) i j p.id (by rw[aT,hp];rfl) (by rw[aT,hj,bX,hqx,h])
def A8 (l:List Pt):∀(ps:List (Int×Int)) (out:List Int),(ps.foldl (λout x=>out.set (pos l x.1).toNat x.2) out).length=out.length
 |[],out=>rfl
 |x::ps,out=>by rw[cH,A8 l ps,bK]
def jK {l:List Pt}(h:okF l):∀p∈l,0<=p.id/\ p.id<=65535:=λp hp=>by
 obtain⟨i,hi⟩:=aN.1 hp;have:=Pt.bnd (ea h hi);omega
def Sr {l:List Pt}{t:Rt}(h:okF l)(ht:bi t):Ans D 162 [F l,R t] [sl I1 (eC t l)]:=by
 have hl:=h.1;have hh:=phi (abN 64 ((dq t l).map Pt.id) (-1) 0 (by rw[aj,(dQ t l).length_eq];omega) (by omega) (by omega) (λx hx=>by
  obtain⟨p,hp,rfl⟩:=bg.1 hx;exact(jK h p ((dQ t l).mem_iff.1 hp)).1))
 rw[Gh 64 l (dq t l) (-1) 0 hl (dQ t l) (ux (cM h.2.2)) (cM h.2.2)] at hh;have hlen:(ig t l).length<=64:=by
  have:=pT 64 ((dq t l).map Pt.id) (-1) 0 (by rw[aj,(dQ t l).length_eq];omega);rw[Gh 64 l (dq t l) (-1) 0 hl (dQ t l) (ux (cM h.2.2)) (cM h.2.2),aj,(dQ t l).length_eq] at this;unfold ig;omega
 have hkey:∀x∈ig t l,∃p∈l,p.id=x.1:=λx hx=>by
  obtain⟨p,hp,e,_⟩:=m6 64 l (-1) 0 hl (cM h.2.2) x hx
  grind
 refine an ⟨1001,?_⟩;unfold Vn;have z0:PV.v (.int .i64 0)= .i64 ((0:Nat):Int):=rfl;have hh':PhiS D 227 [sl I1 ((dq t l).map Pt.id),.v (.int .i64 (-1)),.v (.int .i64 0)]=some [sl jY (ig t l)]:=hh;simp only[au,aW,aY,bQ,phi (MY h ht),hh',oV (show l.length<=1000 by omega),EV,aj,aI]
 refine(hY (m:=1001) (l:=ig t l) (g:=λout x=>out.set (pos l x.1).toNat x.2) (I:=λ_ out=>out.length=l.length) (S:=λout i=>[sl I1 out,.i64 (i:Int)]) (fin:=λout=>some [sl I1 out]) (x:=List.replicate l.length 0) (by simp) (λi a acc _ h=>by simpa using h) (λi x acc self hx hI=>?_) (λacc self hI=>?_) (by omega)).1.trans ?_
 .obtain⟨p,hp,e⟩:=hkey x (aB hx);obtain⟨j,hj⟩:=aN.1 hp;have hpos:pos l x.1=j:=by rw[<-e];exact vV h.2.2 hj
  have hAt:=phi (nI (l:=l) (by omega) x.1);rw[hpos] at hAt;unfold CQ;simp only[au,aO hx (So _),aL hx,ZH,ZI,hAt,ixM (aK hj),gt (show j<acc.length by rw[hI];exact aK hj),EV,aj,aa,bc (aK hx),up1 (show i<1000000000 by have:=aK hx;omega)]
  rw[hpos,aG]
 .unfold CQ;have:=bm (f:=I1) (l:=acc);rw[hI] at this;simp only[EV,aj,aa,bw,Ka,this]
 .congr 4
  refine cB λi=>?_;by_cases hi:i<l.length
  .have hp:=ak hi;rw[A7 h.2.2 (ig t l) _ (by simp) hkey i _ 0 hp (by rw[dO,ad hi])];unfold eC;rw[aT,hp];rfl
  .rw[bI (by rw[A8];simp;omega),bI (by unfold eC;simp;omega)]
def dB (l:List Pt)(up:List Int):List Crt:=(l.zip up).filterMap λx=>if 0<=x.2 then some ⟨x.1.id,x.2⟩ else none
def FN {α β:Type}(f:α->Option β):∀(l:List α) (acc:List β),l.foldl (λacc x=>acc++(f x).toList) acc=acc++l.filterMap f
 |[],acc=>by simp
 |a::l,acc=>by
  rw[cH,FN f l,i0];cases f a<;>simp
def Ss {l:List Pt}{up:List Int}(hl:l.length=up.length)(hb:l.length<=1000):Ans D 163 [F l,sl I1 up] [sl cv (dB l up)]:=by
 refine an ⟨1001,?_⟩;unfold Vo;simp only[au,aW,EV];have e0:([PV.sl [],.v (.int .i64 0),.v (.int .i64 0)]:List PV)=[sl cv ([]:List Crt),.i64 ((([]:List Crt).length:Nat):Int),.i64 ((0:Nat):Int)]:=rfl;rw[e0];refine(hY (m:=1001) (l:=l.zip up) (g:=λacc x=>acc++(if 0<=x.2 then some (Crt.mk x.1.id x.2) else none).toList) (I:=λi acc=>acc.length<=i) (S:=λacc i=>[sl cv acc,.i64 (acc.length:Int),.i64 (i:Int)]) (fin:=λacc=>some [sl cv acc]) (x:=[]) (by simp) (λi a acc _ h=>?_) (λi x acc self hx hI=>?_) (λacc self hI=>?_) (by rw[dK hl];omega)).1.trans ?_
 .grind
 .obtain⟨hp,hq⟩:=fW hx;have hi:=aK hp;unfold CT;simp only[au,bQ,aO hp (bL _),aL hp,mN,aO hq (bJ _),aL hq,cj,EV,aj,aa,bc (aK hq),be,xp];by_cases c:0<=x.2
  .rw[ad c];simp only[au,bQ,aO hp (bL _),aL hp,mN,aO hq (bJ _),aL hq,cj,rG,bsC,n9,fJ (f:=cv) (l:=acc) (k:=[⟨x.1.id,x.2⟩]) (bytes:=16) (z:=2) (by simp;omega) kw,EV,aj,xp,up1 (show i<1000000000 by omega),c,ay,Option.toList]
  .rw[ac c];simp only[EV,xp,up1 (show i<1000000000 by omega),c,ax,Option.toList,aP]
 .rw[dK hl,hl];unfold CT;simp only[EV,aj,aa,bw,Kb,bm]
 .rw[FN (λx:Pt×Int=>if 0<=x.2 then some (Crt.mk x.1.id x.2) else none)]
  rfl
def wR {l:List Pt}{up:List Int}{e:Crt}:e∈dB l up↔∃(i:Nat) (p:Pt) (u:Int),l[i]?=some p/\ up[i]?=some u/\ 0<=u/\ e=⟨p.id,u⟩:=by
 unfold dB;rw[List.mem_filterMap];constructor
 .rintro⟨x,hx,h⟩;obtain⟨i,hi⟩:=aN.1 hx;obtain⟨h1,h2⟩:=fW hi
  grind
 .rintro⟨i,p,u,h1,h2,h3,rfl⟩;refine⟨(p,u),aB (i:=i) ?_,ad h3⟩
  grind
def oW:∀{l:List Pt} {up:List Int},Ids l->(dB l up).Nodup
 |[],_,_=>by simp[dB]
 |p::l,[],_=>by simp[dB]
 |p::l,u::us,h=>by
  have ih:=oW (l:=l) (up:=us) h.tail;unfold dB at ih|-;rw[List.zip_cons_cons,i0];by_cases c:0<=u
  .simp only[c,ay];rw[bW];refine⟨λhm=>?_,ih⟩;obtain⟨i,q,v,h1,h2,h3,h4⟩:=wR.1 (show(⟨p.id,u⟩:Crt)∈dB l us from hm)
   simp at h4;refine(bW.1 h).1 ?_;show p.id∈l.map Pt.id
   rw[h4.1];exact bg.2 ⟨q,aB h1,rfl⟩
  .simp only[c,ax];exact ih
def kb (k:KHeap):Prop:=dp k.clock/\ eC k.clock.now k.clock.pts=k.heap/\ JustR k.clock (dB k.clock.pts (eC k.clock.now k.clock.pts))
def qI (t:Rt)(l:List Pt):(eC t l).length=l.length:=by simp[eC]
def io {l:List Pt}{t:Rt}(h:okF l){e:Crt}(he:e∈dB l (eC t l)):inF l e.low=true/\ inF l e.high=true/\ leads t (bo l e.high) (bo l e.low)=true:=by
 obtain⟨i,p,u,h1,h2,h3,rfl⟩:=wR.1 he;unfold eC at h2;rw[aT,h1,bX,bS] at h2;have hpm:=aB h1;obtain⟨f,hf⟩:=Im 64 l (-1) 0 h.1 (cM h.2.2) (λp hp=>(jK h p hp).1) p hpm;have hmem:(p.id,u)∈ig t l:=by
  rcases luk_mem (ps:=ig t l) (k:=p.id) (v:=0) with e|e
  .rw[h2] at e;have:=Gj (ps:=ig t l) (k:=p.id) (v:=0) ⟨f,hf⟩
   grind
  .grind
 obtain⟨p',hp',e1,e2⟩:=m6 64 l (-1) 0 h.1 (cM h.2.2) (p.id,u) hmem;simp only at e1 e2;have:=(cM h.2.2).inj hp' hpm e1;subst this;rcases e2 with e2|⟨q,hq,e3,e4⟩
 .omega
 .refine⟨fk.2 (bg.2 ⟨p',hpm,rfl⟩),fk.2 (bg.2 ⟨q,hq,e3⟩),?_⟩;obtain⟨j,hj⟩:=aN.1 hq;rw[<-e3,kQ h hj,kQ h h1];exact e4
open Classical in
def c84 {k:KHeap}(h64:fw k.clock)(hg:gKh k=false):Ans D 100 [KH k] [.i64 (okE (decide (kb k)))]:=by
 obtain⟨g1,g2⟩:=j9 hg;have no:∀h:¬kb k,(some [PV.v (.int .i64 8)]:Option (List PV))=some [.i64 (okE (decide (kb k)))]:=λh=>by rw[ai h];rfl
 have pKH2:RF.ev (.part 2 1) [KH k]=some (F k.clock.pts):=rfl;have pKH0:RF.ev (.part 0 2) [KH k]=some (R k.clock.now):=rfl;refine an ⟨1001,?_⟩;unfold k84;simp only[au,jX,pKH,EV,phi (A0 h64 g1),gN,aA,ah];by_cases h1:dp k.clock
 .have hF:=h1.2.1;have hl:=hF.1;rw[aq h1,ad rfl];simp only[au,pKH,pKH2,pKH0,cKH,phi (Sr hF h64.1),phi (vT (l:=eC k.clock.now k.clock.pts) (k:=k.heap) (by rw[qI];omega)),phi (Ss (l:=k.clock.pts) (up:=eC k.clock.now k.clock.pts) (qI _ _).symm (by omega)),EV,aA,ah];by_cases h2:eC k.clock.now k.clock.pts=k.heap
  .rw[ac (by simp[h2])];have hel:(dB k.clock.pts (eC k.clock.now k.clock.pts)).length<=1000:=by
    unfold dB
    grind
   simp only[au,EV,phi (GK (c:=k.clock) (edges:=dB k.clock.pts (eC k.clock.now k.clock.pts)) hF h64.1 hel (by have:=fN g1;omega) (λe he=>⟨(io hF he).1,(io hF he).2.1⟩)),aA,ah];by_cases h3:JustR k.clock (dB k.clock.pts (eC k.clock.now k.clock.pts))
   .rw[ac (by simp[h3]),aq (show kb k from⟨h1,h2,h3⟩)];rfl
   .rw[ad h3];exact no (λh=>h3 h.2.2)
  .rw[ad h2];exact no (λh=>h2 h.2.1)
 .rw[ai h1,ac (by simp)];exact no (λh=>h1 h.1)
def Fv {t:Rt}{l:List Pt}(h:okF l):((ig t l).map (·.1)).Nodup:=GL l.length l (-1) 0 (aD _) (cM h.2.2)
def kz (g:Pt->Int)(k:List Pt):List Crt:=k.filterMap λp=>if 0<=g p then some ⟨p.id,g p⟩ else none
def wS (g:Pt->Int):∀k:List Pt,dB k (k.map g)=kz g k
 |[]=>rfl
 |x::k=>by
  have:=wS g k;unfold dB kz at this|-;rw[bO,List.zip_cons_cons,i0,i0,this]
def MZ (g:Pt->Int)(k:List Pt):(kz g k).length<=k.length:=List.length_filterMap_le ..
def Su {l:List Pt}{t:Rt}(h:okF l)(ht:bi t)(hr:rok t=true):Ans D 186 [F l,R t] [sl I1 (eC t l),sl cv (dB l (eC t l))]:=by
 have hl:=h.1;have h0:=phi (abT ht hr l.length l (-1) 0 [] (aD _) (by omega) (by omega) (λp hp=>aQ.1 h.2.1 p hp) (cM h.2.2) (λx hx=>by cases hx));rw[bV] at h0;have e0:Hm []= .sl []:=rfl;rw[e0] at h0;have hgt:∀k:Int,RF.ev (.mget [.i] [KP.z]) [Hm (ig t l),.v (.int .i64 k)]=some (.i64 (luk (ig t l) k 0)):=λk=>abP (Fv h);have hh:PhiS D 247 [sl row l,R t,.v (.int .i64 (-1)),.v (.int .i64 0),.sl [],.sl []]=some [Hm (ig t l)]:=h0;unfold eC;rw[wS];generalize hg:(λp:Pt=>luk (ig t l) p.id 0)=g;have hgp:∀p:Pt,luk (ig t l) p.id 0=g p:=λp=>by rw[<-hg]
 refine an ⟨1001,?_⟩;unfold VS;simp only[au,aW,aY,bQ,hh,EV,aj];have st0:([PV.sl [],.v (.int .i64 0),.sl [],.v (.int .i64 0),.v (.int .i64 0)]:List PV)=[sl I1 (([]:List Pt).map g),.i64 ((([]:List Pt).length:Nat):Int),sl cv (kz g []),.i64 (((kz g []).length:Nat):Int),.i64 ((0:Nat):Int)]:=rfl;rw[st0];refine(hY (m:=1001) (l:=l) (g:=λacc x=>acc++[x]) (I:=λi acc=>acc.length<=i) (S:=λacc i=>[sl I1 (acc.map g),.i64 (acc.length:Int),sl cv (kz g acc),.i64 ((kz g acc).length:Int),.i64 (i:Int)]) (fin:=λacc=>some [sl I1 (acc.map g),sl cv (kz g acc)]) (x:=[]) (aD _) (λi a acc _ hI=>by simp;omega) (λi p acc self hp hI=>?_) (λacc self hI=>?_) (by omega)).1.trans ?_
 .have hlt:=aK hp;have hel:=MZ g acc;have a1:=fJ (f:=I1) (l:=acc.map g) (k:=[g p]) (bytes:=8) (z:=1) (by simp;omega) bJ;rw[aj] at a1;have hs:acc.map g++[g p]=(acc++[p]).map g:=by simp
  have nxt:=up1 (show i<1000000000 by omega)
  unfold Da;simp only[au,bQ,aO hp (bL _),aL hp,eU,fK,hgt,hgp,bsI,jJ,a1,hs,EV,aj,aE,aS,aa,bc hlt,be];by_cases c1:0<=g p
  .have he:kz g (acc++[p])=kz g acc++[⟨p.id,g p⟩]:=by
    unfold kz;rw[rq];simp[c1]
   rw[ad c1];simp only[au,fK,hgt,hgp,rG,bsC,n9,he,fJ (f:=cv) (l:=kz g acc) (k:=[⟨p.id,g p⟩]) (bytes:=16) (z:=2) (by simp;omega) kw,EV,aj,aE,aS,C9,nxt]
  .have he:kz g (acc++[p])=kz g acc:=by
    unfold kz;rw[rq];simp[c1]
   rw[ac c1];simp only[EV,C9,nxt,he]
 .unfold Da;have a1:RF.ev .sub [sl I1 (acc.map g),.v (.int .i64 0),.v (.int .i64 (acc.length:Int))]=some (sl I1 (acc.map g)):=by
   have:=bm (f:=I1) (l:=acc.map g);rwa [aj] at this
  simp only[EV,aa,bw,KB,a1,bm]
 .have:∀(k a:List Pt),k.foldl (λacc x=>acc++[x]) a=a++k:=by
   intro k;induction k with
   |nil=>intro a;simp
   |cons x k ih=>intro a;rw[cH,ih];simp
  rw[this,bV]
open Classical in
def c80 {k:KHeap}(h64:fw k.clock)(hg:gKh k=false):Ans D 141 [KH k] [.i64 (okE (decide (kb k)))]:=by
 obtain⟨g1,g2⟩:=j9 hg;have no:∀h:¬kb k,(some [PV.v (.int .i64 8)]:Option (List PV))=some [.i64 (okE (decide (kb k)))]:=λh=>by rw[ai h];rfl
 have pKH2:RF.ev (.part 2 1) [KH k]=some (F k.clock.pts):=rfl;have pKH0:RF.ev (.part 0 2) [KH k]=some (R k.clock.now):=rfl;have cKH4:RF.ev (.cell 4) [KH k]=some (sl hrow k.clock.certs.list):=rfl;have cc:=fN g1;refine an ⟨1001,?_⟩;unfold k80;simp only[au,jX,pKH,EV,phi (A3 h64 g1),gN,aA,ah];by_cases h1:dp k.clock
 .have hF:=h1.2.1;have hl:=hF.1;rw[aq h1,ad rfl];simp only[au,pKH,pKH2,pKH0,cKH,cKH4,phi (Su hF h64.1 h1.1),phi (GJ (l:=eC k.clock.now k.clock.pts) (k:=k.heap) (by rw[qI];omega)),EV,aj,aA,ah];by_cases h2:eC k.clock.now k.clock.pts=k.heap
  .rw[ac (by simp[h2])];have hel:(dB k.clock.pts (eC k.clock.now k.clock.pts)).length<=1000:=by
    unfold dB
    grind
   have hJ:=ti (c:=k.clock) h1.2.2.1 (oW (up:=eC k.clock.now k.clock.pts) (cM hF.2.2)) (λe he=>(io hF he).2.2);by_cases h3:(dB k.clock.pts (eC k.clock.now k.clock.pts)).length=k.clock.certs.list.length
   .rw[ac (by omega)];refine(b9 (m:=1001) (l:=k.clock.certs.list) (p:=λh=>decide (h.cert∈dB k.clock.pts (eC k.clock.now k.clock.pts))) (st:=λi=>[.i64 (i:Int)]) (r:=some [.i64 8]) (fin:=some [.i64 0]) (λi h self hh _=>?_) (λ_ self=>?_) (by omega)).trans ?_
    .unfold Hq;simp only[au,cKH4,pHP,aO hh (eV _),aL hh,jn,phi (yD h.cert hel),EV,aa,bc (aK hh),up1 (show i<1000000000 by have:=aK hh;omega)]
     by_cases c1:h.cert∈dB k.clock.pts (eC k.clock.now k.clock.pts)<;>simp[c1]
    .unfold Hq;simp only[EV,aa,bw,PJ]
    .have:(k.clock.certs.list.all λh=>decide (h.cert∈dB k.clock.pts (eC k.clock.now k.clock.pts)))=true↔kb k:=by
      rw[aQ];simp only[aa];exact⟨λh=>⟨h1,h2,hJ.1 ⟨h3,h⟩⟩,λh=>(hJ.2 h.2.2).2⟩
     by_cases hr:kb k
     .rw[ad (this.2 hr),aq hr];rfl
     .rw[ac (λh=>hr (this.1 h)),ai hr];rfl
   .rw[ad (by omega)];exact no (λh=>h3 h.2.2.1.symm)
  .rw[ad h2];exact no (λh=>h2 h.2.1)
 .rw[ai h1,ac (by simp)];exact no (λh=>h1 h.1)
def ldF (t:Rt)(l:List Pt)(i j:Nat):Bool:=leads t ((l[i]?).getD ⟨0,0,0⟩) ((l[j]?).getD ⟨0,0,0⟩)
def yE {t:Rt}{l:List Pt}{i j:Nat}{p q:Pt}(hp:l[i]?=some p)(hq:l[j]?=some q):ldF t l i j=leads t p q:=by
 unfold ldF;rw[hp,hq];rfl
def fx {t:Rt}{l:List Pt}(hs:g9 l):Lin (ldF t l) l.length where
 asymm:=λi j h=>iV h
 trans:=λi j k h1 h2=>ki h1 h2
 total:=λi j hi hj hne=>by
  unfold ldF;refine leads_total ?_;rw[ak hi,ak hj];intro e;refine hne (dt.1 (cM hs) i j l[i].id ?_ ?_)
  .rw[aT,ak hi];rfl
  .rw[aT,ak hj,bX];exact aR some e.symm
def mkN (l:List Pt)(lk:List (Int×Int)):List Nod:=(l.zip lk).map λx=>⟨x.1.id,x.2.1,x.2.2⟩
def fy (l:List Pt)(lk:List (Int×Int))(h:lk.length<=l.length):(mkN l lk).length=lk.length:=by simp[mkN];omega
def iS {l:List Pt}{lk:List (Int×Int)}{i:Nat}{p:Pt}{x:Int×Int}(hp:l[i]?=some p)(hx:lk[i]?=some x):(mkN l lk)[i]?=some ⟨p.id,x.1,x.2⟩:=by
 unfold mkN
 grind
def cart (t:Rt)(l:List Pt):Tree:=⟨(cmake (ldF t l) l.length).2.1,mkN l (cmake (ldF t l) l.length).2.2⟩
def abU {l:List Pt}{t:Rt}(h:okF l)(ht:bi t)(hr:rok t=true):Ans D 300 [F l,R t] [.i64 0]:=by
 have h1:=phi (qm l);rw[dH.2 h] at h1;have h2:=phi (c43 ht);rw[hr] at h2;have e0:okE true=0:=rfl;rw[e0] at h2;refine am ?_;unfold XI;simp[aW,aY,EV,h1,h2]
def pU (l:List Nat):List Int:=l.map λn:Nat=>(n:Int)
def A9 {l:List Pt}{t:Rt}(h:okF l)(ht:bi t)(hr:rok t=true){N:Nat}{i:Nat}{p:Pt}(hp:l[i]?=some p){f0 f1 f2:JT}{e0 e1 e4 e5 e6 e7 e8 e9 e10 e13 e14 e15 e16 e17:PV}{E:List Int}(hE:E.length<=1000):∀(rem:List Nat) (m:Nat) (left:Int),rem.length<m->(∀(k:Nat) (e:Nat),rem.reverse[k]?=some e->E[k]?=some (e:Int))->(∀e∈rem,e<i)->rem.length<=E.length->
  denW (PhiS D) N tK [f0,f1,f2] [e0,e1,F l,R t,e4,e5,e6,e7,e8,e9,e10,sl I1 E,.i64 (E.length:Int),e13,e14,e15,e16,e17,PP p] m [.i64 (rem.length:Int),.i64 left]=
   f2 [.i64 (popAll (ldF t l) i rem left).2,.i64 ((popAll (ldF t l) i rem left).1.length:Int),.bool (decide (0<(popAll (ldF t l) i rem left).1.length))]
 |[],m,left,hm,_,_,_=>by
  obtain⟨m,rfl⟩:∃m',m=m'+1:=⟨m-1,by omega⟩;rw[bG];unfold tK popAll;simp only[EV,dg,aa];rw[ac (by omega)];rfl
 |e::es,m,left,hm,hk,hlt,hEl=>by
  obtain⟨m,rfl⟩:∃m',m=m'+1:=⟨m-1,by omega⟩;have hee:=hk es.length e (by rw[j8,bC (by simp)];simp);simp at hm hEl;obtain⟨q,hq⟩:∃q,l[e]?=some q:=⟨l[e]'(by have:=hlt e (by simp);have:=aK hp;omega),ak _⟩;have hne:q.id≠p.id:=by have:=gQ h.2.2 (hlt e (by simp)) hq hp;omega
  have hA:=phi (AS (p:=q) (q:=p) ht);rw[ad (jm (ea h hq) (ea h hp) hr hne),<-yE hq hp] at hA;have ih:=A9 h ht hr (N:=N) hp (f0:=f0) (f1:=f1) (f2:=f2) (e0:=e0) (e1:=e1) (e4:=e4) (e5:=e5) (e6:=e6) (e7:=e7) (e8:=e8) (e9:=e9) (e10:=e10) (e13:=e13) (e14:=e14) (e15:=e15) (e16:=e16) (e17:=e17) hE es m (e:Int) (by omega) (λk e' hke=>hk k e' (by
   rw[j8,aH (aK hke)];exact hke)) (λx hx=>hlt x (cA _ hx)) (by omega)
  rw[bG];generalize hkk:tK=kk at ih;subst hkk;unfold tK popAll;have d1:IntKind.i64.wrap (((es.length+1:Nat):Int)-1)=(es.length:Int):=rz (by omega);have bn:RF.ev .bnd [.v (.int .i64 (es.length:Int)),.v (.int .i64 (E.length:Int))]=some (.i64 (es.length:Int)):=by rw[qf,ad ⟨by omega,by omega⟩]
  have g0:decide ((0:Int)<((es.length+1:Nat):Int))=true:=aq (by omega);simp only[EV,bj,g0,cI,ay,d1,ixM (show es.length<es.length+1 by omega),aL hee,cj,au,bQ,aO hq (bL _),aL hq,eU,hA,bn]
  cases hL:ldF t l e i with
  |true=>
   simp only[ay,bj];rw[show decide (0<es.length+1)=true from aq (by omega)]
  |false=>
   simp;exact ih
def IE {l:List Nat}{k e:Nat}(h:l[k]?=some e):(pU l)[k]?=some (e:Int):=by
 unfold pU;rw[aT,h];rfl
def OZ {l:List Nod}{i:Nat}{n:Nod}(h:l[i]?=some n)(r:Int):RF.ev (.set 2) [sl cL l,.v (.int .i64 (i:Int)),.v (.int .i64 r)]=some (sl cL (l.set i ⟨n.id,n.left,r⟩)):=by
 rw[yd,ad (by omega),aG,aT,h];exact aR (λx=>some (PV.sl x)) (pG (f:=cL) (l:=l) (i:=i) (a:=⟨n.id,n.left,r⟩)).symm
def bsN (n:Nod):RF.ev (.bs 1 [KP.z,KP.z,KP.z] [0]) [NP n]=some (sl cL [n]):=rfl
def GM (n:Nod):RF.ev .sub [sl cL [n],.v (.int .i64 0),.v (.int .i64 1)]=some (sl cL [n]):=rfl
def M0 (a b c:Int):RF.ev .agg [.i64 a,.i64 b,.i64 c]=some (NP ⟨a,b,c⟩):=rfl
def FO {l:List Pt}{lk:List (Int×Int)}{e:Nat}{p:Pt}{x:Int×Int}{r:Int}(hp:l[e]?=some p)(hx:lk[e]?=some x):(mkN l lk).set e ⟨p.id,x.1,r⟩=mkN l (lk.modify e λx=>(x.1,r)):=by
 refine cB λk=>?_;by_cases hk:k<l.length/\ k<lk.length
 .have h1:=ak hk.1;have h2:=ak hk.2;by_cases e':k=e
  .subst e';rw[bk (by simp[mkN];omega)];rw[iS hp (x:=(x.1,r)) (by rw[fj,hx];rfl)]
  .rw[bA (by omega),iS h1 h2,iS h1 (x:=lk[k]) (by rw[dN _ _ (by omega)];exact h2)]
 .rw[bI (by simp[mkN];omega),bI (by simp[mkN];omega)]
def yF {l:List Pt}{lk:List (Int×Int)}{p:Pt}{x:Int×Int}(hp:l[lk.length]?=some p):mkN l lk++[⟨p.id,x.1,x.2⟩]=mkN l (lk++[x]):=by
 unfold mkN;have hlt:=aK hp;have:l.zip (lk++[x])=l.zip lk++[(p,x)]:=by
  have h1:l=l.take lk.length++l.drop lk.length:=(f7 _ _).symm;have h2:l.drop lk.length=p::l.drop (lk.length+1):=by
   rw[cR hlt,(aC.1 hp).2]
  rw[h1,List.zip_append (by rw[aM];omega),h2];rw[<-aP lk];rw[aP]
  conv=>rhs;rw[show l.take lk.length++p::l.drop (lk.length+1)=l.take lk.length++([p]++l.drop (lk.length+1)) from rfl]
  rw[show lk=lk++[] by simp,List.zip_append (by rw[aM,aP];omega)]
  simp
 rw[this,d5];rfl
def IF (l:List Nat)(n:Nat):pU (l++[n])=pU l++[(n:Int)]:=by simp[pU]
def ce (t:Rt)(l:List Pt):Nat->List Int
 |0=>[]
 |i+1=>(ce t l i).take (popAll (ldF t l) i (cmake (ldF t l) i).1 (-1)).1.length++[(i:Int)]++(ce t l i).drop ((popAll (ldF t l) i (cmake (ldF t l) i).1 (-1)).1.length+1)
def GN (ld:Nat->Nat->Bool)(i:Nat)(s:List Nat×Int×List (Int×Int)):(qi ld i s).1=i::(popAll ld i s.1 (-1)).1:=by
 unfold qi
 grind
def O0 (t:Rt)(l:List Pt):∀i,(ce t l i).take (cmake (ldF t l) i).1.length=pU (cmake (ldF t l) i).1.reverse/\(cmake (ldF t l) i).1.length<=(ce t l i).length/\(ce t l i).length<=i
 |0=>⟨rfl,aD _,aD _⟩
 |i+1=>by
  obtain⟨h1,h2,h3⟩:=O0 t l i;have hs:cmake (ldF t l) (i+1)=qi (ldF t l) i (cmake (ldF t l) i):=rfl;rw[hs,GN];obtain⟨gone,p1,_⟩:=lQ (ld:=ldF t l) i (cmake (ldF t l) i).1 (-1);unfold ce;generalize (popAll (ldF t l) i (cmake (ldF t l) i).1 (-1)).1=kept at p1;generalize (cmake (ldF t l) i).1=edge at p1 h1 h2;have hk:kept.length<=edge.length:=by rw[p1,aE];omega
  have h4:(ce t l i).take kept.length=pU kept.reverse:=by
   have:(ce t l i).take kept.length=((ce t l i).take edge.length).take kept.length:=by rw[cX,bv hk]
   rw[this,h1,p1,sZ];unfold pU;rw[d5,f8 (by simp)]
  have hl:((ce t l i).take kept.length).length=kept.length:=by rw[aM];omega
  refine⟨?_,?_,?_⟩
  .rw[d9 (by simp;omega),aZ (by simp;omega),h4,j8,IF]
  .simp;omega
  .simp;omega
def cst (t:Rt)(l:List Pt)(i:Nat):List PV:=
 [.i64 (cmake (ldF t l) i).2.1,sl cL (mkN l (cmake (ldF t l) i).2.2),.i64 (i:Int),sl I1 (ce t l i),.i64 ((ce t l i).length:Int),.i64 ((cmake (ldF t l) i).1.length:Int),.i64 (i:Int)]
def abV {E:List Int}{n:Nat}{x:Int}(h:n<=E.length)(hE:E.length<=1000):RF.ev (.appK 8 1) [sl I1 E,.v (.int .i64 (n:Int)),sl I1 [x]]=some (sl I1 (E.take n++[x]++E.drop (n+1))):=by
 show(if(0:Int)<=n/\(n:Int)<=((E.map I1).length:Nat)/\((n:Int).toNat+([x].map I1).length)*8<=140737488355328/\ dU 1 ([x].map I1)=true then some (PV.sl ((E.map I1).take (n:Int).toNat++[x].map I1++(E.map I1).drop ((n:Int).toNat+([x].map I1).length))) else none)=_
 rw[ad ⟨by omega,by simp;omega,by simp;omega,rfl⟩];simp
def abW {l:List Pt}{t:Rt}(h:okF l)(ht:bi t)(hr:rok t=true):Ans D 246 [F l,R t] [TR (cart t l),.i64 0]:=by
 have hl:=h.1;refine an ⟨1001,?_⟩;unfold W0;simp only[au,aW,aY,bQ,EV,aj,phi (abU h ht hr),az,aJ,aw,ax];have e0:([PV.v (.int .i64 (-1)),.sl [],.v (.int .i64 0),.sl [],.v (.int .i64 0),.v (.int .i64 0),.v (.int .i64 0)]:List PV)=cst t l 0:=by simp[cst,cmake,mkN,ce]
 rw[e0];refine(dG (m:=1001) (n:=l.length) (st:=cst t l) (fin:=some [TR (cart t l),.i64 0]) (λi self hi=>?_) (λself=>?_) (by omega))
 .obtain⟨p,hp⟩:∃p,l[i]?=some p:=⟨l[i],ak _⟩;have I:=gq (fx (t:=t) h.2.2) i (by omega);obtain⟨ce1,ce2,ce3⟩:=O0 t l i;unfold cst;have hs:cmake (ldF t l) (i+1)=qi (ldF t l) i (cmake (ldF t l) i):=rfl;have hce:ce t l (i+1)=(ce t l i).take (popAll (ldF t l) i (cmake (ldF t l) i).1 (-1)).1.length++[(i:Int)]++(ce t l i).drop ((popAll (ldF t l) i (cmake (ldF t l) i).1 (-1)).1.length+1):=rfl;rw[hs,hce];generalize cmake (ldF t l) i=s at I ce1 ce2;generalize ce t l i=E at ce1 ce2 ce3;obtain⟨edge,root,lk⟩:=s;obtain⟨desc,mem,_,len,_⟩:=I;simp only at desc mem len ce1 ce2;have helt:∀e∈edge,e<i:=λe he=>((mem e).1 he).1;have hk:∀(k:Nat) (e:Nat),edge.reverse[k]?=some e->E[k]?=some (e:Int):=λk e hk=>by
   have h1:=IE hk
   grind
  unfold DE;simp only[EV,aa,bc hi,au,bQ,aO hp (bL _),aL hp,eU];refine(A9 h ht hr hp (E:=E) (by omega) edge 1001 (-1) (by omega) hk helt ce2).trans ?_;obtain⟨gone,p1,_,_,_⟩:=lQ (ld:=ldF t l) i edge (-1);unfold qi;simp only;generalize popAll (ldF t l) i edge (-1)=pr at p1;obtain⟨kept,y⟩:=pr;simp only at p1;have hkl:kept.length<=E.length:=by rw[p1,aE] at ce2;omega
  have hkl':kept.length<=1000:=by omega
  have hpl:l[lk.length]?=some p:=by rw[len];exact hp
  have u1:=up1 (show i<1000000000 by omega)
  have uk:((kept.length:Int)+((1:Nat):Int))=((kept.length+1:Nat):Int):=by omega
  simp only[EV];unfold Lr;simp only[EV,Int.natCast_pos,bh];have ae:=abV (E:=E) (n:=kept.length) (x:=(i:Int)) hkl (by omega);cases kept with
  |nil=>
   simp only[dg,dh,bb,aw,ax,EV,eH];have ap:RF.ev (.app 24 3) [sl cL (mkN l lk),.v (.int .i64 (i:Int)),sl cL [⟨p.id,y,-1⟩]]=some (sl cL (mkN l (lk++[(y,-1)]))):=by
    have:=fJ (f:=cL) (l:=mkN l lk) (k:=[⟨p.id,y,-1⟩]) (bytes:=24) (z:=3) (by rw[fy _ _ (by omega)];simp;omega) jU;rw[fy _ _ (by omega),len] at this;rw[this,<-yF (x:=(y,-1)) hpl]
   simp only[dg,eH] at ae;unfold DD;simp only[au,fK,M0,bsN,GM,ae,ap,bsI,jJ,EV,aj,u1,fy _ _ (show(lk++[(y,-1)]).length<=l.length by simp;omega),aE,len,aS,bj,dg,b7]
   rfl
  |cons e es=>
   have hee:E[es.length]?=some (e:Int):=hk es.length e (by
    rw[p1,sZ,j8,aH (by simp),bC (by simp)];simp)
   have hei:e<i:=helt e (by rw[p1];simp);obtain⟨q,hq⟩:∃q,l[e]?=some q:=⟨l[e]'(by omega),ak _⟩;obtain⟨x,hx⟩:∃x,lk[e]?=some x:=⟨lk[e]'(by omega),ak _⟩;have hnod:=iS hq hx;have g0:decide (0<(e::es).length)=true:=by simp
   have d1:IntKind.i64.wrap (((es.length+1:Nat):Int)-1)=(es.length:Int):=rz (by simp at hkl';omega);have ap:RF.ev (.app 24 3) [sl cL (mkN l (lk.modify e λx=>(x.1,(i:Int)))),.v (.int .i64 (i:Int)),sl cL [⟨p.id,y,-1⟩]]=some (sl cL (mkN l ((lk.modify e λx=>(x.1,(i:Int)))++[(y,-1)]))):=by
    have:=fJ (f:=cL) (l:=mkN l (lk.modify e λx=>(x.1,(i:Int)))) (k:=[⟨p.id,y,-1⟩]) (bytes:=24) (z:=3) (by rw[fy _ _ (by rw[dc];omega),dc];simp;omega) jU;rw[fy _ _ (by rw[dc];omega),dc,len] at this;rw[this,<-yF (x:=(y,-1)) (by rw[dc];exact hpl)]
   simp only[g0,ay,EV,bj,d1,ixM (show es.length<es.length+1 by omega),aL hee,cj,ixM hei,OZ hnod,FO hq hx]
   unfold DD;simp only[bj] at ae uk;simp only[au,fK,M0,ae,ap,bsN,GM,bsI,jJ,EV,aj,u1,uk,bj,fy _ _ (show((lk.modify e λx=>(x.1,(i:Int)))++[(y,-1)]).length<=l.length by simp;omega),aE,dc,len,aS,dg,b7]
   rw[ad (aq (by omega))]
 .unfold cst DE;have hlk:(cmake (ldF t l) l.length).2.2.length=l.length:=(gq (fx (t:=t) h.2.2) l.length (by omega)).len;have hs:=bm (f:=cL) (l:=mkN l (cmake (ldF t l) l.length).2.2);rw[fy _ _ (by omega),hlk] at hs;have ag:RF.ev .agg [.i64 (cmake (ldF t l) l.length).2.1,sl cL (mkN l (cmake (ldF t l) l.length).2.2)]=some (TR (cart t l)):=rfl;simp only[EV,aa,bw,Lq,hs,ag]
end Go.Proofs.YtndgdhbpojakpaaGreat
