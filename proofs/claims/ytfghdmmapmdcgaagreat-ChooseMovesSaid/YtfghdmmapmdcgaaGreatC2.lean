import Derived.Test.YtfghdmmapmdcgaaGreatC1
import Derived.Test.YtfghdmmapmdcgaaGreatP1
set_option linter.unusedVariables false
set_option linter.unusedSimpArgs false
set_option linter.defProp false
noncomputable section
namespace Go.Proofs.YtfghdmmapmdcgaaGreat
open Go.Sym Bnd
set_option maxRecDepth 100000
def Crt.ok (c:Crt):Prop:=0≤c.low∧c.low≤65535∧0≤c.high∧c.high≤65535∧c.low≠c.high
instance (c:Crt):Decidable c.ok:=by unfold Crt.ok;infer_instance
theorem IN (c:Crt):Ans D 344 [CP c] [.bool (decide c.ok)]:=by
 refine ans_of Nz Vx rfl ⟨1,?_⟩;unfold DU Crt.ok;simp only[den_lt,shCP,cCP0,cCP1,EV,Hu,decide_eq_true_eq,ge_iff_le];by_cases h1:0≤c.low<;>by_cases h2:c.low≤65535<;>by_cases h3:0≤c.high<;>by_cases h4:c.high≤65535<;>simp[h1,h2,h3,h4]
theorem IO (c:Crt):Ans D 324 [CP c] [.bool (decide c.ok)]:=by
 have m1:RF.ev (.mm false) [.i64 c.low,.i64 c.high]=some (.i64 (min c.low c.high)):=rfl;have m2:RF.ev (.mm true) [.i64 c.low,.i64 c.high]=some (.i64 (max c.low c.high)):=rfl;refine ans_of Ns Vr rfl ⟨1,?_⟩;unfold DM Crt.ok;simp only[den_lt,shCP,cCP0,cCP1,m1,m2,EV,Hr,decide_eq_true_eq,ge_iff_le];by_cases h1:0≤c.low<;>by_cases h2:c.low≤65535<;>by_cases h3:0≤c.high<;>by_cases h4:c.high≤65535<;>simp[h1,h2,h3,h4,Int.le_min,Int.max_le]
def bW (c:Certs):Prop:=c.list.length≤200∧0≤c.next∧c.next≤1000000∧ ∀(i:Nat) (h:Held),c.list[i]?=some h→h.cert.ok∧0≤h.number∧h.number<c.next∧(∀g,0<i→c.list[i-1]?=some g→g.number<h.number)∧ ∀k,k<i→ ∀g,c.list[k]?=some g→g.cert≠h.cert
open Classical in
theorem IP (c:Certs):Ans D 258 [CS c] [.i64 (okE (decide (bW c)))]:=by
 refine ans_of MO UQ rfl ⟨1001,?_⟩;unfold Dc;have no: ∀h:¬bW c,(some [PV.v (.int .i64 8)]:Option (List PV))=some [.i64 (okE (decide (bW c)))]:=fun h=>by rw[decide_eq_false h];rfl
 simp only[den_lt,shCS,cCS0,cCS1,EV,aa,decide_eq_true_eq];by_cases h1:200<c.list.length
 ·rw[if_pos (by omega)];exact no (fun h=>by have:=h.1;omega)
 ·rw[if_neg (by omega)];by_cases h2:c.next<0
  ·rw[if_pos h2];exact no (fun h=>by have:=h.2.1;omega)
  ·rw[if_neg h2];by_cases h3:1000000<c.next
   ·rw[if_pos h3];exact no (fun h=>by have:=h.2.2.1;omega)
   ·rw[if_neg h3];refine(run_if (n:=c.list.length) (P:=fun i=> ∀h,c.list[i]?=some h→h.cert.ok∧0≤h.number∧h.number<c.next∧(∀g,0<i→c.list[i-1]?=some g→g.number<h.number)∧ ∀k,k<i→ ∀g,c.list[k]?=some g→g.cert≠h.cert) (st:=fun i=>[.i64 (i:Int)]) (r:=some [.i64 8]) (fin:=some [.i64 0]) (fun i self hi _=>?_) (fun _ self=>?_) (by omega)).trans ?_
    ·obtain⟨h,hh⟩: ∃h,c.list[i]?=some h:=⟨c.list[i],ac _⟩;have hP:(∀h',c.list[i]?=some h'→h'.cert.ok∧0≤h'.number∧h'.number<c.next∧(∀g,0<i→c.list[i-1]?=some g→g.number<h'.number)∧ ∀k,k<i→ ∀g,c.list[k]?=some g→g.cert≠h'.cert)↔(h.cert.ok∧0≤h.number∧h.number<c.next∧(∀g,0<i→c.list[i-1]?=some g→g.number<h.number)∧ ∀k,k<i→ ∀g,c.list[k]?=some g→g.cert≠h.cert):=
      ⟨fun x=>x h hh,fun x h' e=>by rw[hh] at e;cases e;exact x⟩
     have inner: ∀(f:JT) (e0 e2 e3 e4 e5 e6 e7 e8 e10 e11 e12 e13 e14 e16 e17 e18 e19 e20:PV),den (PhiS D) 1001 kD [f,self] [e0,CS c,e2,e3,e4,e5,e6,e7,e8,.i64 (i:Int),e10,e11,e12,e13,e14,HP h,e16,e17,e18,e19,e20,.v (.bool false)]=if(∀k,k<i→ ∀g,c.list[k]?=some g→g.cert≠h.cert) then self [.i64 ((i+1:Nat):Int)] else some [.i64 8]:=fun f e0 e2 e3 e4 e5 e6 e7 e8 e10 e11 e12 e13 e14 e16 e17 e18 e19 e20=>by
      unfold kD;simp only[EV,ad,if_false];refine(run_if (m:=1001) (n:=i) (P:=fun k=> ∀g,c.list[k]?=some g→g.cert≠h.cert) (st:=fun i=>[.i64 (i:Int)]) (r:=some [.i64 8]) (fin:=self [.i64 ((i+1:Nat):Int)]) (fun k self' hk _=>?_) (fun _ self'=>?_) (by omega)).trans ?_
      ·obtain⟨g,hg⟩: ∃g,c.list[k]?=some g:=⟨c.list[k]'(by omega),ac _⟩;have hQ:(∀y,c.list[k]?=some y→y.cert≠h.cert)↔g.cert≠h.cert:=⟨fun x=>x g hg,fun x y hy=>by rw[hg] at hy;cases hy;exact x⟩;unfold k258_3;simp only[hQ,den_lt,cCS1,tixM hg (lenH _),eltM hg,rowHc,pHP,eqvC,EV,decide_eq_true_eq,if_lt hk,up1 (show k<1000000000 by omega)]
       by_cases c4:g.cert=h.cert
       ·rw[if_pos c4,if_neg (by simp[c4])]
       ·rw[if_neg c4,if_pos c4]
      ·unfold k258_3;simp only[EV,decide_eq_true_eq,if_ge,G6,up1 (show i<1000000000 by omega)]
      ·by_cases hq: ∀k,k<i→ ∀g,c.list[k]?=some g→g.cert≠h.cert
       ·rw[if_pos hq,if_pos hq]
       ·rw[if_neg hq,if_neg hq]
     unfold xV;simp only[hP,den_lt,cCS0,cCS1,tixM hh (lenH _),eltM hh,rowH,pHP,cHP0,phi (IN _),EV,aa,decide_eq_true_eq,if_lt hi,ai,decide_eq_false_iff_not,ge_iff_le,gt_iff_lt];by_cases c1:h.cert.ok
     ·rw[if_neg (eb c1)];by_cases c2:h.number<0
      ·rw[if_pos c2,if_neg (fun x=>by have:=x.2.1;omega)];unfold kD;simp only[EV,eq_self,if_true]
      ·rw[if_neg c2];by_cases c3:c.next≤h.number
       ·rw[if_pos c3,if_neg (fun x=>by have:=x.2.2.1;omega)];unfold kD;simp only[EV,eq_self,if_true]
       ·rw[if_neg c3];cases i with
        |zero=>
         rw[if_neg (by omega)];refine(inner ..).trans ?_;rw[if_pos (fun k hk=>by omega),if_pos ⟨c1,by omega,by omega,fun g h0=>by omega,fun k hk=>by omega⟩]
        |succ j=>
         obtain⟨g,hg⟩: ∃g,c.list[j]?=some g:=⟨c.list[j]'(by omega),ac _⟩;rw[if_pos (by omega)];simp only[den_lt,cHP0,m9 (show j<1000000000 by omega),tixM hg (lenH _),eltM hg,uY,EV,ge_iff_le]
         by_cases c4:h.number≤g.number
         ·rw[decide_eq_true c4,if_neg (fun x=>by have:=x.2.2.2.1 g (by omega) (by simpa using hg);omega)]
          unfold kD;simp only[EV,eq_self,if_true]
         ·rw[decide_eq_false c4];refine(inner ..).trans ?_;by_cases c5: ∀k,k<j+1→ ∀g,c.list[k]?=some g→g.cert≠h.cert
          ·rw[if_pos c5,if_pos ⟨c1,by omega,by omega,fun g' _ hg'=>by
            rw[show j+1-1=j by omega,hg] at hg';cases hg';omega,c5⟩]
          ·rw[if_neg c5,if_neg (fun x=>c5 x.2.2.2.2)]
     ·rw[if_pos c1,if_neg (fun x=>c1 x.1)];unfold kD;simp only[EV,eq_self,if_true]
    ·unfold xV;simp only[den_lt,cCS1,EV,aa,decide_eq_true_eq,if_ge,G5]
    ·have:(∀i,i<c.list.length→ ∀h,c.list[i]?=some h→h.cert.ok∧0≤h.number∧h.number<c.next∧(∀g,0<i→c.list[i-1]?=some g→g.number<h.number)∧ ∀k,k<i→ ∀g,c.list[k]?=some g→g.cert≠h.cert)↔bW c:=
      ⟨fun h=>⟨by omega,by omega,by omega,fun i x hx=>h i (get_lt hx) x hx⟩,fun h i _=>h.2.2.2 i⟩
     by_cases hr:bW c
     ·rw[if_pos (this.2 hr),decide_eq_true hr];rfl
     ·rw[if_neg (fun h=>hr (this.1 h)),decide_eq_false hr];rfl
def inF (l:List Pt)(id:Int):Bool:=decide (0≤pos l id)
theorem cH {l:List Pt}(h:okF l){id:Int}(hi:inF l id=true): ∃(i:Nat) (p:Pt),l[i]?=some p∧p.id=id∧pos l id=(i:Nat)∧ptOf l id=p:=by
 unfold inF at hi;have hi:=of_decide_eq_true hi;rcases pos_cases l id with⟨e,_⟩|⟨i,p,h1,h2,h3⟩
 ·omega
 ·exact⟨i,p,h1,h2,h3,by rw[←h2];exact ptOf_some h h1⟩
theorem At {l:List Pt}{id:Int}(hi:inF l id=false): ∀p∈l,p.id≠id:=by
 unfold inF at hi;have hi:=dZ hi;rcases pos_cases l id with⟨_,h⟩|⟨i,p,h1,h2,h3⟩
 ·exact h
 ·omega
def knownH (l:List Pt)(h:Held):Bool:=inF l h.cert.low&& inF l h.cert.high
theorem WI {c:Certs}{l:List Pt}(hl:l.length≤1000)(hc:c.list.length≤1000):Ans D 259 [CS c,F l] [.bool (c.list.all (knownH l))]:=by
 refine ans_of MP UR rfl ⟨1001,?_⟩;unfold Dd;simp only[den_lt,shCS,shapeF,EV];refine(run_list (l:=c.list) (p:=knownH l) (st:=fun i=>[.i64 (i:Int)]) (r:=some [.bool false]) (fin:=some [.bool true]) (fun i h self hh _=>?_) (fun _ self=>?_) (by omega)).trans ?_
 ·unfold xW knownH inF;simp only[den_lt,cCS1,tixM hh (lenH _),eltM hh,Sb,Sc,phi (lO hl _),EV,aa,decide_eq_true_eq,if_lt (get_lt hh),up1 (show i<1000000000 by have:=get_lt hh;omega),au]
  by_cases h1:pos l h.cert.low<0
  ·rw[if_pos h1,if_neg (fun x=>by omega)]
  ·rw[if_neg h1];by_cases h2:pos l h.cert.high<0
   ·rw[if_pos h2,if_neg (fun x=>by omega)]
   ·rw[if_neg h2,if_pos ⟨by omega,by omega⟩]
 ·unfold xW;simp only[den_lt,cCS1,EV,aa,decide_eq_true_eq,if_ge,G7]
 ·cases c.list.all (knownH l)<;>rfl
theorem Sd {o:Option Nat}:o.elim (some [PV.bool false]) (fun _=>some [.bool true])=some [.bool o.isSome]:=by cases o<;>rfl
theorem Bc {c:Certs}{x:Crt}(hc:c.list.length≤1000):Ans D 263 [CS c,CP x] [.bool (c.list.any fun h=>decide (h.cert=x))]:=by
 refine ans_of MS UT rfl ⟨1001,?_⟩;unfold Df;simp only[den_lt,shCS,shCP,EV];refine(eY (l:=c.list) (p:=fun h=>decide (h.cert=x)) (st:=fun i=>[.i64 (i:Int)]) (ret:=fun _=>some [.bool true]) (fin:=some [.bool false]) (fun i h self hh=>?_) (fun self=>?_) (by omega)).trans (Sd.trans ?_)
 ·unfold xY;simp only[den_lt,cCS1,tixM hh (lenH _),eltM hh,rowHc,eqvC,EV,aa,decide_eq_true_eq,if_lt (get_lt hh),up1 (show i<1000000000 by have:=get_lt hh;omega)]
 ·unfold xY;simp only[den_lt,cCS1,EV,aa,decide_eq_true_eq,if_ge,Hb]
 ·rw[List.findIdx?_isSome]
theorem WJ {x:Crt}{l:List Pt}{t:Rt}(h:okF l)(ht:In64 t)(h1:inF l x.low=true)(h2:inF l x.high=true):Ans D 264 [CP x,F l,R t] [.bool (leads t (ptOf l x.high) (ptOf l x.low))]:=by
 obtain⟨i,p,a1,a2,a3,a4⟩:=cH h h1;obtain⟨j,q,b1,b2,b3,b4⟩:=cH h h2;have q1:=phi (lO (l:=l) (by have:=h.1;omega) x.low);have q2:=phi (lO (l:=l) (by have:=h.1;omega) x.high);rw[a3] at q1;rw[b3] at q2;refine ans_of k264_ok s264 rfl ⟨1,?_⟩;unfold k264;simp only[den_lt,shCP,shapeF,shapeR,cCP0,cCP1,cellF,q1,q2,tixM a1 (row_len _),eltM a1,tixM b1 (row_len _),eltM b1,rowP,EV,phi (c323 (okF_pt h b1) (okF_pt h a1) ht),a4,b4]
theorem IQ {x:Crt}{l:List Pt}{t:Rt}(h:okF l)(ht:In64 t)(h1:inF l x.low=true)(h2:inF l x.high=true):Ans D 261 [F l,CP x,R t] [R (failT t (ptOf l x.high) (ptOf l x.low)).1,.bool (failT t (ptOf l x.high) (ptOf l x.low)).2]:=by
 obtain⟨i,p,a1,a2,a3,a4⟩:=cH h h1;obtain⟨j,q,b1,b2,b3,b4⟩:=cH h h2;have q1:=phi (lO (l:=l) (by have:=h.1;omega) x.low);have q2:=phi (lO (l:=l) (by have:=h.1;omega) x.high);rw[a3] at q1;rw[b3] at q2;refine ans_of k261_ok s261 rfl ⟨1,?_⟩;unfold k261;simp only[den_lt,shCP,shapeF,shapeR,cCP0,cCP1,cellF,q1,q2,tixM a1 (row_len _),eltM a1,tixM b1 (row_len _),eltM b1,rowP,flatRt,partR,EV,phi (c348 (okF_pt h b1) (okF_pt h a1) ht),a4,b4]
theorem IR {x:Crt}{l:List Pt}{t:Rt}(h:okF l)(ht:In64 t):Ans D 246 [F l,CP x,R t] (if f8 (ptOf l x.high) (ptOf l x.low) t=0 then [R (failT t (ptOf l x.high) (ptOf l x.low)).1,.bool (failT t (ptOf l x.high) (ptOf l x.low)).2,.i64 0] else [R ⟨0,0⟩,.bool false,.i64 (f8 (ptOf l x.high) (ptOf l x.low) t)]):=by
 refine ans_of MJ UL rfl ⟨1,?_⟩;unfold C7;by_cases hz:f8 (ptOf l x.high) (ptOf l x.low) t=0
 ·have:=phi (PW (p:=ptOf l x.high) (q:=ptOf l x.low) ht);rw[if_pos hz] at this⊢;simp only[den_lt,shCP,shapeF,shapeR,cCP0,cCP1,flatRt,partR,EV,phi (c315 h _),this]
 ·have:=phi (PW (p:=ptOf l x.high) (q:=ptOf l x.low) ht);rw[if_neg hz] at this⊢;simp only[den_lt,shCP,shapeF,shapeR,cCP0,cCP1,flatRt,partR,EV,phi (c315 h _),this]
theorem agg5:RF.ev .agg [.i64 0,.i64 0,.i64 0,.i64 0,.i64 0]=some (EP ⟨⟨0,0⟩,0,⟨0,0⟩⟩):=rfl
theorem flatE (e:Evt):RF.ev .flat [EP e]=some (EP e):=rfl
theorem shE5 (e:Evt):RF.ev (.shape 5) [EP e]=some (EP e):=rfl
theorem partE (e:Evt):RF.ev (.part 0 5) [EP e]=some (EP e):=rfl
theorem vQ {a:Agenda}(h:cV a){x:Hnd}(hl:dR a.slots x): ∃(i:Nat) (w:Int) (n:Nat) (e:Evt),x.index=i∧a.wher[i]?=some w∧w=(n:Int)∧a.heap[n]?=some e∧e.hnd=x:=by
 obtain⟨l1,l2,l3⟩:=hl;obtain⟨i,hi⟩:=lP l1;rw[hi,aq] at l2 l3;obtain⟨w,hw⟩: ∃w,a.wher[i]?=some w:=⟨a.wher[i]'(by have:=get_lt l3;have:=h.2.1.1;omega),ac _⟩;have:=h.2.1.2.2 i true w x.use l2 hw l3;rw[if_pos rfl] at this;obtain⟨w0,e,he,hx⟩:=this;obtain⟨n,hn⟩:=lP w0;rw[hn,aq] at he;exact⟨i,w,n,e,hi,hw,hn,he,by rw[hx,←hi]⟩
open Classical in
theorem WK {a:Agenda}(h:cV a)(hl:a.heap.length≤1000)(hf:a.slots.free.length≤1000)(h64: ∀e∈a.heap,In64 e.time)(x:Hnd):(¬dR a.slots x→Ans D 262 [AG a,HD x] [EP ⟨⟨0,0⟩,0,⟨0,0⟩⟩,.i64 6])∧ ∀(i n:Nat) (e:Evt),x.index=i→a.wher[i]?=some (n:Int)→a.heap[n]?=some e→dR a.slots x→Ans D 262 [AG a,HD x] [EP e,.i64 0]:=by
 have hc:=phi (IM hl hf h64);rw[decide_eq_true h] at hc;have e0:okE true=0:=rfl;rw[e0] at hc;constructor
 ·intro hn;refine ans_of k262_ok s262 rfl ⟨1,?_⟩;unfold k262;simp only[den_lt,shAG,shHD,pAG,agg5,flatE,partE,shE5,EV,hc,decide_true,ak,ad,if_false,phi (c349 h.1.2.2.1 x),decide_eq_false hn,aM,if_true]
 ·intro i n e hi hw he hl;refine ans_of k262_ok s262 rfl ⟨1,?_⟩;unfold k262;simp only[den_lt,shAG,shHD,pAG,agg5,flatE,partE,shE5,EV,hc,decide_true,ak,ad,if_false,phi (c349 h.1.2.2.1 x),decide_eq_true hl,cAG3,cAG4,cHD0,hi,tixM hw (lenI _),eltM hw,rowI,tixM he (lenE _),eltM he,rowE]
def DueAt (a:Agenda)(d:Due)(number:Int)(t:Rt):Prop:=d.number=number∧dR a.slots d.hnd∧ ∀(i n:Nat) (e:Evt),d.hnd.index=i→a.wher[i]?=some (n:Int)→a.heap[n]?=some e→e.number=number∧e.time=t
open Classical in
def dueStep (c:Clock)(left:List Due)(h:Held):Option (List Due):=
 if knownH c.pts h=true then
  (if(failT c.now (ptOf c.pts h.cert.high) (ptOf c.pts h.cert.low)).2=true then
   (match left with
    |[]=>none
    |d::rest=>if DueAt c.agenda d h.number (failT c.now (ptOf c.pts h.cert.high) (ptOf c.pts h.cert.low)).1 then some rest else none)
  else some left)
 else none
def ClkOk (c:Clock):Prop:=rok c.now=true∧okF c.pts∧bW c.certs∧cV c.agenda∧c.agenda.wher.length=200∧c.agenda.heap.length=c.due.length∧foldO (dueStep c) c.due c.certs.list=some []
def c6 (c:Clock):Prop:=In64 c.now∧ ∀e∈c.agenda.heap,In64 e.time
theorem rg {c:Clock}: ∀{l:List Held} {left out:List Due},foldO (dueStep c) left l=some out→l.all (knownH c.pts)=true
 |[],_,_,_=>rfl
 |h::l,left,out,hh=>by
  unfold foldO dueStep at hh;rw[bL];by_cases hk:knownH c.pts h=true
  ·rw[hk,cR];split at hh
   ·exact rg hh
   ·cases hh
  ·rw[if_neg hk] at hh;cases hh
theorem IS {α:Type}{l rest:List α}{k:Nat}{d:α}(h:l.drop k=d::rest):l.drop (k+1)=rest:=(dG h).2
theorem cHP1 (h:Held):RF.ev (.cell 1) [HP h]=some (.i64 h.cert.low):=rfl
theorem cHP2 (h:Held):RF.ev (.cell 2) [HP h]=some (.i64 h.cert.high):=rfl
theorem Be (d:Due):rowPart 0 0 (bF d)=some (.i64 d.number):=rfl
theorem rowDh (d:Due):rowPart 1 2 (bF d)=some (HD d.hnd):=rfl
open Classical in
theorem Bf {c:Clock}(h64:c6 c)(hg:gCl c=false):Ans D 167 [CL c] [.i64 (okE (decide (ClkOk c)))]:=by
 unfold gCl gAg gSl at hg;simp only[aY,decide_eq_false_iff_not] at hg;have no: ∀h:¬ClkOk c,(some [PV.v (.int .i64 8)]:Option (List PV))=some [.i64 (okE (decide (ClkOk c)))]:=fun h=>by rw[decide_eq_false h];rfl
 refine ans_of L1 T4 rfl ⟨1001,?_⟩;unfold Ch;simp only[den_lt,shCL,pCL0,pCL2,pCL3,pCL5,cCL8,cCL9,cCL10,EV,aa,phi (vI h64.1),phi (Wm _),phi (IP _),phi (IM (a:=c.agenda) (by omega) (by omega) h64.2),eK,ai,decide_eq_false_iff_not,decide_eq_true_eq];by_cases h1:rok c.now=true
 ·rw[if_pos h1];by_cases h2:jA c.pts=0
  ·have h2':=fD.1 h2;rw[if_neg (by simp[h2])];by_cases h3:bW c.certs
   ·rw[if_pos h3];simp only[den_lt,pCL5,cCL8,cCL9,cCL10,EV,aa,phi (WI (c:=c.certs) (l:=c.pts) (by have:=h2'.1;omega) (by omega)),phi (IM (a:=c.agenda) (by omega) (by omega) h64.2),eK,ai,decide_eq_false_iff_not,decide_eq_true_eq];by_cases h4:c.certs.list.all (knownH c.pts)=true
    ·rw[if_neg (by simp[h4])];by_cases h5:cV c.agenda
     ·rw[if_pos h5];by_cases h6:c.agenda.wher.length=200
      ·rw[if_neg (by omega)];by_cases h7:c.agenda.heap.length=c.due.length
       ·rw[if_neg (by omega)];have e0:([PV.v (.int .i64 0),.v (.int .i64 0)]:List PV)=[.i64 ((c.due.length-c.due.length:Nat):Int),.i64 ((0:Nat):Int)]:=by rw[fC];rfl
        rw[e0];refine(nj (m:=1001) (l:=c.certs.list) (b:=k167_3) (g:=dueStep c) (I:=fun left=>left=c.due.drop (c.due.length-left.length)∧left.length≤c.due.length) (S:=fun left i=>[.i64 ((c.due.length-left.length:Nat):Int),.i64 (i:Int)]) (r:=some [.i64 8]) (fin:=fun left=>some [.i64 (if left=[] then 0 else 8)]) (x:=c.due) (by simp) (fun h left out hI hg=>?_) (fun i h left self hh hI=>?_) (fun left self hI hm=>?_) (by omega)).trans ?_
        ·unfold dueStep at hg;split at hg
         ·split at hg
          ·cases left with
           |nil=>cases hg
           |cons d rest=>
            simp only at hg;split at hg
            ·cases hg;obtain⟨e1,e2⟩:=hI;simp only[aD] at e1 e2;refine⟨?_,by omega⟩;rw[show c.due.length-out.length=c.due.length-(out.length+1)+1 by omega]
             exact(IS e1.symm).symm
            ·cases hg
          ·cases hg;exact hI
         ·cases hg
        ·obtain⟨hI1,hI2⟩:=hI;have hk:knownH c.pts h=true:=aG.1 h4 h (ah hh);have hk':=hk;unfold knownH at hk';simp only[au] at hk';unfold k167_3 dueStep;rw[if_pos hk];generalize hF:failT c.now (ptOf c.pts h.cert.high) (ptOf c.pts h.cert.low)=FT;have hw:=phi (IQ (x:=h.cert) (t:=c.now) h2' h64.1 hk'.1 hk'.2);rw[hF] at hw;simp only[den_lt,cCL4,cCL10,pCL0,pCL2,pCL5,tixM hh (lenH _),eltM hh,rowH,pHP,cHP0,shapeR,hw,EV,aa,decide_eq_true_eq,if_lt (get_lt hh),ge_iff_le,ai];cases hF2:FT.2 with
         |false=>
          simp only[eq_self,if_true,ad,if_false];simp only[den_lt,cHP0,cHP1,cHP2,cellR0,cellR1,EV,xj,up1 (show i<1000000000 by have:=get_lt hh;omega)]
         |true=>
          simp only[jI,if_false,if_true];cases left with
          |nil=>rw[if_pos (by simp)]
          |cons d rest=>
           simp only[aD] at hI1 hI2⊢;have hd:c.due[c.due.length-(rest.length+1)]?=some d:=by
            have:=congrArg (fun l=>l[0]?) hI1;simp only[cL,dX,fB] at this;exact this.symm
           rw[if_neg (by omega)];simp only[den_lt,cCL10,pCL5,tixM hd (lenD _),eltM hd,Be,rowDh,cHP0,EV,ai,decide_eq_false_iff_not];by_cases n1:d.number=h.number
           ·rw[if_neg (by simp[n1])];obtain⟨q1,q2⟩:=WK h5 (by omega) (by omega) h64.2 d.hnd;by_cases n2:dR c.agenda.slots d.hnd
            ·obtain⟨ix,w,n,e,x1,x2,x3,x4,x5⟩:=vQ h5 n2;subst x3;have hD:DueAt c.agenda d h.number FT.1↔(e.number=h.number∧e.time=FT.1):=
              ⟨fun y=>y.2.2 ix n e x1 x2 x4,fun y=>⟨n1,n2,fun i' n' e' y1 y2 y3=>by
               rw[x1] at y1;have:ix=i':=by omega
               subst this;rw[x2] at y2;have:n=n':=by
                have:(n:Int)=n':=by simpa using y2
                omega
               subst this;rw[x4] at y3;cases y3;exact y⟩⟩
             simp only[den_lt,shEP,cEP2,pEP,cHP0,cHP1,cHP2,cellR0,cellR1,eqvR,phi (q2 ix n e x1 x2 x4 n2),EV,decide_true,ak,ad,if_false,ai,decide_eq_false_iff_not];by_cases n3:e.number=h.number
             ·rw[if_neg (by simp[n3])];by_cases n4:e.time=FT.1
              ·rw[if_neg (by simp[n4]),if_pos (hD.2 ⟨n3,n4⟩)];simp only[xj,EV,up1 (show i<1000000000 by have:=get_lt hh;omega),up1 (show c.due.length-(rest.length+1)<1000000000 by omega)]
               rw[show c.due.length-(rest.length+1)+1=c.due.length-rest.length by omega]
              ·rw[if_pos n4,if_neg (fun y=>n4 (hD.1 y).2)]
             ·rw[if_pos n3,if_neg (fun y=>n3 (hD.1 y).1)]
            ·simp only[den_lt,shEP,phi (q1 n2),EV,Int.reduceEq,not_false_eq_true,if_true,decide_false,aM];rw[if_neg (fun y=>n2 y.2.1)]
           ·rw[if_pos n1,if_neg (fun y=>n1 y.1)]
        ·unfold k167_3;simp only[den_lt,cCL4,cCL10,EV,aa,decide_eq_true_eq,if_ge,Gm,ai,decide_eq_false_iff_not];cases left with
         |nil=>rw[if_neg (by simp),if_pos rfl]
         |cons d rest=>
          rw[if_pos (by have:=hI.2;simp only[aD] at this⊢;omega),if_neg (by simp)]
        ·cases hm:foldO (dueStep c) c.due c.certs.list with
         |none=>exact no (fun h=>by rw[h.2.2.2.2.2.2] at hm;cases hm)
         |some left=>
          cases left with
          |nil=>rw[decide_eq_true (show ClkOk c from⟨h1,h2',h3,h5,h6,h7,hm⟩)];rfl
          |cons d rest=>exact no (fun h=>by rw[h.2.2.2.2.2.2] at hm;cases hm)
       ·rw[if_pos (by omega)];exact no (fun h=>h7 h.2.2.2.2.2.1)
      ·rw[if_pos (by omega)];exact no (fun h=>h6 h.2.2.2.2.1)
     ·rw[if_neg h5];exact no (fun h=>h5 h.2.2.2.1)
    ·rw[if_pos (by simpa using h4)]
     exact no (fun h=>h4 (rg h.2.2.2.2.2.2))
   ·rw[if_neg h3];exact no (fun h=>h3 h.2.2.1)
  ·rw[if_pos h2];exact no (fun h=>h2 (fD.2 h.2.1))
 ·rw[if_neg h1];exact no (fun h=>h1 h.1)
section
variable {α:Type}[DecidableEq α]{ks:List Ck}{kc:α→List PV}
theorem lQ (hl: ∀a,(kc a).length=ks.length)(he: ∀a b,eqL ks (kc a) (kc b)=some (decide (a=b)))(v:PV)(k:α): ∀seen:List α,mapGet ks (kc k) (seen.map fun a=>kc a++[v])=some (if k∈seen then some [v] else none)
 |[]=>by simp[mapGet,he]
 |a::l=>by
  simp only[bz,mapGet];rw[gj (hl a),he,i9 (hl a)];by_cases e:a=k
  ·subst e;simp
  ·rw[decide_eq_false e];simp only;rw[lQ hl he v k l]
   congr 1
   have:(k∈a::l)↔k∈l:=by simp[show k≠a from fun h=>e h.symm]
   simp only[this]
theorem np (hl: ∀a,(kc a).length=ks.length)(he: ∀a b,eqL ks (kc a) (kc b)=some (decide (a=b)))(v:PV)(k:α): ∀seen:List α,k∉seen→mapSet ks (kc k) [v] (seen.map fun a=>kc a++[v])=some ((seen++[k]).map fun a=>kc a++[v])
 |[],_=>by simp[mapSet,he]
 |a::l,h=>by
  simp only[bz,ay,mapSet];rw[gj (hl a),he,decide_eq_false (fun e=>h (by simp[e]))];simp only;rw[np hl he v k l (fun e=>h (by simp[e]))]
end
abbrev T1:PV:= .bool true
def Nm (seen:List Int):PV:= .sl (seen.map fun n=>[.i64 n]++[T1])
def Cm (seen:List Crt):PV:= .sl (seen.map fun c=>crow c++[T1])
theorem eqN (a b:Int):eqL [.i] [.i64 a] [.i64 b]=some (decide (a=b)):=by
 simp[eqL,eqC]
theorem P6 (a b:Crt):eqL [.i,.i] (crow a) (crow b)=some (decide (a=b)):=by
 have h:some (PV.bool (decide (a.low=b.low)&&(decide (a.high=b.high)&& true)))=some (PV.bool (decide (a=b))):=eqvC a b;injection h with h
 injection h with h
 injection h with h
 rw[←h];rfl
theorem WL (seen:List Int)(k:Int):RF.ev (.mget [.i] [.v (.bool false)]) [Nm seen,.v (.int .i64 k)]=some (.bool (decide (k∈seen))):=by
 have h:=lQ (ks:=[.i]) (kc:=fun n:Int=>[.i64 n]) (fun _=>rfl) eqN T1 k seen;unfold Nm;simp only[RF.ev,show(PV.v (.int .i64 k)).cells=[.i64 k] from rfl,h]
 by_cases e:k∈seen
 ·simp[e];rfl
 ·simp[e];rfl
theorem WM (seen:List Int){k:Int}(h:k∉seen):RF.ev (.mset [.i] 1) [Nm seen,.v (.int .i64 k),.v (.bool true)]=some (Nm (seen++[k])):=by
 have h:=np (ks:=[.i]) (kc:=fun n:Int=>[.i64 n]) (fun _=>rfl) eqN T1 k seen h;unfold Nm;simp only[RF.ev,show(PV.v (.int .i64 k)).cells=[.i64 k] from rfl,show(PV.v (.bool true)).cells=[T1] from rfl,h]
 rfl
theorem Se (seen:List Crt)(k:Crt):RF.ev (.mget [.i,.i] [.v (.bool false)]) [Cm seen,CP k]=some (.bool (decide (k∈seen))):=by
 have h:=lQ (ks:=[.i,.i]) (kc:=crow) (fun _=>rfl) P6 T1 k seen;unfold Cm;simp only[RF.ev,show(CP k).cells=crow k from rfl,h]
 by_cases e:k∈seen
 ·simp[e];rfl
 ·simp[e];rfl
theorem Sf (seen:List Crt){k:Crt}(h:k∉seen):RF.ev (.mset [.i,.i] 1) [Cm seen,CP k,.v (.bool true)]=some (Cm (seen++[k])):=by
 have h:=np (ks:=[.i,.i]) (kc:=crow) (fun _=>rfl) P6 T1 k seen h;unfold Cm;simp only[RF.ev,show(CP k).cells=crow k from rfl,show(PV.v (.bool true)).cells=[T1] from rfl,h]
 rfl
theorem ed {α:Type}{f:α→List PV}{bytes z:Nat}{l:List α}(h:l.length*bytes≤140737488355328)(hz: ∀a,(f a).length=z):RF.ev (.app bytes z) [.sl [],.v (.int .i64 0),.sl (l.map f)]=some (.sl (l.map f)):=by
 have:=dc (f:=f) (l:=[]) (k:=l) (bytes:=bytes) (z:=z) (by simpa using h) hz
 simpa using this
theorem Bg {l:List Bool}(hl:l.length≤1000):Ans D 294 [sl B1 l] [sl B1 l]:=by
 refine ans_of M8 U9 rfl ⟨1,?_⟩;unfold Dv;simp only[EV,aa,decide_eq_true_eq];have h1:den (PhiS D) 1 yd [] [sl B1 l,.i64 (l.length:Int),.bool (decide ((l.length:Int)=0))]=some [sl B1 l]:=by
  unfold yd;simp only[den_lt,EV,ed (l:=l) (f:=B1) (bytes:=1) (z:=1) (by omega) lenB,aa,subM]
 by_cases h:(l.length:Int)=0
 ·have:l=[]:=bb (by omega);subst this;rw[if_pos h];exact iv rfl h1
 ·rw[if_neg h];exact h1
theorem WN {l:List Bool}(_:0<l.length)(hl:l.length≤1000):Ans D 294 [sl B1 l] [sl B1 l]:=Bg hl
theorem jQ {l:List Int}(hl:l.length≤1000):Ans D 120 [sl I1 l] [sl I1 l]:=by
 refine ans_of LI TJ rfl ⟨1,?_⟩;unfold BZ;simp only[EV,aa,decide_eq_true_eq];have h1:den (PhiS D) 1 wE [] [sl I1 l,.i64 (l.length:Int),.bool (decide ((l.length:Int)=0))]=some [sl I1 l]:=by
  unfold wE;simp only[den_lt,EV,ed (l:=l) (f:=I1) (bytes:=8) (z:=1) (by omega) lenI,aa,subM]
 by_cases h:(l.length:Int)=0
 ·have:l=[]:=bb (by omega);subst this;rw[if_pos h];exact iv rfl h1
 ·rw[if_neg h];exact h1
theorem tq {α:Type}[DecidableEq α](v:α)(l:List α):l.any (fun y=>decide (v=y))=decide (v∈l):=by
 rw[cj];simp
theorem WO {l:List Bool}(v:Bool)(hl:l.length≤1000):Ans D 415 [sl B1 l,.bool v] [.i64 (jP (fun y=>decide (v=y)) l)]:=by
 refine ans_of N1 V0 rfl ⟨1001,?_⟩;unfold En;simp only[EV,aa];refine(eY (m:=1001) (l:=l) (p:=fun y=>decide (v=y)) (st:=fun i=>[.i64 (i:Int)]) (ret:=fun i=>some [.i64 (i:Int)]) (fin:=some [.i64 (-1)]) (fun i a self ha=>?_) (fun self=>?_) (by omega)).trans uX
 ·unfold yQ;simp only[tixM ha (lenB _),eltM ha,rowB,EV,decide_eq_true_eq,if_lt (get_lt ha),up1 (show i<1000000000 by have:=get_lt ha;omega),beq_iff_eq]
 ·unfold yQ;simp only[EV,decide_eq_true_eq,if_ge,HO]
theorem WP {l:List Bool}(v:Bool)(hl:l.length≤1000):Ans D 386 [sl B1 l,.bool v] [.bool (decide (v∈l))]:=by
 refine ans_of NS VQ rfl ⟨1,?_⟩;unfold Ed;simp only[EV,phi (WO v hl),ge_iff_le,qx,tq]
open Classical in
theorem Bh {s:Slots}(hg:gSl s=false):Ans D 325 [SL s] [.i64 (okE (decide s.okR))]:=by
 unfold gSl at hg;simp only[aY,decide_eq_false_iff_not] at hg;rw[show decide s.okR=decide s.okP from aV.2 (Slots.ok_iff s).symm]
 have no: ∀h:¬s.okP,(some [PV.v (.int .i64 8)]:Option (List PV))=some [.i64 (okE (decide s.okP))]:=fun h=>by rw[decide_eq_false h];rfl
 refine ans_of Nt Vs rfl ⟨1001,?_⟩;unfold DN;simp only[den_lt,shSL,cSL0,cSL1,cSL2,EV,aa,decide_eq_true_eq,ai,decide_eq_false_iff_not];by_cases h1:s.uses.length<1
 ·rw[if_pos (by omega)];exact no (fun h=>by have:=h.1;omega)
 rw[if_neg (by omega)];by_cases h2:200<s.uses.length
 ·rw[if_pos (by omega)];exact no (fun h=>by have:=h.2.1;omega)
 rw[if_neg (by omega)];by_cases h3:s.used.length=s.uses.length
 rotate_left
 ·rw[if_pos (by omega)];exact no (fun h=>h3 h.2.2.1)
 rw[if_neg (by omega)];simp only[phi (WN (l:=s.used) (by omega) (by omega)),EV,aa,den_lt,cSL2];refine(nj (m:=1001) (l:=s.free) (g:=fun l x=>if 0≤x∧x<l.length∧l[x.toNat]?=some false then some (l.set x.toNat true) else none) (I:=fun l=>l.length=s.uses.length) (S:=fun l i=>[sl B1 l,.i64 (i:Int)]) (r:=some [.i64 8])
  (fin:=fun acc=>some [.i64 (okE (decide s.okP))]) (x:=s.used) h3 (fun a acc acc' hI hg=>?_) (fun i x acc self hx hI=>?_) (fun acc self hI hm=>?_) (by omega)).trans ?_
 ·split at hg
  ·cases hg;simpa using hI
  ·cases hg
 ·unfold tD;have hi:=get_lt hx;simp only[den_lt,cSL2,tixM hx (lenI _),eltM hx,rowI,EV,aa,decide_eq_true_eq,if_lt hi,ge_iff_le,show((0:Int)≤(i:Int)) by omega,if_true]
  by_cases c1:x<0
  ·rw[if_pos c1,if_neg (by omega)]
  ·rw[if_neg c1];by_cases c2:(s.uses.length:Int)≤x
   ·rw[if_pos c2,if_neg (by rw[hI];omega)]
   ·rw[if_neg c2];obtain⟨n,rfl⟩:=lP (show 0≤x by omega)
    obtain⟨b,hb⟩: ∃b,acc[n]?=some b:=⟨acc[n]'(by omega),ac _⟩;simp only[den_lt,cSL2,tixM hx (lenI _),eltM hx,rowI,ixM (show n<s.used.length by omega),eltM hb,rowB,setB (show n<acc.length by omega),EV,up1 (show i<1000000000 by omega)]
    cases b with
    |true=>
     rw[if_pos rfl,if_pos (show decide ((0:Int)≤(i:Int))=true from decide_eq_true (by omega)),if_neg (fun g=>by have:=g.2.2;rw[aq,hb] at this;cases this)]
    |false=>rw[if_neg (by simp),if_pos ⟨by omega,by omega,by rw[aq];exact hb⟩,aq]
 ·rw[←iE] at hm;have su:RF.ev .sub [sl B1 acc,.v (.int .i64 0),.v (.int .i64 (s.used.length:Int))]=some (sl B1 acc):=by rw[h3,←hI];exact subM
  unfold tD;simp only[den_lt,EV,decide_eq_true_eq,if_ge,Ht,su,cSL0,aa,phi (WP (l:=acc) false (by omega)),ge_iff_le,show¬((0:Int)≤ -1) by omega,if_false]
  by_cases c1:false∈acc
  ·simp only[c1,if_true];exact no (fun h=>by
    obtain⟨l,e1,e2⟩:=h.2.2.2.1;rw[hm] at e1;cases e1;exact e2 c1)
  simp only[c1,if_false];refine(run_if (m:=1001) (n:=s.uses.length) (P:=fun i=> ∀u,s.uses[i]?=some u→0≤u∧u≤1000000∧¬(u=0∧s.used[i]?=some true)) (st:=fun i=>[.i64 (i:Int)]) (r:=some [.i64 8]) (fin:=some [.i64 0]) (fun i self hi _=>?_) (fun _ self=>?_) (by omega)).trans ?_
  ·obtain⟨u,hu⟩: ∃u,s.uses[i]?=some u:=⟨s.uses[i],ac _⟩;obtain⟨b,hb⟩: ∃b,s.used[i]?=some b:=⟨s.used[i]'(by omega),ac _⟩;have hP:(∀u',s.uses[i]?=some u'→0≤u'∧u'≤1000000∧¬(u'=0∧s.used[i]?=some true))↔(0≤u∧u≤1000000∧¬(u=0∧b=true)):=by
    rw[hu,hb];simp
   unfold k325_3;simp only[hP,den_lt,cSL0,cSL1,tixM hu (lenI _),eltM hu,rowI,tixM hb (lenB _),eltM hb,rowB,EV,decide_eq_true_eq,if_lt hi,Hs,up1 (show i<1000000000 by omega)]
   by_cases c1:u<0
   ·simp only[if_pos c1,if_true];rw[if_neg (by omega)]
   simp only[if_neg c1];by_cases c2:1000000<u
   ·simp only[if_pos c2,if_true];rw[if_neg (by omega)]
   simp only[if_neg c2];by_cases c3:u=0
   ·simp only[if_pos c3];cases b with
    |true=>simp[c3]
    |false=>simp[c3]
   ·simp only[if_neg c3,ad,if_false];rw[if_pos ⟨by omega,by omega,fun h=>c3 h.1⟩]
  ·unfold k325_3;simp only[EV,decide_eq_true_eq,if_ge,k325_1]
  ·by_cases hr:s.okP
   ·rw[if_pos (fun i _=>hr.2.2.2.2 i),decide_eq_true hr];rfl
   ·rw[if_neg (fun h=>hr ⟨by omega,by omega,h3,⟨acc,hm,c1⟩,fun i u hu=>h i (get_lt hu) u hu⟩),decide_eq_false hr];rfl
 ·rw[←iE];cases hm:markF s.used s.free with
  |some l=>rfl
  |none=>
   exact no (fun h=>by
    obtain⟨l,e1,_⟩:=h.2.2.2.1;rw[hm] at e1;cases e1)
def qA (x y:Evt):Int:=if sgn (crs x.time y.time)=0 then sgn (x.number-y.number) else sgn (crs x.time y.time)
theorem cmpE_lt (x y:Evt):qA x y<0↔evLess x y=true:=by
 unfold qA evLess;have:=sgn_cases x.number y.number;by_cases h:sgn (crs x.time y.time)=0
 ·rw[if_pos h,this];simp[h];split
  ·simp;omega
  ·split<;>simp<;>omega
 ·rw[if_neg h];simp[h]
theorem qB {x y:Evt}(hx:In64 x.time)(hy:In64 y.time)(rx:rok x.time=true)(ry:rok y.time=true):Ans D 326 [EP x,EP y] [.i64 (qA x y)]:=by
 have e:=phi (kw hx hy);rw[rx,ry,bV,if_pos rfl] at e;have bs:RF.ev (.bs 2 [KP.z] [0,1]) [.v (.int .i64 (sgn (crs x.time y.time))),.v (.int .i64 (sgn (x.number-y.number)))]=some (.sl [[.i64 (sgn (crs x.time y.time))],[.i64 (sgn (x.number-y.number))]]):=rfl;have su: ∀a b:List PV,RF.ev .sub [.sl [a,b],.v (.int .i64 0),.v (.int .i64 2)]=some (.sl [a,b]):=fun a b=>rfl;refine ans_of Nu Vt rfl ⟨1,?_⟩;unfold DO qA;simp only[den_lt,shEP,pEP,cEP2,EV,e,phi (oB _ _),bs,su,phi (orr _ _)]
def lastN (c:Certs):Nat→Int
 |0=> -1
 |i+1=>((c.list[i]?).map Held.number).getD (-1)
def rh (c:Certs)(j:Nat)(h:Held):Prop:=h.cert.ok∧(∀k,k<j→ ∀g,c.list[k]?=some g→g.cert≠h.cert)∧lastN c j<h.number∧h.number<c.next
theorem Fh {c:Certs}(h1:c.list.length≤200)(h2:0≤c.next)(h3:c.next≤1000000):(∀j h,c.list[j]?=some h→rh c j h)↔bW c:=by
 constructor
 ·intro h;have nn: ∀(j:Nat) (g:Held),c.list[j]?=some g→0≤g.number:=by
   intro j;induction j with
   |zero=>intro g hg;have:=(h 0 g hg).2.2.1;simp only[lastN] at this;omega
   |succ j ih=>
    intro g hg;obtain⟨p,hp⟩: ∃p,c.list[j]?=some p:=⟨c.list[j]'(by have:=get_lt hg;omega),ac _⟩;have h5:=(h (j+1) g hg).2.2.1;simp only[lastN,hp,aZ,bj] at h5;have:=ih p hp;omega
  refine⟨h1,h2,h3,fun i x hx=>⟨(h i x hx).1,nn i x hx,(h i x hx).2.2.2,fun g hi hg=>?_,(h i x hx).2.1⟩⟩;obtain⟨i,rfl⟩: ∃k,i=k+1:=⟨i-1,by omega⟩;have:=(h (i+1) x hx).2.2.1;rw[cK] at hg;simp only[lastN,hg,aZ,bj] at this;exact this
 ·rintro⟨_,_,_,h⟩ j x hx;obtain⟨a1,a2,a3,a4,a5⟩:=h j x hx;refine⟨a1,a5,?_,a3⟩;cases j with
  |zero=>simp only[lastN];omega
  |succ j=>
   obtain⟨p,hp⟩: ∃p,c.list[j]?=some p:=⟨c.list[j]'(by have:=get_lt hx;omega),ac _⟩;simp only[lastN,hp,aZ,bj];exact a4 p (by omega) (by simpa using hp)
theorem vR {c:Certs}{i:Nat}{k:Crt}:k∉(c.list.take i).map (·.cert)↔ ∀j,j<i→ ∀g,c.list[j]?=some g→g.cert≠k:=by
 constructor
 ·intro h j hj g hg e;exact h (aN.2 ⟨g,aA.2 ⟨j,by rw[dB hj];exact hg⟩,e⟩)
 ·intro h hm;obtain⟨g,hg,e⟩:=aN.1 hm;obtain⟨j,hj⟩:=aA.1 hg;rw[cu] at hj;split at hj
  ·exact h j (by assumption) g hj e
  ·cases hj
open Classical in
theorem Bi {c:Certs}(hl:c.list.length≤1000):Ans D 244 [CS c] [.i64 (okE (decide (bW c)))]:=by
 refine ans_of MH UJ rfl ⟨1001,?_⟩;unfold C5;have no: ∀h:¬bW c,(some [PV.v (.int .i64 8)]:Option (List PV))=some [.i64 (okE (decide (bW c)))]:=fun h=>by rw[decide_eq_false h];rfl
 simp only[den_lt,shCS,cCS0,cCS1,EV,aa,decide_eq_true_eq,gt_iff_lt];by_cases h1:200<c.list.length
 ·rw[if_pos (by omega)];exact no (fun h=>by have:=h.1;omega)
 rw[if_neg (by omega)];by_cases h2:c.next<0
 ·rw[if_pos h2];exact no (fun h=>by have:=h.2.1;omega)
 rw[if_neg h2];by_cases h3:1000000<c.next
 ·rw[if_pos h3];exact no (fun h=>by have:=h.2.2.1;omega)
 rw[if_neg h3];refine(run_if (n:=c.list.length) (P:=fun i=> ∀h,c.list[i]?=some h→rh c i h) (st:=fun i=>[Cm ((c.list.take i).map (·.cert)),.i64 (lastN c i),.i64 (i:Int)]) (r:=some [.i64 8]) (fin:=some [.i64 0]) (fun i self hi _=>?_) (fun _ self=>?_) (by omega)).trans ?_
 ·obtain⟨h,hh⟩: ∃h,c.list[i]?=some h:=⟨c.list[i],ac _⟩;have hP:(∀h',c.list[i]?=some h'→rh c i h')↔rh c i h:=⟨fun x=>x h hh,fun x h' e=>by rw[hh] at e;cases e;exact x⟩;have hs:(c.list.take (i+1)).map (·.cert)=(c.list.take i).map (·.cert)++[h.cert]:=by
   rw[cG,hh];simp
  have hn:lastN c (i+1)=h.number:=by simp only[lastN,hh,aZ,bj]
  unfold xR;simp only[hP,hs,hn,den_lt,cCS0,cCS1,tixM hh (lenH _),eltM hh,rowH,pHP,cHP0,phi (IO _),Se,EV,aa,decide_eq_true_eq,if_lt hi,ai,decide_eq_false_iff_not,ge_iff_le];by_cases a1:h.cert.ok
  rotate_left
  ·rw[if_pos a1,if_neg (fun x=>a1 x.1)]
  rw[if_neg (eb a1)];by_cases a2:h.cert∈(c.list.take i).map (·.cert)
  ·rw[if_pos a2,if_neg (fun x=>absurd a2 (vR.2 x.2.1))]
  rw[if_neg a2];by_cases a3:h.number≤lastN c i
  ·rw[if_pos a3,if_neg (fun x=>by have:=x.2.2.1;omega)]
  rw[if_neg a3];by_cases a4:c.next≤h.number
  ·rw[if_pos a4,if_neg (fun x=>by have:=x.2.2.2;omega)]
  rw[if_neg a4,if_pos ⟨a1,vR.1 a2,by omega,by omega⟩];simp only[den_lt,pHP,cHP0,Sf _ a2,EV,up1 (show i<1000000000 by omega)]
 ·unfold xR;simp only[den_lt,cCS1,EV,aa,decide_eq_true_eq,if_ge,G1]
 ·have:(∀i,i<c.list.length→ ∀h,c.list[i]?=some h→rh c i h)↔bW c:=by
   rw[←Fh (by omega) (by omega) (by omega)];exact⟨fun h i x hx=>h i (get_lt hx) x hx,fun h i _=>h i⟩
  by_cases hr:bW c
  ·rw[if_pos (this.2 hr),decide_eq_true hr];rfl
  ·rw[if_neg (fun h=>hr (this.1 h)),decide_eq_false hr];rfl
theorem Sg (p q:Hnd):RF.ev (.eqv [.i,.i]) [HD p,HD q]=some (.bool (decide (p=q))):=by
 obtain⟨a,b⟩:=p;obtain⟨c,d⟩:=q;show some (PV.bool (decide (a=c)&&(decide (b=d)&& true)))=_
 congr 2
 by_cases h1:a=c<;>by_cases h2:b=d<;>simp[h1,h2]
open Classical in
theorem vS {a:Agenda}(hg:gAg a=false)(h64: ∀e∈a.heap,In64 e.time):Ans D 245 [AG a] [.i64 (okE (decide (cV a)))]:=by
 have hgs:=hg;unfold gAg at hgs;simp only[aY,decide_eq_false_iff_not] at hgs;have hsl:a.slots.uses.length≤210∧a.slots.used.length≤210∧a.slots.free.length≤210:=by
  have:=hgs.1.1;unfold gSl at this;simp only[aY,decide_eq_false_iff_not] at this;omega
 have cAG0:RF.ev (.cell 0) [AG a]=some (sl I1 a.slots.uses):=rfl;have cAG1:RF.ev (.cell 1) [AG a]=some (sl B1 a.slots.used):=rfl;have cAG2:RF.ev (.cell 2) [AG a]=some (sl I1 a.slots.free):=rfl;have no: ∀h:¬cV a,(some [PV.v (.int .i64 8)]:Option (List PV))=some [.i64 (okE (decide (cV a)))]:=fun h=>by rw[decide_eq_false h];rfl
 refine ans_of MI UK rfl ⟨1001,?_⟩;unfold C6;simp only[den_lt,shAG,pAG,cAG1,cAG2,cAG3,cAG4,EV,aa,phi (Bh hgs.1.1),jy,decide_eq_true_eq,ai,decide_eq_false_iff_not,bU (show-9223372036854775808≤(a.slots.used.length:Int)-(a.slots.free.length:Int) by omega) (by omega)]
 by_cases q1:a.slots.okR
 rotate_left
 ·rw[if_pos (by rw[decide_eq_false q1];decide)];exact no (fun h=>q1 h.1)
 rw[if_neg (by rw[decide_eq_true q1];decide)];obtain⟨g1,g2,g3,g4,_⟩:=id q1;by_cases q2:a.wher.length=a.slots.used.length
 rotate_left
 ·rw[if_pos (by omega)];exact no (fun h=>q2 (by rw[h.2.1.1,g3]))
 rw[if_neg (by omega)];by_cases q3:a.heap.length+a.slots.free.length=a.slots.used.length
 rotate_left
 ·rw[if_pos (by omega)];exact no (fun h=>q3 (by rw[h.2.1.2.1,g3]))
 rw[if_neg (by omega)];refine(run_if (n:=a.wher.length) (P:=fun i=> ∀(b:Bool) (w u:Int),a.slots.used[i]?=some b→a.wher[i]?=some w→a.slots.uses[i]?=some u→if b=true then 0≤w∧ ∃e,a.heap[w.toNat]?=some e∧e.hnd=⟨i,u⟩ else w= -1) (st:=fun i=>[.i64 (i:Int)]) (r:=some [.i64 8]) (fin:=some [.i64 (okE (decide (cV a)))]) (fun i self hi _=>?_) (fun hall self=>?_) (by omega)).trans ?_
 ·obtain⟨u,hu⟩: ∃u,a.slots.uses[i]?=some u:=⟨a.slots.uses[i]'(by omega),ac _⟩;obtain⟨b,hb⟩: ∃b,a.slots.used[i]?=some b:=⟨a.slots.used[i]'(by omega),ac _⟩;obtain⟨w,hw⟩: ∃w,a.wher[i]?=some w:=⟨a.wher[i]'(by omega),ac _⟩;have hP:(∀(b':Bool) (w' u':Int),a.slots.used[i]?=some b'→a.wher[i]?=some w'→a.slots.uses[i]?=some u'→if b'=true then 0≤w'∧ ∃e,a.heap[w'.toNat]?=some e∧e.hnd=⟨i,u'⟩ else w'= -1)↔(if b=true then 0≤w∧ ∃e,a.heap[w.toNat]?=some e∧e.hnd=⟨i,u⟩ else w= -1):=
   ⟨fun h=>h b w u hb hw hu,fun h b' w' u' h1 h2 h3=>by rw[hu] at h3;rw[hb] at h1;rw[hw] at h2;cases h1;cases h2;cases h3;exact h⟩
  have nxt:=up1 (show i<1000000000 by omega)
  unfold xT;simp only[hP,den_lt,cAG1,cAG3,cAG4,tixM hb (lenB _),eltM hb,rowB,tixM hw (lenI _),eltM hw,rowI,EV,aa,decide_eq_true_eq,if_lt hi];cases b with
  |false=>
   simp only[aM,if_true,ad,if_false,EV,ai,decide_eq_false_iff_not];by_cases c1:w= -1
   ·rw[if_neg (by omega),if_pos c1];unfold k245_5;simp only[EV,nxt]
   ·rw[if_pos c1,if_neg c1]
  |true=>
   simp only[ak,ad,if_false,if_true,ge_iff_le];by_cases c1:w<0
   ·rw[if_pos c1,if_neg (by omega)]
   rw[if_neg c1];obtain⟨n,rfl⟩:=lP (show 0≤w by omega)
   by_cases c2:a.heap.length≤n
   ·rw[if_pos (by omega),if_neg (fun h=>by
     obtain⟨_,e,he,_⟩:=h;have:=get_lt he;omega)]
   rw[if_neg (by omega)];obtain⟨e,he⟩: ∃e,a.heap[n]?=some e:=⟨a.heap[n]'(by omega),ac _⟩;have ag:RF.ev .agg [.v (.int .i64 (i:Int)),.v (.int .i64 u)]=some (HD ⟨i,u⟩):=rfl;simp only[den_lt,cAG0,cAG3,tixM he (lenE _),eltM he,Kf,tixM hu (lenI _),eltM hu,rowI,ag,Sg,EV,aq,ai,decide_eq_false_iff_not];by_cases c3:e.hnd=⟨i,u⟩
   ·rw[if_neg (eb c3),if_pos ⟨by omega,e,he,c3⟩];unfold k245_5;simp only[EV,nxt]
   ·rw[if_pos c3,if_neg (fun h=>by
     obtain⟨_,e',he',h'⟩:=h;rw[he] at he';cases he';exact c3 h')]
 ·have hpl:jB a:=⟨by omega,by omega,fun i b w u hb hw hu=>hall i (get_lt hw) b w u hb hw hu⟩;unfold xT;simp only[EV,decide_eq_true_eq,if_ge];unfold G3;simp only[den_lt,cAG3,EV,aa];refine(run_if (n:=a.heap.length) (P:=fun i=> ∀e,a.heap[i]?=some e→EvOk e∧(∀k,k<i→ ∀e',a.heap[k]?=some e'→e'.number≠e.number)∧ ∀p,0<i→a.heap[(i-1)/2]?=some p→evLess e p=false) (st:=fun i=>[Nm ((a.heap.take i).map (·.number)),.i64 (i:Int)]) (r:=some [.i64 8]) (fin:=some [.i64 0]) (fun i self hi hbef=>?_) (fun _ self=>?_) (by omega)).trans ?_
  ·obtain⟨e,he⟩: ∃e,a.heap[i]?=some e:=⟨a.heap[i],ac _⟩;have hP:(∀e',a.heap[i]?=some e'→EvOk e'∧(∀k,k<i→ ∀x,a.heap[k]?=some x→x.number≠e'.number)∧ ∀p,0<i→a.heap[(i-1)/2]?=some p→evLess e' p=false)↔(EvOk e∧(∀k,k<i→ ∀x,a.heap[k]?=some x→x.number≠e.number)∧ ∀p,0<i→a.heap[(i-1)/2]?=some p→evLess e p=false):=
    ⟨fun h=>h e he,fun h e' h1=>by rw[he] at h1;cases h1;exact h⟩
   have hs:(a.heap.take (i+1)).map (·.number)=(a.heap.take i).map (·.number)++[e.number]:=by
    rw[cG,he];simp
   have hseen:e.number∉(a.heap.take i).map (·.number)↔ ∀k,k<i→ ∀x,a.heap[k]?=some x→x.number≠e.number:=by
    constructor
    ·intro h j hj g hg e';exact h (aN.2 ⟨g,aA.2 ⟨j,by rw[dB hj];exact hg⟩,e'⟩)
    ·intro h hm;obtain⟨g,hg,e'⟩:=aN.1 hm;obtain⟨j,hj⟩:=aA.1 hg;rw[cu] at hj;split at hj
     ·exact h j (by assumption) g hj e'
     ·cases hj
   unfold xS;simp only[hP,hs,den_lt,cAG3,tixM he (lenE _),eltM he,rowE,pEP,cEP2,phi (c43 (h64 e (ah he))),jy,WL,EV,aa,decide_eq_true_eq,if_lt hi,gt_iff_lt];by_cases c1:rok e.time=true
   rotate_left
   ·rw[if_neg c1,if_neg (fun h=>c1 h.1.1)]
   rw[if_pos c1];by_cases c2:e.number<0
   ·rw[if_pos c2,if_neg (fun h=>by have:=h.1.2;omega)]
   rw[if_neg c2];by_cases c3:1000000<e.number
   ·rw[if_pos c3,if_neg (fun h=>by have:=h.1.2;omega)]
   rw[if_neg c3];by_cases c4:e.number∈(a.heap.take i).map (·.number)
   ·rw[if_pos c4,if_neg (fun h=>absurd c4 (hseen.2 h.2.1))]
   rw[if_neg c4];have nxt:=up1 (show i<1000000000 by omega)
   simp only[den_lt,cEP2,WM _ c4,EV,decide_eq_true_eq];cases i with
   |zero=>
    rw[if_neg (by omega),if_pos ⟨⟨c1,by omega,by omega⟩,hseen.1 c4,fun p h=>absurd h (cp _)⟩];unfold k245_2;simp only[EV,ad,if_false,nxt]
   |succ j=>
    obtain⟨p,hp⟩: ∃p,a.heap[j/2]?=some p:=⟨a.heap[j/2]'(by omega),ac _⟩;have rp:rok p.time=true:=(hbef (j/2) (by omega) p hp).1.1;rw[if_pos (by omega)];simp only[den_lt,f_bin,half (show j<1000000 by omega),cAG3,tixM hp (lenE _),eltM hp,rowE,phi (qB (h64 e (ah he)) (h64 p (ah hp)) c1 rp),EV]
    unfold k245_2;simp only[EV,decide_eq_true_eq,nxt];by_cases c5:qA e p<0
    ·rw[if_pos c5,if_neg (fun h=>by
      have:=h.2.2 p (by omega) (by simpa using hp)
      rw[(cmpE_lt e p).1 c5] at this;cases this)]
    ·rw[if_neg c5,if_pos ⟨⟨c1,by omega,by omega⟩,hseen.1 c4,fun q _ hq=>by
      rw[cK,hp] at hq;cases hq;cases h:evLess e p with
      |false=>rfl
      |true=>exact absurd ((cmpE_lt e p).2 h) c5⟩]
  ·unfold xS;simp only[EV,decide_eq_true_eq,if_ge,G2]
  ·have:(∀i,i<a.heap.length→ ∀e,a.heap[i]?=some e→EvOk e∧(∀k,k<i→ ∀e',a.heap[k]?=some e'→e'.number≠e.number)∧ ∀p,0<i→a.heap[(i-1)/2]?=some p→evLess e p=false)↔cV a:=by
    constructor
    ·intro h;refine⟨q1,hpl,fun e he=>?_,?_,fun i e p he hp=>?_⟩
     ·obtain⟨i,hi⟩:=aA.1 he;exact(h i (get_lt hi) e hi).1
     ·rw[nodup_lt];intro i j x hj hi hjx;rw[aI,bf] at hi hjx;obtain⟨e,he,rfl⟩:=hi;obtain⟨e',he',h'⟩:=hjx;exact(h i (get_lt he) e he).2.1 j hj e' he' h'
     ·exact(h (i+1) (get_lt he) e he).2.2 p (by omega) (by rw[cK];exact hp)
    ·rintro⟨_,_,h3,h4,h5⟩ i hi e he;rw[nodup_lt] at h4;refine⟨h3 e (ah he),fun k hk e' he' hn=>?_,fun p hp0 hp=>?_⟩
     ·exact h4 i k e.number hk (by rw[aI,he];rfl) (by rw[aI,he',aZ,hn])
     ·obtain⟨j,rfl⟩: ∃j,i=j+1:=⟨i-1,by omega⟩;exact h5 j e p he (by rw[cK] at hp;exact hp)
   by_cases hr:cV a
   ·rw[if_pos (this.2 hr),decide_eq_true hr];rfl
   ·rw[if_neg (fun h=>hr (this.1 h)),decide_eq_false hr];rfl
 ·by_cases hall: ∀i,i<a.wher.length→ ∀(b:Bool) (w u:Int),a.slots.used[i]?=some b→a.wher[i]?=some w→a.slots.uses[i]?=some u→if b=true then 0≤w∧ ∃e,a.heap[w.toNat]?=some e∧e.hnd=⟨i,u⟩ else w= -1
  ·rw[if_pos hall]
  ·rw[if_neg hall];exact no (fun h=>hall fun i _=>h.2.1.2.2 i)
theorem ri {c:Clock}(h:okF c.pts)(hr:rok c.now=true){x:Held}(hx:x.cert.ok):f8 (ptOf c.pts x.cert.high) (ptOf c.pts x.cert.low) c.now=0↔knownH c.pts x=true:=by
 unfold knownH;rw[au];constructor
 ·intro h0;obtain⟨h1,h2,_,_⟩:=ti h0;have go: ∀id,(ptOf c.pts id).ok=true→inF c.pts id=true:=fun id hp=>by
   cases e:inF c.pts id with
   |true=>rfl
   |false=>rw[ui (At e)] at hp;simp[Pt.ok] at hp
  exact⟨go _ h2,go _ h1⟩
 ·rintro⟨h1,h2⟩;obtain⟨i,p,a1,a2,a3,a4⟩:=cH h h1;obtain⟨j,q,b1,b2,b3,b4⟩:=cH h h2;rw[a4,b4];exact ik (okF_pt h b1) (okF_pt h a1) hr (by rw[a2,b2];exact fun e=>hx.2.2.2.2 e.symm)
theorem Si {d:Due}{rest:List Due}:RF.ev (.tsub 3) [sl bF (d::rest),.v (.int .i64 1),.v (.int .i64 ((rest.length+1:Nat):Int))]=some (sl bF rest):=by
 rw[sU,if_pos ⟨by omega,by omega,by simp,by simp[elsOk',bF],by decide⟩];simp;exact aR (by simp)
theorem WQ {n:Nat}:RF.ev .bnd [.v (.int .i64 1),.v (.int .i64 ((n+1:Nat):Int))]=some (.i64 1):=by
 rw[gZ,if_pos ⟨by omega,by omega⟩]
theorem WS (e:Rt)(n:Int)(h:Hnd):RF.ev .agg [R e,.i64 n,HD h]=some (EP ⟨e,n,h⟩):=rfl
open Classical in
theorem pP {c:Clock}(h64:c6 c)(hg:gW c):Ans D 153 [CL c] [.i64 (okE (decide (ClkOk c)))]:=by
 obtain⟨hg1,hg2,hg3,hga⟩:=hg;have hg':=hga;unfold gAg gSl at hg';simp only[aY,decide_eq_false_iff_not] at hg';have no: ∀h:¬ClkOk c,(some [PV.v (.int .i64 8)]:Option (List PV))=some [.i64 (okE (decide (ClkOk c)))]:=fun h=>by rw[decide_eq_false h];rfl
 have b4: ∀w x y z:Int,RF.ev (.bs 4 [KP.z] [0,1,2,3]) [.i64 w,.i64 x,.i64 y,.i64 z]=some (sl I1 [w,x,y,z]):=fun _ _ _ _=>rfl;refine ans_of LV TW rfl ⟨1001,?_⟩;unfold Cb;simp only[den_lt,shCL,pCL0,pCL2,pCL3,pCL5,b4,EV,phi (c43 h64.1),phi (vN _),phi (Bi (c:=c.certs) (by omega)),phi (vS hga h64.2)];refine(run_list (m:=1001) (l:=[okE (rok c.now),jA c.pts,okE (decide (bW c.certs)),okE (decide (cV c.agenda))]) (p:=fun e=>decide (e=0)) (st:=fun i=>[.i64 (i:Int)]) (r:=some [.i64 8]) (fin:=some [.i64 (okE (decide (ClkOk c)))]) (fun i e self he _=>?_) (fun hall self=>?_) (by simp)).trans ?_
 ·have hi:i<4:=by simpa using get_lt he
  unfold xe;have i4:RF.ev .ix [.i64 (i:Int),.v (.int .i64 4)]=some (.i64 (i:Int)):=by rw[R0,if_pos (by omega)]
  have l4:decide ((i:Int)<4)=true:=decide_eq_true (by omega);simp only[EV,l4,eq_self,if_true,i4,eltM he,rowI,up1 (show i<1000000000 by omega),ai,decide_eq_true_eq]
  by_cases e0:e=0
  ·rw[decide_eq_true e0,if_neg (by simp),if_pos e0]
  ·rw[decide_eq_false e0,if_pos rfl,if_neg e0]
 ·simp only[bL,List.all_nil,eL,au,decide_eq_true_eq,Fg] at hall;obtain⟨h1,h2,h3,h5⟩:=hall;have h2':=fD.1 h2;unfold xe;have l4:decide (((4:Nat):Int)<4)=false:=by decide
  simp only[aD,bJ,be,Nat.reduceAdd,EV,l4,ad,if_false];unfold Gh;simp only[den_lt,cCL4,cCL8,cCL9,cCL10,EV,aa,ai,decide_eq_false_iff_not];by_cases h6:c.agenda.wher.length=200
  ·rw[if_neg (by omega)];by_cases h7:c.agenda.heap.length=c.due.length
   ·rw[if_neg (by omega)];refine(nj (m:=1001) (l:=c.certs.list) (b:=rP) (g:=dueStep c) (I:=fun _=>True) (S:=fun left i=>[sl bF left,.i64 (i:Int)]) (r:=some [.i64 8]) (fin:=fun left=>some [.i64 (if left=[] then 0 else 8)]) (x:=c.due) trivial (fun _ _ _ _ _=>trivial) (fun i h left self hh _=>?_) (fun left self _ hm=>?_) (by omega)).trans ?_
    ·have hx:h.cert.ok:=(h3.2.2.2 i h hh).1;have hk:=ri h2' h1 hx;have hw:=phi (IR (x:=h.cert) (t:=c.now) h2' h64.1);unfold rP dueStep;generalize hF:failT c.now (ptOf c.pts h.cert.high) (ptOf c.pts h.cert.low)=FT at hw⊢;by_cases hkn:knownH c.pts h=true
     ·rw[if_pos (hk.2 hkn)] at hw;rw[if_pos hkn];simp only[den_lt,cCL4,cCL10,pCL0,pCL2,pCL5,tixM hh (lenH _),eltM hh,rowH,pHP,cHP0,shapeR,hw,EV,aa,decide_eq_true_eq,if_lt (get_lt hh),ge_iff_le,ai,decide_true,ak,ad,if_false];cases hF2:FT.2 with
      |false=>
       simp only[eq_self,if_true,ad,if_false];simp only[den_lt,cHP0,cHP1,cHP2,cellR0,cellR1,EV,xd,up1 (show i<1000000000 by have:=get_lt hh;omega)]
      |true=>
       simp only[jI,if_false,if_true];cases left with
       |nil=>rw[if_pos (by simp)]
       |cons d rest=>
        have d0:(d::rest)[0]?=some d:=rfl;have t0':RF.ev (.tix 3) [sl bF (d::rest),.v (.int .i64 0)]=some (.i64 ((0:Nat):Int)):=tixM d0 (lenD _);rw[if_neg (by simp;omega)];simp only[den_lt,t0',eltM d0,Be,rowDh,cHD0,cHP0,EV,ai,decide_eq_false_iff_not,decide_eq_true_eq,ge_iff_le];by_cases n1:d.number=h.number
        ·rw[if_neg (by simp[n1])];by_cases n2:d.hnd.index<0
         ·rw[if_pos n2,if_neg (fun y=>by have:=y.2.1.1;omega)]
         ·rw[if_neg n2];by_cases n3:200≤d.hnd.index
          ·rw[if_pos n3,if_neg (fun y=>by
            have:=get_lt y.2.1.2.2;have:=h5.2.1.1;omega)]
          ·rw[if_neg n3];obtain⟨ix,hix⟩:=lP (show 0≤d.hnd.index by omega)
           obtain⟨w,hwh⟩: ∃w,c.agenda.wher[ix]?=some w:=⟨c.agenda.wher[ix]'(by omega),ac _⟩;obtain⟨b,hb⟩: ∃b,c.agenda.slots.used[ix]?=some b:=⟨c.agenda.slots.used[ix]'(by have:=h5.2.1.1;have:=h5.1.2.2.1;omega),ac _⟩;obtain⟨u,hu⟩: ∃u,c.agenda.slots.uses[ix]?=some u:=⟨c.agenda.slots.uses[ix]'(by have:=h5.2.1.1;omega),ac _⟩;have hpl:=h5.2.1.2.2 ix b w u hb hwh hu;simp only[den_lt,cCL8,cCL9,cHD0,hix,tixM hwh (lenI _),eltM hwh,rowI,EV,decide_eq_true_eq];by_cases n4:w<0
           ·rw[if_pos n4,if_neg (fun y=>by
             have hl:=y.2.1.2.1;rw[hix,aq,hb] at hl;cases hl;rw[if_pos rfl] at hpl;have:=hpl.1;omega)]
           ·rw[if_neg n4];have hbt:b=true:=by
             cases b with
             |true=>rfl
             |false=>rw[if_neg (by simp)] at hpl;omega
            subst hbt;rw[if_pos rfl] at hpl;obtain⟨_,e,he,hex⟩:=hpl;obtain⟨n,rfl⟩:=lP (show 0≤w by omega)
            rw[aq] at he;have hD:DueAt c.agenda d h.number FT.1↔e=⟨FT.1,h.number,d.hnd⟩:=by
             constructor
             ·intro y;have hl:=y.2.1.2.2;rw[hix,aq,hu] at hl;have:=y.2.2 ix n e hix hwh he;obtain⟨e1,e2,e3⟩:=e;simp only at this hex;rw[this.1,this.2,hex];obtain⟨d1,d2,d3⟩:=d;simp only at hix hl;simp only[aK] at hl;rw[hix,hl]
             ·intro y;subst y;simp only at hex;refine⟨n1,⟨by omega,by rw[hix,aq];exact hb,by rw[hix,aq,hu,hex]⟩,fun i' n' e' y1 y2 y3=>?_⟩;rw[hix] at y1;have:ix=i':=by omega
              subst this;rw[hwh] at y2;have:(n:Int)=n':=by simpa using y2
              have:n=n':=by omega
              subst this;rw[he] at y3;cases y3;exact⟨rfl,rfl⟩
            have pR:RF.ev (.part 0 2) [R FT.1]=some (R FT.1):=rfl;have pH2:RF.ev (.part 0 2) [HD d.hnd]=some (HD d.hnd):=rfl;simp only[den_lt,cCL8,tixM he (lenE _),eltM he,rowE,pR,pH2,cHP0,WS,P2,EV,ai,decide_eq_false_iff_not];by_cases n5:e=⟨FT.1,h.number,d.hnd⟩
            ·rw[if_neg (by simp[n5]),if_pos (hD.2 n5)];simp only[den_lt,aD,aa,WQ,Si,cHP0,cHP1,cHP2,cellR0,cellR1,EV,xd,up1 (show i<1000000000 by have:=get_lt hh;omega)]
            ·rw[if_pos n5,if_neg (fun y=>n5 (hD.1 y))]
        ·rw[if_pos n1,if_neg (fun y=>n1 y.1)]
     ·rw[if_neg (fun y=>hkn (hk.1 y))] at hw;rw[if_neg hkn];simp only[den_lt,cCL4,cCL10,pCL0,pCL2,pCL5,tixM hh (lenH _),eltM hh,rowH,pHP,cHP0,shapeR,hw,EV,aa,decide_eq_true_eq,if_lt (get_lt hh),ai,decide_eq_false_iff_not];rw[if_pos (fun y=>hkn (hk.1 y))]
    ·unfold rP;simp only[EV,aa,decide_eq_true_eq,if_ge,Gg,gt_iff_lt];cases left with
     |nil=>rw[if_neg (by simp),if_pos rfl]
     |cons d rest=>rw[if_pos (by simp),if_neg (by simp)]
    ·cases hm:foldO (dueStep c) c.due c.certs.list with
     |none=>exact no (fun h=>by rw[h.2.2.2.2.2.2] at hm;cases hm)
     |some left=>
      cases left with
      |nil=>rw[decide_eq_true (show ClkOk c from⟨h1,h2',h3,h5,h6,h7,hm⟩)];rfl
      |cons d rest=>exact no (fun h=>by rw[h.2.2.2.2.2.2] at hm;cases hm)
   ·rw[if_pos (by omega)];exact no (fun h=>h7 h.2.2.2.2.2.1)
  ·rw[if_pos (by omega)];exact no (fun h=>h6 h.2.2.2.2.1)
 ·simp only[bL,List.all_nil,eL,au,decide_eq_true_eq,Fg];split
  ·rfl
  ·rename_i hn;exact no (fun h=>hn ⟨h.1,fD.2 h.2.1,h.2.2.1,h.2.2.2.1⟩)
open Classical in
theorem Bj {c:Clock}(h64:c6 c)(hg:gCl c=false):Ans D 153 [CL c] [.i64 (okE (decide (ClkOk c)))]:=pP h64 (gCl_w hg)
theorem IT {l:List Int}(v:Int)(hl:l.length≤1000):Ans D 151 [sl I1 l,.i64 v] [.i64 (jP (fun y=>decide (v=y)) l)]:=by
 refine ans_of LT TU rfl ⟨1001,?_⟩;unfold B9;simp only[EV,aa];refine(eY (m:=1001) (l:=l) (p:=fun y=>decide (v=y)) (st:=fun i=>[.i64 (i:Int)]) (ret:=fun i=>some [.i64 (i:Int)]) (fin:=some [.i64 (-1)]) (fun i a self ha=>?_) (fun self=>?_) (by omega)).trans uX
 ·unfold xb;simp only[tixM ha (lenI _),eltM ha,rowI,EV,decide_eq_true_eq,if_lt (get_lt ha),up1 (show i<1000000000 by have:=get_lt ha;omega)]
 ·unfold xb;simp only[EV,decide_eq_true_eq,if_ge,Gf]
theorem WT {l:List Int}(v:Int)(hl:l.length≤1000):Ans D 154 [sl I1 l,.i64 v] [.bool (decide (v∈l))]:=by
 refine ans_of LW TX rfl ⟨1,?_⟩;unfold Cc;simp only[EV,phi (IT v hl),ge_iff_le,qx,tq]
theorem WU {l:List Crt}(v:Crt)(hl:l.length≤1000):Ans D 247 [sl crow l,CP v] [.i64 (jP (fun y=>decide (v=y)) l)]:=by
 refine ans_of MK UM rfl ⟨1001,?_⟩;unfold C8;simp only[den_lt,shCP,EV,aa];refine(eY (m:=1001) (l:=l) (p:=fun y=>decide (v=y)) (st:=fun i=>[.i64 (i:Int)]) (ret:=fun i=>some [.i64 (i:Int)]) (fin:=some [.i64 (-1)]) (fun i a self ha=>?_) (fun self=>?_) (by omega)).trans uX
 ·unfold xU;simp only[tixM ha (lenC _),eltM ha,rowC,eqvC,EV,decide_eq_true_eq,if_lt (get_lt ha),up1 (show i<1000000000 by have:=get_lt ha;omega)]
 ·unfold xU;simp only[EV,decide_eq_true_eq,if_ge,G4]
theorem c155 {l:List Crt}(v:Crt)(hl:l.length≤1000):Ans D 155 [sl crow l,CP v] [.bool (decide (v∈l))]:=by
 refine ans_of LX TY rfl ⟨1,?_⟩;unfold Cd;simp only[den_lt,shCP,EV,phi (WU v hl),ge_iff_le,qx,tq]
def JustP (c:Clock)(edges:List Crt):Prop:=edges.length=c.certs.list.length∧ ∀h∈c.certs.list,h.cert∈edges
theorem IU {l k:List Int}(hl:l.length≤1000):Ans D 163 [sl I1 l,sl I1 k] [.bool (decide (l=k))]:=by
 refine ans_of LZ T2 rfl ⟨1001,?_⟩;unfold Cf;simp only[EV,aa,ai,decide_eq_false_iff_not];by_cases h:l.length=k.length
 ·rw[if_neg (by omega)];refine ju h (run_list (l:=l.zip k) (st:=fun i=>[.i64 (i:Int)]) (fun i x self hx _=>?_) (fun _ self=>?_) (by rw[cx h];omega))
  ·obtain⟨hp,hq⟩:=dK hx;unfold xg;simp only[tixM hp (lenI _),eltM hp,tixM hq (lenI _),eltM hq,rowI,EV,decide_eq_true_eq,ai,decide_eq_false_iff_not,if_lt (get_lt hp),up1 (show i<1000000000 by have:=get_lt hp;omega)]
   by_cases e:x.1=x.2<;>simp[e]
  ·rw[cx h];unfold xg;simp only[EV,decide_eq_true_eq,if_ge,Gk]
 ·rw[if_pos (by omega),decide_eq_false (fun e=>h (by rw[e]))]
theorem WV {l k:List Nod}(hl:l.length≤1000):Ans D 165 [sl nrow l,sl nrow k] [.bool (decide (l=k))]:=by
 refine ans_of L0 T3 rfl ⟨1001,?_⟩;unfold Cg;simp only[EV,aa,ai,decide_eq_false_iff_not];by_cases h:l.length=k.length
 ·rw[if_neg (by omega)];refine ju h (run_list (l:=l.zip k) (st:=fun i=>[.i64 (i:Int)]) (fun i x self hx _=>?_) (fun _ self=>?_) (by rw[cx h];omega))
  ·obtain⟨hp,hq⟩:=dK hx;unfold xh;simp only[tixM hp (lenN _),eltM hp,tixM hq (lenN _),eltM hq,rowN,P0,EV,decide_eq_true_eq,ai,decide_eq_false_iff_not,if_lt (get_lt hp),up1 (show i<1000000000 by have:=get_lt hp;omega)]
   by_cases e:x.1=x.2<;>simp[e]
  ·rw[cx h];unfold xh;simp only[EV,decide_eq_true_eq,if_ge,Gl]
 ·rw[if_pos (by omega),decide_eq_false (fun e=>h (by rw[e]))]
def nthI (l:List Int)(i:Nat):Int:=(l[i]?).getD 0
theorem dF {l:List Int}{i:Nat}(h:i<l.length):l[i]?=some (nthI l i):=by
 unfold nthI;rw[ac h];rfl
def edgesTo (l:List Int)(n:Nat):List Crt:=(List.range n).map fun i=>⟨nthI l (i+1),nthI l (i/2)⟩
theorem gS (l:List Int)(n:Nat):(edgesTo l n).length=n:=by simp[edgesTo]
theorem vT (l:List Int)(n:Nat):edgesTo l (n+1)=edgesTo l n++[⟨nthI l (n+1),nthI l (n/2)⟩]:=by
 unfold edgesTo;rw[lN,dg];rfl
def edgesH (l:List Int):List Crt:=edgesTo l (l.length-1)
theorem aggC (a b:Int):RF.ev .agg [.i64 a,.i64 b]=some (CP ⟨a,b⟩):=rfl
theorem bsC (c:Crt):RF.ev (.bs 1 [KP.z,KP.z] [0]) [CP c]=some (sl crow [c]):=rfl
theorem subC1 (c:Crt):RF.ev .sub [sl crow [c],.v (.int .i64 0),.v (.int .i64 1)]=some (sl crow [c]):=rfl
theorem P7 {l:List Int}(hl:l.length≤1000): ∃N,den (PhiS D) N k141 [] [sl I1 l]=some [sl crow (edgesH l)]:=by
 refine⟨1001,?_⟩;unfold k141;simp only[EV];refine dQ (m:=1001) (n:=l.length-1) (st:=fun i=>[sl crow (edgesTo l i),.i64 ((edgesTo l i).length:Int),.i64 ((i+1:Nat):Int)]) (fun i self hi=>?_) (fun self=>?_) (by omega)
 ·have h1:=dF (l:=l) (i:=i+1) (by omega);have h2:=dF (l:=l) (i:=i/2) (by omega);unfold wY;simp only[tixM h1 (lenI _),eltM h1,rowI,tixM h2 (lenI _),eltM h2,aggC,bsC,subC1,half (show i<1000000 by omega),f_bin,EV,aa,decide_eq_true_eq,if_lt (show i+1<l.length by omega),
   dc (f:=crow) (l:=edgesTo l i) (k:=[⟨nthI l (i+1),nthI l (i/2)⟩]) (bytes:=16) (z:=2) (by rw[gS];simp;omega) lenC,up1 (show i+1<1000000000 by omega),←vT]
 ·unfold wY;simp only[EV,aa,decide_eq_true_eq];rw[if_neg (by omega)];unfold Gb;simp only[subM,EV];rfl
theorem P8 {l:List Int}(hl:l.length≤1000):Ans D 141 [sl I1 l] [sl crow (edgesH l)]:=ans_of LR TS rfl (P7 hl)
theorem P9 {l:List Int}(hl:l.length≤1000):Ans D 170 [sl I1 l] [sl crow (edgesH l)]:=ans_of L4 T7 rfl (P7 hl)
def JustR (c:Clock)(edges:List Crt):Prop:=c.certs.list.length=edges.length∧ ∀e∈edges,(∃h∈c.certs.list,h.cert=e)∧leads c.now (ptOf c.pts e.high) (ptOf c.pts e.low)=true
open Classical in
theorem c169 {c:Clock}{edges:List Crt}(hF:okF c.pts)(h64:In64 c.now)(hl:edges.length≤1000)(hc:c.certs.list.length≤1000)(hin: ∀e∈edges,inF c.pts e.low=true∧inF c.pts e.high=true):Ans D 169 [CL c,sl crow edges] [.bool (decide (JustR c edges))]:=by
 refine ans_of L3 T6 rfl ⟨1001,?_⟩;unfold Cj;simp only[den_lt,shCL,cCL4,EV,aa,ai,decide_eq_false_iff_not];by_cases h1:c.certs.list.length=edges.length
 ·rw[if_neg (by omega)];refine(run_list (m:=1001) (l:=edges) (p:=fun e=>(c.certs.list.any fun h=>decide (h.cert=e))&& leads c.now (ptOf c.pts e.high) (ptOf c.pts e.low)) (st:=fun i=>[.i64 (i:Int)]) (r:=some [.bool false]) (fin:=some [.bool true]) (fun i e self he _=>?_) (fun _ self=>?_) (by omega)).trans ?_
  ·obtain⟨a1,a2⟩:=hin e (ah he);unfold xl;simp only[den_lt,pCL0,pCL2,pCL3,tixM he (lenC _),eltM he,rowC,phi (Bc (c:=c.certs) (x:=e) hc),phi (WJ (x:=e) hF h64 a1 a2),EV,aa,decide_eq_true_eq,if_lt (get_lt he),up1 (show i<1000000000 by have:=get_lt he;omega)]
   cases(c.certs.list.any fun h=>decide (h.cert=e))<;>cases leads c.now (ptOf c.pts e.high) (ptOf c.pts e.low)<;>rfl
  ·unfold xl;simp only[EV,aa,decide_eq_true_eq,if_ge,Gp]
  ·have:(edges.all fun e=>(c.certs.list.any fun h=>decide (h.cert=e))&& leads c.now (ptOf c.pts e.high) (ptOf c.pts e.low))=decide (JustR c edges):=by
    rw[cj,decide_eq_true_eq];unfold JustR;simp[h1]
   rw[this];cases decide (JustR c edges)<;>rfl
 ·rw[if_pos (by omega),decide_eq_false (fun h=>h1 h.1)]
theorem Ae {c:Certs}(h:bW c):(c.list.map (·.cert)).Nodup:=by
 rw[nodup_lt];intro i j x hj hi e;rw[aI,bf] at hi e;obtain⟨a,ha,rfl⟩:=hi;obtain⟨b,hb,e⟩:=e;exact(h.2.2.2 i a ha).2.2.2.2 j hj b hb e
theorem vU {c:Clock}{edges:List Crt}(hc:bW c.certs)(hn:edges.Nodup)(Q:Crt→Prop):
  (edges.length=c.certs.list.length∧ ∀h∈c.certs.list,h.cert∈edges∧Q h.cert)↔(c.certs.list.length=edges.length∧ ∀e∈edges,(∃h∈c.certs.list,h.cert=e)∧Q e):=by
 have key:=fun h:(c.certs.list.map (·.cert)).length=edges.length=>J3 (Ae hc) hn h Q;constructor
 ·rintro⟨h1,h2⟩;refine⟨h1.symm,fun e he=>?_⟩;obtain⟨a,b⟩:=(key (by rw[aa];omega)).1 (fun x hx=>by
   obtain⟨h,hh,rfl⟩:=aN.1 hx;exact h2 h hh) e he
  obtain⟨h,hh,e'⟩:=aN.1 a;exact⟨⟨h,hh,e'⟩,b⟩
 ·rintro⟨h1,h2⟩;refine⟨h1.symm,fun h hh=>?_⟩;exact(key (by rw[aa];omega)).2 (fun x hx=>by
   obtain⟨⟨g,hg,e⟩,b⟩:=h2 x hx;exact⟨aN.2 ⟨g,hg,e⟩,b⟩) h.cert (aN.2 ⟨h,hh,rfl⟩)
theorem li {c:Clock}{edges:List Crt}(hc:bW c.certs)(hn:edges.Nodup)(hQ: ∀e∈edges,leads c.now (ptOf c.pts e.high) (ptOf c.pts e.low)=true):JustP c edges↔JustR c edges:=by
 unfold JustP JustR;rw[←vU hc hn];exact⟨fun h=>⟨h.1,fun x hx=>⟨h.2 x hx,hQ _ (h.2 x hx)⟩⟩,fun h=>⟨h.1,fun x hx=>(h.2 x hx).1⟩⟩
theorem nth_mem {l:List Int}{i:Nat}(h:i<l.length):nthI l i∈l:=ah (dF h)
theorem oF {l:List Int}{e:Crt}(h:e∈edgesH l):e.low∈l∧e.high∈l:=by
 unfold edgesH edgesTo at h;obtain⟨i,hi,rfl⟩:=aN.1 h;rw[bT] at hi;exact⟨nth_mem (by omega),nth_mem (by omega)⟩
theorem qg {l:List Int}(h:l.Nodup):(edgesH l).Nodup:=by
 rw[nodup_get];intro i j x hi hj;unfold edgesH edgesTo at hi hj;rw[aI,bf] at hi hj;obtain⟨a,ha,rfl⟩:=hi;obtain⟨b,hb,e⟩:=hj;have ha':=get_lt ha;have hb':=get_lt hb;rw[gQ] at ha' hb';rw[dI ha'] at ha;rw[dI hb'] at hb;cases ha;cases hb;simp only[Crt.mk.injEq] at e;have:=nodup_get.1 h (i+1) (j+1) (nthI l (i+1)) (dF (by omega)) (by rw[←e.1];exact dF (by omega));omega
def eP (k:KHeap):Prop:=ClkOk k.clock∧k.heap.length=k.clock.pts.length∧(∀x∈k.heap,inF k.clock.pts x=true)∧k.heap.Nodup∧JustR k.clock (edgesH k.heap)
theorem in_ids {l:List Pt}{x:Int}:inF l x=true↔x∈l.map Pt.id:=by
 constructor
 ·intro h;unfold inF at h;have h:=of_decide_eq_true h;rcases pos_cases l x with⟨e,_⟩|⟨i,p,h1,h2,h3⟩
  ·omega
  ·exact aN.2 ⟨p,ah h1,h2⟩
 ·intro h;obtain⟨p,hp,rfl⟩:=aN.1 h;cases e:inF l p.id with
  |true=>rfl
  |false=>exact absurd rfl (At e p hp)
theorem mf {k:KHeap}(h:gKh k=false):gCl k.clock=false∧k.heap.length≤70:=by
 unfold gKh at h;simp only[aY,decide_eq_false_iff_not] at h;exact⟨h.1,by omega⟩
theorem dS {c:Clock}(h:gCl c=false):c.certs.list.length≤40:=by
 unfold gCl at h;simp only[aY,decide_eq_false_iff_not] at h;omega
open Classical in
theorem c81 {k:KHeap}(h64:c6 k.clock)(hg:gKh k=false):Ans D 81 [KH k] [.i64 (okE (decide (eP k)))]:=by
 obtain⟨g1,g2⟩:=mf hg;have no: ∀h:¬eP k,(some [PV.v (.int .i64 8)]:Option (List PV))=some [.i64 (okE (decide (eP k)))]:=fun h=>by rw[decide_eq_false h];rfl
 have cKH2:RF.ev (.cell 2) [KH k]=some (sl row k.clock.pts):=rfl;have pKH2:RF.ev (.part 2 1) [KH k]=some (F k.clock.pts):=rfl;refine ans_of PD s81 rfl ⟨1001,?_⟩;unfold k81;simp only[den_lt,shKH,pKH,cKH,cKH2,EV,aa,phi (Bf h64 g1),eK,ai,decide_eq_false_iff_not,decide_eq_true_eq];by_cases h1:ClkOk k.clock
 ·rw[if_pos h1];by_cases h2:k.heap.length=k.clock.pts.length
  ·rw[if_neg (by omega)];have hF:=h1.2.1;refine(run_if (m:=1001) (n:=k.heap.length) (P:=fun i=> ∀x,k.heap[i]?=some x→inF k.clock.pts x=true∧ ∀j,j<i→ ∀y,k.heap[j]?=some y→y≠x) (st:=fun i=>[.i64 (i:Int)]) (r:=some [.i64 8]) (fin:=some [.i64 (okE (decide (eP k)))]) (fun i self hi _=>?_) (fun hall self=>?_) (by omega)).trans ?_
   ·have hx:=dF hi;generalize nthI k.heap i=x at hx;have hP:(∀x',k.heap[i]?=some x'→inF k.clock.pts x'=true∧ ∀j,j<i→ ∀y,k.heap[j]?=some y→y≠x')↔(inF k.clock.pts x=true∧ ∀j,j<i→ ∀y,k.heap[j]?=some y→y≠x):=
     ⟨fun h=>h x hx,fun h x' e=>by rw[hx] at e;cases e;exact h⟩
    unfold BN;simp only[hP,den_lt,cKH,pKH2,tixM hx (lenI _),eltM hx,rowI,phi (lO (l:=k.clock.pts) (by have:=hF.1;omega) x),EV,aa,decide_eq_true_eq,if_lt hi];by_cases c1:pos k.clock.pts x<0
    ·rw[if_pos c1,if_neg (fun y=>by have:=of_decide_eq_true y.1;omega)]
    ·rw[if_neg c1];have c1':inF k.clock.pts x=true:=decide_eq_true (by omega);refine(run_if (m:=1001) (n:=i) (P:=fun j=> ∀y,k.heap[j]?=some y→y≠x) (st:=fun i=>[.i64 (i:Int)]) (r:=some [.i64 8]) (fin:=self [.i64 ((i+1:Nat):Int)]) (fun j self' hj _=>?_) (fun _ self'=>?_) (by omega)).trans ?_
     ·have hy:=dF (l:=k.heap) (i:=j) (by omega);generalize nthI k.heap j=y at hy;have hQ:(∀y',k.heap[j]?=some y'→y'≠x)↔y≠x:=⟨fun h=>h y hy,fun h y' e=>by rw[hy] at e;cases e;exact h⟩;unfold k81_3;simp only[hQ,den_lt,cKH,tixM hx (lenI _),eltM hx,tixM hy (lenI _),eltM hy,rowI,EV,decide_eq_true_eq,if_lt hj,up1 (show j<1000000000 by omega)]
      by_cases c4:y=x
      ·rw[if_pos c4,if_neg (by simp[c4])]
      ·rw[if_neg c4,if_pos c4]
     ·unfold k81_3;simp only[EV,decide_eq_true_eq,if_ge,K9,up1 (show i<1000000000 by omega)]
     ·by_cases hq: ∀j,j<i→ ∀y,k.heap[j]?=some y→y≠x
      ·rw[if_pos hq,if_pos ⟨c1',hq⟩]
      ·rw[if_neg hq,if_neg (fun y=>hq y.2)]
   ·have hin: ∀x∈k.heap,inF k.clock.pts x=true:=fun x hx=>by
     obtain⟨i,hi⟩:=aA.1 hx;exact(hall i (get_lt hi) x hi).1
    have hnd:k.heap.Nodup:=nodup_lt.2 fun i j x hj hi e=>(hall i (get_lt hi) x hi).2 j hj x e rfl;unfold BN;simp only[den_lt,cKH,EV,aa,decide_eq_true_eq,if_ge,K8,pKH,subM,phi (P9 (l:=k.heap) (by omega)),phi (c169 (c:=k.clock) (edges:=edgesH k.heap) hF h64.1 (by unfold edgesH;rw[gS];omega) (by have:=dS g1;omega) (fun e he=>⟨hin _ (oF he).1,hin _ (oF he).2⟩)),ai,decide_eq_false_iff_not];by_cases hj:JustR k.clock (edgesH k.heap)
    ·rw[if_neg (by simp[hj]),decide_eq_true (show eP k from⟨h1,h2,hin,hnd,hj⟩)];rfl
    ·rw[if_pos hj];exact no (fun h=>hj h.2.2.2.2)
   ·by_cases hq: ∀i,i<k.heap.length→ ∀x,k.heap[i]?=some x→inF k.clock.pts x=true∧ ∀j,j<i→ ∀y,k.heap[j]?=some y→y≠x
    ·rw[if_pos hq]
    ·rw[if_neg hq];refine no (fun h=>hq fun i hi x hx=>⟨h.2.2.1 x (ah hx),fun j hj y hy e=>?_⟩);subst e;exact nodup_lt.1 h.2.2.2.1 i j y hj hx hy
  ·rw[if_pos (by omega)];exact no (fun h=>h2 h.2.1)
 ·rw[if_neg h1];exact no (fun h=>h1 h.1)
theorem vV {l:List Pt}{h:List Int}(hs:eN l)(hl:h.length=l.length):(∀p∈l,p.id∈h)↔((∀x∈h,inF l x=true)∧h.Nodup):=by
 constructor
 ·intro a;have hp:=sub_perm (l:=l.map Pt.id) (k:=h) (risen_ids hs) (fun x hx=>by obtain⟨p,hp,rfl⟩:=aN.1 hx;exact a p hp) (by rw[aa];omega);exact⟨fun x hx=>in_ids.2 (hp.mem_iff.2 hx),hp.nodup_iff.1 (risen_ids hs)⟩
 ·rintro⟨a,b⟩ p hp;have hp':=sub_perm (l:=h) (k:=l.map Pt.id) b (fun x hx=>in_ids.1 (a x hx)) (by rw[aa];omega);exact hp'.mem_iff.2 (aN.2 ⟨p,hp,rfl⟩)
open Classical in
theorem c77 {k:KHeap}(h64:c6 k.clock)(hg:gKh k=false):Ans D 77 [KH k] [.i64 (okE (decide (eP k)))]:=by
 obtain⟨g1,g2⟩:=mf hg;have no: ∀h:¬eP k,(some [PV.v (.int .i64 8)]:Option (List PV))=some [.i64 (okE (decide (eP k)))]:=fun h=>by rw[decide_eq_false h];rfl
 have cKH2:RF.ev (.cell 2) [KH k]=some (sl row k.clock.pts):=rfl;have cKH4:RF.ev (.cell 4) [KH k]=some (sl hrow k.clock.certs.list):=rfl;have pKH2:RF.ev (.part 2 1) [KH k]=some (F k.clock.pts):=rfl;have pKH0:RF.ev (.part 0 2) [KH k]=some (R k.clock.now):=rfl;have el:(edgesH k.heap).length=k.heap.length-1:=by unfold edgesH;rw[gS]
 refine ans_of Pz s77 rfl ⟨1001,?_⟩;unfold k77;simp only[den_lt,shKH,pKH,cKH,cKH2,EV,aa,phi (Bj h64 g1),eK,ai,decide_eq_false_iff_not,decide_eq_true_eq];by_cases h1:ClkOk k.clock
 ·rw[if_pos h1];by_cases h2:k.heap.length=k.clock.pts.length
  ·rw[if_neg (by omega)];have hF:=h1.2.1;refine(run_list (m:=1001) (l:=k.clock.pts) (p:=fun p=>decide (p.id∈k.heap)) (st:=fun i=>[.i64 (i:Int)]) (r:=some [.i64 8]) (fin:=some [.i64 (okE (decide (eP k)))]) (fun i p self hp _=>?_) (fun hall self=>?_) (by omega)).trans ?_
   ·unfold BJ;simp only[den_lt,cKH,cKH2,cellP0,tixM hp (row_len _),eltM hp,rowP,phi (WT (l:=k.heap) p.id (by omega)),EV,decide_eq_true_eq,if_lt (get_lt hp),up1 (show i<1000000000 by have:=get_lt hp;omega)]
    by_cases c1:p.id∈k.heap<;>simp[c1]
   ·have hall: ∀p∈k.clock.pts,p.id∈k.heap:=fun p hp=>of_decide_eq_true (aG.1 hall p hp);obtain⟨hin,hnd⟩:=(vV hF.2.2 h2).1 hall;unfold BJ;simp only[den_lt,cKH,cKH4,EV,aa,decide_eq_true_eq,if_ge,K3,phi (P8 (l:=k.heap) (by omega)),ai,decide_eq_false_iff_not];by_cases h3:(edgesH k.heap).length=k.clock.certs.list.length
    ·rw[if_neg (by omega)];have hJ:=vU (c:=k.clock) h1.2.2.1 (qg hnd) (fun e=>leads k.clock.now (ptOf k.clock.pts e.high) (ptOf k.clock.pts e.low)=true);refine(run_list (m:=1001) (l:=k.clock.certs.list) (p:=fun h=>decide (h.cert∈edgesH k.heap)&& leads k.clock.now (ptOf k.clock.pts h.cert.high) (ptOf k.clock.pts h.cert.low)) (st:=fun i=>[.i64 (i:Int)]) (r:=some [.i64 8]) (fin:=some [.i64 0]) (fun i h self hh _=>?_) (fun _ self=>?_) (by have:=dS g1;omega)).trans ?_
     ·unfold BI;simp only[den_lt,cKH4,pKH0,pKH2,cHP1,cHP2,pHP,tixM hh (lenH _),eltM hh,rowH,phi (c155 (l:=edgesH k.heap) h.cert (by omega)),EV,decide_eq_true_eq,if_lt (get_lt hh),up1 (show i<1000000000 by have:=get_lt hh;have:=dS g1;omega)]
      by_cases c1:h.cert∈edgesH k.heap
      ·obtain⟨m1,m2⟩:=oF c1;obtain⟨i1,p,a1,a2,a3,a4⟩:=cH hF (hin _ m1);obtain⟨j1,q,b1,b2,b3,b4⟩:=cH hF (hin _ m2);have hne:q.id≠p.id:=by rw[a2,b2];exact fun e=>(h1.2.2.1.2.2.2 i h hh).1.2.2.2.2 e.symm
       have hA:=phi (Wq hF h64.1 h1.1 b1 a1 hne);rw[a2,b2] at hA;simp only[c1,decide_true,ak,ad,if_false,cR,den_lt,cHP1,cHP2,pKH0,pKH2,hA,a4,b4,EV,up1 (show i<1000000000 by have:=get_lt hh;have:=dS g1;omega)]
       cases leads k.clock.now q p<;>simp
      ·simp[c1]
     ·unfold BI;simp only[EV,decide_eq_true_eq,if_ge,KZ]
     ·have:(k.clock.certs.list.all fun h=>decide (h.cert∈edgesH k.heap)&& leads k.clock.now (ptOf k.clock.pts h.cert.high) (ptOf k.clock.pts h.cert.low))=true↔eP k:=by
       rw[aG];simp only[au,decide_eq_true_eq];constructor
       ·intro h;exact⟨h1,h2,hin,hnd,hJ.1 ⟨h3,h⟩⟩
       ·intro h;exact(hJ.2 h.2.2.2.2).2
      by_cases hr:eP k
      ·rw[if_pos (this.2 hr),decide_eq_true hr];rfl
      ·rw[if_neg (fun h=>hr (this.1 h)),decide_eq_false hr];rfl
    ·rw[if_pos (by omega)];exact no (fun h=>h3 h.2.2.2.2.1.symm)
   ·by_cases hq:(k.clock.pts.all fun p=>decide (p.id∈k.heap))=true
    ·rw[if_pos hq]
    ·rw[if_neg hq];refine no (fun h=>hq (aG.2 fun p hp=>decide_eq_true ((vV hF.2.2 h2).2 ⟨h.2.2.1,h.2.2.2.1⟩ p hp)))
  ·rw[if_pos (by omega)];exact no (fun h=>h2 h.2.1)
 ·rw[if_neg h1];exact no (fun h=>h1 h.1)
theorem rj {α:Type}(p:α→Bool): ∀(l:List α) (n:Nat),l.foldl (fun n q=>if p q=true then n+1 else n) n=n+(l.filter p).length
 |[],n=>rfl
 |a::l,n=>by
  rw[bI,rj p l,bE];cases p a
  ·rfl
  ·simp only[if_true,aD];omega
theorem WW {l:List Pt}{t:Rt}(h:okF l)(ht:In64 t){i:Nat}{p:Pt}(hp:l[i]?=some p):Ans D 243 [F l,PP p,R t] [.i64 (rank t l p:Nat)]:=by
 have hl:=h.1;refine ans_of MG UI rfl ⟨1001,?_⟩;unfold C4;simp only[den_lt,shapeF,shapeP,shapeR,EV];have e0:([PV.v (.int .i64 0),.v (.int .i64 0)]:List PV)=[.i64 ((0:Nat):Int),.i64 ((0:Nat):Int)]:=rfl;rw[e0];refine(er (m:=1001) (l:=l) (g:=fun n q=>if(decide (q.id≠p.id)&& leads t q p)=true then n+1 else n) (I:=fun i n=>n≤i) (S:=fun n i=>[.i64 ((n:Nat):Int),.i64 (i:Int)]) (fin:=fun n=>some [.i64 ((n:Nat):Int)]) (x:=0) (am _) (fun i a acc _ h=>by split<;>omega) (fun i q acc self hq hI=>?_) (fun acc self _=>?_) (by omega)).1.trans ?_
 ·unfold xQ;have hi:=get_lt hq;simp only[den_lt,cellF,cellP0,tixM hq (row_len _),eltM hq,rowP,lh,EV,aa,decide_eq_true_eq,if_lt hi,ai,decide_eq_false_iff_not,G0,phi (c323 (okF_pt h hq) (okF_pt h hp) ht)];by_cases c1:q.id=p.id
  ·rw[if_neg (by simp[c1])];simp only[ad,if_false,EV,rW,up1 (show i<1000000000 by omega)]
   simp[c1]
  ·rw[if_pos c1];cases leads t q p with
   |true=>simp only[if_true,EV,rW,up1 (show i<1000000000 by omega),up1 (show acc<1000000000 by omega)];simp[c1]
   |false=>simp only[ad,if_false,EV,rW,up1 (show i<1000000000 by omega)];simp
 ·unfold xQ;simp only[den_lt,cellF,EV,aa,decide_eq_true_eq,if_ge,GZ]
 ·rw[rj (fun q=>decide (q.id≠p.id)&& leads t q p),be];rfl
theorem oI (t:Rt)(l:List Pt): ∀(ps:List Pt) (out:List Int),Bnd.ordered t l ps out=ps.foldl (fun out p=>out.set (rank t l p) p.id) out
 |[],out=>rfl
 |p::ps,out=>by unfold Bnd.ordered;rw[oI t l ps,bI]
theorem Au {t:Rt}{l:List Pt}{p:Pt}(h:p∈l):rank t l p<l.length:=by
 unfold rank;rw[List.length_filter_lt_length_iff_exists];exact⟨p,h,by simp⟩
theorem vW {n:Nat}(h:n≤1000):RF.ev (.rep [KP.z] 8) [.v (.int .i64 (n:Int)),.v (.int .i64 (n:Int))]=some (sl I1 (List.replicate n 0)):=by
 rw[Ls,if_pos ⟨by omega,by omega,by omega,by omega⟩,aq];show _=some (PV.sl ((List.replicate n 0).map I1))
 rw[List.map_replicate];rfl
theorem setI {l:List Int}{i:Nat}(h:i<l.length)(x:Int):RF.ev (.set 0) [sl I1 l,.v (.int .i64 (i:Int)),.v (.int .i64 x)]=some (sl I1 (l.set i x)):=by
 rw[qb,if_pos (by omega),aq,aI,ac h];have e:(I1 l[i]).length=1:=rfl;simp only[aZ,e,show(PV.v (.int .i64 x)).cells=[.v (.int .i64 x)] from rfl,az,be,am,if_true]
 exact congrArg (fun x=>some (PV.sl x)) (gB (f:=I1) (l:=l) (i:=i) (a:=x)).symm
theorem WX {l:List Pt}{t:Rt}(h:okF l)(ht:In64 t):Ans D 152 [F l,R t] [sl I1 ((iW t l).map Pt.id)]:=by
 have hl:=h.1;refine ans_of LU TV rfl ⟨1001,?_⟩;unfold Ca;simp only[den_lt,shapeF,shapeR,cellF,vW (show l.length≤1000 by omega),EV,aa,aQ]
 refine(er (m:=1001) (l:=l) (g:=fun out p=>out.set (rank t l p) p.id) (I:=fun _ out=>out.length=l.length) (S:=fun out i=>[sl I1 out,.i64 (i:Int)]) (fin:=fun out=>some [sl I1 out]) (x:=List.replicate l.length 0) (by simp) (fun i a acc _ h=>by simpa using h) (fun i p acc self hp hI=>?_) (fun acc self hI=>?_) (by omega)).1.trans ?_
 ·unfold xc;simp only[den_lt,cellF,tixM hp (row_len _),eltM hp,rowP,lh,EV,aa,decide_eq_true_eq,if_lt (get_lt hp),phi (WW h ht hp),ixM (Au (ah hp)),setI (show rank t l p<acc.length by rw[hI];exact Au (ah hp)),up1 (show i<1000000000 by have:=get_lt hp;omega)]
 ·unfold xc;have:=subM (f:=I1) (l:=acc);rw[hI] at this;simp only[den_lt,cellF,EV,aa,decide_eq_true_eq,if_ge,k152_1,this]
 ·rw[←oI,E6 (risen_ids h.2.2) (by simp)]
def gO (x:Int×Int):List PV:=[.i64 x.1,.i64 x.2]
theorem lenP (x:Int×Int):(gO x).length=2:=rfl
theorem rowP1 (x:Int×Int):rowPart 0 0 (gO x)=some (.i64 x.1):=rfl
theorem rowP2 (x:Int×Int):rowPart 1 0 (gO x)=some (.i64 x.2):=rfl
theorem uj (l:List Int)(d:Nat):(sideI l d 0).length+(sideI l d 1).length≤l.length:=by
 unfold sideI;induction l with
 |nil=>simp
 |cons x l ih=>
  rw[bE,bE,aD];by_cases h0:bitI x d=0
  ·simp only[h0,decide_true,if_true,aD,Int.reduceEq,decide_false,ad,if_false];omega
  ·by_cases h1:bitI x d=1
   ·simp only[h1,decide_true,if_true,aD,Int.reduceEq,decide_false,ad,if_false];omega
   ·simp only[h0,h1,decide_false,ad,if_false];omega
theorem lj: ∀(n:Nat) (l:List Int) (f:Int) (d:Nat),l.length≤n→(hangR l f d).length≤l.length
 |0,l,f,d,h=>by
  have hl:l=[]:=bM.1 (by omega);subst hl;unfold hangR;simp
 |n+1,[],f,d,_=>by unfold hangR;simp
 |n+1,o::os,f,d,h=>by
  unfold hangR;simp only[aD,an] at h⊢;have h0:=n9 (l:=os) (d:=d) (b:=0);have h1:=n9 (l:=os) (d:=d) (b:=1);have a:=lj n (sideI os d 0) o (d+1) (by omega);have b:=lj n (sideI os d 1) o (d+1) (by omega);have:=uj os d;omega
theorem lR {α:Type}(p:α→Bool): ∀(l acc:List α),l.foldl (fun acc x=>if p x=true then acc++[x] else acc) acc=acc++l.filter p
 |[],acc=>by simp
 |a::l,acc=>by
  rw[bI,lR p l,bE];cases p a<;>simp
theorem bsI (x:Int):RF.ev (.bs 1 [KP.z] [0]) [.i64 x]=some (sl I1 [x]):=rfl
theorem subI1 (x:Int):RF.ev .sub [sl I1 [x],.v (.int .i64 0),.v (.int .i64 1)]=some (sl I1 [x]):=rfl
theorem Qa {x:Int}(h:0≤x)(d:Nat):intB .shr .i64 x .i64 (d:Int)=some (.v (.int .i64 (x.fdiv (2^(min d 64)))))∧intB .rem .i64 (x.fdiv (2^(min d 64))) .i64 2=some (.v (.int .i64 (bitI x d))):=by
 constructor
 ·rw[E3,if_neg (by omega),aq];rfl
 ·rw[vE,if_neg (by decide)];unfold bitI;have:0≤x.fdiv (2^(min d 64)):=by
   rw[dm _ (i6 (qu (by decide)))];exact Int.ediv_nonneg h (i6 (qu (by decide)))
  rw[jT this]
theorem WY: ∀(n:Nat) (os:List Int) (f:Int) (d:Nat),os.length≤n→n≤1000→d+n≤10000→(∀x∈os,0≤x)→Ans D 269 [sl I1 os,.i64 f,.i64 (d:Int)] [sl gO (hangR os f d)]:=by
 intro n;induction n with
 |zero=>
  intro os f d h _ _ _;have hl:os=[]:=bM.1 (by omega);subst hl;refine ans_of tf IC rfl ⟨1001,?_⟩;unfold tC hangR;simp only[EV,aa,bJ,cO,decide_true,if_true];rfl
 |succ n ih=>
  intro os f d h hn hd h0;cases os with
  |nil=>
   refine ans_of tf IC rfl ⟨1001,?_⟩;unfold tC hangR;simp only[EV,aa,bJ,cO,decide_true,if_true];rfl
  |cons o os=>
   simp only[aD] at h;have hlen:=uj os d;have hs: ∀b,(sideI os d b).length≤n∧ ∀x∈sideI os d b,0≤x:=fun b=>⟨by have:=n9 (l:=os) (d:=d) (b:=b);omega,fun x hx=>h0 x (aF _ (aX.1 hx).1)⟩;have hr:=fun b=>lj n (sideI os d b) o (d+1) (hs b).1;have hh:=fun b=>phi (ih (sideI os d b) o (d+1) (hs b).1 (by omega) (by omega) (hs b).2);have o0:(o::os)[0]?=some o:=rfl;have tx0:RF.ev (.tix 1) [sl I1 (o::os),.v (.int .i64 0)]=some (.i64 ((0:Nat):Int)):=tixM o0 (lenI _);have ag:RF.ev .agg [.i64 o,.i64 f]=some (.agg (gO (o,f))):=rfl;have bs:RF.ev (.bs 1 [KP.z,KP.z] [0]) [.agg (gO (o,f))]=some (sl gO [(o,f)]):=rfl
   let outs:Nat→List (Int×Int):=fun i=>match i with|0=>[(o,f)]|1=>[(o,f)]++hangR (sideI os d 0) o (d+1)|_=>[(o,f)]++hangR (sideI os d 0) o (d+1)++hangR (sideI os d 1) o (d+1)
   refine ans_of tf IC rfl ⟨1001,?_⟩;unfold tC;have ne:decide (((o::os).length:Int)=0)=false:=decide_eq_false (by simp;omega);simp only[tx0,eltM o0,rowI,ag,bs,EV,aa,ne,ad,if_false];refine(dQ (m:=1001) (n:=2) (st:=fun i=>[sl gO (outs i),.i64 ((outs i).length:Int),.i64 (i:Int)]) (fin:=some [sl gO (outs 2)]) (fun i self hi=>?_) (fun self=>?_) (by omega)).trans ?_
   ·unfold x8;have l2:decide ((i:Int)<2)=true:=decide_eq_true (by omega);simp only[EV,l2,eq_self,if_true];have e0:([PV.sl [],.v (.int .i64 0),.v (.int .i64 1)]:List PV)=[sl I1 ([]:List Int),.i64 ((([]:List Int).length:Nat):Int),.i64 ((0+1:Nat):Int)]:=rfl;rw[e0];refine(er (m:=1001) (l:=os) (g:=fun acc x=>if decide (bitI x d=(i:Int))=true then acc++[x] else acc) (I:=fun i acc=>acc.length≤i) (S:=fun acc k=>[sl I1 acc,.i64 (acc.length:Int),.i64 ((k+1:Nat):Int)]) (fin:=fun acc=>den (PhiS D) 1001 x6 [jR (PhiS D) 1001 x0 [] [sl I1 (o::os),.i64 f,.i64 (d:Int),.v (.int .i64 ((o::os).length:Int)),.v (.bool false),.i64 ((0:Nat):Int),.i64 o,.agg (gO (o,f)),sl gO [(o,f)]],self] [sl I1 (o::os),.i64 f,.i64 (d:Int),.v (.int .i64 ((o::os).length:Int)),.v (.bool false),.i64 ((0:Nat):Int),.i64 o,.agg (gO (o,f)),sl gO [(o,f)],sl gO (outs i),.i64 ((outs i).length:Int),.i64 (i:Int),.v (.bool true),.i64 ((os.length+1:Nat):Int),sl I1 acc,.i64 (acc.length:Int),.v (.int .i64 ((o::os).length:Int)),.v (.bool (decide (((os.length+1:Nat):Int)<((o::os).length:Int))))]) (x:=[]) (by simp) (fun i a acc _ h=>by
     split
     ·rw[an,az];omega
     ·omega) (fun k x acc self' hx hI=>?_) (fun acc self' hI=>?_) (by omega)).1.trans ?_
    ·have hx':(o::os)[k+1]?=some x:=by simpa using hx
     have hk:=get_lt hx;obtain⟨b1,b2⟩:=Qa (h0 x (aF _ (ah hx))) d;unfold x7;simp only[tixM hx' (lenI _),eltM hx',rowI,f_bin,b1,b2,EV,aa,decide_eq_true_eq,if_lt (show k+1<(o::os).length by simp;omega),rX]
     by_cases c1:bitI x d=(i:Int)
     ·rw[if_pos c1,if_pos c1];simp only[tixM hx' (lenI _),eltM hx',rowI,bsI,subI1,dc (f:=I1) (l:=acc) (k:=[x]) (bytes:=8) (z:=1) (by simp;omega) lenI,EV,aa,rX,up1 (show k+1<1000000000 by omega)]
     ·rw[if_neg c1,if_neg c1];simp only[EV,rX,up1 (show k+1<1000000000 by omega)]
    ·unfold x7;simp only[EV,aa,decide_eq_true_eq];rw[if_neg (by simp)]
    ·rw[lR (fun x=>decide (bitI x d=(i:Int))),ax];have hi2:=hh (i:Int);have he:(List.filter (fun x=>decide (bitI x d=(i:Int))) os)=sideI os d (i:Int):=rfl;rw[he];unfold x6;have ho:(outs i).length≤2000:=by
      have:=hr 0
      match i,hi with
      |0,_=>simp[outs]
      |1,_=>simp[outs];omega
     have hn1:outs i++hangR (sideI os d (i:Int)) o (d+1)=outs (i+1):=by
      match i,hi with
      |0,_=>rfl
      |1,_=>rfl
     have hd1:IntKind.i64.wrap ((d:Int)+1)=((d+1:Nat):Int):=up1 (by omega);simp only[tx0,eltM o0,rowI,subM,EV,hd1,hi2,dc (f:=gO) (l:=outs i) (k:=hangR (sideI os d (i:Int)) o (d+1)) (bytes:=16) (z:=2) (by have:=hr (i:Int);have:=(hs (i:Int)).1;omega) lenP,aa,hn1,up1 (show i<1000000000 by omega)]
   ·unfold x8;simp only[EV,show decide (((2:Nat):Int)<2)=false from rfl,ad,if_false,x0,subM]
   ·unfold hangR;simp only[outs,ay,ax]
theorem Bk {t:Rt}: ∀(n:Nat) (l:List Pt) (f:Int) (d:Nat),l.length≤n→Ids l→((hangP t l f d).map (·.1)).Nodup:=by
 intro n;induction n with
 |zero=>
  intro l f d h _;have:l=[]:=bM.1 (by omega);subst this;rw[hangP];simp
 |succ n ih=>
  intro l f d h hi;cases l with
  |nil=>rw[hangP];simp
  |cons p l=>
   simp only[aD] at h;have hmem: ∀(bt:Int) (x:Pt),x∈side (p::l) (topP t l p).id d bt→x∈p::l∧x.id≠(topP t l p).id∧bitI x.id d=bt:=fun bt x hx=>by
    unfold side at hx;obtain⟨h1,h2⟩:=aX.1 hx;simp only[au,decide_eq_true_eq] at h2;exact⟨h1,h2.1,h2.2⟩
   have hs: ∀bt:Int,(side (p::l) (topP t l p).id d bt).length≤n:=fun bt=>by
    have:=jo (t:=t) (p:=p) (l:=l) (d:=d) (b:=bt);omega
   have hid: ∀bt:Int,Ids (side (p::l) (topP t l p).id d bt):=fun bt=>hi.filter _;have fac:=fun bt:Int=>jx (t:=t) n (side (p::l) (topP t l p).id d bt) (topP t l p).id (d+1) (hs bt) (hid bt);rw[hangP,bz,dg,bA,cU];refine⟨fun hm=>?_,ih _ _ _ (hs 0) (hid 0),ih _ _ _ (hs 1) (hid 1),fun a ha b hb e=>?_⟩
   ·rcases bh.1 hm with hm|hm
    ·obtain⟨y,hy,e⟩:=aN.1 hm;obtain⟨z,hz,hz1,_⟩:=fac 0 y hy;exact(hmem 0 z hz).2.1 (by rw[hz1,e])
    ·obtain⟨y,hy,e⟩:=aN.1 hm;obtain⟨z,hz,hz1,_⟩:=fac 1 y hy;exact(hmem 1 z hz).2.1 (by rw[hz1,e])
   ·obtain⟨y,hy,e1⟩:=aN.1 ha;obtain⟨w,hw,e2⟩:=aN.1 hb;obtain⟨z,hz,hz1,_⟩:=fac 0 y hy;obtain⟨u,hu,hu1,_⟩:=fac 1 w hw;have:z=u:=hi.inj (hmem 0 z hz).1 (hmem 1 u hu).1 (by rw[hz1,hu1,e1,e2,e]);subst this;have:=(hmem 0 z hz).2.2;rw[(hmem 1 z hu).2.2] at this;cases this
theorem Av {k v:Int}: ∀{ps:List (Int×Int)},(∀x∈ps,x.1≠k)→luk ps k v=v
 |[],_=>rfl
 |x::ps,h=>by
  show luk ps k (if x.1=k then x.2 else v)=v
  rw[if_neg (h x (by simp))];exact Av fun y hy=>h y (by simp[hy])
def Hm (ps:List (Int×Int)):PV:= .sl (ps.map fun x=>[.i64 x.1,.i64 x.2])
theorem Kg {k v:Int}: ∀(ps:List (Int×Int)),(∀x∈ps,x.1≠k)→mapSet [.i] [.i64 k] [.i64 v] (ps.map fun x=>[.i64 x.1,.i64 x.2])=some ((ps++[(k,v)]).map fun x=>[.i64 x.1,.i64 x.2])
 |[],_=>by simp[mapSet,eqN]
 |a::l,h=>by
  simp only[bz,ay,mapSet];rw[show([PV.i64 a.1,.i64 a.2].take [Ck.i].length)=[.i64 a.1] from rfl,eqN,decide_eq_false (h a (by simp))]
  simp only;rw[Kg l (fun x hx=>h x (by simp[hx]))]
theorem WZ {ps:List (Int×Int)}{k v:Int}(h: ∀x∈ps,x.1≠k):RF.ev (.mset [.i] 1) [Hm ps,.v (.int .i64 k),.v (.int .i64 v)]=some (Hm (ps++[(k,v)])):=by
 unfold Hm;simp only[RF.ev,show(PV.v (.int .i64 k)).cells=[.i64 k] from rfl,show(PV.v (.int .i64 v)).cells=[.i64 v] from rfl,Kg ps h]
 rfl
theorem Kh {k:Int}: ∀(ps:List (Int×Int)),(ps.map (·.1)).Nodup→ ∀v,∃r,mapGet [.i] [.i64 k] (ps.map fun x=>[.i64 x.1,.i64 x.2])=some r∧r.getD [.i64 v]=[.i64 (luk ps k v)]
 |[],_,v=>⟨none,by simp[mapGet,eqN],rfl⟩
 |a::l,h,v=>by
  rw[bz,bA] at h;simp only[bz,mapGet];rw[show([PV.i64 a.1,.i64 a.2].take [Ck.i].length)=[.i64 a.1] from rfl,eqN]
  by_cases e:a.1=k
  ·rw[decide_eq_true e];refine⟨some [.i64 a.2],rfl,?_⟩;show [PV.i64 a.2]=[.i64 (luk l k (if a.1=k then a.2 else v))]
   rw[if_pos e,Av fun y hy e'=>h.1 (by rw[e,←e'];exact aN.2 ⟨y,hy,rfl⟩)]
  ·rw[decide_eq_false e];obtain⟨r,h1,h2⟩:=Kh l h.2 v;refine⟨r,h1,?_⟩;show _=[PV.i64 (luk l k (if a.1=k then a.2 else v))]
   rw[if_neg e,h2]
theorem W0 {ps:List (Int×Int)}{k:Int}(h:(ps.map (·.1)).Nodup):RF.ev (.mget [.i] [KP.z]) [Hm ps,.v (.int .i64 k)]=some (.i64 (luk ps k 0)):=by
 obtain⟨r,h1,h2⟩:=Kh ps h 0 (k:=k);unfold Hm;simp only[RF.ev,show(PV.v (.int .i64 k)).cells=[.i64 k] from rfl,h1]
 exact congrArg (fun x=>some (yS x)) h2
theorem W1 {a:Int}(h0:0≤a)(h1:a<4611686018427387904):intB .and .i64 a .i64 1=some (.v (.int .i64 (a% 2))):=by
 rw[i_and]
 congr 3
 have e:(BitVec.ofInt IntKind.i64.bits a&&& BitVec.ofInt IntKind.i64.bits 1).toNat=a.toNat% 2:=by
  show(BitVec.ofInt 64 a&&& BitVec.ofInt 64 1).toNat=_
  rw[kU,gA,show(BitVec.ofInt 64 1).toNat=1 from by decide,Nat.and_one_is_mod]
  omega
 rw[e,bU (by omega) (by omega)];omega
theorem W2 {x:Int}(h:0≤x)(h1:x<4611686018427387904)(d:Nat):intB .shr .i64 x .i64 (d:Int)=some (.v (.int .i64 (x.fdiv (2^(min d 64)))))∧intB .and .i64 (x.fdiv (2^(min d 64))) .i64 1=some (.v (.int .i64 (bitI x d))):=by
 refine⟨(Qa h d).1,?_⟩;have hp:(0:Int)<2^(min d 64):=qu (by decide);rw[dm _ (i6 hp)];have h2:0≤x/2^(min d 64):=Int.ediv_nonneg h (i6 hp);have h3:x/2^(min d 64)≤x:=Int.ediv_le_self _ h;rw[W1 h2 (by omega)];unfold bitI;rw[dm _ (i6 hp)]
theorem bit_two (x:Int)(d:Nat):bitI x d=0∨bitI x d=1:=by
 unfold bitI;omega
theorem jY {α:Type}(p q:α→Bool): ∀(l a b:List α),l.foldl (fun(acc:List α×List α) x=>if p x=true then(acc.1++[x],acc.2) else if q x=true then(acc.1,acc.2++[x]) else acc) (a,b)=(a++l.filter p,b++l.filter fun x=>!p x&& q x)
 |[],a,b=>by simp
 |x::l,a,b=>by
  rw[bI,bE,bE];cases hp:p x with
  |true=>simp only[if_true,ak,gM,ad,if_false,jY p q l,aO,fA]
  |false=>
   cases hq:q x with
   |true=>simp only[if_true,aM,cR,ad,if_false,jY p q l,aO,fA]
   |false=>simp only[aM,cR,ad,if_false,jY p q l]
theorem ul (t:Rt): ∀(l:List Pt) (b:Pt),l.foldl (fun b p=>if leads t p b=true then p else b) b=topP t l b
 |[],_=>rfl
 |p::l,b=>by rw[bI,ul t l];rfl
theorem aggP (p:Pt):RF.ev .agg [.v (.int .i64 p.id),.v (.int .i64 p.a),.v (.int .i64 p.b)]=some (PP p):=rfl
theorem bsP (p:Pt):RF.ev (.bs 1 [KP.z,KP.z,KP.z] [0]) [PP p]=some (sl row [p]):=rfl
theorem Ki (p:Pt):RF.ev .sub [sl row [p],.v (.int .i64 0),.v (.int .i64 1)]=some (sl row [p]):=rfl
theorem W3 {t:Rt}(ht:In64 t)(hr:rok t=true): ∀(n:Nat) (l:List Pt) (f:Int) (d:Nat) (ps:List (Int×Int)),l.length≤n→n≤1000→d+n≤10000→(∀p∈l,p.ok=true)→Ids l→(∀x∈ps,∀p∈l,x.1≠p.id)→Ans D 221 [sl row l,R t,.i64 f,.i64 (d:Int),.sl [],Hm ps] [Hm (ps++hangP t l f d)]:=by
 intro n;induction n with
 |zero=>
  intro l f d ps h _ _ _ _ _;have hl:l=[]:=bM.1 (by omega);subst hl;refine ans_of te IB rfl ⟨1,?_⟩;unfold tB;rw[hangP,aJ];simp only[den_lt,shapeR,EV,aa,bJ,cO,decide_true,if_true]
 |succ n ih=>
  intro l f d ps h hn hd hok hids hps;cases l with
  |nil=>
   refine ans_of te IB rfl ⟨1,?_⟩;unfold tB;rw[hangP,aJ];simp only[den_lt,shapeR,EV,aa,bJ,cO,decide_true,if_true]
  |cons p0 l=>
   simp only[aD] at h;have hbn: ∀p∈p0::l,0≤p.id∧p.id≤65535:=fun p hp=>by have:=Pt.bnd (hok p hp);omega
   have htop:topP t l p0∈p0::l:=by
    rcases topP_mem t l p0 with e|e
    ·rw[e];simp
    ·simp[e]
   have o0:(p0::l)[0]?=some p0:=rfl;have tx0:RF.ev (.tix 3) [sl row (p0::l),.v (.int .i64 0)]=some (.i64 ((0:Nat):Int)):=tixM o0 (row_len _);have bn:RF.ev .bnd [.v (.int .i64 1),.v (.int .i64 (((p0::l).length:Nat):Int))]=some (.i64 1):=by rw[gZ,if_pos ⟨by omega,by simp;omega⟩]
   have ts:RF.ev (.tsub 3) [sl row (p0::l),.v (.int .i64 1),.v (.int .i64 (((p0::l).length:Nat):Int))]=some (sl row l):=by
    rw[sU,if_pos ⟨by omega,by simp;omega,by simp,rfl,by decide⟩];simp[aR]
   have ne:decide (((p0::l).length:Int)=0)=false:=decide_eq_false (by simp;omega);refine ans_of te IB rfl ⟨1001,?_⟩;unfold tB;simp only[den_lt,shapeR,tx0,eltM o0,rowP,bn,ts,cellP0,cellP1,cellP2,EV,aa,ne,ad,if_false];refine(er (m:=1001) (l:=l) (g:=fun b p=>if leads t p b=true then p else b) (I:=fun i b=>b=p0∨ ∃j,j<i∧l[j]?=some b) (S:=fun b i=>[.i64 b.id,.i64 b.a,.i64 b.b,.i64 (i:Int)]) (fin:=fun b=>den (PhiS D) 1001 xG [] [sl row (p0::l),R t,.i64 f,.i64 (d:Int),.sl [],Hm ps,R t,.v (.int .i64 (((p0::l).length:Nat):Int)),.v (.bool false),.i64 ((0:Nat):Int),PP p0,.v (.int .i64 (((p0::l).length:Nat):Int)),.i64 1,sl row l,.v (.int .i64 ((l.length:Nat):Int)),.i64 b.id,.i64 b.a,.i64 b.b]) (x:=p0) (.inl rfl) (fun i a b ha hI=>?_) (fun i p b self hp hI=>?_) (fun b self hI=>?_) (by omega)).1.trans ?_
   ·split
    ·exact .inr ⟨i,dN _,ha⟩
    ·exact hI.imp id fun⟨j,h1,h2⟩=>⟨j,Nat.lt_succ_of_lt h1,h2⟩
   ·have hlt:=get_lt hp;have hpm:p∈p0::l:=by simp[ah hp]
    have hbm:b∈p0::l:=by
     rcases hI with e|⟨j,_,e⟩
     ·rw[e];simp
     ·simp[ah e]
    have hne:p.id≠b.id:=fun e=>by
     have e:=hids.inj hpm hbm e;subst e;unfold Ids at hids;rcases hI with e|⟨j,hj,e⟩
     ·subst e;exact(bA.1 hids).1 (aN.2 ⟨_,ah hp,rfl⟩)
     ·have:=nodup_get.1 (bA.1 hids).2 j i p.id (by rw[aI,e];rfl) (by rw[aI,hp];rfl);omega
    have hA:=phi (A8 (p:=p) (q:=b) ht);rw[if_pos (ik (hok p hpm) (hok b hbm) hr hne)] at hA;unfold k221_6;simp only[den_lt,tixM hp (row_len _),eltM hp,rowP,aggP,hA,cellP0,cellP1,cellP2,EV,decide_eq_true_eq,if_lt hlt,k221_5,up1 (show i<1000000000 by omega)]
    cases leads t p b<;>simp
   ·unfold k221_6;simp only[EV,decide_eq_true_eq,if_ge]
   ·rw[ul];generalize htt:topP t l p0=tp at htop;have hseen: ∀x∈ps,x.1≠tp.id:=fun x hx=>hps x hx tp htop;unfold xG;simp only[den_lt,WZ hseen,EV,aa];have e0:([PV.sl [],.v (.int .i64 0),.sl [],.v (.int .i64 0),.v (.int .i64 0)]:List PV)=[sl row ([]:List Pt),.i64 ((([]:List Pt).length:Nat):Int),sl row ([]:List Pt),.i64 ((([]:List Pt).length:Nat):Int),.i64 ((0:Nat):Int)]:=rfl;rw[e0];refine(er (m:=1001) (l:=p0::l) (g:=fun(acc:List Pt×List Pt) x=>if(decide (x.id≠tp.id)&& decide (bitI x.id d=0))=true then(acc.1++[x],acc.2) else if(decide (x.id≠tp.id)&& decide (bitI x.id d=1))=true then(acc.1,acc.2++[x]) else acc) (I:=fun i acc=>acc.1.length≤i∧acc.2.length≤i) (S:=fun acc i=>[sl row acc.1,.i64 (acc.1.length:Int),sl row acc.2,.i64 (acc.2.length:Int),.i64 (i:Int)]) (fin:=fun acc=>den (PhiS D) 1001 k221_1 [] [sl row (p0::l),R t,.i64 f,.i64 (d:Int),.sl [],Hm ps,R t,.v (.int .i64 (((p0::l).length:Nat):Int)),.v (.bool false),.i64 ((0:Nat):Int),PP p0,.v (.int .i64 (((p0::l).length:Nat):Int)),.i64 1,sl row l,.v (.int .i64 ((l.length:Nat):Int)),.i64 tp.id,.i64 tp.a,.i64 tp.b,Hm (ps++[(tp.id,f)]),.v (.int .i64 (((p0::l).length:Nat):Int)),sl row acc.1,.i64 (acc.1.length:Int),sl row acc.2,.i64 (acc.2.length:Int)]) (x:=(([],[]):List Pt×List Pt)) ⟨am _,am _⟩ (fun i a acc _ hI=>?_) (fun i x acc self hx hI=>?_) (fun acc self hI=>?_) (by simp;omega)).1.trans ?_
    ·split
     ·exact⟨by simp;omega,by show acc.2.length≤_;have:=hI.2;omega⟩
     ·split
      ·exact⟨by show acc.1.length≤_;have:=hI.1;omega,by simp;omega⟩
      ·exact⟨by have:=hI.1;omega,by have:=hI.2;omega⟩
    ·have hlt:=get_lt hx;have hl1:(p0::l).length≤1000:=by simp;omega
     have hxb:=hbn x (ah hx);obtain⟨b1,b2⟩:=W2 hxb.1 (by omega) d;unfold k221_3;simp only[den_lt,tixM hx (row_len _),eltM hx,rowP,cellP0,f_bin,b1,b2,EV,aa,decide_eq_true_eq,if_lt hlt,rT,up1 (show i<1000000000 by omega),ai,decide_eq_false_iff_not]
     by_cases c1:x.id=tp.id
     ·simp only[c1,not_true_eq_false,if_false,ne_eq,decide_false,gM,ad]
     ·simp only[c1,not_false_eq_true,if_true,ne_eq,decide_true,cR,decide_eq_true_eq];rcases bit_two x.id d with c2|c2
      ·simp only[c2,if_true,den_lt,bsP,Ki,dc (f:=row) (l:=acc.1) (k:=[x]) (bytes:=24) (z:=3) (by simp;omega) row_len,EV,aa,rT,up1 (show i<1000000000 by omega)]
      ·simp only[c2,show¬((1:Int)=0) by decide,if_false,if_true,decide_true,den_lt,bsP,Ki,dc (f:=row) (l:=acc.2) (k:=[x]) (bytes:=24) (z:=3) (by simp;omega) row_len,EV,aa,rT,up1 (show i<1000000000 by omega)]
    ·unfold k221_3;simp only[EV,decide_eq_true_eq,if_ge]
    ·rw[jY];have s0:(p0::l).filter (fun x=>decide (x.id≠tp.id)&& decide (bitI x.id d=0))=side (p0::l) tp.id d 0:=rfl;have s1:(p0::l).filter (fun x=>!(decide (x.id≠tp.id)&& decide (bitI x.id d=0))&&(decide (x.id≠tp.id)&& decide (bitI x.id d=1)))=side (p0::l) tp.id d 1:=by
      unfold side;refine fo fun x _=>?_;by_cases c1:x.id=tp.id
      ·simp[c1]
      ·rcases bit_two x.id d with c2|c2<;>simp[c1,c2]
     rw[s0,s1,ax,ax];have hm: ∀(b:Int) (x:Pt),x∈side (p0::l) tp.id d b→x∈p0::l∧x.id≠tp.id∧bitI x.id d=b:=fun b x hx=>by
      obtain⟨h1,h2⟩:=aX.1 hx;simp only[au,decide_eq_true_eq] at h2;exact⟨h1,h2.1,h2.2⟩
     have hsl: ∀b:Int,(side (p0::l) tp.id d b).length≤n:=fun b=>by
      have:=jo (t:=t) (p:=p0) (l:=l) (d:=d) (b:=b);rw[htt] at this;omega
     have hsi: ∀b:Int,Ids (side (p0::l) tp.id d b):=fun b=>hids.filter _;have r0:=phi (ih (side (p0::l) tp.id d 0) tp.id (d+1) (ps++[(tp.id,f)]) (hsl 0) (by omega) (by omega) (fun p hp=>hok p (hm 0 p hp).1) (hsi 0) (fun x hx p hp=>by
      rcases bh.1 hx with hx|hx
      ·exact hps x hx p (hm 0 p hp).1
      ·simp only[bm] at hx;subst hx;exact fun e=>(hm 0 p hp).2.1 e.symm))
     have r1:=phi (ih (side (p0::l) tp.id d 1) tp.id (d+1) (ps++[(tp.id,f)]++hangP t (side (p0::l) tp.id d 0) tp.id (d+1)) (hsl 1) (by omega) (by omega) (fun p hp=>hok p (hm 1 p hp).1) (hsi 1) (fun x hx p hp=>by
      rcases bh.1 hx with hx|hx
      ·rcases bh.1 hx with hx|hx
       ·exact hps x hx p (hm 1 p hp).1
       ·simp only[bm] at hx;subst hx;exact fun e=>(hm 1 p hp).2.1 e.symm
      ·obtain⟨q,hq,e,_⟩:=jx (t:=t) n _ tp.id (d+1) (hsl 0) (hsi 0) x hx;intro e';have:=hids.inj (hm 0 q hq).1 (hm 1 p hp).1 (e.trans e');subst this;have h1:=(hm 0 q hq).2.2;rw[(hm 1 q hp).2.2] at h1;cases h1))
     have hd1:IntKind.i64.wrap ((d:Int)+1)=((d+1:Nat):Int):=up1 (by omega);unfold k221_1;simp only[EV,hd1,subM,r0,r1];rw[hangP,htt];simp[aO]
def hangs (t:Rt)(l:List Pt):List (Int×Int):=hangP t l (-1) 0
def upsO (t:Rt)(l:List Pt):List Int:=l.map fun p=>luk (hangs t l) p.id 0
theorem vX {l:List Pt}(hs:eN l): ∀(ps:List (Int×Int)) (out:List Int),out.length=l.length→(∀x∈ps,∃p∈l,p.id=x.1)→ ∀(i:Nat) (p:Pt) (v:Int),l[i]?=some p→out[i]?=some v→(ps.foldl (fun out x=>out.set (pos l x.1).toNat x.2) out)[i]?=some (luk ps p.id v)
 |[],out,_,_,i,p,v,_,hv=>hv
 |x::ps,out,ho,hm,i,p,v,hp,hv=>by
  rw[bI];unfold luk;rw[bI];obtain⟨q,hq,hqx⟩:=hm x (by simp);obtain⟨j,hj⟩:=aA.1 hq;have hpos:pos l x.1=j:=by rw[←hqx];exact qz hs hj
  refine vX hs ps _ (by simpa using ho) (fun y hy=>hm y (aF _ hy)) i p _ hp ?_
  rw[hpos,aq];by_cases e:i=j
  ·subst e;rw[hp] at hj;cases hj;rw[if_pos hqx.symm,aC (by have:=get_lt hp;omega)]
  ·rw[aE (by omega),if_neg (fun h=>e ?_)]
   ·exact hv
   ·exact nodup_get.1 (risen_ids hs) i j p.id (by rw[aI,hp];rfl) (by rw[aI,hj,aZ,hqx,h])
theorem vY (l:List Pt): ∀(ps:List (Int×Int)) (out:List Int),(ps.foldl (fun out x=>out.set (pos l x.1).toNat x.2) out).length=out.length
 |[],out=>rfl
 |x::ps,out=>by rw[bI,vY l ps,aB]
theorem gE {l:List Pt}(h:okF l): ∀p∈l,0≤p.id∧p.id≤65535:=fun p hp=>by
 obtain⟨i,hi⟩:=aA.1 hp;have:=Pt.bnd (okF_pt h hi);omega
theorem c179 {l:List Pt}{t:Rt}(h:okF l)(ht:In64 t):Ans D 179 [F l,R t] [sl I1 (upsO t l)]:=by
 have hl:=h.1;have hh:=phi (WY 64 ((iW t l).map Pt.id) (-1) 0 (by rw[aa,(eS t l).length_eq];omega) (by omega) (by omega) (fun x hx=>by
  obtain⟨p,hp,rfl⟩:=aN.1 hx;exact(gE h p ((eS t l).mem_iff.1 hp)).1))
 rw[AV 64 l (iW t l) (-1) 0 hl (eS t l) (pC (risen_ids h.2.2)) (risen_ids h.2.2)] at hh;have hlen:(hangs t l).length≤64:=by
  have:=lj 64 ((iW t l).map Pt.id) (-1) 0 (by rw[aa,(eS t l).length_eq];omega);rw[AV 64 l (iW t l) (-1) 0 hl (eS t l) (pC (risen_ids h.2.2)) (risen_ids h.2.2),aa,(eS t l).length_eq] at this;unfold hangs;omega
 have hkey: ∀x∈hangs t l,∃p∈l,p.id=x.1:=fun x hx=>by
  obtain⟨p,hp,e,_⟩:=jx 64 l (-1) 0 hl (risen_ids h.2.2) x hx;exact⟨p,hp,e⟩
 refine ans_of Md Ug rfl ⟨1001,?_⟩;unfold Cy;have z0:PV.v (.int .i64 0)= .i64 ((0:Nat):Int):=rfl;have hh':PhiS D 269 [sl I1 ((iW t l).map Pt.id),.v (.int .i64 (-1)),.v (.int .i64 0)]=some [sl gO (hangs t l)]:=hh;simp only[den_lt,shapeF,shapeR,cellF,phi (WX h ht),hh',vW (show l.length≤1000 by omega),EV,aa,aQ]
 refine(er (m:=1001) (l:=hangs t l) (g:=fun out x=>out.set (pos l x.1).toNat x.2) (I:=fun _ out=>out.length=l.length) (S:=fun out i=>[sl I1 out,.i64 (i:Int)]) (fin:=fun out=>some [sl I1 out]) (x:=List.replicate l.length 0) (by simp) (fun i a acc _ h=>by simpa using h) (fun i x acc self hx hI=>?_) (fun acc self hI=>?_) (by omega)).1.trans ?_
 ·obtain⟨p,hp,e⟩:=hkey x (ah hx);obtain⟨j,hj⟩:=aA.1 hp;have hpos:pos l x.1=j:=by rw[←e];exact qz h.2.2 hj
  have hAt:=phi (lO (l:=l) (by omega) x.1);rw[hpos] at hAt;unfold k179_2;simp only[den_lt,tixM hx (lenP _),eltM hx,rowP1,rowP2,hAt,ixM (get_lt hj),setI (show j<acc.length by rw[hI];exact get_lt hj),EV,aa,decide_eq_true_eq,if_lt (get_lt hx),up1 (show i<1000000000 by have:=get_lt hx;omega)]
  rw[hpos,aq]
 ·unfold k179_2;have:=subM (f:=I1) (l:=acc);rw[hI] at this;simp only[EV,aa,decide_eq_true_eq,if_ge,k179_1,this]
 ·congr 4
  refine b9 fun i=>?_;by_cases hi:i<l.length
  ·have hp:=ac hi;rw[vX h.2.2 (hangs t l) _ (by simp) hkey i _ 0 hp (by rw[bX,if_pos hi])];unfold upsO;rw[aI,hp];rfl
  ·rw[bk (by rw[vY];simp;omega),bk (by unfold upsO;simp;omega)]
def edgesU (l:List Pt)(up:List Int):List Crt:=(l.zip up).filterMap fun x=>if 0≤x.2 then some ⟨x.1.id,x.2⟩ else none
theorem Aw {α β:Type}(f:α→Option β): ∀(l:List α) (acc:List β),l.foldl (fun acc x=>acc++(f x).toList) acc=acc++l.filterMap f
 |[],acc=>by simp
 |a::l,acc=>by
  rw[bI,Aw f l,gb];cases f a<;>simp
theorem c180 {l:List Pt}{up:List Int}(hl:l.length=up.length)(hb:l.length≤1000):Ans D 180 [F l,sl I1 up] [sl crow (edgesU l up)]:=by
 refine ans_of Me Uh rfl ⟨1001,?_⟩;unfold Cz;simp only[den_lt,shapeF,EV];have e0:([PV.sl [],.v (.int .i64 0),.v (.int .i64 0)]:List PV)=[sl crow ([]:List Crt),.i64 ((([]:List Crt).length:Nat):Int),.i64 ((0:Nat):Int)]:=rfl;rw[e0];refine(er (m:=1001) (l:=l.zip up) (g:=fun acc x=>acc++(if 0≤x.2 then some (Crt.mk x.1.id x.2) else none).toList) (I:=fun i acc=>acc.length≤i) (S:=fun acc i=>[sl crow acc,.i64 (acc.length:Int),.i64 (i:Int)]) (fin:=fun acc=>some [sl crow acc]) (x:=[]) (by simp) (fun i a acc _ h=>?_) (fun i x acc self hx hI=>?_) (fun acc self hI=>?_) (by rw[cx hl];omega)).1.trans ?_
 ·by_cases c:0≤a.2
  ·simp only[c,if_true,Option.toList,an,az];omega
  ·simp only[c,if_false,Option.toList,aJ];omega
 ·obtain⟨hp,hq⟩:=dK hx;have hi:=get_lt hp;unfold xy;simp only[den_lt,cellF,tixM hp (row_len _),eltM hp,lh,tixM hq (lenI _),eltM hq,rowI,EV,aa,decide_eq_true_eq,if_lt (get_lt hq),ge_iff_le,rS];by_cases c:0≤x.2
  ·rw[if_pos c];simp only[den_lt,cellF,tixM hp (row_len _),eltM hp,lh,tixM hq (lenI _),eltM hq,rowI,aggC,bsC,subC1,dc (f:=crow) (l:=acc) (k:=[⟨x.1.id,x.2⟩]) (bytes:=16) (z:=2) (by simp;omega) lenC,EV,aa,rS,up1 (show i<1000000000 by omega),c,if_true,Option.toList]
  ·rw[if_neg c];simp only[EV,rS,up1 (show i<1000000000 by omega),c,if_false,Option.toList,aJ]
 ·rw[cx hl,hl];unfold xy;simp only[EV,aa,decide_eq_true_eq,if_ge,GC,subM]
 ·rw[Aw (fun x:Pt×Int=>if 0≤x.2 then some (Crt.mk x.1.id x.2) else none)]
  rfl
theorem nq {l:List Pt}{up:List Int}{e:Crt}:e∈edgesU l up↔ ∃(i:Nat) (p:Pt) (u:Int),l[i]?=some p∧up[i]?=some u∧0≤u∧e=⟨p.id,u⟩:=by
 unfold edgesU;rw[List.mem_filterMap];constructor
 ·rintro⟨x,hx,h⟩;obtain⟨i,hi⟩:=aA.1 hx;obtain⟨h1,h2⟩:=dK hi;split at h
  ·cases h;exact⟨i,_,_,h1,h2,by assumption,rfl⟩
  ·cases h
 ·rintro⟨i,p,u,h1,h2,h3,rfl⟩;refine⟨(p,u),ah (i:=i) ?_,if_pos h3⟩;rw[gi];exact⟨h1,h2⟩
theorem iF: ∀{l:List Pt} {up:List Int},Ids l→(edgesU l up).Nodup
 |[],_,_=>by simp[edgesU]
 |p::l,[],_=>by simp[edgesU]
 |p::l,u::us,h=>by
  have ih:=iF (l:=l) (up:=us) h.tail;unfold edgesU at ih⊢;rw[jO,gb];by_cases c:0≤u
  ·simp only[c,if_true];rw[bA];refine⟨fun hm=>?_,ih⟩;obtain⟨i,q,v,h1,h2,h3,h4⟩:=nq.1 (show(⟨p.id,u⟩:Crt)∈edgesU l us from hm)
   simp only[Crt.mk.injEq] at h4;refine(bA.1 h).1 ?_;show p.id∈l.map Pt.id
   rw[h4.1];exact aN.2 ⟨q,ah h1,rfl⟩
  ·simp only[c,if_false];exact ih
def fO (k:KHeap):Prop:=ClkOk k.clock∧upsO k.clock.now k.clock.pts=k.heap∧JustR k.clock (edgesU k.clock.pts (upsO k.clock.now k.clock.pts))
theorem ups_len (t:Rt)(l:List Pt):(upsO t l).length=l.length:=by simp[upsO]
theorem eu {l:List Pt}{t:Rt}(h:okF l){e:Crt}(he:e∈edgesU l (upsO t l)):inF l e.low=true∧inF l e.high=true∧leads t (ptOf l e.high) (ptOf l e.low)=true:=by
 obtain⟨i,p,u,h1,h2,h3,rfl⟩:=nq.1 he;unfold upsO at h2;rw[aI,h1,aZ,aK] at h2;have hpm:=ah h1;obtain⟨f,hf⟩:=E7 64 l (-1) 0 h.1 (risen_ids h.2.2) (fun p hp=>(gE h p hp).1) p hpm;have hmem:(p.id,u)∈hangs t l:=by
  rcases luk_mem (ps:=hangs t l) (k:=p.id) (v:=0) with e|e
  ·rw[h2] at e;have:=t6 (ps:=hangs t l) (k:=p.id) (v:=0) ⟨f,hf⟩;rw[h2] at this;exact this
  ·rw[h2] at e;exact e
 obtain⟨p',hp',e1,e2⟩:=jx 64 l (-1) 0 h.1 (risen_ids h.2.2) (p.id,u) hmem;simp only at e1 e2;have:p'=p:=(risen_ids h.2.2).inj hp' hpm e1;subst this;rcases e2 with e2|⟨q,hq,e3,e4⟩
 ·omega
 ·refine⟨in_ids.2 (aN.2 ⟨p',hpm,rfl⟩),in_ids.2 (aN.2 ⟨q,hq,e3⟩),?_⟩;obtain⟨j,hj⟩:=aA.1 hq;simp only;rw[←e3,ptOf_some h hj,ptOf_some h h1];exact e4
open Classical in
theorem c84 {k:KHeap}(h64:c6 k.clock)(hg:gKh k=false):Ans D 84 [KH k] [.i64 (okE (decide (fO k)))]:=by
 obtain⟨g1,g2⟩:=mf hg;have no: ∀h:¬fO k,(some [PV.v (.int .i64 8)]:Option (List PV))=some [.i64 (okE (decide (fO k)))]:=fun h=>by rw[decide_eq_false h];rfl
 have pKH2:RF.ev (.part 2 1) [KH k]=some (F k.clock.pts):=rfl;have pKH0:RF.ev (.part 0 2) [KH k]=some (R k.clock.now):=rfl;refine ans_of PG s84 rfl ⟨1001,?_⟩;unfold k84;simp only[den_lt,shKH,pKH,EV,phi (Bf h64 g1),eK,ai,decide_eq_false_iff_not];by_cases h1:ClkOk k.clock
 ·have hF:=h1.2.1;have hl:=hF.1;rw[decide_eq_true h1,if_pos rfl];simp only[den_lt,pKH,pKH2,pKH0,cKH,phi (c179 hF h64.1),phi (A9 (l:=upsO k.clock.now k.clock.pts) (k:=k.heap) (by rw[ups_len];omega)),phi (c180 (l:=k.clock.pts) (up:=upsO k.clock.now k.clock.pts) (ups_len _ _).symm (by omega)),EV,ai,decide_eq_false_iff_not];by_cases h2:upsO k.clock.now k.clock.pts=k.heap
  ·rw[if_neg (by simp[h2])];have hel:(edgesU k.clock.pts (upsO k.clock.now k.clock.pts)).length≤1000:=by
    unfold edgesU;have:=eF (fun x:Pt×Int=>if 0≤x.2 then some (Crt.mk x.1.id x.2) else none) (k.clock.pts.zip (upsO k.clock.now k.clock.pts))
    rw[cx (ups_len _ _).symm] at this;omega
   simp only[den_lt,EV,phi (c169 (c:=k.clock) (edges:=edgesU k.clock.pts (upsO k.clock.now k.clock.pts)) hF h64.1 hel (by have:=dS g1;omega) (fun e he=>⟨(eu hF he).1,(eu hF he).2.1⟩)),ai,decide_eq_false_iff_not];by_cases h3:JustR k.clock (edgesU k.clock.pts (upsO k.clock.now k.clock.pts))
   ·rw[if_neg (by simp[h3]),decide_eq_true (show fO k from⟨h1,h2,h3⟩)];rfl
   ·rw[if_pos h3];exact no (fun h=>h3 h.2.2)
  ·rw[if_pos h2];exact no (fun h=>h2 h.2.1)
 ·rw[decide_eq_false h1,if_neg (by simp)];exact no (fun h=>h1 h.1)
theorem qh {t:Rt}{l:List Pt}(h:okF l):((hangs t l).map (·.1)).Nodup:=Bk l.length l (-1) 0 (am _) (risen_ids h.2.2)
def g9 (g:Pt→Int)(k:List Pt):List Crt:=k.filterMap fun p=>if 0≤g p then some ⟨p.id,g p⟩ else none
theorem rk (g:Pt→Int): ∀k:List Pt,edgesU k (k.map g)=g9 g k
 |[]=>rfl
 |x::k=>by
  have:=rk g k;unfold edgesU g9 at this⊢;rw[bz,jO,gb,gb,this]
theorem IV (g:Pt→Int)(k:List Pt):(g9 g k).length≤k.length:=eF ..
theorem c127 {l:List Pt}{t:Rt}(h:okF l)(ht:In64 t)(hr:rok t=true):Ans D 127 [F l,R t] [sl I1 (upsO t l),sl crow (edgesU l (upsO t l))]:=by
 have hl:=h.1;have h0:=phi (W3 ht hr l.length l (-1) 0 [] (am _) (by omega) (by omega) (fun p hp=>aG.1 h.2.1 p hp) (risen_ids h.2.2) (fun x hx=>by cases hx));rw[ax] at h0;have e0:Hm []= .sl []:=rfl;rw[e0] at h0;have hgt: ∀k:Int,RF.ev (.mget [.i] [KP.z]) [Hm (hangs t l),.v (.int .i64 k)]=some (.i64 (luk (hangs t l) k 0)):=fun k=>W0 (qh h);have hh:PhiS D 221 [sl row l,R t,.v (.int .i64 (-1)),.v (.int .i64 0),.sl [],.sl []]=some [Hm (hangs t l)]:=h0;unfold upsO;rw[rk];generalize hg:(fun p:Pt=>luk (hangs t l) p.id 0)=g;have hgp: ∀p:Pt,luk (hangs t l) p.id 0=g p:=fun p=>by rw[←hg]
 refine ans_of LL TL rfl ⟨1001,?_⟩;unfold B3;simp only[den_lt,shapeF,shapeR,cellF,hh,EV,aa];have st0:([PV.sl [],.v (.int .i64 0),.sl [],.v (.int .i64 0),.v (.int .i64 0)]:List PV)=[sl I1 (([]:List Pt).map g),.i64 ((([]:List Pt).length:Nat):Int),sl crow (g9 g []),.i64 (((g9 g []).length:Nat):Int),.i64 ((0:Nat):Int)]:=rfl;rw[st0];refine(er (m:=1001) (l:=l) (g:=fun acc x=>acc++[x]) (I:=fun i acc=>acc.length≤i) (S:=fun acc i=>[sl I1 (acc.map g),.i64 (acc.length:Int),sl crow (g9 g acc),.i64 ((g9 g acc).length:Int),.i64 (i:Int)]) (fin:=fun acc=>some [sl I1 (acc.map g),sl crow (g9 g acc)]) (x:=[]) (am _) (fun i a acc _ hI=>by simp;omega) (fun i p acc self hp hI=>?_) (fun acc self hI=>?_) (by omega)).1.trans ?_
 ·have hlt:=get_lt hp;have hel:=IV g acc;have a1:=dc (f:=I1) (l:=acc.map g) (k:=[g p]) (bytes:=8) (z:=1) (by simp;omega) lenI;rw[aa] at a1;have hs:acc.map g++[g p]=(acc++[p]).map g:=by simp
  have nxt:=up1 (show i<1000000000 by omega)
  unfold wK;simp only[den_lt,cellF,tixM hp (row_len _),eltM hp,rowP,cellP0,hgt,hgp,bsI,subI1,a1,hs,EV,aa,an,az,decide_eq_true_eq,if_lt hlt,ge_iff_le];by_cases c1:0≤g p
  ·have he:g9 g (acc++[p])=g9 g acc++[⟨p.id,g p⟩]:=by
    unfold g9;rw[mY];simp[c1]
   rw[if_pos c1];simp only[den_lt,cellP0,hgt,hgp,aggC,bsC,subC1,he,dc (f:=crow) (l:=g9 g acc) (k:=[⟨p.id,g p⟩]) (bytes:=16) (z:=2) (by simp;omega) lenC,EV,aa,an,az,wJ,nxt]
  ·have he:g9 g (acc++[p])=g9 g acc:=by
    unfold g9;rw[mY];simp[c1]
   rw[if_neg c1];simp only[EV,wJ,nxt,he]
 ·unfold wK;have a1:RF.ev .sub [sl I1 (acc.map g),.v (.int .i64 0),.v (.int .i64 (acc.length:Int))]=some (sl I1 (acc.map g)):=by
   have:=subM (f:=I1) (l:=acc.map g);rwa [aa] at this
  simp only[EV,decide_eq_true_eq,if_ge,FZ,a1,subM]
 ·have: ∀(k a:List Pt),k.foldl (fun acc x=>acc++[x]) a=a++k:=by
   intro k;induction k with
   |nil=>intro a;simp
   |cons x k ih=>intro a;rw[bI,ih];simp
  rw[this,ax]
open Classical in
theorem c80 {k:KHeap}(h64:c6 k.clock)(hg:gKh k=false):Ans D 80 [KH k] [.i64 (okE (decide (fO k)))]:=by
 obtain⟨g1,g2⟩:=mf hg;have no: ∀h:¬fO k,(some [PV.v (.int .i64 8)]:Option (List PV))=some [.i64 (okE (decide (fO k)))]:=fun h=>by rw[decide_eq_false h];rfl
 have pKH2:RF.ev (.part 2 1) [KH k]=some (F k.clock.pts):=rfl;have pKH0:RF.ev (.part 0 2) [KH k]=some (R k.clock.now):=rfl;have cKH4:RF.ev (.cell 4) [KH k]=some (sl hrow k.clock.certs.list):=rfl;have cc:=dS g1;refine ans_of PC s80 rfl ⟨1001,?_⟩;unfold k80;simp only[den_lt,shKH,pKH,EV,phi (Bj h64 g1),eK,ai,decide_eq_false_iff_not];by_cases h1:ClkOk k.clock
 ·have hF:=h1.2.1;have hl:=hF.1;rw[decide_eq_true h1,if_pos rfl];simp only[den_lt,pKH,pKH2,pKH0,cKH,cKH4,phi (c127 hF h64.1 h1.1),phi (IU (l:=upsO k.clock.now k.clock.pts) (k:=k.heap) (by rw[ups_len];omega)),EV,aa,ai,decide_eq_false_iff_not];by_cases h2:upsO k.clock.now k.clock.pts=k.heap
  ·rw[if_neg (by simp[h2])];have hel:(edgesU k.clock.pts (upsO k.clock.now k.clock.pts)).length≤1000:=by
    unfold edgesU;have:=eF (fun x:Pt×Int=>if 0≤x.2 then some (Crt.mk x.1.id x.2) else none) (k.clock.pts.zip (upsO k.clock.now k.clock.pts))
    rw[cx (ups_len _ _).symm] at this;omega
   have hJ:=li (c:=k.clock) h1.2.2.1 (iF (up:=upsO k.clock.now k.clock.pts) (risen_ids hF.2.2)) (fun e he=>(eu hF he).2.2);by_cases h3:(edgesU k.clock.pts (upsO k.clock.now k.clock.pts)).length=k.clock.certs.list.length
   ·rw[if_neg (by omega)];refine(run_list (m:=1001) (l:=k.clock.certs.list) (p:=fun h=>decide (h.cert∈edgesU k.clock.pts (upsO k.clock.now k.clock.pts))) (st:=fun i=>[.i64 (i:Int)]) (r:=some [.i64 8]) (fin:=some [.i64 0]) (fun i h self hh _=>?_) (fun _ self=>?_) (by omega)).trans ?_
    ·unfold BM;simp only[den_lt,cKH4,pHP,tixM hh (lenH _),eltM hh,rowH,phi (c155 h.cert hel),EV,decide_eq_true_eq,if_lt (get_lt hh),up1 (show i<1000000000 by have:=get_lt hh;omega)]
     by_cases c1:h.cert∈edgesU k.clock.pts (upsO k.clock.now k.clock.pts)<;>simp[c1]
    ·unfold BM;simp only[EV,decide_eq_true_eq,if_ge,K7]
    ·have:(k.clock.certs.list.all fun h=>decide (h.cert∈edgesU k.clock.pts (upsO k.clock.now k.clock.pts)))=true↔fO k:=by
      rw[aG];simp only[decide_eq_true_eq];exact⟨fun h=>⟨h1,h2,hJ.1 ⟨h3,h⟩⟩,fun h=>(hJ.2 h.2.2).2⟩
     by_cases hr:fO k
     ·rw[if_pos (this.2 hr),decide_eq_true hr];rfl
     ·rw[if_neg (fun h=>hr (this.1 h)),decide_eq_false hr];rfl
   ·rw[if_pos (by omega)];exact no (fun h=>h3 h.2.2.1.symm)
  ·rw[if_pos h2];exact no (fun h=>h2 h.2.1)
 ·rw[decide_eq_false h1,if_neg (by simp)];exact no (fun h=>h1 h.1)
end Go.Proofs.YtfghdmmapmdcgaaGreat
