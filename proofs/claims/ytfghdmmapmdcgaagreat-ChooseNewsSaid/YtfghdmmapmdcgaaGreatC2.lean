import Derived.Test.YtfghdmmapmdcgaaGreatC1
import Derived.Test.YtfghdmmapmdcgaaGreatP1
set_option linter.unusedVariables false
set_option linter.unusedSimpArgs false
set_option linter.defProp false
noncomputable section
namespace Go.Proofs.YtfghdmmapmdcgaaGreat
open Go.Sym Bnd
set_option maxRecDepth 100000
section
variable {α:Type}[DecidableEq α]{ks:List Ck}{kc:α→List PV}
theorem eI (hl: ∀a,(kc a).length=ks.length)(he: ∀a b,eqL ks (kc a) (kc b)=some (decide (a=b)))(v:PV)(k:α): ∀seen:List α,mapGet ks (kc k) (seen.map fun a=>kc a++[v])=some (if k∈seen then some [v] else none)
 |[]=>by simp[mapGet,he]
 |a::l=>by
  simp only[List.map_cons,mapGet];rw[List.take_left' (hl a),he,List.drop_left' (hl a)];by_cases e:a=k
  ·subst e;simp
  ·rw[decide_eq_false e];simp only;rw[eI hl he v k l]
   congr 1
   have:(k∈a::l)↔k∈l:=by simp[show k≠a from fun h=>e h.symm]
   simp only[this]
theorem fw (hl: ∀a,(kc a).length=ks.length)(he: ∀a b,eqL ks (kc a) (kc b)=some (decide (a=b)))(v:PV)(k:α): ∀seen:List α,k∉seen→mapSet ks (kc k) [v] (seen.map fun a=>kc a++[v])=some ((seen++[k]).map fun a=>kc a++[v])
 |[],_=>by simp[mapSet,he]
 |a::l,h=>by
  simp only[List.map_cons,List.cons_append,mapSet];rw[List.take_left' (hl a),he,decide_eq_false (fun e=>h (by simp[e]))];simp only;rw[fw hl he v k l (fun e=>h (by simp[e]))]
end
abbrev T1:PV:= .bool true
def Nm (seen:List Int):PV:= .sl (seen.map fun n=>[.i64 n]++[T1])
def Cm (seen:List Crt):PV:= .sl (seen.map fun c=>ac c++[T1])
theorem eqN (a b:Int):eqL [.i] [.i64 a] [.i64 b]=some (decide (a=b)):=by
 simp[eqL,eqC]
theorem Iz (a b:Crt):eqL [.i,.i] (ac a) (ac b)=some (decide (a=b)):=by
 have h:some (PV.bool (decide (a.low=b.low)&&(decide (a.high=b.high)&& true)))=some (PV.bool (decide (a=b))):=eqvC a b;injection h with h
 injection h with h
 injection h with h
 rw[←h];rfl
theorem O2 (seen:List Int)(k:Int):RF.ev (.mget [.i] [.v (.bool false)]) [Nm seen,.v (.int .i64 k)]=some (.bool (decide (k∈seen))):=by
 have h:=eI (ks:=[.i]) (kc:=fun n:Int=>[.i64 n]) (fun _=>rfl) eqN T1 k seen;unfold Nm;simp only[RF.ev,show(PV.v (.int .i64 k)).cells=[.i64 k] from rfl,h]
 by_cases e:k∈seen
 ·simp[e];rfl
 ·simp[e];rfl
theorem O3 (seen:List Int){k:Int}(h:k∉seen):RF.ev (.mset [.i] 1) [Nm seen,.v (.int .i64 k),.v (.bool true)]=some (Nm (seen++[k])):=by
 have h:=fw (ks:=[.i]) (kc:=fun n:Int=>[.i64 n]) (fun _=>rfl) eqN T1 k seen h;unfold Nm;simp only[RF.ev,show(PV.v (.int .i64 k)).cells=[.i64 k] from rfl,show(PV.v (.bool true)).cells=[T1] from rfl,h]
 rfl
theorem KS (seen:List Crt)(k:Crt):RF.ev (.mget [.i,.i] [.v (.bool false)]) [Cm seen,CP k]=some (.bool (decide (k∈seen))):=by
 have h:=eI (ks:=[.i,.i]) (kc:=ac) (fun _=>rfl) Iz T1 k seen;unfold Cm;simp only[RF.ev,show(CP k).cells=ac k from rfl,h]
 by_cases e:k∈seen
 ·simp[e];rfl
 ·simp[e];rfl
theorem KU (seen:List Crt){k:Crt}(h:k∉seen):RF.ev (.mset [.i,.i] 1) [Cm seen,CP k,.v (.bool true)]=some (Cm (seen++[k])):=by
 have h:=fw (ks:=[.i,.i]) (kc:=ac) (fun _=>rfl) Iz T1 k seen h;unfold Cm;simp only[RF.ev,show(CP k).cells=ac k from rfl,show(PV.v (.bool true)).cells=[T1] from rfl,h]
 rfl
theorem appC {α:Type}{f:α→List PV}{bytes z:Nat}{l:List α}(h:l.length*bytes≤140737488355328)(hz: ∀a,(f a).length=z):RF.ev (.app bytes z) [.sl [],.v (.int .i64 0),.sl (l.map f)]=some (.sl (l.map f)):=by
 have:=aN (f:=f) (l:=[]) (k:=l) (bytes:=bytes) (z:=z) (by simpa using h) hz
 simpa using this
theorem sB {l:List Bool}(hl:l.length≤1000):Ans D 294 [sl B1 l] [sl B1 l]:=by
 refine ans_of FA Nw rfl ⟨1,?_⟩;unfold vH;simp only[EV,List.length_map,decide_eq_true_eq];have h1:den (PhiS D) 1 pO [] [sl B1 l,.i64 (l.length:Int),.bool (decide ((l.length:Int)=0))]=some [sl B1 l]:=by
  unfold pO;simp only[den_lt,EV,appC (l:=l) (f:=B1) (bytes:=1) (z:=1) (by omega) eG,List.length_map,subM]
 by_cases h:(l.length:Int)=0
 ·have:l=[]:=List.eq_nil_of_length_eq_zero (by omega);subst this;rw[if_pos h];exact dp rfl h1
 ·rw[if_neg h];exact h1
theorem O4 {l:List Bool}(_:0<l.length)(hl:l.length≤1000):Ans D 294 [sl B1 l] [sl B1 l]:=sB hl
theorem eJ {l:List Int}(hl:l.length≤1000):Ans D 120 [sl I1 l] [sl I1 l]:=by
 refine ans_of DV LX rfl ⟨1,?_⟩;unfold tE;simp only[EV,List.length_map,decide_eq_true_eq];have h1:den (PhiS D) 1 n7 [] [sl I1 l,.i64 (l.length:Int),.bool (decide ((l.length:Int)=0))]=some [sl I1 l]:=by
  unfold n7;simp only[den_lt,EV,appC (l:=l) (f:=I1) (bytes:=8) (z:=1) (by omega) lenI,List.length_map,subM]
 by_cases h:(l.length:Int)=0
 ·have:l=[]:=List.eq_nil_of_length_eq_zero (by omega);subst this;rw[if_pos h];exact dp rfl h1
 ·rw[if_neg h];exact h1
theorem kJ {α:Type}[DecidableEq α](v:α)(l:List α):l.any (fun y=>decide (v=y))=decide (v∈l):=by
 rw[Bool.eq_iff_iff];simp
theorem O5 {l:List Bool}(v:Bool)(hl:l.length≤1000):Ans D 415 [sl B1 l,.bool v] [.i64 (cL (fun y=>decide (v=y)) l)]:=by
 refine ans_of Gk Oe rfl ⟨1001,?_⟩;unfold wF;simp only[EV,List.length_map];refine(da (m:=1001) (l:=l) (p:=fun y=>decide (v=y)) (st:=fun i=>[.i64 (i:Int)]) (ret:=fun i=>some [.i64 (i:Int)]) (fin:=some [.i64 (-1)]) (fun i a self ha=>?_) (fun self=>?_) (by omega)).trans mf
 ·unfold qg;simp only[tixM ha (eG _),eltM ha,fq,EV,decide_eq_true_eq,if_lt (get_lt ha),up1 (show i<1000000000 by have:=get_lt ha;omega),beq_iff_eq]
 ·unfold qg;simp only[EV,decide_eq_true_eq,if_ge,AA]
theorem O6 {l:List Bool}(v:Bool)(hl:l.length≤1000):Ans D 386 [sl B1 l,.bool v] [.bool (decide (v∈l))]:=by
 refine ans_of Gb N6 rfl ⟨1,?_⟩;unfold ww;simp only[EV,phi (O5 v hl),ge_iff_le,iN,kJ]
open Classical in
theorem IA {s:Slots}(hg:gSl s=false):Ans D 325 [SL s] [.i64 (okE (decide s.okR))]:=by
 unfold gSl at hg;simp only[Bool.or_eq_false_iff,decide_eq_false_iff_not] at hg;rw[show decide s.okR=decide s.okP from decide_eq_decide.2 (Slots.ok_iff s).symm]
 have no: ∀h:¬s.okP,(some [PV.v (.int .i64 8)]:Option (List PV))=some [.i64 (okE (decide s.okP))]:=fun h=>by rw[decide_eq_false h];rfl
 refine ans_of FQ NM rfl ⟨1001,?_⟩;unfold vV;simp only[den_lt,shSL,cSL0,cSL1,cSL2,EV,List.length_map,decide_eq_true_eq,Bool.not_eq_true',decide_eq_false_iff_not];by_cases h1:s.uses.length<1
 ·rw[if_pos (by omega)];exact no (fun h=>by have:=h.1;omega)
 rw[if_neg (by omega)];by_cases h2:200<s.uses.length
 ·rw[if_pos (by omega)];exact no (fun h=>by have:=h.2.1;omega)
 rw[if_neg (by omega)];by_cases h3:s.used.length=s.uses.length
 rotate_left
 ·rw[if_pos (by omega)];exact no (fun h=>h3 h.2.2.1)
 rw[if_neg (by omega)];simp only[phi (O4 (l:=s.used) (by omega) (by omega)),EV,List.length_map,den_lt,cSL2];refine(fv (m:=1001) (l:=s.free) (g:=fun l x=>if 0≤x∧x<l.length∧l[x.toNat]?=some false then some (l.set x.toNat true) else none) (I:=fun l=>l.length=s.uses.length) (S:=fun l i=>[sl B1 l,.i64 (i:Int)]) (r:=some [.i64 8])
  (fin:=fun acc=>some [.i64 (okE (decide s.okP))]) (x:=s.used) h3 (fun a acc acc' hI hg=>?_) (fun i x acc self hx hI=>?_) (fun acc self hI hm=>?_) (by omega)).trans ?_
 ·split at hg
  ·cases hg;simpa using hI
  ·cases hg
 ·unfold kU;have hi:=get_lt hx;simp only[den_lt,cSL2,tixM hx (lenI _),eltM hx,rowI,EV,List.length_map,decide_eq_true_eq,if_lt hi,ge_iff_le,show((0:Int)≤(i:Int)) by omega,if_true]
  by_cases c1:x<0
  ·rw[if_pos c1,if_neg (by omega)]
  ·rw[if_neg c1];by_cases c2:(s.uses.length:Int)≤x
   ·rw[if_pos c2,if_neg (by rw[hI];omega)]
   ·rw[if_neg c2];obtain⟨n,rfl⟩:=eH (show 0≤x by omega)
    obtain⟨b,hb⟩: ∃b,acc[n]?=some b:=⟨acc[n]'(by omega),List.getElem?_eq_getElem _⟩;simp only[den_lt,cSL2,tixM hx (lenI _),eltM hx,rowI,ixM (show n<s.used.length by omega),eltM hb,fq,setB (show n<acc.length by omega),EV,up1 (show i<1000000000 by omega)]
    cases b with
    |true=>
     rw[if_pos rfl,if_pos (show decide ((0:Int)≤(i:Int))=true from decide_eq_true (by omega)),if_neg (fun g=>by have:=g.2.2;rw[Int.toNat_natCast,hb] at this;cases this)]
    |false=>rw[if_neg (by simp),if_pos ⟨by omega,by omega,by rw[Int.toNat_natCast];exact hb⟩,Int.toNat_natCast]
 ·rw[←cO] at hm;have su:RF.ev .sub [sl B1 acc,.v (.int .i64 0),.v (.int .i64 (s.used.length:Int))]=some (sl B1 acc):=by rw[h3,←hI];exact subM
  unfold kU;simp only[den_lt,EV,decide_eq_true_eq,if_ge,Aj,su,cSL0,List.length_map,phi (O6 (l:=acc) false (by omega)),ge_iff_le,show¬((0:Int)≤ -1) by omega,if_false]
  by_cases c1:false∈acc
  ·simp only[c1,if_true];exact no (fun h=>by
    obtain⟨l,e1,e2⟩:=h.2.2.2.1;rw[hm] at e1;cases e1;exact e2 c1)
  simp only[c1,if_false];refine(run_if (m:=1001) (n:=s.uses.length) (P:=fun i=> ∀u,s.uses[i]?=some u→0≤u∧u≤1000000∧¬(u=0∧s.used[i]?=some true)) (st:=fun i=>[.i64 (i:Int)]) (r:=some [.i64 8]) (fin:=some [.i64 0]) (fun i self hi _=>?_) (fun _ self=>?_) (by omega)).trans ?_
  ·obtain⟨u,hu⟩: ∃u,s.uses[i]?=some u:=⟨s.uses[i],List.getElem?_eq_getElem _⟩;obtain⟨b,hb⟩: ∃b,s.used[i]?=some b:=⟨s.used[i]'(by omega),List.getElem?_eq_getElem _⟩;have hP:(∀u',s.uses[i]?=some u'→0≤u'∧u'≤1000000∧¬(u'=0∧s.used[i]?=some true))↔(0≤u∧u≤1000000∧¬(u=0∧b=true)):=by
    rw[hu,hb];simp
   unfold p7;simp only[hP,den_lt,cSL0,cSL1,tixM hu (lenI _),eltM hu,rowI,tixM hb (eG _),eltM hb,fq,EV,decide_eq_true_eq,if_lt hi,Ai,up1 (show i<1000000000 by omega)]
   by_cases c1:u<0
   ·simp only[if_pos c1,if_true];rw[if_neg (by omega)]
   simp only[if_neg c1];by_cases c2:1000000<u
   ·simp only[if_pos c2,if_true];rw[if_neg (by omega)]
   simp only[if_neg c2];by_cases c3:u=0
   ·simp only[if_pos c3];cases b with
    |true=>simp[c3]
    |false=>simp[c3]
   ·simp only[if_neg c3,Bool.false_eq_true,if_false];rw[if_pos ⟨by omega,by omega,fun h=>c3 h.1⟩]
  ·unfold p7;simp only[EV,decide_eq_true_eq,if_ge,Ah]
  ·by_cases hr:s.okP
   ·rw[if_pos (fun i _=>hr.2.2.2.2 i),decide_eq_true hr];rfl
   ·rw[if_neg (fun h=>hr ⟨by omega,by omega,h3,⟨acc,hm,c1⟩,fun i u hu=>h i (get_lt hu) u hu⟩),decide_eq_false hr];rfl
 ·rw[←cO];cases hm:markF s.used s.free with
  |some l=>rfl
  |none=>
   exact no (fun h=>by
    obtain⟨l,e1,_⟩:=h.2.2.2.1;rw[hm] at e1;cases e1)
def iR (x y:Evt):Int:=if sgn (crs x.time y.time)=0 then sgn (x.number-y.number) else sgn (crs x.time y.time)
theorem cmpE_lt (x y:Evt):iR x y<0↔evLess x y=true:=by
 unfold iR evLess;have:=sgn_cases x.number y.number;by_cases h:sgn (crs x.time y.time)=0
 ·rw[if_pos h,this];simp[h];split
  ·simp;omega
  ·split<;>simp<;>omega
 ·rw[if_neg h];simp[h]
theorem sC {x y:Evt}(hx:In64 x.time)(hy:In64 y.time)(rx:rok x.time=true)(ry:rok y.time=true):Ans D 326 [EP x,EP y] [.i64 (iR x y)]:=by
 have e:=phi (Ot hx hy);rw[rx,ry,Bool.and_self,if_pos rfl] at e;have bs:RF.ev (.bs 2 [KP.z] [0,1]) [.v (.int .i64 (sgn (crs x.time y.time))),.v (.int .i64 (sgn (x.number-y.number)))]=some (.sl [[.i64 (sgn (crs x.time y.time))],[.i64 (sgn (x.number-y.number))]]):=rfl;have su: ∀a b:List PV,RF.ev .sub [.sl [a,b],.v (.int .i64 0),.v (.int .i64 2)]=some (.sl [a,b]):=fun a b=>rfl;refine ans_of FR NN rfl ⟨1,?_⟩;unfold vW iR;simp only[den_lt,kI,pEP,cEP2,EV,e,phi (sj _ _),bs,su,phi (orr _ _)]
def lastN (c:Certs):Nat→Int
 |0=> -1
 |i+1=>((c.list[i]?).map Held.number).getD (-1)
def jm (c:Certs)(j:Nat)(h:Held):Prop:=h.cert.ok∧(∀k,k<j→ ∀g,c.list[k]?=some g→g.cert≠h.cert)∧lastN c j<h.number∧h.number<c.next
theorem xG {c:Certs}(h1:c.list.length≤200)(h2:0≤c.next)(h3:c.next≤1000000):(∀j h,c.list[j]?=some h→jm c j h)↔aq c:=by
 constructor
 ·intro h;have nn: ∀(j:Nat) (g:Held),c.list[j]?=some g→0≤g.number:=by
   intro j;induction j with
   |zero=>intro g hg;have:=(h 0 g hg).2.2.1;simp only[lastN] at this;omega
   |succ j ih=>
    intro g hg;obtain⟨p,hp⟩: ∃p,c.list[j]?=some p:=⟨c.list[j]'(by have:=get_lt hg;omega),List.getElem?_eq_getElem _⟩;have h5:=(h (j+1) g hg).2.2.1;simp only[lastN,hp,Option.map_some,Option.getD_some] at h5;have:=ih p hp;omega
  refine⟨h1,h2,h3,fun i x hx=>⟨(h i x hx).1,nn i x hx,(h i x hx).2.2.2,fun g hi hg=>?_,(h i x hx).2.1⟩⟩;obtain⟨i,rfl⟩: ∃k,i=k+1:=⟨i-1,by omega⟩;have:=(h (i+1) x hx).2.2.1;rw[Nat.add_sub_cancel] at hg;simp only[lastN,hg,Option.map_some,Option.getD_some] at this;exact this
 ·rintro⟨_,_,_,h⟩ j x hx;obtain⟨a1,a2,a3,a4,a5⟩:=h j x hx;refine⟨a1,a5,?_,a3⟩;cases j with
  |zero=>simp only[lastN];omega
  |succ j=>
   obtain⟨p,hp⟩: ∃p,c.list[j]?=some p:=⟨c.list[j]'(by have:=get_lt hx;omega),List.getElem?_eq_getElem _⟩;simp only[lastN,hp,Option.map_some,Option.getD_some];exact a4 p (by omega) (by simpa using hp)
theorem m8 {c:Certs}{i:Nat}{k:Crt}:k∉(c.list.take i).map (·.cert)↔ ∀j,j<i→ ∀g,c.list[j]?=some g→g.cert≠k:=by
 constructor
 ·intro h j hj g hg e;exact h (List.mem_map.2 ⟨g,List.mem_iff_getElem?.2 ⟨j,by rw[List.getElem?_take_of_lt hj];exact hg⟩,e⟩)
 ·intro h hm;obtain⟨g,hg,e⟩:=List.mem_map.1 hm;obtain⟨j,hj⟩:=List.mem_iff_getElem?.1 hg;rw[List.getElem?_take] at hj;split at hj
  ·exact h j (by assumption) g hj e
  ·cases hj
open Classical in
theorem IB {c:Certs}(hl:c.list.length≤1000):Ans D 244 [CS c] [.i64 (okE (decide (aq c)))]:=by
 refine ans_of E7 M4 rfl ⟨1001,?_⟩;unfold uX;have no: ∀h:¬aq c,(some [PV.v (.int .i64 8)]:Option (List PV))=some [.i64 (okE (decide (aq c)))]:=fun h=>by rw[decide_eq_false h];rfl
 simp only[den_lt,shCS,cCS0,cCS1,EV,List.length_map,decide_eq_true_eq,gt_iff_lt];by_cases h1:200<c.list.length
 ·rw[if_pos (by omega)];exact no (fun h=>by have:=h.1;omega)
 rw[if_neg (by omega)];by_cases h2:c.next<0
 ·rw[if_pos h2];exact no (fun h=>by have:=h.2.1;omega)
 rw[if_neg h2];by_cases h3:1000000<c.next
 ·rw[if_pos h3];exact no (fun h=>by have:=h.2.2.1;omega)
 rw[if_neg h3];refine(run_if (n:=c.list.length) (P:=fun i=> ∀h,c.list[i]?=some h→jm c i h) (st:=fun i=>[Cm ((c.list.take i).map (·.cert)),.i64 (lastN c i),.i64 (i:Int)]) (r:=some [.i64 8]) (fin:=some [.i64 0]) (fun i self hi _=>?_) (fun _ self=>?_) (by omega)).trans ?_
 ·obtain⟨h,hh⟩: ∃h,c.list[i]?=some h:=⟨c.list[i],List.getElem?_eq_getElem _⟩;have hP:(∀h',c.list[i]?=some h'→jm c i h')↔jm c i h:=⟨fun x=>x h hh,fun x h' e=>by rw[hh] at e;cases e;exact x⟩;have hs:(c.list.take (i+1)).map (·.cert)=(c.list.take i).map (·.cert)++[h.cert]:=by
   rw[List.take_add_one,hh];simp
  have hn:lastN c (i+1)=h.number:=by simp only[lastN,hh,Option.map_some,Option.getD_some]
  unfold pq;simp only[hP,hs,hn,den_lt,cCS0,cCS1,tixM hh (lenH _),eltM hh,rowH,pHP,cHP0,phi (Iu _),KS,EV,List.length_map,decide_eq_true_eq,if_lt hi,Bool.not_eq_true',decide_eq_false_iff_not,ge_iff_le];by_cases a1:h.cert.ok
  rotate_left
  ·rw[if_pos a1,if_neg (fun x=>a1 x.1)]
  rw[if_neg (not_not_intro a1)];by_cases a2:h.cert∈(c.list.take i).map (·.cert)
  ·rw[if_pos a2,if_neg (fun x=>absurd a2 (m8.2 x.2.1))]
  rw[if_neg a2];by_cases a3:h.number≤lastN c i
  ·rw[if_pos a3,if_neg (fun x=>by have:=x.2.2.1;omega)]
  rw[if_neg a3];by_cases a4:c.next≤h.number
  ·rw[if_pos a4,if_neg (fun x=>by have:=x.2.2.2;omega)]
  rw[if_neg a4,if_pos ⟨a1,m8.1 a2,by omega,by omega⟩];simp only[den_lt,pHP,cHP0,KU _ a2,EV,up1 (show i<1000000000 by omega)]
 ·unfold pq;simp only[den_lt,cCS1,EV,List.length_map,decide_eq_true_eq,if_ge,zJ]
 ·have:(∀i,i<c.list.length→ ∀h,c.list[i]?=some h→jm c i h)↔aq c:=by
   rw[←xG (by omega) (by omega) (by omega)];exact⟨fun h i x hx=>h i (get_lt hx) x hx,fun h i _=>h i⟩
  by_cases hr:aq c
  ·rw[if_pos (this.2 hr),decide_eq_true hr];rfl
  ·rw[if_neg (fun h=>hr (this.1 h)),decide_eq_false hr];rfl
theorem KV (p q:Hnd):RF.ev (.eqv [.i,.i]) [HD p,HD q]=some (.bool (decide (p=q))):=by
 obtain⟨a,b⟩:=p;obtain⟨c,d⟩:=q;show some (PV.bool (decide (a=c)&&(decide (b=d)&& true)))=_
 congr 2
 by_cases h1:a=c<;>by_cases h2:b=d<;>simp[h1,h2]
open Classical in
theorem IC {a:Agenda}(hg:gAg a=false)(h64: ∀e∈a.heap,In64 e.time):Ans D 245 [AG a] [.i64 (okE (decide (aW a)))]:=by
 have hgs:=hg;unfold gAg at hgs;simp only[Bool.or_eq_false_iff,decide_eq_false_iff_not] at hgs;have hsl:a.slots.uses.length≤210∧a.slots.used.length≤210∧a.slots.free.length≤210:=by
  have:=hgs.1.1;unfold gSl at this;simp only[Bool.or_eq_false_iff,decide_eq_false_iff_not] at this;omega
 have cAG0:RF.ev (.cell 0) [AG a]=some (sl I1 a.slots.uses):=rfl;have cAG1:RF.ev (.cell 1) [AG a]=some (sl B1 a.slots.used):=rfl;have cAG2:RF.ev (.cell 2) [AG a]=some (sl I1 a.slots.free):=rfl;have no: ∀h:¬aW a,(some [PV.v (.int .i64 8)]:Option (List PV))=some [.i64 (okE (decide (aW a)))]:=fun h=>by rw[decide_eq_false h];rfl
 refine ans_of E8 M5 rfl ⟨1001,?_⟩;unfold uY;simp only[den_lt,shAG,pAG,cAG1,cAG2,cAG3,cAG4,EV,List.length_map,phi (IA hgs.1.1),dz,decide_eq_true_eq,Bool.not_eq_true',decide_eq_false_iff_not,ah (show-9223372036854775808≤(a.slots.used.length:Int)-(a.slots.free.length:Int) by omega) (by omega)]
 by_cases q1:a.slots.okR
 rotate_left
 ·rw[if_pos (by rw[decide_eq_false q1];decide)];exact no (fun h=>q1 h.1)
 rw[if_neg (by rw[decide_eq_true q1];decide)];obtain⟨g1,g2,g3,g4,_⟩:=id q1;by_cases q2:a.wher.length=a.slots.used.length
 rotate_left
 ·rw[if_pos (by omega)];exact no (fun h=>q2 (by rw[h.2.1.1,g3]))
 rw[if_neg (by omega)];by_cases q3:a.heap.length+a.slots.free.length=a.slots.used.length
 rotate_left
 ·rw[if_pos (by omega)];exact no (fun h=>q3 (by rw[h.2.1.2.1,g3]))
 rw[if_neg (by omega)];refine(run_if (n:=a.wher.length) (P:=fun i=> ∀(b:Bool) (w u:Int),a.slots.used[i]?=some b→a.wher[i]?=some w→a.slots.uses[i]?=some u→if b=true then 0≤w∧ ∃e,a.heap[w.toNat]?=some e∧e.hnd=⟨i,u⟩ else w= -1) (st:=fun i=>[.i64 (i:Int)]) (r:=some [.i64 8]) (fin:=some [.i64 (okE (decide (aW a)))]) (fun i self hi _=>?_) (fun hall self=>?_) (by omega)).trans ?_
 ·obtain⟨u,hu⟩: ∃u,a.slots.uses[i]?=some u:=⟨a.slots.uses[i]'(by omega),List.getElem?_eq_getElem _⟩;obtain⟨b,hb⟩: ∃b,a.slots.used[i]?=some b:=⟨a.slots.used[i]'(by omega),List.getElem?_eq_getElem _⟩;obtain⟨w,hw⟩: ∃w,a.wher[i]?=some w:=⟨a.wher[i]'(by omega),List.getElem?_eq_getElem _⟩;have hP:(∀(b':Bool) (w' u':Int),a.slots.used[i]?=some b'→a.wher[i]?=some w'→a.slots.uses[i]?=some u'→if b'=true then 0≤w'∧ ∃e,a.heap[w'.toNat]?=some e∧e.hnd=⟨i,u'⟩ else w'= -1)↔(if b=true then 0≤w∧ ∃e,a.heap[w.toNat]?=some e∧e.hnd=⟨i,u⟩ else w= -1):=
   ⟨fun h=>h b w u hb hw hu,fun h b' w' u' h1 h2 h3=>by rw[hu] at h3;rw[hb] at h1;rw[hw] at h2;cases h1;cases h2;cases h3;exact h⟩
  have nxt:=up1 (show i<1000000000 by omega)
  unfold px;simp only[hP,den_lt,cAG1,cAG3,cAG4,tixM hb (eG _),eltM hb,fq,tixM hw (lenI _),eltM hw,rowI,EV,List.length_map,decide_eq_true_eq,if_lt hi];cases b with
  |false=>
   simp only[Bool.not_false,if_true,Bool.false_eq_true,if_false,EV,Bool.not_eq_true',decide_eq_false_iff_not];by_cases c1:w= -1
   ·rw[if_neg (by omega),if_pos c1];unfold k245_5;simp only[EV,nxt]
   ·rw[if_pos c1,if_neg c1]
  |true=>
   simp only[Bool.not_true,Bool.false_eq_true,if_false,if_true,ge_iff_le];by_cases c1:w<0
   ·rw[if_pos c1,if_neg (by omega)]
   rw[if_neg c1];obtain⟨n,rfl⟩:=eH (show 0≤w by omega)
   by_cases c2:a.heap.length≤n
   ·rw[if_pos (by omega),if_neg (fun h=>by
     obtain⟨_,e,he,_⟩:=h;have:=get_lt he;omega)]
   rw[if_neg (by omega)];obtain⟨e,he⟩: ∃e,a.heap[n]?=some e:=⟨a.heap[n]'(by omega),List.getElem?_eq_getElem _⟩;have ag:RF.ev .agg [.v (.int .i64 (i:Int)),.v (.int .i64 u)]=some (HD ⟨i,u⟩):=rfl;simp only[den_lt,cAG0,cAG3,tixM he (lenE _),eltM he,CI,tixM hu (lenI _),eltM hu,rowI,ag,KV,EV,Int.toNat_natCast,Bool.not_eq_true',decide_eq_false_iff_not];by_cases c3:e.hnd=⟨i,u⟩
   ·rw[if_neg (not_not_intro c3),if_pos ⟨by omega,e,he,c3⟩];unfold k245_5;simp only[EV,nxt]
   ·rw[if_pos c3,if_neg (fun h=>by
     obtain⟨_,e',he',h'⟩:=h;rw[he] at he';cases he';exact c3 h')]
 ·have hpl:dB a:=⟨by omega,by omega,fun i b w u hb hw hu=>hall i (get_lt hw) b w u hb hw hu⟩;unfold px;simp only[EV,decide_eq_true_eq,if_ge];unfold zL;simp only[den_lt,cAG3,EV,List.length_map];refine(run_if (n:=a.heap.length) (P:=fun i=> ∀e,a.heap[i]?=some e→EvOk e∧(∀k,k<i→ ∀e',a.heap[k]?=some e'→e'.number≠e.number)∧ ∀p,0<i→a.heap[(i-1)/2]?=some p→evLess e p=false) (st:=fun i=>[Nm ((a.heap.take i).map (·.number)),.i64 (i:Int)]) (r:=some [.i64 8]) (fin:=some [.i64 0]) (fun i self hi hbef=>?_) (fun _ self=>?_) (by omega)).trans ?_
  ·obtain⟨e,he⟩: ∃e,a.heap[i]?=some e:=⟨a.heap[i],List.getElem?_eq_getElem _⟩;have hP:(∀e',a.heap[i]?=some e'→EvOk e'∧(∀k,k<i→ ∀x,a.heap[k]?=some x→x.number≠e'.number)∧ ∀p,0<i→a.heap[(i-1)/2]?=some p→evLess e' p=false)↔(EvOk e∧(∀k,k<i→ ∀x,a.heap[k]?=some x→x.number≠e.number)∧ ∀p,0<i→a.heap[(i-1)/2]?=some p→evLess e p=false):=
    ⟨fun h=>h e he,fun h e' h1=>by rw[he] at h1;cases h1;exact h⟩
   have hs:(a.heap.take (i+1)).map (·.number)=(a.heap.take i).map (·.number)++[e.number]:=by
    rw[List.take_add_one,he];simp
   have hseen:e.number∉(a.heap.take i).map (·.number)↔ ∀k,k<i→ ∀x,a.heap[k]?=some x→x.number≠e.number:=by
    constructor
    ·intro h j hj g hg e';exact h (List.mem_map.2 ⟨g,List.mem_iff_getElem?.2 ⟨j,by rw[List.getElem?_take_of_lt hj];exact hg⟩,e'⟩)
    ·intro h hm;obtain⟨g,hg,e'⟩:=List.mem_map.1 hm;obtain⟨j,hj⟩:=List.mem_iff_getElem?.1 hg;rw[List.getElem?_take] at hj;split at hj
     ·exact h j (by assumption) g hj e'
     ·cases hj
   unfold pw;simp only[hP,hs,den_lt,cAG3,tixM he (lenE _),eltM he,rowE,pEP,cEP2,phi (c43 (h64 e (List.mem_of_getElem? he))),dz,O2,EV,List.length_map,decide_eq_true_eq,if_lt hi,gt_iff_lt];by_cases c1:rok e.time=true
   rotate_left
   ·rw[if_neg c1,if_neg (fun h=>c1 h.1.1)]
   rw[if_pos c1];by_cases c2:e.number<0
   ·rw[if_pos c2,if_neg (fun h=>by have:=h.1.2;omega)]
   rw[if_neg c2];by_cases c3:1000000<e.number
   ·rw[if_pos c3,if_neg (fun h=>by have:=h.1.2;omega)]
   rw[if_neg c3];by_cases c4:e.number∈(a.heap.take i).map (·.number)
   ·rw[if_pos c4,if_neg (fun h=>absurd c4 (hseen.2 h.2.1))]
   rw[if_neg c4];have nxt:=up1 (show i<1000000000 by omega)
   simp only[den_lt,cEP2,O3 _ c4,EV,decide_eq_true_eq];cases i with
   |zero=>
    rw[if_neg (by omega),if_pos ⟨⟨c1,by omega,by omega⟩,hseen.1 c4,fun p h=>absurd h (Nat.lt_irrefl _)⟩];unfold pu;simp only[EV,Bool.false_eq_true,if_false,nxt]
   |succ j=>
    obtain⟨p,hp⟩: ∃p,a.heap[j/2]?=some p:=⟨a.heap[j/2]'(by omega),List.getElem?_eq_getElem _⟩;have rp:rok p.time=true:=(hbef (j/2) (by omega) p hp).1.1;rw[if_pos (by omega)];simp only[den_lt,f_bin,half (show j<1000000 by omega),cAG3,tixM hp (lenE _),eltM hp,rowE,phi (sC (h64 e (List.mem_of_getElem? he)) (h64 p (List.mem_of_getElem? hp)) c1 rp),EV]
    unfold pu;simp only[EV,decide_eq_true_eq,nxt];by_cases c5:iR e p<0
    ·rw[if_pos c5,if_neg (fun h=>by
      have:=h.2.2 p (by omega) (by simpa using hp)
      rw[(cmpE_lt e p).1 c5] at this;cases this)]
    ·rw[if_neg c5,if_pos ⟨⟨c1,by omega,by omega⟩,hseen.1 c4,fun q _ hq=>by
      rw[Nat.add_sub_cancel,hp] at hq;cases hq;cases h:evLess e p with
      |false=>rfl
      |true=>exact absurd ((cmpE_lt e p).2 h) c5⟩]
  ·unfold pw;simp only[EV,decide_eq_true_eq,if_ge,zK]
  ·have:(∀i,i<a.heap.length→ ∀e,a.heap[i]?=some e→EvOk e∧(∀k,k<i→ ∀e',a.heap[k]?=some e'→e'.number≠e.number)∧ ∀p,0<i→a.heap[(i-1)/2]?=some p→evLess e p=false)↔aW a:=by
    constructor
    ·intro h;refine⟨q1,hpl,fun e he=>?_,?_,fun i e p he hp=>?_⟩
     ·obtain⟨i,hi⟩:=List.mem_iff_getElem?.1 he;exact(h i (get_lt hi) e hi).1
     ·rw[nodup_lt];intro i j x hj hi hjx;rw[List.getElem?_map,Option.map_eq_some_iff] at hi hjx;obtain⟨e,he,rfl⟩:=hi;obtain⟨e',he',h'⟩:=hjx;exact(h i (get_lt he) e he).2.1 j hj e' he' h'
     ·exact(h (i+1) (get_lt he) e he).2.2 p (by omega) (by rw[Nat.add_sub_cancel];exact hp)
    ·rintro⟨_,_,h3,h4,h5⟩ i hi e he;rw[nodup_lt] at h4;refine⟨h3 e (List.mem_of_getElem? he),fun k hk e' he' hn=>?_,fun p hp0 hp=>?_⟩
     ·exact h4 i k e.number hk (by rw[List.getElem?_map,he];rfl) (by rw[List.getElem?_map,he',Option.map_some,hn])
     ·obtain⟨j,rfl⟩: ∃j,i=j+1:=⟨i-1,by omega⟩;exact h5 j e p he (by rw[Nat.add_sub_cancel] at hp;exact hp)
   by_cases hr:aW a
   ·rw[if_pos (this.2 hr),decide_eq_true hr];rfl
   ·rw[if_neg (fun h=>hr (this.1 h)),decide_eq_false hr];rfl
 ·by_cases hall: ∀i,i<a.wher.length→ ∀(b:Bool) (w u:Int),a.slots.used[i]?=some b→a.wher[i]?=some w→a.slots.uses[i]?=some u→if b=true then 0≤w∧ ∃e,a.heap[w.toNat]?=some e∧e.hnd=⟨i,u⟩ else w= -1
  ·rw[if_pos hall]
  ·rw[if_neg hall];exact no (fun h=>hall fun i _=>h.2.1.2.2 i)
theorem jn {c:Clock}(h:okF c.pts)(hr:rok c.now=true){x:Held}(hx:x.cert.ok):bS (ptOf c.pts x.cert.high) (ptOf c.pts x.cert.low) c.now=0↔knownH c.pts x=true:=by
 unfold knownH;rw[Bool.and_eq_true];constructor
 ·intro h0;obtain⟨h1,h2,_,_⟩:=kG h0;have go: ∀id,(ptOf c.pts id).ok=true→inF c.pts id=true:=fun id hp=>by
   cases e:inF c.pts id with
   |true=>rfl
   |false=>rw[lC (rE e)] at hp;simp[Pt.ok] at hp
  exact⟨go _ h2,go _ h1⟩
 ·rintro⟨h1,h2⟩;obtain⟨i,p,a1,a2,a3,a4⟩:=aU h h1;obtain⟨j,q,b1,b2,b3,b4⟩:=aU h h2;rw[a4,b4];exact cD (okF_pt h b1) (okF_pt h a1) hr (by rw[a2,b2];exact fun e=>hx.2.2.2.2 e.symm)
theorem KW {d:Due}{rest:List Due}:RF.ev (.tsub 3) [sl am (d::rest),.v (.int .i64 1),.v (.int .i64 ((rest.length+1:Nat):Int))]=some (sl am rest):=by
 rw[kr,if_pos ⟨by omega,by omega,by simp,by simp[elsOk',am],by decide⟩];simp;exact List.take_of_length_le (by simp)
theorem O7 {n:Nat}:RF.ev .bnd [.v (.int .i64 1),.v (.int .i64 ((n+1:Nat):Int))]=some (.i64 1):=by
 rw[eC,if_pos ⟨by omega,by omega⟩]
theorem O8 (e:Rt)(n:Int)(h:Hnd):RF.ev .agg [R e,.i64 n,HD h]=some (EP ⟨e,n,h⟩):=rfl
open Classical in
theorem sD {c:Clock}(h64:aE c)(hg:gW c):Ans D 153 [CL c] [.i64 (okE (decide (aw c)))]:=by
 obtain⟨hg1,hg2,hg3,hga⟩:=hg;have hg':=hga;unfold gAg gSl at hg';simp only[Bool.or_eq_false_iff,decide_eq_false_iff_not] at hg';have no: ∀h:¬aw c,(some [PV.v (.int .i64 8)]:Option (List PV))=some [.i64 (okE (decide (aw c)))]:=fun h=>by rw[decide_eq_false h];rfl
 have b4: ∀w x y z:Int,RF.ev (.bs 4 [KP.z] [0,1,2,3]) [.i64 w,.i64 x,.i64 y,.i64 z]=some (sl I1 [w,x,y,z]):=fun _ _ _ _=>rfl;refine ans_of Ei Mj rfl ⟨1001,?_⟩;unfold tY;simp only[den_lt,shCL,pCL0,pCL2,pCL3,pCL5,b4,EV,phi (c43 h64.1),phi (c231 _),phi (IB (c:=c.certs) (by omega)),phi (IC hga h64.2)];refine(run_list (m:=1001) (l:=[okE (rok c.now),aZ c.pts,okE (decide (aq c.certs)),okE (decide (aW c.agenda))]) (p:=fun e=>decide (e=0)) (st:=fun i=>[.i64 (i:Int)]) (r:=some [.i64 8]) (fin:=some [.i64 (okE (decide (aw c)))]) (fun i e self he _=>?_) (fun hall self=>?_) (by simp)).trans ?_
 ·have hi:i<4:=by simpa using get_lt he
  unfold oz;have i4:RF.ev .ix [.i64 (i:Int),.v (.int .i64 4)]=some (.i64 (i:Int)):=by rw[KD,if_pos (by omega)]
  have l4:decide ((i:Int)<4)=true:=decide_eq_true (by omega);simp only[EV,l4,eq_self,if_true,i4,eltM he,rowI,up1 (show i<1000000000 by omega),Bool.not_eq_true',decide_eq_true_eq]
  by_cases e0:e=0
  ·rw[decide_eq_true e0,if_neg (by simp),if_pos e0]
  ·rw[decide_eq_false e0,if_pos rfl,if_neg e0]
 ·simp only[List.all_cons,List.all_nil,Bool.and_true,Bool.and_eq_true,decide_eq_true_eq,okE_eq] at hall;obtain⟨h1,h2,h3,h5⟩:=hall;have h2':=fieldE_ok.1 h2;unfold oz;have l4:decide (((4:Nat):Int)<4)=false:=by decide
  simp only[List.length_cons,List.length_nil,Nat.zero_add,Nat.reduceAdd,EV,l4,Bool.false_eq_true,if_false];unfold yL;simp only[den_lt,cCL4,cCL8,cCL9,cCL10,EV,List.length_map,Bool.not_eq_true',decide_eq_false_iff_not];by_cases h6:c.agenda.wher.length=200
  ·rw[if_neg (by omega)];by_cases h7:c.agenda.heap.length=c.due.length
   ·rw[if_neg (by omega)];refine(fv (m:=1001) (l:=c.certs.list) (b:=jG) (g:=dueStep c) (I:=fun _=>True) (S:=fun left i=>[sl am left,.i64 (i:Int)]) (r:=some [.i64 8]) (fin:=fun left=>some [.i64 (if left=[] then 0 else 8)]) (x:=c.due) trivial (fun _ _ _ _ _=>trivial) (fun i h left self hh _=>?_) (fun left self _ hm=>?_) (by omega)).trans ?_
    ·have hx:h.cert.ok:=(h3.2.2.2 i h hh).1;have hk:=jn h2' h1 hx;have hw:=phi (Iy (x:=h.cert) (t:=c.now) h2' h64.1);unfold jG dueStep;generalize hF:failT c.now (ptOf c.pts h.cert.high) (ptOf c.pts h.cert.low)=FT at hw⊢;by_cases hkn:knownH c.pts h=true
     ·rw[if_pos (hk.2 hkn)] at hw;rw[if_pos hkn];simp only[den_lt,cCL4,cCL10,pCL0,pCL2,pCL5,tixM hh (lenH _),eltM hh,rowH,pHP,cHP0,shapeR,hw,EV,List.length_map,decide_eq_true_eq,if_lt (get_lt hh),ge_iff_le,Bool.not_eq_true',decide_true,Bool.not_true,Bool.false_eq_true,if_false];cases hF2:FT.2 with
      |false=>
       simp only[eq_self,if_true,Bool.false_eq_true,if_false];simp only[den_lt,cHP0,cHP1,cHP2,cellR0,cellR1,EV,oy,up1 (show i<1000000000 by have:=get_lt hh;omega)]
      |true=>
       simp only[Bool.true_eq_false,if_false,if_true];cases left with
       |nil=>rw[if_pos (by simp)]
       |cons d rest=>
        have d0:(d::rest)[0]?=some d:=rfl;have t0':RF.ev (.tix 3) [sl am (d::rest),.v (.int .i64 0)]=some (.i64 ((0:Nat):Int)):=tixM d0 (iQ _);rw[if_neg (by simp;omega)];simp only[den_lt,t0',eltM d0,CK,CM,cHD0,cHP0,EV,Bool.not_eq_true',decide_eq_false_iff_not,decide_eq_true_eq,ge_iff_le];by_cases n1:d.number=h.number
        ·rw[if_neg (by simp[n1])];by_cases n2:d.hnd.index<0
         ·rw[if_pos n2,if_neg (fun y=>by have:=y.2.1.1;omega)]
         ·rw[if_neg n2];by_cases n3:200≤d.hnd.index
          ·rw[if_pos n3,if_neg (fun y=>by
            have:=get_lt y.2.1.2.2;have:=h5.2.1.1;omega)]
          ·rw[if_neg n3];obtain⟨ix,hix⟩:=eH (show 0≤d.hnd.index by omega)
           obtain⟨w,hwh⟩: ∃w,c.agenda.wher[ix]?=some w:=⟨c.agenda.wher[ix]'(by omega),List.getElem?_eq_getElem _⟩;obtain⟨b,hb⟩: ∃b,c.agenda.slots.used[ix]?=some b:=⟨c.agenda.slots.used[ix]'(by have:=h5.2.1.1;have:=h5.1.2.2.1;omega),List.getElem?_eq_getElem _⟩;obtain⟨u,hu⟩: ∃u,c.agenda.slots.uses[ix]?=some u:=⟨c.agenda.slots.uses[ix]'(by have:=h5.2.1.1;omega),List.getElem?_eq_getElem _⟩;have hpl:=h5.2.1.2.2 ix b w u hb hwh hu;simp only[den_lt,cCL8,cCL9,cHD0,hix,tixM hwh (lenI _),eltM hwh,rowI,EV,decide_eq_true_eq];by_cases n4:w<0
           ·rw[if_pos n4,if_neg (fun y=>by
             have hl:=y.2.1.2.1;rw[hix,Int.toNat_natCast,hb] at hl;cases hl;rw[if_pos rfl] at hpl;have:=hpl.1;omega)]
           ·rw[if_neg n4];have hbt:b=true:=by
             cases b with
             |true=>rfl
             |false=>rw[if_neg (by simp)] at hpl;omega
            subst hbt;rw[if_pos rfl] at hpl;obtain⟨_,e,he,hex⟩:=hpl;obtain⟨n,rfl⟩:=eH (show 0≤w by omega)
            rw[Int.toNat_natCast] at he;have hD:DueAt c.agenda d h.number FT.1↔e=⟨FT.1,h.number,d.hnd⟩:=by
             constructor
             ·intro y;have hl:=y.2.1.2.2;rw[hix,Int.toNat_natCast,hu] at hl;have:=y.2.2 ix n e hix hwh he;obtain⟨e1,e2,e3⟩:=e;simp only at this hex;rw[this.1,this.2,hex];obtain⟨d1,d2,d3⟩:=d;simp only at hix hl;simp only[Option.some.injEq] at hl;rw[hix,hl]
             ·intro y;subst y;simp only at hex;refine⟨n1,⟨by omega,by rw[hix,Int.toNat_natCast];exact hb,by rw[hix,Int.toNat_natCast,hu,hex]⟩,fun i' n' e' y1 y2 y3=>?_⟩;rw[hix] at y1;have:ix=i':=by omega
              subst this;rw[hwh] at y2;have:(n:Int)=n':=by simpa using y2
              have:n=n':=by omega
              subst this;rw[he] at y3;cases y3;exact⟨rfl,rfl⟩
            have pR:RF.ev (.part 0 2) [R FT.1]=some (R FT.1):=rfl;have pH2:RF.ev (.part 0 2) [HD d.hnd]=some (HD d.hnd):=rfl;simp only[den_lt,cCL8,tixM he (lenE _),eltM he,rowE,pR,pH2,cHP0,O8,Io,EV,Bool.not_eq_true',decide_eq_false_iff_not];by_cases n5:e=⟨FT.1,h.number,d.hnd⟩
            ·rw[if_neg (by simp[n5]),if_pos (hD.2 n5)];simp only[den_lt,List.length_cons,List.length_map,O7,KW,cHP0,cHP1,cHP2,cellR0,cellR1,EV,oy,up1 (show i<1000000000 by have:=get_lt hh;omega)]
            ·rw[if_pos n5,if_neg (fun y=>n5 (hD.1 y))]
        ·rw[if_pos n1,if_neg (fun y=>n1 y.1)]
     ·rw[if_neg (fun y=>hkn (hk.1 y))] at hw;rw[if_neg hkn];simp only[den_lt,cCL4,cCL10,pCL0,pCL2,pCL5,tixM hh (lenH _),eltM hh,rowH,pHP,cHP0,shapeR,hw,EV,List.length_map,decide_eq_true_eq,if_lt (get_lt hh),Bool.not_eq_true',decide_eq_false_iff_not];rw[if_pos (fun y=>hkn (hk.1 y))]
    ·unfold jG;simp only[EV,List.length_map,decide_eq_true_eq,if_ge,yK,gt_iff_lt];cases left with
     |nil=>rw[if_neg (by simp),if_pos rfl]
     |cons d rest=>rw[if_pos (by simp),if_neg (by simp)]
    ·cases hm:foldO (dueStep c) c.due c.certs.list with
     |none=>exact no (fun h=>by rw[h.2.2.2.2.2.2] at hm;cases hm)
     |some left=>
      cases left with
      |nil=>rw[decide_eq_true (show aw c from⟨h1,h2',h3,h5,h6,h7,hm⟩)];rfl
      |cons d rest=>exact no (fun h=>by rw[h.2.2.2.2.2.2] at hm;cases hm)
   ·rw[if_pos (by omega)];exact no (fun h=>h7 h.2.2.2.2.2.1)
  ·rw[if_pos (by omega)];exact no (fun h=>h6 h.2.2.2.2.1)
 ·simp only[List.all_cons,List.all_nil,Bool.and_true,Bool.and_eq_true,decide_eq_true_eq,okE_eq];split
  ·rfl
  ·rename_i hn;exact no (fun h=>hn ⟨h.1,fieldE_ok.2 h.2.1,h.2.2.1,h.2.2.2.1⟩)
open Classical in
theorem sE {c:Clock}(h64:aE c)(hg:gCl c=false):Ans D 153 [CL c] [.i64 (okE (decide (aw c)))]:=sD h64 (gCl_w hg)
theorem ID {l:List Int}(v:Int)(hl:l.length≤1000):Ans D 151 [sl I1 l,.i64 v] [.i64 (cL (fun y=>decide (v=y)) l)]:=by
 refine ans_of Eg Mh rfl ⟨1001,?_⟩;unfold tW;simp only[EV,List.length_map];refine(da (m:=1001) (l:=l) (p:=fun y=>decide (v=y)) (st:=fun i=>[.i64 (i:Int)]) (ret:=fun i=>some [.i64 (i:Int)]) (fin:=some [.i64 (-1)]) (fun i a self ha=>?_) (fun self=>?_) (by omega)).trans mf
 ·unfold ow;simp only[tixM ha (lenI _),eltM ha,rowI,EV,decide_eq_true_eq,if_lt (get_lt ha),up1 (show i<1000000000 by have:=get_lt ha;omega)]
 ·unfold ow;simp only[EV,decide_eq_true_eq,if_ge,yJ]
theorem O9 {l:List Int}(v:Int)(hl:l.length≤1000):Ans D 154 [sl I1 l,.i64 v] [.bool (decide (v∈l))]:=by
 refine ans_of Ej Mk rfl ⟨1,?_⟩;unfold tZ;simp only[EV,phi (ID v hl),ge_iff_le,iN,kJ]
theorem Pa {l:List Crt}(v:Crt)(hl:l.length≤1000):Ans D 247 [sl ac l,CP v] [.i64 (cL (fun y=>decide (v=y)) l)]:=by
 refine ans_of Fa M7 rfl ⟨1001,?_⟩;unfold u7;simp only[den_lt,shCP,EV,List.length_map];refine(da (m:=1001) (l:=l) (p:=fun y=>decide (v=y)) (st:=fun i=>[.i64 (i:Int)]) (ret:=fun i=>some [.i64 (i:Int)]) (fin:=some [.i64 (-1)]) (fun i a self ha=>?_) (fun self=>?_) (by omega)).trans mf
 ·unfold py;simp only[tixM ha (lenC _),eltM ha,rowC,eqvC,EV,decide_eq_true_eq,if_lt (get_lt ha),up1 (show i<1000000000 by have:=get_lt ha;omega)]
 ·unfold py;simp only[EV,decide_eq_true_eq,if_ge,zM]
theorem kK {l:List Crt}(v:Crt)(hl:l.length≤1000):Ans D 155 [sl ac l,CP v] [.bool (decide (v∈l))]:=by
 refine ans_of Ek Ml rfl ⟨1,?_⟩;unfold t6;simp only[den_lt,shCP,EV,phi (Pa v hl),ge_iff_le,iN,kJ]
def JustP (c:Clock)(edges:List Crt):Prop:=edges.length=c.certs.list.length∧ ∀h∈c.certs.list,h.cert∈edges
theorem Bj {l k:List Int}(hl:l.length≤1000):Ans D 163 [sl I1 l,sl I1 k] [.bool (decide (l=k))]:=by
 refine ans_of En Mn rfl ⟨1001,?_⟩;unfold t8;simp only[EV,List.length_map,Bool.not_eq_true',decide_eq_false_iff_not];by_cases h:l.length=k.length
 ·rw[if_neg (by omega)];refine dq h (run_list (l:=l.zip k) (st:=fun i=>[.i64 (i:Int)]) (fun i x self hx _=>?_) (fun _ self=>?_) (by rw[an h];omega))
  ·obtain⟨hp,hq⟩:=aL hx;unfold oC;simp only[tixM hp (lenI _),eltM hp,tixM hq (lenI _),eltM hq,rowI,EV,decide_eq_true_eq,Bool.not_eq_true',decide_eq_false_iff_not,if_lt (get_lt hp),up1 (show i<1000000000 by have:=get_lt hp;omega)]
   by_cases e:x.1=x.2<;>simp[e]
  ·rw[an h];unfold oC;simp only[EV,decide_eq_true_eq,if_ge,yO]
 ·rw[if_pos (by omega),decide_eq_false (fun e=>h (by rw[e]))]
theorem Pb {l k:List Nod}(hl:l.length≤1000):Ans D 165 [sl nrow l,sl nrow k] [.bool (decide (l=k))]:=by
 refine ans_of Eo Mo rfl ⟨1001,?_⟩;unfold ug;simp only[EV,List.length_map,Bool.not_eq_true',decide_eq_false_iff_not];by_cases h:l.length=k.length
 ·rw[if_neg (by omega)];refine dq h (run_list (l:=l.zip k) (st:=fun i=>[.i64 (i:Int)]) (fun i x self hx _=>?_) (fun _ self=>?_) (by rw[an h];omega))
  ·obtain⟨hp,hq⟩:=aL hx;unfold oD;simp only[tixM hp (lenN _),eltM hp,tixM hq (lenN _),eltM hq,rowN,Im,EV,decide_eq_true_eq,Bool.not_eq_true',decide_eq_false_iff_not,if_lt (get_lt hp),up1 (show i<1000000000 by have:=get_lt hp;omega)]
   by_cases e:x.1=x.2<;>simp[e]
  ·rw[an h];unfold oD;simp only[EV,decide_eq_true_eq,if_ge,yP]
 ·rw[if_pos (by omega),decide_eq_false (fun e=>h (by rw[e]))]
def nthI (l:List Int)(i:Nat):Int:=(l[i]?).getD 0
theorem aC {l:List Int}{i:Nat}(h:i<l.length):l[i]?=some (nthI l i):=by
 unfold nthI;rw[List.getElem?_eq_getElem h];rfl
def edgesTo (l:List Int)(n:Nat):List Crt:=(List.range n).map fun i=>⟨nthI l (i+1),nthI l (i/2)⟩
theorem dr (l:List Int)(n:Nat):(edgesTo l n).length=n:=by simp[edgesTo]
theorem m9 (l:List Int)(n:Nat):edgesTo l (n+1)=edgesTo l n++[⟨nthI l (n+1),nthI l (n/2)⟩]:=by
 unfold edgesTo;rw[List.range_succ,List.map_append];rfl
def edgesH (l:List Int):List Crt:=edgesTo l (l.length-1)
theorem aggC (a b:Int):RF.ev .agg [.i64 a,.i64 b]=some (CP ⟨a,b⟩):=rfl
theorem bsC (c:Crt):RF.ev (.bs 1 [KP.z,KP.z] [0]) [CP c]=some (sl ac [c]):=rfl
theorem subC1 (c:Crt):RF.ev .sub [sl ac [c],.v (.int .i64 0),.v (.int .i64 1)]=some (sl ac [c]):=rfl
theorem IE {l:List Int}(hl:l.length≤1000): ∃N,den (PhiS D) N k141 [] [sl I1 l]=some [sl ac (edgesH l)]:=by
 refine⟨1001,?_⟩;unfold k141;simp only[EV];refine run_up (m:=1001) (n:=l.length-1) (st:=fun i=>[sl ac (edgesTo l i),.i64 ((edgesTo l i).length:Int),.i64 ((i+1:Nat):Int)]) (fun i self hi=>?_) (fun self=>?_) (by omega)
 ·have h1:=aC (l:=l) (i:=i+1) (by omega);have h2:=aC (l:=l) (i:=i/2) (by omega);unfold oo;simp only[tixM h1 (lenI _),eltM h1,rowI,tixM h2 (lenI _),eltM h2,aggC,bsC,subC1,half (show i<1000000 by omega),f_bin,EV,List.length_map,decide_eq_true_eq,if_lt (show i+1<l.length by omega),
   aN (f:=ac) (l:=edgesTo l i) (k:=[⟨nthI l (i+1),nthI l (i/2)⟩]) (bytes:=16) (z:=2) (by rw[dr];simp;omega) lenC,up1 (show i+1<1000000000 by omega),←m9]
 ·unfold oo;simp only[EV,List.length_map,decide_eq_true_eq];rw[if_neg (by omega)];unfold yD;simp only[subM,EV];rfl
theorem IF {l:List Int}(hl:l.length≤1000):Ans D 141 [sl I1 l] [sl ac (edgesH l)]:=ans_of D7 L8 rfl (IE hl)
theorem IG {l:List Int}(hl:l.length≤1000):Ans D 170 [sl I1 l] [sl ac (edgesH l)]:=ans_of Et Ms rfl (IE hl)
def JustR (c:Clock)(edges:List Crt):Prop:=c.certs.list.length=edges.length∧ ∀e∈edges,(∃h∈c.certs.list,h.cert=e)∧leads c.now (ptOf c.pts e.high) (ptOf c.pts e.low)=true
open Classical in
theorem c169 {c:Clock}{edges:List Crt}(hF:okF c.pts)(h64:In64 c.now)(hl:edges.length≤1000)(hc:c.certs.list.length≤1000)(hin: ∀e∈edges,inF c.pts e.low=true∧inF c.pts e.high=true):Ans D 169 [CL c,sl ac edges] [.bool (decide (JustR c edges))]:=by
 refine ans_of Es Mr rfl ⟨1001,?_⟩;unfold uj;simp only[den_lt,shCL,cCL4,EV,List.length_map,Bool.not_eq_true',decide_eq_false_iff_not];by_cases h1:c.certs.list.length=edges.length
 ·rw[if_neg (by omega)];refine(run_list (m:=1001) (l:=edges) (p:=fun e=>(c.certs.list.any fun h=>decide (h.cert=e))&& leads c.now (ptOf c.pts e.high) (ptOf c.pts e.low)) (st:=fun i=>[.i64 (i:Int)]) (r:=some [.bool false]) (fin:=some [.bool true]) (fun i e self he _=>?_) (fun _ self=>?_) (by omega)).trans ?_
  ·obtain⟨a1,a2⟩:=hin e (List.mem_of_getElem? he);unfold oJ;simp only[den_lt,pCL0,pCL2,pCL3,tixM he (lenC _),eltM he,rowC,phi (Bh (c:=c.certs) (x:=e) hc),phi (O0 (x:=e) hF h64 a1 a2),EV,List.length_map,decide_eq_true_eq,if_lt (get_lt he),up1 (show i<1000000000 by have:=get_lt he;omega)]
   cases(c.certs.list.any fun h=>decide (h.cert=e))<;>cases leads c.now (ptOf c.pts e.high) (ptOf c.pts e.low)<;>rfl
  ·unfold oJ;simp only[EV,List.length_map,decide_eq_true_eq,if_ge,yS]
  ·have:(edges.all fun e=>(c.certs.list.any fun h=>decide (h.cert=e))&& leads c.now (ptOf c.pts e.high) (ptOf c.pts e.low))=decide (JustR c edges):=by
    rw[Bool.eq_iff_iff,decide_eq_true_eq];unfold JustR;simp[h1]
   rw[this];cases decide (JustR c edges)<;>rfl
 ·rw[if_pos (by omega),decide_eq_false (fun h=>h1 h.1)]
theorem rh {c:Certs}(h:aq c):(c.list.map (·.cert)).Nodup:=by
 rw[nodup_lt];intro i j x hj hi e;rw[List.getElem?_map,Option.map_eq_some_iff] at hi e;obtain⟨a,ha,rfl⟩:=hi;obtain⟨b,hb,e⟩:=e;exact(h.2.2.2 i a ha).2.2.2.2 j hj b hb e
theorem nc {c:Clock}{edges:List Crt}(hc:aq c.certs)(hn:edges.Nodup)(Q:Crt→Prop):
  (edges.length=c.certs.list.length∧ ∀h∈c.certs.list,h.cert∈edges∧Q h.cert)↔(c.certs.list.length=edges.length∧ ∀e∈edges,(∃h∈c.certs.list,h.cert=e)∧Q e):=by
 have key:=fun h:(c.certs.list.map (·.cert)).length=edges.length=>CA (rh hc) hn h Q;constructor
 ·rintro⟨h1,h2⟩;refine⟨h1.symm,fun e he=>?_⟩;obtain⟨a,b⟩:=(key (by rw[List.length_map];omega)).1 (fun x hx=>by
   obtain⟨h,hh,rfl⟩:=List.mem_map.1 hx;exact h2 h hh) e he
  obtain⟨h,hh,e'⟩:=List.mem_map.1 a;exact⟨⟨h,hh,e'⟩,b⟩
 ·rintro⟨h1,h2⟩;refine⟨h1.symm,fun h hh=>?_⟩;exact(key (by rw[List.length_map];omega)).2 (fun x hx=>by
   obtain⟨⟨g,hg,e⟩,b⟩:=h2 x hx;exact⟨List.mem_map.2 ⟨g,hg,e⟩,b⟩) h.cert (List.mem_map.2 ⟨h,hh,rfl⟩)
theorem gg {c:Clock}{edges:List Crt}(hc:aq c.certs)(hn:edges.Nodup)(hQ: ∀e∈edges,leads c.now (ptOf c.pts e.high) (ptOf c.pts e.low)=true):JustP c edges↔JustR c edges:=by
 unfold JustP JustR;rw[←nc hc hn];exact⟨fun h=>⟨h.1,fun x hx=>⟨h.2 x hx,hQ _ (h.2 x hx)⟩⟩,fun h=>⟨h.1,fun x hx=>(h.2 x hx).1⟩⟩
theorem nth_mem {l:List Int}{i:Nat}(h:i<l.length):nthI l i∈l:=List.mem_of_getElem? (aC h)
theorem cE {l:List Int}{e:Crt}(h:e∈edgesH l):e.low∈l∧e.high∈l:=by
 unfold edgesH edgesTo at h;obtain⟨i,hi,rfl⟩:=List.mem_map.1 h;rw[List.mem_range] at hi;exact⟨nth_mem (by omega),nth_mem (by omega)⟩
theorem iB {l:List Int}(h:l.Nodup):(edgesH l).Nodup:=by
 rw[nodup_get];intro i j x hi hj;unfold edgesH edgesTo at hi hj;rw[List.getElem?_map,Option.map_eq_some_iff] at hi hj;obtain⟨a,ha,rfl⟩:=hi;obtain⟨b,hb,e⟩:=hj;have ha':=get_lt ha;have hb':=get_lt hb;rw[List.length_range] at ha' hb';rw[List.getElem?_range ha'] at ha;rw[List.getElem?_range hb'] at hb;cases ha;cases hb;simp only[Crt.mk.injEq] at e;have:=nodup_get.1 h (i+1) (j+1) (nthI l (i+1)) (aC (by omega)) (by rw[←e.1];exact aC (by omega));omega
def bj (k:KHeap):Prop:=aw k.clock∧k.heap.length=k.clock.pts.length∧(∀x∈k.heap,inF k.clock.pts x=true)∧k.heap.Nodup∧JustR k.clock (edgesH k.heap)
theorem in_ids {l:List Pt}{x:Int}:inF l x=true↔x∈l.map Pt.id:=by
 constructor
 ·intro h;unfold inF at h;have h:=of_decide_eq_true h;rcases pos_cases l x with⟨e,_⟩|⟨i,p,h1,h2,h3⟩
  ·omega
  ·exact List.mem_map.2 ⟨p,List.mem_of_getElem? h1,h2⟩
 ·intro h;obtain⟨p,hp,rfl⟩:=List.mem_map.1 h;cases e:inF l p.id with
  |true=>rfl
  |false=>exact absurd rfl (rE e p hp)
theorem dY {k:KHeap}(h:gKh k=false):gCl k.clock=false∧k.heap.length≤70:=by
 unfold gKh at h;simp only[Bool.or_eq_false_iff,decide_eq_false_iff_not] at h;exact⟨h.1,by omega⟩
theorem aP {c:Clock}(h:gCl c=false):c.certs.list.length≤40:=by
 unfold gCl at h;simp only[Bool.or_eq_false_iff,decide_eq_false_iff_not] at h;omega
open Classical in
theorem c81 {k:KHeap}(h64:aE k.clock)(hg:gKh k=false):Ans D 81 [KH k] [.i64 (okE (decide (bj k)))]:=by
 obtain⟨g1,g2⟩:=dY hg;have no: ∀h:¬bj k,(some [PV.v (.int .i64 8)]:Option (List PV))=some [.i64 (okE (decide (bj k)))]:=fun h=>by rw[decide_eq_false h];rfl
 have cKH2:RF.ev (.cell 2) [KH k]=some (sl row k.clock.pts):=rfl;have pKH2:RF.ev (.part 2 1) [KH k]=some (F k.clock.pts):=rfl;refine ans_of H1 s81 rfl ⟨1001,?_⟩;unfold k81;simp only[den_lt,shKH,pKH,cKH,cKH2,EV,List.length_map,phi (sA h64 g1),bf,Bool.not_eq_true',decide_eq_false_iff_not,decide_eq_true_eq];by_cases h1:aw k.clock
 ·rw[if_pos h1];by_cases h2:k.heap.length=k.clock.pts.length
  ·rw[if_neg (by omega)];have hF:=h1.2.1;refine(run_if (m:=1001) (n:=k.heap.length) (P:=fun i=> ∀x,k.heap[i]?=some x→inF k.clock.pts x=true∧ ∀j,j<i→ ∀y,k.heap[j]?=some y→y≠x) (st:=fun i=>[.i64 (i:Int)]) (r:=some [.i64 8]) (fin:=some [.i64 (okE (decide (bj k)))]) (fun i self hi _=>?_) (fun hall self=>?_) (by omega)).trans ?_
   ·have hx:=aC hi;generalize nthI k.heap i=x at hx;have hP:(∀x',k.heap[i]?=some x'→inF k.clock.pts x'=true∧ ∀j,j<i→ ∀y,k.heap[j]?=some y→y≠x')↔(inF k.clock.pts x=true∧ ∀j,j<i→ ∀y,k.heap[j]?=some y→y≠x):=
     ⟨fun h=>h x hx,fun h x' e=>by rw[hx] at e;cases e;exact h⟩
    unfold tu;simp only[hP,den_lt,cKH,pKH2,tixM hx (lenI _),eltM hx,rowI,phi (dG (l:=k.clock.pts) (by have:=hF.1;omega) x),EV,List.length_map,decide_eq_true_eq,if_lt hi];by_cases c1:pos k.clock.pts x<0
    ·rw[if_pos c1,if_neg (fun y=>by have:=of_decide_eq_true y.1;omega)]
    ·rw[if_neg c1];have c1':inF k.clock.pts x=true:=decide_eq_true (by omega);refine(run_if (m:=1001) (n:=i) (P:=fun j=> ∀y,k.heap[j]?=some y→y≠x) (st:=fun i=>[.i64 (i:Int)]) (r:=some [.i64 8]) (fin:=self [.i64 ((i+1:Nat):Int)]) (fun j self' hj _=>?_) (fun _ self'=>?_) (by omega)).trans ?_
     ·have hy:=aC (l:=k.heap) (i:=j) (by omega);generalize nthI k.heap j=y at hy;have hQ:(∀y',k.heap[j]?=some y'→y'≠x)↔y≠x:=⟨fun h=>h y hy,fun h y' e=>by rw[hy] at e;cases e;exact h⟩;unfold k81_3;simp only[hQ,den_lt,cKH,tixM hx (lenI _),eltM hx,tixM hy (lenI _),eltM hy,rowI,EV,decide_eq_true_eq,if_lt hj,up1 (show j<1000000000 by omega)]
      by_cases c4:y=x
      ·rw[if_pos c4,if_neg (by simp[c4])]
      ·rw[if_neg c4,if_pos c4]
     ·unfold k81_3;simp only[EV,decide_eq_true_eq,if_ge,Ds,up1 (show i<1000000000 by omega)]
     ·by_cases hq: ∀j,j<i→ ∀y,k.heap[j]?=some y→y≠x
      ·rw[if_pos hq,if_pos ⟨c1',hq⟩]
      ·rw[if_neg hq,if_neg (fun y=>hq y.2)]
   ·have hin: ∀x∈k.heap,inF k.clock.pts x=true:=fun x hx=>by
     obtain⟨i,hi⟩:=List.mem_iff_getElem?.1 hx;exact(hall i (get_lt hi) x hi).1
    have hnd:k.heap.Nodup:=nodup_lt.2 fun i j x hj hi e=>(hall i (get_lt hi) x hi).2 j hj x e rfl;unfold tu;simp only[den_lt,cKH,EV,List.length_map,decide_eq_true_eq,if_ge,Dr,pKH,phi (IG (l:=k.heap) (by omega)),phi (c169 (c:=k.clock) (edges:=edgesH k.heap) hF h64.1 (by unfold edgesH;rw[dr];omega) (by have:=aP g1;omega) (fun e he=>⟨hin _ (cE he).1,hin _ (cE he).2⟩)),Bool.not_eq_true',decide_eq_false_iff_not];by_cases hj:JustR k.clock (edgesH k.heap)
    ·rw[if_neg (by simp[hj]),decide_eq_true (show bj k from⟨h1,h2,hin,hnd,hj⟩)];rfl
    ·rw[if_pos hj];exact no (fun h=>hj h.2.2.2.2)
   ·by_cases hq: ∀i,i<k.heap.length→ ∀x,k.heap[i]?=some x→inF k.clock.pts x=true∧ ∀j,j<i→ ∀y,k.heap[j]?=some y→y≠x
    ·rw[if_pos hq]
    ·rw[if_neg hq];refine no (fun h=>hq fun i hi x hx=>⟨h.2.2.1 x (List.mem_of_getElem? hx),fun j hj y hy e=>?_⟩);subst e;exact nodup_lt.1 h.2.2.2.1 i j y hj hx hy
  ·rw[if_pos (by omega)];exact no (fun h=>h2 h.2.1)
 ·rw[if_neg h1];exact no (fun h=>h1 h.1)
theorem nf {l:List Pt}{h:List Int}(hs:bh l)(hl:h.length=l.length):(∀p∈l,p.id∈h)↔((∀x∈h,inF l x=true)∧h.Nodup):=by
 constructor
 ·intro a;have hp:=sub_perm (l:=l.map Pt.id) (k:=h) (risen_ids hs) (fun x hx=>by obtain⟨p,hp,rfl⟩:=List.mem_map.1 hx;exact a p hp) (by rw[List.length_map];omega);exact⟨fun x hx=>in_ids.2 (hp.mem_iff.2 hx),hp.nodup_iff.1 (risen_ids hs)⟩
 ·rintro⟨a,b⟩ p hp;have hp':=sub_perm (l:=h) (k:=l.map Pt.id) b (fun x hx=>in_ids.1 (a x hx)) (by rw[List.length_map];omega);exact hp'.mem_iff.2 (List.mem_map.2 ⟨p,hp,rfl⟩)
open Classical in
theorem c77 {k:KHeap}(h64:aE k.clock)(hg:gKh k=false):Ans D 77 [KH k] [.i64 (okE (decide (bj k)))]:=by
 obtain⟨g1,g2⟩:=dY hg;have no: ∀h:¬bj k,(some [PV.v (.int .i64 8)]:Option (List PV))=some [.i64 (okE (decide (bj k)))]:=fun h=>by rw[decide_eq_false h];rfl
 have cKH2:RF.ev (.cell 2) [KH k]=some (sl row k.clock.pts):=rfl;have cKH4:RF.ev (.cell 4) [KH k]=some (sl hrow k.clock.certs.list):=rfl;have pKH2:RF.ev (.part 2 1) [KH k]=some (F k.clock.pts):=rfl;have pKH0:RF.ev (.part 0 2) [KH k]=some (R k.clock.now):=rfl;have el:(edgesH k.heap).length=k.heap.length-1:=by unfold edgesH;rw[dr]
 refine ans_of HX s77 rfl ⟨1001,?_⟩;unfold k77;simp only[den_lt,shKH,pKH,cKH,cKH2,EV,List.length_map,phi (sE h64 g1),bf,Bool.not_eq_true',decide_eq_false_iff_not,decide_eq_true_eq];by_cases h1:aw k.clock
 ·rw[if_pos h1];by_cases h2:k.heap.length=k.clock.pts.length
  ·rw[if_neg (by omega)];have hF:=h1.2.1;refine(run_list (m:=1001) (l:=k.clock.pts) (p:=fun p=>decide (p.id∈k.heap)) (st:=fun i=>[.i64 (i:Int)]) (r:=some [.i64 8]) (fin:=some [.i64 (okE (decide (bj k)))]) (fun i p self hp _=>?_) (fun hall self=>?_) (by omega)).trans ?_
   ·unfold ti;simp only[den_lt,cKH,cKH2,cellP0,tixM hp (row_len _),eltM hp,rowP,phi (O9 (l:=k.heap) p.id (by omega)),EV,decide_eq_true_eq,if_lt (get_lt hp),up1 (show i<1000000000 by have:=get_lt hp;omega)]
    by_cases c1:p.id∈k.heap<;>simp[c1]
   ·have hall: ∀p∈k.clock.pts,p.id∈k.heap:=fun p hp=>of_decide_eq_true (List.all_eq_true.1 hall p hp);obtain⟨hin,hnd⟩:=(nf hF.2.2 h2).1 hall;unfold ti;simp only[den_lt,cKH,cKH4,EV,List.length_map,decide_eq_true_eq,if_ge,Dm,phi (IF (l:=k.heap) (by omega)),Bool.not_eq_true',decide_eq_false_iff_not];by_cases h3:(edgesH k.heap).length=k.clock.certs.list.length
    ·rw[if_neg (by omega)];have hJ:=nc (c:=k.clock) h1.2.2.1 (iB hnd) (fun e=>leads k.clock.now (ptOf k.clock.pts e.high) (ptOf k.clock.pts e.low)=true);refine(run_list (m:=1001) (l:=k.clock.certs.list) (p:=fun h=>decide (h.cert∈edgesH k.heap)&& leads k.clock.now (ptOf k.clock.pts h.cert.high) (ptOf k.clock.pts h.cert.low)) (st:=fun i=>[.i64 (i:Int)]) (r:=some [.i64 8]) (fin:=some [.i64 0]) (fun i h self hh _=>?_) (fun _ self=>?_) (by have:=aP g1;omega)).trans ?_
     ·unfold th;simp only[den_lt,cKH4,pKH0,pKH2,cHP1,cHP2,pHP,tixM hh (lenH _),eltM hh,rowH,phi (kK (l:=edgesH k.heap) h.cert (by omega)),EV,decide_eq_true_eq,if_lt (get_lt hh),up1 (show i<1000000000 by have:=get_lt hh;have:=aP g1;omega)]
      by_cases c1:h.cert∈edgesH k.heap
      ·obtain⟨m1,m2⟩:=cE c1;obtain⟨i1,p,a1,a2,a3,a4⟩:=aU hF (hin _ m1);obtain⟨j1,q,b1,b2,b3,b4⟩:=aU hF (hin _ m2);have hne:q.id≠p.id:=by rw[a2,b2];exact fun e=>(h1.2.2.1.2.2.2 i h hh).1.2.2.2.2 e.symm
       have hA:=phi (Il hF h64.1 h1.1 b1 a1 hne);rw[a2,b2] at hA;simp only[c1,decide_true,Bool.not_true,Bool.false_eq_true,if_false,Bool.true_and,den_lt,cHP1,cHP2,pKH0,pKH2,hA,a4,b4,EV,up1 (show i<1000000000 by have:=get_lt hh;have:=aP g1;omega)]
       cases leads k.clock.now q p<;>simp
      ·simp[c1]
     ·unfold th;simp only[EV,decide_eq_true_eq,if_ge,Dl]
     ·have:(k.clock.certs.list.all fun h=>decide (h.cert∈edgesH k.heap)&& leads k.clock.now (ptOf k.clock.pts h.cert.high) (ptOf k.clock.pts h.cert.low))=true↔bj k:=by
       rw[List.all_eq_true];simp only[Bool.and_eq_true,decide_eq_true_eq];constructor
       ·intro h;exact⟨h1,h2,hin,hnd,hJ.1 ⟨h3,h⟩⟩
       ·intro h;exact(hJ.2 h.2.2.2.2).2
      by_cases hr:bj k
      ·rw[if_pos (this.2 hr),decide_eq_true hr];rfl
      ·rw[if_neg (fun h=>hr (this.1 h)),decide_eq_false hr];rfl
    ·rw[if_pos (by omega)];exact no (fun h=>h3 h.2.2.2.2.1.symm)
   ·by_cases hq:(k.clock.pts.all fun p=>decide (p.id∈k.heap))=true
    ·rw[if_pos hq]
    ·rw[if_neg hq];refine no (fun h=>hq (List.all_eq_true.2 fun p hp=>decide_eq_true ((nf hF.2.2 h2).2 ⟨h.2.2.1,h.2.2.2.1⟩ p hp)))
  ·rw[if_pos (by omega)];exact no (fun h=>h2 h.2.1)
 ·rw[if_neg h1];exact no (fun h=>h1 h.1)
theorem jo {α:Type}(p:α→Bool): ∀(l:List α) (n:Nat),l.foldl (fun n q=>if p q=true then n+1 else n) n=n+(l.filter p).length
 |[],n=>rfl
 |a::l,n=>by
  rw[List.foldl_cons,jo p l,List.filter_cons];cases p a
  ·rfl
  ·simp only[if_true,List.length_cons];omega
theorem Pc {l:List Pt}{t:Rt}(h:okF l)(ht:In64 t){i:Nat}{p:Pt}(hp:l[i]?=some p):Ans D 243 [F l,PP p,R t] [.i64 (rank t l p:Nat)]:=by
 have hl:=h.1;refine ans_of E6 M3 rfl ⟨1001,?_⟩;unfold uW;simp only[den_lt,shapeF,shapeP,shapeR,EV];have e0:([PV.v (.int .i64 0),.v (.int .i64 0)]:List PV)=[.i64 ((0:Nat):Int),.i64 ((0:Nat):Int)]:=rfl;rw[e0];refine(bv (m:=1001) (l:=l) (g:=fun n q=>if(decide (q.id≠p.id)&& leads t q p)=true then n+1 else n) (I:=fun i n=>n≤i) (S:=fun n i=>[.i64 ((n:Nat):Int),.i64 (i:Int)]) (fin:=fun n=>some [.i64 ((n:Nat):Int)]) (x:=0) (Nat.le_refl _) (fun i a acc _ h=>by split<;>omega) (fun i q acc self hq hI=>?_) (fun acc self _=>?_) (by omega)).1.trans ?_
 ·unfold po;have hi:=get_lt hq;simp only[den_lt,cellF,cellP0,tixM hq (row_len _),eltM hq,rowP,cM,EV,List.length_map,decide_eq_true_eq,if_lt hi,Bool.not_eq_true',decide_eq_false_iff_not,zI,phi (c323 (okF_pt h hq) (okF_pt h hp) ht)];by_cases c1:q.id=p.id
  ·rw[if_neg (by simp[c1])];simp only[Bool.false_eq_true,if_false,EV,jN,up1 (show i<1000000000 by omega)]
   simp[c1]
  ·rw[if_pos c1];cases leads t q p with
   |true=>simp only[if_true,EV,jN,up1 (show i<1000000000 by omega),up1 (show acc<1000000000 by omega)];simp[c1]
   |false=>simp only[Bool.false_eq_true,if_false,EV,jN,up1 (show i<1000000000 by omega)];simp
 ·unfold po;simp only[den_lt,cellF,EV,List.length_map,decide_eq_true_eq,if_ge,zH]
 ·rw[jo (fun q=>decide (q.id≠p.id)&& leads t q p),Nat.zero_add];rfl
theorem gh (t:Rt)(l:List Pt): ∀(ps:List Pt) (out:List Int),Bnd.ordered t l ps out=ps.foldl (fun out p=>out.set (rank t l p) p.id) out
 |[],out=>rfl
 |p::ps,out=>by unfold Bnd.ordered;rw[gh t l ps,List.foldl_cons]
theorem rF {t:Rt}{l:List Pt}{p:Pt}(h:p∈l):rank t l p<l.length:=by
 unfold rank;rw[List.length_filter_lt_length_iff_exists];exact⟨p,h,by simp⟩
theorem gi {n:Nat}(h:n≤1000):RF.ev (.rep [KP.z] 8) [.v (.int .i64 (n:Int)),.v (.int .i64 (n:Int))]=some (sl I1 (List.replicate n 0)):=by
 rw[xn,if_pos ⟨by omega,by omega,by omega,by omega⟩,Int.toNat_natCast];show _=some (PV.sl ((List.replicate n 0).map I1))
 rw[List.map_replicate];rfl
theorem setI {l:List Int}{i:Nat}(h:i<l.length)(x:Int):RF.ev (.set 0) [sl I1 l,.v (.int .i64 (i:Int)),.v (.int .i64 x)]=some (sl I1 (l.set i x)):=by
 rw[ku,if_pos (by omega),Int.toNat_natCast,List.getElem?_map,List.getElem?_eq_getElem h];have e:(I1 l[i]).length=1:=rfl;simp only[Option.map_some,e,show(PV.v (.int .i64 x)).cells=[.v (.int .i64 x)] from rfl,List.length_singleton,Nat.zero_add,Nat.le_refl,if_true]
 exact congrArg (fun x=>some (PV.sl x)) (List.map_set (f:=I1) (l:=l) (i:=i) (a:=x)).symm
theorem sF {l:List Pt}{t:Rt}(h:okF l)(ht:In64 t):Ans D 152 [F l,R t] [sl I1 ((be t l).map Pt.id)]:=by
 have hl:=h.1;refine ans_of Eh Mi rfl ⟨1001,?_⟩;unfold tX;simp only[den_lt,shapeF,shapeR,cellF,gi (show l.length≤1000 by omega),EV,List.length_map,List.length_replicate]
 refine(bv (m:=1001) (l:=l) (g:=fun out p=>out.set (rank t l p) p.id) (I:=fun _ out=>out.length=l.length) (S:=fun out i=>[sl I1 out,.i64 (i:Int)]) (fin:=fun out=>some [sl I1 out]) (x:=List.replicate l.length 0) (by simp) (fun i a acc _ h=>by simpa using h) (fun i p acc self hp hI=>?_) (fun acc self hI=>?_) (by omega)).1.trans ?_
 ·unfold ox;simp only[den_lt,cellF,tixM hp (row_len _),eltM hp,rowP,cM,EV,List.length_map,decide_eq_true_eq,if_lt (get_lt hp),phi (Pc h ht hp),ixM (rF (List.mem_of_getElem? hp)),setI (show rank t l p<acc.length by rw[hI];exact rF (List.mem_of_getElem? hp)),up1 (show i<1000000000 by have:=get_lt hp;omega)]
 ·unfold ox;have:=subM (f:=I1) (l:=acc);rw[hI] at this;simp only[den_lt,cellF,EV,List.length_map,decide_eq_true_eq,if_ge,k152_1,this]
 ·rw[←gh,xw (risen_ids h.2.2) (by simp)]
def cj (x:Int×Int):List PV:=[.i64 x.1,.i64 x.2]
theorem lenP (x:Int×Int):(cj x).length=2:=rfl
theorem rowP1 (x:Int×Int):rowPart 0 0 (cj x)=some (.i64 x.1):=rfl
theorem rowP2 (x:Int×Int):rowPart 1 0 (cj x)=some (.i64 x.2):=rfl
theorem lD (l:List Int)(d:Nat):(sideI l d 0).length+(sideI l d 1).length≤l.length:=by
 unfold sideI;induction l with
 |nil=>simp
 |cons x l ih=>
  rw[List.filter_cons,List.filter_cons,List.length_cons];by_cases h0:bitI x d=0
  ·simp only[h0,decide_true,if_true,List.length_cons,Int.reduceEq,decide_false,Bool.false_eq_true,if_false];omega
  ·by_cases h1:bitI x d=1
   ·simp only[h1,decide_true,if_true,List.length_cons,Int.reduceEq,decide_false,Bool.false_eq_true,if_false];omega
   ·simp only[h0,h1,decide_false,Bool.false_eq_true,if_false];omega
theorem ei: ∀(n:Nat) (l:List Int) (f:Int) (d:Nat),l.length≤n→(hangR l f d).length≤l.length
 |0,l,f,d,h=>by
  have hl:l=[]:=List.length_eq_zero_iff.1 (by omega);subst hl;unfold hangR;simp
 |n+1,[],f,d,_=>by unfold hangR;simp
 |n+1,o::os,f,d,h=>by
  unfold hangR;simp only[List.length_cons,List.length_append] at h⊢;have h0:=f7 (l:=os) (d:=d) (b:=0);have h1:=f7 (l:=os) (d:=d) (b:=1);have a:=ei n (sideI os d 0) o (d+1) (by omega);have b:=ei n (sideI os d 1) o (d+1) (by omega);have:=lD os d;omega
theorem iC {α:Type}(p:α→Bool): ∀(l acc:List α),l.foldl (fun acc x=>if p x=true then acc++[x] else acc) acc=acc++l.filter p
 |[],acc=>by simp
 |a::l,acc=>by
  rw[List.foldl_cons,iC p l,List.filter_cons];cases p a<;>simp
theorem bsI (x:Int):RF.ev (.bs 1 [KP.z] [0]) [.i64 x]=some (sl I1 [x]):=rfl
theorem subI1 (x:Int):RF.ev .sub [sl I1 [x],.v (.int .i64 0),.v (.int .i64 1)]=some (sl I1 [x]):=rfl
theorem IH {x:Int}(h:0≤x)(d:Nat):intB .shr .i64 x .i64 (d:Int)=some (.v (.int .i64 (x.fdiv (2^(min d 64)))))∧intB .rem .i64 (x.fdiv (2^(min d 64))) .i64 2=some (.v (.int .i64 (bitI x d))):=by
 constructor
 ·rw[xq,if_neg (by omega),Int.toNat_natCast];rfl
 ·rw[mP,if_neg (by decide)];unfold bitI;have:0≤x.fdiv (2^(min d 64)):=by
   rw[Int.fdiv_eq_ediv_of_nonneg _ (Int.le_of_lt (Int.pow_pos (by decide)))];exact Int.ediv_nonneg h (Int.le_of_lt (Int.pow_pos (by decide)))
  rw[Int.tmod_eq_emod_of_nonneg this]
theorem Pd: ∀(n:Nat) (os:List Int) (f:Int) (d:Nat),os.length≤n→n≤1000→d+n≤10000→(∀x∈os,0≤x)→Ans D 269 [sl I1 os,.i64 f,.i64 (d:Int)] [sl cj (hangR os f d)]:=by
 intro n;induction n with
 |zero=>
  intro os f d h _ _ _;have hl:os=[]:=List.length_eq_zero_iff.1 (by omega);subst hl;refine ans_of kD A7 rfl ⟨1001,?_⟩;unfold kS hangR;simp only[EV,List.length_map,List.length_nil,Int.natCast_zero,decide_true,if_true];rfl
 |succ n ih=>
  intro os f d h hn hd h0;cases os with
  |nil=>
   refine ans_of kD A7 rfl ⟨1001,?_⟩;unfold kS hangR;simp only[EV,List.length_map,List.length_nil,Int.natCast_zero,decide_true,if_true];rfl
  |cons o os=>
   simp only[List.length_cons] at h;have hlen:=lD os d;have hs: ∀b,(sideI os d b).length≤n∧ ∀x∈sideI os d b,0≤x:=fun b=>⟨by have:=f7 (l:=os) (d:=d) (b:=b);omega,fun x hx=>h0 x (List.mem_cons_of_mem _ (List.mem_filter.1 hx).1)⟩;have hr:=fun b=>ei n (sideI os d b) o (d+1) (hs b).1;have hh:=fun b=>phi (ih (sideI os d b) o (d+1) (hs b).1 (by omega) (by omega) (hs b).2);have o0:(o::os)[0]?=some o:=rfl;have tx0:RF.ev (.tix 1) [sl I1 (o::os),.v (.int .i64 0)]=some (.i64 ((0:Nat):Int)):=tixM o0 (lenI _);have ag:RF.ev .agg [.i64 o,.i64 f]=some (.agg (cj (o,f))):=rfl;have bs:RF.ev (.bs 1 [KP.z,KP.z] [0]) [.agg (cj (o,f))]=some (sl cj [(o,f)]):=rfl
   let outs:Nat→List (Int×Int):=fun i=>match i with|0=>[(o,f)]|1=>[(o,f)]++hangR (sideI os d 0) o (d+1)|_=>[(o,f)]++hangR (sideI os d 0) o (d+1)++hangR (sideI os d 1) o (d+1)
   refine ans_of kD A7 rfl ⟨1001,?_⟩;unfold kS;have ne:decide (((o::os).length:Int)=0)=false:=decide_eq_false (by simp;omega);simp only[tx0,eltM o0,rowI,ag,bs,EV,List.length_map,ne,Bool.false_eq_true,if_false];refine(run_up (m:=1001) (n:=2) (st:=fun i=>[sl cj (outs i),.i64 ((outs i).length:Int),.i64 (i:Int)]) (fin:=some [sl cj (outs 2)]) (fun i self hi=>?_) (fun self=>?_) (by omega)).trans ?_
   ·unfold pI;have l2:decide ((i:Int)<2)=true:=decide_eq_true (by omega);simp only[EV,l2,eq_self,if_true];have e0:([PV.sl [],.v (.int .i64 0),.v (.int .i64 1)]:List PV)=[sl I1 ([]:List Int),.i64 ((([]:List Int).length:Nat):Int),.i64 ((0+1:Nat):Int)]:=rfl;rw[e0];refine(bv (m:=1001) (l:=os) (g:=fun acc x=>if decide (bitI x d=(i:Int))=true then acc++[x] else acc) (I:=fun i acc=>acc.length≤i) (S:=fun acc k=>[sl I1 acc,.i64 (acc.length:Int),.i64 ((k+1:Nat):Int)]) (fin:=fun acc=>den (PhiS D) 1001 pF [eO (PhiS D) 1001 pE [] [sl I1 (o::os),.i64 f,.i64 (d:Int),.v (.int .i64 ((o::os).length:Int)),.v (.bool false),.i64 ((0:Nat):Int),.i64 o,.agg (cj (o,f)),sl cj [(o,f)]],self] [sl I1 (o::os),.i64 f,.i64 (d:Int),.v (.int .i64 ((o::os).length:Int)),.v (.bool false),.i64 ((0:Nat):Int),.i64 o,.agg (cj (o,f)),sl cj [(o,f)],sl cj (outs i),.i64 ((outs i).length:Int),.i64 (i:Int),.v (.bool true),.i64 ((os.length+1:Nat):Int),sl I1 acc,.i64 (acc.length:Int),.v (.int .i64 ((o::os).length:Int)),.v (.bool (decide (((os.length+1:Nat):Int)<((o::os).length:Int))))]) (x:=[]) (by simp) (fun i a acc _ h=>by
     split
     ·rw[List.length_append,List.length_singleton];omega
     ·omega) (fun k x acc self' hx hI=>?_) (fun acc self' hI=>?_) (by omega)).1.trans ?_
    ·have hx':(o::os)[k+1]?=some x:=by simpa using hx
     have hk:=get_lt hx;obtain⟨b1,b2⟩:=IH (h0 x (List.mem_cons_of_mem _ (List.mem_of_getElem? hx))) d;unfold pG;simp only[tixM hx' (lenI _),eltM hx',rowI,f_bin,b1,b2,EV,List.length_map,decide_eq_true_eq,if_lt (show k+1<(o::os).length by simp;omega),jO]
     by_cases c1:bitI x d=(i:Int)
     ·rw[if_pos c1,if_pos c1];simp only[tixM hx' (lenI _),eltM hx',rowI,bsI,subI1,aN (f:=I1) (l:=acc) (k:=[x]) (bytes:=8) (z:=1) (by simp;omega) lenI,EV,List.length_map,jO,up1 (show k+1<1000000000 by omega)]
     ·rw[if_neg c1,if_neg c1];simp only[EV,jO,up1 (show k+1<1000000000 by omega)]
    ·unfold pG;simp only[EV,List.length_map,decide_eq_true_eq];rw[if_neg (by simp)]
    ·rw[iC (fun x=>decide (bitI x d=(i:Int))),List.nil_append];have hi2:=hh (i:Int);have he:(List.filter (fun x=>decide (bitI x d=(i:Int))) os)=sideI os d (i:Int):=rfl;rw[he];unfold pF;have ho:(outs i).length≤2000:=by
      have:=hr 0
      match i,hi with
      |0,_=>simp[outs]
      |1,_=>simp[outs];omega
     have hn1:outs i++hangR (sideI os d (i:Int)) o (d+1)=outs (i+1):=by
      match i,hi with
      |0,_=>rfl
      |1,_=>rfl
     have hd1:IntKind.i64.wrap ((d:Int)+1)=((d+1:Nat):Int):=up1 (by omega);simp only[tx0,eltM o0,rowI,subM,EV,hd1,hi2,aN (f:=cj) (l:=outs i) (k:=hangR (sideI os d (i:Int)) o (d+1)) (bytes:=16) (z:=2) (by have:=hr (i:Int);have:=(hs (i:Int)).1;omega) lenP,List.length_map,hn1,up1 (show i<1000000000 by omega)]
   ·unfold pI;simp only[EV,show decide (((2:Nat):Int)<2)=false from rfl,Bool.false_eq_true,if_false,pE,subM]
   ·unfold hangR;simp only[outs,List.cons_append,List.nil_append]
theorem sG {t:Rt}: ∀(n:Nat) (l:List Pt) (f:Int) (d:Nat),l.length≤n→Ids l→((hangP t l f d).map (·.1)).Nodup:=by
 intro n;induction n with
 |zero=>
  intro l f d h _;have:l=[]:=List.length_eq_zero_iff.1 (by omega);subst this;rw[hangP];simp
 |succ n ih=>
  intro l f d h hi;cases l with
  |nil=>rw[hangP];simp
  |cons p l=>
   simp only[List.length_cons] at h;have hmem: ∀(bt:Int) (x:Pt),x∈side (p::l) (topP t l p).id d bt→x∈p::l∧x.id≠(topP t l p).id∧bitI x.id d=bt:=fun bt x hx=>by
    unfold side at hx;obtain⟨h1,h2⟩:=List.mem_filter.1 hx;simp only[Bool.and_eq_true,decide_eq_true_eq] at h2;exact⟨h1,h2.1,h2.2⟩
   have hs: ∀bt:Int,(side (p::l) (topP t l p).id d bt).length≤n:=fun bt=>by
    have:=dS (t:=t) (p:=p) (l:=l) (d:=d) (b:=bt);omega
   have hid: ∀bt:Int,Ids (side (p::l) (topP t l p).id d bt):=fun bt=>hi.filter _;have fac:=fun bt:Int=>ct (t:=t) n (side (p::l) (topP t l p).id d bt) (topP t l p).id (d+1) (hs bt) (hid bt);rw[hangP,List.map_cons,List.map_append,List.nodup_cons,List.nodup_append];refine⟨fun hm=>?_,ih _ _ _ (hs 0) (hid 0),ih _ _ _ (hs 1) (hid 1),fun a ha b hb e=>?_⟩
   ·rcases List.mem_append.1 hm with hm|hm
    ·obtain⟨y,hy,e⟩:=List.mem_map.1 hm;obtain⟨z,hz,hz1,_⟩:=fac 0 y hy;exact(hmem 0 z hz).2.1 (by rw[hz1,e])
    ·obtain⟨y,hy,e⟩:=List.mem_map.1 hm;obtain⟨z,hz,hz1,_⟩:=fac 1 y hy;exact(hmem 1 z hz).2.1 (by rw[hz1,e])
   ·obtain⟨y,hy,e1⟩:=List.mem_map.1 ha;obtain⟨w,hw,e2⟩:=List.mem_map.1 hb;obtain⟨z,hz,hz1,_⟩:=fac 0 y hy;obtain⟨u,hu,hu1,_⟩:=fac 1 w hw;have:z=u:=hi.inj (hmem 0 z hz).1 (hmem 1 u hu).1 (by rw[hz1,hu1,e1,e2,e]);subst this;have:=(hmem 0 z hz).2.2;rw[(hmem 1 z hu).2.2] at this;cases this
theorem rG {k v:Int}: ∀{ps:List (Int×Int)},(∀x∈ps,x.1≠k)→luk ps k v=v
 |[],_=>rfl
 |x::ps,h=>by
  show luk ps k (if x.1=k then x.2 else v)=v
  rw[if_neg (h x (by simp))];exact rG fun y hy=>h y (by simp[hy])
def Hm (ps:List (Int×Int)):PV:= .sl (ps.map fun x=>[.i64 x.1,.i64 x.2])
theorem CN {k v:Int}: ∀(ps:List (Int×Int)),(∀x∈ps,x.1≠k)→mapSet [.i] [.i64 k] [.i64 v] (ps.map fun x=>[.i64 x.1,.i64 x.2])=some ((ps++[(k,v)]).map fun x=>[.i64 x.1,.i64 x.2])
 |[],_=>by simp[mapSet,eqN]
 |a::l,h=>by
  simp only[List.map_cons,List.cons_append,mapSet];rw[show([PV.i64 a.1,.i64 a.2].take [Ck.i].length)=[.i64 a.1] from rfl,eqN,decide_eq_false (h a (by simp))]
  simp only;rw[CN l (fun x hx=>h x (by simp[hx]))]
theorem Pe {ps:List (Int×Int)}{k v:Int}(h: ∀x∈ps,x.1≠k):RF.ev (.mset [.i] 1) [Hm ps,.v (.int .i64 k),.v (.int .i64 v)]=some (Hm (ps++[(k,v)])):=by
 unfold Hm;simp only[RF.ev,show(PV.v (.int .i64 k)).cells=[.i64 k] from rfl,show(PV.v (.int .i64 v)).cells=[.i64 v] from rfl,CN ps h]
 rfl
theorem CO {k:Int}: ∀(ps:List (Int×Int)),(ps.map (·.1)).Nodup→ ∀v,∃r,mapGet [.i] [.i64 k] (ps.map fun x=>[.i64 x.1,.i64 x.2])=some r∧r.getD [.i64 v]=[.i64 (luk ps k v)]
 |[],_,v=>⟨none,by simp[mapGet,eqN],rfl⟩
 |a::l,h,v=>by
  rw[List.map_cons,List.nodup_cons] at h;simp only[List.map_cons,mapGet];rw[show([PV.i64 a.1,.i64 a.2].take [Ck.i].length)=[.i64 a.1] from rfl,eqN]
  by_cases e:a.1=k
  ·rw[decide_eq_true e];refine⟨some [.i64 a.2],rfl,?_⟩;show [PV.i64 a.2]=[.i64 (luk l k (if a.1=k then a.2 else v))]
   rw[if_pos e,rG fun y hy e'=>h.1 (by rw[e,←e'];exact List.mem_map.2 ⟨y,hy,rfl⟩)]
  ·rw[decide_eq_false e];obtain⟨r,h1,h2⟩:=CO l h.2 v;refine⟨r,h1,?_⟩;show _=[PV.i64 (luk l k (if a.1=k then a.2 else v))]
   rw[if_neg e,h2]
theorem Pf {ps:List (Int×Int)}{k:Int}(h:(ps.map (·.1)).Nodup):RF.ev (.mget [.i] [KP.z]) [Hm ps,.v (.int .i64 k)]=some (.i64 (luk ps k 0)):=by
 obtain⟨r,h1,h2⟩:=CO ps h 0 (k:=k);unfold Hm;simp only[RF.ev,show(PV.v (.int .i64 k)).cells=[.i64 k] from rfl,h1]
 exact congrArg (fun x=>some (qi x)) h2
theorem Pg {a:Int}(h0:0≤a)(h1:a<4611686018427387904):intB .and .i64 a .i64 1=some (.v (.int .i64 (a% 2))):=by
 rw[i_and]
 congr 3
 have e:(BitVec.ofInt IntKind.i64.bits a&&& BitVec.ofInt IntKind.i64.bits 1).toNat=a.toNat% 2:=by
  show(BitVec.ofInt 64 a&&& BitVec.ofInt 64 1).toNat=_
  rw[BitVec.toNat_and,BitVec.toNat_ofInt,show(BitVec.ofInt 64 1).toNat=1 from by decide,Nat.and_one_is_mod]
  omega
 rw[e,ah (by omega) (by omega)];omega
theorem Ph {x:Int}(h:0≤x)(h1:x<4611686018427387904)(d:Nat):intB .shr .i64 x .i64 (d:Int)=some (.v (.int .i64 (x.fdiv (2^(min d 64)))))∧intB .and .i64 (x.fdiv (2^(min d 64))) .i64 1=some (.v (.int .i64 (bitI x d))):=by
 refine⟨(IH h d).1,?_⟩;have hp:(0:Int)<2^(min d 64):=Int.pow_pos (by decide);rw[Int.fdiv_eq_ediv_of_nonneg _ (Int.le_of_lt hp)];have h2:0≤x/2^(min d 64):=Int.ediv_nonneg h (Int.le_of_lt hp);have h3:x/2^(min d 64)≤x:=Int.ediv_le_self _ h;rw[Pg h2 (by omega)];unfold bitI;rw[Int.fdiv_eq_ediv_of_nonneg _ (Int.le_of_lt hp)]
theorem bit_two (x:Int)(d:Nat):bitI x d=0∨bitI x d=1:=by
 unfold bitI;omega
theorem dI {α:Type}(p q:α→Bool): ∀(l a b:List α),l.foldl (fun(acc:List α×List α) x=>if p x=true then(acc.1++[x],acc.2) else if q x=true then(acc.1,acc.2++[x]) else acc) (a,b)=(a++l.filter p,b++l.filter fun x=>!p x&& q x)
 |[],a,b=>by simp
 |x::l,a,b=>by
  rw[List.foldl_cons,List.filter_cons,List.filter_cons];cases hp:p x with
  |true=>simp only[if_true,Bool.not_true,Bool.false_and,Bool.false_eq_true,if_false,dI p q l,List.append_assoc,List.singleton_append]
  |false=>
   cases hq:q x with
   |true=>simp only[if_true,Bool.not_false,Bool.true_and,Bool.false_eq_true,if_false,dI p q l,List.append_assoc,List.singleton_append]
   |false=>simp only[Bool.not_false,Bool.true_and,Bool.false_eq_true,if_false,dI p q l]
theorem lE (t:Rt): ∀(l:List Pt) (b:Pt),l.foldl (fun b p=>if leads t p b=true then p else b) b=topP t l b
 |[],_=>rfl
 |p::l,b=>by rw[List.foldl_cons,lE t l];rfl
theorem aggP (p:Pt):RF.ev .agg [.v (.int .i64 p.id),.v (.int .i64 p.a),.v (.int .i64 p.b)]=some (PP p):=rfl
theorem bsP (p:Pt):RF.ev (.bs 1 [KP.z,KP.z,KP.z] [0]) [PP p]=some (sl row [p]):=rfl
theorem CQ (p:Pt):RF.ev .sub [sl row [p],.v (.int .i64 0),.v (.int .i64 1)]=some (sl row [p]):=rfl
theorem Pi {t:Rt}(ht:In64 t)(hr:rok t=true): ∀(n:Nat) (l:List Pt) (f:Int) (d:Nat) (ps:List (Int×Int)),l.length≤n→n≤1000→d+n≤10000→(∀p∈l,p.ok=true)→Ids l→(∀x∈ps,∀p∈l,x.1≠p.id)→Ans D 221 [sl row l,R t,.i64 f,.i64 (d:Int),.sl [],Hm ps] [Hm (ps++hangP t l f d)]:=by
 intro n;induction n with
 |zero=>
  intro l f d ps h _ _ _ _ _;have hl:l=[]:=List.length_eq_zero_iff.1 (by omega);subst hl;refine ans_of kC A6 rfl ⟨1,?_⟩;unfold kR;rw[hangP,List.append_nil];simp only[den_lt,shapeR,EV,List.length_map,List.length_nil,Int.natCast_zero,decide_true,if_true]
 |succ n ih=>
  intro l f d ps h hn hd hok hids hps;cases l with
  |nil=>
   refine ans_of kC A6 rfl ⟨1,?_⟩;unfold kR;rw[hangP,List.append_nil];simp only[den_lt,shapeR,EV,List.length_map,List.length_nil,Int.natCast_zero,decide_true,if_true]
  |cons p0 l=>
   simp only[List.length_cons] at h;have hbn: ∀p∈p0::l,0≤p.id∧p.id≤65535:=fun p hp=>by have:=Pt.bnd (hok p hp);omega
   have htop:topP t l p0∈p0::l:=by
    rcases topP_mem t l p0 with e|e
    ·rw[e];simp
    ·simp[e]
   have o0:(p0::l)[0]?=some p0:=rfl;have tx0:RF.ev (.tix 3) [sl row (p0::l),.v (.int .i64 0)]=some (.i64 ((0:Nat):Int)):=tixM o0 (row_len _);have bn:RF.ev .bnd [.v (.int .i64 1),.v (.int .i64 (((p0::l).length:Nat):Int))]=some (.i64 1):=by rw[eC,if_pos ⟨by omega,by simp;omega⟩]
   have ts:RF.ev (.tsub 3) [sl row (p0::l),.v (.int .i64 1),.v (.int .i64 (((p0::l).length:Nat):Int))]=some (sl row l):=by
    rw[kr,if_pos ⟨by omega,by simp;omega,by simp,rfl,by decide⟩];simp[List.take_of_length_le]
   have ne:decide (((p0::l).length:Int)=0)=false:=decide_eq_false (by simp;omega);refine ans_of kC A6 rfl ⟨1001,?_⟩;unfold kR;simp only[den_lt,shapeR,tx0,eltM o0,rowP,bn,ts,cellP0,cellP1,cellP2,EV,List.length_map,ne,Bool.false_eq_true,if_false];refine(bv (m:=1001) (l:=l) (g:=fun b p=>if leads t p b=true then p else b) (I:=fun i b=>b=p0∨ ∃j,j<i∧l[j]?=some b) (S:=fun b i=>[.i64 b.id,.i64 b.a,.i64 b.b,.i64 (i:Int)]) (fin:=fun b=>den (PhiS D) 1001 pb [] [sl row (p0::l),R t,.i64 f,.i64 (d:Int),.sl [],Hm ps,R t,.v (.int .i64 (((p0::l).length:Nat):Int)),.v (.bool false),.i64 ((0:Nat):Int),PP p0,.v (.int .i64 (((p0::l).length:Nat):Int)),.i64 1,sl row l,.v (.int .i64 ((l.length:Nat):Int)),.i64 b.id,.i64 b.a,.i64 b.b]) (x:=p0) (.inl rfl) (fun i a b ha hI=>?_) (fun i p b self hp hI=>?_) (fun b self hI=>?_) (by omega)).1.trans ?_
   ·split
    ·exact .inr ⟨i,Nat.lt_succ_self _,ha⟩
    ·exact hI.imp id fun⟨j,h1,h2⟩=>⟨j,Nat.lt_succ_of_lt h1,h2⟩
   ·have hlt:=get_lt hp;have hpm:p∈p0::l:=by simp[List.mem_of_getElem? hp]
    have hbm:b∈p0::l:=by
     rcases hI with e|⟨j,_,e⟩
     ·rw[e];simp
     ·simp[List.mem_of_getElem? e]
    have hne:p.id≠b.id:=fun e=>by
     have e:=hids.inj hpm hbm e;subst e;unfold Ids at hids;rcases hI with e|⟨j,hj,e⟩
     ·subst e;exact(List.nodup_cons.1 hids).1 (List.mem_map.2 ⟨_,List.mem_of_getElem? hp,rfl⟩)
     ·have:=nodup_get.1 (List.nodup_cons.1 hids).2 j i p.id (by rw[List.getElem?_map,e];rfl) (by rw[List.getElem?_map,hp];rfl);omega
    have hA:=phi (so (p:=p) (q:=b) ht);rw[if_pos (cD (hok p hpm) (hok b hbm) hr hne)] at hA;unfold k221_6;simp only[den_lt,tixM hp (row_len _),eltM hp,rowP,aggP,hA,cellP0,cellP1,cellP2,EV,decide_eq_true_eq,if_lt hlt,k221_5,up1 (show i<1000000000 by omega)]
    cases leads t p b<;>simp
   ·unfold k221_6;simp only[EV,decide_eq_true_eq,if_ge]
   ·rw[lE];generalize htt:topP t l p0=tp at htop;have hseen: ∀x∈ps,x.1≠tp.id:=fun x hx=>hps x hx tp htop;unfold pb;simp only[den_lt,Pe hseen,EV,List.length_map];have e0:([PV.sl [],.v (.int .i64 0),.sl [],.v (.int .i64 0),.v (.int .i64 0)]:List PV)=[sl row ([]:List Pt),.i64 ((([]:List Pt).length:Nat):Int),sl row ([]:List Pt),.i64 ((([]:List Pt).length:Nat):Int),.i64 ((0:Nat):Int)]:=rfl;rw[e0];refine(bv (m:=1001) (l:=p0::l) (g:=fun(acc:List Pt×List Pt) x=>if(decide (x.id≠tp.id)&& decide (bitI x.id d=0))=true then(acc.1++[x],acc.2) else if(decide (x.id≠tp.id)&& decide (bitI x.id d=1))=true then(acc.1,acc.2++[x]) else acc) (I:=fun i acc=>acc.1.length≤i∧acc.2.length≤i) (S:=fun acc i=>[sl row acc.1,.i64 (acc.1.length:Int),sl row acc.2,.i64 (acc.2.length:Int),.i64 (i:Int)]) (fin:=fun acc=>den (PhiS D) 1001 o9 [] [sl row (p0::l),R t,.i64 f,.i64 (d:Int),.sl [],Hm ps,R t,.v (.int .i64 (((p0::l).length:Nat):Int)),.v (.bool false),.i64 ((0:Nat):Int),PP p0,.v (.int .i64 (((p0::l).length:Nat):Int)),.i64 1,sl row l,.v (.int .i64 ((l.length:Nat):Int)),.i64 tp.id,.i64 tp.a,.i64 tp.b,Hm (ps++[(tp.id,f)]),.v (.int .i64 (((p0::l).length:Nat):Int)),sl row acc.1,.i64 (acc.1.length:Int),sl row acc.2,.i64 (acc.2.length:Int)]) (x:=(([],[]):List Pt×List Pt)) ⟨Nat.le_refl _,Nat.le_refl _⟩ (fun i a acc _ hI=>?_) (fun i x acc self hx hI=>?_) (fun acc self hI=>?_) (by simp;omega)).1.trans ?_
    ·split
     ·exact⟨by simp;omega,by show acc.2.length≤_;have:=hI.2;omega⟩
     ·split
      ·exact⟨by show acc.1.length≤_;have:=hI.1;omega,by simp;omega⟩
      ·exact⟨by have:=hI.1;omega,by have:=hI.2;omega⟩
    ·have hlt:=get_lt hx;have hl1:(p0::l).length≤1000:=by simp;omega
     have hxb:=hbn x (List.mem_of_getElem? hx);obtain⟨b1,b2⟩:=Ph hxb.1 (by omega) d;unfold pa;simp only[den_lt,tixM hx (row_len _),eltM hx,rowP,cellP0,f_bin,b1,b2,EV,List.length_map,decide_eq_true_eq,if_lt hlt,jK,up1 (show i<1000000000 by omega),Bool.not_eq_true',decide_eq_false_iff_not]
     by_cases c1:x.id=tp.id
     ·simp only[c1,not_true_eq_false,if_false,ne_eq,decide_false,Bool.false_and,Bool.false_eq_true]
     ·simp only[c1,not_false_eq_true,if_true,ne_eq,decide_true,Bool.true_and,decide_eq_true_eq];rcases bit_two x.id d with c2|c2
      ·simp only[c2,if_true,den_lt,bsP,CQ,aN (f:=row) (l:=acc.1) (k:=[x]) (bytes:=24) (z:=3) (by simp;omega) row_len,EV,List.length_map,jK,up1 (show i<1000000000 by omega)]
      ·simp only[c2,show¬((1:Int)=0) by decide,if_false,if_true,decide_true,den_lt,bsP,CQ,aN (f:=row) (l:=acc.2) (k:=[x]) (bytes:=24) (z:=3) (by simp;omega) row_len,EV,List.length_map,jK,up1 (show i<1000000000 by omega)]
    ·unfold pa;simp only[EV,decide_eq_true_eq,if_ge]
    ·rw[dI];have s0:(p0::l).filter (fun x=>decide (x.id≠tp.id)&& decide (bitI x.id d=0))=side (p0::l) tp.id d 0:=rfl;have s1:(p0::l).filter (fun x=>!(decide (x.id≠tp.id)&& decide (bitI x.id d=0))&&(decide (x.id≠tp.id)&& decide (bitI x.id d=1)))=side (p0::l) tp.id d 1:=by
      unfold side;refine List.filter_congr fun x _=>?_;by_cases c1:x.id=tp.id
      ·simp[c1]
      ·rcases bit_two x.id d with c2|c2<;>simp[c1,c2]
     rw[s0,s1,List.nil_append,List.nil_append];have hm: ∀(b:Int) (x:Pt),x∈side (p0::l) tp.id d b→x∈p0::l∧x.id≠tp.id∧bitI x.id d=b:=fun b x hx=>by
      obtain⟨h1,h2⟩:=List.mem_filter.1 hx;simp only[Bool.and_eq_true,decide_eq_true_eq] at h2;exact⟨h1,h2.1,h2.2⟩
     have hsl: ∀b:Int,(side (p0::l) tp.id d b).length≤n:=fun b=>by
      have:=dS (t:=t) (p:=p0) (l:=l) (d:=d) (b:=b);rw[htt] at this;omega
     have hsi: ∀b:Int,Ids (side (p0::l) tp.id d b):=fun b=>hids.filter _;have r0:=phi (ih (side (p0::l) tp.id d 0) tp.id (d+1) (ps++[(tp.id,f)]) (hsl 0) (by omega) (by omega) (fun p hp=>hok p (hm 0 p hp).1) (hsi 0) (fun x hx p hp=>by
      rcases List.mem_append.1 hx with hx|hx
      ·exact hps x hx p (hm 0 p hp).1
      ·simp only[List.mem_singleton] at hx;subst hx;exact fun e=>(hm 0 p hp).2.1 e.symm))
     have r1:=phi (ih (side (p0::l) tp.id d 1) tp.id (d+1) (ps++[(tp.id,f)]++hangP t (side (p0::l) tp.id d 0) tp.id (d+1)) (hsl 1) (by omega) (by omega) (fun p hp=>hok p (hm 1 p hp).1) (hsi 1) (fun x hx p hp=>by
      rcases List.mem_append.1 hx with hx|hx
      ·rcases List.mem_append.1 hx with hx|hx
       ·exact hps x hx p (hm 1 p hp).1
       ·simp only[List.mem_singleton] at hx;subst hx;exact fun e=>(hm 1 p hp).2.1 e.symm
      ·obtain⟨q,hq,e,_⟩:=ct (t:=t) n _ tp.id (d+1) (hsl 0) (hsi 0) x hx;intro e';have:=hids.inj (hm 0 q hq).1 (hm 1 p hp).1 (e.trans e');subst this;have h1:=(hm 0 q hq).2.2;rw[(hm 1 q hp).2.2] at h1;cases h1))
     have hd1:IntKind.i64.wrap ((d:Int)+1)=((d+1:Nat):Int):=up1 (by omega);unfold o9;simp only[EV,hd1,subM,r0,r1];rw[hangP,htt];simp[List.append_assoc]
def hangs (t:Rt)(l:List Pt):List (Int×Int):=hangP t l (-1) 0
def ax (t:Rt)(l:List Pt):List Int:=l.map fun p=>luk (hangs t l) p.id 0
theorem ng {l:List Pt}(hs:bh l): ∀(ps:List (Int×Int)) (out:List Int),out.length=l.length→(∀x∈ps,∃p∈l,p.id=x.1)→ ∀(i:Nat) (p:Pt) (v:Int),l[i]?=some p→out[i]?=some v→(ps.foldl (fun out x=>out.set (pos l x.1).toNat x.2) out)[i]?=some (luk ps p.id v)
 |[],out,_,_,i,p,v,_,hv=>hv
 |x::ps,out,ho,hm,i,p,v,hp,hv=>by
  rw[List.foldl_cons];unfold luk;rw[List.foldl_cons];obtain⟨q,hq,hqx⟩:=hm x (by simp);obtain⟨j,hj⟩:=List.mem_iff_getElem?.1 hq;have hpos:pos l x.1=j:=by rw[←hqx];exact iP hs hj
  refine ng hs ps _ (by simpa using ho) (fun y hy=>hm y (List.mem_cons_of_mem _ hy)) i p _ hp ?_
  rw[hpos,Int.toNat_natCast];by_cases e:i=j
  ·subst e;rw[hp] at hj;cases hj;rw[if_pos hqx.symm,List.getElem?_set_self (by have:=get_lt hp;omega)]
  ·rw[List.getElem?_set_ne (by omega),if_neg (fun h=>e ?_)]
   ·exact hv
   ·exact nodup_get.1 (risen_ids hs) i j p.id (by rw[List.getElem?_map,hp];rfl) (by rw[List.getElem?_map,hj,Option.map_some,hqx,h])
theorem nh (l:List Pt): ∀(ps:List (Int×Int)) (out:List Int),(ps.foldl (fun out x=>out.set (pos l x.1).toNat x.2) out).length=out.length
 |[],out=>rfl
 |x::ps,out=>by rw[List.foldl_cons,nh l ps,List.length_set]
theorem aX {l:List Pt}(h:okF l): ∀p∈l,0≤p.id∧p.id≤65535:=fun p hp=>by
 obtain⟨i,hi⟩:=List.mem_iff_getElem?.1 hp;have:=Pt.bnd (okF_pt h hi);omega
theorem II {l:List Pt}{t:Rt}(h:okF l)(ht:In64 t):Ans D 179 [F l,R t] [sl I1 (ax t l)]:=by
 have hl:=h.1;have hh:=phi (Pd 64 ((be t l).map Pt.id) (-1) 0 (by rw[List.length_map,(aJ t l).length_eq];omega) (by omega) (by omega) (fun x hx=>by
  obtain⟨p,hp,rfl⟩:=List.mem_map.1 hx;exact(aX h p ((aJ t l).mem_iff.1 hp)).1))
 rw[sc 64 l (be t l) (-1) 0 hl (aJ t l) (eE (risen_ids h.2.2)) (risen_ids h.2.2)] at hh;have hlen:(hangs t l).length≤64:=by
  have:=ei 64 ((be t l).map Pt.id) (-1) 0 (by rw[List.length_map,(aJ t l).length_eq];omega);rw[sc 64 l (be t l) (-1) 0 hl (aJ t l) (eE (risen_ids h.2.2)) (risen_ids h.2.2),List.length_map,(aJ t l).length_eq] at this;unfold hangs;omega
 have hkey: ∀x∈hangs t l,∃p∈l,p.id=x.1:=fun x hx=>by
  obtain⟨p,hp,e,_⟩:=ct 64 l (-1) 0 hl (risen_ids h.2.2) x hx;exact⟨p,hp,e⟩
 refine ans_of EC MC rfl ⟨1001,?_⟩;unfold ux;have z0:PV.v (.int .i64 0)= .i64 ((0:Nat):Int):=rfl;have hh':PhiS D 269 [sl I1 ((be t l).map Pt.id),.v (.int .i64 (-1)),.v (.int .i64 0)]=some [sl cj (hangs t l)]:=hh;simp only[den_lt,shapeF,shapeR,cellF,phi (sF h ht),hh',gi (show l.length≤1000 by omega),EV,List.length_map,List.length_replicate]
 refine(bv (m:=1001) (l:=hangs t l) (g:=fun out x=>out.set (pos l x.1).toNat x.2) (I:=fun _ out=>out.length=l.length) (S:=fun out i=>[sl I1 out,.i64 (i:Int)]) (fin:=fun out=>some [sl I1 out]) (x:=List.replicate l.length 0) (by simp) (fun i a acc _ h=>by simpa using h) (fun i x acc self hx hI=>?_) (fun acc self hI=>?_) (by omega)).1.trans ?_
 ·obtain⟨p,hp,e⟩:=hkey x (List.mem_of_getElem? hx);obtain⟨j,hj⟩:=List.mem_iff_getElem?.1 hp;have hpos:pos l x.1=j:=by rw[←e];exact iP h.2.2 hj
  have hAt:=phi (dG (l:=l) (by omega) x.1);rw[hpos] at hAt;unfold k179_2;simp only[den_lt,tixM hx (lenP _),eltM hx,rowP1,rowP2,hAt,ixM (get_lt hj),setI (show j<acc.length by rw[hI];exact get_lt hj),EV,List.length_map,decide_eq_true_eq,if_lt (get_lt hx),up1 (show i<1000000000 by have:=get_lt hx;omega)]
  rw[hpos,Int.toNat_natCast]
 ·unfold k179_2;have:=subM (f:=I1) (l:=acc);rw[hI] at this;simp only[EV,List.length_map,decide_eq_true_eq,if_ge,k179_1,this]
 ·congr 4
  refine List.ext_getElem? fun i=>?_;by_cases hi:i<l.length
  ·have hp:=List.getElem?_eq_getElem hi;rw[ng h.2.2 (hangs t l) _ (by simp) hkey i _ 0 hp (by rw[List.getElem?_replicate,if_pos hi])];unfold ax;rw[List.getElem?_map,hp];rfl
  ·rw[List.getElem?_eq_none (by rw[nh];simp;omega),List.getElem?_eq_none (by unfold ax;simp;omega)]
def au (l:List Pt)(up:List Int):List Crt:=(l.zip up).filterMap fun x=>if 0≤x.2 then some ⟨x.1.id,x.2⟩ else none
theorem rH {α β:Type}(f:α→Option β): ∀(l:List α) (acc:List β),l.foldl (fun acc x=>acc++(f x).toList) acc=acc++l.filterMap f
 |[],acc=>by simp
 |a::l,acc=>by
  rw[List.foldl_cons,rH f l,List.filterMap_cons];cases f a<;>simp
theorem IJ {l:List Pt}{up:List Int}(hl:l.length=up.length)(hb:l.length≤1000):Ans D 180 [F l,sl I1 up] [sl ac (au l up)]:=by
 refine ans_of ED MD rfl ⟨1001,?_⟩;unfold uy;simp only[den_lt,shapeF,EV];have e0:([PV.sl [],.v (.int .i64 0),.v (.int .i64 0)]:List PV)=[sl ac ([]:List Crt),.i64 ((([]:List Crt).length:Nat):Int),.i64 ((0:Nat):Int)]:=rfl;rw[e0];refine(bv (m:=1001) (l:=l.zip up) (g:=fun acc x=>acc++(if 0≤x.2 then some (Crt.mk x.1.id x.2) else none).toList) (I:=fun i acc=>acc.length≤i) (S:=fun acc i=>[sl ac acc,.i64 (acc.length:Int),.i64 (i:Int)]) (fin:=fun acc=>some [sl ac acc]) (x:=[]) (by simp) (fun i a acc _ h=>?_) (fun i x acc self hx hI=>?_) (fun acc self hI=>?_) (by rw[an hl];omega)).1.trans ?_
 ·by_cases c:0≤a.2
  ·simp only[c,if_true,Option.toList,List.length_append,List.length_singleton];omega
  ·simp only[c,if_false,Option.toList,List.append_nil];omega
 ·obtain⟨hp,hq⟩:=aL hx;have hi:=get_lt hp;unfold oY;simp only[den_lt,cellF,tixM hp (row_len _),eltM hp,cM,tixM hq (lenI _),eltM hq,rowI,EV,List.length_map,decide_eq_true_eq,if_lt (get_lt hq),ge_iff_le,jJ];by_cases c:0≤x.2
  ·rw[if_pos c];simp only[den_lt,cellF,tixM hp (row_len _),eltM hp,cM,tixM hq (lenI _),eltM hq,rowI,aggC,bsC,subC1,aN (f:=ac) (l:=acc) (k:=[⟨x.1.id,x.2⟩]) (bytes:=16) (z:=2) (by simp;omega) lenC,EV,List.length_map,jJ,up1 (show i<1000000000 by omega),c,if_true,Option.toList]
  ·rw[if_neg c];simp only[EV,jJ,up1 (show i<1000000000 by omega),c,if_false,Option.toList,List.append_nil]
 ·rw[an hl,hl];unfold oY;simp only[EV,List.length_map,decide_eq_true_eq,if_ge,za,subM]
 ·rw[rH (fun x:Pt×Int=>if 0≤x.2 then some (Crt.mk x.1.id x.2) else none)]
  rfl
theorem jq {l:List Pt}{up:List Int}{e:Crt}:e∈au l up↔ ∃(i:Nat) (p:Pt) (u:Int),l[i]?=some p∧up[i]?=some u∧0≤u∧e=⟨p.id,u⟩:=by
 unfold au;rw[List.mem_filterMap];constructor
 ·rintro⟨x,hx,h⟩;obtain⟨i,hi⟩:=List.mem_iff_getElem?.1 hx;obtain⟨h1,h2⟩:=aL hi;split at h
  ·cases h;exact⟨i,_,_,h1,h2,by assumption,rfl⟩
  ·cases h
 ·rintro⟨i,p,u,h1,h2,h3,rfl⟩;refine⟨(p,u),List.mem_of_getElem? (i:=i) ?_,if_pos h3⟩;rw[List.getElem?_zip_eq_some];exact⟨h1,h2⟩
theorem dZ: ∀{l:List Pt} {up:List Int},Ids l→(au l up).Nodup
 |[],_,_=>by simp[au]
 |p::l,[],_=>by simp[au]
 |p::l,u::us,h=>by
  have ih:=dZ (l:=l) (up:=us) h.tail;unfold au at ih⊢;rw[List.zip_cons_cons,List.filterMap_cons];by_cases c:0≤u
  ·simp only[c,if_true];rw[List.nodup_cons];refine⟨fun hm=>?_,ih⟩;obtain⟨i,q,v,h1,h2,h3,h4⟩:=jq.1 (show(⟨p.id,u⟩:Crt)∈au l us from hm)
   simp only[Crt.mk.injEq] at h4;refine(List.nodup_cons.1 h).1 ?_;show p.id∈l.map Pt.id
   rw[h4.1];exact List.mem_map.2 ⟨q,List.mem_of_getElem? h1,rfl⟩
  ·simp only[c,if_false];exact ih
def bJ (k:KHeap):Prop:=aw k.clock∧ax k.clock.now k.clock.pts=k.heap∧JustR k.clock (au k.clock.pts (ax k.clock.now k.clock.pts))
theorem cF (t:Rt)(l:List Pt):(ax t l).length=l.length:=by simp[ax]
theorem bC {l:List Pt}{t:Rt}(h:okF l){e:Crt}(he:e∈au l (ax t l)):inF l e.low=true∧inF l e.high=true∧leads t (ptOf l e.high) (ptOf l e.low)=true:=by
 obtain⟨i,p,u,h1,h2,h3,rfl⟩:=jq.1 he;unfold ax at h2;rw[List.getElem?_map,h1,Option.map_some,Option.some.injEq] at h2;have hpm:=List.mem_of_getElem? h1;obtain⟨f,hf⟩:=kA 64 l (-1) 0 h.1 (risen_ids h.2.2) (fun p hp=>(aX h p hp).1) p hpm;have hmem:(p.id,u)∈hangs t l:=by
  rcases luk_mem (ps:=hangs t l) (k:=p.id) (v:=0) with e|e
  ·rw[h2] at e;have:=lB (ps:=hangs t l) (k:=p.id) (v:=0) ⟨f,hf⟩;rw[h2] at this;exact this
  ·rw[h2] at e;exact e
 obtain⟨p',hp',e1,e2⟩:=ct 64 l (-1) 0 h.1 (risen_ids h.2.2) (p.id,u) hmem;simp only at e1 e2;have:p'=p:=(risen_ids h.2.2).inj hp' hpm e1;subst this;rcases e2 with e2|⟨q,hq,e3,e4⟩
 ·omega
 ·refine⟨in_ids.2 (List.mem_map.2 ⟨p',hpm,rfl⟩),in_ids.2 (List.mem_map.2 ⟨q,hq,e3⟩),?_⟩;obtain⟨j,hj⟩:=List.mem_iff_getElem?.1 hq;simp only;rw[←e3,ptOf_some h hj,ptOf_some h h1];exact e4
open Classical in
theorem c84 {k:KHeap}(h64:aE k.clock)(hg:gKh k=false):Ans D 84 [KH k] [.i64 (okE (decide (bJ k)))]:=by
 obtain⟨g1,g2⟩:=dY hg;have no: ∀h:¬bJ k,(some [PV.v (.int .i64 8)]:Option (List PV))=some [.i64 (okE (decide (bJ k)))]:=fun h=>by rw[decide_eq_false h];rfl
 have pKH2:RF.ev (.part 2 1) [KH k]=some (F k.clock.pts):=rfl;have pKH0:RF.ev (.part 0 2) [KH k]=some (R k.clock.now):=rfl;refine ans_of H4 s84 rfl ⟨1001,?_⟩;unfold k84;simp only[den_lt,shKH,pKH,EV,phi (sA h64 g1),bf,Bool.not_eq_true',decide_eq_false_iff_not];by_cases h1:aw k.clock
 ·have hF:=h1.2.1;have hl:=hF.1;rw[decide_eq_true h1,if_pos rfl];simp only[den_lt,pKH,pKH2,pKH0,cKH,phi (II hF h64.1),phi (sq (l:=ax k.clock.now k.clock.pts) (k:=k.heap) (by rw[cF];omega)),phi (IJ (l:=k.clock.pts) (up:=ax k.clock.now k.clock.pts) (cF _ _).symm (by omega)),EV,Bool.not_eq_true',decide_eq_false_iff_not];by_cases h2:ax k.clock.now k.clock.pts=k.heap
  ·rw[if_neg (by simp[h2])];have hel:(au k.clock.pts (ax k.clock.now k.clock.pts)).length≤1000:=by
    unfold au;have:=List.length_filterMap_le (fun x:Pt×Int=>if 0≤x.2 then some (Crt.mk x.1.id x.2) else none) (k.clock.pts.zip (ax k.clock.now k.clock.pts))
    rw[an (cF _ _).symm] at this;omega
   simp only[den_lt,EV,phi (c169 (c:=k.clock) (edges:=au k.clock.pts (ax k.clock.now k.clock.pts)) hF h64.1 hel (by have:=aP g1;omega) (fun e he=>⟨(bC hF he).1,(bC hF he).2.1⟩)),Bool.not_eq_true',decide_eq_false_iff_not];by_cases h3:JustR k.clock (au k.clock.pts (ax k.clock.now k.clock.pts))
   ·rw[if_neg (by simp[h3]),decide_eq_true (show bJ k from⟨h1,h2,h3⟩)];rfl
   ·rw[if_pos h3];exact no (fun h=>h3 h.2.2)
  ·rw[if_pos h2];exact no (fun h=>h2 h.2.1)
 ·rw[decide_eq_false h1,if_neg (by simp)];exact no (fun h=>h1 h.1)
theorem iD {t:Rt}{l:List Pt}(h:okF l):((hangs t l).map (·.1)).Nodup:=sG l.length l (-1) 0 (Nat.le_refl _) (risen_ids h.2.2)
def cx (g:Pt→Int)(k:List Pt):List Crt:=k.filterMap fun p=>if 0≤g p then some ⟨p.id,g p⟩ else none
theorem jr (g:Pt→Int): ∀k:List Pt,au k (k.map g)=cx g k
 |[]=>rfl
 |x::k=>by
  have:=jr g k;unfold au cx at this⊢;rw[List.map_cons,List.zip_cons_cons,List.filterMap_cons,List.filterMap_cons,this]
theorem Bk (g:Pt→Int)(k:List Pt):(cx g k).length≤k.length:=List.length_filterMap_le ..
theorem IK {l:List Pt}{t:Rt}(h:okF l)(ht:In64 t)(hr:rok t=true):Ans D 127 [F l,R t] [sl I1 (ax t l),sl ac (au l (ax t l))]:=by
 have hl:=h.1;have h0:=phi (Pi ht hr l.length l (-1) 0 [] (Nat.le_refl _) (by omega) (by omega) (fun p hp=>List.all_eq_true.1 h.2.1 p hp) (risen_ids h.2.2) (fun x hx=>by cases hx));rw[List.nil_append] at h0;have e0:Hm []= .sl []:=rfl;rw[e0] at h0;have hgt: ∀k:Int,RF.ev (.mget [.i] [KP.z]) [Hm (hangs t l),.v (.int .i64 k)]=some (.i64 (luk (hangs t l) k 0)):=fun k=>Pf (iD h);have hh:PhiS D 221 [sl row l,R t,.v (.int .i64 (-1)),.v (.int .i64 0),.sl [],.sl []]=some [Hm (hangs t l)]:=h0;unfold ax;rw[jr];generalize hg:(fun p:Pt=>luk (hangs t l) p.id 0)=g;have hgp: ∀p:Pt,luk (hangs t l) p.id 0=g p:=fun p=>by rw[←hg]
 refine ans_of D1 L2 rfl ⟨1001,?_⟩;unfold tJ;simp only[den_lt,shapeF,shapeR,cellF,hh,EV,List.length_map];have st0:([PV.sl [],.v (.int .i64 0),.sl [],.v (.int .i64 0),.v (.int .i64 0)]:List PV)=[sl I1 (([]:List Pt).map g),.i64 ((([]:List Pt).length:Nat):Int),sl ac (cx g []),.i64 (((cx g []).length:Nat):Int),.i64 ((0:Nat):Int)]:=rfl;rw[st0];refine(bv (m:=1001) (l:=l) (g:=fun acc x=>acc++[x]) (I:=fun i acc=>acc.length≤i) (S:=fun acc i=>[sl I1 (acc.map g),.i64 (acc.length:Int),sl ac (cx g acc),.i64 ((cx g acc).length:Int),.i64 (i:Int)]) (fin:=fun acc=>some [sl I1 (acc.map g),sl ac (cx g acc)]) (x:=[]) (Nat.le_refl _) (fun i a acc _ hI=>by simp;omega) (fun i p acc self hp hI=>?_) (fun acc self hI=>?_) (by omega)).1.trans ?_
 ·have hlt:=get_lt hp;have hel:=Bk g acc;have a1:=aN (f:=I1) (l:=acc.map g) (k:=[g p]) (bytes:=8) (z:=1) (by simp;omega) lenI;rw[List.length_map] at a1;have hs:acc.map g++[g p]=(acc++[p]).map g:=by simp
  have nxt:=up1 (show i<1000000000 by omega)
  unfold oe;simp only[den_lt,cellF,tixM hp (row_len _),eltM hp,rowP,cellP0,hgt,hgp,bsI,subI1,a1,hs,EV,List.length_map,List.length_append,List.length_singleton,decide_eq_true_eq,if_lt hlt,ge_iff_le];by_cases c1:0≤g p
  ·have he:cx g (acc++[p])=cx g acc++[⟨p.id,g p⟩]:=by
    unfold cx;rw[List.filterMap_append];simp[c1]
   rw[if_pos c1];simp only[den_lt,cellP0,hgt,hgp,aggC,bsC,subC1,he,aN (f:=ac) (l:=cx g acc) (k:=[⟨p.id,g p⟩]) (bytes:=16) (z:=2) (by simp;omega) lenC,EV,List.length_map,List.length_append,List.length_singleton,od,nxt]
  ·have he:cx g (acc++[p])=cx g acc:=by
    unfold cx;rw[List.filterMap_append];simp[c1]
   rw[if_neg c1];simp only[EV,od,nxt,he]
 ·unfold oe;have a1:RF.ev .sub [sl I1 (acc.map g),.v (.int .i64 0),.v (.int .i64 (acc.length:Int))]=some (sl I1 (acc.map g)):=by
   have:=subM (f:=I1) (l:=acc.map g);rwa [List.length_map] at this
  simp only[EV,decide_eq_true_eq,if_ge,yp,a1,subM]
 ·have: ∀(k a:List Pt),k.foldl (fun acc x=>acc++[x]) a=a++k:=by
   intro k;induction k with
   |nil=>intro a;simp
   |cons x k ih=>intro a;rw[List.foldl_cons,ih];simp
  rw[this,List.nil_append]
open Classical in
theorem c80 {k:KHeap}(h64:aE k.clock)(hg:gKh k=false):Ans D 80 [KH k] [.i64 (okE (decide (bJ k)))]:=by
 obtain⟨g1,g2⟩:=dY hg;have no: ∀h:¬bJ k,(some [PV.v (.int .i64 8)]:Option (List PV))=some [.i64 (okE (decide (bJ k)))]:=fun h=>by rw[decide_eq_false h];rfl
 have pKH2:RF.ev (.part 2 1) [KH k]=some (F k.clock.pts):=rfl;have pKH0:RF.ev (.part 0 2) [KH k]=some (R k.clock.now):=rfl;have cKH4:RF.ev (.cell 4) [KH k]=some (sl hrow k.clock.certs.list):=rfl;have cc:=aP g1;refine ans_of H0 s80 rfl ⟨1001,?_⟩;unfold k80;simp only[den_lt,shKH,pKH,EV,phi (sE h64 g1),bf,Bool.not_eq_true',decide_eq_false_iff_not];by_cases h1:aw k.clock
 ·have hF:=h1.2.1;have hl:=hF.1;rw[decide_eq_true h1,if_pos rfl];simp only[den_lt,pKH,pKH2,pKH0,cKH,cKH4,phi (IK hF h64.1 h1.1),phi (Bj (l:=ax k.clock.now k.clock.pts) (k:=k.heap) (by rw[cF];omega)),EV,List.length_map,Bool.not_eq_true',decide_eq_false_iff_not];by_cases h2:ax k.clock.now k.clock.pts=k.heap
  ·rw[if_neg (by simp[h2])];have hel:(au k.clock.pts (ax k.clock.now k.clock.pts)).length≤1000:=by
    unfold au;have:=List.length_filterMap_le (fun x:Pt×Int=>if 0≤x.2 then some (Crt.mk x.1.id x.2) else none) (k.clock.pts.zip (ax k.clock.now k.clock.pts))
    rw[an (cF _ _).symm] at this;omega
   have hJ:=gg (c:=k.clock) h1.2.2.1 (dZ (up:=ax k.clock.now k.clock.pts) (risen_ids hF.2.2)) (fun e he=>(bC hF he).2.2);by_cases h3:(au k.clock.pts (ax k.clock.now k.clock.pts)).length=k.clock.certs.list.length
   ·rw[if_neg (by omega)];refine(run_list (m:=1001) (l:=k.clock.certs.list) (p:=fun h=>decide (h.cert∈au k.clock.pts (ax k.clock.now k.clock.pts))) (st:=fun i=>[.i64 (i:Int)]) (r:=some [.i64 8]) (fin:=some [.i64 0]) (fun i h self hh _=>?_) (fun _ self=>?_) (by omega)).trans ?_
    ·unfold tr;simp only[den_lt,cKH4,pHP,tixM hh (lenH _),eltM hh,rowH,phi (kK h.cert hel),EV,decide_eq_true_eq,if_lt (get_lt hh),up1 (show i<1000000000 by have:=get_lt hh;omega)]
     by_cases c1:h.cert∈au k.clock.pts (ax k.clock.now k.clock.pts)<;>simp[c1]
    ·unfold tr;simp only[EV,decide_eq_true_eq,if_ge,Dq]
    ·have:(k.clock.certs.list.all fun h=>decide (h.cert∈au k.clock.pts (ax k.clock.now k.clock.pts)))=true↔bJ k:=by
      rw[List.all_eq_true];simp only[decide_eq_true_eq];exact⟨fun h=>⟨h1,h2,hJ.1 ⟨h3,h⟩⟩,fun h=>(hJ.2 h.2.2).2⟩
     by_cases hr:bJ k
     ·rw[if_pos (this.2 hr),decide_eq_true hr];rfl
     ·rw[if_neg (fun h=>hr (this.1 h)),decide_eq_false hr];rfl
   ·rw[if_pos (by omega)];exact no (fun h=>h3 h.2.2.1.symm)
  ·rw[if_pos h2];exact no (fun h=>h2 h.2.1)
 ·rw[decide_eq_false h1,if_neg (by simp)];exact no (fun h=>h1 h.1)
def ldF (t:Rt)(l:List Pt)(i j:Nat):Bool:=leads t ((l[i]?).getD ⟨0,0,0⟩) ((l[j]?).getD ⟨0,0,0⟩)
theorem ldF_get {t:Rt}{l:List Pt}{i j:Nat}{p q:Pt}(hp:l[i]?=some p)(hq:l[j]?=some q):ldF t l i j=leads t p q:=by
 unfold ldF;rw[hp,hq];rfl
theorem aF {t:Rt}{l:List Pt}(hs:bh l):Lin (ldF t l) l.length where
 asymm:=fun i j h=>bR h
 trans:=fun i j k h1 h2=>dy h1 h2
 total:=fun i j hi hj hne=>by
  unfold ldF;refine leads_total ?_;rw[List.getElem?_eq_getElem hi,List.getElem?_eq_getElem hj];intro e;refine hne (nodup_get.1 (risen_ids hs) i j l[i].id ?_ ?_)
  ·rw[List.getElem?_map,List.getElem?_eq_getElem hi];rfl
  ·rw[List.getElem?_map,List.getElem?_eq_getElem hj,Option.map_some];exact congrArg some e.symm
def mkN (l:List Pt)(lk:List (Int×Int)):List Nod:=(l.zip lk).map fun x=>⟨x.1.id,x.2.1,x.2.2⟩
theorem mkN_len (l:List Pt)(lk:List (Int×Int))(h:lk.length≤l.length):(mkN l lk).length=lk.length:=by simp[mkN,List.length_zip];omega
theorem bO {l:List Pt}{lk:List (Int×Int)}{i:Nat}{p:Pt}{x:Int×Int}(hp:l[i]?=some p)(hx:lk[i]?=some x):(mkN l lk)[i]?=some ⟨p.id,x.1,x.2⟩:=by
 unfold mkN;rw[List.getElem?_map,(List.getElem?_zip_eq_some (l₁:=l) (l₂:=lk) (z:=(p,x))).2 ⟨hp,hx⟩];rfl
def cart (t:Rt)(l:List Pt):Tree:=⟨(cmake (ldF t l) l.length).2.1,mkN l (cmake (ldF t l) l.length).2.2⟩
theorem Pj {l:List Pt}{t:Rt}(h:okF l)(ht:In64 t)(hr:rok t=true):Ans D 303 [F l,R t] [.i64 0]:=by
 have h1:=phi (c231 l);rw[fieldE_ok.2 h] at h1;have h2:=phi (c43 ht);rw[hr] at h2;have e0:okE true=0:=rfl;rw[e0] at h2;refine ans_of k303_ok s303 rfl ⟨1,?_⟩;unfold k303;simp only[den_lt,shapeF,shapeR,EV,h1,h2,decide_true,Bool.not_true,Bool.false_eq_true,if_false]
def ek (l:List Nat):List Int:=l.map fun n:Nat=>(n:Int)
theorem nj {l:List Pt}{t:Rt}(h:okF l)(ht:In64 t)(hr:rok t=true){N:Nat}{i:Nat}{p:Pt}(hp:l[i]?=some p){f0 f1 f2:JT}{e0 e1 e4 e5 e6 e7 e8 e9 e10 e13 e14 e15 e16 e17:PV}{E:List Int}(hE:E.length≤1000): ∀(rem:List Nat) (m:Nat) (left:Int),rem.length<m→(∀(k:Nat) (e:Nat),rem.reverse[k]?=some e→E[k]?=some (e:Int))→(∀e∈rem,e<i)→rem.length≤E.length→
  denW (PhiS D) N k220_4 [f0,f1,f2] [e0,e1,F l,R t,e4,e5,e6,e7,e8,e9,e10,sl I1 E,.i64 (E.length:Int),e13,e14,e15,e16,e17,PP p] m [.i64 (rem.length:Int),.i64 left]=
   f2 [.i64 (popAll (ldF t l) i rem left).2,.i64 ((popAll (ldF t l) i rem left).1.length:Int),.bool (decide (0<(popAll (ldF t l) i rem left).1.length))]
 |[],m,left,hm,_,_,_=>by
  obtain⟨m,rfl⟩: ∃m',m=m'+1:=⟨m-1,by omega⟩;rw[denW_succ];unfold k220_4 popAll;simp only[EV,List.length_nil,Int.natCast_zero,decide_eq_true_eq];rw[if_neg (by omega)];rfl
 |e::es,m,left,hm,hk,hlt,hEl=>by
  obtain⟨m,rfl⟩: ∃m',m=m'+1:=⟨m-1,by omega⟩;have hee:E[es.length]?=some (e:Int):=hk es.length e (by rw[List.reverse_cons,List.getElem?_append_right (by simp)];simp);simp only[List.length_cons] at hm hEl;obtain⟨q,hq⟩: ∃q,l[e]?=some q:=⟨l[e]'(by have:=hlt e (by simp);have:=get_lt hp;omega),List.getElem?_eq_getElem _⟩;have hne:q.id≠p.id:=by have:=bi h.2.2 (hlt e (by simp)) hq hp;omega
  have hA:=phi (so (p:=q) (q:=p) ht);rw[if_pos (cD (okF_pt h hq) (okF_pt h hp) hr hne),←ldF_get hq hp] at hA;have ih:=nj h ht hr (N:=N) hp (f0:=f0) (f1:=f1) (f2:=f2) (e0:=e0) (e1:=e1) (e4:=e4) (e5:=e5) (e6:=e6) (e7:=e7) (e8:=e8) (e9:=e9) (e10:=e10) (e13:=e13) (e14:=e14) (e15:=e15) (e16:=e16) (e17:=e17) hE es m (e:Int) (by omega) (fun k e' hke=>hk k e' (by
   rw[List.reverse_cons,List.getElem?_append_left (get_lt hke)];exact hke)) (fun x hx=>hlt x (List.mem_cons_of_mem _ hx)) (by omega)
  rw[denW_succ];generalize hkk:k220_4=kk at ih;subst hkk;unfold k220_4 popAll;have d1:IntKind.i64.wrap (((es.length+1:Nat):Int)-1)=(es.length:Int):=fk (by omega);have bn:RF.ev .bnd [.v (.int .i64 (es.length:Int)),.v (.int .i64 (E.length:Int))]=some (.i64 (es.length:Int)):=by rw[eC,if_pos ⟨by omega,by omega⟩]
  have g0:decide ((0:Int)<((es.length+1:Nat):Int))=true:=decide_eq_true (by omega);simp only[EV,List.length_cons,g0,eq_self,if_true,d1,ixM (show es.length<es.length+1 by omega),eltM hee,rowI,den_lt,cellF,tixM hq (row_len _),eltM hq,rowP,hA,bn]
  cases hL:ldF t l e i with
  |true=>
   simp only[if_true,List.length_cons];rw[show decide (0<es.length+1)=true from decide_eq_true (by omega)]
  |false=>
   simp only[Bool.false_eq_true,if_false];exact ih
theorem xH {l:List Nat}{k e:Nat}(h:l[k]?=some e):(ek l)[k]?=some (e:Int):=by
 unfold ek;rw[List.getElem?_map,h];rfl
theorem CT {l:List Nod}{i:Nat}{n:Nod}(h:l[i]?=some n)(r:Int):RF.ev (.set 2) [sl nrow l,.v (.int .i64 (i:Int)),.v (.int .i64 r)]=some (sl nrow (l.set i ⟨n.id,n.left,r⟩)):=by
 rw[ku,if_pos (by omega),Int.toNat_natCast,List.getElem?_map,h];simp only[Option.map_some,show(PV.v (.int .i64 r)).cells=[.v (.int .i64 r)] from rfl,List.length_singleton,show(nrow n).length=3 from rfl,Nat.reduceAdd,Nat.le_refl,if_true]
 exact congrArg (fun x=>some (PV.sl x)) (List.map_set (f:=nrow) (l:=l) (i:=i) (a:=⟨n.id,n.left,r⟩)).symm
theorem bsN (n:Nod):RF.ev (.bs 1 [KP.z,KP.z,KP.z] [0]) [NP n]=some (sl nrow [n]):=rfl
theorem subN1 (n:Nod):RF.ev .sub [sl nrow [n],.v (.int .i64 0),.v (.int .i64 1)]=some (sl nrow [n]):=rfl
theorem aggN (a b c:Int):RF.ev .agg [.i64 a,.i64 b,.i64 c]=some (NP ⟨a,b,c⟩):=rfl
theorem mkN_set {l:List Pt}{lk:List (Int×Int)}{e:Nat}{p:Pt}{x:Int×Int}{r:Int}(hp:l[e]?=some p)(hx:lk[e]?=some x):(mkN l lk).set e ⟨p.id,x.1,r⟩=mkN l (lk.modify e fun x=>(x.1,r)):=by
 refine List.ext_getElem? fun k=>?_;have hlen:(lk.modify e fun x=>(x.1,r)).length=lk.length:=List.length_modify ..;by_cases hk:k<l.length∧k<lk.length
 ·have h1:=List.getElem?_eq_getElem hk.1;have h2:=List.getElem?_eq_getElem hk.2;by_cases e':k=e
  ·subst e';rw[List.getElem?_set_self (by simp[mkN,List.length_zip];omega)];rw[bO hp (x:=(x.1,r)) (by rw[List.getElem?_modify_eq,hx];rfl)]
  ·rw[List.getElem?_set_ne (by omega),bO h1 h2,bO h1 (x:=lk[k]) (by rw[List.getElem?_modify_ne _ _ (by omega)];exact h2)]
 ·rw[List.getElem?_eq_none (by simp[mkN,List.length_zip];omega),List.getElem?_eq_none (by simp[mkN,List.length_zip];omega)]
theorem mkN_app {l:List Pt}{lk:List (Int×Int)}{p:Pt}{x:Int×Int}(hp:l[lk.length]?=some p):mkN l lk++[⟨p.id,x.1,x.2⟩]=mkN l (lk++[x]):=by
 unfold mkN;have hlt:=get_lt hp;have:l.zip (lk++[x])=l.zip lk++[(p,x)]:=by
  have h1:l=l.take lk.length++l.drop lk.length:=(List.take_append_drop _ _).symm;have h2:l.drop lk.length=p::l.drop (lk.length+1):=by
   rw[List.drop_eq_getElem_cons hlt,(List.getElem?_eq_some_iff.1 hp).2]
  rw[h1,List.zip_append (by rw[List.length_take];omega),h2];rw[←List.append_nil lk];rw[List.append_nil]
  conv=>rhs;rw[show l.take lk.length++p::l.drop (lk.length+1)=l.take lk.length++([p]++l.drop (lk.length+1)) from rfl]
  rw[show lk=lk++[] by simp,List.zip_append (by rw[List.length_take,List.append_nil];omega)]
  simp
 rw[this,List.map_append];rfl
theorem xI (l:List Nat)(n:Nat):ek (l++[n])=ek l++[(n:Int)]:=by simp[ek]
def ce (t:Rt)(l:List Pt):Nat→List Int
 |0=>[]
 |i+1=>(ce t l i).take (popAll (ldF t l) i (cmake (ldF t l) i).1 (-1)).1.length++[(i:Int)]++(ce t l i).drop ((popAll (ldF t l) i (cmake (ldF t l) i).1 (-1)).1.length+1)
theorem sH (ld:Nat→Nat→Bool)(i:Nat)(s:List Nat×Int×List (Int×Int)):(eD ld i s).1=i::(popAll ld i s.1 (-1)).1:=by
 unfold eD;split
 ·rename_i e;rw[e]
 ·rename_i e;rw[e]
theorem CU (t:Rt)(l:List Pt): ∀i,(ce t l i).take (cmake (ldF t l) i).1.length=ek (cmake (ldF t l) i).1.reverse∧(cmake (ldF t l) i).1.length≤(ce t l i).length∧(ce t l i).length≤i
 |0=>⟨rfl,Nat.le_refl _,Nat.le_refl _⟩
 |i+1=>by
  obtain⟨h1,h2,h3⟩:=CU t l i;have hs:cmake (ldF t l) (i+1)=eD (ldF t l) i (cmake (ldF t l) i):=rfl;rw[hs,sH];obtain⟨gone,p1,_⟩:=c9 (ld:=ldF t l) i (cmake (ldF t l) i).1 (-1);unfold ce;generalize (popAll (ldF t l) i (cmake (ldF t l) i).1 (-1)).1=kept at p1;generalize (cmake (ldF t l) i).1=edge at p1 h1 h2;have hk:kept.length≤edge.length:=by rw[p1,List.length_append];omega
  have h4:(ce t l i).take kept.length=ek kept.reverse:=by
   have:(ce t l i).take kept.length=((ce t l i).take edge.length).take kept.length:=by rw[List.take_take,Nat.min_eq_left hk]
   rw[this,h1,p1,List.reverse_append];unfold ek;rw[List.map_append,List.take_left' (by simp)]
  have hl:((ce t l i).take kept.length).length=kept.length:=by rw[List.length_take];omega
  refine⟨?_,?_,?_⟩
  ·rw[List.take_append_of_le_length (by simp;omega),List.take_of_length_le (by simp;omega),h4,List.reverse_cons,xI]
  ·simp;omega
  ·simp;omega
def cst (t:Rt)(l:List Pt)(i:Nat):List PV:=
 [.i64 (cmake (ldF t l) i).2.1,sl nrow (mkN l (cmake (ldF t l) i).2.2),.i64 (i:Int),sl I1 (ce t l i),.i64 ((ce t l i).length:Int),.i64 ((cmake (ldF t l) i).1.length:Int),.i64 (i:Int)]
theorem Pk {E:List Int}{n:Nat}{x:Int}(h:n≤E.length)(hE:E.length≤1000):RF.ev (.appK 8 1) [sl I1 E,.v (.int .i64 (n:Int)),sl I1 [x]]=some (sl I1 (E.take n++[x]++E.drop (n+1))):=by
 show(if(0:Int)≤n∧(n:Int)≤((E.map I1).length:Nat)∧((n:Int).toNat+([x].map I1).length)*8≤140737488355328∧elsOk' 1 ([x].map I1)=true then some (PV.sl ((E.map I1).take (n:Int).toNat++[x].map I1++(E.map I1).drop ((n:Int).toNat+([x].map I1).length))) else none)=_
 rw[if_pos ⟨by omega,by simp;omega,by simp;omega,rfl⟩];simp
theorem Pl {l:List Pt}{t:Rt}(h:okF l)(ht:In64 t)(hr:rok t=true):Ans D 220 [F l,R t] [TR (cart t l),.i64 0]:=by
 have hl:=h.1;refine ans_of ER MP rfl ⟨1001,?_⟩;unfold uK;simp only[den_lt,shapeF,shapeR,cellF,EV,List.length_map,phi (Pj h ht hr),decide_true,Bool.not_true,Bool.false_eq_true,if_false];have e0:([PV.v (.int .i64 (-1)),.sl [],.v (.int .i64 0),.sl [],.v (.int .i64 0),.v (.int .i64 0),.v (.int .i64 0)]:List PV)=cst t l 0:=by simp[cst,cmake,mkN,ce]
 rw[e0];refine(run_up (m:=1001) (n:=l.length) (st:=cst t l) (fin:=some [TR (cart t l),.i64 0]) (fun i self hi=>?_) (fun self=>?_) (by omega))
 ·obtain⟨p,hp⟩: ∃p,l[i]?=some p:=⟨l[i],List.getElem?_eq_getElem _⟩;have I:=aY (aF (t:=t) h.2.2) i (by omega);obtain⟨ce1,ce2,ce3⟩:=CU t l i;unfold cst;have hs:cmake (ldF t l) (i+1)=eD (ldF t l) i (cmake (ldF t l) i):=rfl;have hce:ce t l (i+1)=(ce t l i).take (popAll (ldF t l) i (cmake (ldF t l) i).1 (-1)).1.length++[(i:Int)]++(ce t l i).drop ((popAll (ldF t l) i (cmake (ldF t l) i).1 (-1)).1.length+1):=rfl;rw[hs,hce];generalize cmake (ldF t l) i=s at I ce1 ce2;generalize ce t l i=E at ce1 ce2 ce3;obtain⟨edge,root,lk⟩:=s;obtain⟨desc,mem,_,len,_⟩:=I;simp only at desc mem len ce1 ce2;have helt: ∀e∈edge,e<i:=fun e he=>((mem e).1 he).1;have hk: ∀(k:Nat) (e:Nat),edge.reverse[k]?=some e→E[k]?=some (e:Int):=fun k e hk=>by
   have h1:=xH hk;rw[←ce1,List.getElem?_take] at h1;split at h1
   ·exact h1
   ·cases h1
  unfold o8;simp only[EV,decide_eq_true_eq,if_lt hi,den_lt,cellF,tixM hp (row_len _),eltM hp,rowP];refine(nj h ht hr hp (E:=E) (by omega) edge 1001 (-1) (by omega) hk helt ce2).trans ?_;obtain⟨gone,p1,_,_,_⟩:=c9 (ld:=ldF t l) i edge (-1);unfold eD;simp only;generalize popAll (ldF t l) i edge (-1)=pr at p1;obtain⟨kept,y⟩:=pr;simp only at p1;have hkl:kept.length≤E.length:=by rw[p1,List.length_append] at ce2;omega
  have hkl':kept.length≤1000:=by omega
  have hpl:l[lk.length]?=some p:=by rw[len];exact hp
  have u1:=up1 (show i<1000000000 by omega)
  have uk:((kept.length:Int)+((1:Nat):Int))=((kept.length+1:Nat):Int):=by omega
  simp only[EV];unfold zr;simp only[EV,Int.natCast_pos,gt_iff_lt];have ae:=Pk (E:=E) (n:=kept.length) (x:=(i:Int)) hkl (by omega);cases kept with
  |nil=>
   simp only[List.length_nil,Nat.lt_irrefl,decide_false,Bool.false_eq_true,if_false,EV,Int.natCast_zero];have ap:RF.ev (.app 24 3) [sl nrow (mkN l lk),.v (.int .i64 (i:Int)),sl nrow [⟨p.id,y,-1⟩]]=some (sl nrow (mkN l (lk++[(y,-1)]))):=by
    have:=aN (f:=nrow) (l:=mkN l lk) (k:=[⟨p.id,y,-1⟩]) (bytes:=24) (z:=3) (by rw[mkN_len _ _ (by omega)];simp;omega) lenN;rw[mkN_len _ _ (by omega),len] at this;rw[this,←mkN_app (x:=(y,-1)) hpl]
   simp only[List.length_nil,Int.natCast_zero] at ae;unfold k220_2;simp only[den_lt,cellP0,aggN,bsN,subN1,ae,ap,bsI,subI1,EV,List.length_map,u1,mkN_len _ _ (show(lk++[(y,-1)]).length≤l.length by simp;omega),List.length_append,len,List.length_singleton,List.length_cons,List.length_nil,Nat.zero_add]
   rfl
  |cons e es=>
   have hee:E[es.length]?=some (e:Int):=hk es.length e (by
    rw[p1,List.reverse_append,List.reverse_cons,List.getElem?_append_left (by simp),List.getElem?_append_right (by simp)];simp)
   have hei:e<i:=helt e (by rw[p1];simp);obtain⟨q,hq⟩: ∃q,l[e]?=some q:=⟨l[e]'(by omega),List.getElem?_eq_getElem _⟩;obtain⟨x,hx⟩: ∃x,lk[e]?=some x:=⟨lk[e]'(by omega),List.getElem?_eq_getElem _⟩;have hnod:=bO hq hx;have g0:decide (0<(e::es).length)=true:=by simp
   have d1:IntKind.i64.wrap (((es.length+1:Nat):Int)-1)=(es.length:Int):=fk (by simp at hkl';omega);have ap:RF.ev (.app 24 3) [sl nrow (mkN l (lk.modify e fun x=>(x.1,(i:Int)))),.v (.int .i64 (i:Int)),sl nrow [⟨p.id,y,-1⟩]]=some (sl nrow (mkN l ((lk.modify e fun x=>(x.1,(i:Int)))++[(y,-1)]))):=by
    have:=aN (f:=nrow) (l:=mkN l (lk.modify e fun x=>(x.1,(i:Int)))) (k:=[⟨p.id,y,-1⟩]) (bytes:=24) (z:=3) (by rw[mkN_len _ _ (by rw[List.length_modify];omega),List.length_modify];simp;omega) lenN;rw[mkN_len _ _ (by rw[List.length_modify];omega),List.length_modify,len] at this;rw[this,←mkN_app (x:=(y,-1)) (by rw[List.length_modify];exact hpl)]
   simp only[g0,if_true,EV,List.length_cons,d1,ixM (show es.length<es.length+1 by omega),eltM hee,rowI,ixM hei,CT hnod,mkN_set hq hx]
   unfold k220_2;simp only[List.length_cons] at ae uk;simp only[den_lt,cellP0,aggN,ae,ap,bsN,subN1,bsI,subI1,EV,List.length_map,u1,uk,List.length_cons,mkN_len _ _ (show((lk.modify e fun x=>(x.1,(i:Int)))++[(y,-1)]).length≤l.length by simp;omega),List.length_append,List.length_modify,len,List.length_singleton,List.length_nil,Nat.zero_add]
   rw[if_pos (decide_eq_true (by omega))]
 ·unfold cst o8;have hlk:(cmake (ldF t l) l.length).2.2.length=l.length:=(aY (aF (t:=t) h.2.2) l.length (by omega)).len;have hs:=subM (f:=nrow) (l:=mkN l (cmake (ldF t l) l.length).2.2);rw[mkN_len _ _ (by omega),hlk] at hs;have ag:RF.ev .agg [.i64 (cmake (ldF t l) l.length).2.1,sl nrow (mkN l (cmake (ldF t l) l.length).2.2)]=some (TR (cart t l)):=rfl;simp only[EV,decide_eq_true_eq,if_ge,zo,hs,ag]
def nodC (i:Nat)(n:Nod):Bool:=decide (n.left=(i:Int))||decide (n.right=(i:Int))
def gj (l:List Nod)(i:Nat):Int:=((l[i]?).map Nod.id).getD 0
theorem d5 {l:List Nod}{i:Nat}{n:Nod}(h:l[i]?=some n):gj l i=n.id:=by unfold gj;rw[h];rfl
def edgT (l:List Nod)(i:Nat):List Crt:=match l.findIdx? (nodC i) with|some k=>[⟨gj l i,gj l k⟩]|none=>[]
def edgsT (l:List Nod)(n:Nat):List Crt:=(List.range n).flatMap (edgT l)
theorem dJ (l:List Nod)(n:Nat):edgsT l (n+1)=edgsT l n++edgT l n:=by
 unfold edgsT;rw[List.range_succ,List.flatMap_append];simp
theorem cG (l:List Nod): ∀n,(edgsT l n).length≤n
 |0=>by simp[edgsT]
 |n+1=>by
  have:=cG l n;rw[dJ,List.length_append];unfold edgT;split<;>simp<;>omega
def mh (l:List Nod):Prop:= ∀(i k k':Nat) (x x':Nod),l[k]?=some x→nodC i x=true→l[k']?=some x'→nodC i x'=true→k=k'
theorem KX (n:Nod):rowPart 1 0 (nrow n)=some (.i64 n.left):=rfl
theorem KY (n:Nod):rowPart 2 0 (nrow n)=some (.i64 n.right):=rfl
theorem rowN0 (n:Nod):rowPart 0 0 (nrow n)=some (.i64 n.id):=rfl
theorem Bl {l:List Nod}(h:mh l)(i:Nat):(l.filter (nodC i)).map (fun n=>(⟨gj l i,n.id⟩:Crt))=edgT l i:=by
 rw[iM (fun k k' x x' h1 h2 h3 h4=>h i k k' x x' h1 h2 h3 h4)];unfold edgT;cases e:l.findIdx? (nodC i) with
 |none=>rfl
 |some k=>
  obtain⟨hk,_,_⟩:=List.findIdx?_eq_some_iff_getElem.1 e;have:=List.getElem?_eq_getElem hk;simp only;rw[this,d5 this];rfl
theorem IL {x:Tree}(h:mh x.nodes)(hl:x.nodes.length≤1000):Ans D 178 [TR x] [sl ac (edgsT x.nodes x.nodes.length)]:=by
 refine ans_of EB MB rfl ⟨1001,?_⟩;unfold uv;simp only[den_lt,shTR,EV];have e0:([PV.sl [],.v (.int .i64 0),.v (.int .i64 0)]:List PV)=[sl ac (edgsT x.nodes 0),.i64 ((edgsT x.nodes 0).length:Int),.i64 ((0:Nat):Int)]:=rfl;rw[e0];refine(run_up (m:=1001) (n:=x.nodes.length) (st:=fun i=>[sl ac (edgsT x.nodes i),.i64 ((edgsT x.nodes i).length:Int),.i64 (i:Int)]) (fin:=some [sl ac (edgsT x.nodes x.nodes.length)]) (fun i self hi=>?_) (fun self=>?_) (by omega))
 ·obtain⟨n,hn⟩: ∃n,x.nodes[i]?=some n:=⟨x.nodes[i],List.getElem?_eq_getElem _⟩;have hel:=cG x.nodes i;unfold oX;simp only[den_lt,cTR1,EV,List.length_map,decide_eq_true_eq,if_lt hi];have e1:([sl ac (edgsT x.nodes i),PV.i64 ((edgsT x.nodes i).length:Int),.v (.int .i64 0)]:List PV)=[sl ac (edgsT x.nodes i++[]),.i64 ((edgsT x.nodes i++[]).length:Int),.i64 ((0:Nat):Int)]:=by rw[List.append_nil];rfl
  rw[e1];refine(bv (m:=1001) (l:=x.nodes) (g:=fun acc m=>if nodC i m=true then acc++[⟨n.id,m.id⟩] else acc) (I:=fun k acc=>acc.length≤k) (S:=fun acc k=>[sl ac (edgsT x.nodes i++acc),.i64 ((edgsT x.nodes i++acc).length:Int),.i64 (k:Int)]) (fin:=fun acc=>self [sl ac (edgsT x.nodes i++acc),.i64 ((edgsT x.nodes i++acc).length:Int),.i64 ((i+1:Nat):Int)]) (x:=[]) (by simp) (fun k a acc _ h=>by
   split
   ·rw[List.length_append,List.length_singleton];omega
   ·omega) (fun k m acc self' hm hI=>?_) (fun acc self' hI=>?_) (by omega)).1.trans ?_
  ·have hk:=get_lt hm;have fin: ∀(e14 e15 e16 e17:PV) (b:Bool),b=nodC i m→den (PhiS D) 1001 oV
     [eO (PhiS D) 1001 jI [] [TR x,TR x],self,eO (PhiS D) 1001 oU [eO (PhiS D) 1001 jI [] [TR x,TR x],self] [TR x,TR x,sl ac (edgsT x.nodes i),.i64 ((edgsT x.nodes i).length:Int),.i64 (i:Int),sl nrow x.nodes,.v (.int .i64 (x.nodes.length:Int)),.v (.bool (decide ((i:Int)<(x.nodes.length:Int))))],self']
     [TR x,TR x,sl ac (edgsT x.nodes i),.i64 ((edgsT x.nodes i).length:Int),.i64 (i:Int),sl nrow x.nodes,.v (.int .i64 (x.nodes.length:Int)),.v (.bool (decide ((i:Int)<(x.nodes.length:Int)))),sl ac (edgsT x.nodes i++acc),.i64 ((edgsT x.nodes i++acc).length:Int),.i64 (k:Int),sl nrow x.nodes,.v (.int .i64 (x.nodes.length:Int)),.v (.bool (decide ((k:Int)<(x.nodes.length:Int)))),e14,e15,e16,e17,.v (.bool b)]=
     self' [sl ac (edgsT x.nodes i++if nodC i m=true then acc++[⟨n.id,m.id⟩] else acc),.i64 ((edgsT x.nodes i++if nodC i m=true then acc++[⟨n.id,m.id⟩] else acc).length:Int),.i64 ((k+1:Nat):Int)]:=fun e14 e15 e16 e17 b hb=>by
    subst hb;unfold oV;simp only[EV];cases nodC i m with
    |true=>
     have ap:=aN (f:=ac) (l:=edgsT x.nodes i++acc) (k:=[⟨n.id,m.id⟩]) (bytes:=16) (z:=2) (by rw[List.length_append];simp;omega) lenC;rw[List.append_assoc] at ap;simp only[if_true,den_lt,cTR1,tixM hn (lenN _),eltM hn,tixM hm (lenN _),eltM hm,rowN0,aggC,bsC,subC1,ap,EV,List.length_map,k178_3,up1 (show k<1000000000 by omega)]
    |false=>
     simp only[Bool.false_eq_true,if_false,EV,k178_3,up1 (show k<1000000000 by omega)]
   unfold oW;simp only[den_lt,cTR1,tixM hm (lenN _),eltM hm,KX,KY,EV,List.length_map,decide_eq_true_eq,if_lt hk];by_cases c1:m.left=(i:Int)
   ·rw[if_pos c1];exact fin _ _ _ _ true (by unfold nodC;rw[decide_eq_true c1];rfl)
   ·rw[if_neg c1];exact fin _ _ _ _ _ (by unfold nodC;rw[decide_eq_false c1,Bool.false_or])
  ·unfold oW;simp only[den_lt,cTR1,EV,List.length_map,decide_eq_true_eq,if_ge,oU,up1 (show i<1000000000 by omega)]
  ·rw[dJ];have:x.nodes.foldl (fun acc m=>if nodC i m=true then acc++[(⟨n.id,m.id⟩:Crt)] else acc) []=edgT x.nodes i:=by
    rw[←Bl h i,d5 hn];have: ∀(l:List Nod) (acc:List Crt),l.foldl (fun acc m=>if nodC i m=true then acc++[(⟨n.id,m.id⟩:Crt)] else acc) acc=acc++(l.filter (nodC i)).map (fun m=>⟨n.id,m.id⟩):=by
     intro l;induction l with
     |nil=>simp
     |cons a l ih=>
      intro acc;rw[List.foldl_cons,ih,List.filter_cons];cases nodC i a<;>simp
    rw[this,List.nil_append]
   rw[this]
 ·unfold oX;simp only[den_lt,cTR1,EV,List.length_map,decide_eq_true_eq,if_ge,jI,subM]
theorem lF (x:Int×Int): ∀(l:List (Int×Int)) (j:Nat) (u:List Int),upArr (l++[x]) j u=upArr [x] (j+l.length) (upArr l j u)
 |[],j,u=>rfl
 |y::l,j,u=>by
  show upArr (l++[x]) (j+1) _=_
  rw[lF x l];show _=upArr [x] (j+(l.length+1)) (upArr l (j+1) _)
  rw[show j+1+l.length=j+(l.length+1) by omega]
theorem Bn (i n:Nat)(h:i<n):(List.replicate i (-1:Int)++List.replicate (n-i) 0).set i (-1)=List.replicate (i+1) (-1)++List.replicate (n-(i+1)) 0:=by
 refine List.ext_getElem? fun k=>?_;simp only[List.getElem?_set,List.getElem?_append,List.getElem?_replicate,List.length_append,List.length_replicate]
 repeat' split
 all_goals first|rfl|omega
theorem bI {l:List Pt}{t:Rt}(h:okF l){k:Nat}{x:Int×Int}(hx:(cmake (ldF t l) l.length).2.2[k]?=some x): ∃n,(cart t l).nodes[k]?=some n∧n.left=x.1∧n.right=x.2∧ ∃p,l[k]?=some p∧n.id=p.id:=by
 have hlen:(cmake (ldF t l) l.length).2.2.length=l.length:=(aY (aF (t:=t) h.2.2) l.length (by omega)).len;obtain⟨p,hp⟩: ∃p,l[k]?=some p:=⟨l[k]'(by have:=get_lt hx;omega),List.getElem?_eq_getElem _⟩;exact⟨_,bO hp hx,rfl,rfl,p,hp,rfl⟩
theorem dC {n:Nod}{x:Int×Int}(h1:n.left=x.1)(h2:n.right=x.2)(i:Nat):nodC i n=decide (cB x i):=by
 unfold nodC;rw[h1,h2,Bool.eq_iff_iff];simp only[Bool.or_eq_true,decide_eq_true_eq];exact Iff.rfl
theorem xJ {l:List Pt}{t:Rt}(h:okF l)(i:Nat):(cmake (ldF t l) l.length).2.2.findIdx? (fun x=>decide (cB x i))=(cart t l).nodes.findIdx? (nodC i):=by
 have hlen:(cmake (ldF t l) l.length).2.2.length=l.length:=(aY (aF (t:=t) h.2.2) l.length (by omega)).len;have hnl:(cart t l).nodes.length=l.length:=by unfold cart;rw[mkN_len _ _ (by omega)];exact hlen
 cases e:(cart t l).nodes.findIdx? (nodC i) with
 |none=>
  rw[List.findIdx?_eq_none_iff] at e⊢;intro x hx;obtain⟨k,hk⟩:=List.mem_iff_getElem?.1 hx;obtain⟨n,a1,a2,a3,_⟩:=bI h hk;rw[←dC a2 a3];exact e n (List.mem_of_getElem? a1)
 |some k=>
  rw[List.findIdx?_eq_some_iff_getElem] at e⊢;obtain⟨e1,e2,e3⟩:=e;have hk:=List.getElem?_eq_getElem (show k<(cmake (ldF t l) l.length).2.2.length by omega)
  refine⟨by omega,?_,fun j hj=>?_⟩
  ·obtain⟨n,a1,a2,a3,_⟩:=bI h hk;rw[←dC a2 a3];rw[List.getElem?_eq_getElem e1] at a1;cases a1;exact e2
  ·have hj':=List.getElem?_eq_getElem (show j<(cmake (ldF t l) l.length).2.2.length by omega)
   obtain⟨n,a1,a2,a3,_⟩:=bI h hj';rw[←dC a2 a3];rw[List.getElem?_eq_getElem (by omega)] at a1;have a1:=Option.some.inj a1;rw[←a1];exact e3 j hj
theorem IM {l:List Pt}{t:Rt}(h:okF l)(ht:In64 t)(hr:rok t=true)(hone:mh (cart t l).nodes)(hlk: ∀x∈(cmake (ldF t l) l.length).2.2,x.1<l.length∧x.2<l.length):Ans D 125 [F l,R t] [TR (cart t l),sl ac (edgsT (cart t l).nodes l.length)]:=by
 have hl:=h.1;have hlen:(cmake (ldF t l) l.length).2.2.length=l.length:=(aY (aF (t:=t) h.2.2) l.length (by omega)).len;have hnl:(cart t l).nodes.length=l.length:=by unfold cart;rw[mkN_len _ _ (by omega)];exact hlen
 refine ans_of DY L0 rfl ⟨1001,?_⟩;unfold tH;have rp:=gi (n:=(cart t l).nodes.length) (by omega);simp only[den_lt,shapeF,shapeR,phi (Pl h ht hr),shTR,cTR1,EV,List.length_map,rp,List.length_replicate];have e0:([sl I1 (List.replicate (cart t l).nodes.length 0),.v (.int .i64 0)]:List PV)=[sl I1 (List.replicate 0 (-1)++List.replicate ((cart t l).nodes.length-0) 0),.i64 ((0:Nat):Int)]:=rfl;rw[e0];refine run_up (m:=1001) (n:=(cart t l).nodes.length) (st:=fun i=>[sl I1 (List.replicate i (-1)++List.replicate ((cart t l).nodes.length-i) 0),.i64 (i:Int)]) (fun i self hi=>?_) (fun self=>?_) (by omega)
 ·unfold kQ;simp only[EV,decide_eq_true_eq,if_lt hi,ixM hi,setI (l:=List.replicate i (-1)++List.replicate ((cart t l).nodes.length-i) 0) (i:=i) (by simp;omega),Bn i _ hi,up1 (show i<1000000000 by omega)]
 unfold kQ;simp only[EV,decide_eq_true_eq,if_ge,yn,den_lt,cTR1,List.length_map,Nat.sub_self,List.replicate_zero,List.append_nil];generalize hLK:(cmake (ldF t l) l.length).2.2=lk at*;have e1:([sl I1 (List.replicate (cart t l).nodes.length (-1)),.v (.int .i64 0)]:List PV)=[sl I1 (upArr (lk.take 0) 0 (List.replicate (cart t l).nodes.length (-1))),.i64 ((0:Nat):Int)]:=rfl;rw[e1];refine run_up (m:=1001) (n:=(cart t l).nodes.length) (st:=fun i=>[sl I1 (upArr (lk.take i) 0 (List.replicate (cart t l).nodes.length (-1))),.i64 (i:Int)]) (fun i self hi=>?_) (fun self=>?_) (by omega)
 ·obtain⟨x,hx⟩: ∃x,lk[i]?=some x:=⟨lk[i]'(by omega),List.getElem?_eq_getElem _⟩;obtain⟨nd,a1,a2,a3,_⟩:=bI (t:=t) h (by rw[hLK];exact hx);obtain⟨b1,b2⟩:=hlk x (List.mem_of_getElem? hx);have hnext:upArr (lk.take (i+1)) 0 (List.replicate (cart t l).nodes.length (-1))=upArr [x] i (upArr (lk.take i) 0 (List.replicate (cart t l).nodes.length (-1))):=by
   rw[List.take_add_one,hx];show upArr (lk.take i++[x]) 0 _=_
   rw[lF,List.length_take,Nat.zero_add,Nat.min_eq_left (by omega)]
  have hul:(upArr (lk.take i) 0 (List.replicate (cart t l).nodes.length (-1))).length=(cart t l).nodes.length:=by rw[l9];simp
  rw[hnext];generalize upArr (lk.take i) 0 (List.replicate (cart t l).nodes.length (-1))=u at hul;have pN:RF.ev (.part 1 2) [NP nd]=some (.agg [.i64 x.1,.i64 x.2]):=by rw[←a2,←a3];rfl
  unfold oc;simp only[EV,decide_eq_true_eq,if_lt hi,den_lt,cTR1,tixM a1 (lenN _),eltM a1,rowN,pN]
  let us:Nat→List Int:=fun j=>match j with|0=>u|1=>(if 0≤x.1 then u.set x.1.toNat i else u)|_=>(if 0≤x.2 then(if 0≤x.1 then u.set x.1.toNat i else u).set x.2.toNat i else(if 0≤x.1 then u.set x.1.toNat i else u))
  have hus: ∀j,(us j).length=(cart t l).nodes.length:=fun j=>by
   match j with
   |0=>exact hul
   |1=>simp only[us];split<;>simp[hul]
   |j+2=>simp only[us];repeat' split
         all_goals simp[hul]
  refine(run_up (m:=1001) (n:=2) (st:=fun j=>[sl I1 (us j),.i64 (j:Int)]) (fin:=self [sl I1 (us 2),.i64 ((i+1:Nat):Int)]) (fun j self' hj=>?_) (fun self'=>?_) (by omega)).trans rfl
  ·obtain⟨c,hc,haix,hu⟩: ∃c:Int,c<l.length∧RF.ev (.aix 1 2 0) [.agg [.i64 x.1,.i64 x.2],.i64 (j:Int)]=some (.i64 c)∧us (j+1)=(if 0≤c then(us j).set c.toNat i else us j):=by
    match j,hj with
    |0,_=>exact⟨x.1,b1,rfl,rfl⟩
    |1,_=>exact⟨x.2,b2,rfl,rfl⟩
   unfold ob;have l2:decide ((j:Int)<2)=true:=decide_eq_true (by omega);simp only[EV,l2,eq_self,if_true,haix,decide_eq_true_eq,ge_iff_le];rw[hu];by_cases c0:0≤c
   ·obtain⟨m,rfl⟩:=eH c0;rw[if_pos c0,if_pos c0,Int.toNat_natCast];simp only[EV,ixM (show m<(cart t l).nodes.length by omega),setI (l:=us j) (i:=m) (by rw[hus];omega),oa,up1 (show j<1000000000 by omega)]
   ·rw[if_neg c0,if_neg c0];simp only[EV,oa,up1 (show j<1000000000 by omega)]
  ·unfold ob;simp only[EV,show decide (((2:Nat):Int)<2)=false from rfl,Bool.false_eq_true,if_false,ym,up1 (show i<1000000000 by omega)]
 unfold oc;simp only[EV,decide_eq_true_eq,if_ge,yl,den_lt,cTR1,List.length_map];rw[List.take_of_length_le (by omega)];have hU: ∀i,i<(cart t l).nodes.length→(upArr lk 0 (List.replicate (cart t l).nodes.length (-1)))[i]?=match(cart t l).nodes.findIdx? (nodC i) with|some k=>some ((k:Nat):Int)|none=>some (-1):=fun i hi=>by
  rw[mb lk 0 _ i (by simpa using hi) ?_,←hLK,xJ h i]
  ·cases(cart t l).nodes.findIdx? (nodC i) with
   |none=>simp only;rw[List.getElem?_replicate,if_pos hi]
   |some k=>simp only[Nat.zero_add]
  ·intro k x hk hc k' x' hk' hc';rw[←hLK] at hk hk';obtain⟨n,a1,a2,a3,_⟩:=bI h hk;obtain⟨n',b1,b2,b3,_⟩:=bI h hk';exact hone i k k' n n' a1 (by rw[dC a2 a3];exact decide_eq_true hc) b1 (by rw[dC b2 b3];exact decide_eq_true hc')
 generalize upArr lk 0 (List.replicate (cart t l).nodes.length (-1))=U at hU;have e2:([PV.sl [],.v (.int .i64 0),.v (.int .i64 0)]:List PV)=[sl ac (edgsT (cart t l).nodes 0),.i64 ((edgsT (cart t l).nodes 0).length:Int),.i64 ((0:Nat):Int)]:=rfl;rw[e2];refine run_up (m:=1001) (n:=(cart t l).nodes.length) (st:=fun i=>[sl ac (edgsT (cart t l).nodes i),.i64 ((edgsT (cart t l).nodes i).length:Int),.i64 (i:Int)]) (fun i self hi=>?_) (fun self=>?_) (by omega)
 ·obtain⟨n,hn⟩: ∃n,(cart t l).nodes[i]?=some n:=⟨(cart t l).nodes[i],List.getElem?_eq_getElem _⟩;have hel:=cG (cart t l).nodes i;have hu:=hU i hi;rw[dJ];unfold edgT;unfold n9;cases e:(cart t l).nodes.findIdx? (nodC i) with
  |none=>
   rw[e] at hu;simp only[List.append_nil];simp only[EV,decide_eq_true_eq,if_lt hi,den_lt,cTR1,tixM hn (lenN _),eltM hn,rowN,ixM hi,eltM hu,rowI,ge_iff_le,Int.reduceNeg,Int.reduceLE,if_false,k125_2,up1 (show i<1000000000 by omega)]
  |some k=>
   rw[e] at hu;obtain⟨hk,_,_⟩:=List.findIdx?_eq_some_iff_getElem.1 e;have hm:=List.getElem?_eq_getElem hk;have c0:((0:Int)≤(k:Nat)):=by omega
   have cN:RF.ev (.cell 0) [NP n]=some (.i64 n.id):=rfl;have ap:=aN (f:=ac) (l:=edgsT (cart t l).nodes i) (k:=[⟨n.id,(cart t l).nodes[k].id⟩]) (bytes:=16) (z:=2) (by simp;omega) lenC;simp only[EV,decide_eq_true_eq,if_lt hi,den_lt,cTR1,tixM hn (lenN _),eltM hn,rowN,ixM hi,eltM hu,rowI,ge_iff_le,if_pos c0,tixM hm (lenN _),eltM hm,rowN0,cN,aggC,bsC,subC1,ap,List.length_map,k125_2,up1 (show i<1000000000 by omega),d5 hn,d5 hm]
 ·unfold n9;simp only[EV,decide_eq_true_eq,if_ge,yj,den_lt,subM,hnl]
theorem np {l:List Pt}{t:Rt}(h:okF l)(ht:In64 t){N:Nat}{f0:JT}{e0 e1 e2:PV}{b:Nat}(hb:b≤l.length): ∀(m i:Nat) (best:Option Nat) (n:Nat),i+m=b→m<n→(∀k,best=some k→k<i)→
  denW (PhiS D) (N+1) k397_4 [f0] [e0,e1,e2,.i64 (b:Int),F l,R t] n [.i64 (lk best),.i64 (i:Int)]=f0 [.i64 (lk (topFrom (ldF t l) m i best))]
 |0,i,best,n,hi,hn,_=>by
  obtain⟨n,rfl⟩: ∃n',n=n'+1:=⟨n-1,by omega⟩;rw[denW_succ];unfold k397_4 topFrom;simp only[EV,decide_eq_true_eq];rw[if_neg (by omega)]
 |m+1,i,best,n,hi,hn,hbest=>by
  obtain⟨n,rfl⟩: ∃n',n=n'+1:=⟨n-1,by omega⟩;have hl:=h.1;obtain⟨p,hp⟩: ∃p,l[i]?=some p:=⟨l[i]'(by omega),List.getElem?_eq_getElem _⟩;have ih:=fun best' hb'=>np h ht (N:=N) (f0:=f0) (e0:=e0) (e1:=e1) (e2:=e2) hb m (i+1) best' n (by omega) (by omega) hb';rw[denW_succ];generalize hkk:k397_4=kk at ih;subst hkk;unfold k397_4 topFrom;have u1:=up1 (show i<1000000000 by omega)
  simp only[EV,decide_eq_true_eq];rw[if_pos (by omega)];cases best with
  |none=>
   have ih:=ih (some i) (fun k hk=>by simp only[Option.some.injEq] at hk;omega);simp only[lk] at ih;simp only[lk,EV,show decide ((-1:Int)<0)=true from rfl,if_true,qf,k397_2,u1]
   exact ih
  |some q=>
   have hq:q<i:=hbest q rfl;obtain⟨r,hr⟩: ∃r,l[q]?=some r:=⟨l[q]'(by omega),List.getElem?_eq_getElem _⟩;have g0:decide ((q:Int)<0)=false:=decide_eq_false (by omega);simp only[lk,EV,g0,Bool.false_eq_true,if_false,den_lt,cellF,tixM hp (row_len _),eltM hp,tixM hr (row_len _),eltM hr,rowP,phi (c323 (okF_pt h hp) (okF_pt h hr) ht),←ldF_get hp hr,qf];cases hL:ldF t l i q with
   |true=>
    have ih:=ih (some i) (fun k hk=>by simp only[Option.some.injEq] at hk;omega);simp only[lk] at ih;simp only[if_true,EV,k397_2,u1];exact ih
   |false=>
    have ih:=ih (some q) (fun k hk=>by simp only[Option.some.injEq] at hk;omega);simp only[lk] at ih;simp only[Bool.false_eq_true,if_false,EV,k397_2,u1];exact ih
theorem Pm {l:List Pt}{t:Rt}(h:okF l)(ht:In64 t){a b:Nat}(hab:a≤b)(hb:b≤l.length):Ans D 397 [F l,R t,.i64 (a:Int),.i64 (b:Int)] [.i64 (lk (f6 (ldF t l) a b))]:=by
 have hl:=h.1;refine ans_of Gh Ob rfl ⟨1001,?_⟩;unfold wC;simp only[den_lt,shapeF,shapeR,EV];refine(np h ht (N:=1000) hb (b-a) a none 1001 (by omega) (by omega) (by simp)).trans ?_;unfold Ay;simp only[EV];rfl
theorem KZ {l:List Nod}{i:Nat}{n:Nod}(h:l[i]?=some n)(r:Int):RF.ev (.set 1) [sl nrow l,.v (.int .i64 (i:Int)),.v (.int .i64 r)]=some (sl nrow (l.set i ⟨n.id,r,n.right⟩)):=by
 rw[ku,if_pos (by omega),Int.toNat_natCast,List.getElem?_map,h];simp only[Option.map_some,show(PV.v (.int .i64 r)).cells=[.v (.int .i64 r)] from rfl,List.length_singleton,show(nrow n).length=3 from rfl,Nat.reduceAdd,Nat.reduceLeDiff,if_true]
 exact congrArg (fun x=>some (PV.sl x)) (List.map_set (f:=nrow) (l:=l) (i:=i) (a:=⟨n.id,r,n.right⟩)).symm
theorem mkN_setL {l:List Pt}{lk:List (Int×Int)}{e:Nat}{p:Pt}{x:Int×Int}{r:Int}(hp:l[e]?=some p)(hx:lk[e]?=some x):(mkN l lk).set e ⟨p.id,r,x.2⟩=mkN l (lk.modify e fun x=>(r,x.2)):=by
 refine List.ext_getElem? fun k=>?_;have hlen:(lk.modify e fun x=>(r,x.2)).length=lk.length:=List.length_modify ..;by_cases hk:k<l.length∧k<lk.length
 ·have h1:=List.getElem?_eq_getElem hk.1;have h2:=List.getElem?_eq_getElem hk.2;by_cases e':k=e
  ·subst e';rw[List.getElem?_set_self (by simp[mkN,List.length_zip];omega)];rw[bO hp (x:=(r,x.2)) (by rw[List.getElem?_modify_eq,hx];rfl)]
  ·rw[List.getElem?_set_ne (by omega),bO h1 h2,bO h1 (x:=lk[k]) (by rw[List.getElem?_modify_ne _ _ (by omega)];exact h2)]
 ·rw[List.getElem?_eq_none (by simp[mkN,List.length_zip];omega),List.getElem?_eq_none (by simp[mkN,List.length_zip];omega)]
theorem fx {ld:Nat→Nat→Bool}: ∀(f a b:Nat) (l:List (Int×Int)),(grow ld f a b l).1.length=l.length
 |0,_,_,_=>rfl
 |f+1,a,b,l=>by
  unfold grow;split
  ·rfl
  ·simp only[List.length_modify,fx f]
theorem xK {ld:Nat→Nat→Bool}{f a b:Nat}{l:List (Int×Int)}(e:f6 ld a b=none):grow ld (f+1) a b l=(l,-1):=by
 rw[grow];simp only[e]
theorem grow_some {ld:Nat→Nat→Bool}{f a b i:Nat}{l rl s:List (Int×Int)}{rr sr:Int}(e:f6 ld a b=some i)(h1:grow ld f a i l=(rl,rr))(h2:grow ld f (i+1) b (rl.modify i fun x=>(rr,x.2))=(s,sr)):grow ld (f+1) a b l=(s.modify i fun x=>(x.1,sr),(i:Int)):=by
 rw[grow];simp only[e,h1,h2]
theorem Pn (l:List Nod):RF.ev .len [sl nrow l]=some (.i64 (l.length:Int)):=by
 rw[f_len,List.length_map]
def T0:PV:=TR ⟨0,[]⟩
theorem cT0:RF.ev (.cell 0) [T0]=some (.i64 0):=rfl
theorem Po:RF.ev (.shape 2) [T0]=some T0:=rfl
theorem agT0:RF.ev .agg [.v (.int .i64 0),.sl []]=some T0:=rfl
theorem Bo {l:List Pt}{t:Rt}(h:okF l)(ht:In64 t): ∀(f a b:Nat) (ks:List (Int×Int)),b-a<f→a≤b→b≤l.length→ks.length=l.length→
  Ans D 350 [F l,R t,T0,.i64 (a:Int),.i64 (b:Int),sl nrow (mkN l ks)] [.i64 (grow (ldF t l) f a b ks).2,sl nrow (mkN l (grow (ldF t l) f a b ks).1)]
 |0,a,b,ks,hf,_,_,_=>by omega
 |f+1,a,b,ks,hf,hab,hb,hk=>by
  have hl:=h.1;have ht1:=rc (aF (t:=t) h.2.2) hb hab;refine ans_of F3 NY rfl ⟨1,?_⟩;unfold wd;simp only[den_lt,Po,shapeF,shapeR,EV,List.length_map,phi (Pm h ht hab hb),mkN_len l ks (by omega),hk];cases e:f6 (ldF t l) a b with
  |none=>
   rw[xK e];simp only[lk,EV,k350_1,decide_eq_true_eq];rw[if_neg (by decide)]
  |some i=>
   rw[e] at ht1;rcases ht1 with⟨_,t1⟩|⟨k,t1,t2⟩
   ·simp[lk] at t1
   have hik:i=k:=by simp only[lk] at t1;omega
   subst hik;obtain⟨t3,t4,_⟩:=t2;have u1:=up1 (show i<1000000000 by omega)
   have hgl:=fx (ld:=ldF t l) f a i ks;have p1:=phi (Bo h ht f a i ks (by omega) t3 (by omega) hk);generalize hg1:grow (ldF t l) f a i ks=r at hgl p1;obtain⟨rl,rr⟩:=r;simp only at hgl p1;obtain⟨p,hp⟩: ∃p,l[i]?=some p:=⟨l[i]'(by omega),List.getElem?_eq_getElem _⟩;obtain⟨x,hx⟩: ∃x,rl[i]?=some x:=⟨rl[i]'(by omega),List.getElem?_eq_getElem _⟩;have s1:=KZ (bO hp hx) rr;simp only at s1;rw[mkN_setL hp hx] at s1;have hgl1:(rl.modify i fun x=>(rr,x.2)).length=l.length:=by rw[List.length_modify];omega
   have p2:=phi (Bo h ht f (i+1) b _ (by omega) (by omega) hb hgl1);have hgl2:=fx (ld:=ldF t l) f (i+1) b (rl.modify i fun x=>(rr,x.2));simp only[lk,decide_eq_true_eq,if_pos (show(0:Int)≤(i:Int) by omega),EV,den_lt,cT0,agT0,p1,ixM (show i<l.length by omega),s1,u1,p2]
   generalize hg2:grow (ldF t l) f (i+1) b (rl.modify i fun x=>(rr,x.2))=s at hgl2 p2;obtain⟨sl',sr⟩:=s;simp only at hgl2;obtain⟨y,hy⟩: ∃y,sl'[i]?=some y:=⟨sl'[i]'(by omega),List.getElem?_eq_getElem _⟩;have s2:=CT (bO hp hy) sr;simp only at s2;rw[mkN_set hp hy] at s2;rw[grow_some e hg1 hg2];simp only[s2,k350_1,EV];exact if_pos (decide_eq_true (by omega))
theorem zeros_app {l:List Pt}{i:Nat}{p:Pt}(hp:l[i]?=some p):mkN l (List.replicate i (0,0))++[⟨p.id,0,0⟩]=mkN l (List.replicate (i+1) (0,0)):=by
 rw[List.replicate_succ'];exact mkN_app (x:=(0,0)) (by rw[List.length_replicate];exact hp)
theorem Pp {l:List Pt}{t:Rt}(h:okF l)(ht:In64 t):Ans D 268 [F l,R t] [TR (cart t l)]:=by
 have hl:=h.1;refine ans_of Fm Nj rfl ⟨1001,?_⟩;unfold vr;simp only[den_lt,shapeF,shapeR,EV];have e0:([PV.sl [],.v (.int .i64 0),.v (.int .i64 0)]:List PV)=[sl nrow (mkN l (List.replicate 0 (0,0))),.i64 ((0:Nat):Int),.i64 ((0:Nat):Int)]:=by simp[mkN]
 rw[e0];refine(run_up (m:=1001) (n:=l.length) (st:=fun i=>[sl nrow (mkN l (List.replicate i (0,0))),.i64 (i:Int),.i64 (i:Int)]) (fin:=some [TR (cart t l)]) (fun i self hi=>?_) (fun self=>?_) (by omega))
 ·obtain⟨p,hp⟩: ∃p,l[i]?=some p:=⟨l[i],List.getElem?_eq_getElem _⟩;have ap:RF.ev (.app 24 3) [sl nrow (mkN l (List.replicate i (0,0))),.v (.int .i64 (i:Int)),sl nrow [⟨p.id,0,0⟩]]=some (sl nrow (mkN l (List.replicate (i+1) (0,0)))):=by
   have:=aN (f:=nrow) (l:=mkN l (List.replicate i (0,0))) (k:=[⟨p.id,0,0⟩]) (bytes:=24) (z:=3) (by rw[mkN_len _ _ (by rw[List.length_replicate];omega),List.length_replicate];simp;omega) lenN;rw[mkN_len _ _ (by rw[List.length_replicate];omega),List.length_replicate] at this;rw[this,zeros_app hp]
  unfold k268_2;simp only[den_lt,cellF,EV,List.length_map,decide_eq_true_eq,if_lt hi,tixM hp (row_len _),eltM hp,cM,aggN,bsN,subN1,ap,Pn,mkN_len l (List.replicate (i+1) ((0:Int),(0:Int))) (by rw[List.length_replicate];omega),List.length_replicate,up1 (show i<1000000000 by omega)]
 ·have p1:=phi (Bo h ht (l.length+1) 0 l.length (List.replicate l.length (0,0)) (by omega) (by omega) (Nat.le_refl _) (by rw[List.length_replicate]));have hgl:=fx (ld:=ldF t l) (l.length+1) 0 l.length (List.replicate l.length (0,0));rw[List.length_replicate] at hgl;have L:=aF (t:=t) h.2.2;obtain⟨g1,g2,_,g4⟩:=dl L (l.length+1) 0 l.length (List.replicate l.length (0,0)) (by omega) (by rw[List.length_replicate]) ⟨by omega,Nat.le_refl _,.inl rfl,.inl rfl⟩;have hu:=A2 L (cg L) ⟨g1,g2,fun k x hx=>g4 k x (by omega) (by have:=get_lt hx;omega) hx⟩;have hs:=subM (f:=nrow) (l:=mkN l (grow (ldF t l) (l.length+1) 0 l.length (List.replicate l.length (0,0))).1);rw[mkN_len _ _ (by omega),hgl] at hs;unfold k268_2;have ag:RF.ev .agg [.i64 (grow (ldF t l) (l.length+1) 0 l.length (List.replicate l.length (0,0))).2,sl nrow (mkN l (grow (ldF t l) (l.length+1) 0 l.length (List.replicate l.length (0,0))).1)]=some (TR (cart t l)):=by
   rw[←hu.1,←hu.2];rfl
  simp only[Int.natCast_zero] at p1;simp only[den_lt,cellF,EV,List.length_map,decide_eq_true_eq,if_ge,k268_1,agT0,p1,hs,ag]
theorem rI {l:List Pt}{t:Rt}(h:okF l): ∀x∈(cmake (ldF t l) l.length).2.2,x.1<l.length∧x.2<l.length:=fun x hx=>by
 obtain⟨k,hk⟩:=List.mem_iff_getElem?.1 hx;have C:=cg (aF (t:=t) h.2.2);obtain⟨a,b,⟨a1,_⟩,⟨b1,b2,_⟩,l1,l2⟩:=C.2.2 k x hk;constructor
 ·rcases l1 with⟨_,l1⟩|⟨i,l1,t1,t2,_⟩
  ·omega
  ·have:=get_lt hk;have:=C.2.1;omega
 ·rcases l2 with⟨_,l2⟩|⟨i,l2,t1,t2,_⟩<;>omega
theorem cy {l:List Pt}{t:Rt}(h:okF l):(cart t l).nodes.length=l.length:=by
 unfold cart;have hlen:(cmake (ldF t l) l.length).2.2.length=l.length:=(aY (aF (t:=t) h.2.2) l.length (by omega)).len;rw[mkN_len _ _ (by omega)];exact hlen
theorem fy {l:List Pt}{t:Rt}(h:okF l){i k:Nat}{x:Nod}(hx:(cart t l).nodes[k]?=some x)(hc:nodC i x=true):Below (cmake (ldF t l) l.length).2.2 i k:=by
 have hk:=get_lt hx;rw[cy h] at hk;have hlen:(cmake (ldF t l) l.length).2.2.length=l.length:=(aY (aF (t:=t) h.2.2) l.length (by omega)).len;obtain⟨y,hy⟩: ∃y,(cmake (ldF t l) l.length).2.2[k]?=some y:=⟨_,List.getElem?_eq_getElem (by omega)⟩;obtain⟨n,a1,a2,a3,_⟩:=bI h hy;rw[hx] at a1;cases a1;refine⟨y,hy,?_⟩;unfold nodC at hc;rw[a2,a3] at hc;simpa using hc
theorem fA {l:List Pt}{t:Rt}(h:okF l):mh (cart t l).nodes:=fun i k k' x x' h1 h2 h3 h4=>
 xv (aF (t:=t) h.2.2) (cg (aF (t:=t) h.2.2)) (fy h h1 h2) (fy h h3 h4)
theorem cart_id {l:List Pt}{t:Rt}(h:okF l){i:Nat}{p:Pt}(hp:l[i]?=some p):gj (cart t l).nodes i=p.id:=by
 have hlen:(cmake (ldF t l) l.length).2.2.length=l.length:=(aY (aF (t:=t) h.2.2) l.length (by omega)).len;have:=get_lt hp;obtain⟨y,hy⟩: ∃y,(cmake (ldF t l) l.length).2.2[i]?=some y:=⟨_,List.getElem?_eq_getElem (by omega)⟩;obtain⟨n,a1,a2,a3,q,hq,e⟩:=bI h hy;rw[d5 a1,e,hp.symm.trans hq|>Option.some.inj]
theorem lG {l:List Nod}{n:Nat}{e:Crt}(h:e∈edgsT l n): ∃i k,i<n∧l.findIdx? (nodC i)=some k∧e=⟨gj l i,gj l k⟩:=by
 unfold edgsT at h;obtain⟨i,hi,he⟩:=List.mem_flatMap.1 h;rw[List.mem_range] at hi;unfold edgT at he;cases e':l.findIdx? (nodC i) with
 |none=>rw[e'] at he;cases he
 |some k=>
  rw[e'] at he;exact⟨i,k,hi,e',List.mem_singleton.1 he⟩
theorem cb {l:List Pt}{t:Rt}(h:okF l){e:Crt}(he:e∈edgsT (cart t l).nodes l.length):inF l e.low=true∧inF l e.high=true∧leads t (ptOf l e.high) (ptOf l e.low)=true:=by
 obtain⟨i,k,hi,hf,rfl⟩:=lG he;obtain⟨hk,hc,_⟩:=List.findIdx?_eq_some_iff_getElem.1 hf;have hb:=fy h (List.getElem?_eq_getElem hk) hc;rw[cy h] at hk;have hp:=List.getElem?_eq_getElem hi;have hq:=List.getElem?_eq_getElem hk;obtain⟨hl,_⟩:=eP (aF (t:=t) h.2.2) (cg (aF (t:=t) h.2.2)) hb;rw[ldF_get hq hp] at hl;simp only;rw[cart_id h hp,cart_id h hq,ptOf_some h hp,ptOf_some h hq];exact⟨in_ids.2 (List.mem_map.2 ⟨_,List.mem_of_getElem? hp,rfl⟩),in_ids.2 (List.mem_map.2 ⟨_,List.mem_of_getElem? hq,rfl⟩),hl⟩
theorem fB {l:List Pt}{t:Rt}(h:okF l): ∀n,n≤l.length→(edgsT (cart t l).nodes n).Nodup
 |0,_=>by simp[edgsT]
 |n+1,hn=>by
  rw[dJ];have ih:=fB (t:=t) h n (by omega);unfold edgT;split
  ·rw[List.nodup_append];refine⟨ih,by simp,fun a ha b hb e=>?_⟩;subst e;obtain⟨i,k,hi,hf,e⟩:=lG ha;rw[List.mem_singleton] at hb;rw[e] at hb;simp only[Crt.mk.injEq] at hb;have hp:=List.getElem?_eq_getElem (show i<l.length by omega)
   have hq:=List.getElem?_eq_getElem (show n<l.length by omega)
   rw[cart_id h hp,cart_id h hq] at hb;have:=bi h.2.2 hi hp hq;omega
  ·rw[List.append_nil];exact ih
theorem c177 {l:List Pt}{t:Rt}(h:okF l)(ht:In64 t):Ans D 177 [F l,R t] [TR (cart t l)]:=by
 refine ans_of EA MA rfl ⟨1,?_⟩;unfold uu;simp only[den_lt,shapeF,shapeR,phi (Pp h ht),shTR,EV]
def bK (k:Heater):Prop:=aw k.clock∧cart k.clock.now k.clock.pts=k.tree∧JustR k.clock (edgsT (cart k.clock.now k.clock.pts).nodes k.clock.pts.length)
theorem nq {k:Heater}(h:gHt k=false):gCl k.clock=false∧k.tree.nodes.length≤70:=by
 unfold gHt at h;simp only[Bool.or_eq_false_iff,decide_eq_false_iff_not] at h;exact⟨h.1,by omega⟩
open Classical in
theorem c83 {k:Heater}(h64:aE k.clock)(hg:gHt k=false):Ans D 83 [HT k] [.i64 (okE (decide (bK k)))]:=by
 obtain⟨g1,g2⟩:=nq hg;have no: ∀h:¬bK k,(some [PV.v (.int .i64 8)]:Option (List PV))=some [.i64 (okE (decide (bK k)))]:=fun h=>by rw[decide_eq_false h];rfl
 have pHT2:RF.ev (.part 2 1) [HT k]=some (F k.clock.pts):=rfl;have pHT0:RF.ev (.part 0 2) [HT k]=some (R k.clock.now):=rfl;refine ans_of H3 s83 rfl ⟨1001,?_⟩;unfold k83;simp only[den_lt,shHT,pHT,EV,phi (sA h64 g1),bf,Bool.not_eq_true',decide_eq_false_iff_not];by_cases h1:aw k.clock
 ·have hF:=h1.2.1;have hl:=hF.1;have hnl:=cy (t:=k.clock.now) hF;rw[decide_eq_true h1,if_pos rfl];simp only[den_lt,pHT,pHT2,pHT0,pHTt,shTR,phi (c177 hF h64.1),phi (Ip (s:=cart k.clock.now k.clock.pts) (t:=k.tree) (by omega)),EV,Bool.not_eq_true',decide_eq_false_iff_not];by_cases h2:cart k.clock.now k.clock.pts=k.tree
  ·rw[if_neg (by simp[h2])];have hel:=cG (cart k.clock.now k.clock.pts).nodes k.clock.pts.length;have e178:=phi (IL (x:=cart k.clock.now k.clock.pts) (fA hF) (by omega));rw[hnl] at e178;simp only[den_lt,EV,e178,phi (c169 (c:=k.clock) (edges:=edgsT (cart k.clock.now k.clock.pts).nodes k.clock.pts.length) hF h64.1 (by omega) (by have:=aP g1;omega) (fun e he=>⟨(cb hF he).1,(cb hF he).2.1⟩)),Bool.not_eq_true',decide_eq_false_iff_not];by_cases h3:JustR k.clock (edgsT (cart k.clock.now k.clock.pts).nodes k.clock.pts.length)
   ·rw[if_neg (by simp[h3]),decide_eq_true (show bK k from⟨h1,h2,h3⟩)];rfl
   ·rw[if_pos h3];exact no (fun h=>h3 h.2.2)
  ·rw[if_pos h2];exact no (fun h=>h2 h.2.1)
 ·rw[decide_eq_false h1,if_neg (by simp)];exact no (fun h=>h1 h.1)
open Classical in
theorem c79 {k:Heater}(h64:aE k.clock)(hg:gHt k=false):Ans D 79 [HT k] [.i64 (okE (decide (bK k)))]:=by
 obtain⟨g1,g2⟩:=nq hg;have no: ∀h:¬bK k,(some [PV.v (.int .i64 8)]:Option (List PV))=some [.i64 (okE (decide (bK k)))]:=fun h=>by rw[decide_eq_false h];rfl
 have pHT2:RF.ev (.part 2 1) [HT k]=some (F k.clock.pts):=rfl;have pHT0:RF.ev (.part 0 2) [HT k]=some (R k.clock.now):=rfl;have cHT11:RF.ev (.cell 11) [HT k]=some (.i64 k.tree.root):=rfl;have cHT12:RF.ev (.cell 12) [HT k]=some (sl nrow k.tree.nodes):=rfl;have cc:=aP g1;refine ans_of HZ s79 rfl ⟨1001,?_⟩;unfold k79;simp only[den_lt,shHT,pHT,EV,phi (sE h64 g1),bf,Bool.not_eq_true',decide_eq_false_iff_not];by_cases h1:aw k.clock
 ·have hF:=h1.2.1;have hl:=hF.1;have hnl:=cy (t:=k.clock.now) hF;have hel:=cG (cart k.clock.now k.clock.pts).nodes k.clock.pts.length;rw[decide_eq_true h1,if_pos rfl];simp only[den_lt,pHT,pHT2,pHT0,cHT11,cHT12,cTR0,cTR1,shTR,phi (IM hF h64.1 h1.1 (fA hF) (rI hF)),phi (Pb (l:=(cart k.clock.now k.clock.pts).nodes) (k:=k.tree.nodes) (by omega)),EV,Bool.not_eq_true',decide_eq_false_iff_not];have hJ:=gg (c:=k.clock) h1.2.2.1 (fB (t:=k.clock.now) hF k.clock.pts.length (by omega)) (fun e he=>(cb hF he).2.2);by_cases h2:(cart k.clock.now k.clock.pts).root=k.tree.root
  ·rw[if_neg (by simp[h2])];by_cases h3:(cart k.clock.now k.clock.pts).nodes=k.tree.nodes
   ·rw[if_neg (by simp[h3])];have h4:cart k.clock.now k.clock.pts=k.tree:=by
     generalize cart k.clock.now k.clock.pts=a at h2 h3;obtain⟨a,b⟩:=a;simp only at h2 h3;rw[h2,h3]
    have hJ':bK k↔JustP k.clock (edgsT (cart k.clock.now k.clock.pts).nodes k.clock.pts.length):=⟨fun h=>hJ.2 h.2.2,fun h=>⟨h1,h4,hJ.1 h⟩⟩;have hd:decide (bK k)=decide (JustP k.clock (edgsT (cart k.clock.now k.clock.pts).nodes k.clock.pts.length)):=by
     rw[Bool.eq_iff_iff,decide_eq_true_eq,decide_eq_true_eq];exact hJ'
    rw[hd];clear hd hJ' hJ;generalize edgsT (cart k.clock.now k.clock.pts).nodes k.clock.pts.length=E at hel;simp only[den_lt,cCL4,EV,List.length_map];by_cases c1:E.length=k.clock.certs.list.length
    ·rw[if_pos (decide_eq_true (by omega))];refine(run_list (m:=1001) (l:=k.clock.certs.list) (p:=fun h=>decide (h.cert∈E)) (st:=fun i=>[.i64 (i:Int)]) (r:=some [.i64 8]) (fin:=some [.i64 0]) (fun i a self ha _=>?_) (fun _ self=>?_) (by omega)).trans ?_
     ·unfold tq;simp only[den_lt,cCL4,tixM ha (lenH _),eltM ha,rowH,pHP,phi (kK (l:=E) a.cert (by omega)),EV,List.length_map,decide_eq_true_eq,if_lt (get_lt ha),up1 (show i<1000000000 by have:=get_lt ha;omega),Bool.not_eq_true',decide_eq_false_iff_not]
      by_cases c2:a.cert∈E
      ·rw[if_neg (by simp[c2]),if_pos c2]
      ·rw[if_pos c2,if_neg c2];unfold mD;simp only[EV];rfl
     ·unfold tq Dp mD;simp only[EV,decide_eq_true_eq,if_ge];rfl
     ·have:(k.clock.certs.list.all fun h=>decide (h.cert∈E))=decide (JustP k.clock E):=by
       rw[Bool.eq_iff_iff,decide_eq_true_eq];unfold JustP;simp[c1]
      rw[this];cases decide (JustP k.clock E)<;>rfl
    ·rw[if_neg (by simp;omega),show decide (JustP k.clock E)=false from decide_eq_false (fun h=>c1 h.1)]
     unfold mD;simp only[EV];rfl
   ·rw[if_pos h3];exact no (fun h=>h3 (by rw[h.2.1]))
  ·rw[if_pos h2];exact no (fun h=>h2 (by rw[h.2.1]))
 ·rw[decide_eq_false h1,if_neg (by simp)];exact no (fun h=>h1 h.1)
end Go.Proofs.YtfghdmmapmdcgaaGreat
