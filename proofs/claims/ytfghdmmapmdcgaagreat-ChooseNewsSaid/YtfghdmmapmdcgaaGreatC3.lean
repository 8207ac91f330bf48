import Derived.Test.YtfghdmmapmdcgaaGreatC2
import Derived.Test.YtfghdmmapmdcgaaGreatP1
set_option linter.unusedVariables false
set_option linter.unusedSimpArgs false
set_option linter.defProp false
noncomputable section
namespace Go.Proofs.YtfghdmmapmdcgaaGreat
open Go.Sym Bnd
set_option maxRecDepth 100000
theorem mmX (a b:Int):RF.ev (.mm true) [.v (.int .i64 a),.v (.int .i64 b)]=some (.v (.int .i64 (max a b))):=rfl
theorem mmN (a b:Int):RF.ev (.mm false) [.v (.int .i64 a),.v (.int .i64 b)]=some (.v (.int .i64 (min a b))):=rfl
theorem dbl {i:Nat}(h:i<100000000):IntKind.i64.wrap (2*(i:Int))=((2*i:Nat):Int):=by rw[ah (by omega) (by omega)];omega
theorem up2 {i:Nat}(h:i<1000000000):IntKind.i64.wrap ((i:Int)+2)=((i+2:Nat):Int):=by rw[ah (by omega) (by omega)];rfl
theorem nu {i j:Nat}(h:j≤i)(k:i<1000000000):IntKind.i64.wrap ((i:Int)-(j:Int))=((i-j:Nat):Int):=by rw[ah (by omega) (by omega)];omega
theorem ny {b:Brk}{i:Nat}(hi:i<b.wins.length+b.places.length)(hb:b.wins.length+b.places.length≤1000):Ans D 242 [BR b,.i64 (i:Int)] [.i64 (nodeV b.wins b.places i)]:=by
 refine ans_of E5 M2 rfl ⟨1,?_⟩;unfold uV;by_cases h:i<b.wins.length
 ·obtain⟨x,hx⟩: ∃x,b.wins[i]?=some x:=⟨_,List.getElem?_eq_getElem h⟩;have w:IntKind.i64.wrap ((i:Int)-(b.wins.length:Int))=(i:Int)-(b.wins.length:Int):=ah (by omega) (by omega);simp only[den_lt,shBR,cBR1,dc,EV,List.length_map,w,decide_eq_true_eq,ge_iff_le,if_neg (show¬(0:Int)≤(i:Int)-(b.wins.length:Int) by omega),tixM hx (lenI _),eltM hx,rowI,iw hx]
 ·obtain⟨x,hx⟩: ∃x,b.places[i-b.wins.length]?=some x:=⟨_,List.getElem?_eq_getElem (by omega)⟩;simp only[den_lt,shBR,cBR1,dc,EV,List.length_map,nu (show b.wins.length≤i by omega) (by omega),decide_eq_true_eq,ge_iff_le,if_pos (show(0:Int)≤((i-b.wins.length:Nat):Int) by omega),tixM hx (lenI _),eltM hx,rowI,iy h hx]
theorem gk {b:Brk}{i:Nat}(hi:i<b.wins.length+b.places.length)(hb:b.wins.length+b.places.length≤1000):Ans D 266 [BR b,.i64 (i:Int)] [.i64 (nodeV b.wins b.places i)]:=by
 refine ans_of Fk Nh rfl ⟨1,?_⟩;unfold vp;by_cases h:i<b.wins.length
 ·obtain⟨x,hx⟩: ∃x,b.wins[i]?=some x:=⟨_,List.getElem?_eq_getElem h⟩;simp only[den_lt,shBR,cBR1,dc,EV,List.length_map,decide_eq_true_eq,if_lt h,tixM hx (lenI _),eltM hx,rowI,iw hx]
 ·obtain⟨x,hx⟩: ∃x,b.places[i-b.wins.length]?=some x:=⟨_,List.getElem?_eq_getElem (by omega)⟩;simp only[den_lt,shBR,cBR1,dc,EV,List.length_map,nu (show b.wins.length≤i by omega) (by omega),decide_eq_true_eq,if_neg (show¬(i:Int)<(b.wins.length:Int) by omega),tixM hx (lenI _),eltM hx,rowI,iy h hx]
open Classical in
theorem Pq {l:List Int}(hl:l.length≤1000):Ans D 265 [sl I1 l] [.bool (decide (¬bY l))]:=by
 refine ans_of Fj Ng rfl ⟨1001,?_⟩;unfold vo;simp only[EV];refine(run_if (m:=1001) (n:=l.length) (P:=fun i=> ∀x,l[i]?=some x→0≤x→ ∀j,j<i→l[j]?≠some x) (st:=fun i=>[.i64 (i:Int)]) (r:=some [.bool true]) (fin:=some [.bool false]) (fun i self hi _=>?_) (fun hall self=>?_) (by omega)).trans ?_
 ·have hx:=aC hi;generalize nthI l i=x at hx;have hP:(∀x',l[i]?=some x'→0≤x'→ ∀j,j<i→l[j]?≠some x')↔(0≤x→ ∀j,j<i→l[j]?≠some x):=
   ⟨fun h=>h x hx,fun h x' e=>by rw[hx] at e;cases e;exact h⟩
  unfold pD;simp only[hP,EV,List.length_map,decide_eq_true_eq,if_lt hi];refine(run_if (m:=1001) (n:=i) (P:=fun j=>0≤x→l[j]?≠some x) (st:=fun i=>[.i64 (i:Int)]) (r:=some [.bool true]) (fin:=self [.i64 ((i+1:Nat):Int)]) (fun j self' hj _=>?_) (fun _ self'=>?_) (by omega)).trans ?_
  ·have hy:=aC (l:=l) (i:=j) (by omega);generalize nthI l j=y at hy;unfold k265_4;simp only[tixM hx (lenI _),eltM hx,tixM hy (lenI _),eltM hy,rowI,EV,decide_eq_true_eq,if_lt hj,ge_iff_le,k265_3,up1 (show j<1000000000 by omega),hy,ne_eq,Option.some.injEq]
   by_cases c0:0≤x
   ·by_cases c1:y=x
    ·simp[c0,c1]
    ·simp[c0,c1,Ne.symm c1]
   ·simp[c0]
  ·unfold k265_4;simp only[EV,decide_eq_true_eq,if_ge,zW,up1 (show i<1000000000 by omega)]
  ·by_cases hq:0≤x→ ∀j,j<i→l[j]?≠some x
   ·rw[if_pos hq,if_pos (fun j hj h0=>hq h0 j hj)]
   ·rw[if_neg hq,if_neg (fun h=>hq fun h0 j hj=>h j hj h0)]
 ·unfold pD;simp only[EV,List.length_map,decide_eq_true_eq,if_ge,zV]
 ·by_cases h:bY l
  ·rw[if_pos (show∀i,i<l.length→_ from h),decide_eq_false (by simpa using h)]
  ·rw[if_neg (show¬ ∀i,i<l.length→_ from h),decide_eq_true h]
def Bm (m:List (Int×Bool)):PV:= .sl (m.map fun p=>[.i64 p.1]++[.bool p.2])
def bget:List (Int×Bool)→Int→Bool
 |[],_=>false
 |p::m,k=>if p.1=k then p.2 else bget m k
def bset:List (Int×Bool)→Int→Bool→List (Int×Bool)
 |[],k,v=>[(k,v)]
 |p::m,k,v=>if p.1=k then(p.1,v)::m else p::bset m k v
theorem nz (k j:Int)(v:Bool): ∀m,bget (bset m k v) j=if j=k then v else bget m j
 |[]=>by simp only[bset,bget];by_cases h:k=j<;>simp[h,eq_comm]
 |p::m=>by
  unfold bset;by_cases h:p.1=k
  ·rw[if_pos h];unfold bget;by_cases h2:j=k
   ·rw[if_pos h2,if_pos (by rw[h,h2])]
   ·rw[if_neg h2,if_neg (by rw[h];exact fun e=>h2 e.symm),if_neg (by rw[h];exact fun e=>h2 e.symm)]
  ·rw[if_neg h];unfold bget;rw[nz k j v m];by_cases h2:p.1=j
   ·rw[if_pos h2,if_pos h2,if_neg (by rw[←h2];exact h)]
   ·rw[if_neg h2,if_neg h2]
theorem nA (k:Int): ∀m:List (Int×Bool),(mapGet [.i] [.i64 k] (m.map fun p=>[.i64 p.1]++[.bool p.2])).map (fun o=>o.getD [.bool false])=some [.bool (bget m k)]
 |[]=>by simp[mapGet,bget,eqN]
 |p::m=>by
  simp only[List.map_cons,mapGet];rw[show List.take [Ck.i].length ([PV.i64 p.fst]++[PV.bool p.snd])=[PV.i64 p.fst] from rfl,show List.drop [Ck.i].length ([PV.i64 p.fst]++[PV.bool p.snd])=[PV.bool p.snd] from rfl,eqN]
  unfold bget;by_cases e:p.1=k
  ·rw[decide_eq_true e,if_pos e];rfl
  ·rw[decide_eq_false e,if_neg e];exact nA k m
theorem nB (k:Int)(v:Bool): ∀m:List (Int×Bool),mapSet [.i] [.i64 k] [.bool v] (m.map fun p=>[.i64 p.1]++[.bool p.2])=some ((bset m k v).map fun p=>[.i64 p.1]++[.bool p.2])
 |[]=>by simp[mapSet,bset,eqN]
 |p::m=>by
  simp only[List.map_cons,mapSet];rw[show List.take [Ck.i].length ([PV.i64 p.fst]++[PV.bool p.snd])=[PV.i64 p.fst] from rfl,eqN]
  unfold bset;by_cases e:p.1=k
  ·rw[decide_eq_true e,if_pos e];simp[e]
  ·rw[decide_eq_false e,if_neg e];simp only;rw[nB k v m];rfl
theorem getBm (m:List (Int×Bool))(k:Int):RF.ev (.mget [.i] [.v (.bool false)]) [Bm m,.v (.int .i64 k)]=some (.bool (bget m k)):=by
 have h:=nA k m;unfold Bm;simp only[RF.ev,show(PV.v (.int .i64 k)).cells=[.i64 k] from rfl]
 cases hg:mapGet [.i] [.i64 k] (m.map fun p=>[.i64 p.1]++[.bool p.2]) with
 |none=>rw[hg] at h;cases h
 |some o=>
  rw[hg] at h;simp only[Option.map_some,Option.some.injEq] at h;cases o with
  |none=>simp only[Option.getD_none] at h;simp only[h];rfl
  |some r=>simp only[Option.getD_some] at h;subst h;rfl
theorem setBm (m:List (Int×Bool))(k:Int)(v:Bool):RF.ev (.mset [.i] 1) [Bm m,.v (.int .i64 k),.v (.bool v)]=some (Bm (bset m k v)):=by
 have h:=nB k v m;unfold Bm;simp only[RF.ev,show(PV.v (.int .i64 k)).cells=[.i64 k] from rfl,show(PV.v (.bool v)).cells=[.bool v] from rfl,h]
 rfl
def mAt (l:List Int)(i:Nat):List (Int×Bool):=(l.take i).foldl (fun m x=>bset m x (decide (0≤x))) [(-1,false)]
theorem lI: ∀(l:List Int) (m:List (Int×Bool)) (k:Int),bget (l.foldl (fun m x=>bset m x (decide (0≤x))) m) k=if k∈l then decide (0≤k) else bget m k
 |[],m,k=>by simp
 |x::l,m,k=>by
  rw[List.foldl_cons,lI l,nz];by_cases h:k∈l
  ·simp[h]
  ·by_cases e:k=x
   ·subst e;simp[h]
   ·simp[h,e]
theorem bget_at {l:List Int}{i:Nat}{x:Int}(hx:l[i]?=some x):bget (mAt l i) x=decide (¬ ∀y,l[i]?=some y→0≤y→ ∀j,j<i→l[j]?≠some y):=by
 unfold mAt;rw[lI];have e1:(¬ ∀y,l[i]?=some y→0≤y→ ∀j,j<i→l[j]?≠some y)↔(x∈l.take i∧0≤x):=by
  constructor
  ·intro h;simp only[Classical.not_forall,Classical.not_not,not_imp] at h;obtain⟨y,h1,h2,j,h3,h4⟩:=h;rw[hx] at h1;cases h1;exact⟨List.mem_iff_getElem?.2 ⟨j,by rw[List.getElem?_take,if_pos h3];exact h4⟩,h2⟩
  ·rintro⟨h1,h2⟩ h;obtain⟨j,hj⟩:=List.mem_iff_getElem?.1 h1;rw[List.getElem?_take] at hj;split at hj
   ·rename_i h3;exact h x hx h2 j h3 hj
   ·cases hj
 rw[show decide (¬ ∀y,l[i]?=some y→0≤y→ ∀j,j<i→l[j]?≠some y)=decide (x∈l.take i∧0≤x) from decide_eq_decide.2 e1]
 by_cases h:x∈l.take i
 ·simp[h]
 ·rw[if_neg h,decide_eq_false (fun e=>h e.1)];unfold bget bget;split<;>rfl
theorem mAt_succ {l:List Int}{i:Nat}{x:Int}(hx:l[i]?=some x):bset (mAt l i) x (decide (0≤x))=mAt l (i+1):=by
 unfold mAt;rw[List.take_add_one,hx];simp[List.foldl_append]
open Classical in
theorem IN {l:List Int}(hl:l.length≤1000):Ans D 250 [sl I1 l] [.bool (decide (bY l))]:=by
 refine ans_of Fe Na rfl ⟨1001,?_⟩;unfold vd;have e0:RF.ev (.mset [.i] 1) [.sl [],.v (.int .i64 (-1)),.v (.bool false)]=some (Bm (mAt l 0)):=setBm [] (-1) false;simp only[e0,EV,List.length_map];refine(run_if (m:=1001) (n:=l.length) (P:=fun i=> ∀x,l[i]?=some x→0≤x→ ∀j,j<i→l[j]?≠some x) (st:=fun i=>[Bm (mAt l i),.i64 (i:Int)]) (r:=some [.bool false]) (fin:=some [.bool true]) (fun i self hi _=>?_) (fun hall self=>?_) (by omega)).trans ?_
 ·have hx:=aC hi;generalize nthI l i=x at hx;unfold k250_2;simp only[tixM hx (lenI _),eltM hx,rowI,EV,decide_eq_true_eq,if_lt hi,getBm,bget_at hx,ge_iff_le,setBm,mAt_succ hx,up1 (show i<1000000000 by omega)]
  by_cases hq: ∀y,l[i]?=some y→0≤y→ ∀j,j<i→l[j]?≠some y
  ·rw[decide_eq_false (not_not_intro hq),if_pos hq];simp only[EV,Bool.not_false,Bool.not_true,Bool.false_eq_true,if_false]
  ·rw[decide_eq_true hq,if_neg hq];simp only[EV,Bool.not_false,Bool.not_true,if_true];rw[decide_eq_true (show(0:Int)≤(i:Int) by omega)]
   rfl
 ·unfold k250_2 zN;simp only[EV,decide_eq_true_eq,if_ge];rfl
 ·by_cases h:bY l
  ·rw[if_pos (show∀i,i<l.length→_ from h),decide_eq_true h]
  ·rw[if_neg (show¬ ∀i,i<l.length→_ from h),decide_eq_false h]
theorem wn {b:Brk}{i:Nat}(hi:i<b.wins.length):b.wins[i]?=some (nodeV b.wins b.places i):=by
 obtain⟨x,hx⟩: ∃x,b.wins[i]?=some x:=⟨_,List.getElem?_eq_getElem hi⟩;rw[hx,iw hx]
open Classical in
theorem IO {b:Brk}(h1:b.places.length≤70)(h2:b.wins.length≤70):Ans D 157 [BR b] [.i64 (okE (decide (bT b.wins b.places)))]:=by
 have no: ∀h:¬bT b.wins b.places,(some [PV.v (.int .i64 8)]:Option (List PV))=some [.i64 (okE (decide (bT b.wins b.places)))]:=fun h=>by rw[decide_eq_false h];rfl
 refine ans_of Em Mm rfl ⟨1001,?_⟩;unfold t7;have wp:IntKind.i64.wrap ((b.places.length:Int)-1)=(b.places.length:Int)-1:=ah (by omega) (by omega);simp only[den_lt,shBR,dc,cBR1,EV,List.length_map,wp,phi (IN (l:=b.places) (by omega)),decide_eq_true_eq,Bool.not_eq_true',decide_eq_false_iff_not];by_cases a1:b.places.length<1
 ·rw[if_pos (by omega)];exact no (fun h=>by have:=h.1.1.1;omega)
 rw[if_neg (by omega)];by_cases a2:64<b.places.length
 ·rw[if_pos (by omega)];exact no (fun h=>by have:=h.1.1.2.1;omega)
 rw[if_neg (by omega)];by_cases a3:b.places.length=b.wins.length+1
 rotate_left
 ·rw[if_pos (by omega)];exact no (fun h=>a3 h.1.1.2.2)
 rw[if_neg (by omega)];by_cases a4:bY b.places
 rotate_left
 ·rw[if_pos (by simpa using a4)]
  exact no (fun h=>a4 h.1.2.1)
 rw[if_neg (by simpa using a4)]
 refine(run_list (m:=1001) (l:=b.places) (p:=fun x=>decide (-1≤x)&& decide (x≤65535)) (st:=fun i=>[.i64 (i:Int)]) (r:=some [.i64 8]) (fin:=some [.i64 (okE (decide (bT b.wins b.places)))]) (fun i x self hx _=>?_) (fun hall self=>?_) (by omega)).trans ?_
 ·unfold k157_9;simp only[den_lt,dc,EV,decide_eq_true_eq,if_lt (get_lt hx),tixM hx (lenI _),eltM hx,rowI];have u1:=up1 (show i<1000000000 by have:=get_lt hx;omega)
  have g0:decide ((i:Int)≥0)=true:=decide_eq_true (by omega);by_cases c1: -1≤x
  ·rw[if_pos (by omega)];by_cases c2:x≤65535
   ·simp only[jH,EV,c1,c2,decide_true,Bool.not_true,Bool.false_eq_true,if_false,u1,Bool.and_self,if_true]
   ·simp only[jH,EV,c1,c2,decide_true,decide_false,Bool.not_true,Bool.not_false,Bool.false_eq_true,if_false,if_true,g0,Bool.and_false]
  ·rw[if_neg (by omega)];simp only[jH,EV,c1,decide_false,Bool.not_false,Bool.not_true,if_true,g0,Bool.false_and,Bool.false_eq_true,if_false]
 ·have hbase:dT b.wins b.places:=⟨⟨by omega,by omega,a3⟩,a4,fun x hx=>by have:=List.all_eq_true.1 hall x hx;simp at this;omega⟩;unfold k157_9;simp only[den_lt,cBR1,EV,List.length_map,decide_eq_true_eq,if_ge,k157_4,Bool.not_true,Bool.not_false,Bool.false_eq_true,if_false,show decide ((-1:Int)≥0)=false from rfl]
  refine(run_if (m:=1001) (n:=b.wins.length) (P:=fun i=>pickA b.wins b.places i∧¬(nodeV b.wins b.places i<0∧0≤max (nodeV b.wins b.places (2*i+1)) (nodeV b.wins b.places (2*i+2)))) (st:=fun i=>[.i64 (i:Int)]) (r:=some [.i64 8]) (fin:=some [.i64 0]) (fun i self hi _=>?_) (fun _ self=>?_) (by omega)).trans ?_
  ·have hx:=wn hi;unfold oB pickA;simp only[den_lt,cBR1,EV,decide_eq_true_eq,if_lt hi,tixM hx (lenI _),eltM hx,rowI,dbl (show i<100000000 by omega),up1 (show 2*i<1000000000 by omega),up2 (show 2*i<1000000000 by omega),phi (ny (b:=b) (i:=2*i+1) (by omega) (by omega)),phi (ny (b:=b) (i:=2*i+2) (by omega) (by omega)),mmX,ge_iff_le,yN,up1 (show i<1000000000 by omega),Bool.not_eq_true',decide_eq_false_iff_not]
   generalize nodeV b.wins b.places i=w;generalize nodeV b.wins b.places (2*i+1)=p;generalize nodeV b.wins b.places (2*i+2)=q;by_cases c1:w=p
   ·by_cases c3:w<0
    ·by_cases c4:0≤max p q<;>simp[c1,c3,c4]
     all_goals (subst c1;simp[c3,c4]<;>intro h<;>omega)
    ·simp[c1,c3];subst c1;simp[c3]
   ·by_cases c2:w=q
    ·by_cases c3:w<0
     ·by_cases c4:0≤max p q<;>simp[c1,c2,c3,c4]
      all_goals (subst c2;simp[c1,c3,c4]<;>intro h<;>omega)
     ·simp[c1,c2,c3];subst c2;simp[c1,c3]
    ·simp[c1,c2]
  ·unfold oB;simp only[EV,decide_eq_true_eq,if_ge,yM]
  ·by_cases hr:bT b.wins b.places
   ·rw[if_pos hr.2,decide_eq_true hr];rfl
   ·rw[if_neg (fun h=>hr ⟨hbase,h⟩),decide_eq_false hr];rfl
 ·by_cases hr:bT b.wins b.places
  ·rw[if_pos (by rw[List.all_eq_true];intro x hx;have:=hr.1.2.2 x hx;simp;omega)]
  ·split
   ·rfl
   ·exact no hr
open Classical in
theorem Pr {b:Brk}(h1:b.places.length≤70)(h2:b.wins.length≤70):Ans D 171 [BR b] [.i64 (okE (decide (bT b.wins b.places)))]:=by
 rw[show decide (bT b.wins b.places)=decide (jg b.wins b.places) from decide_eq_decide.2 CE]
 have no: ∀h:¬jg b.wins b.places,(some [PV.v (.int .i64 8)]:Option (List PV))=some [.i64 (okE (decide (jg b.wins b.places)))]:=fun h=>by rw[decide_eq_false h];rfl
 refine ans_of Eu Mu rfl ⟨1001,?_⟩;unfold ul;have wp:IntKind.i64.wrap ((b.places.length:Int)-1)=(b.places.length:Int)-1:=ah (by omega) (by omega);simp only[den_lt,shBR,dc,cBR1,EV,List.length_map,wp,phi (Pq (l:=b.places) (by omega)),decide_eq_true_eq,Bool.not_eq_true',decide_eq_false_iff_not];by_cases a1:b.places.length<1
 ·rw[if_pos (by omega)];exact no (fun h=>by have:=h.1.1.1;omega)
 rw[if_neg (by omega)];by_cases a2:64<b.places.length
 ·rw[if_pos (by omega)];exact no (fun h=>by have:=h.1.1.2.1;omega)
 rw[if_neg (by omega)];by_cases a3:b.places.length=b.wins.length+1
 rotate_left
 ·rw[if_pos (by omega)];exact no (fun h=>a3 h.1.1.2.2)
 rw[if_neg (by omega)];by_cases a4:bY b.places
 rotate_left
 ·rw[if_pos a4];exact no (fun h=>a4 h.1.2.1)
 rw[if_neg (by simpa using a4)]
 refine(run_list (m:=1001) (l:=b.places) (p:=fun x=>decide (-1≤x)&& decide (x≤65535)) (st:=fun i=>[.i64 (i:Int)]) (r:=some [.i64 8]) (fin:=some [.i64 (okE (decide (jg b.wins b.places)))]) (fun i x self hx _=>?_) (fun hall self=>?_) (by omega)).trans ?_
 ·unfold k171_5;simp only[den_lt,dc,EV,decide_eq_true_eq,if_lt (get_lt hx),tixM hx (lenI _),eltM hx,rowI,up1 (show i<1000000000 by have:=get_lt hx;omega)]
  by_cases c1:x< -1
  ·rw[if_pos c1,if_neg (by simp;omega)]
  ·rw[if_neg c1];by_cases c2:65535<x
   ·rw[if_pos c2,if_neg (by simp;omega)]
   ·rw[if_neg c2,if_pos (by simp;omega)]
 ·have hbase:dT b.wins b.places:=⟨⟨by omega,by omega,a3⟩,a4,fun x hx=>by have:=List.all_eq_true.1 hall x hx;simp at this;omega⟩;unfold k171_5;simp only[EV,decide_eq_true_eq,if_ge,k171_4];refine(run_if (m:=1001) (n:=b.wins.length) (P:=fun i=>pickA b.wins b.places i∧¬(nodeV b.wins b.places i= -1∧(nodeV b.wins b.places (2*i+1)≠ -1∨nodeV b.wins b.places (2*i+2)≠ -1))) (st:=fun i=>[.i64 (i:Int)]) (r:=some [.i64 8]) (fin:=some [.i64 0]) (fun i self hi _=>?_) (fun _ self=>?_) (by omega)).trans ?_
  ·have hx:=wn hi;unfold oO pickA;simp only[den_lt,cBR1,EV,List.length_map,decide_eq_true_eq,if_lt hi,tixM hx (lenI _),eltM hx,rowI,dbl (show i<100000000 by omega),up1 (show 2*i<1000000000 by omega),up2 (show 2*i<1000000000 by omega),phi (gk (b:=b) (i:=2*i+1) (by omega) (by omega)),phi (gk (b:=b) (i:=2*i+2) (by omega) (by omega)),yU,up1 (show i<1000000000 by omega),Bool.not_eq_true',decide_eq_false_iff_not]
   generalize nodeV b.wins b.places i=w;generalize nodeV b.wins b.places (2*i+1)=p;generalize nodeV b.wins b.places (2*i+2)=q;by_cases c1:w=p
   ·by_cases c3:w= -1
    ·by_cases c4:p= -1
     ·by_cases c5:q= -1<;>simp[c1,c3,c4,c5]
     ·omega
    ·simp only[c1,c3];subst c1;simp[c3]
   ·by_cases c2:w=q
    ·by_cases c3:w= -1
     ·subst c3;subst c2;simp[c1,Ne.symm c1]
     ·subst c2;simp[c1,c3]
    ·simp[c1,c2]
  ·unfold oO;simp only[den_lt,cBR1,EV,List.length_map,decide_eq_true_eq,if_ge,yT]
  ·by_cases hr:jg b.wins b.places
   ·rw[if_pos hr.2,decide_eq_true hr];rfl
   ·rw[if_neg (fun h=>hr ⟨hbase,h⟩),decide_eq_false hr];rfl
 ·by_cases hr:jg b.wins b.places
  ·rw[if_pos (by rw[List.all_eq_true];intro x hx;have:=hr.1.2.2 x hx;simp;omega)]
  ·split
   ·rfl
   ·exact no hr
def valK (l:List Pt)(x:Int):Prop:=x= -1∨inF l x=true
def wonI (t:Rt)(l:List Pt)(a b:Int):Int:=if a<0 then b else if b<0 then a else if leads t (ptOf l a) (ptOf l b)=true then a else b
theorem iS {t:Rt}{l:List Pt}(a b:Int)(ha:valK l a)(hb:valK l b):valK l (wonI t l a b):=by
 unfold wonI;split
 ·exact hb
 ·split
  ·exact ha
  ·split<;>assumption
theorem valK_in {l:List Pt}(h:okF l){x:Int}(hv:valK l x):x= -1∨ ∃(i:Nat) (p:Pt),l[i]?=some p∧p.id=x∧pos l x=(i:Nat)∧ptOf l x=p∧0≤x:=by
 rcases hv with e|e
 ·exact .inl e
 ·obtain⟨i,p,h1,h2,h3,h4⟩:=aU h e;exact .inr ⟨i,p,h1,h2,h3,h4,by rw[←h2];exact(aX h p (List.mem_of_getElem? h1)).1⟩
open Classical in
theorem Ps {l:List Pt}{pl:List Int}(hl:l.length≤1000)(hp:pl.length≤1000):Ans D 173 [F l,sl I1 pl] [.bool (decide (∀x∈pl,valK l x))]:=by
 refine ans_of Ew Mw rfl ⟨1001,?_⟩;unfold uo;simp only[den_lt,shapeF,EV];refine(run_list (m:=1001) (l:=pl) (p:=fun x=>decide (valK l x)) (st:=fun i=>[.i64 (i:Int)]) (r:=some [.bool false]) (fin:=some [.bool true]) (fun i x self hx _=>?_) (fun hall self=>?_) (by omega)).trans ?_
 ·unfold oP;simp only[den_lt,EV,List.length_map,decide_eq_true_eq,if_lt (get_lt hx),tixM hx (lenI _),eltM hx,rowI,phi (dG hl x),yX,up1 (show i<1000000000 by have:=get_lt hx;omega),Bool.not_eq_true',decide_eq_false_iff_not]
  unfold valK inF;by_cases c1:x= -1
  ·simp[c1]
  ·by_cases c2:pos l x<0
   ·simp[c1,c2,show¬0≤pos l x by omega]
   ·simp[c1,c2,show 0≤pos l x by omega]
 ·unfold oP;simp only[EV,List.length_map,decide_eq_true_eq,if_ge,yW]
 ·by_cases h: ∀x∈pl,valK l x
  ·rw[if_pos (by simpa using h),decide_eq_true h]
  ·rw[if_neg (by simpa using h),decide_eq_false h]
open Classical in
theorem Pu {l:List Pt}{pl:List Int}(h:okF l)(hp:pl.length≤1000):Ans D 301 [F l,sl I1 pl] [.bool (decide (∀x∈pl,valK l x))]:=by
 refine ans_of FC Nz rfl ⟨1001,?_⟩;unfold vJ;simp only[den_lt,shapeF,EV,List.length_map];refine(run_list (m:=1001) (l:=pl) (p:=fun x=>decide (valK l x)) (st:=fun i=>[.i64 (i:Int)]) (r:=some [.bool false]) (fin:=some [.bool true]) (fun i x self hx _=>?_) (fun hall self=>?_) (by omega)).trans ?_
 ·have u1:=up1 (show i<1000000000 by have:=get_lt hx;omega)
  unfold pQ;rcases has_cases l x with hn|⟨j,p,hj,rfl⟩
  ·obtain⟨P,hP⟩:=KM h hn;have hf:inF l x=false:=by
    unfold inF;rcases pos_cases l x with⟨e,_⟩|⟨i,p,h1,h2,_⟩
    ·rw[e];rfl
    ·exact absurd h2 (hn p (List.mem_of_getElem? h1))
   simp only[den_lt,EV,decide_eq_true_eq,if_lt (get_lt hx),tixM hx (lenI _),eltM hx,rowI,phi hP,Bool.false_eq_true,if_false,pP,u1];unfold valK;rw[hf];by_cases c1:x= -1
   ·simp[c1]
   ·simp[c1]
  ·have hf:inF l p.id=true:=in_ids.2 (List.mem_map.2 ⟨p,List.mem_of_getElem? hj,rfl⟩);simp only[den_lt,EV,decide_eq_true_eq,if_lt (get_lt hx),tixM hx (lenI _),eltM hx,rowI,phi (Bc h hj),if_true,pP,u1];unfold valK;rw[hf];simp
 ·unfold pQ z7;simp only[EV,decide_eq_true_eq,if_ge];rfl
 ·by_cases h: ∀x∈pl,valK l x
  ·rw[if_pos (by simpa using h),decide_eq_true h]
  ·rw[if_neg (by simpa using h),decide_eq_false h]
theorem Pv {l:List Pt}{t:Rt}(h:okF l)(ht:In64 t)(hr:rok t=true):Ans D 300 [F l,R t] [.i64 0]:=by
 have h1:=phi (c231 l);rw[fieldE_ok.2 h] at h1;have h2:=phi (c43 ht);rw[hr] at h2;have e0:okE true=0:=rfl;rw[e0] at h2;refine ans_of k300_ok s300 rfl ⟨1,?_⟩;unfold k300;simp only[den_lt,shapeF,shapeR,EV,h1,h2,decide_true,Bool.not_true,Bool.false_eq_true,if_false]
theorem Pw {l:List Pt}{t:Rt}(h:okF l)(ht:In64 t)(hr:rok t=true){a b:Int}(ha:valK l a)(hb:valK l b):Ans D 302 [F l,R t,.i64 a,.i64 b] [.i64 (wonI t l a b)]:=by
 refine ans_of FD NA rfl ⟨1,?_⟩;unfold vK wonI;rcases valK_in h ha with e|⟨i,p,p1,p2,p3,p4,p5⟩
 ·rcases valK_in h hb with e'|⟨j,q,q1,q2,q3,q4,q5⟩
  ·subst e;subst e';simp only[den_lt,shapeF,shapeR,mmN,mmX,EV];rfl
  ·subst e;simp only[den_lt,shapeF,shapeR,mmN,mmX,EV,decide_eq_true_eq,if_pos (show min (-1) b<0 by omega),if_pos (show(-1:Int)<0 by omega),show max (-1) b=b by omega]
 ·rcases valK_in h hb with e'|⟨j,q,q1,q2,q3,q4,q5⟩
  ·subst e';simp only[den_lt,shapeF,shapeR,mmN,mmX,EV,decide_eq_true_eq,if_pos (show min a (-1)<0 by omega),if_neg (show¬a<0 by omega),if_pos (show(-1:Int)<0 by omega),show max a (-1)=a by omega]
  ·have d1:=phi (Bc h p1);have d2:=phi (Bc h q1);rw[p2] at d1;rw[q2] at d2;have d3: ∃e:Int,PhiS D 249 [PP p,PP q,R t]=some [.bool (leads t p q),.i64 e]:=by
    have:=phi (so (p:=p) (q:=q) ht);by_cases e:p.id=q.id
    ·have:p=q:=(risen_ids h.2.2).inj (List.mem_of_getElem? p1) (List.mem_of_getElem? q1) e;subst this;by_cases c:bS p p t=0
     ·rw[if_pos c] at this;exact⟨_,this⟩
     ·rw[if_neg c] at this;rw[leads_irr];exact⟨_,this⟩
    ·rw[if_pos (cD (okF_pt h p1) (okF_pt h q1) hr e)] at this;exact⟨_,this⟩
   obtain⟨e,d3⟩:=d3;simp only[den_lt,shapeF,shapeR,cellF,mmN,mmX,EV,decide_eq_true_eq,if_neg (show¬min a b<0 by omega),if_neg (show¬a<0 by omega),if_neg (show¬b<0 by omega),d1,d2,tixM p1 (row_len _),eltM p1,tixM q1 (row_len _),eltM q1,rowP,d3,p4,q4]
   cases leads t p q<;>rfl
theorem IP {l:List Pt}{t:Rt}(h:okF l)(ht:In64 t){a b:Int}(ha:valK l a)(hb:valK l b):Ans D 267 [F l,R t,.i64 a,.i64 b] [.i64 (wonI t l a b)]:=by
 have hl:=h.1;refine ans_of Fl Ni rfl ⟨1,?_⟩;unfold vq wonI;simp only[den_lt,shapeF,shapeR,EV,decide_eq_true_eq];by_cases c1:a<0
 ·rw[if_pos c1,if_pos c1]
 rw[if_neg c1,if_neg c1];by_cases c2:b<0
 ·rw[if_pos c2,if_pos c2]
 rw[if_neg c2,if_neg c2];rcases valK_in h ha with e|⟨i,p,p1,p2,p3,p4,p5⟩
 ·omega
 rcases valK_in h hb with e|⟨j,q,q1,q2,q3,q4,q5⟩
 ·omega
 simp only[den_lt,cellF,phi (dG (l:=l) (by omega) a),phi (dG (l:=l) (by omega) b),p3,q3,tixM p1 (row_len _),eltM p1,tixM q1 (row_len _),eltM q1,rowP,phi (c323 (okF_pt h p1) (okF_pt h q1) ht),p4,q4,EV];split<;>rfl
open Classical in
theorem Px {l:List Pt}{t:Rt}{pl:List Int}(h:okF l)(ht:In64 t)(hr:rok t=true)(h1:1≤pl.length)(h2:pl.length≤64)(hv: ∀x∈pl,valK l x)(ho:bY pl):Ans D 218 [F l,R t,sl I1 pl] [BR ⟨pl,playD (wonI t l) pl (pl.length-1) (pl.length-1)⟩,.i64 0]:=by
 have wp:IntKind.i64.wrap ((pl.length:Int)-1)=((pl.length-1:Nat):Int):=by rw[ah (by omega) (by omega)];omega
 have e1:=phi (Pu h (pl:=pl) (by omega));rw[decide_eq_true hv] at e1;have e2:=phi (IN (l:=pl) (by omega));rw[decide_eq_true ho] at e2;have rp:=gi (n:=pl.length-1) (by omega);have agB: ∀w:List Int,RF.ev .agg [sl I1 pl,sl I1 w]=some (BR ⟨pl,w⟩):=fun w=>rfl;refine ans_of EQ MO rfl ⟨1001,?_⟩;unfold uJ;simp only[den_lt,shapeF,shapeR,EV,phi (Pv h ht hr),List.length_map,decide_true,Bool.not_true,Bool.false_eq_true,if_false,decide_eq_true_eq,if_neg (show¬(pl.length:Int)<1 by omega),zn,gt_iff_lt,decide_eq_false (show¬(64:Int)<(pl.length:Int) by omega),e1,e2,zj,zk,zm,zi,phi (eJ (l:=pl) (by omega)),wp,rp,List.length_replicate]
 generalize hm:pl.length-1=m at*;have w1:IntKind.i64.wrap ((m:Int)-1)=(m:Int)-1:=ah (by omega) (by omega);rw[w1];have e0:([sl I1 (List.replicate m 0),PV.v (.int .i64 ((m:Int)-1))]:List PV)=[sl I1 (playD (wonI t l) pl m 0),.i64 ((m:Int)-1-((0:Nat):Int))]:=by
  simp[playD]
 rw[e0];refine(run_up (m:=1001) (n:=m) (st:=fun k=>[sl I1 (playD (wonI t l) pl m k),.i64 ((m:Int)-1-(k:Int))]) (fun k self hk=>?_) (fun self=>?_) (by omega))
 ·obtain⟨i,hi⟩: ∃i:Nat,m-1-k=i:=⟨_,rfl⟩;have hii:(m:Int)-1-(k:Int)=(i:Int):=by omega
  have hdn:IntKind.i64.wrap ((i:Int)-1)=(m:Int)-1-((k+1:Nat):Int):=by rw[ah (by omega) (by omega)];omega
  have hP:=iz (P:=valK l) (.inl rfl) (won:=wonI t l) (fun a b=>iS a b) hv k (by omega:k≤m);have hlen:=aR (won:=wonI t l) (places:=pl) (m:=m) k;have hnx:playD (wonI t l) pl m (k+1)=(playD (wonI t l) pl m k).set i (wonI t l (nodeV (playD (wonI t l) pl m k) pl (2*i+1)) (nodeV (playD (wonI t l) pl m k) pl (2*i+2))):=by rw[←hi];rfl
  rw[hnx];generalize playD (wonI t l) pl m k=w at hP hlen;have su:RF.ev .sub [sl I1 w,.v (.int .i64 0),.v (.int .i64 (m:Int))]=some (sl I1 w):=by rw[←hlen];exact subM
  unfold o7;simp only[EV,hii,decide_eq_true_eq,ge_iff_le,if_pos (show(0:Int)≤(i:Int) by omega),dbl (show i<100000000 by omega),up1 (show 2*i<1000000000 by omega),up2 (show 2*i<1000000000 by omega),subM,su,agB,den_lt,phi (ny (b:=⟨pl,w⟩) (i:=2*i+1) (by simp only;omega) (by simp only;omega)),phi (ny (b:=⟨pl,w⟩) (i:=2*i+2) (by simp only;omega) (by simp only;omega)),phi (Pw h ht hr (hP (2*i+1) (by omega)) (hP (2*i+2) (by omega))),ixM (show i<m by omega),setI (l:=w) (i:=i) (by omega),hdn]
 ·have hlen:=aR (won:=wonI t l) (places:=pl) (m:=m) m;generalize playD (wonI t l) pl m m=w at hlen;have su:RF.ev .sub [sl I1 w,.v (.int .i64 0),.v (.int .i64 (m:Int))]=some (sl I1 w):=by rw[←hlen];exact subM
  unfold o7;simp only[EV,decide_eq_true_eq,ge_iff_le,if_neg (show¬(0:Int)≤(m:Int)-1-(m:Int) by omega),zh,subM,su,agB,den_lt]
def edB (w p:List Int)(i:Nat):List Crt:=if 0≤nodeV w p (2*i+1)∧0≤nodeV w p (2*i+2) then [⟨nodeV w p (2*i+1)+nodeV w p (2*i+2)-nodeV w p i,nodeV w p i⟩] else []
def edsB (w p:List Int)(n:Nat):List Crt:=(List.range n).flatMap (edB w p)
theorem edsB_succ (w p:List Int)(n:Nat):edsB w p (n+1)=edsB w p n++edB w p n:=by
 unfold edsB;rw[List.range_succ,List.flatMap_append];simp
theorem cz (w p:List Int): ∀n,(edsB w p n).length≤n
 |0=>by simp[edsB]
 |n+1=>by
  have:=cz w p n;rw[edsB_succ,List.length_append];unfold edB;split<;>simp<;>omega
theorem de {l:List Pt}(h:okF l){x:Int}(hv:valK l x): -1≤x∧x≤65535:=by
 rcases valK_in h hv with e|⟨i,p,p1,p2,_⟩
 ·omega
 ·have:=aX h p (List.mem_of_getElem? p1);omega
theorem lJ {w p:List Int}{j:Nat}(hj:j<w.length+p.length):(j<w.length→w[j]?=some (nodeV w p j))∧(¬j<w.length→p[j-w.length]?=some (nodeV w p j)):=by
 constructor
 ·intro h;obtain⟨x,hx⟩: ∃x,w[j]?=some x:=⟨_,List.getElem?_eq_getElem h⟩;rw[hx,iw hx]
 ·intro h;obtain⟨x,hx⟩: ∃x,p[j-w.length]?=some x:=⟨_,List.getElem?_eq_getElem (by omega)⟩;rw[hx,iy h hx]
open Classical in
theorem IQ {l:List Pt}{t:Rt}{pl:List Int}(h:okF l)(ht:In64 t)(hr:rok t=true)(h1:1≤pl.length)(h2:pl.length≤64)(hv: ∀x∈pl,valK l x)(ho:bY pl){w:List Int}(hw:w=playD (wonI t l) pl (pl.length-1) (pl.length-1)):Ans D 123 [F l,R t,sl I1 pl] [BR ⟨pl,w⟩,sl ac (edsB w pl w.length)]:=by
 have hlen:w.length=pl.length-1:=by rw[hw,aR]
 have hP: ∀j,valK l (nodeV w pl j):=fun j=>by rw[hw];exact iz (P:=valK l) (.inl rfl) (won:=wonI t l) (fun a b=>iS a b) hv _ (Nat.le_refl _) j (by omega)
 have e218:=phi (Px h ht hr h1 h2 hv ho);rw[←hw] at e218;refine ans_of k123_ok s123 rfl ⟨1001,?_⟩;unfold k123;simp only[den_lt,shapeF,shapeR,EV,e218,shBR,cBR1,List.length_map];have e0:([PV.sl [],.v (.int .i64 0),.v (.int .i64 0)]:List PV)=[sl ac (edsB w pl 0),.i64 ((edsB w pl 0).length:Int),.i64 ((0:Nat):Int)]:=rfl;rw[e0];refine(run_up (m:=1001) (n:=w.length) (st:=fun i=>[sl ac (edsB w pl i),.i64 ((edsB w pl i).length:Int),.i64 (i:Int)]) (fun i self hi=>?_) (fun self=>?_) (by omega))
 ·have hx:=wn (b:=⟨pl,w⟩) (i:=i) hi;have hel:=cz w pl i;have b0:=de h (hP i);have b1:=de h (hP (2*i+1));have b2:=de h (hP (2*i+2));have c1':(2*i+1<w.length→w[2*i+1]?=some (nodeV w pl (2*i+1)))∧(¬2*i+1<w.length→pl[2*i+1-w.length]?=some (nodeV w pl (2*i+1))):=lJ (by omega);have c2':(2*i+2<w.length→w[2*i+2]?=some (nodeV w pl (2*i+2)))∧(¬2*i+2<w.length→pl[2*i+2-w.length]?=some (nodeV w pl (2*i+2))):=lJ (by omega);simp only at hx;rw[edsB_succ];unfold edB;generalize nodeV w pl i=v at hx b0;generalize nodeV w pl (2*i+1)=a at b1 c1';generalize nodeV w pl (2*i+2)=b at b2 c2';have w1:IntKind.i64.wrap (a+b)=a+b:=ah (by omega) (by omega);have w2:IntKind.i64.wrap (a+b-v)=a+b-v:=ah (by omega) (by omega);have ap:=aN (f:=ac) (l:=edsB w pl i) (k:=[⟨a+b-v,v⟩]) (bytes:=16) (z:=2) (by simp;omega) lenC;have u1:=up1 (show i<1000000000 by omega)
  unfold kP;by_cases q1:2*i+1<w.length
  ·have r1:=c1'.1 q1;by_cases q2:2*i+2<w.length
   ·have r2:=c2'.1 q2;simp only[den_lt,cBR1,dc,EV,List.length_map,decide_eq_true_eq,if_lt hi,tixM hx (lenI _),eltM hx,rowI,dbl (show i<100000000 by omega),up1 (show 2*i<1000000000 by omega),up2 (show 2*i<1000000000 by omega),if_lt q1,if_lt q2,tixM r1 (lenI _),eltM r1,tixM r2 (lenI _),eltM r2,ge_iff_le,yf,ye,jD,u1,w1,w2,aggC,bsC,subC1]
    by_cases g1:0≤a
    ·by_cases g2:0≤b
     ·simp only[g1,g2,if_true,decide_true,and_self,ap,denF_some,den_lt,EV,List.length_map,u1]
     ·simp only[g1,g2,if_true,decide_false,and_false,if_false,Bool.false_eq_true,List.append_nil]
    ·simp only[g1,if_false,false_and,Bool.false_eq_true,List.append_nil]
   ·have r2:=c2'.2 q2;simp only[den_lt,cBR1,dc,EV,List.length_map,decide_eq_true_eq,if_lt hi,tixM hx (lenI _),eltM hx,rowI,dbl (show i<100000000 by omega),up1 (show 2*i<1000000000 by omega),up2 (show 2*i<1000000000 by omega),if_lt q1,if_neg (show¬((2*i+2:Nat):Int)<(w.length:Int) by omega),nu (show w.length≤2*i+2 by omega) (by omega),tixM r1 (lenI _),eltM r1,tixM r2 (lenI _),eltM r2,ge_iff_le,yh,yg,jD,u1,w1,w2,aggC,bsC,subC1]
    by_cases g1:0≤a
    ·by_cases g2:0≤b
     ·simp only[g1,g2,if_true,decide_true,and_self,ap,denF_some,den_lt,EV,List.length_map,u1]
     ·simp only[g1,g2,if_true,decide_false,and_false,if_false,Bool.false_eq_true,List.append_nil]
    ·simp only[g1,if_false,false_and,Bool.false_eq_true,List.append_nil]
  ·have r1:=c1'.2 q1;have q2:¬2*i+2<w.length:=by omega
   have r2:=c2'.2 q2;simp only[den_lt,cBR1,dc,EV,List.length_map,decide_eq_true_eq,if_lt hi,tixM hx (lenI _),eltM hx,rowI,dbl (show i<100000000 by omega),up1 (show 2*i<1000000000 by omega),up2 (show 2*i<1000000000 by omega),if_neg (show¬((2*i+1:Nat):Int)<(w.length:Int) by omega),if_neg (show¬((2*i+2:Nat):Int)<(w.length:Int) by omega),nu (show w.length≤2*i+1 by omega) (by omega),nu (show w.length≤2*i+2 by omega) (by omega),tixM r1 (lenI _),eltM r1,tixM r2 (lenI _),eltM r2,ge_iff_le,rN,yi,jD,u1,w1,w2,aggC,bsC,subC1]
   by_cases g1:0≤a
   ·by_cases g2:0≤b
    ·simp only[g1,g2,if_true,decide_true,and_self,ap,denF_some,den_lt,EV,List.length_map,u1]
    ·simp only[g1,g2,if_true,decide_false,and_false,if_false,Bool.false_eq_true,List.append_nil]
   ·simp only[g1,if_false,false_and,Bool.false_eq_true,List.append_nil]
 ·unfold kP;simp only[EV,decide_eq_true_eq,if_ge,yd,subM,den_lt]
theorem IR {b:Brk}(h1:b.places.length=b.wins.length+1)(h2:b.places.length≤70)(hk: ∀i,i<b.wins.length→pickA b.wins b.places i)(hb: ∀j,-1≤nodeV b.wins b.places j∧nodeV b.wins b.places j≤65535):Ans D 176 [BR b] [sl ac (edsB b.wins b.places b.wins.length)]:=by
 refine ans_of Ez Mz rfl ⟨1001,?_⟩;unfold ut;simp only[den_lt,shBR,EV];have e0:([PV.sl [],.v (.int .i64 0),.v (.int .i64 0)]:List PV)=[sl ac (edsB b.wins b.places 0),.i64 ((edsB b.wins b.places 0).length:Int),.i64 ((0:Nat):Int)]:=rfl;rw[e0];refine(run_up (m:=1001) (n:=b.wins.length) (st:=fun i=>[sl ac (edsB b.wins b.places i),.i64 ((edsB b.wins b.places i).length:Int),.i64 (i:Int)]) (fun i self hi=>?_) (fun self=>?_) (by omega))
 ·have hx:=wn (b:=b) (i:=i) hi;have hel:=cz b.wins b.places i;have hpk:=hk i hi;have b0:=hb i;have b1:=hb (2*i+1);have b2:=hb (2*i+2);have c1':=phi (gk (b:=b) (i:=2*i+1) (by omega) (by omega));have c2':=phi (gk (b:=b) (i:=2*i+2) (by omega) (by omega));rw[edsB_succ];unfold edB;unfold pickA at hpk;generalize nodeV b.wins b.places i=v at hx b0 hpk;generalize nodeV b.wins b.places (2*i+1)=p at b1 c1' hpk;generalize nodeV b.wins b.places (2*i+2)=q at b2 c2' hpk;have ap:=fun c=>aN (f:=ac) (l:=edsB b.wins b.places i) (k:=[c]) (bytes:=16) (z:=2) (by simp;omega) lenC;unfold oT;simp only[den_lt,cBR1,EV,List.length_map,decide_eq_true_eq,if_lt hi,dbl (show i<100000000 by omega),up1 (show 2*i<1000000000 by omega),up2 (show 2*i<1000000000 by omega),c1',c2',y8,up1 (show i<1000000000 by omega),tixM hx (lenI _),eltM hx,rowI,y9,aggC,bsC,subC1,ap]
  by_cases g1:p<0
  ·rw[if_pos g1,if_neg (by omega),List.append_nil]
  by_cases g2:q<0
  ·rw[if_neg g1,if_pos g2,if_neg (by omega),List.append_nil]
  rw[if_neg g1,if_neg g2,if_pos (show 0≤p∧0≤q by omega)]
  by_cases g3:v=p
  ·rw[if_pos g3,g3,show p+q-p=q by omega]
  ·rw[if_neg g3,show v=q by omega,show p+q-q=p by omega]
 ·unfold oT;simp only[den_lt,cBR1,EV,List.length_map,decide_eq_true_eq,if_ge,y7,subM]
open Classical in
theorem Py {b:Brk}{l:List Pt}{t:Rt}(h:okF l)(ht:In64 t)(h1:b.places.length=b.wins.length+1)(h2:b.places.length≤70)(hv: ∀j,valK l (nodeV b.wins b.places j)):Ans D 175 [BR b,F l,R t] [.bool (decide (bX (wonI t l) b.wins b.places))]:=by
 refine ans_of Ey My rfl ⟨1001,?_⟩;unfold ur;simp only[den_lt,shBR,shapeF,shapeR,EV];refine(run_if (m:=1001) (n:=b.wins.length) (P:=fun i=>nodeV b.wins b.places i=wonI t l (nodeV b.wins b.places (2*i+1)) (nodeV b.wins b.places (2*i+2))) (st:=fun i=>[.i64 (i:Int)]) (r:=some [.bool false]) (fin:=some [.bool true]) (fun i self hi _=>?_) (fun _ self=>?_) (by omega)).trans ?_
 ·have hx:=wn (b:=b) (i:=i) hi;unfold oR;simp only[den_lt,cBR1,EV,List.length_map,decide_eq_true_eq,if_lt hi,dbl (show i<100000000 by omega),up1 (show 2*i<1000000000 by omega),up2 (show 2*i<1000000000 by omega),phi (gk (b:=b) (i:=2*i+1) (by omega) (by omega)),phi (gk (b:=b) (i:=2*i+2) (by omega) (by omega)),phi (IP h ht (hv (2*i+1)) (hv (2*i+2))),up1 (show i<1000000000 by omega),tixM hx (lenI _),eltM hx,rowI,Bool.not_eq_true',decide_eq_false_iff_not]
  by_cases g:nodeV b.wins b.places i=wonI t l (nodeV b.wins b.places (2*i+1)) (nodeV b.wins b.places (2*i+2))
  ·rw[if_neg (by simpa using g),if_pos g]
  ·rw[if_pos g,if_neg g]
 ·unfold oR;simp only[den_lt,cBR1,EV,List.length_map,decide_eq_true_eq,if_ge,y6]
 ·by_cases h:bX (wonI t l) b.wins b.places
  ·rw[if_pos (show∀i,i<b.wins.length→_ from h),decide_eq_true h]
  ·rw[if_neg (show¬ ∀i,i<b.wins.length→_ from h),decide_eq_false h]
def szd (n:Nat):Bool:=decide (n∈[1,2,4,8,16,32,64])
theorem Gy: ∀n:Nat,n<65→1≤n→((BitVec.ofInt 64 (n:Int)&&& BitVec.ofInt 64 ((n:Int)-1)).toNat=0↔szd n=true):=by decide
theorem Pz {n:Nat}(h:n≤1000):Ans D 172 [.i64 (n:Int)] [.bool (szd n)]:=by
 have wr: ∀m:Nat,m≤1000→IntKind.i64.wrap ((m:Int)*2)=((m*2:Nat):Int):=fun m hm=>by rw[ah (by omega) (by omega)];omega
 refine ans_of Ev Mv rfl ⟨1001,?_⟩;unfold um;simp only[EV];refine(da (m:=1001) (l:=[1,2,4,8,16,32,64]) (p:=fun a:Nat=>decide (n=a)) (st:=fun i=>[.i64 ((2^ i:Nat):Int)]) (ret:=fun _=>some [.bool true]) (fin:=some [.bool false]) (fun i a self ha=>?_) (fun self=>?_) (by decide)).trans ?_
 ·have hi:=get_lt ha;have ha2:a=2^ i:=by
   match i,hi with
   |0,_=>simpa using ha.symm
   |1,_=>simpa using ha.symm
   |2,_=>simpa using ha.symm
   |3,_=>simpa using ha.symm
   |4,_=>simpa using ha.symm
   |5,_=>simpa using ha.symm
   |6,_=>simpa using ha.symm
  have h64:2^ i≤64:=by
   have:i≤6:=by simp at hi;omega
   exact Nat.le_trans (Nat.pow_le_pow_right (by omega) this) (by decide)
  have hnx:2^(i+1)=2^ i*2:=Nat.pow_succ ..;rw[hnx];subst ha2;generalize 2^ i=m at h64;unfold k172_2;simp only[EV,decide_eq_true_eq,if_pos (show(m:Int)≤64 by omega),wr m (by omega)]
  by_cases c:n=m
  ·rw[if_pos (by omega),if_pos c]
  ·rw[if_neg (by omega),if_neg c]
 ·unfold k172_2;simp only[EV,List.length_cons,List.length_nil,show decide ((((2:Nat)^(0+1+1+1+1+1+1+1):Nat):Int)≤64)=false from rfl,Bool.false_eq_true,if_false,yV]
 ·cases e:List.findIdx? (fun a:Nat=>decide (n=a)) [1,2,4,8,16,32,64] with
  |none=>
   rw[List.findIdx?_eq_none_iff] at e;have:szd n=false:=decide_eq_false (fun h=>by have:=e n h;simp at this);rw[this];rfl
  |some i=>
   obtain⟨hi,h2,_⟩:=List.findIdx?_eq_some_iff_getElem.1 e;have:szd n=true:=decide_eq_true (by rw[of_decide_eq_true h2];exact List.getElem_mem hi);rw[this];rfl
theorem PA {l:List Int}(hl:l.length≤1000):Ans D 174 [sl I1 l] [sl I1 (l.filter fun x=>decide (0≤x))]:=by
 refine ans_of Ex Mx rfl ⟨1001,?_⟩;unfold uq;simp only[EV];have e0:([PV.sl [],.v (.int .i64 0),.v (.int .i64 0)]:List PV)=[sl I1 [],.i64 (([]:List Int).length:Int),.i64 ((0:Nat):Int)]:=rfl;rw[e0];refine(bv (m:=1001) (l:=l) (g:=fun acc x=>if 0≤x then acc++[x] else acc) (I:=fun k acc=>acc.length≤k) (S:=fun acc k=>[sl I1 acc,.i64 (acc.length:Int),.i64 (k:Int)]) (fin:=fun acc=>some [sl I1 acc]) (x:=[]) (by simp) (fun k a acc _ h=>by
   split
   ·rw[List.length_append,List.length_singleton];omega
   ·omega) (fun k x acc self hx hI=>?_) (fun acc self hI=>?_) (by omega)).1.trans ?_
 ·have hk:=get_lt hx;have ap:=aN (f:=I1) (l:=acc) (k:=[x]) (bytes:=8) (z:=1) (by simp;omega) lenI;unfold oQ;simp only[den_lt,EV,List.length_map,decide_eq_true_eq,if_lt hk,tixM hx (lenI _),eltM hx,rowI,ge_iff_le,yZ,up1 (show k<1000000000 by omega),bsI,subI1,ap]
  by_cases c:0≤x
  ·simp only[c,if_true]
  ·simp only[c,if_false]
 ·unfold oQ;simp only[EV,List.length_map,decide_eq_true_eq,if_ge,yY,subM]
 ·have: ∀(l acc:List Int),l.foldl (fun acc x=>if 0≤x then acc++[x] else acc) acc=acc++l.filter fun x=>decide (0≤x):=by
   intro l;induction l with
   |nil=>simp
   |cons a l ih=>
    intro acc;rw[List.foldl_cons,ih,List.filter_cons];by_cases c:0≤a<;>simp[c]
  rw[this,List.nil_append]
def js (l:List Int):List Int:=sortL l
theorem PB {l:List Int}(hl:l.length≤1000):Ans D 160 [.sl [],sl I1 l] [sl I1 (js l)]:=by
 have h0:D.T 160=none:=by kernel_rfl
 refine LH h0 ?_;show fY 160 160 [.sl [],.sl (bB l)]=some [.sl (bB (sortL l))]
 unfold fY;simp only[Nat.beq_refl,iJ];rw[if_pos (by omega)]
def az (k:KTourn):Prop:=aw k.clock∧bT k.brk.wins k.brk.places∧szd k.brk.places.length=true∧(∀x∈k.brk.places,valK k.clock.pts x)∧(k.brk.places.filter fun x=>decide (0≤x)).length=k.clock.pts.length∧bX (wonI k.clock.now k.clock.pts) k.brk.wins k.brk.places∧JustR k.clock (edsB k.brk.wins k.brk.places k.brk.wins.length)
theorem eR {k:KTourn}(h:gKt k=false):gCl k.clock=false∧k.brk.places.length≤70∧k.brk.wins.length≤70:=by
 unfold gKt at h;simp only[Bool.or_eq_false_iff,decide_eq_false_iff_not] at h;exact⟨h.1,by omega⟩
theorem brk_val {b:Brk}{l:List Pt}(hb:bT b.wins b.places)(hv: ∀x∈b.places,valK l x)(j:Nat):valK l (nodeV b.wins b.places j):=
 Hl (P:=valK l) (.inl rfl) hb.1.1.2.2 hv (fun i hi=>(hb.2 i hi).1) _ j rfl
theorem nC {w p:List Int}{n:Nat}{e:Crt}(h:e∈edsB w p n): ∃i,i<n∧(0≤nodeV w p (2*i+1)∧0≤nodeV w p (2*i+2))∧e=⟨nodeV w p (2*i+1)+nodeV w p (2*i+2)-nodeV w p i,nodeV w p i⟩:=by
 unfold edsB at h;obtain⟨i,hi,he⟩:=List.mem_flatMap.1 h;rw[List.mem_range] at hi;unfold edB at he;split at he
 ·rename_i c;exact⟨i,hi,c,List.mem_singleton.1 he⟩
 ·cases he
theorem dK {b:Brk}{l:List Pt}{t:Rt}(h:okF l)(hb:bT b.wins b.places)(hv: ∀x∈b.places,valK l x)(hf:bX (wonI t l) b.wins b.places){e:Crt}(he:e∈edsB b.wins b.places b.wins.length):inF l e.low=true∧inF l e.high=true∧leads t (ptOf l e.high) (ptOf l e.low)=true:=by
 obtain⟨i,hi,⟨c1,c2⟩,rfl⟩:=nC he;have hF:=hf i hi;have hd:nodeV b.wins b.places (2*i+1)≠nodeV b.wins b.places (2*i+2):=fun e=>rd (gT hb) c1 hi rfl e.symm;rcases valK_in h (brk_val hb hv (2*i+1)) with e|⟨j1,p,p1,p2,p3,p4,p5⟩
 ·omega
 rcases valK_in h (brk_val hb hv (2*i+2)) with e|⟨j2,q,q1,q2,q3,q4,q5⟩
 ·omega
 have ip:inF l (nodeV b.wins b.places (2*i+1))=true:=by rw[←p2];exact in_ids.2 (List.mem_map.2 ⟨p,List.mem_of_getElem? p1,rfl⟩)
 have iq:inF l (nodeV b.wins b.places (2*i+2))=true:=by rw[←q2];exact in_ids.2 (List.mem_map.2 ⟨q,List.mem_of_getElem? q1,rfl⟩)
 unfold wonI at hF;rw[if_neg (by omega),if_neg (by omega),p4,q4] at hF;simp only;cases hL:leads t p q with
 |true=>
  rw[hL,if_pos rfl] at hF;rw[hF,show nodeV b.wins b.places (2*i+1)+nodeV b.wins b.places (2*i+2)-nodeV b.wins b.places (2*i+1)=nodeV b.wins b.places (2*i+2) by omega,p4,q4]
  exact⟨iq,ip,hL⟩
 |false=>
  rw[hL,if_neg (by simp)] at hF;rw[hF,Int.add_sub_cancel,p4,q4];refine⟨ip,iq,?_⟩;rcases leads_total (t:=t) (p:=p) (q:=q) (by rw[p2,q2];exact hd) with g|g
  ·rw[hL] at g;cases g
  ·exact g
theorem fC {b:Brk}{l:List Pt}{t:Rt}(h:okF l)(hb:bT b.wins b.places)(hv: ∀x∈b.places,valK l x)(hf:bX (wonI t l) b.wins b.places): ∀n,n≤b.wins.length→(edsB b.wins b.places n).Nodup
 |0,_=>by simp[edsB]
 |n+1,hn=>by
  rw[edsB_succ];have ih:=fC h hb hv hf n (by omega);have one: ∀i,i<b.wins.length→(0≤nodeV b.wins b.places (2*i+1)∧0≤nodeV b.wins b.places (2*i+2))→ ∃c,(c=2*i+1∨c=2*i+2)∧nodeV b.wins b.places c=nodeV b.wins b.places (2*i+1)+nodeV b.wins b.places (2*i+2)-nodeV b.wins b.places i∧nodeV b.wins b.places i≠nodeV b.wins b.places c∧0≤nodeV b.wins b.places c:=fun i hi hc=>by
   have hd:nodeV b.wins b.places (2*i+1)≠nodeV b.wins b.places (2*i+2):=fun e=>rd (gT hb) hc.1 hi rfl e.symm;rcases(hb.2 i hi).1 with g|g
   ·exact⟨2*i+2,.inr rfl,by omega,by omega,hc.2⟩
   ·exact⟨2*i+1,.inl rfl,by omega,by omega,hc.1⟩
  unfold edB;split
  ·rename_i c;rw[List.nodup_append];refine⟨ih,by simp,fun a ha b' hb' e=>?_⟩;subst e;obtain⟨i,hi,c',e⟩:=nC ha;rw[List.mem_singleton] at hb';rw[e] at hb';simp only[Crt.mk.injEq] at hb';obtain⟨x,x1,x2,x3,x4⟩:=one i (by omega) c';obtain⟨y,y1,y2,y3,y4⟩:=one n (by omega) c;have:=A5 (gT hb) (z:=nodeV b.wins b.places x) x4 (i:=i) (j:=n) (by omega) (by omega) x1 y1 rfl (by omega) x3 (by omega);omega
  ·rw[List.append_nil];exact ih
open Classical in
theorem c82 {k:KTourn}(h64:aE k.clock)(hg:gKt k=false):Ans D 82 [KT k] [.i64 (okE (decide (az k)))]:=by
 obtain⟨g1,g2,g3⟩:=eR hg;have no: ∀h:¬az k,(some [PV.v (.int .i64 8)]:Option (List PV))=some [.i64 (okE (decide (az k)))]:=fun h=>by rw[decide_eq_false h];rfl
 have pKT2:RF.ev (.part 2 1) [KT k]=some (F k.clock.pts):=rfl;have pKT0:RF.ev (.part 0 2) [KT k]=some (R k.clock.now):=rfl;have cKT11:RF.ev (.cell 11) [KT k]=some (sl I1 k.brk.places):=rfl;refine ans_of H2 s82 rfl ⟨1001,?_⟩;unfold k82;simp only[den_lt,shKT,pKT,pKTb,pKT2,pKT0,cKT11,cellF,EV,List.length_map,phi (sA h64 g1),phi (Pr g2 g3),phi (Pz (n:=k.brk.places.length) (by omega)),bf,Bool.not_eq_true',decide_eq_false_iff_not,decide_eq_true_eq];by_cases h1:aw k.clock
 rotate_left
 ·rw[if_neg h1];exact no (fun h=>h1 h.1)
 rw[if_pos h1];by_cases h2:bT k.brk.wins k.brk.places
 rotate_left
 ·rw[if_neg h2];exact no (fun h=>h2 h.2.1)
 rw[if_pos h2];cases h3:szd k.brk.places.length with
 |false=>
  rw[if_pos rfl];exact no (fun h=>by have:=h.2.2.1;rw[h3] at this;cases this)
 |true=>
 rw[if_neg (by simp)];have hF:=h1.2.1;have hl:=hF.1;simp only[den_lt,pKT2,cKT11,cellF,EV,List.length_map,phi (Ps (l:=k.clock.pts) (pl:=k.brk.places) (by omega) (by omega)),phi (PA (l:=k.brk.places) (by omega)),Bool.not_eq_true',decide_eq_false_iff_not,decide_eq_true_eq];by_cases h4: ∀x∈k.brk.places,valK k.clock.pts x
 rotate_left
 ·rw[if_pos h4];exact no (fun h=>h4 h.2.2.2.1)
 rw[if_neg (fun g=>g h4)];by_cases h5:(k.brk.places.filter fun x=>decide (0≤x)).length=k.clock.pts.length
 rotate_left
 ·rw[if_pos (by omega)];exact no (fun h=>h5 h.2.2.2.2.1)
 rw[if_neg (by omega)];have hlen:=h2.1.1.2.2;have hval:=brk_val h2 h4;simp only[den_lt,pKTb,pKT0,EV,phi (Py (b:=k.brk) (l:=k.clock.pts) (t:=k.clock.now) hF h64.1 hlen (by omega) hval),Bool.not_eq_true',decide_eq_false_iff_not];by_cases h6:bX (wonI k.clock.now k.clock.pts) k.brk.wins k.brk.places
 rotate_left
 ·rw[if_pos h6];exact no (fun h=>h6 h.2.2.2.2.2.1)
 rw[if_neg (fun g=>g h6)];have hel:=cz k.brk.wins k.brk.places k.brk.wins.length;simp only[den_lt,pKT,pKTb,EV,phi (IR (b:=k.brk) hlen (by omega) (fun i hi=>(h2.2 i hi).1) (fun j=>de hF (hval j))),phi (c169 (c:=k.clock) (edges:=edsB k.brk.wins k.brk.places k.brk.wins.length) hF h64.1 (by omega) (by have:=aP g1;omega) (fun e he=>⟨(dK hF h2 h4 h6 he).1,(dK hF h2 h4 h6 he).2.1⟩)),Bool.not_eq_true',decide_eq_false_iff_not];by_cases h7:JustR k.clock (edsB k.brk.wins k.brk.places k.brk.wins.length)
 ·rw[if_neg (fun g=>g h7),decide_eq_true (show az k from⟨h1,h2,h3,h4,h5,h6,h7⟩)];rfl
 ·rw[if_pos h7];exact no (fun h=>h7 h.2.2.2.2.2.2)
theorem Bp {l:List Pt}{pl:List Int}(hF:okF l)(ho:bY pl)(hb: ∀x∈pl,-1≤x):js (pl.filter fun x=>decide (0≤x))=l.map Pt.id↔(∀x∈pl,valK l x)∧(pl.filter fun x=>decide (0≤x)).length=l.length:=by
 have hperm:(js (pl.filter fun x=>decide (0≤x))).Perm (pl.filter fun x=>decide (0≤x)):=List.mergeSort_perm _ _;constructor
 ·intro h;rw[h] at hperm;refine⟨fun x hx=>?_,by have:=hperm.length_eq;rw[List.length_map] at this;exact this.symm⟩;by_cases c:0≤x
  ·exact .inr (in_ids.2 (hperm.mem_iff.2 (List.mem_filter.2 ⟨hx,by simpa using c⟩)))
  ·exact .inl (by have:=hb x hx;omega)
 ·rintro⟨h1,h2⟩;have hnd:(pl.filter fun x=>decide (0≤x)).Nodup:=by
   have: ∀(l:List Int),(∀(i j:Nat) (x:Int),0≤x→l[i]?=some x→l[j]?=some x→i=j)→(l.filter fun x=>decide (0≤x)).Nodup:=by
    intro l;induction l with
    |nil=>intro _;simp
    |cons a l ih=>
     intro h;have ih:=ih fun i j x hx hi hj=>by have:=h (i+1) (j+1) x hx (by simpa using hi) (by simpa using hj);omega
     rw[List.filter_cons];split
     ·rename_i c;refine List.nodup_cons.2 ⟨fun hm=>?_,ih⟩;obtain⟨j,hj⟩:=List.mem_iff_getElem?.1 (List.mem_filter.1 hm).1;have:=h 0 (j+1) a (by simpa using c) (by simp) (by simpa using hj)
      omega
     ·exact ih
   exact this pl (eF.1 ho)
  have hp:(pl.filter fun x=>decide (0≤x)).Perm (l.map Pt.id):=sub_perm hnd (fun x hx=>by
   obtain⟨a,b⟩:=List.mem_filter.1 hx;rcases h1 x a with e|e
   ·simp at b;omega
   ·exact in_ids.1 e) (by rw[List.length_map];omega)
  refine List.Perm.eq_of_pairwise (le:=fun a b=>a≤b) (fun a b _ _ h1 h2=>by omega) ?_ ?_ (hperm.trans hp)
  ·have:=List.pairwise_mergeSort (le:=fun a b:Int=>decide (a≤b)) (fun a b c h1 h2=>by simp at h1 h2⊢;omega) (fun a b=>by simp;omega) (pl.filter fun x=>decide (0≤x));exact this.imp fun h=>by simpa using h
  ·rw[List.pairwise_iff_getElem];intro i j hi hj hij;rw[List.length_map] at hi hj;have:=bi hF.2.2 hij (List.getElem?_eq_getElem hi) (List.getElem?_eq_getElem hj);rw[List.getElem_map,List.getElem_map];omega
theorem rJ {S:List Int}{k:List Pt}(h:S.length=k.length)(ha:(S.zip k).all (fun x=>decide (x.1=x.2.id))=true):S=k.map Pt.id:=by
 rw[List.all_eq_true] at ha;refine List.ext_getElem (by simpa using h) fun i h1 h2=>?_
 have:=ha (S[i],k[i]'(by omega)) (List.mem_iff_getElem.2 ⟨i,by rw[List.length_zip];omega,by simp⟩);simpa using this
theorem nD {S:List Int}{k:List Pt}(h:S=k.map Pt.id):(S.zip k).all (fun x=>decide (x.1=x.2.id))=true:=by
 subst h;rw[List.all_eq_true];intro x hx;obtain⟨i,hi⟩:=List.mem_iff_getElem?.1 hx;obtain⟨h1,h2⟩:=aL hi;rw[List.getElem?_map,h2] at h1;simpa using h1.symm
def cpt (l:List Int)(i:Nat):Nat→List Int×Nat
 |0=>(l,i)
 |t+1=>if 0≤nthI l (i+1+t) then((cpt l i t).1.set (cpt l i t).2 (nthI l (i+1+t)),(cpt l i t).2+1) else cpt l i t
theorem nE {l:List Int}{i:Nat}{a:Int}(ha:l[i]?=some a)(hn:a<0)(hp:(l.take i).all (fun x=>!decide (x<0))=true): ∀t,i+1+t≤l.length→(cpt l i t).1.length=l.length∧(cpt l i t).2≤i+t∧(cpt l i t).1.take (cpt l i t).2=(l.take (i+1+t)).filter (fun x=>decide (0≤x))∧ ∀j,i+1+t≤j→(cpt l i t).1[j]?=l[j]?
 |0,_=>by
  refine⟨rfl,Nat.le_refl _,?_,fun j _=>rfl⟩;rw[Nat.add_zero,List.take_add_one,ha,List.filter_append];have h1:(l.take i).filter (fun x=>decide (0≤x))=l.take i:=List.filter_eq_self.2 fun x hx=>by
   have:=List.all_eq_true.1 hp x hx;simp at this⊢;omega
  have h2:(some a).toList.filter (fun x=>decide (0≤x))=[]:=by simp;omega
  rw[h1,h2,List.append_nil];rfl
 |t+1,h=>by
  obtain⟨h1,h2,h3,h4⟩:=nE ha hn hp t (by omega);have hx:=aC (l:=l) (i:=i+1+t) (by omega);have e1:(l.take (i+1+(t+1))).filter (fun x=>decide (0≤x))=(l.take (i+1+t)).filter (fun x=>decide (0≤x))++if 0≤nthI l (i+1+t) then [nthI l (i+1+t)] else []:=by
   rw[show i+1+(t+1)=i+1+t+1 by omega,List.take_add_one,hx,List.filter_append]
   congr 1
   simp[List.filter_cons]
  rw[e1];unfold cpt;by_cases c:0≤nthI l (i+1+t)
  ·rw[if_pos c,if_pos c];refine⟨by rw[List.length_set];exact h1,by simp only;omega,?_,fun j hj=>?_⟩
   ·simp only;rw[List.take_add_one,List.getElem?_set_self (by omega),List.take_set,List.set_eq_of_length_le (by rw[List.length_take];omega),h3];rfl
   ·simp only;rw[List.getElem?_set_ne (by omega)];exact h4 j (by omega)
  ·rw[if_neg c,if_neg c,List.append_nil];exact⟨h1,by omega,h3,fun j hj=>h4 j (by omega)⟩
theorem IS {L S:List Int}(h:S.length≤L.length):RF.ev (.appK 0 1) [sl I1 L,.v (.int .i64 0),sl I1 S]=some (sl I1 (S++L.drop S.length)):=by
 show(if(0:Int)≤0∧(0:Int)≤((L.map I1).length:Nat)∧((0:Int).toNat+(S.map I1).length)*0≤140737488355328∧elsOk' 1 (S.map I1)=true then some (PV.sl ((L.map I1).take (0:Int).toNat++S.map I1++(L.map I1).drop ((0:Int).toNat+(S.map I1).length))) else none)=_
 have he:elsOk' 1 (S.map I1)=true:=by
  cases S with
  |nil=>rfl
  |cons a k=>simp[elsOk',lenI]
 rw[if_pos ⟨by omega,by omega,by omega,he⟩];simp
theorem PC {L:List Int}{a n:Nat}(h:a+n=L.length):RF.ev (.clr [KP.z]) [sl I1 L,.v (.int .i64 (a:Int)),.v (.int .i64 (n:Int))]=some (sl I1 (L.take a++List.replicate n 0)):=by
 show(if(0:Int)≤a∧(0:Int)≤n∧(a:Int)+n≤((L.map I1).length:Nat) then some (PV.sl ((L.map I1).take (a:Int).toNat++List.replicate (n:Int).toNat [KP.z]++(L.map I1).drop ((a:Int).toNat+(n:Int).toNat))) else none)=_
 rw[if_pos ⟨by omega,by omega,by rw[List.length_map];omega⟩,List.drop_of_length_le (by simp;omega)];simp;exact .inr rfl
theorem PD {L Z:List Int}:RF.ev .sub [sl I1 (L++Z),.v (.int .i64 0),.v (.int .i64 (L.length:Int))]=some (sl I1 L):=by
 rw[mO,if_pos (by simp;omega)];simp
open Classical in
theorem c78 {k:KTourn}(h64:aE k.clock)(hg:gKt k=false):Ans D 78 [KT k] [.i64 (okE (decide (az k)))]:=by
 obtain⟨g1,g2,g3⟩:=eR hg;have no: ∀h:¬az k,(some [PV.v (.int .i64 8)]:Option (List PV))=some [.i64 (okE (decide (az k)))]:=fun h=>by rw[decide_eq_false h];rfl
 have pKT2:RF.ev (.part 2 1) [KT k]=some (F k.clock.pts):=rfl;have pKT0:RF.ev (.part 0 2) [KT k]=some (R k.clock.now):=rfl;have cKT2:RF.ev (.cell 2) [KT k]=some (sl row k.clock.pts):=rfl;have cKT11:RF.ev (.cell 11) [KT k]=some (sl I1 k.brk.places):=rfl;have cKT12:RF.ev (.cell 12) [KT k]=some (sl I1 k.brk.wins):=rfl;have wp:IntKind.i64.wrap ((k.brk.places.length:Int)-1)=(k.brk.places.length:Int)-1:=ah (by omega) (by omega);refine ans_of HY s78 rfl ⟨1001,?_⟩;unfold k78;simp only[den_lt,shKT,pKT,pKTb,cKT11,EV,List.length_map,wp,phi (sE h64 g1),phi (IO g2 g3),bf,Bool.not_eq_true',decide_eq_false_iff_not,decide_eq_true_eq];by_cases h1:aw k.clock
 rotate_left
 ·rw[if_neg h1];exact no (fun h=>h1 h.1)
 rw[if_pos h1];by_cases h2:bT k.brk.wins k.brk.places
 rotate_left
 ·rw[if_neg h2];exact no (fun h=>h2 h.2.1)
 rw[if_pos h2];have hF:=h1.2.1;have hl:=hF.1;have hpl:=h2.1.1;have hand:IntKind.i64.wrap (((BitVec.ofInt IntKind.i64.bits (k.brk.places.length:Int)&&& BitVec.ofInt IntKind.i64.bits ((k.brk.places.length:Int)-1)).toNat:Nat):Int)=(((BitVec.ofInt 64 (k.brk.places.length:Int)&&& BitVec.ofInt 64 ((k.brk.places.length:Int)-1)).toNat:Nat):Int):=by
  show IntKind.i64.wrap (((BitVec.ofInt 64 (k.brk.places.length:Int)&&& BitVec.ofInt 64 ((k.brk.places.length:Int)-1)).toNat:Nat):Int)=_
  have:(BitVec.ofInt 64 (k.brk.places.length:Int)&&& BitVec.ofInt 64 ((k.brk.places.length:Int)-1)).toNat≤k.brk.places.length:=by
   rw[BitVec.toNat_and];refine Nat.le_trans Nat.and_le_left ?_;rw[BitVec.toNat_ofInt];omega
  exact ah (by omega) (by omega)
 have hsz:=Gy k.brk.places.length (by omega) (by omega);rw[hand];generalize (BitVec.ofInt 64 (k.brk.places.length:Int)&&& BitVec.ofInt 64 ((k.brk.places.length:Int)-1)).toNat=z at hsz;by_cases h3:z=0
 rotate_left
 ·rw[if_pos (by omega)];exact no (fun h=>h3 (hsz.2 h.2.2.1))
 rw[if_neg (by omega)];have h3:=hsz.1 h3;have hfl:=List.length_filter_le (fun x=>decide (0≤x)) k.brk.places;have hsl:(js (k.brk.places.filter fun x=>decide (0≤x))).length=(k.brk.places.filter fun x=>decide (0≤x)).length:=List.length_mergeSort ..;have hsame:=Bp (l:=k.clock.pts) (pl:=k.brk.places) hF h2.1.2.1 (fun x hx=>(h2.1.2.2 x hx).1);generalize hS:js (k.brk.places.filter fun x=>decide (0≤x))=S at hsl hsame;have hs160:=phi (PB (l:=k.brk.places.filter fun x=>decide (0≤x)) (by omega));rw[hS] at hs160;generalize hfe:(k.brk.places.filter fun x=>decide (0≤x))=fl at hsl hsame hs160 hfl hS;have ho:=h2.1.2.1;have hmm:k.brk.wins.length=k.brk.places.length-1:=by have:=h2.1.1.2.2;omega
 have hwl:=aR (won:=wonI k.clock.now k.clock.pts) (places:=k.brk.places) (m:=k.brk.places.length-1) (k.brk.places.length-1);have hfine:=md (won:=wonI k.clock.now k.clock.pts) (places:=k.brk.places) (v:=k.brk.wins) hmm;obtain⟨w,hw⟩: ∃w,w=playD (wonI k.clock.now k.clock.pts) k.brk.places (k.brk.places.length-1) (k.brk.places.length-1):=⟨_,rfl⟩;have t123:(∀x∈k.brk.places,valK k.clock.pts x)→PhiS D 123 [F k.clock.pts,R k.clock.now,sl I1 k.brk.places]=some [BR ⟨k.brk.places,w⟩,sl ac (edsB w k.brk.places w.length)]∧True:=fun hv=>⟨phi (IQ hF h64.1 h1.1 hpl.1 hpl.2.1 hv ho hw),trivial⟩;rw[←hw] at hwl hfine;have cB1:RF.ev (.cell 1) [BR ⟨k.brk.places,w⟩]=some (sl I1 w):=rfl;have tOk:(∀x∈k.brk.places,valK k.clock.pts x)→fl.length=k.clock.pts.length→w=k.brk.wins→decide (az k)=decide (JustP k.clock (edsB w k.brk.places w.length)):=fun hv hlen5 h6=>by
  have h6':=hfine.1 h6;have hJ:=gg (c:=k.clock) h1.2.2.1 (fC (b:=k.brk) hF h2 hv h6' _ (Nat.le_refl _)) (fun e he=>(dK (b:=k.brk) hF h2 hv h6' he).2.2);rw[h6,Bool.eq_iff_iff,decide_eq_true_eq,decide_eq_true_eq];exact⟨fun h=>hJ.2 h.2.2.2.2.2.2,fun h=>⟨h1,h2,h3,hv,by rw[hfe];exact hlen5,h6',hJ.1 h⟩⟩
 have cKT2':RF.ev (.cell 0) [F k.clock.pts]=some (sl row k.clock.pts):=rfl;simp only[den_lt,cKT11,phi (eJ (l:=k.brk.places) (by omega)),EV,List.length_map];refine(run_list (m:=1001) (l:=k.brk.places) (p:=fun x=>!decide (x<0)) (st:=fun i=>[.i64 (i:Int)]) (r:=some [.i64 (okE (decide (az k)))]) (fin:=some [.i64 (okE (decide (az k)))]) (fun i a self ha hp=>?_) (fun hall self=>?_) (by omega)).trans ?_
 ·have hi:=get_lt ha;unfold nZ;simp only[EV,decide_eq_true_eq,if_lt hi,ixM hi,eltM ha,rowI,up1 (show i<1000000000 by omega)]
  by_cases c:a<0
  rotate_left
  ·rw[if_neg c,if_pos (by simp;omega)]
  ·rw[if_pos c,if_neg (show¬(i:Int)= -1 by omega),if_neg (by simp[c])]
   have hend:=nE ha c hp (k.brk.places.length-(i+1)) (by omega);refine(run_up (m:=1001) (n:=k.brk.places.length-(i+1)) (st:=fun t=>[sl I1 (cpt k.brk.places i t).1,.i64 ((cpt k.brk.places i t).2:Int),.i64 ((i+1+t:Nat):Int)]) (fin:=some [.i64 (okE (decide (az k)))]) (fun t self ht=>?_) (fun self=>?_) (by omega))
   ·obtain⟨q1,q2,_,q4⟩:=nE ha c hp t (by omega);have hx:=aC (l:=k.brk.places) (i:=i+1+t) (by omega);have hy:=q4 (i+1+t) (Nat.le_refl _);rw[hx] at hy;have hz:cpt k.brk.places i (t+1)=if 0≤nthI k.brk.places (i+1+t) then((cpt k.brk.places i t).1.set (cpt k.brk.places i t).2 (nthI k.brk.places (i+1+t)),(cpt k.brk.places i t).2+1) else cpt k.brk.places i t:=rfl
    rw[hz];generalize cpt k.brk.places i t=s at q1 q2 hy;generalize nthI k.brk.places (i+1+t)=x at hy;unfold k78_51;simp only[EV,decide_eq_true_eq,if_lt (show i+1+t<k.brk.places.length by omega),ixM (show i+1+t<k.brk.places.length by omega),eltM hy,rowI,ixM (show s.2<k.brk.places.length by omega),setI (l:=s.1) (i:=s.2) (by omega),up1 (show s.2<1000000000 by omega),x8,up1 (show i+1+t<1000000000 by omega)]
    by_cases c0:x<0
    ·rw[if_neg (by simp[c0]),if_neg (by omega)];rfl
    ·rw[if_pos (by simp[c0]),if_pos (by omega)];rfl
   ·rw[show i+1+(k.brk.places.length-(i+1))=k.brk.places.length by omega,List.take_length,hfe] at hend
    rw[show i+1+(k.brk.places.length-(i+1))=k.brk.places.length by omega]
    generalize cpt k.brk.places i (k.brk.places.length-(i+1))=s at hend;obtain⟨L,n⟩:=s;obtain⟨q1,q2,q3,q4⟩:=hend;simp only at q1 q2 q3;have hn:n=fl.length:=by rw[←q3,List.length_take];omega
    subst hn;have cl:=PC (L:=L) (a:=fl.length) (n:=k.brk.places.length-fl.length) (by omega);rw[q3] at cl;have bn:RF.ev .bnd [.v (.int .i64 (fl.length:Int)),.v (.int .i64 (k.brk.places.length:Int))]=some (.i64 (fl.length:Int)):=by rw[eC,if_pos ⟨by omega,by omega⟩]
    have dd:(k.brk.places.length:Int)-(fl.length:Int)=((k.brk.places.length-fl.length:Nat):Int):=by omega
    have ap:=IS (L:=fl++List.replicate (k.brk.places.length-fl.length) 0) (S:=S) (by rw[List.length_append];omega);unfold k78_51;simp only[EV,decide_eq_true_eq,if_neg (show¬((k.brk.places.length:Nat):Int)<((k.brk.places.length:Nat):Int) by omega),x7,bn,Int.zero_add,dd,cl,PD,den_lt,hs160,ap,cKT2,List.length_map,Bool.not_eq_true',decide_eq_false_iff_not,Bool.not_false,if_true]
    by_cases h5:fl.length=k.clock.pts.length
    rotate_left
    ·rw[if_pos (by omega)];exact no (fun h=>h5 (by have:=h.2.2.2.2.1;rw[hfe] at this;exact this))
    rw[if_neg (by omega)];have hzl:(S.zip k.clock.pts).length=fl.length:=by rw[List.length_zip];omega
    refine(run_list (m:=1001) (l:=S.zip k.clock.pts) (p:=fun x=>decide (x.1=x.2.id)) (st:=fun i=>[.i64 (i:Int)]) (r:=some [.i64 8]) (fin:=some [.i64 (okE (decide (az k)))]) (fun i x self hx _=>?_) (fun hall self=>?_) (by omega)).trans ?_
    ·obtain⟨hp,hq⟩:=aL hx;have hp':(S++(fl++List.replicate (k.brk.places.length-fl.length) 0).drop S.length)[i]?=some x.1:=by rw[List.getElem?_append_left (get_lt hp)];exact hp
     have hi:=get_lt hx;unfold nY;simp only[den_lt,cKT2,EV,List.length_map,decide_eq_true_eq,if_lt (show i<fl.length by omega),ixM (show i<fl.length by omega),eltM hp',tixM hq (row_len _),eltM hq,rowI,rowP,cellP0,up1 (show i<1000000000 by omega),Bool.not_eq_true',decide_eq_false_iff_not]
     by_cases e:x.1=x.2.id
     ·rw[if_neg (by simp[e]),if_pos e]
     ·rw[if_pos e,if_neg e];rfl
    ·rw[hzl];have h4:S=k.clock.pts.map Pt.id:=rJ (by omega) hall;obtain⟨hv,hlen5⟩:=hsame.1 h4;obtain⟨e123,hmm⟩:=t123 hv;unfold nY;simp only[EV,decide_eq_true_eq,List.length_map,if_neg (show¬((fl.length:Nat):Int)<((fl.length:Nat):Int) by omega),if_neg (show¬((fl.length:Nat):Int)<((fl.length:Nat):Int) by omega),x6,Bool.not_true,Bool.false_eq_true,if_false,den_lt,pKT2,pKT0,cKT11,cKT12,e123,shBR,cB1,phi (Bj (l:=w) (k:=k.brk.wins) (by omega)),Bool.not_eq_true',decide_eq_false_iff_not]
     by_cases h6:w=k.brk.wins
     rotate_left
     ·rw[if_pos h6];exact no (fun h=>h6 (hfine.2 h.2.2.2.2.2.1))
     rw[if_neg (by simp[h6])];have hd:=tOk hv hlen5 h6;rw[hd];have hEl:(edsB w k.brk.places w.length).length≤w.length:=cz ..;generalize edsB w k.brk.places w.length=E at hEl;have cc:=aP g1;simp only[den_lt,pKT,cCL4,EV,List.length_map];by_cases c1:E.length=k.clock.certs.list.length
     ·rw[if_pos (decide_eq_true (by omega))];refine(run_list (m:=1001) (l:=k.clock.certs.list) (p:=fun h=>decide (h.cert∈E)) (st:=fun i=>[.i64 (i:Int)]) (r:=some [.i64 8]) (fin:=some [.i64 0]) (fun i a self ha _=>?_) (fun _ self=>?_) (by omega)).trans ?_
      ·unfold nX;simp only[den_lt,cCL4,tixM ha (lenH _),eltM ha,rowH,pHP,phi (kK (l:=E) a.cert (by omega)),EV,List.length_map,decide_eq_true_eq,if_lt (get_lt ha),up1 (show i<1000000000 by have:=get_lt ha;omega),Bool.not_eq_true',decide_eq_false_iff_not]
       by_cases c2:a.cert∈E
       ·rw[if_neg (by simp[c2]),if_pos c2]
       ·rw[if_pos c2,if_neg c2];unfold jB;simp only[EV];rfl
      ·unfold nX x0 jB;simp only[EV,decide_eq_true_eq,if_ge];rfl
      ·have:(k.clock.certs.list.all fun h=>decide (h.cert∈E))=decide (JustP k.clock E):=by
        rw[Bool.eq_iff_iff,decide_eq_true_eq];unfold JustP;simp[c1]
       rw[this];cases decide (JustP k.clock E)<;>rfl
     ·rw[if_neg (by simp;omega),show decide (JustP k.clock E)=false from decide_eq_false (fun h=>c1 h.1)]
      unfold jB;simp only[EV];rfl
    ·by_cases hT:az k
     ·rw[if_pos (nD (hsame.2 ⟨hT.2.2.2.1,by have:=hT.2.2.2.2.1;rw[hfe] at this;exact this⟩))]
     ·split
      ·rfl
      ·exact no hT
 ·have hall':fl=k.brk.places:=by
   rw[←hfe];exact List.filter_eq_self.2 fun x hx=>by
    have:=List.all_eq_true.1 hall x hx;simp at this⊢;omega
  have ap:=IS (L:=k.brk.places) (S:=S) (by omega);have hsu:RF.ev .sub [sl I1 k.brk.places,.v (.int .i64 0),.v (.int .i64 (k.brk.places.length:Int))]=some (sl I1 fl):=by rw[hall'];exact subM
  unfold nZ;simp only[EV,decide_eq_true_eq,if_ge,xZ,eq_self,if_true,hsu,den_lt,hs160,ap,cKT2,List.length_map,Bool.not_eq_true',decide_eq_false_iff_not,Bool.not_false];have hpl':k.brk.places.length=fl.length:=by rw[hall']
  rw[hpl'];by_cases h5:fl.length=k.clock.pts.length
  rotate_left
  ·rw[if_pos (by omega)];exact no (fun h=>h5 (by have:=h.2.2.2.2.1;rw[hfe] at this;exact this))
  rw[if_neg (by omega)];have hzl:(S.zip k.clock.pts).length=fl.length:=by rw[List.length_zip];omega
  refine(run_list (m:=1001) (l:=S.zip k.clock.pts) (p:=fun x=>decide (x.1=x.2.id)) (st:=fun i=>[.i64 (i:Int)]) (r:=some [.i64 8]) (fin:=some [.i64 (okE (decide (az k)))]) (fun i x self hx _=>?_) (fun hall self=>?_) (by omega)).trans ?_
  ·obtain⟨hp,hq⟩:=aL hx;have hp':(S++k.brk.places.drop S.length)[i]?=some x.1:=by rw[List.getElem?_append_left (get_lt hp)];exact hp
   have hi:=get_lt hx;unfold nW;simp only[den_lt,cKT2,EV,List.length_map,decide_eq_true_eq,if_lt (show i<fl.length by omega),ixM (show i<fl.length by omega),eltM hp',tixM hq (row_len _),eltM hq,rowI,rowP,cellP0,up1 (show i<1000000000 by omega),Bool.not_eq_true',decide_eq_false_iff_not]
   by_cases e:x.1=x.2.id
   ·rw[if_neg (by simp[e]),if_pos e]
   ·rw[if_pos e,if_neg e];rfl
  ·rw[hzl];have h4:S=k.clock.pts.map Pt.id:=rJ (by omega) hall;obtain⟨hv,hlen5⟩:=hsame.1 h4;obtain⟨e123,hmm⟩:=t123 hv;unfold nW;simp only[EV,decide_eq_true_eq,List.length_map,if_neg (show¬((fl.length:Nat):Int)<((fl.length:Nat):Int) by omega),if_neg (show¬((fl.length:Nat):Int)<((fl.length:Nat):Int) by omega),Do,Bool.not_true,Bool.false_eq_true,if_false,den_lt,pKT2,pKT0,cKT11,cKT12,e123,shBR,cB1,phi (Bj (l:=w) (k:=k.brk.wins) (by omega)),Bool.not_eq_true',decide_eq_false_iff_not]
   by_cases h6:w=k.brk.wins
   rotate_left
   ·rw[if_pos h6];exact no (fun h=>h6 (hfine.2 h.2.2.2.2.2.1))
   rw[if_neg (by simp[h6])];have hd:=tOk hv hlen5 h6;rw[hd];have hEl:(edsB w k.brk.places w.length).length≤w.length:=cz ..;generalize edsB w k.brk.places w.length=E at hEl;have cc:=aP g1;simp only[den_lt,pKT,cCL4,EV,List.length_map];by_cases c1:E.length=k.clock.certs.list.length
   ·rw[if_pos (decide_eq_true (by omega))];refine(run_list (m:=1001) (l:=k.clock.certs.list) (p:=fun h=>decide (h.cert∈E)) (st:=fun i=>[.i64 (i:Int)]) (r:=some [.i64 8]) (fin:=some [.i64 0]) (fun i a self ha _=>?_) (fun _ self=>?_) (by omega)).trans ?_
    ·unfold tj;simp only[den_lt,cCL4,tixM ha (lenH _),eltM ha,rowH,pHP,phi (kK (l:=E) a.cert (by omega)),EV,List.length_map,decide_eq_true_eq,if_lt (get_lt ha),up1 (show i<1000000000 by have:=get_lt ha;omega),Bool.not_eq_true',decide_eq_false_iff_not]
     by_cases c2:a.cert∈E
     ·rw[if_neg (by simp[c2]),if_pos c2]
     ·rw[if_pos c2,if_neg c2];unfold mz;simp only[EV];rfl
    ·unfold tj Dn mz;simp only[EV,decide_eq_true_eq,if_ge];rfl
    ·have:(k.clock.certs.list.all fun h=>decide (h.cert∈E))=decide (JustP k.clock E):=by
      rw[Bool.eq_iff_iff,decide_eq_true_eq];unfold JustP;simp[c1]
     rw[this];cases decide (JustP k.clock E)<;>rfl
   ·rw[if_neg (by simp;omega),show decide (JustP k.clock E)=false from decide_eq_false (fun h=>c1 h.1)]
    unfold mz;simp only[EV];rfl
  ·by_cases hT:az k
   ·rw[if_pos (nD (hsame.2 ⟨hT.2.2.2.1,by have:=hT.2.2.2.2.1;rw[hfe] at this;exact this⟩))]
   ·split
    ·rfl
    ·exact no hT
 ·split<;>rfl
def zC:Clock:=⟨⟨0,0⟩,[],⟨0,[]⟩,⟨⟨[],[],[]⟩,[],[]⟩,[]⟩
def zKH:KHeap:=⟨zC,[]⟩
def zKT:KTourn:=⟨zC,⟨[],[]⟩⟩
def zHT:Heater:=⟨zC,⟨0,[]⟩⟩
theorem K0 {l:List Pt}(h:gF l=false):l.length≤70:=by
 unfold gF at h;simp only[Bool.or_eq_false_iff,decide_eq_false_iff_not] at h;omega
theorem c76 {c:Clock}(hg:gCl c=false):Ans D 76 [CL c] [.bool (decide (c=zC))]:=by
 unfold gCl gAg gSl at hg;simp only[Bool.or_eq_false_iff,decide_eq_false_iff_not] at hg;obtain⟨⟨⟨g1,g2⟩,g3⟩,⟨⟨⟨g4,g5⟩,g6⟩,g7⟩,g8⟩:=hg;have g3:=K0 g3;have pS:RF.ev (.part 5 3) [CL c]=some (SL c.agenda.slots):=rfl;have c3:RF.ev (.cell 3) [CL c]=some (.i64 c.certs.next):=rfl;have sAG:RF.ev (.shape 5) [AG c.agenda]=some (AG c.agenda):=rfl;have sSL:RF.ev (.shape 3) [SL c.agenda.slots]=some (SL c.agenda.slots):=rfl;have a2:RF.ev .agg [.v (.int .i64 0),.v (.int .i64 0)]=some (R ⟨0,0⟩):=rfl;refine ans_of HW s76 rfl ⟨1,?_⟩;unfold k76;have w: ∀a b:Nat,a≤10000→b≤10000→IntKind.i64.wrap ((a:Int)+(b:Int))=((a+b:Nat):Int):=fun a b ha hb=>by rw[ah (by omega) (by omega)];omega
 simp only[den_lt,shCL,pCL5,pS,sAG,sSL,pCL0,c3,cCL2,cCL4,cCL10,cAG3,cAG4,cSL0,cSL1,cSL2,a2,eqvR,EV,List.length_map,Dk,decide_eq_true_eq];rw[w _ _ (by omega) (by omega),w _ _ (by omega) (by omega),w _ _ (by omega) (by omega),w _ _ (by omega) (by omega),w _ _ (by omega) (by omega),w _ _ (by omega) (by omega),w _ _ (by omega) (by omega)];obtain⟨n,p,⟨nx,cl⟩,⟨⟨u,ud,f⟩,hp,wh⟩,d⟩:=c;simp only at*;by_cases e1:n=⟨0,0⟩
 ·by_cases e2:nx=0
  ·rw[if_pos e1,if_pos e2]
   congr 4
   refine decide_eq_decide.2 ?_;subst e1;subst e2;unfold zC;simp only[Clock.mk.injEq,Certs.mk.injEq,Agenda.mk.injEq,Slots.mk.injEq,true_and,←List.length_eq_zero_iff];omega
  ·rw[if_pos e1,if_neg e2,decide_eq_false (fun h=>e2 (by cases h;rfl))]
 ·rw[if_neg e1,decide_eq_false (fun h=>e1 (by cases h;rfl))]
def ckOf (c:Choice):Clock:=if c.tag=1 then c.heap.clock else if c.tag=2 then c.tourn.clock else if c.tag=3 then c.heater.clock else c.hanger.clock
section
variable (c:Choice)
theorem pK1:RF.ev (.part 1 11) [CHO c]=some (CL c.heap.clock):=rfl
theorem pK2:RF.ev (.part 13 11) [CHO c]=some (CL c.tourn.clock):=rfl
theorem pK3:RF.ev (.part 26 11) [CHO c]=some (CL c.heater.clock):=rfl
theorem pK4:RF.ev (.part 39 11) [CHO c]=some (CL c.hanger.clock):=rfl
theorem PE:RF.ev (.cell 12) [CHO c]=some (sl I1 c.heap.heap):=rfl
theorem PF:RF.ev (.cell 24) [CHO c]=some (sl I1 c.tourn.brk.places):=rfl
theorem PG:RF.ev (.cell 25) [CHO c]=some (sl I1 c.tourn.brk.wins):=rfl
theorem PH:RF.ev (.cell 37) [CHO c]=some (.i64 c.heater.tree.root):=rfl
theorem PI:RF.ev (.cell 38) [CHO c]=some (sl nrow c.heater.tree.nodes):=rfl
theorem PJ:RF.ev (.cell 50) [CHO c]=some (sl I1 c.hanger.heap):=rfl
end
theorem u8E (a b:Int):RF.ev (.bin .eql) [.v (.int .u8 a),.v (.int .u8 b)]=some (.v (.bool (decide (a=b)))):=rfl
theorem d66 (c:Choice): ∃N,den (PhiS D) N k66 [] [CHO c]=some [CL (ckOf c)]:=by
 refine⟨1,?_⟩;unfold k66 ckOf;simp only[den_lt,shCH,cCH,pK1,pK2,pK3,pK4,u8E,EV,decide_eq_true_eq];split
 ·rfl
 split
 ·rfl
 split<;>rfl
theorem c66 (c:Choice):Ans D 66 [CHO c] [CL (ckOf c)]:=ans_of HO s66 rfl (d66 c)
theorem c13 (c:Choice):Ans D 13 [CHO c] [CL (ckOf c)]:=ans_of Hp s13 rfl (d66 c)
def em (c:Choice):Prop:=(c.tag≠1→c.heap=zKH)∧(c.tag≠2→c.tourn=zKT)∧(c.tag≠3→c.heater=zHT)∧(c.tag≠4→c.hanger=zKH)
def ay (c:Choice):Prop:=if c.tag=1 then bj c.heap else if c.tag=2 then az c.tourn else if c.tag=3 then bK c.heater else if c.tag=4 then bJ c.hanger else False
def bU (c:Choice):Prop:=em c∧ay c∧asked (ckOf c).now=0
structure Cho64 (c:Choice):Prop where
 tag:0≤c.tag∧c.tag≤255
 h1:aE c.heap.clock
 h2:aE c.tourn.clock
 h3:aE c.heater.clock
 h4:aE c.hanger.clock
theorem IT {c:Choice}(h:Cho64 c):aE (ckOf c):=by
 unfold ckOf;split
 ·exact h.h1
 split
 ·exact h.h2
 split
 ·exact h.h3
 ·exact h.h4
theorem gV {c:Choice}(h:gCh c=false):gKh c.heap=false∧gKt c.tourn=false∧gHt c.heater=false∧gKh c.hanger=false:=by
 unfold gCh at h;simp only[Bool.or_eq_false_iff] at h;exact⟨h.1.1.1,h.1.1.2,h.1.2,h.2⟩
def er (b:Bool)(e:Int):Int:=if b=false then 8 else if e≠0 then 8 else 0
open Classical in
theorem nF {c:Choice}(ha:em c):er (decide (ay c)) (asked (ckOf c).now)=okE (decide (bU c)):=by
 unfold er;by_cases h1:ay c
 ·rw[decide_eq_true h1,if_neg (by simp)];by_cases h2:asked (ckOf c).now=0
  ·rw[if_neg (fun g=>g h2),decide_eq_true (show bU c from⟨ha,h1,h2⟩)];rfl
  ·rw[if_pos h2,decide_eq_false (fun h=>h2 h.2.2)];rfl
 ·rw[decide_eq_false h1,if_pos rfl,decide_eq_false (fun h=>h1 h.2.1)];rfl
def usedB (c:Choice):Nat→Bool
 |0=>!decide (c.heap=zKH)
 |1=>!decide (c.tourn=zKT)
 |2=>!decide (c.heater=zHT)
 |_=>!decide (c.hanger=zKH)
theorem lK {c:Choice}(ht:0≤c.tag∧c.tag≤255):(∀i:Nat,i<4→¬(usedB c i=true∧((i+1:Nat):Int)≠c.tag))↔em c:=by
 unfold em;constructor
 ·intro h;have h0:=h 0 (by omega);have h1:=h 1 (by omega);have h2:=h 2 (by omega);have h3:=h 3 (by omega);simp only[usedB,Bool.not_eq_true',decide_eq_false_iff_not,not_and,Decidable.not_not] at h0 h1 h2 h3;refine⟨fun g=>?_,fun g=>?_,fun g=>?_,fun g=>?_⟩
  ·exact Classical.byContradiction fun k=>g (h0 k).symm
  ·exact Classical.byContradiction fun k=>g (h1 k).symm
  ·exact Classical.byContradiction fun k=>g (h2 k).symm
  ·exact Classical.byContradiction fun k=>g (h3 k).symm
 ·rintro⟨h0,h1,h2,h3⟩ i hi ⟨hu,hne⟩
  match i,hi with
  |0,_=>simp only[usedB,Bool.not_eq_true',decide_eq_false_iff_not] at hu;exact hu (h0 (fun e=>hne (by omega)))
  |1,_=>simp only[usedB,Bool.not_eq_true',decide_eq_false_iff_not] at hu;exact hu (h1 (fun e=>hne (by omega)))
  |2,_=>simp only[usedB,Bool.not_eq_true',decide_eq_false_iff_not] at hu;exact hu (h2 (fun e=>hne (by omega)))
  |3,_=>simp only[usedB,Bool.not_eq_true',decide_eq_false_iff_not] at hu;exact hu (h3 (fun e=>hne (by omega)))
open Classical in
theorem e26 {c:Choice}(h64:Cho64 c)(hg:gCh c=false){e2 e3 e4 e5:PV}:den (PhiS D) 1001 sY [] [CHO c,CHO c,e2,e3,e4,e5]=some [.i64 (er (decide (ay c)) (asked (ckOf c).now))]:=by
 obtain⟨g1,g2,g3,g4⟩:=gV hg;have fin: ∀(x:Int) (p:Prop),x=okE (decide p)→(ay c↔p)→den (PhiS D) 1001 sX [] [CHO c,CHO c,e2,e3,e4,e5,.v (.int .u8 c.tag),.v (.bool (decide (c.tag=1))),.i64 x]=some [.i64 (er (decide (ay c)) (asked (ckOf c).now))]:=fun x p hx hp=>by
  subst hx;unfold sX er;simp only[den_lt,EV,bf,Bool.not_eq_true',decide_eq_false_iff_not,phi (c66 c),pCL0,phi (c44 (IT h64).1)];by_cases hp':p
  ·rw[decide_eq_true hp',if_pos rfl,if_neg (show¬¬ay c from fun g=>g (hp.2 hp'))]
   by_cases e:asked (ckOf c).now=0<;>simp[e]
  ·rw[decide_eq_false hp',if_neg (by simp),if_pos (fun h=>hp' (hp.1 h))]
 unfold sY;simp only[den_lt,cCH,u8E,pCH1,pCH2,pCH3,pCH4,EV,decide_eq_true_eq,phi (c77 h64.h1 g1),phi (c78 h64.h2 g2),phi (c79 h64.h3 g3),phi (c80 h64.h4 g4),C7,C8,C9];by_cases t1:c.tag=1
 ·rw[if_pos t1];exact fin _ _ rfl (by unfold ay;rw[if_pos t1])
 rw[if_neg t1];by_cases t2:c.tag=2
 ·rw[if_pos t2];exact fin _ _ rfl (by unfold ay;rw[if_neg t1,if_pos t2])
 rw[if_neg t2];by_cases t3:c.tag=3
 ·rw[if_pos t3];exact fin _ _ rfl (by unfold ay;rw[if_neg t1,if_neg t2,if_pos t3])
 rw[if_neg t3];by_cases t4:c.tag=4
 ·rw[if_pos t4];exact fin _ _ rfl (by unfold ay;rw[if_neg t1,if_neg t2,if_neg t3,if_pos t4])
 rw[if_neg t4];exact fin 8 False (by simp;rfl) (by unfold ay;rw[if_neg t1,if_neg t2,if_neg t3,if_neg t4])
theorem agU (a b c d:Bool):RF.ev .agg [.v (.bool a),.v (.bool b),.v (.bool c),.v (.bool d)]=some (.agg [.v (.bool a),.v (.bool b),.v (.bool c),.v (.bool d)]):=rfl
open Classical in
theorem f26 {c:Choice}(h64:Cho64 c)(hg:gCh c=false){b1 b2 b3 b4:Bool}(h1:b1=usedB c 0)(h2:b2=usedB c 1)(h3:b3=usedB c 2)(h4:b4=usedB c 3):den (PhiS D) 1001 s8 [] [CHO c,CHO c,.v (.bool b1),.v (.bool b2),.v (.bool b3),.v (.bool b4)]=some [.i64 (okE (decide (bU c)))]:=by
 obtain⟨t1,t2⟩:=h64.tag;have wt:IntKind.i64.wrap c.tag=c.tag:=ah (by omega) (by omega);unfold s8;simp only[EV];refine(run_if (m:=1001) (n:=4) (P:=fun i=>¬(usedB c i=true∧((i+1:Nat):Int)≠c.tag)) (st:=fun i=>[.i64 (i:Int)]) (r:=some [.i64 8]) (fin:=some [.i64 (er (decide (ay c)) (asked (ckOf c).now))]) (fun i self hi _=>?_) (fun _ self=>?_) (by omega)).trans ?_
 ·have hu:RF.ev (.aix 1 4 0) [.agg [.v (.bool b1),.v (.bool b2),.v (.bool b3),.v (.bool b4)],.v (.int .i64 (i:Int))]=some (.v (.bool (usedB c i))):=by
   match i,hi with
   |0,_=>rw[h1];rfl
   |1,_=>rw[h2];rfl
   |2,_=>rw[h3];rfl
   |3,_=>rw[h4];rfl
  have l4:decide ((i:Int)<4)=true:=decide_eq_true (by omega);unfold sZ;simp only[den_lt,cCH,agU,hu,EV,l4,eq_self,if_true,wt,Da,up1 (show i<1000000000 by omega)]
  cases usedB c i with
  |false=>simp
  |true=>
   by_cases e:((i+1:Nat):Int)=c.tag
   ·simp[e]
   ·simp[e]
 ·unfold sZ;simp only[EV,show decide (((4:Nat):Int)<4)=false from rfl,Bool.false_eq_true,if_false]
  exact e26 h64 hg
 ·by_cases ha:em c
  ·rw[if_pos ((lK ⟨t1,t2⟩).2 ha),nF ha]
  ·rw[if_neg (fun h=>ha ((lK ⟨t1,t2⟩).1 h)),decide_eq_false (fun h:bU c=>ha h.1)];rfl
set_option maxHeartbeats 4000000 in
open Classical in
theorem c26 {c:Choice}(h64:Cho64 c)(hg:gCh c=false):Ans D 26 [CHO c] [.i64 (okE (decide (bU c)))]:=by
 obtain⟨g1,g2,g3,g4⟩:=gV hg;have z1:=phi (c76 (dY g1).1);have z2:=phi (c76 (eR g2).1);have z3:=phi (c76 (nq g3).1);have z4:=phi (c76 (dY g4).1);have w: ∀a b:Nat,a≤10000→b≤10000→IntKind.i64.wrap ((a:Int)+(b:Int))=((a+b:Nat):Int):=fun a b ha hb=>by rw[ah (by omega) (by omega)];omega
 have w1:=w c.tourn.brk.places.length c.tourn.brk.wins.length (by have:=eR g2;omega) (by have:=eR g2;omega);have p0: ∀n:Nat,decide ((0:Int)<(n:Int))=decide (0<n):=fun n=>decide_eq_decide.2 (by omega);have u1:(c.heap.clock=zC→decide (0<c.heap.heap.length)=usedB c 0)∧(¬c.heap.clock=zC→true=usedB c 0):=by
  unfold usedB zKH;obtain⟨t,⟨k,l⟩,b,d,e⟩:=c;simp only[KHeap.mk.injEq];refine⟨fun h=>?_,fun h=>by simp[h]⟩;cases l<;>simp[h]
 have u2:(c.tourn.clock=zC→decide (0<c.tourn.brk.places.length+c.tourn.brk.wins.length)=usedB c 1)∧(¬c.tourn.clock=zC→true=usedB c 1):=by
  unfold usedB zKT;obtain⟨t,b,⟨k,⟨p,l⟩⟩,d,e⟩:=c;simp only[KTourn.mk.injEq,Brk.mk.injEq];refine⟨fun h=>?_,fun h=>by simp[h]⟩;cases p<;>cases l<;>simp[h]<;>omega
 have u3:(c.heater.clock=zC→c.heater.tree.root=0→decide (0<c.heater.tree.nodes.length)=usedB c 2)∧(¬c.heater.clock=zC→true=usedB c 2)∧(¬c.heater.tree.root=0→true=usedB c 2):=by
  unfold usedB zHT;obtain⟨t,b,d,⟨k,⟨p,l⟩⟩,e⟩:=c;simp only[Heater.mk.injEq,Tree.mk.injEq];refine⟨fun h h'=>?_,fun h=>by simp[h],fun h=>by simp[h]⟩;cases l<;>simp[h,h']
 have u4:(c.hanger.clock=zC→decide (0<c.hanger.heap.length)=usedB c 3)∧(¬c.hanger.clock=zC→true=usedB c 3):=by
  unfold usedB zKH;obtain⟨t,b,d,e,⟨k,l⟩⟩:=c;simp only[KHeap.mk.injEq];refine⟨fun h=>?_,fun h=>by simp[h]⟩;cases l<;>simp[h]
 refine ans_of Hx s26 rfl ⟨1001,?_⟩;unfold k26;by_cases y1:c.heap.clock=zC<;>by_cases y2:c.tourn.clock=zC<;>by_cases y3:c.heater.clock=zC<;>by_cases y4:c.hanger.clock=zC<;>by_cases y5:c.heater.tree.root=0
 all_goals
  first|rw[decide_eq_true y1] at z1|rw[decide_eq_false y1] at z1
  first|rw[decide_eq_true y2] at z2|rw[decide_eq_false y2] at z2
  first|rw[decide_eq_true y3] at z3|rw[decide_eq_false y3] at z3
  first|rw[decide_eq_true y4] at z4|rw[decide_eq_false y4] at z4
  simp only[den_lt,shCH,pK1,pK2,pK3,pK4,PE,PF,PG,PH,PI,PJ,z1,z2,z3,z4,EV,List.length_map,w1,p0,y5,decide_true,decide_false,Bool.not_true,Bool.not_false,Bool.false_eq_true,if_true,if_false,gt_iff_lt];refine f26 h64 hg ?_ ?_ ?_ ?_
 all_goals first
  |exact u1.1 y1
  |exact u1.2 y1
  |exact u2.1 y2
  |exact u2.2 y2
  |exact u3.1 y3 y5
  |exact u3.2.1 y3
  |exact u3.2.2 y5
  |exact u4.1 y4
  |exact u4.2 y4
open Classical in
theorem e27 {c:Choice}(h64:Cho64 c)(hg:gCh c=false){b:Bool}(hb:b=decide (¬em c)):den (PhiS D) 1001 td [] [CHO c,CHO c,.v (.bool b)]=some [.i64 (okE (decide (bU c)))]:=by
 obtain⟨g1,g2,g3,g4⟩:=gV hg;unfold td;by_cases ha:em c
 rotate_left
 ·rw[hb,decide_eq_true ha,decide_eq_false (fun h:bU c=>ha h.1)];simp only[EV,if_true];rfl
 rw[hb,decide_eq_false (fun h=>h ha),←nF ha];have fin: ∀(x:Int) (p:Prop),x=okE (decide p)→(ay c↔p)→den (PhiS D) 1001 tc [] [CHO c,CHO c,.v (.bool false),.v (.int .u8 c.tag),.v (.bool (decide (c.tag=1))),.i64 x]=some [.i64 (er (decide (ay c)) (asked (ckOf c).now))]:=fun x p hx hp=>by
  subst hx;unfold tc er;simp only[den_lt,EV,bf,Bool.not_eq_true',decide_eq_false_iff_not,phi (c13 c),pCL0,phi (c64 (IT h64).1)];by_cases hp':p
  ·rw[decide_eq_true hp',if_pos rfl,if_neg (show¬¬ay c from fun g=>g (hp.2 hp'))]
   by_cases e:asked (ckOf c).now=0<;>simp[e]
  ·rw[decide_eq_false hp',if_neg (by simp),if_pos (fun h=>hp' (hp.1 h))]
 simp only[den_lt,cCH,u8E,pCH1,pCH2,pCH3,pCH4,EV,Bool.false_eq_true,if_false,decide_eq_true_eq,phi (c81 h64.h1 g1),phi (c82 h64.h2 g2),phi (c83 h64.h3 g3),phi (c84 h64.h4 g4),Db,Dc,Dd];by_cases t1:c.tag=1
 ·rw[if_pos t1];exact fin _ _ rfl (by unfold ay;rw[if_pos t1])
 rw[if_neg t1];by_cases t2:c.tag=2
 ·rw[if_pos t2];exact fin _ _ rfl (by unfold ay;rw[if_neg t1,if_pos t2])
 rw[if_neg t2];by_cases t3:c.tag=3
 ·rw[if_pos t3];exact fin _ _ rfl (by unfold ay;rw[if_neg t1,if_neg t2,if_pos t3])
 rw[if_neg t3];by_cases t4:c.tag=4
 ·rw[if_pos t4];exact fin _ _ rfl (by unfold ay;rw[if_neg t1,if_neg t2,if_neg t3,if_pos t4])
 rw[if_neg t4];exact fin 8 False (by simp;rfl) (by unfold ay;rw[if_neg t1,if_neg t2,if_neg t3,if_neg t4])
theorem u8N (a b:Int):RF.ev (.bin .neq) [.v (.int .u8 a),.v (.int .u8 b)]=some (.v (.bool (!decide (a=b)))):=rfl
set_option maxHeartbeats 4000000 in
open Classical in
theorem c27 {c:Choice}(h64:Cho64 c)(hg:gCh c=false):Ans D 27 [CHO c] [.i64 (okE (decide (bU c)))]:=by
 obtain⟨g1,g2,g3,g4⟩:=gV hg;have z1:=phi (c51 (t:=zKH) g1);have z2:=phi (c52 (t:=zKT) g2);have z3:=phi (c53 (t:=zHT) g3);have z4:=phi (c54 (t:=zKH) g4);have a12:RF.ev .agg [.v (.int .i64 0),.v (.int .i64 0),.sl [],.v (.int .i64 0),.sl [],.sl [],.sl [],.sl [],.sl [],.sl [],.sl [],.sl []]=some (KH zKH):=rfl;have a13:RF.ev .agg [.v (.int .i64 0),.v (.int .i64 0),.sl [],.v (.int .i64 0),.sl [],.sl [],.sl [],.sl [],.sl [],.sl [],.sl [],.sl [],.sl []]=some (KT zKT):=rfl;have a14:RF.ev .agg [.v (.int .i64 0),.v (.int .i64 0),.sl [],.v (.int .i64 0),.sl [],.sl [],.sl [],.sl [],.sl [],.sl [],.sl [],.v (.int .i64 0),.sl []]=some (HT zHT):=rfl;refine ans_of Hy s27 rfl ⟨1001,?_⟩;have e:=fun b=>e27 h64 hg (b:=b);unfold k27;unfold em at e;have y0:((c.tag=1∧¬c.tag=2∧¬c.tag=3∧¬c.tag=4)∨(¬c.tag=1∧c.tag=2∧¬c.tag=3∧¬c.tag=4))∨((¬c.tag=1∧¬c.tag=2∧c.tag=3∧¬c.tag=4)∨(¬c.tag=1∧¬c.tag=2∧¬c.tag=3∧c.tag=4))∨(¬c.tag=1∧¬c.tag=2∧¬c.tag=3∧¬c.tag=4):=by omega
 by_cases y1:c.heap=zKH<;>by_cases y2:c.tourn=zKT<;>by_cases y3:c.heater=zHT<;>by_cases y4:c.hanger=zKH<;>rcases y0 with(⟨t1,t2,t3,t4⟩|⟨t1,t2,t3,t4⟩)|(⟨t1,t2,t3,t4⟩|⟨t1,t2,t3,t4⟩)|⟨t1,t2,t3,t4⟩
 all_goals
  first|rw[decide_eq_true y1] at z1|rw[decide_eq_false y1] at z1
  first|rw[decide_eq_true y2] at z2|rw[decide_eq_false y2] at z2
  first|rw[decide_eq_true y3] at z3|rw[decide_eq_false y3] at z3
  first|rw[decide_eq_true y4] at z4|rw[decide_eq_false y4] at z4
  simp only[den_lt,shCH,cCH,u8N,pCH1,pCH2,pCH3,pCH4,a12,a13,a14,z1,z2,z3,z4,EV,t1,t2,t3,t4,Int.reduceEq,decide_true,decide_false,Bool.not_true,Bool.not_false,Bool.false_eq_true,if_true,if_false];refine e _ ?_;simp only[y1,y2,y3,y4,t1,t2,t3,t4,Int.reduceEq,ne_eq,not_true_eq_false,not_false_eq_true,false_implies,true_implies,and_self,and_true,true_and,and_false,false_and,decide_true,decide_false]
end Go.Proofs.YtfghdmmapmdcgaaGreat
