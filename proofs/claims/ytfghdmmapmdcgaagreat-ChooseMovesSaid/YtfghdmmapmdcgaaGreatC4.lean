import Derived.Test.YtfghdmmapmdcgaaGreatC3
set_option linter.unusedVariables false
set_option linter.unusedSimpArgs false
set_option linter.defProp false
noncomputable section
namespace Go.Proofs.YtfghdmmapmdcgaaGreat
open Go.Sym Bnd
set_option maxRecDepth 100000
theorem agU (a b c d:Bool):RF.ev .agg [.v (.bool a),.v (.bool b),.v (.bool c),.v (.bool d)]=some (.agg [.v (.bool a),.v (.bool b),.v (.bool c),.v (.bool d)]):=rfl
open Classical in
theorem f26 {c:Choice}(h64:Cho64 c)(hg:gCh c=false){b1 b2 b3 b4:Bool}(h1:b1=usedB c 0)(h2:b2=usedB c 1)(h3:b3=usedB c 2)(h4:b4=usedB c 3):den (PhiS D) 1001 BC [] [CHO c,CHO c,.v (.bool b1),.v (.bool b2),.v (.bool b3),.v (.bool b4)]=some [.i64 (okE (decide (iI c)))]:=by
 obtain⟨t1,t2⟩:=h64.tag;have wt:IntKind.i64.wrap c.tag=c.tag:=bU (by omega) (by omega);unfold BC;simp only[EV];refine(run_if (m:=1001) (n:=4) (P:=fun i=>¬(usedB c i=true∧((i+1:Nat):Int)≠c.tag)) (st:=fun i=>[.i64 (i:Int)]) (r:=some [.i64 8]) (fin:=some [.i64 (lu (decide (cY c)) (asked (ckOf c).now))]) (fun i self hi _=>?_) (fun _ self=>?_) (by omega)).trans ?_
 ·have hu:RF.ev (.aix 1 4 0) [.agg [.v (.bool b1),.v (.bool b2),.v (.bool b3),.v (.bool b4)],.v (.int .i64 (i:Int))]=some (.v (.bool (usedB c i))):=by
   match i,hi with
   |0,_=>rw[h1];rfl
   |1,_=>rw[h2];rfl
   |2,_=>rw[h3];rfl
   |3,_=>rw[h4];rfl
  have l4:decide ((i:Int)<4)=true:=decide_eq_true (by omega);unfold BB;simp only[den_lt,cCH,agU,hu,EV,l4,eq_self,if_true,wt,KK,up1 (show i<1000000000 by omega)]
  cases usedB c i with
  |false=>simp
  |true=>
   by_cases e:((i+1:Nat):Int)=c.tag
   ·simp[e]
   ·simp[e]
 ·unfold BB;simp only[EV,show decide (((4:Nat):Int)<4)=false from rfl,ad,if_false]
  exact e26 h64 hg
 ·by_cases ha:lr c
  ·rw[if_pos ((ut ⟨t1,t2⟩).2 ha),wj ha]
  ·rw[if_neg (fun h=>ha ((ut ⟨t1,t2⟩).1 h)),decide_eq_false (fun h:iI c=>ha h.1)];rfl
set_option maxHeartbeats 4000000 in
open Classical in
theorem c26 {c:Choice}(h64:Cho64 c)(hg:gCh c=false):Ans D 26 [CHO c] [.i64 (okE (decide (iI c)))]:=by
 obtain⟨g1,g2,g3,g4⟩:=nz hg;have z1:=phi (c76 (mf g1).1);have z2:=phi (c76 (mh g2).1);have z3:=phi (c76 (rm g3).1);have z4:=phi (c76 (mf g4).1);have w: ∀a b:Nat,a≤10000→b≤10000→IntKind.i64.wrap ((a:Int)+(b:Int))=((a+b:Nat):Int):=fun a b ha hb=>by rw[bU (by omega) (by omega)];omega
 have w1:=w c.tourn.brk.places.length c.tourn.brk.wins.length (by have:=mh g2;omega) (by have:=mh g2;omega);have p0: ∀n:Nat,decide ((0:Int)<(n:Int))=decide (0<n):=fun n=>aV.2 (by omega);have u1:(c.heap.clock=zC→decide (0<c.heap.heap.length)=usedB c 0)∧(¬c.heap.clock=zC→true=usedB c 0):=by
  unfold usedB zKH;obtain⟨t,⟨k,l⟩,b,d,e⟩:=c;simp only[KHeap.mk.injEq];refine⟨fun h=>?_,fun h=>by simp[h]⟩;cases l<;>simp[h]
 have u2:(c.tourn.clock=zC→decide (0<c.tourn.brk.places.length+c.tourn.brk.wins.length)=usedB c 1)∧(¬c.tourn.clock=zC→true=usedB c 1):=by
  unfold usedB zKT;obtain⟨t,b,⟨k,⟨p,l⟩⟩,d,e⟩:=c;simp only[KTourn.mk.injEq,Brk.mk.injEq];refine⟨fun h=>?_,fun h=>by simp[h]⟩;cases p<;>cases l<;>simp[h]<;>omega
 have u3:(c.heater.clock=zC→c.heater.tree.root=0→decide (0<c.heater.tree.nodes.length)=usedB c 2)∧(¬c.heater.clock=zC→true=usedB c 2)∧(¬c.heater.tree.root=0→true=usedB c 2):=by
  unfold usedB zHT;obtain⟨t,b,d,⟨k,⟨p,l⟩⟩,e⟩:=c;simp only[Heater.mk.injEq,Tree.mk.injEq];refine⟨fun h h'=>?_,fun h=>by simp[h],fun h=>by simp[h]⟩;cases l<;>simp[h,h']
 have u4:(c.hanger.clock=zC→decide (0<c.hanger.heap.length)=usedB c 3)∧(¬c.hanger.clock=zC→true=usedB c 3):=by
  unfold usedB zKH;obtain⟨t,b,d,e,⟨k,l⟩⟩:=c;simp only[KHeap.mk.injEq];refine⟨fun h=>?_,fun h=>by simp[h]⟩;cases l<;>simp[h]
 refine ans_of Pc s26 rfl ⟨1001,?_⟩;unfold k26;by_cases y1:c.heap.clock=zC<;>by_cases y2:c.tourn.clock=zC<;>by_cases y3:c.heater.clock=zC<;>by_cases y4:c.hanger.clock=zC<;>by_cases y5:c.heater.tree.root=0
 all_goals
  first|rw[decide_eq_true y1] at z1|rw[decide_eq_false y1] at z1
  first|rw[decide_eq_true y2] at z2|rw[decide_eq_false y2] at z2
  first|rw[decide_eq_true y3] at z3|rw[decide_eq_false y3] at z3
  first|rw[decide_eq_true y4] at z4|rw[decide_eq_false y4] at z4
  simp only[den_lt,shCH,pK1,pK2,pK3,pK4,Xq,Xr,Xs,Xt,Xu,Xv,z1,z2,z3,z4,EV,aa,w1,p0,y5,decide_true,decide_false,ak,aM,ad,if_true,if_false,gt_iff_lt];refine f26 h64 hg ?_ ?_ ?_ ?_
 all_goals first
  |exact u1.1 y1
  |exact u1.2 y1
  |exact u2.1 y2
  |exact u2.2 y2
  |exact u3.1 y3 y5
  |exact u3.2.1 y3
  |exact u3.2.2 y5
  |exact u4.1 y4
  |exact u4.2 y4
open Classical in
theorem e27 {c:Choice}(h64:Cho64 c)(hg:gCh c=false){b:Bool}(hb:b=decide (¬lr c)):den (PhiS D) 1001 BE [] [CHO c,CHO c,.v (.bool b)]=some [.i64 (okE (decide (iI c)))]:=by
 obtain⟨g1,g2,g3,g4⟩:=nz hg;unfold BE;by_cases ha:lr c
 rotate_left
 ·rw[hb,decide_eq_true ha,decide_eq_false (fun h:iI c=>ha h.1)];simp only[EV,if_true];rfl
 rw[hb,decide_eq_false (fun h=>h ha),←wj ha];have fin: ∀(x:Int) (p:Prop),x=okE (decide p)→(cY c↔p)→den (PhiS D) 1001 BD [] [CHO c,CHO c,.v (.bool false),.v (.int .u8 c.tag),.v (.bool (decide (c.tag=1))),.i64 x]=some [.i64 (lu (decide (cY c)) (asked (ckOf c).now))]:=fun x p hx hp=>by
  subst hx;unfold BD lu;simp only[den_lt,EV,eK,ai,decide_eq_false_iff_not,phi (c13 c),pCL0,phi (c64 (I2 h64).1)];by_cases hp':p
  ·rw[decide_eq_true hp',if_pos rfl,if_neg (show¬¬cY c from fun g=>g (hp.2 hp'))]
   by_cases e:asked (ckOf c).now=0<;>simp[e]
  ·rw[decide_eq_false hp',if_neg (by simp),if_pos (fun h=>hp' (hp.1 h))]
 simp only[den_lt,cCH,u8E,pCH1,pCH2,pCH3,pCH4,EV,ad,if_false,decide_eq_true_eq,phi (c81 h64.h1 g1),phi (c82 h64.h2 g2),phi (c83 h64.h3 g3),phi (c84 h64.h4 g4),KL,KM,KN];by_cases t1:c.tag=1
 ·rw[if_pos t1];exact fin _ _ rfl (by unfold cY;rw[if_pos t1])
 rw[if_neg t1];by_cases t2:c.tag=2
 ·rw[if_pos t2];exact fin _ _ rfl (by unfold cY;rw[if_neg t1,if_pos t2])
 rw[if_neg t2];by_cases t3:c.tag=3
 ·rw[if_pos t3];exact fin _ _ rfl (by unfold cY;rw[if_neg t1,if_neg t2,if_pos t3])
 rw[if_neg t3];by_cases t4:c.tag=4
 ·rw[if_pos t4];exact fin _ _ rfl (by unfold cY;rw[if_neg t1,if_neg t2,if_neg t3,if_pos t4])
 rw[if_neg t4];exact fin 8 False (by simp;rfl) (by unfold cY;rw[if_neg t1,if_neg t2,if_neg t3,if_neg t4])
theorem u8N (a b:Int):RF.ev (.bin .neq) [.v (.int .u8 a),.v (.int .u8 b)]=some (.v (.bool (!decide (a=b)))):=rfl
set_option maxHeartbeats 4000000 in
open Classical in
theorem c27 {c:Choice}(h64:Cho64 c)(hg:gCh c=false):Ans D 27 [CHO c] [.i64 (okE (decide (iI c)))]:=by
 obtain⟨g1,g2,g3,g4⟩:=nz hg;have z1:=phi (c51 (t:=zKH) g1);have z2:=phi (c52 (t:=zKT) g2);have z3:=phi (c53 (t:=zHT) g3);have z4:=phi (c54 (t:=zKH) g4);have a12:RF.ev .agg [.v (.int .i64 0),.v (.int .i64 0),.sl [],.v (.int .i64 0),.sl [],.sl [],.sl [],.sl [],.sl [],.sl [],.sl [],.sl []]=some (KH zKH):=rfl;have a13:RF.ev .agg [.v (.int .i64 0),.v (.int .i64 0),.sl [],.v (.int .i64 0),.sl [],.sl [],.sl [],.sl [],.sl [],.sl [],.sl [],.sl [],.sl []]=some (KT zKT):=rfl;have a14:RF.ev .agg [.v (.int .i64 0),.v (.int .i64 0),.sl [],.v (.int .i64 0),.sl [],.sl [],.sl [],.sl [],.sl [],.sl [],.sl [],.v (.int .i64 0),.sl []]=some (HT zHT):=rfl;refine ans_of Pd s27 rfl ⟨1001,?_⟩;have e:=fun b=>e27 h64 hg (b:=b);unfold k27;unfold lr at e;have y0:((c.tag=1∧¬c.tag=2∧¬c.tag=3∧¬c.tag=4)∨(¬c.tag=1∧c.tag=2∧¬c.tag=3∧¬c.tag=4))∨((¬c.tag=1∧¬c.tag=2∧c.tag=3∧¬c.tag=4)∨(¬c.tag=1∧¬c.tag=2∧¬c.tag=3∧c.tag=4))∨(¬c.tag=1∧¬c.tag=2∧¬c.tag=3∧¬c.tag=4):=by omega
 by_cases y1:c.heap=zKH<;>by_cases y2:c.tourn=zKT<;>by_cases y3:c.heater=zHT<;>by_cases y4:c.hanger=zKH<;>rcases y0 with(⟨t1,t2,t3,t4⟩|⟨t1,t2,t3,t4⟩)|(⟨t1,t2,t3,t4⟩|⟨t1,t2,t3,t4⟩)|⟨t1,t2,t3,t4⟩
 all_goals
  first|rw[decide_eq_true y1] at z1|rw[decide_eq_false y1] at z1
  first|rw[decide_eq_true y2] at z2|rw[decide_eq_false y2] at z2
  first|rw[decide_eq_true y3] at z3|rw[decide_eq_false y3] at z3
  first|rw[decide_eq_true y4] at z4|rw[decide_eq_false y4] at z4
  simp only[den_lt,shCH,cCH,u8N,pCH1,pCH2,pCH3,pCH4,a12,a13,a14,z1,z2,z3,z4,EV,t1,t2,t3,t4,Int.reduceEq,decide_true,decide_false,ak,aM,ad,if_true,if_false];refine e _ ?_;simp only[y1,y2,y3,y4,t1,t2,t3,t4,Int.reduceEq,ne_eq,not_true_eq_false,not_false_eq_true,false_implies,true_implies,eG,and_true,true_and,and_false,false_and,decide_true,decide_false]
end Go.Proofs.YtfghdmmapmdcgaaGreat
