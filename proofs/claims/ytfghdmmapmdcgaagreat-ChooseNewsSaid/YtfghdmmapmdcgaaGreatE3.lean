import Derived.Test.YtfghdmmapmdcgaaGreatE2
import Derived.Test.YtfghdmmapmdcgaaGreatC3
set_option linter.unusedVariables false
set_option linter.unusedSimpArgs false
set_option linter.defProp false
noncomputable section
namespace Go.Proofs.YtfghdmmapmdcgaaGreat
open Go.Sym Bnd
set_option maxRecDepth 100000
set_option linter.unusedSimpArgs false
theorem kh0 (k:KHeap):RF.ev (.cell 0) [KH k]=some (.i64 k.clock.now.num):=rfl
theorem kh1 (k:KHeap):RF.ev (.cell 1) [KH k]=some (.i64 k.clock.now.den):=rfl
theorem kh2 (k:KHeap):RF.ev (.cell 2) [KH k]=some (sl row k.clock.pts):=rfl
theorem kh3 (k:KHeap):RF.ev (.cell 3) [KH k]=some (.i64 k.clock.certs.next):=rfl
theorem kh4 (k:KHeap):RF.ev (.cell 4) [KH k]=some (sl hrow k.clock.certs.list):=rfl
theorem kh5 (k:KHeap):RF.ev (.cell 5) [KH k]=some (sl I1 k.clock.agenda.slots.uses):=rfl
theorem kh6 (k:KHeap):RF.ev (.cell 6) [KH k]=some (sl B1 k.clock.agenda.slots.used):=rfl
theorem kh7 (k:KHeap):RF.ev (.cell 7) [KH k]=some (sl I1 k.clock.agenda.slots.free):=rfl
theorem kh8 (k:KHeap):RF.ev (.cell 8) [KH k]=some (sl erow k.clock.agenda.heap):=rfl
theorem kh9 (k:KHeap):RF.ev (.cell 9) [KH k]=some (sl I1 k.clock.agenda.wher):=rfl
theorem sQ (k:KHeap):RF.ev (.cell 10) [KH k]=some (sl am k.clock.due):=rfl
theorem kh11 (k:KHeap):RF.ev (.cell 11) [KH k]=some (sl I1 k.heap):=rfl
theorem kt0 (k:KTourn):RF.ev (.cell 0) [KT k]=some (.i64 k.clock.now.num):=rfl
theorem kt1 (k:KTourn):RF.ev (.cell 1) [KT k]=some (.i64 k.clock.now.den):=rfl
theorem kt2 (k:KTourn):RF.ev (.cell 2) [KT k]=some (sl row k.clock.pts):=rfl
theorem kt3 (k:KTourn):RF.ev (.cell 3) [KT k]=some (.i64 k.clock.certs.next):=rfl
theorem kt4 (k:KTourn):RF.ev (.cell 4) [KT k]=some (sl hrow k.clock.certs.list):=rfl
theorem kt5 (k:KTourn):RF.ev (.cell 5) [KT k]=some (sl I1 k.clock.agenda.slots.uses):=rfl
theorem kt6 (k:KTourn):RF.ev (.cell 6) [KT k]=some (sl B1 k.clock.agenda.slots.used):=rfl
theorem kt7 (k:KTourn):RF.ev (.cell 7) [KT k]=some (sl I1 k.clock.agenda.slots.free):=rfl
theorem kt8 (k:KTourn):RF.ev (.cell 8) [KT k]=some (sl erow k.clock.agenda.heap):=rfl
theorem kt9 (k:KTourn):RF.ev (.cell 9) [KT k]=some (sl I1 k.clock.agenda.wher):=rfl
theorem I7 (k:KTourn):RF.ev (.cell 10) [KT k]=some (sl am k.clock.due):=rfl
theorem I8 (k:KTourn):RF.ev (.cell 11) [KT k]=some (sl I1 k.brk.places):=rfl
theorem I9 (k:KTourn):RF.ev (.cell 12) [KT k]=some (sl I1 k.brk.wins):=rfl
theorem ht0 (k:Heater):RF.ev (.cell 0) [HT k]=some (.i64 k.clock.now.num):=rfl
theorem ht1 (k:Heater):RF.ev (.cell 1) [HT k]=some (.i64 k.clock.now.den):=rfl
theorem ht2 (k:Heater):RF.ev (.cell 2) [HT k]=some (sl row k.clock.pts):=rfl
theorem ht3 (k:Heater):RF.ev (.cell 3) [HT k]=some (.i64 k.clock.certs.next):=rfl
theorem ht4 (k:Heater):RF.ev (.cell 4) [HT k]=some (sl hrow k.clock.certs.list):=rfl
theorem ht5 (k:Heater):RF.ev (.cell 5) [HT k]=some (sl I1 k.clock.agenda.slots.uses):=rfl
theorem ht6 (k:Heater):RF.ev (.cell 6) [HT k]=some (sl B1 k.clock.agenda.slots.used):=rfl
theorem ht7 (k:Heater):RF.ev (.cell 7) [HT k]=some (sl I1 k.clock.agenda.slots.free):=rfl
theorem ht8 (k:Heater):RF.ev (.cell 8) [HT k]=some (sl erow k.clock.agenda.heap):=rfl
theorem ht9 (k:Heater):RF.ev (.cell 9) [HT k]=some (sl I1 k.clock.agenda.wher):=rfl
theorem Ja (k:Heater):RF.ev (.cell 10) [HT k]=some (sl am k.clock.due):=rfl
theorem ht11 (k:Heater):RF.ev (.cell 11) [HT k]=some (.i64 k.tree.root):=rfl
theorem BH (k:Heater):RF.ev (.cell 12) [HT k]=some (sl nrow k.tree.nodes):=rfl
theorem nP (g:Int)(k:KHeap):RF.ev .agg [.v (.int .u8 g),.i64 k.clock.now.num,.i64 k.clock.now.den,sl row k.clock.pts,.i64 k.clock.certs.next,sl hrow k.clock.certs.list,sl I1 k.clock.agenda.slots.uses,sl B1 k.clock.agenda.slots.used,sl I1 k.clock.agenda.slots.free,sl erow k.clock.agenda.heap,sl I1 k.clock.agenda.wher,sl am k.clock.due,sl I1 k.heap,.v (.int .i64 0),.v (.int .i64 0),.sl [],.v (.int .i64 0),.sl [],.sl [],.sl [],.sl [],.sl [],.sl [],.sl [],.sl [],.sl [],.v (.int .i64 0),.v (.int .i64 0),.sl [],.v (.int .i64 0),.sl [],.sl [],.sl [],.sl [],.sl [],.sl [],.sl [],.v (.int .i64 0),.sl [],.v (.int .i64 0),.v (.int .i64 0),.sl [],.v (.int .i64 0),.sl [],.sl [],.sl [],.sl [],.sl [],.sl [],.sl [],.sl []]=some (CHO ⟨g,k,zKT,zHT,zKH⟩):=rfl
theorem nQ (g:Int)(k:KTourn):RF.ev .agg [.v (.int .u8 g),.v (.int .i64 0),.v (.int .i64 0),.sl [],.v (.int .i64 0),.sl [],.sl [],.sl [],.sl [],.sl [],.sl [],.sl [],.sl [],.i64 k.clock.now.num,.i64 k.clock.now.den,sl row k.clock.pts,.i64 k.clock.certs.next,sl hrow k.clock.certs.list,sl I1 k.clock.agenda.slots.uses,sl B1 k.clock.agenda.slots.used,sl I1 k.clock.agenda.slots.free,sl erow k.clock.agenda.heap,sl I1 k.clock.agenda.wher,sl am k.clock.due,sl I1 k.brk.places,sl I1 k.brk.wins,.v (.int .i64 0),.v (.int .i64 0),.sl [],.v (.int .i64 0),.sl [],.sl [],.sl [],.sl [],.sl [],.sl [],.sl [],.v (.int .i64 0),.sl [],.v (.int .i64 0),.v (.int .i64 0),.sl [],.v (.int .i64 0),.sl [],.sl [],.sl [],.sl [],.sl [],.sl [],.sl [],.sl []]=some (CHO ⟨g,zKH,k,zHT,zKH⟩):=rfl
theorem nR (g:Int)(k:Heater):RF.ev .agg [.v (.int .u8 g),.v (.int .i64 0),.v (.int .i64 0),.sl [],.v (.int .i64 0),.sl [],.sl [],.sl [],.sl [],.sl [],.sl [],.sl [],.sl [],.v (.int .i64 0),.v (.int .i64 0),.sl [],.v (.int .i64 0),.sl [],.sl [],.sl [],.sl [],.sl [],.sl [],.sl [],.sl [],.sl [],.i64 k.clock.now.num,.i64 k.clock.now.den,sl row k.clock.pts,.i64 k.clock.certs.next,sl hrow k.clock.certs.list,sl I1 k.clock.agenda.slots.uses,sl B1 k.clock.agenda.slots.used,sl I1 k.clock.agenda.slots.free,sl erow k.clock.agenda.heap,sl I1 k.clock.agenda.wher,sl am k.clock.due,.i64 k.tree.root,sl nrow k.tree.nodes,.v (.int .i64 0),.v (.int .i64 0),.sl [],.v (.int .i64 0),.sl [],.sl [],.sl [],.sl [],.sl [],.sl [],.sl [],.sl []]=some (CHO ⟨g,zKH,zKT,k,zKH⟩):=rfl
theorem nS (g:Int)(k:KHeap):RF.ev .agg [.v (.int .u8 g),.v (.int .i64 0),.v (.int .i64 0),.sl [],.v (.int .i64 0),.sl [],.sl [],.sl [],.sl [],.sl [],.sl [],.sl [],.sl [],.v (.int .i64 0),.v (.int .i64 0),.sl [],.v (.int .i64 0),.sl [],.sl [],.sl [],.sl [],.sl [],.sl [],.sl [],.sl [],.sl [],.v (.int .i64 0),.v (.int .i64 0),.sl [],.v (.int .i64 0),.sl [],.sl [],.sl [],.sl [],.sl [],.sl [],.sl [],.v (.int .i64 0),.sl [],.i64 k.clock.now.num,.i64 k.clock.now.den,sl row k.clock.pts,.i64 k.clock.certs.next,sl hrow k.clock.certs.list,sl I1 k.clock.agenda.slots.uses,sl B1 k.clock.agenda.slots.used,sl I1 k.clock.agenda.slots.free,sl erow k.clock.agenda.heap,sl I1 k.clock.agenda.wher,sl am k.clock.due,sl I1 k.heap]=some (CHO ⟨g,zKH,zKT,zHT,k⟩):=rfl
def zCH:Choice:=⟨0,zKH,zKT,zHT,zKH⟩
theorem sR (g:Int):RF.ev .agg [.v (.int .u8 g),.v (.int .i64 0),.v (.int .i64 0),.sl [],.v (.int .i64 0),.sl [],.sl [],.sl [],.sl [],.sl [],.sl [],.sl [],.sl [],.v (.int .i64 0),.v (.int .i64 0),.sl [],.v (.int .i64 0),.sl [],.sl [],.sl [],.sl [],.sl [],.sl [],.sl [],.sl [],.sl [],.v (.int .i64 0),.v (.int .i64 0),.sl [],.v (.int .i64 0),.sl [],.sl [],.sl [],.sl [],.sl [],.sl [],.sl [],.v (.int .i64 0),.sl [],.v (.int .i64 0),.v (.int .i64 0),.sl [],.v (.int .i64 0),.sl [],.sl [],.sl [],.sl [],.sl [],.sl [],.sl [],.sl []]=some (CHO ⟨g,zKH,zKT,zHT,zKH⟩):=rfl
theorem hR:RF.ev .agg [.v (.int .i64 0),.v (.int .i64 0),.sl [],.v (.int .i64 0),.sl [],.sl [],.sl [],.sl [],.sl [],.sl [],.sl [],.sl []]=some (KH zKH):=rfl
theorem sS:RF.ev .agg [.v (.int .i64 0),.v (.int .i64 0),.sl [],.v (.int .i64 0),.sl [],.sl [],.sl [],.sl [],.sl [],.sl [],.sl [],.sl [],.sl []]=some (KT zKT):=rfl
theorem sT:RF.ev .agg [.v (.int .i64 0),.v (.int .i64 0),.sl [],.v (.int .i64 0),.sl [],.sl [],.sl [],.sl [],.sl [],.sl [],.sl [],.v (.int .i64 0),.sl []]=some (HT zHT):=rfl
theorem aggZC:RF.ev .agg [.v (.int .i64 0),.v (.int .i64 0),.sl [],.v (.int .i64 0),.sl [],.sl [],.sl [],.sl [],.sl [],.sl [],.sl []]=some (CL zC):=rfl
def bE (l:List Pt)(t:Rt):Int:=if aZ l=0 then okE (rok t) else aZ l
theorem bE_ok {l:List Pt}{t:Rt}(h:bE l t=0):okF l∧rok t=true:=by
 unfold bE at h;split at h
 ·rename_i h1;exact⟨fieldE_ok.1 h1,okE_eq.1 h⟩
 ·rename_i h1;exact absurd h h1
theorem mq {l:List Pt}{t:Rt}(ht:In64 t)(h:bE l t≠0):Ans D 138 [F l,R t] [CL zC,.i64 (bE l t)]:=by
 refine ans_of rz H5 rfl ⟨1,?_⟩;unfold ol;unfold bE at h⊢;by_cases h1:aZ l=0
 ·rw[if_pos h1] at h⊢;simp only[den_lt,shapeF,shapeR,phi (c231 l),phi (c43 ht),h1,EV,decide_true,Bool.not_true,Bool.false_eq_true,if_false,h,decide_false,Bool.not_false,if_true,aggZC]
 ·rw[if_neg h1] at h⊢;simp only[den_lt,shapeF,shapeR,phi (c231 l),EV,h,decide_false,Bool.not_false,if_true,aggZC]
section
variable (t:Rt)(l:List Pt)
def hY:KHeap:=if bE l t=0 then hO t l else zKH
def eS:KTourn:=if bE l t=0 then gu t l else zKT
def hZ:Heater:=if bE l t=0 then jx t l else zHT
def ia:KHeap:=if bE l t=0 then jy t l else zKH
end
section
variable {l:List Pt}{t:Rt}(ht:In64 t)
include ht
theorem Qj:Ans D 55 [F l,R t] [KH (hY t l),.i64 (bE l t)]:=by
 unfold hY;by_cases h:bE l t=0
 ·obtain⟨h1,h2⟩:=bE_ok h;rw[if_pos h,h];exact c55 h1 ht h2
 ·rw[if_neg h];refine ans_of xx s55 rfl ⟨1,?_⟩;unfold k55;simp only[den_lt,shapeF,shapeR,phi (mq ht h),shCL,EV,h,decide_false,Bool.not_false,if_true,hR]
theorem Qk:Ans D 56 [F l,R t] [KT (eS t l),.i64 (bE l t)]:=by
 unfold eS;by_cases h:bE l t=0
 ·obtain⟨h1,h2⟩:=bE_ok h;rw[if_pos h,h];exact c56 h1 ht h2
 ·rw[if_neg h];refine ans_of xy s56 rfl ⟨1,?_⟩;unfold k56;simp only[den_lt,shapeF,shapeR,phi (mq ht h),shCL,EV,h,decide_false,Bool.not_false,if_true,sS]
theorem Ql:Ans D 57 [F l,R t] [HT (hZ t l),.i64 (bE l t)]:=by
 unfold hZ;by_cases h:bE l t=0
 ·obtain⟨h1,h2⟩:=bE_ok h;rw[if_pos h,h];exact c57 h1 ht h2
 ·rw[if_neg h];refine ans_of xz s57 rfl ⟨1,?_⟩;unfold k57;simp only[den_lt,shapeF,shapeR,phi (mq ht h),shCL,EV,h,decide_false,Bool.not_false,if_true,sT]
theorem Qm:Ans D 58 [F l,R t] [KH (ia t l),.i64 (bE l t)]:=by
 unfold ia;by_cases h:bE l t=0
 ·obtain⟨h1,h2⟩:=bE_ok h;rw[if_pos h,h];exact c58 h1 ht h2
 ·rw[if_neg h];refine ans_of xA s58 rfl ⟨1,?_⟩;unfold k58;simp only[den_lt,shapeF,shapeR,phi (mq ht h),shCL,EV,h,decide_false,Bool.not_false,if_true,hR]
theorem Qn:Ans D 60 [F l,R t] [KH (hY t l),.i64 (bE l t)]:=by
 unfold hY;by_cases h:bE l t=0
 ·obtain⟨h1,h2⟩:=bE_ok h;rw[if_pos h,h];exact c60 h1 ht h2
 ·rw[if_neg h];refine ans_of xB s60 rfl ⟨1,?_⟩;unfold k60;unfold bE at h⊢;by_cases h1:aZ l=0
  ·rw[if_pos h1] at h⊢;have h2:rok t=false:=by
    cases e:rok t with
    |true=>rw[e] at h;exact absurd rfl h
    |false=>rfl
   have m:=phi (dU ht);rw[h2] at m⊢;have e8:okE false=8:=rfl;rw[e8] at m⊢;have n8:decide ((8:Int)=0)=false:=rfl;simp only[den_lt,shapeF,shapeR,phi (db l),h1,m,EV,decide_true,Bool.not_true,Bool.false_eq_true,if_false,n8,Bool.not_false,if_true,hR]
  ·rw[if_neg h1];simp only[den_lt,shapeF,shapeR,phi (db l),EV,h1,decide_false,Bool.not_false,if_true,hR]
theorem Qo:Ans D 61 [F l,R t] [KT (eS t l),.i64 (bE l t)]:=by
 unfold eS;by_cases h:bE l t=0
 ·obtain⟨h1,h2⟩:=bE_ok h;rw[if_pos h,h];exact c61 h1 ht h2
 ·rw[if_neg h];refine ans_of xC s61 rfl ⟨1,?_⟩;unfold k61;unfold bE at h⊢;by_cases h1:aZ l=0
  ·rw[if_pos h1] at h⊢;have h2:rok t=false:=by
    cases e:rok t with
    |true=>rw[e] at h;exact absurd rfl h
    |false=>rfl
   have m:=phi (dU ht);rw[h2] at m⊢;have e8:okE false=8:=rfl;rw[e8] at m⊢;have n8:decide ((8:Int)=0)=false:=rfl;simp only[den_lt,shapeF,shapeR,phi (db l),h1,m,EV,decide_true,Bool.not_true,Bool.false_eq_true,if_false,n8,Bool.not_false,if_true,sS]
  ·rw[if_neg h1];simp only[den_lt,shapeF,shapeR,phi (db l),EV,h1,decide_false,Bool.not_false,if_true,sS]
theorem Qp:Ans D 62 [F l,R t] [HT (hZ t l),.i64 (bE l t)]:=by
 unfold hZ;by_cases h:bE l t=0
 ·obtain⟨h1,h2⟩:=bE_ok h;rw[if_pos h,h];exact c62 h1 ht h2
 ·rw[if_neg h];refine ans_of xD s62 rfl ⟨1,?_⟩;unfold k62;unfold bE at h⊢;by_cases h1:aZ l=0
  ·rw[if_pos h1] at h⊢;have h2:rok t=false:=by
    cases e:rok t with
    |true=>rw[e] at h;exact absurd rfl h
    |false=>rfl
   have m:=phi (dU ht);rw[h2] at m⊢;have e8:okE false=8:=rfl;rw[e8] at m⊢;have n8:decide ((8:Int)=0)=false:=rfl;simp only[den_lt,shapeF,shapeR,phi (db l),h1,m,EV,decide_true,Bool.not_true,Bool.false_eq_true,if_false,n8,Bool.not_false,if_true,sT]
  ·rw[if_neg h1];simp only[den_lt,shapeF,shapeR,phi (db l),EV,h1,decide_false,Bool.not_false,if_true,sT]
theorem Qq:Ans D 63 [F l,R t] [KH (ia t l),.i64 (bE l t)]:=by
 unfold ia;by_cases h:bE l t=0
 ·obtain⟨h1,h2⟩:=bE_ok h;rw[if_pos h,h];exact c63 h1 ht h2
 ·rw[if_neg h];refine ans_of xE s63 rfl ⟨1,?_⟩;unfold k63;unfold bE at h⊢;by_cases h1:aZ l=0
  ·rw[if_pos h1] at h⊢;have h2:rok t=false:=by
    cases e:rok t with
    |true=>rw[e] at h;exact absurd rfl h
    |false=>rfl
   have m:=phi (dU ht);rw[h2] at m⊢;have e8:okE false=8:=rfl;rw[e8] at m⊢;have n8:decide ((8:Int)=0)=false:=rfl;simp only[den_lt,shapeF,shapeR,phi (db l),h1,m,EV,decide_true,Bool.not_true,Bool.false_eq_true,if_false,n8,Bool.not_false,if_true,hR]
  ·rw[if_neg h1];simp only[den_lt,shapeF,shapeR,phi (db l),EV,h1,decide_false,Bool.not_false,if_true,hR]
end
def aD (c:Choice)(e:Int):Choice:=if e=0 then c else zCH
theorem c59 (c:Choice)(e:Int):Ans D 59 [CHO c,.i64 e] [CHO (aD c e),.i64 e]:=by
 refine ans_of HL s59 rfl ⟨1,?_⟩;unfold k59 aD;simp only[den_lt,shCH,EV,sR,Bool.not_eq_true',decide_eq_false_iff_not];by_cases h:e=0
 ·subst h;rfl
 ·simp only[h,not_false_eq_true,if_true,if_false];rfl
theorem c65 (c:Choice)(e:Int):Ans D 65 [CHO c,.i64 e] [CHO (aD c e),.i64 e]:=by
 refine ans_of HN s65 rfl ⟨1,?_⟩;unfold k65 aD;simp only[den_lt,shCH,EV,sR,Bool.not_eq_true',decide_eq_false_iff_not];by_cases h:e=0
 ·subst h;rfl
 ·simp only[h,not_false_eq_true,if_true,if_false];rfl
def aG (tag:Int)(l:List Pt)(t:Rt):Choice:=if tag=1 then⟨1,hY t l,zKT,zHT,zKH⟩ else if tag=2 then⟨2,zKH,eS t l,zHT,zKH⟩ else if tag=3 then⟨3,zKH,zKT,hZ t l,zKH⟩ else⟨4,zKH,zKT,zHT,ia t l⟩
def newE (l:List Pt)(t:Rt):Int:=if bE l t=0 then asked t else bE l t
def newR (tag:Int)(l:List Pt)(t:Rt):List PV:=if tag=1∨tag=2∨tag=3∨tag=4 then [CHO (aD (aG tag l t) (newE l t)),.i64 (newE l t)] else [CHO zCH,.i64 2]
theorem nT {tag:Int}{l:List Pt}{t:Rt}:(newR tag l t).length=2:=by unfold newR;split<;>rfl
theorem c20 (tag:Int){l:List Pt}{t:Rt}(ht:In64 t):Ans D 20 [.v (.int .u8 tag),F l,R t] (newR tag l t):=by
 have hk:=fun(c:Choice) (e:Int)=>phi (c59 c e);refine ans_of (hl:=nT) Hr s20 rfl ⟨1,?_⟩;unfold k20;simp only[den_lt,shapeF,shapeR,u8E,EV,decide_eq_true_eq];by_cases t1:tag=1
 ·subst t1;rw[if_pos rfl];simp only[den_lt,EV,phi (Qj (l:=l) ht),shKH,kh0,kh1,kh2,kh3,kh4,kh5,kh6,kh7,kh8,kh9,sQ,kh11];unfold jz;simp only[EV,decide_eq_true_eq];by_cases hb:bE l t=0
  ·rw[if_pos hb];have hE:newE l t=asked t:=if_pos hb;simp only[den_lt,EV,phi (c44 ht)];unfold dM;simp only[den_lt,EV,nP,hk,shCH];rw[show newR 1 l t=[CHO (aD (aG 1 l t) (newE l t)),.i64 (newE l t)] from rfl,hE];rfl
  ·rw[if_neg hb];have hE:newE l t=bE l t:=if_neg hb;unfold dM;simp only[den_lt,EV,nP,hk,shCH];rw[show newR 1 l t=[CHO (aD (aG 1 l t) (newE l t)),.i64 (newE l t)] from rfl,hE];rfl
 by_cases t2:tag=2
 ·subst t2;rw[if_neg (by decide),if_pos rfl];simp only[den_lt,EV,phi (Qk (l:=l) ht),shKT,kt0,kt1,kt2,kt3,kt4,kt5,kt6,kt7,kt8,kt9,I7,I8,I9,mw];unfold jz;simp only[EV,decide_eq_true_eq];by_cases hb:bE l t=0
  ·rw[if_pos hb];have hE:newE l t=asked t:=if_pos hb;simp only[den_lt,EV,phi (c44 ht)];unfold dM;simp only[den_lt,EV,nQ,hk,shCH];rw[show newR 2 l t=[CHO (aD (aG 2 l t) (newE l t)),.i64 (newE l t)] from rfl,hE];rfl
  ·rw[if_neg hb];have hE:newE l t=bE l t:=if_neg hb;unfold dM;simp only[den_lt,EV,nQ,hk,shCH];rw[show newR 2 l t=[CHO (aD (aG 2 l t) (newE l t)),.i64 (newE l t)] from rfl,hE];rfl
 by_cases t3:tag=3
 ·subst t3;rw[if_neg (by decide),if_neg (by decide),if_pos rfl];simp only[den_lt,EV,phi (Ql (l:=l) ht),shHT,ht0,ht1,ht2,ht3,ht4,ht5,ht6,ht7,ht8,ht9,Ja,ht11,BH,sV,mw];unfold jz;simp only[EV,decide_eq_true_eq];by_cases hb:bE l t=0
  ·rw[if_pos hb];have hE:newE l t=asked t:=if_pos hb;simp only[den_lt,EV,phi (c44 ht)];unfold dM;simp only[den_lt,EV,nR,hk,shCH];rw[show newR 3 l t=[CHO (aD (aG 3 l t) (newE l t)),.i64 (newE l t)] from rfl,hE];rfl
  ·rw[if_neg hb];have hE:newE l t=bE l t:=if_neg hb;unfold dM;simp only[den_lt,EV,nR,hk,shCH];rw[show newR 3 l t=[CHO (aD (aG 3 l t) (newE l t)),.i64 (newE l t)] from rfl,hE];rfl
 by_cases t4:tag=4
 ·subst t4;rw[if_neg (by decide),if_neg (by decide),if_neg (by decide),if_pos rfl];simp only[den_lt,EV,phi (Qm (l:=l) ht),shKH,kh0,kh1,kh2,kh3,kh4,kh5,kh6,kh7,kh8,kh9,sQ,kh11,sV,mw];unfold jz;simp only[EV,decide_eq_true_eq];by_cases hb:bE l t=0
  ·rw[if_pos hb];have hE:newE l t=asked t:=if_pos hb;simp only[den_lt,EV,phi (c44 ht)];unfold dM;simp only[den_lt,EV,nS,hk,shCH];rw[show newR 4 l t=[CHO (aD (aG 4 l t) (newE l t)),.i64 (newE l t)] from rfl,hE];rfl
  ·rw[if_neg hb];have hE:newE l t=bE l t:=if_neg hb;unfold dM;simp only[den_lt,EV,nS,hk,shCH];rw[show newR 4 l t=[CHO (aD (aG 4 l t) (newE l t)),.i64 (newE l t)] from rfl,hE];rfl
 rw[if_neg t1,if_neg t2,if_neg t3,if_neg t4];simp only[EV,sR];unfold newR;rw[if_neg (by omega)];rfl
theorem asked_two {t:Rt}(h:rok t=true):asked t=0∨asked t=2:=by
 unfold asked;rw[if_pos h];split
 ·exact .inl rfl
 ·exact .inr rfl
theorem c21 (tag:Int){l:List Pt}{t:Rt}(ht:In64 t):Ans D 21 [.v (.int .u8 tag),F l,R t] (newR tag l t):=by
 have hk:=fun(c:Choice) (e:Int)=>phi (c65 c e);have n2:decide ((2:Int)=0)=false:=rfl;refine ans_of (hl:=nT) Hs s21 rfl ⟨1,?_⟩;unfold k21;simp only[den_lt,shapeF,shapeR,u8E,EV,decide_eq_true_eq];by_cases t1:tag=1
 ·subst t1;rw[if_pos rfl];simp only[den_lt,EV,phi (Qn (l:=l) ht),shKH,kh0,kh1,kh2,kh3,kh4,kh5,kh6,kh7,kh8,kh9,sQ,kh11];unfold ic;simp only[EV,decide_eq_true_eq];by_cases hb:bE l t=0
  ·rw[if_pos hb];have hE:newE l t=asked t:=if_pos hb;simp only[den_lt,EV,phi (c64 ht)];unfold dw;simp only[EV];rcases asked_two (bE_ok hb).2 with h|h
   ·simp only[h,decide_true,Bool.not_true,Bool.false_eq_true,if_false];unfold bV;simp only[den_lt,EV,nP,hk,shCH,hb];rw[h] at hE;rw[show newR 1 l t=[CHO (aD (aG 1 l t) (newE l t)),.i64 (newE l t)] from rfl,hE];rfl
   ·simp only[h,n2,Bool.not_false,if_true];unfold bV;simp only[den_lt,EV,nP,hk,shCH];rw[h] at hE;rw[show newR 1 l t=[CHO (aD (aG 1 l t) (newE l t)),.i64 (newE l t)] from rfl,hE];rfl
  ·rw[if_neg hb];have hE:newE l t=bE l t:=if_neg hb;unfold dw;simp only[EV,Bool.false_eq_true,if_false];unfold bV;simp only[den_lt,EV,nP,hk,shCH];rw[show newR 1 l t=[CHO (aD (aG 1 l t) (newE l t)),.i64 (newE l t)] from rfl,hE];rfl
 by_cases t2:tag=2
 ·subst t2;rw[if_neg (by decide),if_pos rfl];simp only[den_lt,EV,phi (Qo (l:=l) ht),shKT,kt0,kt1,kt2,kt3,kt4,kt5,kt6,kt7,kt8,kt9,I7,I8,I9,jA];unfold ic;simp only[EV,decide_eq_true_eq];by_cases hb:bE l t=0
  ·rw[if_pos hb];have hE:newE l t=asked t:=if_pos hb;simp only[den_lt,EV,phi (c64 ht)];unfold dw;simp only[EV];rcases asked_two (bE_ok hb).2 with h|h
   ·simp only[h,decide_true,Bool.not_true,Bool.false_eq_true,if_false];unfold bV;simp only[den_lt,EV,nQ,hk,shCH,hb];rw[h] at hE;rw[show newR 2 l t=[CHO (aD (aG 2 l t) (newE l t)),.i64 (newE l t)] from rfl,hE];rfl
   ·simp only[h,n2,Bool.not_false,if_true];unfold bV;simp only[den_lt,EV,nQ,hk,shCH];rw[h] at hE;rw[show newR 2 l t=[CHO (aD (aG 2 l t) (newE l t)),.i64 (newE l t)] from rfl,hE];rfl
  ·rw[if_neg hb];have hE:newE l t=bE l t:=if_neg hb;unfold dw;simp only[EV,Bool.false_eq_true,if_false];unfold bV;simp only[den_lt,EV,nQ,hk,shCH];rw[show newR 2 l t=[CHO (aD (aG 2 l t) (newE l t)),.i64 (newE l t)] from rfl,hE];rfl
 by_cases t3:tag=3
 ·subst t3;rw[if_neg (by decide),if_neg (by decide),if_pos rfl];simp only[den_lt,EV,phi (Qp (l:=l) ht),shHT,ht0,ht1,ht2,ht3,ht4,ht5,ht6,ht7,ht8,ht9,Ja,ht11,BH,my,jA];unfold ic;simp only[EV,decide_eq_true_eq];by_cases hb:bE l t=0
  ·rw[if_pos hb];have hE:newE l t=asked t:=if_pos hb;simp only[den_lt,EV,phi (c64 ht)];unfold dw;simp only[EV];rcases asked_two (bE_ok hb).2 with h|h
   ·simp only[h,decide_true,Bool.not_true,Bool.false_eq_true,if_false];unfold bV;simp only[den_lt,EV,nR,hk,shCH,hb];rw[h] at hE;rw[show newR 3 l t=[CHO (aD (aG 3 l t) (newE l t)),.i64 (newE l t)] from rfl,hE];rfl
   ·simp only[h,n2,Bool.not_false,if_true];unfold bV;simp only[den_lt,EV,nR,hk,shCH];rw[h] at hE;rw[show newR 3 l t=[CHO (aD (aG 3 l t) (newE l t)),.i64 (newE l t)] from rfl,hE];rfl
  ·rw[if_neg hb];have hE:newE l t=bE l t:=if_neg hb;unfold dw;simp only[EV,Bool.false_eq_true,if_false];unfold bV;simp only[den_lt,EV,nR,hk,shCH];rw[show newR 3 l t=[CHO (aD (aG 3 l t) (newE l t)),.i64 (newE l t)] from rfl,hE];rfl
 by_cases t4:tag=4
 ·subst t4;rw[if_neg (by decide),if_neg (by decide),if_neg (by decide),if_pos rfl];simp only[den_lt,EV,phi (Qq (l:=l) ht),shKH,kh0,kh1,kh2,kh3,kh4,kh5,kh6,kh7,kh8,kh9,sQ,kh11,sW,my,jA];unfold ic;simp only[EV,decide_eq_true_eq];by_cases hb:bE l t=0
  ·rw[if_pos hb];have hE:newE l t=asked t:=if_pos hb;simp only[den_lt,EV,phi (c64 ht)];unfold dw;simp only[EV];rcases asked_two (bE_ok hb).2 with h|h
   ·simp only[h,decide_true,Bool.not_true,Bool.false_eq_true,if_false];unfold bV;simp only[den_lt,EV,nS,hk,shCH,hb];rw[h] at hE;rw[show newR 4 l t=[CHO (aD (aG 4 l t) (newE l t)),.i64 (newE l t)] from rfl,hE];rfl
   ·simp only[h,n2,Bool.not_false,if_true];unfold bV;simp only[den_lt,EV,nS,hk,shCH];rw[h] at hE;rw[show newR 4 l t=[CHO (aD (aG 4 l t) (newE l t)),.i64 (newE l t)] from rfl,hE];rfl
  ·rw[if_neg hb];have hE:newE l t=bE l t:=if_neg hb;unfold dw;simp only[EV,Bool.false_eq_true,if_false];unfold bV;simp only[den_lt,EV,nS,hk,shCH];rw[show newR 4 l t=[CHO (aD (aG 4 l t) (newE l t)),.i64 (newE l t)] from rfl,hE];rfl
 rw[if_neg t1,if_neg t2,if_neg t3,if_neg t4];simp only[EV,sW,my,jA];unfold ic;simp only[EV,n2,Bool.false_eq_true,if_false];unfold dw;simp only[EV,Bool.false_eq_true,if_false];unfold bV;simp only[den_lt,EV,sR,hk,shCH];unfold newR;rw[if_neg (by omega)];rfl
def hdV (l:List Int):Int:=(l[0]?).getD 0
def hdE (l:List Int):Int:=if l=[] then 42 else 0
theorem cI {l:List Int}{x:Int}(h:l[0]?=some x):hdV l=x∧hdE l=0:=by
 unfold hdV hdE;rw[h,if_neg (fun e=>by rw[e] at h;simp at h)];exact⟨rfl,rfl⟩
theorem nU {l:List Int}{x:Int}(h:l[0]?=some x):RF.ev (.tix 1) [sl I1 l,.v (.int .i64 0)]=some (.i64 0)∧RF.ev (.elt 0 0) [sl I1 l,.v (.int .i64 0)]=some (.i64 x):=by
 have a:RF.ev (.tix 1) [sl I1 l,.v (.int .i64 ((0:Nat):Int))]=some (.i64 ((0:Nat):Int)):=tixM h (lenI _);have b:RF.ev (.elt 0 0) [sl I1 l,.v (.int .i64 ((0:Nat):Int))]=rowPart 0 0 (I1 x):=eltM h;exact⟨a,b.trans (rowI x)⟩
theorem dh:okE true=0:=rfl
section
variable (k:KTourn)(h:Heater)(c:KHeap)
theorem K9:RF.ev (.part 2 1) [KT k]=some (F k.clock.pts):=rfl
theorem La:RF.ev (.part 0 2) [KT k]=some (R k.clock.now):=rfl
theorem Lb:RF.ev (.part 2 1) [HT h]=some (F h.clock.pts):=rfl
theorem Lc:RF.ev (.part 0 2) [HT h]=some (R h.clock.now):=rfl
theorem Lf:RF.ev (.part 2 1) [KH c]=some (F c.clock.pts):=rfl
theorem Lg:RF.ev (.part 0 2) [KH c]=some (R c.clock.now):=rfl
end
theorem len_zero {α:Type}(l:List α):decide ((l.length:Int)=0)=decide (l.length=0):=decide_eq_decide.2 (by omega)
open Classical in
theorem c68 {k:KHeap}(h:bj k)(h64:aE k.clock)(hg:gKh k=false):Ans D 68 [KH k] [.i64 (hdV k.heap),.i64 (hdE k.heap)]:=by
 have m:=phi (c77 h64 hg);rw[decide_eq_true h,dh] at m;refine ans_of k68_ok s68 rfl ⟨1,?_⟩;unfold k68;simp only[den_lt,shKH,m,kh11,EV,decide_true,Bool.not_true,Bool.false_eq_true,if_false,List.length_map,len_zero,decide_eq_true_eq];cases e:k.heap with
 |nil=>rfl
 |cons x xs=>
  have h0:(x::xs)[0]?=some x:=rfl;obtain⟨a,b⟩:=cI h0;obtain⟨p,q⟩:=nU h0;rw[if_neg (by simp)];simp only[kh11,e,p,q,EV,a,b,den_lt]
open Classical in
theorem c72 {k:KHeap}(h:bj k)(h64:aE k.clock)(hg:gKh k=false):Ans D 72 [KH k] [.i64 (hdV k.heap),.i64 (hdE k.heap)]:=by
 have m:=phi (c81 h64 hg);rw[decide_eq_true h,dh] at m;refine ans_of k72_ok s72 rfl ⟨1,?_⟩;unfold k72;simp only[den_lt,shKH,m,kh11,EV,decide_true,Bool.not_true,Bool.false_eq_true,if_false,List.length_map,len_zero,decide_eq_true_eq];cases e:k.heap with
 |nil=>rfl
 |cons x xs=>
  have h0:(x::xs)[0]?=some x:=rfl;obtain⟨a,b⟩:=cI h0;obtain⟨p,q⟩:=nU h0;rw[if_neg (by simp)];simp only[kh11,e,p,q,EV,a,b,den_lt]
def ordC (c:Clock):List Int:=(be c.now c.pts).map Pt.id
theorem dQ {c:Clock}(h:c.pts=[]):ordC c=[]:=by unfold ordC;rw[h];exact xV
theorem iY {c:Clock}(h:c.pts≠[]): ∃x,(ordC c)[0]?=some x:=by
 unfold ordC;have:=(aJ c.now c.pts).length_eq;have hp:=List.length_pos_iff.2 h;exact⟨_,List.getElem?_eq_getElem (by rw[List.length_map];omega)⟩
open Classical in
theorem c150 {k:KTourn}(h:az k)(hg:gKt k=false):Ans D 150 [BR k.brk] [.i64 (hdV (ordC k.clock)),.i64 (hdE (ordC k.clock))]:=by
 obtain⟨_,g1,g2⟩:=eR hg;have m:=phi (IO g1 g2);rw[decide_eq_true h.2.1,dh] at m;have h0:=h.2.1.1.1;have m2:=phi (ny (b:=k.brk) (i:=0) (by omega) (by omega));have m2:PhiS D 242 [BR k.brk,.v (.int .i64 0)]=some [.i64 (nodeV k.brk.wins k.brk.places 0)]:=m2;refine ans_of Ef Mg rfl ⟨1,?_⟩;unfold tV;simp only[den_lt,shBR,m,m2,EV,decide_true,Bool.not_true,Bool.false_eq_true,if_false,decide_eq_true_eq,ge_iff_le];rcases tourn_lead h with⟨e,v⟩|⟨_,v,w⟩
 ·rw[v,if_neg (by omega),dQ e];rfl
 ·obtain⟨a,b⟩:=cI w;rw[if_pos v];unfold ordC;rw[a,b]
open Classical in
theorem c69 {k:KTourn}(h:az k)(h64:aE k.clock)(hg:gKt k=false):Ans D 69 [KT k] [.i64 (hdV (ordC k.clock)),.i64 (hdE (ordC k.clock))]:=by
 have m:=phi (c78 h64 hg);rw[decide_eq_true h,dh] at m;refine ans_of k69_ok s69 rfl ⟨1,?_⟩;unfold k69;simp only[den_lt,shKT,m,pKTb,EV,decide_true,Bool.not_true,Bool.false_eq_true,if_false,phi (c150 h hg)]
open Classical in
theorem c73 {k:KTourn}(h:az k)(h64:aE k.clock)(hg:gKt k=false):Ans D 73 [KT k] [.i64 (hdV (ordC k.clock)),.i64 (hdE (ordC k.clock))]:=by
 have m:=phi (c82 h64 hg);rw[decide_eq_true h,dh] at m;have m2:=phi (sF h.1.2.1 h64.1);refine ans_of HS s73 rfl ⟨1,?_⟩;unfold k73;simp only[den_lt,shKT,m,kt2,EV,decide_true,Bool.not_true,Bool.false_eq_true,if_false,List.length_map,len_zero,decide_eq_true_eq];by_cases e:k.clock.pts=[]
 ·rw[if_pos (by rw[e];rfl),dQ e];rfl
 ·obtain⟨x,hx⟩:=iY e;obtain⟨a,b⟩:=cI hx;obtain⟨p,q⟩:=nU hx;rw[if_neg (fun c=>e (List.length_eq_zero_iff.1 c))];have m2:PhiS D 152 [F k.clock.pts,R k.clock.now]=some [sl I1 (ordC k.clock)]:=m2;simp only[den_lt,K9,La,m2,p,q,EV,a,b]
open Classical in
theorem c70 {k:Heater}(h:bK k)(h64:aE k.clock)(hg:gHt k=false):Ans D 70 [HT k] [.i64 (hdV (ordC k.clock)),.i64 (hdE (ordC k.clock))]:=by
 have m:=phi (c79 h64 hg);rw[decide_eq_true h,dh] at m;refine ans_of k70_ok s70 rfl ⟨1,?_⟩;unfold k70;simp only[den_lt,shHT,m,ht11,EV,decide_true,Bool.not_true,Bool.false_eq_true,if_false,decide_eq_true_eq];rw[←h.2.1];by_cases e:k.clock.pts=[]
 ·have:(cart k.clock.now k.clock.pts).root= -1:=by rw[e];exact xY
  rw[if_pos (by rw[this];decide),dQ e];rfl
 ·obtain⟨j,n,e1,e2,e3⟩:=xX (t:=k.clock.now) h.1.2.1 e;obtain⟨a,b⟩:=cI e3;rw[e1,if_neg (by omega)];have hn:k.tree.nodes[j]?=some n:=by rw[←h.2.1];exact e2
  have hr:k.tree.root=(j:Int):=by rw[←h.2.1];exact e1
  simp only[den_lt,ht11,BH,hr,tixM hn (lenN _),eltM hn,rowN0,EV];unfold ordC;rw[a,b]
open Classical in
theorem c74 {k:Heater}(h:bK k)(h64:aE k.clock)(hg:gHt k=false):Ans D 74 [HT k] [.i64 (hdV (ordC k.clock)),.i64 (hdE (ordC k.clock))]:=by
 have m:=phi (c83 h64 hg);rw[decide_eq_true h,dh] at m;have m2:=phi (sF h.1.2.1 h64.1);refine ans_of HU s74 rfl ⟨1,?_⟩;unfold k74;simp only[den_lt,shHT,m,ht2,EV,decide_true,Bool.not_true,Bool.false_eq_true,if_false,List.length_map,len_zero,decide_eq_true_eq];by_cases e:k.clock.pts=[]
 ·rw[if_pos (by rw[e];rfl),dQ e];rfl
 ·obtain⟨x,hx⟩:=iY e;obtain⟨a,b⟩:=cI hx;obtain⟨p,q⟩:=nU hx;rw[if_neg (fun c=>e (List.length_eq_zero_iff.1 c))];have m2:PhiS D 152 [F k.clock.pts,R k.clock.now]=some [sl I1 (ordC k.clock)]:=m2;simp only[den_lt,Lb,Lc,m2,p,q,EV,a,b]
open Classical in
theorem c71 {k:KHeap}(h:bJ k)(h64:aE k.clock)(hg:gKh k=false):Ans D 71 [KH k] [.i64 (hdV (ordC k.clock)),.i64 (hdE (ordC k.clock))]:=by
 have m:=phi (c80 h64 hg);rw[decide_eq_true h,dh] at m;have hl:=(dY hg).2;refine ans_of HR s71 rfl ⟨1,?_⟩;unfold k71;simp only[den_lt,shKH,m,kh11,phi (ID (l:=k.heap) (-1) (by omega)),EV,decide_true,Bool.not_true,Bool.false_eq_true,if_false,decide_eq_true_eq];rw[←h.2.1];by_cases e:k.clock.pts=[]
 ·have:cL (fun y=>decide (-1=y)) (ax k.clock.now k.clock.pts)= -1:=by rw[e];rfl
  rw[this,if_pos (by decide),dQ e];rfl
 ·obtain⟨j,p,e1,e2,e3⟩:=xW (t:=k.clock.now) h.1.2.1 e;obtain⟨a,b⟩:=cI e3;rw[e2,if_neg (by omega)];simp only[den_lt,kh2,tixM e1 (row_len _),eltM e1,cM,EV];unfold ordC;rw[a,b]
open Classical in
theorem c75 {k:KHeap}(h:bJ k)(h64:aE k.clock)(hg:gKh k=false):Ans D 75 [KH k] [.i64 (hdV (ordC k.clock)),.i64 (hdE (ordC k.clock))]:=by
 have m:=phi (c84 h64 hg);rw[decide_eq_true h,dh] at m;have m2:=phi (sF h.1.2.1 h64.1);have hlen:k.heap.length=k.clock.pts.length:=by rw[←h.2.1];exact cF _ _
 refine ans_of HV s75 rfl ⟨1,?_⟩;unfold k75;simp only[den_lt,shKH,m,kh11,EV,decide_true,Bool.not_true,Bool.false_eq_true,if_false,List.length_map,len_zero,decide_eq_true_eq,hlen];by_cases e:k.clock.pts=[]
 ·rw[if_pos (by rw[e];rfl),dQ e];rfl
 ·obtain⟨x,hx⟩:=iY e;obtain⟨a,b⟩:=cI hx;obtain⟨p,q⟩:=nU hx;rw[if_neg (fun c=>e (List.length_eq_zero_iff.1 c))];have m2:PhiS D 152 [F k.clock.pts,R k.clock.now]=some [sl I1 (ordC k.clock)]:=m2;simp only[den_lt,Lf,Lg,m2,p,q,EV,a,b]
theorem nV {c:Choice}(h:ay c):aw (ckOf c):=by
 unfold ay at h;unfold ckOf;by_cases t1:c.tag=1
 ·rw[if_pos t1] at h⊢;exact h.1
 rw[if_neg t1] at h⊢;by_cases t2:c.tag=2
 ·rw[if_pos t2] at h⊢;exact h.1
 rw[if_neg t2] at h⊢;by_cases t3:c.tag=3
 ·rw[if_pos t3] at h⊢;exact h.1
 rw[if_neg t3] at h⊢;by_cases t4:c.tag=4
 ·rw[if_pos t4] at h;exact h.1
 ·rw[if_neg t4] at h;exact h.elim
open Classical in
def dH (c:Choice):Rt×List Pt×Int:=if bU c then((ckOf c).now,(ckOf c).pts,0) else(⟨0,0⟩,[],8)
theorem GD {c:Choice}:(dH c).2.1.length≤1000:=by
 unfold dH;split
 ·rename_i h;have:=(nV h.2.1).2.1.1;simp only;omega
 ·simp
theorem C3:RF.ev .agg [.v (.int .i64 0),.v (.int .i64 0)]=some (R ⟨0,0⟩):=rfl
theorem C4:RF.ev .agg [.sl []]=some (F []):=rfl
theorem pF1 (l:List Pt):RF.ev (.part 0 1) [F l]=some (F l):=rfl
open Classical in
theorem c22 {c:Choice}(h64:Cho64 c)(hg:gCh c=false):Ans D 22 [CHO c] [R (dH c).1,F (dH c).2.1,.i64 (dH c).2.2]:=by
 have m:=phi (c26 h64 hg);refine ans_of Ht s22 rfl ⟨1,?_⟩;unfold k22 dH;by_cases h:bU c
 ·rw[decide_eq_true h,dh] at m;have hl:=(nV h.2.1).2.1.1;simp only[den_lt,shCH,m,EV,decide_true,Bool.not_true,Bool.false_eq_true,if_false,phi (c66 c),shCL,pCL0,cCL2,phi (d67 (l:=(ckOf c).pts) (by omega)),List.length_map,shapeR,pR,subM,Bt,if_pos h]
 ·rw[decide_eq_false h] at m;have e8:okE false=8:=rfl;rw[e8] at m;have n8:decide ((8:Int)=0)=false:=rfl;simp only[den_lt,shCH,m,EV,n8,Bool.not_false,if_true,C3,C4,if_neg h]
open Classical in
theorem c23 {c:Choice}(h64:Cho64 c)(hg:gCh c=false):Ans D 23 [CHO c] [R (dH c).1,F (dH c).2.1,.i64 (dH c).2.2]:=by
 have m:=phi (c27 h64 hg);refine ans_of Hu s23 rfl ⟨1,?_⟩;unfold k23 dH;by_cases h:bU c
 ·rw[decide_eq_true h,dh] at m;simp only[den_lt,shCH,m,EV,decide_true,Bool.not_true,Bool.false_eq_true,if_false,phi (c13 c),pCL0,pCL2,shapeR,shapeF,pR,pF1,if_pos h]
 ·rw[decide_eq_false h] at m;have e8:okE false=8:=rfl;rw[e8] at m;have n8:decide ((8:Int)=0)=false:=rfl;simp only[den_lt,shCH,m,EV,n8,Bool.not_false,if_true,C3,C4,if_neg h]
def idsOf (c:Choice):List Int:=if c.tag=1 then c.heap.heap else ordC (ckOf c)
open Classical in
def ib (c:Choice):Int×Int:=if bU c then(hdV (idsOf c),hdE (idsOf c)) else(0,8)
open Classical in
theorem c24 {c:Choice}(h64:Cho64 c)(hg:gCh c=false):Ans D 24 [CHO c] [.i64 (ib c).1,.i64 (ib c).2]:=by
 obtain⟨g1,g2,g3,g4⟩:=gV hg;have m:=phi (c26 h64 hg);refine ans_of Hv s24 rfl ⟨1,?_⟩;unfold k24 ib;by_cases h:bU c
 ·rw[decide_eq_true h,dh] at m;have hp:=h.2.1;unfold ay at hp;rw[if_pos h];unfold idsOf ckOf;simp only[den_lt,shCH,m,EV,decide_true,Bool.not_true,Bool.false_eq_true,if_false,cCH,u8E,decide_eq_true_eq];by_cases t1:c.tag=1
  ·rw[if_pos t1] at hp;simp only[if_pos t1,den_lt,pCH1,phi (c68 hp h64.h1 g1),EV]
  rw[if_neg t1] at hp⊢;simp only[den_lt,cCH,u8E,EV,decide_eq_true_eq,if_neg t1];by_cases t2:c.tag=2
  ·rw[if_pos t2] at hp;simp only[if_pos t2,den_lt,pCH2,phi (c69 hp h64.h2 g2),EV]
  rw[if_neg t2] at hp⊢;simp only[den_lt,cCH,u8E,EV,decide_eq_true_eq,if_neg t2];by_cases t3:c.tag=3
  ·rw[if_pos t3] at hp;simp only[if_pos t3,den_lt,pCH3,phi (c70 hp h64.h3 g3),EV]
  rw[if_neg t3] at hp⊢;by_cases t4:c.tag=4
  ·rw[if_pos t4] at hp;simp only[if_neg t3,den_lt,pCH4,phi (c71 hp h64.h4 g4),EV]
  ·rw[if_neg t4] at hp;exact hp.elim
 ·rw[decide_eq_false h] at m;have e8:okE false=8:=rfl;rw[e8] at m;have n8:decide ((8:Int)=0)=false:=rfl;simp only[den_lt,shCH,m,EV,n8,Bool.not_false,if_true,if_neg h]
open Classical in
theorem c25 {c:Choice}(h64:Cho64 c)(hg:gCh c=false):Ans D 25 [CHO c] [.i64 (ib c).1,.i64 (ib c).2]:=by
 obtain⟨g1,g2,g3,g4⟩:=gV hg;have m:=phi (c27 h64 hg);refine ans_of Hw s25 rfl ⟨1,?_⟩;unfold k25 ib;by_cases h:bU c
 ·rw[decide_eq_true h,dh] at m;have hp:=h.2.1;unfold ay at hp;rw[if_pos h];unfold idsOf ckOf;simp only[den_lt,shCH,m,EV,decide_true,Bool.not_true,Bool.false_eq_true,if_false,cCH,u8E,decide_eq_true_eq];by_cases t1:c.tag=1
  ·rw[if_pos t1] at hp;simp only[if_pos t1,den_lt,pCH1,phi (c72 hp h64.h1 g1),EV]
  rw[if_neg t1] at hp⊢;simp only[den_lt,cCH,u8E,EV,decide_eq_true_eq,if_neg t1];by_cases t2:c.tag=2
  ·rw[if_pos t2] at hp;simp only[if_pos t2,den_lt,pCH2,phi (c73 hp h64.h2 g2),EV]
  rw[if_neg t2] at hp⊢;simp only[den_lt,cCH,u8E,EV,decide_eq_true_eq,if_neg t2];by_cases t3:c.tag=3
  ·rw[if_pos t3] at hp;simp only[if_pos t3,den_lt,pCH3,phi (c74 hp h64.h3 g3),EV]
  rw[if_neg t3] at hp⊢;by_cases t4:c.tag=4
  ·rw[if_pos t4] at hp;simp only[if_neg t3,den_lt,pCH4,phi (c75 hp h64.h4 g4),EV]
  ·rw[if_neg t4] at hp;exact hp.elim
 ·rw[decide_eq_false h] at m;have e8:okE false=8:=rfl;rw[e8] at m;have n8:decide ((8:Int)=0)=false:=rfl;simp only[den_lt,shCH,m,EV,n8,Bool.not_false,if_true,if_neg h]
structure ChW (c:Choice):Prop where
 h1:gW c.heap.clock∧c.heap.heap.length≤1000
 h2:gW c.tourn.clock∧c.tourn.brk.places.length≤1000∧c.tourn.brk.wins.length≤1000
 h3:gW c.heater.clock∧c.heater.tree.nodes.length≤1000
 h4:gW c.hanger.clock∧c.hanger.heap.length≤1000
theorem cp:gW zC:=⟨by decide,by decide,by decide,rfl⟩
theorem C5:ChW zCH:=⟨⟨cp,by decide⟩,⟨cp,by decide,by decide⟩,⟨cp,by decide⟩,⟨cp,by decide⟩⟩
theorem mu {l:List Pt}{t:Rt}{es:List Crt}(hl:okF l)(ht:In64 t)(hr:rok t=true)(hE:EdgOk l es):gW (certAll (newC l t) es):=by
 have:=hG hE hl ht hr es.length (Nat.le_refl _);rw[List.take_length] at this;exact gW_of this.fresh.ok
theorem made_w {tag:Int}{l:List Pt}{t:Rt}(ht:In64 t)(hb:bE l t=0):ChW (aG tag l t):=by
 obtain⟨hl,hr⟩:=bE_ok hb;have h64:=hl.1;obtain⟨f0,f1,f2⟩:=dL hl;unfold aG hY eS hZ ia;simp only[if_pos hb];split
 ·refine⟨⟨mu hl ht hr (iU hl gq),?_⟩,⟨cp,Nat.zero_le _,Nat.zero_le _⟩,⟨cp,Nat.zero_le _⟩,⟨cp,Nat.zero_le _⟩⟩;show(heapB t l l.length).length≤1000
  rw[cH (Nat.le_refl _)];omega
 split
 ·refine⟨⟨cp,Nat.zero_le _⟩,⟨mu hl ht hr (gt hl f1 f2 bm (bP hl)),?_,?_⟩,⟨cp,Nat.zero_le _⟩,⟨cp,Nat.zero_le _⟩⟩
  ·show(firstP l).length≤1000;omega
  ·have:=(fI (t:=t) hl f1 f2 bm (bP hl)).1;show(ad t l (firstP l)).wins.length≤1000
   omega
 split
 ·refine⟨⟨cp,Nat.zero_le _⟩,⟨cp,Nat.zero_le _,Nat.zero_le _⟩,⟨mu hl ht hr (iW hl),?_⟩,⟨cp,Nat.zero_le _⟩⟩;show(cart t l).nodes.length≤1000
  rw[cy hl];omega
 ·refine⟨⟨cp,Nat.zero_le _⟩,⟨cp,Nat.zero_le _,Nat.zero_le _⟩,⟨cp,Nat.zero_le _⟩,⟨mu hl ht hr (iV hl),?_⟩⟩;show(ax t l).length≤1000
  rw[cF];omega
theorem GE {tag:Int}{l:List Pt}{t:Rt}(ht:In64 t): ∃(a:Choice) (e:Int),newR tag l t=[CHO a,.i64 e]∧ChW a:=by
 unfold newR;split
 ·refine⟨_,_,rfl,?_⟩;unfold aD;split
  ·rename_i h;unfold newE at h;split at h
   ·rename_i hb;exact made_w ht hb
   ·rename_i hb;exact absurd h hb
  ·exact C5
 ·exact⟨_,_,rfl,C5⟩
theorem c17 {a:Choice}(h:ChW a):Ans D 17 [CHO a,CHO a] [.bool true]:=by
 have m1:=phi (Iq (t:=a.heap) h.h1);have m2:=phi (c52w (t:=a.tourn) h.h2);have m3:=phi (c53w (t:=a.heater) h.h3);have m4:=phi (Ir (t:=a.hanger) h.h4);rw[decide_eq_true rfl] at m1 m2 m3 m4;refine ans_of k17_ok s17 rfl ⟨1,?_⟩;unfold k17;simp only[den_lt,shCH,cCH,u8E,pCH1,pCH2,pCH3,pCH4,m1,m2,m3,m4,EV,decide_true,if_true,k17_1]
open Classical in
theorem sU (tag:Int)(l:List Pt){t:Rt}(ht:In64 t){c:Choice}(h64:Cho64 c):Ans D 5 [.v (.int .u8 tag),F l,R t,CHO c] [.bool true]:=by
 refine ans_of KJ s5 rfl ⟨1,?_⟩;unfold k5;have g1:=phi (c19 l);have g2:=phi (c7 c);cases hf:gF l with
 |true=>
  rw[hf] at g1;simp only[den_lt,shapeF,shapeR,shCH,EV,g1,if_true]
 |false=>
  rw[hf] at g1;cases hg:gCh c with
  |true=>
   rw[hg] at g2;simp only[den_lt,shapeF,shapeR,shCH,EV,g1,g2,Bool.false_eq_true,if_false,if_true]
  |false=>
   rw[hg] at g2;obtain⟨a,e,he,hw⟩:=GE (tag:=tag) (l:=l) ht;have m1:=phi (c20 tag (l:=l) ht);have m2:=phi (c21 tag (l:=l) ht);rw[he] at m1 m2;have m3:=phi (c28 (l:=(dH c).2.1) (k:=(dH c).2.1) GD);rw[decide_eq_true rfl] at m3;simp only[den_lt,shapeF,shapeR,shCH,EV,g1,g2,Bool.false_eq_true,if_false,if_true,m1,m2,phi (c22 h64 hg),phi (c23 h64 hg),phi (c24 h64 hg),phi (c25 h64 hg),phi (c26 h64 hg),phi (c27 h64 hg),phi (c17 hw),m3,eqvR,decide_true,k5_1]
end Go.Proofs.YtfghdmmapmdcgaaGreat
