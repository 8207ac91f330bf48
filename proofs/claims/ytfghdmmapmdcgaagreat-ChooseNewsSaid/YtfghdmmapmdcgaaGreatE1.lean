import Derived.Test.YtfghdmmapmdcgaaGreatC3
import Derived.Test.YtfghdmmapmdcgaaGreatC1
import Derived.Test.YtfghdmmapmdcgaaGreatP1
set_option linter.unusedVariables false
set_option linter.unusedSimpArgs false
set_option linter.defProp false
noncomputable section
namespace Go.Proofs.YtfghdmmapmdcgaaGreat
open Go.Sym Bnd
set_option maxRecDepth 100000
theorem d67 {l:List Pt}(hl:l.length≤1000):Ans D 67 [sl row l] [sl row l]:=by
 refine ans_of HQ s67 rfl ⟨1,?_⟩;unfold k67;simp only[EV,List.length_map,decide_eq_true_eq];have h1:den (PhiS D) 1 tg [] [sl row l,.i64 (l.length:Int),.bool (decide ((l.length:Int)=0))]=some [sl row l]:=by
  unfold tg;simp only[den_lt,EV,appC (l:=l) (f:=row) (bytes:=24) (z:=3) (by omega) row_len,List.length_map,subM]
 by_cases h:(l.length:Int)=0
 ·have:l=[]:=List.eq_nil_of_length_eq_zero (by omega);subst this;rw[if_pos h];exact dp rfl h1
 ·rw[if_neg h];exact h1
theorem Bq {l:List Held}(hl:l.length≤1000):Ans D 291 [sl hrow l] [sl hrow l]:=by
 refine ans_of Fx Nt rfl ⟨1,?_⟩;unfold vE;simp only[EV,List.length_map,decide_eq_true_eq];have h1:den (PhiS D) 1 pK [] [sl hrow l,.i64 (l.length:Int),.bool (decide ((l.length:Int)=0))]=some [sl hrow l]:=by
  unfold pK;simp only[den_lt,EV,appC (l:=l) (f:=hrow) (bytes:=24) (z:=3) (by omega) lenH,List.length_map,subM]
 by_cases h:(l.length:Int)=0
 ·have:l=[]:=List.eq_nil_of_length_eq_zero (by omega);subst this;rw[if_pos h];exact dp rfl h1
 ·rw[if_neg h];exact h1
theorem IU {l:List Due}(hl:l.length≤1000):Ans D 292 [sl am l] [sl am l]:=by
 refine ans_of Fy Nu rfl ⟨1,?_⟩;unfold vF;simp only[EV,List.length_map,decide_eq_true_eq];have h1:den (PhiS D) 1 pL [] [sl am l,.i64 (l.length:Int),.bool (decide ((l.length:Int)=0))]=some [sl am l]:=by
  unfold pL;simp only[den_lt,EV,appC (l:=l) (f:=am) (bytes:=24) (z:=3) (by omega) iQ,List.length_map,subM]
 by_cases h:(l.length:Int)=0
 ·have:l=[]:=List.eq_nil_of_length_eq_zero (by omega);subst this;rw[if_pos h];exact dp rfl h1
 ·rw[if_neg h];exact h1
theorem Br {l:List Evt}(hl:l.length≤1000):Ans D 293 [sl erow l] [sl erow l]:=by
 refine ans_of Fz Nv rfl ⟨1,?_⟩;unfold vG;simp only[EV,List.length_map,decide_eq_true_eq];have h1:den (PhiS D) 1 pM [] [sl erow l,.i64 (l.length:Int),.bool (decide ((l.length:Int)=0))]=some [sl erow l]:=by
  unfold pM;simp only[den_lt,EV,appC (l:=l) (f:=erow) (bytes:=40) (z:=5) (by omega) lenE,List.length_map,subM]
 by_cases h:(l.length:Int)=0
 ·have:l=[]:=List.eq_nil_of_length_eq_zero (by omega);subst this;rw[if_pos h];exact dp rfl h1
 ·rw[if_neg h];exact h1
theorem PK {l:List Int}(hl:l.length≤1000):Ans D 422 [sl I1 l] [sl I1 l]:=by
 refine ans_of Gm Og rfl ⟨1,?_⟩;unfold wH;simp only[EV,List.length_map,decide_eq_true_eq];have h1:den (PhiS D) 1 qh [] [sl I1 l,.i64 (l.length:Int),.bool (decide ((l.length:Int)=0))]=some [sl I1 l]:=by
  unfold qh;simp only[den_lt,EV,appC (l:=l) (f:=I1) (bytes:=8) (z:=1) (by omega) lenI,List.length_map,subM]
 by_cases h:(l.length:Int)=0
 ·have:l=[]:=List.eq_nil_of_length_eq_zero (by omega);subst this;rw[if_pos h];exact dp rfl h1
 ·rw[if_neg h];exact h1
structure SSm (s:Slots):Prop where
 uses:s.uses.length≤1000
 used:s.used.length≤1000
 free:s.free.length≤1000
structure ASm (a:Agenda):Prop where
 slots:SSm a.slots
 heap:a.heap.length≤1000
 wher:a.wher.length≤1000
structure CSm (c:Clock):Prop where
 pts:c.pts.length≤1000
 certs:c.certs.list.length≤1000
 agenda:ASm c.agenda
 due:c.due.length≤1000
theorem Bt (l:List Pt):RF.ev .agg [sl row l]=some (F l):=rfl
theorem IV {l:List Pt}(hl:l.length≤1000):Ans D 207 [F l] [F l]:=by
 refine ans_of EG MG rfl ⟨1,?_⟩;unfold uB;simp only[den_lt,shapeF,cellF,appC (l:=l) (f:=row) (bytes:=24) (z:=3) (by omega) row_len,EV,List.length_map,subM,Bt]
theorem CV (c:Certs):RF.ev .agg [.i64 c.next,sl hrow c.list]=some (CS c):=rfl
theorem IW {c:Certs}(hl:c.list.length≤1000):Ans D 208 [CS c] [CS c]:=by
 refine ans_of EH MH rfl ⟨1,?_⟩;unfold uC;simp only[den_lt,shCS,cCS0,cCS1,appC (l:=c.list) (f:=hrow) (bytes:=24) (z:=3) (by omega) lenH,EV,List.length_map,subM,CV]
theorem aggSL (s:Slots):RF.ev .agg [sl I1 s.uses,sl B1 s.used,sl I1 s.free]=some (SL s):=rfl
theorem c286 {s:Slots}(h:SSm s):Ans D 286 [SL s] [SL s]:=by
 obtain⟨h1,h2,h3⟩:=h;refine ans_of Ft Np rfl ⟨1,?_⟩;unfold vA;simp only[den_lt,shSL,cSL0,cSL1,cSL2,appC (l:=s.uses) (f:=I1) (bytes:=8) (z:=1) (by omega) lenI,appC (l:=s.free) (f:=I1) (bytes:=8) (z:=1) (by omega) lenI,appC (l:=s.used) (f:=B1) (bytes:=1) (z:=1) (by omega) eG,EV,List.length_map,subM,aggSL]
theorem c413 {s:Slots}(h:SSm s):Ans D 413 [SL s] [SL s]:=by
 obtain⟨h1,h2,h3⟩:=h;refine ans_of Gj Od rfl ⟨1,?_⟩;unfold wE;simp only[den_lt,shSL,cSL0,cSL1,cSL2,phi (eJ h1),phi (sB h2),EV,List.length_map,subM,aggSL]
theorem CW (a:Agenda):RF.ev .agg [sl I1 a.slots.uses,sl B1 a.slots.used,sl I1 a.slots.free,sl erow a.heap,sl I1 a.wher]=some (AG a):=rfl
theorem PL (a:Agenda):RF.ev (.part 0 3) [AG a]=some (SL a.slots):=rfl
theorem cAG0 (a:Agenda):RF.ev (.cell 0) [AG a]=some (sl I1 a.slots.uses):=rfl
theorem cAG1 (a:Agenda):RF.ev (.cell 1) [AG a]=some (sl B1 a.slots.used):=rfl
theorem cAG2 (a:Agenda):RF.ev (.cell 2) [AG a]=some (sl I1 a.slots.free):=rfl
theorem c209 {a:Agenda}(h:ASm a):Ans D 209 [AG a] [AG a]:=by
 obtain⟨h1,h2,h3⟩:=h;refine ans_of EI MI rfl ⟨1,?_⟩;unfold uD;simp only[den_lt,shAG,PL,phi (c286 h1),shSL,cSL0,cSL1,cSL2,cAG3,cAG4,appC (l:=a.heap) (f:=erow) (bytes:=40) (z:=5) (by omega) lenE,appC (l:=a.wher) (f:=I1) (bytes:=8) (z:=1) (by omega) lenI,EV,List.length_map,subM,CW]
theorem PM {a:Agenda}(h:ASm a):Ans D 378 [AG a] [AG a]:=by
 obtain⟨h1,h2,h3⟩:=h;refine ans_of Ga N5 rfl ⟨1,?_⟩;unfold wv;simp only[den_lt,shAG,cAG0,cAG1,cAG2,cAG3,cAG4,phi (Br h2),phi (eJ h3),EV,List.length_map,subM,CW]
section
variable (c:Clock)
theorem cCL0:RF.ev (.cell 0) [CL c]=some (.i64 c.now.num):=rfl
theorem cCL1:RF.ev (.cell 1) [CL c]=some (.i64 c.now.den):=rfl
theorem kL:RF.ev (.cell 3) [CL c]=some (.i64 c.certs.next):=rfl
theorem cCL5:RF.ev (.cell 5) [CL c]=some (sl I1 c.agenda.slots.uses):=rfl
theorem cCL6:RF.ev (.cell 6) [CL c]=some (sl B1 c.agenda.slots.used):=rfl
theorem cCL7:RF.ev (.cell 7) [CL c]=some (sl I1 c.agenda.slots.free):=rfl
theorem gX:RF.ev .agg [.i64 c.now.num,.i64 c.now.den,sl row c.pts,.i64 c.certs.next,sl hrow c.certs.list,sl I1 c.agenda.slots.uses,sl B1 c.agenda.slots.used,sl I1 c.agenda.slots.free,sl erow c.agenda.heap,sl I1 c.agenda.wher,sl am c.due]=some (CL c):=rfl
theorem IX:RF.ev .agg [R c.now,sl row c.pts,.i64 c.certs.next,sl hrow c.certs.list,sl I1 c.agenda.slots.uses,sl B1 c.agenda.slots.used,sl I1 c.agenda.slots.free,sl erow c.agenda.heap,sl I1 c.agenda.wher,sl am c.due]=some (CL c):=rfl
theorem cR0 (r:Rt):RF.ev (.cell 0) [R r]=some (.i64 r.num):=rfl
theorem cR1 (r:Rt):RF.ev (.cell 1) [R r]=some (.i64 r.den):=rfl
end
theorem c112 {c:Clock}(h:CSm c):Ans D 112 [CL c] [CL c]:=by
 obtain⟨h1,h2,h3,h4⟩:=h;refine ans_of DQ LT rfl ⟨1,?_⟩;unfold tA;simp only[den_lt,shCL,pCL0,pCL2,pCL3,pCL5,cCL10,phi (IV h1),phi (IW h2),phi (c209 h3),shapeF,shapeR,cellF,cR0,cR1,shCS,cCS0,cCS1,shAG,cAG0,cAG1,cAG2,cAG3,cAG4,appC (l:=c.due) (f:=am) (bytes:=24) (z:=3) (by omega) iQ,EV,List.length_map,subM,gX]
theorem c215 {c:Clock}(h:CSm c):Ans D 215 [CL c] [CL c]:=by
 obtain⟨h1,h2,⟨⟨h5,h6,h7⟩,h8,h9⟩,h4⟩:=h;refine ans_of EO MN rfl ⟨1,?_⟩;unfold uI;simp only[den_lt,shCL,cCL0,cCL1,cCL2,kL,cCL4,cCL5,cCL6,cCL7,cCL8,cCL9,cCL10,phi (d67 h1),phi (Bq h2),phi (IU h4),phi (Br h8),phi (eJ h9),phi (eJ h5),phi (eJ h7),phi (sB h6),EV,List.length_map,subM,gX]
theorem PN {c:Clock}(h:CSm c):Ans D 299 [CL c] [CL c]:=by
 obtain⟨h1,h2,⟨⟨h5,h6,h7⟩,h8,h9⟩,h4⟩:=h;refine ans_of FB Ny rfl ⟨1,?_⟩;unfold vI;simp only[den_lt,shCL,pCL0,cCL2,kL,cCL4,cCL5,cCL6,cCL7,cCL8,cCL9,cCL10,phi (d67 h1),phi (Bq h2),phi (IU h4),phi (Br h8),phi (eJ h9),phi (eJ h5),phi (eJ h7),phi (sB h6),EV,List.length_map,subM,IX]
theorem fD {x y:Evt}:evLess x y=true↔crs x.time y.time<0∨(crs x.time y.time=0∧x.number<y.number):=by
 unfold evLess sgn;simp only[Bool.or_eq_true,Bool.and_eq_true,decide_eq_true_eq];constructor
 ·rintro(h|⟨h,k⟩)
  ·left;split at h
   ·assumption
   ·split at h<;>omega
  ·right;refine⟨?_,k⟩
   split at h
   ·omega
   ·split at h
    ·omega
    ·omega
 ·rintro(h|⟨h,k⟩)
  ·left;rw[if_pos h];omega
  ·right;refine⟨?_,k⟩
   rw[if_neg (by omega),if_neg (by omega)]
theorem crs_neg (a b:Rt):crs b a= -crs a b:=by unfold crs;omega
theorem xL {a b c:Rt}(ha:0<a.den)(hb:0<b.den)(hc:0<c.den)(h1:crs a b≤0)(h2:crs b c≤0):crs a c≤0∧(crs a c=0→crs a b=0∧crs b c=0):=by
 have e:crs a c*b.den=crs a b*c.den+crs b c*a.den:=by
  unfold crs;simp only[Int.sub_mul,Int.mul_assoc];rw[Int.mul_comm c.den b.den,Int.mul_comm a.den b.den,Int.mul_comm a.den c.den];omega
 have m1:crs a b*c.den≤0:=Int.mul_nonpos_of_nonpos_of_nonneg h1 (by omega);have m2:crs b c*a.den≤0:=Int.mul_nonpos_of_nonpos_of_nonneg h2 (by omega);constructor
 ·apply Int.not_lt.1;intro h;have:=Int.mul_pos h hb;omega
 ·intro h;rw[h,Int.zero_mul] at e;have z1:crs a b*c.den=0:=by omega
  have z2:crs b c*a.den=0:=by omega
  exact⟨(Int.mul_eq_zero.1 z1).resolve_right (by omega),(Int.mul_eq_zero.1 z2).resolve_right (by omega)⟩
theorem evLess_asymm {x y:Evt}(h:evLess x y=true):evLess y x=false:=by
 cases e:evLess y x with
 |false=>rfl
 |true=>
  rw[fD] at h e;rw[crs_neg x.time y.time] at e;omega
theorem nG {x y z:Evt}(hx:rok x.time=true)(hy:rok y.time=true)(hz:rok z.time=true)(h:evLess x y=true)(k:evLess y z=true):evLess x z=true:=by
 rw[fD] at*;have:=xL (a:=x.time) (b:=y.time) (c:=z.time) (by have:=cC hx;omega) (by have:=cC hy;omega) (by have:=cC hz;omega) (by omega) (by omega);omega
theorem sI {x y z:Evt}(hx:rok x.time=true)(hy:rok y.time=true)(hz:rok z.time=true)(h:evLess x y=false)(k:evLess y z=false):evLess x z=false:=by
 cases e:evLess x z with
 |false=>rfl
 |true=>
  exfalso;have h':¬(evLess x y=true):=by simp[h]
  have k':¬(evLess y z=true):=by simp[k]
  rw[fD] at*;rw[crs_neg z.time x.time] at e;have:=xL (a:=z.time) (b:=y.time) (c:=x.time) (by have:=cC hz;omega) (by have:=cC hy;omega) (by have:=cC hx;omega) (by have:=crs_neg y.time z.time;omega) (by have:=crs_neg x.time y.time;omega);have e1:=crs_neg y.time z.time;have e2:=crs_neg x.time y.time;omega
theorem xM {x p s:Evt}(hx:rok x.time=true)(hp:rok p.time=true)(hs:rok s.time=true)(h:evLess x p=true)(k:evLess s p=false):evLess s x=false:=by
 cases e:evLess s x with
 |false=>rfl
 |true=>rw[nG hs hx hp e h] at k;cases k
structure SFine (s:Slots):Prop where
 n1:1≤s.uses.length
 n2:s.uses.length≤200
 len:s.used.length=s.uses.length
 nd:s.free.Nodup
 rng: ∀x∈s.free,0≤x∧x<(s.uses.length:Int)
 used: ∀i:Nat,i<s.uses.length→s.used[i]?=some (!decide ((i:Int)∈s.free))
 uses: ∀(i:Nat) (u:Int),s.uses[i]?=some u→0≤u∧u≤1000000∧(s.used[i]?=some true→1≤u)
theorem aT {s:Slots}:s.okR↔SFine s:=by
 unfold Slots.okR;constructor
 ·rintro⟨h1,h2,h3,_,l,h5,h6⟩;obtain⟨m1,m2,m3,m4⟩:=b9.1 h5;rw[List.length_replicate] at m3 m4;have hl: ∀i:Nat,i<s.uses.length→l[i]?=some (decide ((i:Int)∈s.free)):=fun i hi=>by
   rw[m4 i hi,List.getElem?_replicate,if_pos hi];by_cases e:(i:Int)∈s.free<;>simp[e]
  have fact: ∀(i:Nat) (u:Int),s.uses[i]?=some u→0≤u∧u≤1000000∧s.used[i]?=some (!decide ((i:Int)∈s.free))∧(s.used[i]?=some true→1≤u):=fun i u hu=>by
   have hi:=(List.getElem?_eq_some_iff.1 hu).1;obtain⟨b,hb⟩: ∃b,s.used[i]?=some b:=⟨s.used[i]'(by omega),List.getElem?_eq_getElem _⟩;obtain⟨q1,q2,q3,q4⟩:=h6 i u b _ hu hb (hl i hi);refine⟨q1,q2,?_,fun h=>?_⟩
   ·rw[hb];cases b<;>cases h:decide ((i:Int)∈s.free)<;>simp_all
   ·rw[hb] at h;cases h;exact Int.not_lt.1 fun hlt=>q4 ⟨rfl,by omega⟩
  refine⟨h1,h2,h3,m2,fun x hx=>?_,fun i hi=>?_,fun i u hu=>?_⟩
  ·obtain⟨g1,g2,_⟩:=m1 x hx;rw[List.length_replicate] at g2;exact⟨g1,g2⟩
  ·exact(fact i _ (List.getElem?_eq_getElem hi)).2.2.1
  ·obtain⟨q1,q2,_,q4⟩:=fact i u hu;exact⟨q1,q2,q4⟩
 ·rintro⟨n1,n2,len,nd,rng,used,uses⟩;refine⟨n1,n2,len,nodup_bound nd rng,(List.range s.uses.length).map fun i:Nat=>decide ((i:Int)∈s.free),?_,fun i u b c hu hb hc=>?_⟩
  ·rw[b9];refine⟨fun x hx=>?_,nd,by simp,fun i hi=>?_⟩
   ·obtain⟨g1,g2⟩:=rng x hx;rw[List.length_replicate];exact⟨g1,g2,by rw[List.getElem?_replicate,if_pos (by omega)]⟩
   ·rw[List.length_replicate] at hi;rw[List.getElem?_map,List.getElem?_range hi,List.getElem?_replicate,if_pos hi];by_cases e:(i:Int)∈s.free<;>simp[e]
  ·have hi:=(List.getElem?_eq_some_iff.1 hu).1;rw[List.getElem?_map,List.getElem?_range hi] at hc;simp only[Option.map_some,Option.some.injEq] at hc;have hu':=used i hi;rw[hb] at hu';simp only[Option.some.injEq] at hu';obtain⟨q1,q2,q3⟩:=uses i u hu;refine⟨q1,q2,?_,fun⟨h1,h2⟩=>?_⟩
   ·rw[←hc,hu'];cases decide ((i:Int)∈s.free)<;>simp
   ·subst h1;have:=q3 hb;omega
def cd (s:Slots)(fr:List Int)(i:Nat)(u:Int):Slots:=⟨s.uses.set i (u+1),s.used.set i true,fr⟩
theorem xN {s:Slots}(h:SFine s){fr:List Int}{i:Nat}{u:Int}(hf:s.free=fr++[(i:Int)])(hu:s.uses[i]?=some u)(hm:u<1000000):SFine (cd s fr i u):=by
 obtain⟨n1,n2,len,nd,rng,used,uses⟩:=h;have hi:=(List.getElem?_eq_some_iff.1 hu).1;rw[hf,List.nodup_append] at nd;obtain⟨nd1,_,nd2⟩:=nd;have hni:(i:Int)∉fr:=fun hm'=>nd2 _ hm' _ (by simp) rfl;unfold cd;refine⟨by simpa using n1,by simpa using n2,by simpa using len,nd1,fun x hx=>?_,fun j hj=>?_,fun j v hv=>?_⟩
 ·simp only[List.length_set];exact rng x (by rw[hf];simp[hx])
 ·simp only[List.length_set] at hj⊢;by_cases e:i=j
  ·subst e;rw[List.getElem?_set_self (by omega)];simp[hni]
  ·rw[List.getElem?_set_ne e,used j hj,hf];have:((j:Int)∈fr++[(i:Int)])↔(j:Int)∈fr:=by
    simp only[List.mem_append,List.mem_singleton];exact⟨fun h=>h.resolve_right (by omega),.inl⟩
   simp only[this]
 ·simp only at hv⊢;by_cases e:i=j
  ·subst e;rw[List.getElem?_set_self hi] at hv;cases hv;obtain⟨q1,q2,_⟩:=uses i u hu;exact⟨by omega,by omega,fun _=>by omega⟩
  ·rw[List.getElem?_set_ne e] at hv⊢;exact uses j v hv
theorem K3 {fr k:List Int}:RF.ev (.tsub 1) [sl I1 (fr++k),.v (.int .i64 0),.v (.int .i64 (fr.length:Int))]=some (sl I1 fr):=by
 have he:elsOk' 1 ((fr++k).map I1)=true:=by
  cases h:fr++k with
  |nil=>rfl
  |cons a l=>simp[elsOk',lenI]
 rw[kr,if_pos ⟨by omega,by omega,by simp;omega,he,by decide⟩];simp
theorem downN {n:Nat}(h:n<1000000000):IntKind.i64.wrap (((n+1:Nat):Int)-1)=(n:Int):=fk h
theorem PO {fr:List Int}{i:Int}(hl:fr.length≤900):Ans D 412 [sl I1 (fr++[i])] [sl I1 fr,.i64 i]:=by
 have bn:RF.ev .bnd [.v (.int .i64 (fr.length:Int)),.v (.int .i64 ((fr.length+1:Nat):Int))]=some (.i64 (fr.length:Int)):=by rw[eC,if_pos ⟨by omega,by omega⟩]
 have hx:(fr++[i])[fr.length]?=some i:=by simp
 refine ans_of Gi Oc rfl ⟨1,?_⟩;unfold wD;simp only[EV,List.length_map,List.length_append,List.length_singleton,downN (show fr.length<1000000000 by omega),bn,K3,den_lt,phi (PK (l:=fr) (by omega)),tixM hx (lenI _),eltM hx,rowI,subM]
def jt (s:Slots):Bool:=match s.free.getLast? with
 |some x=>match s.uses[x.toNat]? with
  |some u=>decide (u<1000000)
  |none=>false
 |none=>false
theorem free_last {s:Slots}(h:SFine s):s.free=[]∨ ∃(fr:List Int) (i:Nat) (u:Int),s.free=fr++[(i:Int)]∧s.uses[i]?=some u∧fr.length<200∧i<s.uses.length:=by
 rcases List.eq_nil_or_concat s.free with e|⟨fr,x,e⟩
 ·exact .inl e
 ·right
  rw[List.concat_eq_append] at e;have hx:=h.rng x (by rw[e];simp);have hb:=nodup_bound h.nd h.rng;rw[e,List.length_append,List.length_singleton] at hb;have:=h.n2;exact⟨fr,x.toNat,s.uses[x.toNat]'(by omega),by rw[e];congr 2;omega,List.getElem?_eq_getElem _,by omega,by omega⟩
theorem nH {s:Slots}{fr:List Int}{i:Nat}{u:Int}(h:s.free=fr++[(i:Int)])(hu:s.uses[i]?=some u):jt s=decide (u<1000000):=by
 unfold jt;rw[h];simp[hu]
theorem PQ {s:Slots}(h:SFine s):Ans D 373 [SL s] [.bool (jt s)]:=by
 refine ans_of F7 N2 rfl ⟨1,?_⟩;unfold wm;rcases free_last h with e|⟨fr,i,u,e,hu,h1,h2⟩
 ·have:jt s=false:=by unfold jt;rw[e];rfl
  simp only[den_lt,shSL,cSL2,e,EV,List.map_nil,List.length_nil,this];rw[if_neg (by decide)];unfold qd;simp only[EV]
 ·have hx:(fr++[(i:Int)])[fr.length]?=some (i:Int):=by simp
  simp only[den_lt,shSL,cSL2,cSL0,e,EV,List.length_map,List.length_append,List.length_singleton,downN (show fr.length<1000000000 by omega),tixM hx (lenI _),eltM hx,tixM hu (lenI _),eltM hu,rowI,nH e hu]
  rw[if_pos (decide_eq_true (by omega))];unfold qd;simp only[EV]
theorem ss_of {s:Slots}(h:SFine s):SSm s:=⟨by have:=h.n2;omega,by have:=h.n2;have:=h.len;omega,by have:=nodup_bound h.nd h.rng;have:=h.n2;omega⟩
theorem c409 {s:Slots}(h:SFine s){fr:List Int}{i:Nat}{u:Int}(e:s.free=fr++[(i:Int)])(hu:s.uses[i]?=some u)(hm:u<1000000):Ans D 409 [SL s] [SL (cd s fr i u),HD ⟨i,u+1⟩]:=by
 have hi:=get_lt hu;have hb:=nodup_bound h.nd h.rng;have n2:=h.n2;rw[e,List.length_append,List.length_singleton] at hb;have hx:(fr++[(i:Int)])[fr.length]?=some (i:Int):=by simp
 have bn:RF.ev .bnd [.v (.int .i64 (fr.length:Int)),.v (.int .i64 ((fr.length+1:Nat):Int))]=some (.i64 (fr.length:Int)):=by rw[eC,if_pos ⟨by omega,by omega⟩]
 have wu:IntKind.i64.wrap (u+1)=u+1:=ah (by have:=(h.uses i u hu).1;omega) (by omega);have hu':(s.uses.set i (u+1))[i]?=some (u+1):=by rw[List.getElem?_set_self hi]
 have sb:RF.ev .sub [sl I1 (fr++[(i:Int)]),.v (.int .i64 0),.v (.int .i64 (fr.length:Int))]=some (sl I1 fr):=by
  rw[mO,if_pos (by simp;omega)];simp
 have s1:=subM (f:=I1) (l:=s.uses.set i (u+1));rw[List.length_set] at s1;have s2:=subM (f:=B1) (l:=s.used.set i true);rw[List.length_set] at s2;refine ans_of k409_ok s409 rfl ⟨1,?_⟩;unfold k409;simp only[den_lt,shSL,phi (c286 (ss_of h)),cSL0,cSL1,cSL2,e,EV,List.length_map,List.length_append,List.length_singleton,downN (show fr.length<1000000000 by omega),ixM (show fr.length<fr.length+1 by omega),eltM hx,rowI,bn,ixM hi,eltM hu,wu,setI hi,ixM (show i<s.used.length by rw[h.len];exact hi),setB (show i<s.used.length by rw[h.len];exact hi),eltM hu',s1,s2,sb]
 rfl
theorem nI {s:Slots}(h:SFine s):gSl s=false:=by
 have:=h.n2;have:=h.len;have:=nodup_bound h.nd h.rng;unfold gSl;simp only[Bool.or_eq_false_iff,decide_eq_false_iff_not];omega
open Classical in
theorem PR {s:Slots}(h:SFine s){fr:List Int}{i:Nat}{u:Int}(e:s.free=fr++[(i:Int)])(hu:s.uses[i]?=some u)(hm:u<1000000):Ans D 382 [SL s] [SL (cd s fr i u),HD ⟨i,u+1⟩,.i64 0]:=by
 have hi:=get_lt hu;have hb:=nodup_bound h.nd h.rng;have n2:=h.n2;rw[e,List.length_append,List.length_singleton] at hb;have hc:=phi (IA (nI h));rw[decide_eq_true (aT.2 h)] at hc;have e0:okE true=0:=rfl;rw[e0] at hc;have wu:IntKind.i64.wrap (u+1)=u+1:=ah (by have:=(h.uses i u hu).1;omega) (by omega);have hu':(s.uses.set i (u+1))[i]?=some (u+1):=by rw[List.getElem?_set_self hi]
 have s1:=subM (f:=I1) (l:=s.uses.set i (u+1));rw[List.length_set] at s1;have s2:=subM (f:=B1) (l:=s.used.set i true);rw[List.length_set] at s2;refine ans_of k382_ok s382 rfl ⟨1,?_⟩;unfold k382;simp only[den_lt,shSL,hc,cSL0,cSL1,cSL2,EV,List.length_map,decide_true,Bool.not_true,Bool.false_eq_true,if_false];have hne:¬((s.free.length:Nat):Int)=0:=by rw[e];simp;omega
 have c4:=phi (PO (fr:=fr) (i:=(i:Int)) (by omega));rw[←e] at c4;simp only[hne,decide_false,Bool.false_eq_true,if_false,den_lt,c4,cSL0,tixM hu (lenI _),eltM hu,rowI,EV,decide_eq_true_eq];rw[if_neg (by omega)];simp only[den_lt,shSL,phi (c413 (ss_of h)),cSL0,cSL1,EV,List.length_map,ixM (show i<s.used.length by rw[h.len];exact hi),setB (show i<s.used.length by rw[h.len];exact hi),ixM hi,eltM hu,rowI,wu,setI hi,eltM hu',s1,s2]
 rfl
def nfree (n:Nat):List Int:=(List.range n).map fun i:Nat=>((n-1-i:Nat):Int)
def df (n:Nat):Slots:=⟨List.replicate n 0,List.replicate n false,nfree n⟩
theorem nfree_get {n i:Nat}(h:i<n):(nfree n)[i]?=some ((n-1-i:Nat):Int):=by
 unfold nfree;rw[List.getElem?_map,List.getElem?_range h];rfl
theorem nfree_len (n:Nat):(nfree n).length=n:=by simp[nfree]
theorem lL {n:Nat}(h1:1≤n)(h2:n≤200):SFine (df n):=by
 unfold df;have hm: ∀i:Nat,i<n→(i:Int)∈nfree n:=fun i hi=>List.mem_map.2 ⟨n-1-i,List.mem_range.2 (by omega),by omega⟩;refine⟨by simpa using h1,by simpa using h2,by simp,?_,fun x hx=>?_,fun i hi=>?_,fun i u hu=>?_⟩
 ·rw[List.Nodup,List.pairwise_iff_getElem];intro i j hi hj hij e;have a:=nfree_get (n:=n) (i:=i) (by rw[nfree_len] at hi;exact hi);have b:=nfree_get (n:=n) (i:=j) (by rw[nfree_len] at hj;exact hj);simp only at hi hj;rw[nfree_len] at hi hj;rw[List.getElem?_eq_getElem (by rw[nfree_len];exact hi)] at a;rw[List.getElem?_eq_getElem (by rw[nfree_len];exact hj)] at b;simp only[Option.some.injEq] at a b;rw[a,b] at e;omega
 ·obtain⟨k,hk,rfl⟩:=List.mem_map.1 hx;rw[List.mem_range] at hk;simp only[List.length_replicate];omega
 ·simp only[List.length_replicate] at hi;rw[List.getElem?_replicate,if_pos hi];simp[hm i hi]
 ·simp only at hu⊢;rw[List.getElem?_replicate] at hu;split at hu
  ·cases hu;refine⟨by omega,by omega,fun h=>?_⟩;rw[List.getElem?_replicate] at h;split at h<;>cases h
  ·cases hu
theorem sJ {n i:Nat}(h:¬i<n):(nfree n)[i]?=none:=List.getElem?_eq_none (by rw[nfree_len];omega)
theorem Bu (n i:Nat):(nfree n)[i]?=if i<n then some ((n-1-i:Nat):Int) else none:=by
 by_cases h:i<n
 ·rw[if_pos h,nfree_get h]
 ·rw[if_neg h,sJ h]
theorem K4 {n i:Nat}(h:i<n):((nfree n).take i++List.replicate (n-i) 0).set i ((n-1-i:Nat):Int)=(nfree n).take (i+1)++List.replicate (n-(i+1)) 0:=by
 refine List.ext_getElem? fun k=>?_;simp only[List.getElem?_set,List.getElem?_append,List.getElem?_replicate,List.getElem?_take,List.length_append,List.length_replicate,List.length_take,nfree_len,Bu,Nat.min_eq_left (show i≤n by omega),Nat.min_eq_left (show i+1≤n by omega)]
 repeat' split
 all_goals first|rfl|omega|(congr 1;omega)
theorem IY {n:Nat}(h:n≤1000):RF.ev (.rep [(.v (.bool false))] 1) [.v (.int .i64 (n:Int)),.v (.int .i64 (n:Int))]=some (sl B1 (List.replicate n false)):=by
 rw[xn,if_pos ⟨by omega,by omega,by omega,by omega⟩,Int.toNat_natCast];unfold sl;rw[List.map_replicate];rfl
theorem c314 {n:Nat}(h1:1≤n)(h2:n≤200):Ans D 314 [.i64 (n:Int)] [SL (df n),.i64 0]:=by
 refine ans_of FI NF rfl ⟨1001,?_⟩;unfold vO;simp only[EV,decide_eq_true_eq,gt_iff_lt];rw[if_neg (by omega),if_neg (by omega)];have r1:=gi (n:=n) (by omega);have r2:=IY (n:=n) (by omega);simp only[r1,r2,den_lt,EV,List.length_map,List.length_replicate];have e0:([sl I1 (List.replicate n 0),PV.v (.int .i64 0)]:List PV)=[sl I1 ((nfree n).take 0++List.replicate (n-0) 0),.i64 ((0:Nat):Int)]:=by simp
 rw[e0];refine(run_up (m:=1001) (n:=n) (st:=fun i=>[sl I1 ((nfree n).take i++List.replicate (n-i) 0),.i64 (i:Int)]) (fin:=some [SL (df n),.i64 0]) (fun i self hi=>?_) (fun self=>?_) (by omega))
 ·have hlen:((nfree n).take i++List.replicate (n-i) 0).length=n:=by simp[nfree_len];omega
  have w1:IntKind.i64.wrap ((n:Int)-1)=((n-1:Nat):Int):=by rw[ah (by omega) (by omega)];omega
  have w2:IntKind.i64.wrap (((n-1:Nat):Int)-(i:Int))=((n-1-i:Nat):Int):=by rw[ah (by omega) (by omega)];omega
  have st:=setI (l:=(nfree n).take i++List.replicate (n-i) 0) (i:=i) (by rw[hlen];exact hi) ((n-1-i:Nat):Int);rw[K4 hi] at st;unfold k314_2;simp only[EV,decide_eq_true_eq,if_lt hi,w1,w2,ixM hi,st,up1 (show i<1000000000 by omega)]
 ·have e1:(nfree n).take n++List.replicate (n-n) 0=nfree n:=by rw[List.take_of_length_le (by rw[nfree_len];omega)];simp
  have s0:=subM (f:=I1) (l:=List.replicate n (0:Int));have s1:=subM (f:=B1) (l:=List.replicate n false);have s2:=subM (f:=I1) (l:=nfree n);rw[List.length_replicate] at s0 s1;rw[nfree_len] at s2;unfold k314_2;simp only[EV,decide_eq_true_eq,if_ge,k314_1,e1,s0,s1,s2];rfl
theorem PS {n:Nat}(h1:1≤n)(h2:n≤200):Ans D 322 [.i64 (n:Int)] [SL (df n)]:=by
 refine ans_of FM NJ rfl ⟨1001,?_⟩;unfold vS;have r1:=gi (n:=n) (by omega);have r2:=IY (n:=n) (by omega);have w1:IntKind.i64.wrap ((n:Int)-1)=(n:Int)-1:=ah (by omega) (by omega);simp only[r1,r2,den_lt,EV,List.length_map,List.length_replicate,w1];have e0:([PV.sl [],PV.v (.int .i64 0),PV.v (.int .i64 ((n:Int)-1))]:List PV)=[sl I1 ((nfree n).take 0),.i64 ((0:Nat):Int),.i64 ((n:Int)-1-((0:Nat):Int))]:=by simp
 rw[e0];refine(run_up (m:=1001) (n:=n) (st:=fun k=>[sl I1 ((nfree n).take k),.i64 (k:Int),.i64 ((n:Int)-1-(k:Int))]) (fin:=some [SL (df n)]) (fun k self hk=>?_) (fun self=>?_) (by omega))
 ·have hlen:((nfree n).take k).length=k:=by rw[List.length_take,nfree_len];omega
  have ap:RF.ev (.app 8 1) [sl I1 ((nfree n).take k),.v (.int .i64 (k:Int)),sl I1 [(n:Int)-1-(k:Int)]]=some (sl I1 ((nfree n).take (k+1))):=by
   have:=aN (f:=I1) (l:=(nfree n).take k) (k:=[(n:Int)-1-(k:Int)]) (bytes:=8) (z:=1) (by rw[hlen];simp;omega) lenI;rw[hlen] at this;rw[this,List.take_add_one,nfree_get hk];have:((n-1-k:Nat):Int)=(n:Int)-1-(k:Int):=by omega
   rw[this];rfl
  have hlen':((nfree n).take (k+1)).length=k+1:=by rw[List.length_take,nfree_len];omega
  have hdn:IntKind.i64.wrap ((n:Int)-1-(k:Int)-1)=(n:Int)-1-((k+1:Nat):Int):=by rw[ah (by omega) (by omega)];omega
  unfold k322_2;simp only[EV,decide_eq_true_eq,ge_iff_le,if_pos (show(0:Int)≤(n:Int)-1-(k:Int) by omega),bsI,subI1,ap,List.length_map,hlen',hdn]
 ·have e1:(nfree n).take n=nfree n:=List.take_of_length_le (by rw[nfree_len];omega);have s0:=subM (f:=I1) (l:=List.replicate n (0:Int));have s1:=subM (f:=B1) (l:=List.replicate n false);have s2:=subM (f:=I1) (l:=nfree n);rw[List.length_replicate] at s0 s1;rw[nfree_len] at s2;unfold k322_2;simp only[EV,decide_eq_true_eq,ge_iff_le,if_neg (show¬(0:Int)≤(n:Int)-1-(n:Int) by omega),Af,e1,s0,s1,s2]
  rfl
def cP (n:Nat):Agenda:=⟨df n,[],List.replicate n (-1)⟩
theorem PT {n:Nat}(h1:1≤n)(h2:n≤200):Ans D 241 [.i64 (n:Int)] [AG (cP n)]:=by
 refine ans_of E4 M1 rfl ⟨1001,?_⟩;unfold uU;simp only[phi (PS h1 h2),den_lt,shSL,EV];have e0:([PV.sl [],PV.v (.int .i64 0),PV.v (.int .i64 0)]:List PV)=[sl I1 (List.replicate 0 (-1)),.i64 ((0:Nat):Int),.i64 ((0:Nat):Int)]:=by simp
 rw[e0];refine(run_up (m:=1001) (n:=n) (st:=fun k=>[sl I1 (List.replicate k (-1)),.i64 (k:Int),.i64 (k:Int)]) (fin:=some [AG (cP n)]) (fun k self hk=>?_) (fun self=>?_) (by omega))
 ·have ap:RF.ev (.app 8 1) [sl I1 (List.replicate k (-1)),.v (.int .i64 (k:Int)),sl I1 [-1]]=some (sl I1 (List.replicate (k+1) (-1))):=by
   have:=aN (f:=I1) (l:=List.replicate k (-1)) (k:=[-1]) (bytes:=8) (z:=1) (by simp;omega) lenI;rw[List.length_replicate] at this;rw[this,List.replicate_succ']
  unfold pn;simp only[EV,decide_eq_true_eq,if_lt hk,bsI,subI1,ap,List.length_map,List.length_replicate,up1 (show k<1000000000 by omega)]
 ·have s0:=subM (f:=I1) (l:=List.replicate n (-1:Int));rw[List.length_replicate] at s0;have pS:RF.ev (.part 0 3) [SL (df n)]=some (SL (df n)):=rfl;unfold pn;simp only[EV,decide_eq_true_eq,if_ge,zG,s0,den_lt,pS];rfl
def rpt (n k:Nat):List Int:=List.replicate k (-1)++List.replicate (n-k) 0
theorem Gz {n k:Nat}(h:k≤n):(rpt n k).length=n:=by unfold rpt;simp;omega
theorem Bv {n k m:Nat}(h:k+m≤n):(rpt n k).take k++List.replicate m (-1)++(rpt n k).drop (k+m)=rpt n (k+m):=by
 unfold rpt;rw[List.take_left' (by simp),List.drop_append,List.drop_of_length_le (l:=List.replicate k (-1)) (by simp)];simp only[List.length_replicate,List.nil_append,List.drop_replicate,List.append_assoc];rw[←List.append_assoc,List.replicate_append_replicate]
 congr 2
 omega
theorem Bw {L S:List Int}{k:Nat}(h:k≤L.length):RF.ev (.appK 0 1) [sl I1 L,.v (.int .i64 (k:Int)),sl I1 S]=some (sl I1 (L.take k++S++L.drop (k+S.length))):=by
 have he:elsOk' 1 (S.map I1)=true:=by
  cases S with
  |nil=>rfl
  |cons a k=>simp[elsOk',lenI]
 show(if(0:Int)≤k∧(k:Int)≤((L.map I1).length:Nat)∧((k:Int).toNat+(S.map I1).length)*0≤140737488355328∧elsOk' 1 (S.map I1)=true then some (PV.sl ((L.map I1).take (k:Int).toNat++S.map I1++(L.map I1).drop ((k:Int).toNat+(S.map I1).length))) else none)=_
 rw[if_pos ⟨by omega,by rw[List.length_map];omega,by omega,he⟩];simp
theorem IZ {L:List Int}{k:Nat}(h:k≤L.length):RF.ev .sub [sl I1 L,.v (.int .i64 0),.v (.int .i64 (k:Int))]=some (sl I1 (L.take k)):=by
 rw[mO,if_pos (by simp;omega)];simp
theorem nJ {N n:Nat}(hn:n≤1000){f0:JT}{e0 e1 e2 e3 e4 e5 e6 e7 e8 e9 e10 e12 e13 e14 e15 e16:PV}: ∀(r k m:Nat),n-k≤r→r<m→1≤k→k≤n→
  denW (PhiS D) N k184_2 [f0] [e0,e1,e2,e3,e4,e5,e6,e7,e8,e9,e10,.i64 (n:Int),e12,e13,e14,e15,e16] m [sl I1 (rpt n k),.i64 (k:Int)]=f0 [sl I1 (rpt n n)]
 |0,k,m,h,hm,h1,h2=>by
  obtain⟨m,rfl⟩: ∃m',m=m'+1:=⟨m-1,by omega⟩;have:k=n:=by omega
  subst this;rw[denW_succ];unfold k184_2;simp only[EV,decide_eq_true_eq,if_ge]
 |r+1,k,m,h,hm,h1,h2=>by
  obtain⟨m,rfl⟩: ∃m',m=m'+1:=⟨m-1,by omega⟩;by_cases hk:k=n
  ·subst hk;rw[denW_succ];unfold k184_2;simp only[EV,decide_eq_true_eq,if_ge]
  ·have ih:=nJ (N:=N) hn (f0:=f0) (e0:=e0) (e1:=e1) (e2:=e2) (e3:=e3) (e4:=e4) (e5:=e5) (e6:=e6) (e7:=e7) (e8:=e8) (e9:=e9) (e10:=e10) (e12:=e12) (e13:=e13) (e14:=e14) (e15:=e15) (e16:=e16) r (k+min (n-k) k) m (by omega) (by omega) (by omega) (by omega);have bn:RF.ev .bnd [.v (.int .i64 (k:Int)),.v (.int .i64 (n:Int))]=some (.i64 (k:Int)):=by rw[eC,if_pos ⟨by omega,by omega⟩]
   have dd:(n:Int)-(k:Int)=((n-k:Nat):Int):=by omega
   have hl:=Gz (n:=n) h2;have tk:(rpt n k).take k=List.replicate k (-1):=by unfold rpt;exact List.take_left' (by simp)
   have s1:=IZ (L:=rpt n k) (k:=k) (by omega);rw[tk] at s1;have a1:RF.ev (.appK 0 1) [.sl [],.v (.int .i64 0),sl I1 (List.replicate k (-1))]=some (sl I1 (List.replicate k (-1))):=by
    have:=Bw (L:=[]) (S:=List.replicate k (-1)) (k:=0) (by simp);simp only[List.take_nil,List.drop_nil,List.nil_append,List.append_nil] at this;exact this
   have mm:RF.ev (.mm false) [.v (.int .i64 ((n-k:Nat):Int)),.v (.int .i64 (k:Int))]=some (.i64 ((min (n-k) k:Nat):Int)):=by
    rw[mmN];congr 3;omega
   have s2:=IZ (L:=List.replicate k (-1)) (k:=min (n-k) k) (by simp;omega);rw[List.take_replicate,show min (min (n-k) k) k=min (n-k) k by omega] at s2
   have a2:=Bw (L:=rpt n k) (S:=List.replicate (min (n-k) k) (-1)) (k:=k) (by omega);rw[List.length_replicate,Bv (by omega)] at a2;have wk:IntKind.i64.wrap ((k:Int)+((min (n-k) k:Nat):Int))=((k+min (n-k) k:Nat):Int):=by rw[ah (by omega) (by omega)];omega
   rw[denW_succ];generalize hkk:k184_2=kk at ih;subst hkk;unfold k184_2;simp only[EV,decide_eq_true_eq];rw[if_pos (by omega)];simp only[EV,bn,Int.zero_add,dd,s1,a1,List.length_map,List.length_replicate,mm,s2,a2,wk,den_lt];exact ih
theorem PU {x y:Nat}(hx:x<18446744073709551616)(hy:y<18446744073709551616):Ans D 277 [U x,U y] [U (x*y/18446744073709551616),U (x*y% 18446744073709551616)]:=by
 refine ans_of Fr Nn rfl ⟨1,?_⟩;unfold vw;simp only[den_lt,EV,phi (A9 hx hy)]
theorem c184 {n:Nat}(h1:1≤n)(h2:n≤1000):Ans D 184 [sl I1 [-1],.i64 (n:Int)] [sl I1 (List.replicate n (-1))]:=by
 have m1:=phi (PU (x:=1) (y:=n) (by omega) (by omega));rw[Nat.one_mul,Nat.div_eq_of_lt (by omega),Nat.mod_eq_of_lt (by omega)] at m1;have cu:IntKind.u64.wrap (n:Int)=(n:Int):=wu (by omega);have cu1:IntKind.u64.wrap ((1:Nat):Int)=((1:Nat):Int):=wu (by omega);have ci:IntKind.i64.wrap (n:Int)=(n:Int):=ah (by omega) (by omega);have r1:=gi (n:=n) h2;have a1:RF.ev (.appK 0 1) [.sl [],.v (.int .i64 0),sl I1 [-1]]=some (sl I1 [-1]):=rfl;have mm:RF.ev (.mm false) [.v (.int .i64 (n:Int)),.v (.int .i64 ((1:Nat):Int))]=some (.i64 ((1:Nat):Int)):=by
  rw[mmN];congr 3;omega
 have s2:RF.ev .sub [sl I1 [-1],.v (.int .i64 0),.v (.int .i64 ((1:Nat):Int))]=some (sl I1 [-1]):=rfl;have a2:=Bw (L:=List.replicate n 0) (S:=[-1]) (k:=0) (by simp);have e2:(List.replicate n (0:Int)).take 0++[-1]++(List.replicate n (0:Int)).drop (0+[(-1:Int)].length)=rpt n 1:=by
  unfold rpt;simp
 rw[e2] at a2;have a2:RF.ev (.appK 0 1) [sl I1 (List.replicate n 0),.v (.int .i64 0),sl I1 [-1]]=some (sl I1 (rpt n 1)):=a2;refine ans_of EE ME rfl ⟨1001,?_⟩;unfold uz;simp only[EV,decide_eq_true_eq];rw[if_neg (by omega)];have cu1':IntKind.u64.wrap (([[PV.i64 (-1)]].length:Nat):Int)=((1:Nat):Int):=cu1;simp only[EV,List.length_map,List.length_singleton,cu,cu1];have m1:PhiS D 277 [.v (.int .u64 ((1:Nat):Int)),.v (.int .u64 (n:Int))]=some [U 0,U n]:=m1;simp only[m1,den_lt,EV,U,decide_eq_true_eq];rw[if_neg (by decide)];unfold zb;simp only[EV];have g0:decide ((n:Int)>9223372036854775807)=false:=decide_eq_false (by omega);simp only[g0,Bool.false_eq_true,if_false,EV,ci,r1,List.length_map,List.length_replicate,a1,List.length_singleton,mm,s2,a2,den_lt];refine(nJ (N:=1001) (n:=n) h2 n 1 1001 (by omega) (by omega) (by omega) h1).trans ?_;have e3:rpt n n=List.replicate n (-1):=by unfold rpt;simp
 have s3:=subM (f:=I1) (l:=List.replicate n (-1:Int));rw[List.length_replicate] at s3;unfold k184_1;simp only[EV,e3,s3]
theorem pSL (s:Slots):RF.ev (.part 0 3) [SL s]=some (SL s):=rfl
theorem PW {n:Nat}(h1:1≤n)(h2:n≤200):Ans D 232 [.i64 (n:Int)] [AG (cP n),.i64 0]:=by
 have s3:=subM (f:=I1) (l:=List.replicate n (-1:Int));rw[List.length_replicate] at s3;refine ans_of k232_ok s232 rfl ⟨1,?_⟩;unfold k232;simp only[phi (c314 h1 h2),den_lt,shSL,EV,decide_true,Bool.not_true,Bool.false_eq_true,if_false,bsI,subI1,phi (c184 (n:=n) h1 (by omega)),List.length_map,List.length_replicate,pSL,s3];rfl
def dg (c:Certs)(x:Crt):Certs:=⟨c.next+1,c.list++[⟨c.next,x⟩]⟩
theorem xO {c:Certs}{x:Crt}(h:aq c)(hx:x.ok)(hn: ∀g∈c.list,g.cert≠x)(h1:c.list.length<200)(h2:c.next<1000000):aq (dg c x):=by
 obtain⟨a1,a2,a3,a4⟩:=h;unfold dg;refine⟨by simp;omega,by simp only;omega,by simp only;omega,fun i g hg=>?_⟩;simp only at hg⊢;by_cases e:i<c.list.length
 ·rw[List.getElem?_append_left e] at hg;obtain⟨q1,q2,q3,q4,q5⟩:=a4 i g hg;refine⟨q1,q2,by omega,fun g' h0 hg'=>?_,fun k hk g' hg'=>?_⟩
  ·rw[List.getElem?_append_left (by omega)] at hg';exact q4 g' h0 hg'
  ·rw[List.getElem?_append_left (by omega)] at hg';exact q5 k hk g' hg'
 ·have hi:i=c.list.length:=by
   have:=get_lt hg;simp at this;omega
  subst hi;rw[List.getElem?_append_right (Nat.le_refl _),Nat.sub_self] at hg;simp only[List.getElem?_cons_zero,Option.some.injEq] at hg;subst hg;refine⟨hx,a2,by simp only;omega,fun g' h0 hg'=>?_,fun k hk g' hg'=>?_⟩
  ·rw[List.getElem?_append_left (by omega)] at hg';exact(a4 _ g' hg').2.2.1
  ·rw[List.getElem?_append_left hk] at hg';exact hn g' (List.mem_of_getElem? hg')
theorem CX (n:Int)(x:Crt):RF.ev .agg [.i64 n,CP x]=some (HP ⟨n,x⟩):=rfl
theorem bsH (h:Held):RF.ev (.bs 1 [KP.z,KP.z,KP.z] [0]) [HP h]=some (sl hrow [h]):=rfl
theorem CY (h:Held):RF.ev .sub [sl hrow [h],.v (.int .i64 0),.v (.int .i64 1)]=some (sl hrow [h]):=rfl
theorem xP (n:Int)(l:List Held):RF.ev .agg [.i64 n,sl hrow l]=some (CS ⟨n,l⟩):=rfl
theorem pCP (x:Crt):RF.ev (.part 0 2) [CP x]=some (CP x):=rfl
theorem I0 {c:Certs}{x:Crt}(h:c.list.length<200):RF.ev (.app 24 3) [sl hrow c.list,.v (.int .i64 (c.list.length:Int)),sl hrow [⟨c.next,x⟩]]=some (sl hrow (c.list++[⟨c.next,x⟩])):=
 aN (f:=hrow) (l:=c.list) (k:=[⟨c.next,x⟩]) (bytes:=24) (z:=3) (by simp;omega) lenH
open Classical in
theorem PX {c:Certs}{x:Crt}(h:aq c)(hx:x.ok)(hn: ∀g∈c.list,g.cert≠x)(h1:c.list.length<200)(h2:c.next<1000000):Ans D 375 [CS c,CP x] [CS (dg c x),.i64 c.next,.i64 0]:=by
 have e0:okE true=0:=rfl;have m1:=phi (Iw c);rw[decide_eq_true h,e0] at m1;have m2:=phi (It x);rw[decide_eq_true hx] at m2;have m3:=phi (Bh (c:=c) (x:=x) (by omega));rw[show(c.list.any fun h=>decide (h.cert=x))=false from by rw[List.any_eq_false];intro g hg;simpa using hn g hg] at m3
 have w:IntKind.i64.wrap (c.next+1)=c.next+1:=ah (by have:=h.2.1;omega) (by omega);have s1:=subM (f:=hrow) (l:=c.list++[⟨c.next,x⟩]);refine ans_of F8 N3 rfl ⟨1,?_⟩;unfold wo;simp only[den_lt,shCS,shCP,m1,m2,m3,cCS0,cCS1,EV,List.length_map,decide_true,Bool.not_true,Bool.false_eq_true,if_false,decide_eq_true_eq];rw[if_neg (by omega),if_neg (by omega)];simp only[den_lt,phi (IW (c:=c) (by omega)),shCS,cCS0,cCS1,pCP,CX,bsH,CY,EV,List.length_map,I0 h1,w,s1,xP];rfl
open Classical in
theorem PY {c:Certs}{x:Crt}(h:aq c)(hx:x.ok)(hn: ∀g∈c.list,g.cert≠x)(h1:c.list.length<200)(h2:c.next<1000000):Ans D 320 [CS c,CP x] [CS (dg c x),.i64 c.next,.i64 0]:=by
 have e0:okE true=0:=rfl;have m1:=phi (IB (c:=c) (by omega));rw[decide_eq_true h,e0] at m1;have m2:=phi (Iu x);rw[decide_eq_true hx] at m2;have w:IntKind.i64.wrap (c.next+1)=c.next+1:=ah (by have:=h.2.1;omega) (by omega);have s1:=subM (f:=hrow) (l:=c.list++[⟨c.next,x⟩]);refine ans_of FK NH rfl ⟨1001,?_⟩;unfold vQ;simp only[den_lt,shCS,shCP,m1,m2,cCS1,EV,List.length_map,decide_true,Bool.not_true,Bool.false_eq_true,if_false];refine(run_list (m:=1001) (l:=c.list) (p:=fun g=>!decide (g.cert=x)) (st:=fun i=>[.i64 (i:Int)]) (r:=none) (fin:=some [CS (dg c x),.i64 c.next,.i64 0]) (fun i g self hg _=>?_) (fun hall self=>?_) (by omega)).trans ?_
 ·unfold pZ;simp only[den_lt,cCS1,tixM hg (lenH _),eltM hg,rowH,pHP,eqvC,EV,decide_eq_true_eq,if_lt (get_lt hg),up1 (show i<1000000000 by have:=get_lt hg;omega)]
  rw[if_neg (hn g (List.mem_of_getElem? hg)),if_pos (by simpa using hn g (List.mem_of_getElem? hg))]
 ·unfold pZ Ad;simp only[den_lt,cCS0,cCS1,EV,List.length_map,decide_eq_true_eq,if_ge];rw[if_neg (by decide),if_neg (by omega),if_neg (by omega)];simp only[den_lt,phi (Bq (l:=c.list) (by omega)),cCS0,cCS1,pCP,CX,bsH,CY,EV,List.length_map,I0 h1,w,s1,xP];rfl
 ·rw[if_pos (by rw[List.all_eq_true];intro g hg;simpa using hn g hg)]
structure Plc (s:Slots)(hp:List Evt)(wh:List Int):Prop where
 len:wh.length=s.uses.length
 at_: ∀(k:Nat) (e:Evt),hp[k]?=some e→ ∃(j:Nat) (u:Int),e.hnd=⟨(j:Int),u⟩∧s.used[j]?=some true∧s.uses[j]?=some u∧wh[j]?=some (k:Int)
 of_: ∀j:Nat,s.used[j]?=some true→ ∃(k:Nat) (e:Evt) (u:Int),wh[j]?=some (k:Int)∧hp[k]?=some e∧s.uses[j]?=some u∧e.hnd=⟨(j:Int),u⟩
 off: ∀j:Nat,s.used[j]?=some false→wh[j]?=some (-1)
theorem ai {α:Type}{l:List α}{i:Nat}{a:α}(h:l[i]?=some a):i<l.length:=(List.getElem?_eq_some_iff.1 h).1
theorem nK {s:Slots}{hp:List Evt}{wh:List Int}(h:Plc s hp wh){i k:Nat}{e f:Evt}(hi:hp[i]?=some e)(hk:hp[k]?=some f)(hne:i≠k):
  Plc s ((hp.set i f).set k e) ((wh.set f.hnd.index.toNat (i:Int)).set e.hnd.index.toNat (k:Int)):=by
 obtain⟨je,ue,e1,e2,e3,e4⟩:=h.at_ i e hi;obtain⟨jf,uf,f1,f2,f3,f4⟩:=h.at_ k f hk;have hi':=ai hi;have hk':=ai hk;have we:=ai e4;have wf:=ai f4;have hj:je≠jf:=fun q=>by
  subst q;rw[e4] at f4;simp only[Option.some.injEq] at f4;omega
 rw[e1,f1];simp only[Int.toNat_natCast];have W: ∀j:Nat,((wh.set jf (i:Int)).set je (k:Int))[j]?=if j=je then some (k:Int) else if j=jf then some (i:Int) else wh[j]?:=fun j=>by
  by_cases a:j=je
  ·subst a;rw[if_pos rfl,List.getElem?_set_self (by rw[List.length_set];exact we)]
  ·rw[if_neg a,List.getElem?_set_ne (fun q=>a q.symm)];by_cases b:j=jf
   ·subst b;rw[if_pos rfl,List.getElem?_set_self wf]
   ·rw[if_neg b,List.getElem?_set_ne (fun q=>b q.symm)]
 have P: ∀m:Nat,((hp.set i f).set k e)[m]?=if m=k then some e else if m=i then some f else hp[m]?:=fun m=>by
  by_cases a:m=k
  ·subst a;rw[if_pos rfl,List.getElem?_set_self (by rw[List.length_set];exact hk')]
  ·rw[if_neg a,List.getElem?_set_ne (fun q=>a q.symm)];by_cases b:m=i
   ·subst b;rw[if_pos rfl,List.getElem?_set_self hi']
   ·rw[if_neg b,List.getElem?_set_ne (fun q=>b q.symm)]
 refine⟨by simpa using h.len,fun m g hg=>?_,fun j hu=>?_,fun j hu=>?_⟩
 ·rw[P] at hg;by_cases a:m=k
  ·subst a;rw[if_pos rfl] at hg;cases hg;exact⟨je,ue,e1,e2,e3,by rw[W,if_pos rfl]⟩
  ·rw[if_neg a] at hg;by_cases b:m=i
   ·subst b;rw[if_pos rfl] at hg;cases hg;exact⟨jf,uf,f1,f2,f3,by rw[W,if_neg (fun q=>hj q.symm),if_pos rfl]⟩
   ·rw[if_neg b] at hg;obtain⟨j,u,g1,g2,g3,g4⟩:=h.at_ m g hg;refine⟨j,u,g1,g2,g3,?_⟩;rw[W,if_neg,if_neg,g4]
    ·rintro rfl;rw[f4] at g4;simp only[Option.some.injEq] at g4;omega
    ·rintro rfl;rw[e4] at g4;simp only[Option.some.injEq] at g4;omega
 ·by_cases a:j=je
  ·subst a;exact⟨k,e,ue,by rw[W,if_pos rfl],by rw[P,if_pos rfl],e3,e1⟩
  ·by_cases b:j=jf
   ·subst b;exact⟨i,f,uf,by rw[W,if_neg a,if_pos rfl],by rw[P,if_neg hne,if_pos rfl],f3,f1⟩
   ·obtain⟨m,g,u,g1,g2,g3,g4⟩:=h.of_ j hu;refine⟨m,g,u,by rw[W,if_neg a,if_neg b,g1],?_,g3,g4⟩;rw[P,if_neg,if_neg,g2]
    ·rintro rfl;rw[hi] at g2;cases g2;rw[e1] at g4;simp only[Hnd.mk.injEq] at g4;omega
    ·rintro rfl;rw[hk] at g2;cases g2;rw[f1] at g4;simp only[Hnd.mk.injEq] at g4;omega
 ·have a:j≠je:=fun q=>by subst q;rw[e2] at hu;cases hu
  have b:j≠jf:=fun q=>by subst q;rw[f2] at hu;cases hu
  rw[W,if_neg a,if_neg b];exact h.off j hu
theorem plc_push {s:Slots}(hs:SFine s){hp:List Evt}{wh:List Int}(h:Plc s hp wh){fr:List Int}{i:Nat}{u:Int}{x:Evt}(e:s.free=fr++[(i:Int)])(hu:s.uses[i]?=some u)(hx:x.hnd=⟨(i:Int),u+1⟩):
  Plc (cd s fr i u) (hp++[x]) (wh.set i (hp.length:Int)):=by
 have hi:=ai hu;have hui:s.used[i]?=some false:=by rw[hs.used i hi,e];simp
 have hul:=ai hui;have hw:i<wh.length:=by rw[h.len];exact hi
 have U: ∀j:Nat,(s.used.set i true)[j]?=if j=i then some true else s.used[j]?:=fun j=>by
  by_cases a:j=i
  ·subst a;rw[if_pos rfl,List.getElem?_set_self hul]
  ·rw[if_neg a,List.getElem?_set_ne (fun q=>a q.symm)]
 have V: ∀j:Nat,(s.uses.set i (u+1))[j]?=if j=i then some (u+1) else s.uses[j]?:=fun j=>by
  by_cases a:j=i
  ·subst a;rw[if_pos rfl,List.getElem?_set_self hi]
  ·rw[if_neg a,List.getElem?_set_ne (fun q=>a q.symm)]
 have W: ∀j:Nat,(wh.set i (hp.length:Int))[j]?=if j=i then some (hp.length:Int) else wh[j]?:=fun j=>by
  by_cases a:j=i
  ·subst a;rw[if_pos rfl,List.getElem?_set_self hw]
  ·rw[if_neg a,List.getElem?_set_ne (fun q=>a q.symm)]
 unfold cd;refine⟨by simpa using h.len,fun m g hg=>?_,fun j hj=>?_,fun j hj=>?_⟩
 ·by_cases a:m<hp.length
  ·rw[List.getElem?_append_left a] at hg;obtain⟨j,v,g1,g2,g3,g4⟩:=h.at_ m g hg;have b:j≠i:=fun q=>by subst q;rw[hui] at g2;cases g2
   exact⟨j,v,g1,by simp only[U,if_neg b,g2],by simp only[V,if_neg b,g3],by simp only[W,if_neg b,g4]⟩
  ·have hm:=ai hg;rw[List.length_append,List.length_singleton] at hm;have:m=hp.length:=by omega
   subst this;rw[List.getElem?_append_right (Nat.le_refl _),Nat.sub_self] at hg;simp only[List.getElem?_cons_zero,Option.some.injEq] at hg;subst hg;exact⟨i,u+1,hx,by simp only[U,if_true],by simp only[V,if_true],by simp only[W,if_true]⟩
 ·simp only[U] at hj;by_cases a:j=i
  ·subst a;exact⟨hp.length,x,u+1,by simp only[W,if_true],by simp,by simp only[V,if_true],hx⟩
  ·rw[if_neg a] at hj;obtain⟨k,g,v,g1,g2,g3,g4⟩:=h.of_ j hj;exact⟨k,g,v,by simp only[W,if_neg a,g1],by rw[List.getElem?_append_left (ai g2)];exact g2,by simp only[V,if_neg a,g3],g4⟩
 ·simp only[U] at hj;by_cases a:j=i
  ·subst a;rw[if_pos rfl] at hj;cases hj
  ·rw[if_neg a] at hj;simp only[W,if_neg a];exact h.off j hj
def cQ (hp:List Evt)(i k:Nat)(e f:Evt):List Evt:=(hp.set i f).set k e
def fE (wh:List Int)(i k:Nat)(e f:Evt):List Int:=(wh.set f.hnd.index.toNat (i:Int)).set e.hnd.index.toNat (k:Int)
def upS:Nat→List Evt→List Int→Nat→List Evt×List Int×Nat
 |0,hp,wh,i=>(hp,wh,i)
 |n+1,hp,wh,i=>match hp[i]?,hp[(i-1)/2]? with
  |some e,some p=>if 0<i∧evLess e p=true then upS n (cQ hp i ((i-1)/2) e p) (fE wh i ((i-1)/2) e p) ((i-1)/2) else(hp,wh,i)
  |_,_=>(hp,wh,i)
def mi (hp:List Evt)(i:Nat):Prop:=
 (∀(c:Nat) (e p:Evt),0<c→c≠i→hp[c]?=some e→hp[(c-1)/2]?=some p→evLess e p=false)∧
 ∀(c:Nat) (e p:Evt),0<i→0<c→(c-1)/2=i→hp[c]?=some e→hp[(i-1)/2]?=some p→evLess e p=false
def Ord (hp:List Evt):Prop:= ∀(c:Nat) (e p:Evt),0<c→hp[c]?=some e→hp[(c-1)/2]?=some p→evLess e p=false
theorem gY {hp:List Evt}{i k:Nat}{e f:Evt}(hi:hp[i]?=some e)(hk:hp[k]?=some f)(m:Nat):(cQ hp i k e f)[m]?=if m=k then some e else if m=i then some f else hp[m]?:=by
 have hi':=ai hi;have hk':=ai hk;unfold cQ;by_cases a:m=k
 ·subst a;rw[if_pos rfl,List.getElem?_set_self (by rw[List.length_set];exact hk')]
 ·rw[if_neg a,List.getElem?_set_ne (fun q=>a q.symm)];by_cases b:m=i
  ·subst b;rw[if_pos rfl,List.getElem?_set_self hi']
  ·rw[if_neg b,List.getElem?_set_ne (fun q=>b q.symm)]
theorem nL {hp:List Evt}{i k:Nat}{e f:Evt}(hi:hp[i]?=some e)(hk:hp[k]?=some f):(cQ hp i k e f).Perm hp:=by
 obtain⟨h1,h2⟩:=List.getElem?_eq_some_iff.1 hi;obtain⟨h3,h4⟩:=List.getElem?_eq_some_iff.1 hk;unfold cQ;rw[←h2,←h4];exact List.set_set_perm h1 h3
theorem Bx {hp:List Evt}{i:Nat}{e p:Evt}(hr: ∀x∈hp,rok x.time=true)(ho:mi hp i)(h0:0<i)(hi:hp[i]?=some e)(hp':hp[(i-1)/2]?=some p)(hl:evLess e p=true):mi (cQ hp i ((i-1)/2) e p) ((i-1)/2):=by
 obtain⟨o1,o2⟩:=ho;have re:=hr e (List.mem_of_getElem? hi);have rp:=hr p (List.mem_of_getElem? hp');have G:=gY hi hp';refine⟨fun c x q c0 cn hx hq=>?_,fun c x q k0 c0 hc hx hq=>?_⟩
 ·rw[G] at hx hq;rw[if_neg cn] at hx;by_cases a:c=i
  ·subst a;rw[if_pos rfl] at hx hq;cases hx;cases hq;exact evLess_asymm hl
  ·rw[if_neg a] at hx;by_cases b:(c-1)/2=(i-1)/2
   ·rw[if_pos b] at hq;cases hq;have:=o1 c x p c0 a hx (by rw[b];exact hp');exact xM re rp (hr x (List.mem_of_getElem? hx)) hl this
   ·rw[if_neg b] at hq;by_cases d:(c-1)/2=i
    ·rw[if_pos d] at hq;cases hq;exact o2 c x p h0 c0 d hx hp'
    ·rw[if_neg d] at hq;exact o1 c x q c0 a hx hq
 ·rw[G] at hx hq;rw[if_neg (by omega)] at hx;rw[if_neg (by omega),if_neg (by omega)] at hq;have up:=o1 ((i-1)/2) p q k0 (by omega) hp' hq;by_cases a:c=i
  ·subst a;rw[if_pos rfl] at hx;cases hx;exact up
  ·rw[if_neg a] at hx;have:=o1 c x p c0 a hx (by rw[hc];exact hp');exact sI (hr x (List.mem_of_getElem? hx)) rp (hr q (List.mem_of_getElem? hq)) this up
theorem nM {s:Slots}: ∀(n:Nat) (hp:List Evt) (wh:List Int) (i:Nat),i≤n→i<hp.length→(∀x∈hp,rok x.time=true)→mi hp i→Plc s hp wh→
  Ord (upS n hp wh i).1∧(upS n hp wh i).1.Perm hp∧Plc s (upS n hp wh i).1 (upS n hp wh i).2.1∧(upS n hp wh i).1[(upS n hp wh i).2.2]?=hp[i]?∧(upS n hp wh i).2.2≤i
 |0,hp,wh,i,hn,hi,hr,ho,hP=>by
  have:i=0:=by omega
  subst this;exact⟨fun c e p c0 he hp'=>ho.1 c e p c0 (by omega) he hp',.refl _,hP,rfl,Nat.le_refl _⟩
 |n+1,hp,wh,i,hn,hi,hr,ho,hP=>by
  obtain⟨e,he⟩: ∃e,hp[i]?=some e:=⟨hp[i],List.getElem?_eq_getElem _⟩;obtain⟨p,hp'⟩: ∃p,hp[(i-1)/2]?=some p:=⟨hp[(i-1)/2]'(by omega),List.getElem?_eq_getElem _⟩;unfold upS;rw[he,hp'];simp only;by_cases hc:0<i∧evLess e p=true
  ·rw[if_pos hc];obtain⟨h0,hl⟩:=hc;have pm:=nL he hp';obtain⟨q1,q2,q3,q4,q5⟩:=nM n (cQ hp i ((i-1)/2) e p) (fE wh i ((i-1)/2) e p) ((i-1)/2) (by omega) (by rw[pm.length_eq];omega) (fun x hx=>hr x (pm.mem_iff.1 hx)) (Bx hr ho h0 he hp' hl) (nK hP he hp' (by omega));refine⟨q1,q2.trans pm,q3,?_,by omega⟩;rw[q4,gY he hp',if_pos rfl]
  ·rw[if_neg hc];refine⟨fun c x q c0 hx hq=>?_,.refl _,hP,he,Nat.le_refl _⟩;by_cases a:c=i
   ·subst a;rw[he] at hx;cases hx;rw[hp'] at hq;cases hq;cases hl:evLess e p with
    |false=>rfl
    |true=>exact absurd ⟨c0,hl⟩ hc
   ·exact ho.1 c x q c0 a hx hq
theorem gl {α:Type}(p:α→Bool): ∀l:List α,l.length=(l.filter p).length+(l.filter fun x=>!p x).length
 |[]=>rfl
 |a::l=>by
  have:=gl p l;rw[List.filter_cons,List.filter_cons];cases p a<;>simp<;>omega
theorem ju {a:Agenda}(hs:SFine a.slots)(hp:dB a):Plc a.slots a.heap a.wher:=by
 obtain⟨p1,p2,p3⟩:=hp;have hlen:=hs.len;have get: ∀j:Nat,j<a.slots.uses.length→ ∃b w u,a.slots.used[j]?=some b∧a.wher[j]?=some w∧a.slots.uses[j]?=some u:=fun j hj=>
  ⟨_,_,_,List.getElem?_eq_getElem (by omega),List.getElem?_eq_getElem (by omega),List.getElem?_eq_getElem hj⟩
 have of_: ∀j:Nat,a.slots.used[j]?=some true→ ∃(k:Nat) (e:Evt) (u:Int),a.wher[j]?=some (k:Int)∧a.heap[k]?=some e∧a.slots.uses[j]?=some u∧e.hnd=⟨(j:Int),u⟩:=fun j hj=>by
  obtain⟨b,w,u,h1,h2,h3⟩:=get j (by have:=ai hj;omega);have:=p3 j true w u hj h2 h3;rw[if_pos rfl] at this;obtain⟨w0,e,q1,q2⟩:=this;exact⟨w.toNat,e,u,by rw[h2];congr 1;omega,q1,h3,q2⟩
 refine⟨p1,fun k e hk=>?_,of_,fun j hj=>?_⟩
 ·
  let W:Nat→Nat:=fun j=>((a.wher[j]?).getD 0).toNat
  let U:Nat→Bool:=fun j=>decide (a.slots.used[j]?=some true)
  have hnd:(((List.range a.slots.uses.length).filter U).map W).Nodup:=by
   rw[List.Nodup,List.pairwise_map];refine List.Pairwise.imp_of_mem (R:=fun x y=>x≠y) (fun{x y} hx hy hne=>?_) (List.nodup_range.filter _);intro h;obtain⟨k1,e1,u1,g1,g2,_,g4⟩:=of_ x (by have:=(List.mem_filter.1 hx).2;exact of_decide_eq_true this);obtain⟨k2,e2,u2,f1,f2,_,f4⟩:=of_ y (by have:=(List.mem_filter.1 hy).2;exact of_decide_eq_true this);simp only[W,g1,f1,Option.getD_some,Int.toNat_natCast] at h;subst h;rw[g2] at f2;cases f2;rw[g4] at f4;simp only[Hnd.mk.injEq] at f4;omega
  have hsub: ∀x∈((List.range a.slots.uses.length).filter U).map W,x∈List.range a.heap.length:=fun x hx=>by
   obtain⟨j,hj,rfl⟩:=List.mem_map.1 hx;obtain⟨k1,e1,u1,g1,g2,_,g4⟩:=of_ j (by have:=(List.mem_filter.1 hj).2;exact of_decide_eq_true this);simp only[W,g1,Option.getD_some,Int.toNat_natCast,List.mem_range];exact ai g2
  have hfree:((List.range a.slots.uses.length).filter fun j=>!U j).length≤a.slots.free.length:=by
   have:=lz (l:=((List.range a.slots.uses.length).filter fun j=>!U j).map fun j:Nat=>(j:Int)) (k:=a.slots.free) (by
    rw[List.Nodup,List.pairwise_map];exact(List.nodup_range.filter _).imp fun h e=>h (by omega)) (fun x hx=>by
     obtain⟨j,hj,rfl⟩:=List.mem_map.1 hx;obtain⟨h1,h2⟩:=List.mem_filter.1 hj;rw[List.mem_range] at h1;have hu:=hs.used j h1;simp only[U,Bool.not_eq_true',decide_eq_false_iff_not] at h2;by_cases hm:(j:Int)∈a.slots.free
     ·exact hm
     ·exact absurd (by rw[hu];simp[hm]) h2)
   simpa using this
  have hsplit:=gl U (List.range a.slots.uses.length);rw[List.length_range] at hsplit;have hperm:=sub_perm hnd hsub (by rw[List.length_range,List.length_map];omega);have hk':k∈((List.range a.slots.uses.length).filter U).map W:=hperm.mem_iff.2 (List.mem_range.2 (ai hk));obtain⟨j,hj,hjk⟩:=List.mem_map.1 hk';have hju:a.slots.used[j]?=some true:=by have:=(List.mem_filter.1 hj).2;exact of_decide_eq_true this
  obtain⟨k1,e1,u1,g1,g2,g3,g4⟩:=of_ j hju;simp only[W,g1,Option.getD_some,Int.toNat_natCast] at hjk;subst hjk;rw[hk] at g2;cases g2;exact⟨j,u1,g4,hju,g3,g1⟩
 ·obtain⟨b,w,u,h1,h2,h3⟩:=get j (by have:=ai hj;omega);have:=p3 j false w u hj h2 h3;rw[if_neg (by simp)] at this;rw[h2,this]
theorem I2 {a:Agenda}(h:Plc a.slots a.heap a.wher)(hl:a.heap.length+a.slots.free.length=a.slots.uses.length):dB a:=by
 refine⟨h.len,hl,fun j b w u hb hw hu=>?_⟩;cases b with
 |true=>
  obtain⟨k,e,v,g1,g2,g3,g4⟩:=h.of_ j hb;rw[hw] at g1;cases g1;rw[hu] at g3;cases g3;rw[if_pos rfl,Int.toNat_natCast];exact⟨by omega,e,g2,g4⟩
 |false=>
  rw[if_neg (by simp)];have:=h.off j hb;rw[hw] at this;cases this;rfl
def aS (a:Agenda)(fr:List Int)(i:Nat)(u:Int)(t:Rt)(n:Int):Agenda:=
 let r:=upS (a.heap.length+1) (a.heap++[⟨t,n,⟨i,u+1⟩⟩]) (a.wher.set i (a.heap.length:Int)) a.heap.length
 ⟨cd a.slots fr i u,r.1,r.2.1⟩
theorem ord_of {a:Agenda}(h:aW a):Ord a.heap:=fun c e p c0 he hp=>by
 have:=h.2.2.2.2 (c-1) e p (by rw[show c-1+1=c by omega];exact he) hp
 exact this
theorem gZ {a:Agenda}(h:aW a){fr:List Int}{i:Nat}{u:Int}(hf:a.slots.free=fr++[(i:Int)])(hu:a.slots.uses[i]?=some u)(hm:u<1000000){t:Rt}{n:Int}(hx:rok t=true∧0≤n∧n≤1000000)(hn:n∉a.heap.map (·.number)):
  aW (aS a fr i u t n)∧(aS a fr i u t n).heap.Perm (a.heap++[⟨t,n,⟨i,u+1⟩⟩])∧(aS a fr i u t n).wher.length=a.wher.length:=by
 have hs:=aT.1 h.1;have hP:=ju hs h.2.1;have hP':=plc_push hs hP hf hu (x:=⟨t,n,⟨i,u+1⟩⟩) rfl;have hs':=xN hs hf hu hm;have hl:=h.2.1.2.1;have hr: ∀x∈a.heap++[(⟨t,n,⟨i,u+1⟩⟩:Evt)],EvOk x:=fun x hx'=>by
  rcases List.mem_append.1 hx' with h1|h1
  ·exact h.2.2.1 x h1
  ·rw[List.mem_singleton] at h1;subst h1;exact hx
 have hex:mi (a.heap++[⟨t,n,⟨i,u+1⟩⟩]) a.heap.length:=by
  refine⟨fun c e p c0 cn he hp=>?_,fun c e p _ c0 hc he _=>?_⟩
  ·have h1:=ai he;rw[List.length_append,List.length_singleton] at h1;rw[List.getElem?_append_left (by omega)] at he hp;exact ord_of h c e p c0 he hp
  ·have h1:=ai he;rw[List.length_append,List.length_singleton] at h1;omega
 obtain⟨q1,q2,q3,_,_⟩:=nM (s:=cd a.slots fr i u) (a.heap.length+1) (a.heap++[⟨t,n,⟨i,u+1⟩⟩]) (a.wher.set i (a.heap.length:Int)) a.heap.length (by omega) (by simp) (fun x hx'=>(hr x hx').1) hex hP';unfold aS;refine⟨⟨aT.2 hs',I2 q3 ?_,fun e he=>hr e (q2.mem_iff.1 he),?_,fun c e p he hp=>?_⟩,q2,?_⟩
 ·simp only;rw[q2.length_eq];unfold cd;rw[hf] at hl;simp only[List.length_append,List.length_singleton,List.length_set] at hl⊢;omega
 ·have pm:((upS (a.heap.length+1) (a.heap++[(⟨t,n,⟨i,u+1⟩⟩:Evt)]) (a.wher.set i (a.heap.length:Int)) a.heap.length).1.map (·.number)).Perm ((a.heap++[(⟨t,n,⟨i,u+1⟩⟩:Evt)]).map (·.number)):=q2.map _;refine pm.nodup_iff.2 ?_;rw[List.map_append,List.nodup_append];refine⟨h.2.2.2.1,by simp,fun x hx1 y hy e=>?_⟩;simp only[List.map_cons,List.map_nil,List.mem_singleton] at hy;subst hy;subst e;exact hn hx1
 ·exact q1 (c+1) e p (by omega) he (by simpa using hp)
 ·have l1:=q3.len;have l2:=hP.len;simp only;rw[l1,l2];unfold cd;simp
theorem mj {l:List Evt}{i:Nat}(h:i<l.length)(f:Evt):RF.ev (.set 0) [sl erow l,.v (.int .i64 (i:Int)),EP f]=some (sl erow (l.set i f)):=by
 obtain⟨e,he⟩: ∃e,l[i]?=some e:=⟨l[i],List.getElem?_eq_getElem h⟩;have hs:splice (erow e) 0 (erow f)=erow f:=rfl;rw[ku,if_pos (by omega),Int.toNat_natCast,List.getElem?_map,he];simp only[Option.map_some,show(EP f).cells=erow f from rfl,show(erow f).length=5 from rfl,show(erow e).length=5 from rfl,Nat.zero_add,Nat.le_refl,if_true,hs]
 exact congrArg (fun x=>some (PV.sl x)) (List.map_set (f:=erow) (l:=l) (i:=i) (a:=f)).symm
theorem aggEv (t:Rt)(n:Int)(h:Hnd):RF.ev .agg [R t,.i64 n,HD h]=some (EP ⟨t,n,h⟩):=rfl
theorem bsE (e:Evt):RF.ev (.bs 1 [KP.z,KP.z,KP.z,KP.z,KP.z] [0]) [EP e]=some (sl erow [e]):=rfl
theorem subE1 (e:Evt):RF.ev .sub [sl erow [e],.v (.int .i64 0),.v (.int .i64 1)]=some (sl erow [e]):=rfl
theorem sK {i:Nat}(h0:0<i)(h:i<1000000):intB .quo .i64 (IntKind.i64.wrap ((i:Int)-1)) .i64 2=some (.v (.int .i64 (((i-1)/2:Nat):Int))):=by
 obtain⟨k,rfl⟩: ∃k,i=k+1:=⟨i-1,by omega⟩;exact half (by omega)
theorem iE {s:Slots}{N:Nat}{f0:JT}{e0 e1 e2 e3 e4 e5 e6 e7 e8 e9 e10 e11 e12 e13 e14 e15 e17 e18 e19 e20 e21 e22 e23 e24 e25 e26 e27 e28 e29 e30 e32 e33 e34 e35 e36:PV}{H W:Nat}(hH:H≤1000): ∀(r i m:Nat) (hp:List Evt) (wh:List Int),i≤r→r<m→i<H→hp.length=H→wh.length=W→(∀x∈hp,In64 x.time)→Plc s hp wh→
  denW (PhiS D) N k374_2 [f0] [e0,e1,e2,e3,e4,e5,e6,e7,e8,e9,e10,e11,e12,e13,e14,e15,.i64 (W:Int),e17,e18,e19,e20,e21,e22,e23,e24,e25,e26,e27,e28,e29,e30,.i64 (H:Int),e32,e33,e34,e35,e36] m [.i64 (i:Int),sl erow hp,sl I1 wh]=f0 [.i64 ((upS r hp wh i).2.2:Int),sl I1 (upS r hp wh i).2.1,sl erow (upS r hp wh i).1]
 |0,i,m,hp,wh,hi,hm,hiH,hl,hw,h64,hP=>by
  obtain⟨m,rfl⟩: ∃m',m=m'+1:=⟨m-1,by omega⟩;have:i=0:=by omega
  subst this;rw[denW_succ];unfold k374_2 upS;simp only[EV,decide_eq_true_eq,gt_iff_lt];rw[if_neg (by omega)]
 |r+1,i,m,hp,wh,hi,hm,hiH,hl,hw,h64,hP=>by
  obtain⟨m,rfl⟩: ∃m',m=m'+1:=⟨m-1,by omega⟩;obtain⟨e,he⟩: ∃e,hp[i]?=some e:=⟨hp[i],List.getElem?_eq_getElem _⟩;obtain⟨p,hp'⟩: ∃p,hp[(i-1)/2]?=some p:=⟨hp[(i-1)/2]'(by omega),List.getElem?_eq_getElem _⟩;have E:upS (r+1) hp wh i=if 0<i∧evLess e p=true then upS r (cQ hp i ((i-1)/2) e p) (fE wh i ((i-1)/2) e p) ((i-1)/2) else(hp,wh,i):=by rw[upS,he,hp']
  rw[E,denW_succ];by_cases h0:0<i
  rotate_left
  ·rw[if_neg (fun h=>h0 h.1)];unfold k374_2;simp only[EV,decide_eq_true_eq,gt_iff_lt];rw[if_neg (by omega)]
  ·have pm:=nL he hp';have ih:=iE (s:=s) (N:=N) (f0:=f0) (e0:=e0) (e1:=e1) (e2:=e2) (e3:=e3) (e4:=e4) (e5:=e5) (e6:=e6) (e7:=e7) (e8:=e8) (e9:=e9) (e10:=e10) (e11:=e11) (e12:=e12) (e13:=e13) (e14:=e14) (e15:=e15) (e17:=e17) (e18:=e18) (e19:=e19) (e20:=e20) (e21:=e21) (e22:=e22) (e23:=e23) (e24:=e24) (e25:=e25) (e26:=e26) (e27:=e27) (e28:=e28) (e29:=e29) (e30:=e30) (e32:=e32) (e33:=e33) (e34:=e34) (e35:=e35) (e36:=e36) (H:=H) (W:=W) hH r ((i-1)/2) m (cQ hp i ((i-1)/2) e p) (fE wh i ((i-1)/2) e p) (by omega) (by omega) (by omega) (by rw[pm.length_eq];exact hl) (by unfold fE;simpa using hw) (fun x hx=>h64 x (pm.mem_iff.1 hx)) (nK hP he hp' (by omega))
   have cm:=phi (c347 (h64 e (List.mem_of_getElem? he)) (h64 p (List.mem_of_getElem? hp')));obtain⟨je,ue,g1,_,_,g4⟩:=hP.at_ i e he;obtain⟨jp,up,k1,_,_,k4⟩:=hP.at_ _ p hp';have wje:je<W:=by rw[←hw];exact ai g4
   have wjp:jp<W:=by rw[←hw];exact ai k4
   have q2:=sK h0 (by omega);have ge:(cQ hp i ((i-1)/2) e p)[(i-1)/2]?=some e:=by rw[gY he hp',if_pos rfl]
   have gp:(cQ hp i ((i-1)/2) e p)[i]?=some p:=by rw[gY he hp',if_neg (by omega),if_pos rfl]
   have s1:=mj (l:=hp) (i:=i) (by omega) p;have s2:RF.ev (.set 0) [sl erow (hp.set i p),.v (.int .i64 (((i-1)/2:Nat):Int)),EP e]=some (sl erow (cQ hp i ((i-1)/2) e p)):=mj (by rw[List.length_set];omega) e;have ie:e.hnd.index=(je:Int):=by rw[g1]
   have ip:p.hnd.index=(jp:Int):=by rw[k1]
   have s3:=setI (l:=wh) (i:=jp) (by omega) (i:Int);have s4:RF.ev (.set 0) [sl I1 (wh.set jp (i:Int)),.v (.int .i64 (je:Int)),.v (.int .i64 (((i-1)/2:Nat):Int))]=some (sl I1 (fE wh i ((i-1)/2) e p)):=by
    unfold fE;rw[ie,ip,Int.toNat_natCast,Int.toNat_natCast];exact setI (by rw[List.length_set];omega) _
   generalize hkk:k374_2=kk at ih;subst hkk;unfold k374_2;simp only[EV,decide_eq_true_eq,gt_iff_lt];rw[if_pos (by omega)];simp only[EV,ixM hiH,eltM he,rowE,f_bin,q2,ixM (show(i-1)/2<H by omega),eltM hp',den_lt,cm]
   cases hc:evLess e p with
   |false=>
    rw[if_neg (by simp)];simp
   |true=>
    simp only[h0,true_and,if_true,EV,f_bin,q2,ixM hiH,ixM (show(i-1)/2<H by omega),eltM he,eltM hp',rowE,den_lt,kI,s1,s2,eltM ge,eltM gp,CJ,ie,ip,ixM wje,ixM wjp,s3,s4]
    exact ih
theorem xQ (s:Slots)(hp:List Evt)(wh:List Int):RF.ev .agg [SL s,sl erow hp,sl I1 wh]=some (AG ⟨s,hp,wh⟩):=rfl
theorem pHD (h:Hnd):RF.ev (.part 0 2) [HD h]=some (HD h):=rfl
theorem pR (r:Rt):RF.ev (.part 0 2) [R r]=some (R r):=rfl
theorem sL {a:Agenda}(h:aW a):ASm a:=by
 have hs:=aT.1 h.1;have:=hs.n2;exact⟨ss_of hs,by have:=h.2.1.2.1;omega,by have:=h.2.1.1;omega⟩
theorem PZ {a:Agenda}(h:aW a){fr:List Int}{i:Nat}{u:Int}(hf:a.slots.free=fr++[(i:Int)])(hu:a.slots.uses[i]?=some u)(hm:u<1000000){t:Rt}{n:Int}(hx:rok t=true∧0≤n∧n≤1000000)(hn:n∉a.heap.map (·.number))(ht:In64 t)(h64: ∀e∈a.heap,In64 e.time):
  Ans D 374 [AG a,R t,.i64 n] [AG (aS a fr i u t n),HD ⟨i,u+1⟩]:=by
 have hs:=aT.1 h.1;have hP:=ju hs h.2.1;have hsm:=sL h;have n2:=hs.n2;have hl:=h.2.1.2.1;have hw:=h.2.1.1;have hi:=ai hu;have hP':=plc_push hs hP hf hu (x:=⟨t,n,⟨i,u+1⟩⟩) rfl;obtain⟨_,q2,q3⟩:=gZ h hf hu hm hx hn;have ap:=aN (f:=erow) (l:=a.heap) (k:=[⟨t,n,⟨i,u+1⟩⟩]) (bytes:=40) (z:=5) (by simp;omega) lenE;have dn:=downN (n:=a.heap.length) (by omega);have s3:=setI (l:=a.wher) (i:=i) (by omega) (a.heap.length:Int);have s4:=subM (f:=erow) (l:=(aS a fr i u t n).heap);rw[q2.length_eq,List.length_append,List.length_singleton] at s4;have s5:=subM (f:=I1) (l:=(aS a fr i u t n).wher);rw[q3] at s5;refine ans_of k374_ok s374 rfl ⟨1001,?_⟩;unfold k374;simp only[den_lt,shAG,shapeR,phi (c209 hsm),cAG0,cAG1,cAG2,cAG3,cAG4,EV,List.length_map,subM,aggSL,phi (c409 hs hf hu hm),shSL,shHD,pR,pHD,aggEv,bsE,subE1,ap,List.length_append,List.length_singleton,dn,cHD0,ixM (show i<a.wher.length by omega),s3]
 refine(iE (s:=cd a.slots fr i u) (N:=1001) (H:=a.heap.length+1) (W:=a.wher.length) (by omega) (a.heap.length+1) a.heap.length 1001 _ _ (by omega) (by omega) (by omega) (by simp) (by simp) (fun e he=>?_) hP').trans ?_
 ·rcases List.mem_append.1 he with h1|h1
  ·exact h64 e h1
  ·rw[List.mem_singleton] at h1;subst h1;exact ht
 ·unfold As;have s4':RF.ev .sub [sl erow (upS (a.heap.length+1) (a.heap++[⟨t,n,⟨i,u+1⟩⟩]) (a.wher.set i (a.heap.length:Int)) a.heap.length).1,.v (.int .i64 0),.v (.int .i64 ((a.heap.length+1:Nat):Int))]=some (sl erow (aS a fr i u t n).heap):=s4;have s5':RF.ev .sub [sl I1 (upS (a.heap.length+1) (a.heap++[⟨t,n,⟨i,u+1⟩⟩]) (a.wher.set i (a.heap.length:Int)) a.heap.length).2.1,.v (.int .i64 0),.v (.int .i64 (a.wher.length:Int))]=some (sl I1 (aS a fr i u t n).wher):=s5;simp only[EV,pSL,s4',s5',xQ];rfl
def siftH (x:Evt):Nat→List Evt→List Int→Nat→List Evt×List Int×Nat
 |0,hp,wh,i=>(hp,wh,i)
 |n+1,hp,wh,i=>match hp[(i-1)/2]? with
  |some p=>if 0<i∧evLess x p=true then siftH x n (hp.set i p) (wh.set p.hnd.index.toNat (i:Int)) ((i-1)/2) else(hp,wh,i)
  |none=>(hp,wh,i)
theorem rK {x:Evt}: ∀(n:Nat) (hp:List Evt) (wh:List Int) (i:Nat),i<hp.length→
  upS n (hp.set i x) (wh.set x.hnd.index.toNat (i:Int)) i=((siftH x n hp wh i).1.set (siftH x n hp wh i).2.2 x,(siftH x n hp wh i).2.1.set x.hnd.index.toNat ((siftH x n hp wh i).2.2:Int),(siftH x n hp wh i).2.2)
 |0,hp,wh,i,_=>rfl
 |n+1,hp,wh,i,hi=>by
  have hx:(hp.set i x)[i]?=some x:=List.getElem?_set_self hi;by_cases h0:0<i
  ·obtain⟨p,hp'⟩: ∃p,hp[(i-1)/2]?=some p:=⟨hp[(i-1)/2]'(by omega),List.getElem?_eq_getElem _⟩;have hq:(hp.set i x)[(i-1)/2]?=some p:=by rw[List.getElem?_set_ne (by omega)];exact hp'
   unfold upS siftH;rw[hx,hq,hp'];simp only;by_cases hc:0<i∧evLess x p=true
   ·rw[if_pos hc,if_pos hc];have e1:cQ (hp.set i x) i ((i-1)/2) x p=(hp.set i p).set ((i-1)/2) x:=by unfold cQ;rw[List.set_set]
    have e2:fE (wh.set x.hnd.index.toNat (i:Int)) i ((i-1)/2) x p=(wh.set p.hnd.index.toNat (i:Int)).set x.hnd.index.toNat (((i-1)/2:Nat):Int):=by
     unfold fE;by_cases e:x.hnd.index.toNat=p.hnd.index.toNat
     ·simp only[e,List.set_set]
     ·rw[List.set_comm _ _ e,List.set_set]
    rw[e1,e2];exact rK n (hp.set i p) (wh.set p.hnd.index.toNat (i:Int)) ((i-1)/2) (by rw[List.length_set];omega)
   ·rw[if_neg hc,if_neg hc]
  ·have:i=0:=by omega
   subst this;obtain⟨p,hp'⟩: ∃p,hp[(0-1)/2]?=some p:=⟨hp[0]'hi,List.getElem?_eq_getElem hi⟩;unfold upS siftH;rw[show(0-1)/2=0 from rfl] at hp'⊢
   rw[hx,hp'];simp
theorem I3 {n d:Int}(hn:Sm n)(hd:Sm d)(h0:d≠0):rok (mkR n d)=true∧In64 (mkR n d):=by
 obtain⟨n1,n2⟩:=hn;obtain⟨d1,d2⟩:=hd;have hg:0<Nat.gcd n.natAbs d.natAbs:=Nat.gcd_pos_of_pos_right _ (by omega);have l1:n.natAbs/Nat.gcd n.natAbs d.natAbs≤n.natAbs:=Nat.div_le_self ..;have l2:d.natAbs/Nat.gcd n.natAbs d.natAbs≤d.natAbs:=Nat.div_le_self ..;have l3:0<d.natAbs/Nat.gcd n.natAbs d.natAbs:=Nat.div_pos (Nat.le_of_dvd (by omega) (Nat.gcd_dvd_right ..)) hg;have co:Nat.gcd (n.natAbs/Nat.gcd n.natAbs d.natAbs) (d.natAbs/Nat.gcd n.natAbs d.natAbs)=1:=Nat.coprime_div_gcd_div_gcd hg;have key: ∀z:Int,z.natAbs=n.natAbs/Nat.gcd n.natAbs d.natAbs→rok ⟨z,((d.natAbs/Nat.gcd n.natAbs d.natAbs:Nat):Int)⟩=true∧In64 ⟨z,((d.natAbs/Nat.gcd n.natAbs d.natAbs:Nat):Int)⟩:=fun z hz=>by
  refine⟨?_,⟨by simp only;omega,by simp only;omega⟩,by simp only;omega,by simp only;omega⟩;unfold rok;simp only[hz,Int.natAbs_natCast,co,decide_true,Bool.and_true,Bool.and_eq_true,decide_eq_true_eq,Bool.not_eq_true',decide_eq_false_iff_not];omega
 unfold mkR;split
 ·exact key _ (by rw[Int.natAbs_neg,Int.natAbs_natCast])
 ·exact key _ (Int.natAbs_natCast _)
theorem g9 {l:List Pt}{t:Rt}{x:Crt}(h:okF l)(ht:In64 t)(hr:rok t=true)(h1:inF l x.low=true)(h2:inF l x.high=true)(hf:(failT t (ptOf l x.high) (ptOf l x.low)).2=true):
  rok (failT t (ptOf l x.high) (ptOf l x.low)).1=true∧In64 (failT t (ptOf l x.high) (ptOf l x.low)).1:=by
 obtain⟨i,p,a1,a2,a3,a4⟩:=aU h h1;obtain⟨j,q,b1,b2,b3,b4⟩:=aU h h2;have bp:=Pt.bnd (okF_pt h a1);have bq:=Pt.bnd (okF_pt h b1);rw[a4,b4] at hf⊢;unfold failT at hf⊢;split
 ·exact⟨hr,ht⟩
 ·rename_i h3;rw[if_neg h3] at hf;split
  ·exact I3 ⟨by omega,by omega⟩ ⟨by omega,by omega⟩ (by omega)
  ·rename_i h4;rw[if_neg h4] at hf;cases hf
theorem due_iff {a:Agenda}(h:aW a){d:Due}{n:Int}{t:Rt}:DueAt a d n t↔d.number=n∧(⟨t,n,d.hnd⟩:Evt)∈a.heap:=by
 constructor
 ·rintro⟨h1,h2,h3⟩;obtain⟨i,w,k,e,e1,e2,e3,e4,e5⟩:=m7 h h2;rw[e3] at e2;obtain⟨q1,q2⟩:=h3 i k e e1 e2 e4;refine⟨h1,?_⟩;obtain⟨et,en,eh⟩:=e;simp only at q1 q2 e5;rw[←q1,←q2,←e5];exact List.mem_of_getElem? e4
 ·rintro⟨h1,h2⟩;obtain⟨k,hk⟩:=List.mem_iff_getElem?.1 h2;obtain⟨j,u,e1,e2,e3,e4⟩:=(ju (aT.1 h.1) h.2.1).at_ k _ hk;simp only at e1;refine⟨h1,⟨by rw[e1];simp only;omega,by rw[e1,Int.toNat_natCast];exact e2,by rw[e1,Int.toNat_natCast];exact e3⟩,fun i m e g1 g2 g3=>?_⟩;rw[e1] at g1;simp only at g1;have:j=i:=by omega
  subst this;rw[e4] at g2;simp only[Option.some.injEq] at g2;have:k=m:=by omega
  subst this;rw[hk] at g3;cases g3;exact⟨rfl,rfl⟩
theorem iT {c c':Clock}(hn:c'.now=c.now)(hp:c'.pts=c.pts)(hD: ∀d n t,DueAt c.agenda d n t→DueAt c'.agenda d n t){s:List Due}: ∀(l:List Held) (left out:List Due),foldO (dueStep c) left l=some out→foldO (dueStep c') (left++s) l=some (out++s)
 |[],left,out,h=>by
  unfold foldO at h⊢;cases h;rfl
 |x::l,left,out,h=>by
  unfold foldO at h⊢;cases e:dueStep c left x with
  |none=>rw[e] at h;cases h
  |some y=>
   rw[e] at h;have:dueStep c' (left++s) x=some (y++s):=by
    unfold dueStep at e⊢;rw[hn,hp];by_cases h1:knownH c.pts x=true
    ·rw[if_pos h1] at e⊢;by_cases h2:(failT c.now (ptOf c.pts x.cert.high) (ptOf c.pts x.cert.low)).2=true
     ·rw[if_pos h2] at e⊢;cases left with
      |nil=>cases e
      |cons d rest=>
       simp only[List.cons_append] at e⊢;by_cases h3:DueAt c.agenda d x.number (failT c.now (ptOf c.pts x.cert.high) (ptOf c.pts x.cert.low)).1
       ·rw[if_pos h3] at e;rw[if_pos (hD _ _ _ h3)];cases e;rfl
       ·rw[if_neg h3] at e;cases e
     ·rw[if_neg h2] at e⊢;cases e;rfl
    ·rw[if_neg h1] at e;cases e
   rw[this];exact iT hn hp hD l y out h
theorem fold_app {α β:Type}{g:β→α→Option β}: ∀{l k:List α} {x y:β},foldO g x l=some y→foldO g x (l++k)=foldO g y k
 |[],k,x,y,h=>by unfold foldO at h;cases h;rfl
 |a::l,k,x,y,h=>by
  have h:(match g x a with|some y=>foldO g y l|none=>none)=some y:=h
  show(match g x a with|some y=>foldO g y (l++k)|none=>none)=_
  cases e:g x a with
  |none=>rw[e] at h;cases h
  |some z=>rw[e] at h;exact fold_app h
theorem nN {c:Clock}(ha:aW c.agenda): ∀(l:List Held) (left:List Due),foldO (dueStep c) left l=some []→(left.map (·.number)).Sublist (l.map (·.number))∧ ∀d∈left,∃t,(⟨t,d.number,d.hnd⟩:Evt)∈c.agenda.heap
 |[],left,h=>by unfold foldO at h;cases h;exact⟨.slnil,by simp⟩
 |x::l,left,h=>by
  unfold foldO at h;cases e:dueStep c left x with
  |none=>rw[e] at h;cases h
  |some y=>
   rw[e] at h;obtain⟨r1,r2⟩:=nN ha l y h;unfold dueStep at e;by_cases h1:knownH c.pts x=true
   ·rw[if_pos h1] at e;by_cases h2:(failT c.now (ptOf c.pts x.cert.high) (ptOf c.pts x.cert.low)).2=true
    ·rw[if_pos h2] at e;cases left with
     |nil=>cases e
     |cons d rest=>
      simp only at e;by_cases h3:DueAt c.agenda d x.number (failT c.now (ptOf c.pts x.cert.high) (ptOf c.pts x.cert.low)).1
      ·rw[if_pos h3] at e;cases e;have h3:=(due_iff ha).1 h3;refine⟨?_,fun d' hd=>?_⟩
       ·rw[List.map_cons,List.map_cons,h3.1];exact .cons_cons _ r1
       ·rcases List.mem_cons.1 hd with rfl|hd
        ·exact⟨_,by rw[h3.1];exact h3.2⟩
        ·exact r2 d' hd
      ·rw[if_neg h3] at e;cases e
    ·rw[if_neg h2] at e;cases e;exact⟨.cons _ r1,r2⟩
   ·rw[if_neg h1] at e;cases e
theorem rL {c:Certs}(h:aq c): ∀(j i:Nat) (x y:Held),i<j→c.list[i]?=some x→c.list[j]?=some y→x.number<y.number
 |0,i,x,y,hij,hx,hy=>by omega
 |j+1,i,x,y,hij,hx,hy=>by
  have q:=(h.2.2.2 (j+1) y hy).2.2.2.1;have hj:=ai hy;obtain⟨z,hz⟩: ∃z,c.list[j]?=some z:=⟨c.list[j]'(by omega),List.getElem?_eq_getElem _⟩;have q:=q z (by omega) (by simpa using hz)
  by_cases e:i=j
  ·subst e;rw[hx] at hz;cases hz;exact q
  ·have:=rL h j i x z (by omega) hx hz;omega
theorem sM {c:Certs}(h:aq c):(c.list.map (·.number)).Nodup:=by
 rw[List.Nodup,List.pairwise_map,List.pairwise_iff_getElem];intro i j hi hj hij e;have:=rL h j i _ _ hij (List.getElem?_eq_getElem hi) (List.getElem?_eq_getElem hj);omega
theorem xR {c:Clock}(h:aw c):(c.due.map (·.number)).Perm (c.agenda.heap.map (·.number))∧(c.due.map (·.number)).Sublist (c.certs.list.map (·.number)):=by
 obtain⟨_,_,h3,h4,_,h6,h7⟩:=h;obtain⟨r1,r2⟩:=nN h4 _ _ h7;refine⟨sub_perm (r1.nodup (sM h3)) (fun n hn=>?_) (by simp only[List.length_map];omega),r1⟩;obtain⟨d,hd,rfl⟩:=List.mem_map.1 hn;obtain⟨t,ht⟩:=r2 d hd;exact List.mem_map.2 ⟨_,ht,rfl⟩
theorem fF {c:Clock}(h:aw c):c.certs.next∉c.agenda.heap.map (·.number):=fun hm=>by
 obtain⟨p,s⟩:=xR h;have:=s.subset (p.mem_iff.2 hm);obtain⟨x,hx,hn⟩:=List.mem_map.1 this;obtain⟨i,hi⟩:=List.mem_iff_getElem?.1 hx;have:=(h.2.2.1.2.2.2 i x hi).2.2.1;omega
def fT (c:Clock)(x:Crt):Rt×Bool:=failT c.now (ptOf c.pts x.high) (ptOf c.pts x.low)
def dt (c:Clock)(x:Crt):Clock:=⟨c.now,c.pts,dg c.certs x,c.agenda,c.due⟩
def certD (c:Clock)(x:Crt)(fr:List Int)(i:Nat)(u:Int):Clock:=⟨c.now,c.pts,dg c.certs x,aS c.agenda fr i u (fT c x).1 c.certs.next,c.due++[⟨c.certs.next,⟨i,u+1⟩⟩]⟩
structure CAdd (c:Clock)(x:Crt):Prop where
 ok:aw c
 cok:x.ok
 new: ∀g∈c.certs.list,g.cert≠x
 room:c.certs.list.length<200
 next:c.certs.next<1000000
 low:inF c.pts x.low=true
 high:inF c.pts x.high=true
theorem By {c:Clock}{x:Crt}(h:CAdd c x)(hf:(fT c x).2=false):aw (dt c x):=by
 obtain⟨⟨h1,h2,h3,h4,h5,h6,h7⟩,hx,hn,hr,hl,k1,k2⟩:=h;refine⟨h1,h2,xO h3 hx hn hr hl,h4,h5,h6,?_⟩;have:=iT (c:=c) (c':=dt c x) rfl rfl (fun _ _ _ h=>h) (s:=[]) _ _ _ h7;rw[List.append_nil] at this;refine(fold_app this).trans ?_;have:dueStep (dt c x) ([]++[]) ⟨c.certs.next,x⟩=some []:=by
  unfold dueStep;have hk:knownH (dt c x).pts ⟨c.certs.next,x⟩=true:=by unfold knownH dt;simp only;rw[k1,k2];rfl
  rw[if_pos hk,if_neg (by unfold fT at hf;exact Bool.eq_false_iff.1 hf)];rfl
 unfold foldO;rw[this];rfl
theorem Bz {c:Clock}{x:Crt}(h:CAdd c x)(h64:In64 c.now){fr:List Int}{i:Nat}{u:Int}(he:c.agenda.slots.free=fr++[(i:Int)])(hu:c.agenda.slots.uses[i]?=some u)(hm:u<1000000)(hf:(fT c x).2=true):aw (certD c x fr i u):=by
 have hnew:=fF h.ok;obtain⟨⟨h1,h2,h3,h4,h5,h6,h7⟩,hx,hn,hr,hl,k1,k2⟩:=h;obtain⟨f1,f2⟩:=g9 h2 h64 h1 k1 k2 hf;have n0:=h3.2.1;obtain⟨p1,p2,p3⟩:=gZ h4 he hu hm (t:=(fT c x).1) (n:=c.certs.next) ⟨f1,n0,by omega⟩ hnew;refine⟨h1,h2,xO h3 hx hn hr hl,p1,p3.trans h5,?_,?_⟩
 ·have:=p2.length_eq;rw[List.length_append,List.length_singleton] at this;unfold certD;simp only[List.length_append,List.length_singleton];omega
 ·have:=iT (c:=c) (c':=certD c x fr i u) rfl rfl (fun d n t hd=>by
   refine(due_iff p1).2 ?_;obtain⟨d1,d2⟩:=(due_iff h4).1 hd;exact⟨d1,p2.mem_iff.2 (List.mem_append_left _ d2)⟩) (s:=[⟨c.certs.next,⟨i,u+1⟩⟩]) _ _ _ h7
  refine(fold_app this).trans ?_;have:dueStep (certD c x fr i u) ([]++[⟨c.certs.next,⟨i,u+1⟩⟩]) ⟨c.certs.next,x⟩=some []:=by
   unfold dueStep;have hk:knownH (certD c x fr i u).pts ⟨c.certs.next,x⟩=true:=by unfold knownH certD;simp only;rw[k1,k2];rfl
   rw[if_pos hk,if_pos (by unfold fT at hf;exact hf)];simp only[List.nil_append];rw[if_pos];refine(due_iff p1).2 ⟨rfl,p2.mem_iff.2 ?_⟩;simp only[List.mem_append,List.mem_singleton];exact .inr rfl
  unfold foldO;rw[this];rfl
def newC (l:List Pt)(t:Rt):Clock:=⟨t,l,⟨0,[]⟩,cP 200,[]⟩
theorem I4 (a:Agenda):RF.ev (.part 0 5) [AG a]=some (AG a):=rfl
theorem xS (l:List Pt)(t:Rt):RF.ev .agg [R t,sl row l,.v (.int .i64 0),.sl [],AG (cP 200),.sl []]=some (CL (newC l t)):=rfl
theorem sN {l:List Pt}{t:Rt}(hl:l.length≤1000):Ans D 146 [F l,R t] [CL (newC l t)]:=by
 have c2:=phi (PT (n:=200) (by omega) (by omega));have c2:PhiS D 241 [.v (.int .i64 200)]=some [AG (cP 200)]:=c2;refine ans_of Ec Md rfl ⟨1,?_⟩;unfold tS;simp only[den_lt,shapeF,shapeR,phi (IV hl),cellF,EV,List.length_map,c2,shAG,pR,I4,subM,xS]
theorem sO {l:List Pt}{t:Rt}(h:okF l)(ht:In64 t)(hr:rok t=true):Ans D 138 [F l,R t] [CL (newC l t),.i64 0]:=by
 have h1:=phi (c231 l);rw[fieldE_ok.2 h] at h1;have h2:=phi (c43 ht);rw[hr] at h2;have e0:okE true=0:=rfl;rw[e0] at h2;have c2:=phi (PW (n:=200) (by omega) (by omega));have c2:PhiS D 232 [.v (.int .i64 200)]=some [AG (cP 200),.i64 0]:=c2;refine ans_of rz H5 rfl ⟨1,?_⟩;unfold ol;simp only[den_lt,shapeF,shapeR,h1,h2,EV,decide_true,Bool.not_true,Bool.false_eq_true,if_false,c2,shAG,cellF,phi (d67 (l:=l) (by have:=h.1;omega)),List.length_map,pR,I4,subM,xS]
end Go.Proofs.YtfghdmmapmdcgaaGreat
