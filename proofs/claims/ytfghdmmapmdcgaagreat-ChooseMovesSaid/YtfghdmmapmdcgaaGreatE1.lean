import Derived.Test.YtfghdmmapmdcgaaGreatC4
import Derived.Test.YtfghdmmapmdcgaaGreatC1
import Derived.Test.YtfghdmmapmdcgaaGreatP1
import Derived.Test.YtfghdmmapmdcgaaGreatC3
set_option linter.unusedVariables false
set_option linter.unusedSimpArgs false
set_option linter.defProp false
noncomputable section
namespace Go.Proofs.YtfghdmmapmdcgaaGreat
open Go.Sym Bnd
set_option maxRecDepth 100000
theorem d67 {l:List Pt}(hl:l.length≤1000):Ans D 67 [sl row l] [sl row l]:=by
 refine ans_of Px s67 rfl ⟨1,?_⟩;unfold k67;simp only[EV,aa,decide_eq_true_eq];have h1:den (PhiS D) 1 BH [] [sl row l,.i64 (l.length:Int),.bool (decide ((l.length:Int)=0))]=some [sl row l]:=by
  unfold BH;simp only[den_lt,EV,ed (l:=l) (f:=row) (bytes:=24) (z:=3) (by omega) row_len,aa,subM]
 by_cases h:(l.length:Int)=0
 ·have:l=[]:=bb (by omega);subst this;rw[if_pos h];exact iv rfl h1
 ·rw[if_neg h];exact h1
theorem Bo {l:List Held}(hl:l.length≤1000):Ans D 291 [sl hrow l] [sl hrow l]:=by
 refine ans_of M5 U6 rfl ⟨1,?_⟩;unfold Dr;simp only[EV,aa,decide_eq_true_eq];have h1:den (PhiS D) 1 ya [] [sl hrow l,.i64 (l.length:Int),.bool (decide ((l.length:Int)=0))]=some [sl hrow l]:=by
  unfold ya;simp only[den_lt,EV,ed (l:=l) (f:=hrow) (bytes:=24) (z:=3) (by omega) lenH,aa,subM]
 by_cases h:(l.length:Int)=0
 ·have:l=[]:=bb (by omega);subst this;rw[if_pos h];exact iv rfl h1
 ·rw[if_neg h];exact h1
theorem Qg {l:List Due}(hl:l.length≤1000):Ans D 292 [sl bF l] [sl bF l]:=by
 refine ans_of M6 U7 rfl ⟨1,?_⟩;unfold Ds;simp only[EV,aa,decide_eq_true_eq];have h1:den (PhiS D) 1 yb [] [sl bF l,.i64 (l.length:Int),.bool (decide ((l.length:Int)=0))]=some [sl bF l]:=by
  unfold yb;simp only[den_lt,EV,ed (l:=l) (f:=bF) (bytes:=24) (z:=3) (by omega) lenD,aa,subM]
 by_cases h:(l.length:Int)=0
 ·have:l=[]:=bb (by omega);subst this;rw[if_pos h];exact iv rfl h1
 ·rw[if_neg h];exact h1
theorem I3 {l:List Evt}(hl:l.length≤1000):Ans D 293 [sl erow l] [sl erow l]:=by
 refine ans_of M7 U8 rfl ⟨1,?_⟩;unfold Du;simp only[EV,aa,decide_eq_true_eq];have h1:den (PhiS D) 1 yc [] [sl erow l,.i64 (l.length:Int),.bool (decide ((l.length:Int)=0))]=some [sl erow l]:=by
  unfold yc;simp only[den_lt,EV,ed (l:=l) (f:=erow) (bytes:=40) (z:=5) (by omega) lenE,aa,subM]
 by_cases h:(l.length:Int)=0
 ·have:l=[]:=bb (by omega);subst this;rw[if_pos h];exact iv rfl h1
 ·rw[if_neg h];exact h1
theorem Qh {l:List Int}(hl:l.length≤1000):Ans D 422 [sl I1 l] [sl I1 l]:=by
 refine ans_of N4 V3 rfl ⟨1,?_⟩;unfold Er;simp only[EV,aa,decide_eq_true_eq];have h1:den (PhiS D) 1 yR [] [sl I1 l,.i64 (l.length:Int),.bool (decide ((l.length:Int)=0))]=some [sl I1 l]:=by
  unfold yR;simp only[den_lt,EV,ed (l:=l) (f:=I1) (bytes:=8) (z:=1) (by omega) lenI,aa,subM]
 by_cases h:(l.length:Int)=0
 ·have:l=[]:=bb (by omega);subst this;rw[if_pos h];exact iv rfl h1
 ·rw[if_neg h];exact h1
structure SSm (s:Slots):Prop where
 uses:s.uses.length≤1000
 used:s.used.length≤1000
 free:s.free.length≤1000
structure ASm (a:Agenda):Prop where
 slots:SSm a.slots
 heap:a.heap.length≤1000
 wher:a.wher.length≤1000
structure CSm (c:Clock):Prop where
 pts:c.pts.length≤1000
 certs:c.certs.list.length≤1000
 agenda:ASm c.agenda
 due:c.due.length≤1000
theorem Qi (l:List Pt):RF.ev .agg [sl row l]=some (F l):=rfl
theorem Xw {l:List Pt}(hl:l.length≤1000):Ans D 207 [F l] [F l]:=by
 refine ans_of Mh Uk rfl ⟨1,?_⟩;unfold CB;simp only[den_lt,shapeF,cellF,ed (l:=l) (f:=row) (bytes:=24) (z:=3) (by omega) row_len,EV,aa,subM,Qi]
theorem aggCS (c:Certs):RF.ev .agg [.i64 c.next,sl hrow c.list]=some (CS c):=rfl
theorem Qj {c:Certs}(hl:c.list.length≤1000):Ans D 208 [CS c] [CS c]:=by
 refine ans_of Mi Ul rfl ⟨1,?_⟩;unfold CC;simp only[den_lt,shCS,cCS0,cCS1,ed (l:=c.list) (f:=hrow) (bytes:=24) (z:=3) (by omega) lenH,EV,aa,subM,aggCS]
theorem aggSL (s:Slots):RF.ev .agg [sl I1 s.uses,sl B1 s.used,sl I1 s.free]=some (SL s):=rfl
theorem c286 {s:Slots}(h:SSm s):Ans D 286 [SL s] [SL s]:=by
 obtain⟨h1,h2,h3⟩:=h;refine ans_of M1 U2 rfl ⟨1,?_⟩;unfold Dn;simp only[den_lt,shSL,cSL0,cSL1,cSL2,ed (l:=s.uses) (f:=I1) (bytes:=8) (z:=1) (by omega) lenI,ed (l:=s.free) (f:=I1) (bytes:=8) (z:=1) (by omega) lenI,ed (l:=s.used) (f:=B1) (bytes:=1) (z:=1) (by omega) lenB,EV,aa,subM,aggSL]
theorem c413 {s:Slots}(h:SSm s):Ans D 413 [SL s] [SL s]:=by
 obtain⟨h1,h2,h3⟩:=h;refine ans_of N0 VZ rfl ⟨1,?_⟩;unfold Em;simp only[den_lt,shSL,cSL0,cSL1,cSL2,phi (jQ h1),phi (Bg h2),EV,aa,subM,aggSL]
theorem Kl (a:Agenda):RF.ev .agg [sl I1 a.slots.uses,sl B1 a.slots.used,sl I1 a.slots.free,sl erow a.heap,sl I1 a.wher]=some (AG a):=rfl
theorem Xx (a:Agenda):RF.ev (.part 0 3) [AG a]=some (SL a.slots):=rfl
theorem cAG0 (a:Agenda):RF.ev (.cell 0) [AG a]=some (sl I1 a.slots.uses):=rfl
theorem cAG1 (a:Agenda):RF.ev (.cell 1) [AG a]=some (sl B1 a.slots.used):=rfl
theorem cAG2 (a:Agenda):RF.ev (.cell 2) [AG a]=some (sl I1 a.slots.free):=rfl
theorem c209 {a:Agenda}(h:ASm a):Ans D 209 [AG a] [AG a]:=by
 obtain⟨h1,h2,h3⟩:=h;refine ans_of Mj Um rfl ⟨1,?_⟩;unfold CD;simp only[den_lt,shAG,Xx,phi (c286 h1),shSL,cSL0,cSL1,cSL2,cAG3,cAG4,ed (l:=a.heap) (f:=erow) (bytes:=40) (z:=5) (by omega) lenE,ed (l:=a.wher) (f:=I1) (bytes:=8) (z:=1) (by omega) lenI,EV,aa,subM,Kl]
theorem Qk {a:Agenda}(h:ASm a):Ans D 378 [AG a] [AG a]:=by
 obtain⟨h1,h2,h3⟩:=h;refine ans_of NR VP rfl ⟨1,?_⟩;unfold Ec;simp only[den_lt,shAG,cAG0,cAG1,cAG2,cAG3,cAG4,phi (I3 h2),phi (jQ h3),EV,aa,subM,Kl]
section
variable (c:Clock)
theorem cCL0:RF.ev (.cell 0) [CL c]=some (.i64 c.now.num):=rfl
theorem cCL1:RF.ev (.cell 1) [CL c]=some (.i64 c.now.den):=rfl
theorem cCL3:RF.ev (.cell 3) [CL c]=some (.i64 c.certs.next):=rfl
theorem cCL5:RF.ev (.cell 5) [CL c]=some (sl I1 c.agenda.slots.uses):=rfl
theorem cCL6:RF.ev (.cell 6) [CL c]=some (sl B1 c.agenda.slots.used):=rfl
theorem cCL7:RF.ev (.cell 7) [CL c]=some (sl I1 c.agenda.slots.free):=rfl
theorem aggCL:RF.ev .agg [.i64 c.now.num,.i64 c.now.den,sl row c.pts,.i64 c.certs.next,sl hrow c.certs.list,sl I1 c.agenda.slots.uses,sl B1 c.agenda.slots.used,sl I1 c.agenda.slots.free,sl erow c.agenda.heap,sl I1 c.agenda.wher,sl bF c.due]=some (CL c):=rfl
theorem Ql:RF.ev .agg [R c.now,sl row c.pts,.i64 c.certs.next,sl hrow c.certs.list,sl I1 c.agenda.slots.uses,sl B1 c.agenda.slots.used,sl I1 c.agenda.slots.free,sl erow c.agenda.heap,sl I1 c.agenda.wher,sl bF c.due]=some (CL c):=rfl
theorem cR0 (r:Rt):RF.ev (.cell 0) [R r]=some (.i64 r.num):=rfl
theorem cR1 (r:Rt):RF.ev (.cell 1) [R r]=some (.i64 r.den):=rfl
end
theorem c112 {c:Clock}(h:CSm c):Ans D 112 [CL c] [CL c]:=by
 obtain⟨h1,h2,h3,h4⟩:=h;refine ans_of LA TC rfl ⟨1,?_⟩;unfold BS;simp only[den_lt,shCL,pCL0,pCL2,pCL3,pCL5,cCL10,phi (Xw h1),phi (Qj h2),phi (c209 h3),shapeF,shapeR,cellF,cR0,cR1,shCS,cCS0,cCS1,shAG,cAG0,cAG1,cAG2,cAG3,cAG4,ed (l:=c.due) (f:=bF) (bytes:=24) (z:=3) (by omega) lenD,EV,aa,subM,aggCL]
theorem c215 {c:Clock}(h:CSm c):Ans D 215 [CL c] [CL c]:=by
 obtain⟨h1,h2,⟨⟨h5,h6,h7⟩,h8,h9⟩,h4⟩:=h;refine ans_of Mp Us rfl ⟨1,?_⟩;unfold CJ;simp only[den_lt,shCL,cCL0,cCL1,cCL2,cCL3,cCL4,cCL5,cCL6,cCL7,cCL8,cCL9,cCL10,phi (d67 h1),phi (Bo h2),phi (Qg h4),phi (I3 h8),phi (jQ h9),phi (jQ h5),phi (jQ h7),phi (Bg h6),EV,aa,subM,aggCL]
theorem c299 {c:Clock}(h:CSm c):Ans D 299 [CL c] [CL c]:=by
 obtain⟨h1,h2,⟨⟨h5,h6,h7⟩,h8,h9⟩,h4⟩:=h;refine ans_of Nd Ve rfl ⟨1,?_⟩;unfold DA;simp only[den_lt,shCL,pCL0,cCL2,cCL3,cCL4,cCL5,cCL6,cCL7,cCL8,cCL9,cCL10,phi (d67 h1),phi (Bo h2),phi (Qg h4),phi (I3 h8),phi (jQ h9),phi (jQ h5),phi (jQ h7),phi (Bg h6),EV,aa,subM,Ql]
theorem j6 {x y:Evt}:evLess x y=true↔crs x.time y.time<0∨(crs x.time y.time=0∧x.number<y.number):=by
 unfold evLess sgn;simp only[ct,au,decide_eq_true_eq];constructor
 ·rintro(h|⟨h,k⟩)
  ·left;split at h
   ·assumption
   ·split at h<;>omega
  ·right;refine⟨?_,k⟩
   split at h
   ·omega
   ·split at h
    ·omega
    ·omega
 ·rintro(h|⟨h,k⟩)
  ·left;rw[if_pos h];omega
  ·right;refine⟨?_,k⟩
   rw[if_neg (by omega),if_neg (by omega)]
theorem crs_neg (a b:Rt):crs b a= -crs a b:=by unfold crs;omega
theorem rq {a b c:Rt}(ha:0<a.den)(hb:0<b.den)(hc:0<c.den)(h1:crs a b≤0)(h2:crs b c≤0):crs a c≤0∧(crs a c=0→crs a b=0∧crs b c=0):=by
 have e:crs a c*b.den=crs a b*c.den+crs b c*a.den:=by
  unfold crs;simp only[Int.sub_mul,Int.mul_assoc];rw[fv c.den b.den,fv a.den b.den,fv a.den c.den];omega
 have m1:crs a b*c.den≤0:=cD h1 (by omega);have m2:crs b c*a.den≤0:=cD h2 (by omega);constructor
 ·apply km.1;intro h;have:=l7 h hb;omega
 ·intro h;rw[h,i7] at e;have z1:crs a b*c.den=0:=by omega
  have z2:crs b c*a.den=0:=by omega
  exact⟨(lM.1 z1).resolve_right (by omega),(lM.1 z2).resolve_right (by omega)⟩
theorem evLess_asymm {x y:Evt}(h:evLess x y=true):evLess y x=false:=by
 cases e:evLess y x with
 |false=>rfl
 |true=>
  rw[j6] at h e;rw[crs_neg x.time y.time] at e;omega
theorem wk {x y z:Evt}(hx:rok x.time=true)(hy:rok y.time=true)(hz:rok z.time=true)(h:evLess x y=true)(k:evLess y z=true):evLess x z=true:=by
 rw[j6] at*;have:=rq (a:=x.time) (b:=y.time) (c:=z.time) (by have:=dJ hx;omega) (by have:=dJ hy;omega) (by have:=dJ hz;omega) (by omega) (by omega);omega
theorem j7 {x y z:Evt}(hx:rok x.time=true)(hy:rok y.time=true)(hz:rok z.time=true)(h:evLess x y=false)(k:evLess y z=false):evLess x z=false:=by
 cases e:evLess x z with
 |false=>rfl
 |true=>
  exfalso;have h':¬(evLess x y=true):=by simp[h]
  have k':¬(evLess y z=true):=by simp[k]
  rw[j6] at*;rw[crs_neg z.time x.time] at e;have:=rq (a:=z.time) (b:=y.time) (c:=x.time) (by have:=dJ hz;omega) (by have:=dJ hy;omega) (by have:=dJ hx;omega) (by have:=crs_neg y.time z.time;omega) (by have:=crs_neg x.time y.time;omega);have e1:=crs_neg y.time z.time;have e2:=crs_neg x.time y.time;omega
theorem evLess_ge {x p s:Evt}(hx:rok x.time=true)(hp:rok p.time=true)(hs:rok s.time=true)(h:evLess x p=true)(k:evLess s p=false):evLess s x=false:=by
 cases e:evLess s x with
 |false=>rfl
 |true=>rw[wk hs hx hp e h] at k;cases k
structure SFine (s:Slots):Prop where
 n1:1≤s.uses.length
 n2:s.uses.length≤200
 len:s.used.length=s.uses.length
 nd:s.free.Nodup
 rng: ∀x∈s.free,0≤x∧x<(s.uses.length:Int)
 used: ∀i:Nat,i<s.uses.length→s.used[i]?=some (!decide ((i:Int)∈s.free))
 uses: ∀(i:Nat) (u:Int),s.uses[i]?=some u→0≤u∧u≤1000000∧(s.used[i]?=some true→1≤u)
theorem okR_fine {s:Slots}:s.okR↔SFine s:=by
 unfold Slots.okR;constructor
 ·rintro⟨h1,h2,h3,_,l,h5,h6⟩;obtain⟨m1,m2,m3,m4⟩:=gu.1 h5;rw[aQ] at m3 m4;have hl: ∀i:Nat,i<s.uses.length→l[i]?=some (decide ((i:Int)∈s.free)):=fun i hi=>by
   rw[m4 i hi,bX,if_pos hi];by_cases e:(i:Int)∈s.free<;>simp[e]
  have fact: ∀(i:Nat) (u:Int),s.uses[i]?=some u→0≤u∧u≤1000000∧s.used[i]?=some (!decide ((i:Int)∈s.free))∧(s.used[i]?=some true→1≤u):=fun i u hu=>by
   have hi:=(aj.1 hu).1;obtain⟨b,hb⟩: ∃b,s.used[i]?=some b:=⟨s.used[i]'(by omega),ac _⟩;obtain⟨q1,q2,q3,q4⟩:=h6 i u b _ hu hb (hl i hi);refine⟨q1,q2,?_,fun h=>?_⟩
   ·rw[hb];cases b<;>cases h:decide ((i:Int)∈s.free)<;>simp_all
   ·rw[hb] at h;cases h;exact km.1 fun hlt=>q4 ⟨rfl,by omega⟩
  refine⟨h1,h2,h3,m2,fun x hx=>?_,fun i hi=>?_,fun i u hu=>?_⟩
  ·obtain⟨g1,g2,_⟩:=m1 x hx;rw[aQ] at g2;exact⟨g1,g2⟩
  ·exact(fact i _ (ac hi)).2.2.1
  ·obtain⟨q1,q2,_,q4⟩:=fact i u hu;exact⟨q1,q2,q4⟩
 ·rintro⟨n1,n2,len,nd,rng,used,uses⟩;refine⟨n1,n2,len,nodup_bound nd rng,(List.range s.uses.length).map fun i:Nat=>decide ((i:Int)∈s.free),?_,fun i u b c hu hb hc=>?_⟩
  ·rw[gu];refine⟨fun x hx=>?_,nd,by simp,fun i hi=>?_⟩
   ·obtain⟨g1,g2⟩:=rng x hx;rw[aQ];exact⟨g1,g2,by rw[bX,if_pos (by omega)]⟩
   ·rw[aQ] at hi;rw[aI,dI hi,bX,if_pos hi];by_cases e:(i:Int)∈s.free<;>simp[e]
  ·have hi:=(aj.1 hu).1;rw[aI,dI hi] at hc;simp only[aZ,aK] at hc;have hu':=used i hi;rw[hb] at hu';simp only[aK] at hu';obtain⟨q1,q2,q3⟩:=uses i u hu;refine⟨q1,q2,?_,fun⟨h1,h2⟩=>?_⟩
   ·rw[←hc,hu'];cases decide ((i:Int)∈s.free)<;>simp
   ·subst h1;have:=q3 hb;omega
def gG (s:Slots)(fr:List Int)(i:Nat)(u:Int):Slots:=⟨s.uses.set i (u+1),s.used.set i true,fr⟩
theorem Fm {s:Slots}(h:SFine s){fr:List Int}{i:Nat}{u:Int}(hf:s.free=fr++[(i:Int)])(hu:s.uses[i]?=some u)(hm:u<1000000):SFine (gG s fr i u):=by
 obtain⟨n1,n2,len,nd,rng,used,uses⟩:=h;have hi:=(aj.1 hu).1;rw[hf,cU] at nd;obtain⟨nd1,_,nd2⟩:=nd;have hni:(i:Int)∉fr:=fun hm'=>nd2 _ hm' _ (by simp) rfl;unfold gG;refine⟨by simpa using n1,by simpa using n2,by simpa using len,nd1,fun x hx=>?_,fun j hj=>?_,fun j v hv=>?_⟩
 ·simp only[aB];exact rng x (by rw[hf];simp[hx])
 ·simp only[aB] at hj⊢;by_cases e:i=j
  ·subst e;rw[aC (by omega)];simp[hni]
  ·rw[aE e,used j hj,hf];have:((j:Int)∈fr++[(i:Int)])↔(j:Int)∈fr:=by
    simp only[bh,bm];exact⟨fun h=>h.resolve_right (by omega),.inl⟩
   simp only[this]
 ·simp only at hv⊢;by_cases e:i=j
  ·subst e;rw[aC hi] at hv;cases hv;obtain⟨q1,q2,_⟩:=uses i u hu;exact⟨by omega,by omega,fun _=>by omega⟩
  ·rw[aE e] at hv⊢;exact uses j v hv
theorem So {fr k:List Int}:RF.ev (.tsub 1) [sl I1 (fr++k),.v (.int .i64 0),.v (.int .i64 (fr.length:Int))]=some (sl I1 fr):=by
 have he:elsOk' 1 ((fr++k).map I1)=true:=by
  cases h:fr++k with
  |nil=>rfl
  |cons a l=>simp[elsOk',lenI]
 rw[sU,if_pos ⟨by omega,by omega,by simp;omega,he,by decide⟩];simp
theorem downN {n:Nat}(h:n<1000000000):IntKind.i64.wrap (((n+1:Nat):Int)-1)=(n:Int):=m9 h
theorem Qm {fr:List Int}{i:Int}(hl:fr.length≤900):Ans D 412 [sl I1 (fr++[i])] [sl I1 fr,.i64 i]:=by
 have bn:RF.ev .bnd [.v (.int .i64 (fr.length:Int)),.v (.int .i64 ((fr.length+1:Nat):Int))]=some (.i64 (fr.length:Int)):=by rw[gZ,if_pos ⟨by omega,by omega⟩]
 have hx:(fr++[i])[fr.length]?=some i:=by simp
 refine ans_of NZ VY rfl ⟨1,?_⟩;unfold Ek;simp only[EV,aa,an,az,downN (show fr.length<1000000000 by omega),bn,So,den_lt,phi (Qh (l:=fr) (by omega)),tixM hx (lenI _),eltM hx,rowI,subM]
def gf (s:Slots):Bool:=match s.free.getLast? with
 |some x=>match s.uses[x.toNat]? with
  |some u=>decide (u<1000000)
  |none=>false
 |none=>false
theorem free_last {s:Slots}(h:SFine s):s.free=[]∨ ∃(fr:List Int) (i:Nat) (u:Int),s.free=fr++[(i:Int)]∧s.uses[i]?=some u∧fr.length<200∧i<s.uses.length:=by
 rcases fw s.free with e|⟨fr,x,e⟩
 ·exact .inl e
 ·right
  rw[List.concat_eq_append] at e;have hx:=h.rng x (by rw[e];simp);have hb:=nodup_bound h.nd h.rng;rw[e,an,az] at hb;have:=h.n2;exact⟨fr,x.toNat,s.uses[x.toNat]'(by omega),by rw[e];congr 2;omega,ac _,by omega,by omega⟩
theorem nA {s:Slots}{fr:List Int}{i:Nat}{u:Int}(h:s.free=fr++[(i:Int)])(hu:s.uses[i]?=some u):gf s=decide (u<1000000):=by
 unfold gf;rw[h];simp[hu]
theorem Qn {s:Slots}(h:SFine s):Ans D 373 [SL s] [.bool (gf s)]:=by
 refine ans_of NO VN rfl ⟨1,?_⟩;unfold Ea;rcases free_last h with e|⟨fr,i,u,e,hu,h1,h2⟩
 ·have:gf s=false:=by unfold gf;rw[e];rfl
  simp only[den_lt,shSL,cSL2,e,EV,fy,bJ,this];rw[if_neg (by decide)];unfold yM;simp only[EV]
 ·have hx:(fr++[(i:Int)])[fr.length]?=some (i:Int):=by simp
  simp only[den_lt,shSL,cSL2,cSL0,e,EV,aa,an,az,downN (show fr.length<1000000000 by omega),tixM hx (lenI _),eltM hx,tixM hu (lenI _),eltM hu,rowI,nA e hu]
  rw[if_pos (decide_eq_true (by omega))];unfold yM;simp only[EV]
def u9:PV:= .agg [.sl [],.sl [],.sl []]
theorem ss_of {s:Slots}(h:SFine s):SSm s:=⟨by have:=h.n2;omega,by have:=h.n2;have:=h.len;omega,by have:=nodup_bound h.nd h.rng;have:=h.n2;omega⟩
theorem c409 {s:Slots}(h:SFine s){fr:List Int}{i:Nat}{u:Int}(e:s.free=fr++[(i:Int)])(hu:s.uses[i]?=some u)(hm:u<1000000):Ans D 409 [SL s] [SL (gG s fr i u),HD ⟨i,u+1⟩]:=by
 have hi:=get_lt hu;have hb:=nodup_bound h.nd h.rng;have n2:=h.n2;rw[e,an,az] at hb;have hx:(fr++[(i:Int)])[fr.length]?=some (i:Int):=by simp
 have bn:RF.ev .bnd [.v (.int .i64 (fr.length:Int)),.v (.int .i64 ((fr.length+1:Nat):Int))]=some (.i64 (fr.length:Int)):=by rw[gZ,if_pos ⟨by omega,by omega⟩]
 have wu:IntKind.i64.wrap (u+1)=u+1:=bU (by have:=(h.uses i u hu).1;omega) (by omega);have hu':(s.uses.set i (u+1))[i]?=some (u+1):=by rw[aC hi]
 have sb:RF.ev .sub [sl I1 (fr++[(i:Int)]),.v (.int .i64 0),.v (.int .i64 (fr.length:Int))]=some (sl I1 fr):=by
  rw[qa,if_pos (by simp;omega)];simp
 have s1:=subM (f:=I1) (l:=s.uses.set i (u+1));rw[aB] at s1;have s2:=subM (f:=B1) (l:=s.used.set i true);rw[aB] at s2;refine ans_of k409_ok s409 rfl ⟨1,?_⟩;unfold k409;simp only[den_lt,shSL,phi (c286 (ss_of h)),cSL0,cSL1,cSL2,e,EV,aa,an,az,downN (show fr.length<1000000000 by omega),ixM (show fr.length<fr.length+1 by omega),eltM hx,rowI,bn,ixM hi,eltM hu,wu,setI hi,ixM (show i<s.used.length by rw[h.len];exact hi),setB (show i<s.used.length by rw[h.len];exact hi),eltM hu',s1,s2,sb]
 rfl
def H0:PV:= .agg [.i64 0,.i64 0]
theorem aggS0:RF.ev .agg [.sl [],.sl [],.sl []]=some u9:=rfl
theorem aggH0:RF.ev .agg [.v (.int .i64 0),.v (.int .i64 0)]=some H0:=rfl
theorem nB {s:Slots}(h:SFine s):gSl s=false:=by
 have:=h.n2;have:=h.len;have:=nodup_bound h.nd h.rng;unfold gSl;simp only[aY,decide_eq_false_iff_not];omega
open Classical in
theorem Xy {s:Slots}(h:SFine s){fr:List Int}{i:Nat}{u:Int}(e:s.free=fr++[(i:Int)])(hu:s.uses[i]?=some u)(hm:u<1000000):Ans D 382 [SL s] [SL (gG s fr i u),HD ⟨i,u+1⟩,.i64 0]:=by
 have hi:=get_lt hu;have hb:=nodup_bound h.nd h.rng;have n2:=h.n2;rw[e,an,az] at hb;have hc:=phi (Bh (nB h));rw[decide_eq_true (okR_fine.2 h)] at hc;have e0:okE true=0:=rfl;rw[e0] at hc;have wu:IntKind.i64.wrap (u+1)=u+1:=bU (by have:=(h.uses i u hu).1;omega) (by omega);have hu':(s.uses.set i (u+1))[i]?=some (u+1):=by rw[aC hi]
 have s1:=subM (f:=I1) (l:=s.uses.set i (u+1));rw[aB] at s1;have s2:=subM (f:=B1) (l:=s.used.set i true);rw[aB] at s2;refine ans_of k382_ok s382 rfl ⟨1,?_⟩;unfold k382;simp only[den_lt,shSL,hc,cSL0,cSL1,cSL2,EV,aa,decide_true,ak,ad,if_false];have hne:¬((s.free.length:Nat):Int)=0:=by rw[e];simp;omega
 have c4:=phi (Qm (fr:=fr) (i:=(i:Int)) (by omega));rw[←e] at c4;simp only[hne,decide_false,ad,if_false,den_lt,c4,cSL0,tixM hu (lenI _),eltM hu,rowI,EV,decide_eq_true_eq];rw[if_neg (by omega)];simp only[den_lt,shSL,phi (c413 (ss_of h)),cSL0,cSL1,EV,aa,ixM (show i<s.used.length by rw[h.len];exact hi),setB (show i<s.used.length by rw[h.len];exact hi),ixM hi,eltM hu,rowI,wu,setI hi,eltM hu',s1,s2]
 rfl
def nfree (n:Nat):List Int:=(List.range n).map fun i:Nat=>((n-1-i:Nat):Int)
theorem pSL (s:Slots):RF.ev (.part 0 3) [SL s]=some (SL s):=rfl
def addC (c:Certs)(x:Crt):Certs:=⟨c.next+1,c.list++[⟨c.next,x⟩]⟩
theorem Fo {c:Certs}{x:Crt}(h:bW c)(hx:x.ok)(hn: ∀g∈c.list,g.cert≠x)(h1:c.list.length<200)(h2:c.next<1000000):bW (addC c x):=by
 obtain⟨a1,a2,a3,a4⟩:=h;unfold addC;refine⟨by simp;omega,by simp only;omega,by simp only;omega,fun i g hg=>?_⟩;simp only at hg⊢;by_cases e:i<c.list.length
 ·rw[aw e] at hg;obtain⟨q1,q2,q3,q4,q5⟩:=a4 i g hg;refine⟨q1,q2,by omega,fun g' h0 hg'=>?_,fun k hk g' hg'=>?_⟩
  ·rw[aw (by omega)] at hg';exact q4 g' h0 hg'
  ·rw[aw (by omega)] at hg';exact q5 k hk g' hg'
 ·have hi:i=c.list.length:=by
   have:=get_lt hg;simp at this;omega
  subst hi;rw[bg (am _),fC] at hg;simp only[cL,aK] at hg;subst hg;refine⟨hx,a2,by simp only;omega,fun g' h0 hg'=>?_,fun k hk g' hg'=>?_⟩
  ·rw[aw (by omega)] at hg';exact(a4 _ g' hg').2.2.1
  ·rw[aw hk] at hg';exact hn g' (ah hg')
theorem Km (n:Int)(x:Crt):RF.ev .agg [.i64 n,CP x]=some (HP ⟨n,x⟩):=rfl
theorem bsH (h:Held):RF.ev (.bs 1 [KP.z,KP.z,KP.z] [0]) [HP h]=some (sl hrow [h]):=rfl
theorem Kn (h:Held):RF.ev .sub [sl hrow [h],.v (.int .i64 0),.v (.int .i64 1)]=some (sl hrow [h]):=rfl
theorem Fq (n:Int)(l:List Held):RF.ev .agg [.i64 n,sl hrow l]=some (CS ⟨n,l⟩):=rfl
theorem pCP (x:Crt):RF.ev (.part 0 2) [CP x]=some (CP x):=rfl
theorem Qo {c:Certs}{x:Crt}(h:c.list.length<200):RF.ev (.app 24 3) [sl hrow c.list,.v (.int .i64 (c.list.length:Int)),sl hrow [⟨c.next,x⟩]]=some (sl hrow (c.list++[⟨c.next,x⟩])):=
 dc (f:=hrow) (l:=c.list) (k:=[⟨c.next,x⟩]) (bytes:=24) (z:=3) (by simp;omega) lenH
open Classical in
theorem Qp {c:Certs}{x:Crt}(h:bW c)(hx:x.ok)(hn: ∀g∈c.list,g.cert≠x)(h1:c.list.length<200)(h2:c.next<1000000):Ans D 375 [CS c,CP x] [CS (addC c x),.i64 c.next,.i64 0]:=by
 have e0:okE true=0:=rfl;have m1:=phi (IP c);rw[decide_eq_true h,e0] at m1;have m2:=phi (IN x);rw[decide_eq_true hx] at m2;have m3:=phi (Bc (c:=c) (x:=x) (by omega));rw[show(c.list.any fun h=>decide (h.cert=x))=false from by rw[cF];intro g hg;simpa using hn g hg] at m3
 have w:IntKind.i64.wrap (c.next+1)=c.next+1:=bU (by have:=h.2.1;omega) (by omega);have s1:=subM (f:=hrow) (l:=c.list++[⟨c.next,x⟩]);refine ans_of Ap PI rfl ⟨1,?_⟩;unfold yN;simp only[den_lt,shCS,shCP,m1,m2,m3,cCS0,cCS1,EV,aa,decide_true,ak,ad,if_false,decide_eq_true_eq];rw[if_neg (by omega),if_neg (by omega)];simp only[den_lt,phi (Qj (c:=c) (by omega)),shCS,cCS0,cCS1,pCP,Km,bsH,Kn,EV,aa,Qo h1,w,s1,Fq];rfl
open Classical in
theorem Qq {c:Certs}{x:Crt}(h:bW c)(hx:x.ok)(hn: ∀g∈c.list,g.cert≠x)(h1:c.list.length<200)(h2:c.next<1000000):Ans D 320 [CS c,CP x] [CS (addC c x),.i64 c.next,.i64 0]:=by
 have e0:okE true=0:=rfl;have m1:=phi (Bi (c:=c) (by omega));rw[decide_eq_true h,e0] at m1;have m2:=phi (IO x);rw[decide_eq_true hx] at m2;have w:IntKind.i64.wrap (c.next+1)=c.next+1:=bU (by have:=h.2.1;omega) (by omega);have s1:=subM (f:=hrow) (l:=c.list++[⟨c.next,x⟩]);refine ans_of k320_ok s320 rfl ⟨1001,?_⟩;unfold k320;simp only[den_lt,shCS,shCP,m1,m2,cCS1,EV,aa,decide_true,ak,ad,if_false];refine(run_list (m:=1001) (l:=c.list) (p:=fun g=>!decide (g.cert=x)) (st:=fun i=>[.i64 (i:Int)]) (r:=none) (fin:=some [CS (addC c x),.i64 c.next,.i64 0]) (fun i g self hg _=>?_) (fun hall self=>?_) (by omega)).trans ?_
 ·unfold oT;simp only[den_lt,cCS1,tixM hg (lenH _),eltM hg,rowH,pHP,eqvC,EV,decide_eq_true_eq,if_lt (get_lt hg),up1 (show i<1000000000 by have:=get_lt hg;omega)]
  rw[if_neg (hn g (ah hg)),if_pos (by simpa using hn g (ah hg))]
 ·unfold oT yx;simp only[den_lt,cCS0,cCS1,EV,aa,decide_eq_true_eq,if_ge];rw[if_neg (by decide),if_neg (by omega),if_neg (by omega)];simp only[den_lt,phi (Bo (l:=c.list) (by omega)),cCS0,cCS1,pCP,Km,bsH,Kn,EV,aa,Qo h1,w,s1,Fq];rfl
 ·rw[if_pos (by rw[aG];intro g hg;simpa using hn g hg)]
structure Plc (s:Slots)(hp:List Evt)(wh:List Int):Prop where
 len:wh.length=s.uses.length
 at_: ∀(k:Nat) (e:Evt),hp[k]?=some e→ ∃(j:Nat) (u:Int),e.hnd=⟨(j:Int),u⟩∧s.used[j]?=some true∧s.uses[j]?=some u∧wh[j]?=some (k:Int)
 of_: ∀j:Nat,s.used[j]?=some true→ ∃(k:Nat) (e:Evt) (u:Int),wh[j]?=some (k:Int)∧hp[k]?=some e∧s.uses[j]?=some u∧e.hnd=⟨(j:Int),u⟩
 off: ∀j:Nat,s.used[j]?=some false→wh[j]?=some (-1)
theorem aP {α:Type}{l:List α}{i:Nat}{a:α}(h:l[i]?=some a):i<l.length:=(aj.1 h).1
theorem nC {s:Slots}{hp:List Evt}{wh:List Int}(h:Plc s hp wh){i k:Nat}{e f:Evt}(hi:hp[i]?=some e)(hk:hp[k]?=some f)(hne:i≠k):
  Plc s ((hp.set i f).set k e) ((wh.set f.hnd.index.toNat (i:Int)).set e.hnd.index.toNat (k:Int)):=by
 obtain⟨je,ue,e1,e2,e3,e4⟩:=h.at_ i e hi;obtain⟨jf,uf,f1,f2,f3,f4⟩:=h.at_ k f hk;have hi':=aP hi;have hk':=aP hk;have we:=aP e4;have wf:=aP f4;have hj:je≠jf:=fun q=>by
  subst q;rw[e4] at f4;simp only[aK] at f4;omega
 rw[e1,f1];simp only[aq];have W: ∀j:Nat,((wh.set jf (i:Int)).set je (k:Int))[j]?=if j=je then some (k:Int) else if j=jf then some (i:Int) else wh[j]?:=fun j=>by
  by_cases a:j=je
  ·subst a;rw[if_pos rfl,aC (by rw[aB];exact we)]
  ·rw[if_neg a,aE (fun q=>a q.symm)];by_cases b:j=jf
   ·subst b;rw[if_pos rfl,aC wf]
   ·rw[if_neg b,aE (fun q=>b q.symm)]
 have P: ∀m:Nat,((hp.set i f).set k e)[m]?=if m=k then some e else if m=i then some f else hp[m]?:=fun m=>by
  by_cases a:m=k
  ·subst a;rw[if_pos rfl,aC (by rw[aB];exact hk')]
  ·rw[if_neg a,aE (fun q=>a q.symm)];by_cases b:m=i
   ·subst b;rw[if_pos rfl,aC hi']
   ·rw[if_neg b,aE (fun q=>b q.symm)]
 refine⟨by simpa using h.len,fun m g hg=>?_,fun j hu=>?_,fun j hu=>?_⟩
 ·rw[P] at hg;by_cases a:m=k
  ·subst a;rw[if_pos rfl] at hg;cases hg;exact⟨je,ue,e1,e2,e3,by rw[W,if_pos rfl]⟩
  ·rw[if_neg a] at hg;by_cases b:m=i
   ·subst b;rw[if_pos rfl] at hg;cases hg;exact⟨jf,uf,f1,f2,f3,by rw[W,if_neg (fun q=>hj q.symm),if_pos rfl]⟩
   ·rw[if_neg b] at hg;obtain⟨j,u,g1,g2,g3,g4⟩:=h.at_ m g hg;refine⟨j,u,g1,g2,g3,?_⟩;rw[W,if_neg,if_neg,g4]
    ·rintro rfl;rw[f4] at g4;simp only[aK] at g4;omega
    ·rintro rfl;rw[e4] at g4;simp only[aK] at g4;omega
 ·by_cases a:j=je
  ·subst a;exact⟨k,e,ue,by rw[W,if_pos rfl],by rw[P,if_pos rfl],e3,e1⟩
  ·by_cases b:j=jf
   ·subst b;exact⟨i,f,uf,by rw[W,if_neg a,if_pos rfl],by rw[P,if_neg hne,if_pos rfl],f3,f1⟩
   ·obtain⟨m,g,u,g1,g2,g3,g4⟩:=h.of_ j hu;refine⟨m,g,u,by rw[W,if_neg a,if_neg b,g1],?_,g3,g4⟩;rw[P,if_neg,if_neg,g2]
    ·rintro rfl;rw[hi] at g2;cases g2;rw[e1] at g4;simp only[Hnd.mk.injEq] at g4;omega
    ·rintro rfl;rw[hk] at g2;cases g2;rw[f1] at g4;simp only[Hnd.mk.injEq] at g4;omega
 ·have a:j≠je:=fun q=>by subst q;rw[e2] at hu;cases hu
  have b:j≠jf:=fun q=>by subst q;rw[f2] at hu;cases hu
  rw[W,if_neg a,if_neg b];exact h.off j hu
theorem plc_push {s:Slots}(hs:SFine s){hp:List Evt}{wh:List Int}(h:Plc s hp wh){fr:List Int}{i:Nat}{u:Int}{x:Evt}(e:s.free=fr++[(i:Int)])(hu:s.uses[i]?=some u)(hx:x.hnd=⟨(i:Int),u+1⟩):
  Plc (gG s fr i u) (hp++[x]) (wh.set i (hp.length:Int)):=by
 have hi:=aP hu;have hui:s.used[i]?=some false:=by rw[hs.used i hi,e];simp
 have hul:=aP hui;have hw:i<wh.length:=by rw[h.len];exact hi
 have U: ∀j:Nat,(s.used.set i true)[j]?=if j=i then some true else s.used[j]?:=fun j=>by
  by_cases a:j=i
  ·subst a;rw[if_pos rfl,aC hul]
  ·rw[if_neg a,aE (fun q=>a q.symm)]
 have V: ∀j:Nat,(s.uses.set i (u+1))[j]?=if j=i then some (u+1) else s.uses[j]?:=fun j=>by
  by_cases a:j=i
  ·subst a;rw[if_pos rfl,aC hi]
  ·rw[if_neg a,aE (fun q=>a q.symm)]
 have W: ∀j:Nat,(wh.set i (hp.length:Int))[j]?=if j=i then some (hp.length:Int) else wh[j]?:=fun j=>by
  by_cases a:j=i
  ·subst a;rw[if_pos rfl,aC hw]
  ·rw[if_neg a,aE (fun q=>a q.symm)]
 unfold gG;refine⟨by simpa using h.len,fun m g hg=>?_,fun j hj=>?_,fun j hj=>?_⟩
 ·by_cases a:m<hp.length
  ·rw[aw a] at hg;obtain⟨j,v,g1,g2,g3,g4⟩:=h.at_ m g hg;have b:j≠i:=fun q=>by subst q;rw[hui] at g2;cases g2
   exact⟨j,v,g1,by simp only[U,if_neg b,g2],by simp only[V,if_neg b,g3],by simp only[W,if_neg b,g4]⟩
  ·have hm:=aP hg;rw[an,az] at hm;have:m=hp.length:=by omega
   subst this;rw[bg (am _),fC] at hg;simp only[cL,aK] at hg;subst hg;exact⟨i,u+1,hx,by simp only[U,if_true],by simp only[V,if_true],by simp only[W,if_true]⟩
 ·simp only[U] at hj;by_cases a:j=i
  ·subst a;exact⟨hp.length,x,u+1,by simp only[W,if_true],by simp,by simp only[V,if_true],hx⟩
  ·rw[if_neg a] at hj;obtain⟨k,g,v,g1,g2,g3,g4⟩:=h.of_ j hj;exact⟨k,g,v,by simp only[W,if_neg a,g1],by rw[aw (aP g2)];exact g2,by simp only[V,if_neg a,g3],g4⟩
 ·simp only[U] at hj;by_cases a:j=i
  ·subst a;rw[if_pos rfl] at hj;cases hj
  ·rw[if_neg a] at hj;simp only[W,if_neg a];exact h.off j hj
def swpH (hp:List Evt)(i k:Nat)(e f:Evt):List Evt:=(hp.set i f).set k e
def d9 (wh:List Int)(i k:Nat)(e f:Evt):List Int:=(wh.set f.hnd.index.toNat (i:Int)).set e.hnd.index.toNat (k:Int)
def upS:Nat→List Evt→List Int→Nat→List Evt×List Int×Nat
 |0,hp,wh,i=>(hp,wh,i)
 |n+1,hp,wh,i=>match hp[i]?,hp[(i-1)/2]? with
  |some e,some p=>if 0<i∧evLess e p=true then upS n (swpH hp i ((i-1)/2) e p) (d9 wh i ((i-1)/2) e p) ((i-1)/2) else(hp,wh,i)
  |_,_=>(hp,wh,i)
def vb (hp:List Evt)(i:Nat):Prop:=
 (∀(c:Nat) (e p:Evt),0<c→c≠i→hp[c]?=some e→hp[(c-1)/2]?=some p→evLess e p=false)∧
 ∀(c:Nat) (e p:Evt),0<i→0<c→(c-1)/2=i→hp[c]?=some e→hp[(i-1)/2]?=some p→evLess e p=false
def Ord (hp:List Evt):Prop:= ∀(c:Nat) (e p:Evt),0<c→hp[c]?=some e→hp[(c-1)/2]?=some p→evLess e p=false
theorem gH {hp:List Evt}{i k:Nat}{e f:Evt}(hi:hp[i]?=some e)(hk:hp[k]?=some f)(m:Nat):(swpH hp i k e f)[m]?=if m=k then some e else if m=i then some f else hp[m]?:=by
 have hi':=aP hi;have hk':=aP hk;unfold swpH;by_cases a:m=k
 ·subst a;rw[if_pos rfl,aC (by rw[aB];exact hk')]
 ·rw[if_neg a,aE (fun q=>a q.symm)];by_cases b:m=i
  ·subst b;rw[if_pos rfl,aC hi']
  ·rw[if_neg b,aE (fun q=>b q.symm)]
theorem jm {hp:List Evt}{i k:Nat}{e f:Evt}(hi:hp[i]?=some e)(hk:hp[k]?=some f):(swpH hp i k e f).Perm hp:=by
 obtain⟨h1,h2⟩:=aj.1 hi;obtain⟨h3,h4⟩:=aj.1 hk;unfold swpH;rw[←h2,←h4];exact List.set_set_perm h1 h3
theorem I4 {hp:List Evt}{i:Nat}{e p:Evt}(hr: ∀x∈hp,rok x.time=true)(ho:vb hp i)(h0:0<i)(hi:hp[i]?=some e)(hp':hp[(i-1)/2]?=some p)(hl:evLess e p=true):vb (swpH hp i ((i-1)/2) e p) ((i-1)/2):=by
 obtain⟨o1,o2⟩:=ho;have re:=hr e (ah hi);have rp:=hr p (ah hp');have G:=gH hi hp';refine⟨fun c x q c0 cn hx hq=>?_,fun c x q k0 c0 hc hx hq=>?_⟩
 ·rw[G] at hx hq;rw[if_neg cn] at hx;by_cases a:c=i
  ·subst a;rw[if_pos rfl] at hx hq;cases hx;cases hq;exact evLess_asymm hl
  ·rw[if_neg a] at hx;by_cases b:(c-1)/2=(i-1)/2
   ·rw[if_pos b] at hq;cases hq;have:=o1 c x p c0 a hx (by rw[b];exact hp');exact evLess_ge re rp (hr x (ah hx)) hl this
   ·rw[if_neg b] at hq;by_cases d:(c-1)/2=i
    ·rw[if_pos d] at hq;cases hq;exact o2 c x p h0 c0 d hx hp'
    ·rw[if_neg d] at hq;exact o1 c x q c0 a hx hq
 ·rw[G] at hx hq;rw[if_neg (by omega)] at hx;rw[if_neg (by omega),if_neg (by omega)] at hq;have up:=o1 ((i-1)/2) p q k0 (by omega) hp' hq;by_cases a:c=i
  ·subst a;rw[if_pos rfl] at hx;cases hx;exact up
  ·rw[if_neg a] at hx;have:=o1 c x p c0 a hx (by rw[hc];exact hp');exact j7 (hr x (ah hx)) rp (hr q (ah hq)) this up
theorem ru {s:Slots}: ∀(n:Nat) (hp:List Evt) (wh:List Int) (i:Nat),i≤n→i<hp.length→(∀x∈hp,rok x.time=true)→vb hp i→Plc s hp wh→
  Ord (upS n hp wh i).1∧(upS n hp wh i).1.Perm hp∧Plc s (upS n hp wh i).1 (upS n hp wh i).2.1∧(upS n hp wh i).1[(upS n hp wh i).2.2]?=hp[i]?∧(upS n hp wh i).2.2≤i
 |0,hp,wh,i,hn,hi,hr,ho,hP=>by
  have:i=0:=by omega
  subst this;exact⟨fun c e p c0 he hp'=>ho.1 c e p c0 (by omega) he hp',.refl _,hP,rfl,am _⟩
 |n+1,hp,wh,i,hn,hi,hr,ho,hP=>by
  obtain⟨e,he⟩: ∃e,hp[i]?=some e:=⟨hp[i],ac _⟩;obtain⟨p,hp'⟩: ∃p,hp[(i-1)/2]?=some p:=⟨hp[(i-1)/2]'(by omega),ac _⟩;unfold upS;rw[he,hp'];simp only;by_cases hc:0<i∧evLess e p=true
  ·rw[if_pos hc];obtain⟨h0,hl⟩:=hc;have pm:=jm he hp';obtain⟨q1,q2,q3,q4,q5⟩:=ru n (swpH hp i ((i-1)/2) e p) (d9 wh i ((i-1)/2) e p) ((i-1)/2) (by omega) (by rw[pm.length_eq];omega) (fun x hx=>hr x (pm.mem_iff.1 hx)) (I4 hr ho h0 he hp' hl) (nC hP he hp' (by omega));refine⟨q1,q2.trans pm,q3,?_,by omega⟩;rw[q4,gH he hp',if_pos rfl]
  ·rw[if_neg hc];refine⟨fun c x q c0 hx hq=>?_,.refl _,hP,he,am _⟩;by_cases a:c=i
   ·subst a;rw[he] at hx;cases hx;rw[hp'] at hq;cases hq;cases hl:evLess e p with
    |false=>rfl
    |true=>exact absurd ⟨c0,hl⟩ hc
   ·exact ho.1 c x q c0 a hx hq
theorem kB {α:Type}(p:α→Bool): ∀l:List α,l.length=(l.filter p).length+(l.filter fun x=>!p x).length
 |[]=>rfl
 |a::l=>by
  have:=kB p l;rw[bE,bE];cases p a<;>simp<;>omega
theorem iJ {a:Agenda}(hs:SFine a.slots)(hp:jB a):Plc a.slots a.heap a.wher:=by
 obtain⟨p1,p2,p3⟩:=hp;have hlen:=hs.len;have get: ∀j:Nat,j<a.slots.uses.length→ ∃b w u,a.slots.used[j]?=some b∧a.wher[j]?=some w∧a.slots.uses[j]?=some u:=fun j hj=>
  ⟨_,_,_,ac (by omega),ac (by omega),ac hj⟩
 have of_: ∀j:Nat,a.slots.used[j]?=some true→ ∃(k:Nat) (e:Evt) (u:Int),a.wher[j]?=some (k:Int)∧a.heap[k]?=some e∧a.slots.uses[j]?=some u∧e.hnd=⟨(j:Int),u⟩:=fun j hj=>by
  obtain⟨b,w,u,h1,h2,h3⟩:=get j (by have:=aP hj;omega);have:=p3 j true w u hj h2 h3;rw[if_pos rfl] at this;obtain⟨w0,e,q1,q2⟩:=this;exact⟨w.toNat,e,u,by rw[h2];congr 1;omega,q1,h3,q2⟩
 refine⟨p1,fun k e hk=>?_,of_,fun j hj=>?_⟩
 ·
  let W:Nat→Nat:=fun j=>((a.wher[j]?).getD 0).toNat
  let U:Nat→Bool:=fun j=>decide (a.slots.used[j]?=some true)
  have hnd:(((List.range a.slots.uses.length).filter U).map W).Nodup:=by
   rw[List.Nodup,dE];refine List.Pairwise.imp_of_mem (R:=fun x y=>x≠y) (fun{x y} hx hy hne=>?_) (List.nodup_range.filter _);intro h;obtain⟨k1,e1,u1,g1,g2,_,g4⟩:=of_ x (by have:=(aX.1 hx).2;exact of_decide_eq_true this);obtain⟨k2,e2,u2,f1,f2,_,f4⟩:=of_ y (by have:=(aX.1 hy).2;exact of_decide_eq_true this);simp only[W,g1,f1,bj,aq] at h;subst h;rw[g2] at f2;cases f2;rw[g4] at f4;simp only[Hnd.mk.injEq] at f4;omega
  have hsub: ∀x∈((List.range a.slots.uses.length).filter U).map W,x∈List.range a.heap.length:=fun x hx=>by
   obtain⟨j,hj,rfl⟩:=aN.1 hx;obtain⟨k1,e1,u1,g1,g2,_,g4⟩:=of_ j (by have:=(aX.1 hj).2;exact of_decide_eq_true this);simp only[W,g1,bj,aq,bT];exact aP g2
  have hfree:((List.range a.slots.uses.length).filter fun j=>!U j).length≤a.slots.free.length:=by
   have:=tY (l:=((List.range a.slots.uses.length).filter fun j=>!U j).map fun j:Nat=>(j:Int)) (k:=a.slots.free) (by
    rw[List.Nodup,dE];exact(List.nodup_range.filter _).imp fun h e=>h (by omega)) (fun x hx=>by
     obtain⟨j,hj,rfl⟩:=aN.1 hx;obtain⟨h1,h2⟩:=aX.1 hj;rw[bT] at h1;have hu:=hs.used j h1;simp only[U,ai,decide_eq_false_iff_not] at h2;by_cases hm:(j:Int)∈a.slots.free
     ·exact hm
     ·exact absurd (by rw[hu];simp[hm]) h2)
   simpa using this
  have hsplit:=kB U (List.range a.slots.uses.length);rw[gQ] at hsplit;have hperm:=sub_perm hnd hsub (by rw[gQ,aa];omega);have hk':k∈((List.range a.slots.uses.length).filter U).map W:=hperm.mem_iff.2 (bT.2 (aP hk));obtain⟨j,hj,hjk⟩:=aN.1 hk';have hju:a.slots.used[j]?=some true:=by have:=(aX.1 hj).2;exact of_decide_eq_true this
  obtain⟨k1,e1,u1,g1,g2,g3,g4⟩:=of_ j hju;simp only[W,g1,bj,aq] at hjk;subst hjk;rw[hk] at g2;cases g2;exact⟨j,u1,g4,hju,g3,g1⟩
 ·obtain⟨b,w,u,h1,h2,h3⟩:=get j (by have:=aP hj;omega);have:=p3 j false w u hj h2 h3;rw[if_neg (by simp)] at this;rw[h2,this]
theorem of_plc {a:Agenda}(h:Plc a.slots a.heap a.wher)(hl:a.heap.length+a.slots.free.length=a.slots.uses.length):jB a:=by
 refine⟨h.len,hl,fun j b w u hb hw hu=>?_⟩;cases b with
 |true=>
  obtain⟨k,e,v,g1,g2,g3,g4⟩:=h.of_ j hb;rw[hw] at g1;cases g1;rw[hu] at g3;cases g3;rw[if_pos rfl,aq];exact⟨by omega,e,g2,g4⟩
 |false=>
  rw[if_neg (by simp)];have:=h.off j hb;rw[hw] at this;cases this;rfl
def d4 (a:Agenda)(fr:List Int)(i:Nat)(u:Int)(t:Rt)(n:Int):Agenda:=
 let r:=upS (a.heap.length+1) (a.heap++[⟨t,n,⟨i,u+1⟩⟩]) (a.wher.set i (a.heap.length:Int)) a.heap.length
 ⟨gG a.slots fr i u,r.1,r.2.1⟩
theorem ord_of {a:Agenda}(h:cV a):Ord a.heap:=fun c e p c0 he hp=>by
 have:=h.2.2.2.2 (c-1) e p (by rw[show c-1+1=c by omega];exact he) hp
 exact this
theorem tr {a:Agenda}(h:cV a){fr:List Int}{i:Nat}{u:Int}(hf:a.slots.free=fr++[(i:Int)])(hu:a.slots.uses[i]?=some u)(hm:u<1000000){t:Rt}{n:Int}(hx:rok t=true∧0≤n∧n≤1000000)(hn:n∉a.heap.map (·.number)):
  cV (d4 a fr i u t n)∧(d4 a fr i u t n).heap.Perm (a.heap++[⟨t,n,⟨i,u+1⟩⟩])∧(d4 a fr i u t n).wher.length=a.wher.length:=by
 have hs:=okR_fine.1 h.1;have hP:=iJ hs h.2.1;have hP':=plc_push hs hP hf hu (x:=⟨t,n,⟨i,u+1⟩⟩) rfl;have hs':=Fm hs hf hu hm;have hl:=h.2.1.2.1;have hr: ∀x∈a.heap++[(⟨t,n,⟨i,u+1⟩⟩:Evt)],EvOk x:=fun x hx'=>by
  rcases bh.1 hx' with h1|h1
  ·exact h.2.2.1 x h1
  ·rw[bm] at h1;subst h1;exact hx
 have hex:vb (a.heap++[⟨t,n,⟨i,u+1⟩⟩]) a.heap.length:=by
  refine⟨fun c e p c0 cn he hp=>?_,fun c e p _ c0 hc he _=>?_⟩
  ·have h1:=aP he;rw[an,az] at h1;rw[aw (by omega)] at he hp;exact ord_of h c e p c0 he hp
  ·have h1:=aP he;rw[an,az] at h1;omega
 obtain⟨q1,q2,q3,_,_⟩:=ru (s:=gG a.slots fr i u) (a.heap.length+1) (a.heap++[⟨t,n,⟨i,u+1⟩⟩]) (a.wher.set i (a.heap.length:Int)) a.heap.length (by omega) (by simp) (fun x hx'=>(hr x hx').1) hex hP';unfold d4;refine⟨⟨okR_fine.2 hs',of_plc q3 ?_,fun e he=>hr e (q2.mem_iff.1 he),?_,fun c e p he hp=>?_⟩,q2,?_⟩
 ·simp only;rw[q2.length_eq];unfold gG;rw[hf] at hl;simp only[an,az,aB] at hl⊢;omega
 ·have pm:((upS (a.heap.length+1) (a.heap++[(⟨t,n,⟨i,u+1⟩⟩:Evt)]) (a.wher.set i (a.heap.length:Int)) a.heap.length).1.map (·.number)).Perm ((a.heap++[(⟨t,n,⟨i,u+1⟩⟩:Evt)]).map (·.number)):=q2.map _;refine pm.nodup_iff.2 ?_;rw[dg,cU];refine⟨h.2.2.2.1,by simp,fun x hx1 y hy e=>?_⟩;simp only[bz,fy,bm] at hy;subst hy;subst e;exact hn hx1
 ·exact q1 (c+1) e p (by omega) he (by simpa using hp)
 ·have l1:=q3.len;have l2:=hP.len;simp only;rw[l1,l2];unfold gG;simp
theorem pQ {l:List Evt}{i:Nat}(h:i<l.length)(f:Evt):RF.ev (.set 0) [sl erow l,.v (.int .i64 (i:Int)),EP f]=some (sl erow (l.set i f)):=by
 obtain⟨e,he⟩: ∃e,l[i]?=some e:=⟨l[i],ac h⟩;have hs:splice (erow e) 0 (erow f)=erow f:=rfl;rw[qb,if_pos (by omega),aq,aI,he];simp only[aZ,show(EP f).cells=erow f from rfl,show(erow f).length=5 from rfl,show(erow e).length=5 from rfl,be,am,if_true,hs]
 exact congrArg (fun x=>some (PV.sl x)) (gB (f:=erow) (l:=l) (i:=i) (a:=f)).symm
theorem aggEv (t:Rt)(n:Int)(h:Hnd):RF.ev .agg [R t,.i64 n,HD h]=some (EP ⟨t,n,h⟩):=rfl
theorem bsE (e:Evt):RF.ev (.bs 1 [KP.z,KP.z,KP.z,KP.z,KP.z] [0]) [EP e]=some (sl erow [e]):=rfl
theorem subE1 (e:Evt):RF.ev .sub [sl erow [e],.v (.int .i64 0),.v (.int .i64 1)]=some (sl erow [e]):=rfl
theorem Bp {i:Nat}(h0:0<i)(h:i<1000000):intB .quo .i64 (IntKind.i64.wrap ((i:Int)-1)) .i64 2=some (.v (.int .i64 (((i-1)/2:Nat):Int))):=by
 obtain⟨k,rfl⟩: ∃k,i=k+1:=⟨i-1,by omega⟩;exact half (by omega)
theorem qi {s:Slots}{N:Nat}{f0:JT}{e0 e1 e2 e3 e4 e5 e6 e7 e8 e9 e10 e11 e12 e13 e14 e15 e17 e18 e19 e20 e21 e22 e23 e24 e25 e26 e27 e28 e29 e30 e32 e33 e34 e35 e36:PV}{H W:Nat}(hH:H≤1000): ∀(r i m:Nat) (hp:List Evt) (wh:List Int),i≤r→r<m→i<H→hp.length=H→wh.length=W→(∀x∈hp,In64 x.time)→Plc s hp wh→
  denW (PhiS D) N k374_2 [f0] [e0,e1,e2,e3,e4,e5,e6,e7,e8,e9,e10,e11,e12,e13,e14,e15,.i64 (W:Int),e17,e18,e19,e20,e21,e22,e23,e24,e25,e26,e27,e28,e29,e30,.i64 (H:Int),e32,e33,e34,e35,e36] m [.i64 (i:Int),sl erow hp,sl I1 wh]=f0 [.i64 ((upS r hp wh i).2.2:Int),sl I1 (upS r hp wh i).2.1,sl erow (upS r hp wh i).1]
 |0,i,m,hp,wh,hi,hm,hiH,hl,hw,h64,hP=>by
  obtain⟨m,rfl⟩: ∃m',m=m'+1:=⟨m-1,by omega⟩;have:i=0:=by omega
  subst this;rw[denW_succ];unfold k374_2 upS;simp only[EV,decide_eq_true_eq,gt_iff_lt];rw[if_neg (by omega)]
 |r+1,i,m,hp,wh,hi,hm,hiH,hl,hw,h64,hP=>by
  obtain⟨m,rfl⟩: ∃m',m=m'+1:=⟨m-1,by omega⟩;obtain⟨e,he⟩: ∃e,hp[i]?=some e:=⟨hp[i],ac _⟩;obtain⟨p,hp'⟩: ∃p,hp[(i-1)/2]?=some p:=⟨hp[(i-1)/2]'(by omega),ac _⟩;have E:upS (r+1) hp wh i=if 0<i∧evLess e p=true then upS r (swpH hp i ((i-1)/2) e p) (d9 wh i ((i-1)/2) e p) ((i-1)/2) else(hp,wh,i):=by rw[upS,he,hp']
  rw[E,denW_succ];by_cases h0:0<i
  rotate_left
  ·rw[if_neg (fun h=>h0 h.1)];unfold k374_2;simp only[EV,decide_eq_true_eq,gt_iff_lt];rw[if_neg (by omega)]
  ·have pm:=jm he hp';have ih:=qi (s:=s) (N:=N) (f0:=f0) (e0:=e0) (e1:=e1) (e2:=e2) (e3:=e3) (e4:=e4) (e5:=e5) (e6:=e6) (e7:=e7) (e8:=e8) (e9:=e9) (e10:=e10) (e11:=e11) (e12:=e12) (e13:=e13) (e14:=e14) (e15:=e15) (e17:=e17) (e18:=e18) (e19:=e19) (e20:=e20) (e21:=e21) (e22:=e22) (e23:=e23) (e24:=e24) (e25:=e25) (e26:=e26) (e27:=e27) (e28:=e28) (e29:=e29) (e30:=e30) (e32:=e32) (e33:=e33) (e34:=e34) (e35:=e35) (e36:=e36) (H:=H) (W:=W) hH r ((i-1)/2) m (swpH hp i ((i-1)/2) e p) (d9 wh i ((i-1)/2) e p) (by omega) (by omega) (by omega) (by rw[pm.length_eq];exact hl) (by unfold d9;simpa using hw) (fun x hx=>h64 x (pm.mem_iff.1 hx)) (nC hP he hp' (by omega))
   have cm:=phi (c347 (h64 e (ah he)) (h64 p (ah hp')));obtain⟨je,ue,g1,_,_,g4⟩:=hP.at_ i e he;obtain⟨jp,up,k1,_,_,k4⟩:=hP.at_ _ p hp';have wje:je<W:=by rw[←hw];exact aP g4
   have wjp:jp<W:=by rw[←hw];exact aP k4
   have q2:=Bp h0 (by omega);have ge:(swpH hp i ((i-1)/2) e p)[(i-1)/2]?=some e:=by rw[gH he hp',if_pos rfl]
   have gp:(swpH hp i ((i-1)/2) e p)[i]?=some p:=by rw[gH he hp',if_neg (by omega),if_pos rfl]
   have s1:=pQ (l:=hp) (i:=i) (by omega) p;have s2:RF.ev (.set 0) [sl erow (hp.set i p),.v (.int .i64 (((i-1)/2:Nat):Int)),EP e]=some (sl erow (swpH hp i ((i-1)/2) e p)):=pQ (by rw[aB];omega) e;have ie:e.hnd.index=(je:Int):=by rw[g1]
   have ip:p.hnd.index=(jp:Int):=by rw[k1]
   have s3:=setI (l:=wh) (i:=jp) (by omega) (i:Int);have s4:RF.ev (.set 0) [sl I1 (wh.set jp (i:Int)),.v (.int .i64 (je:Int)),.v (.int .i64 (((i-1)/2:Nat):Int))]=some (sl I1 (d9 wh i ((i-1)/2) e p)):=by
    unfold d9;rw[ie,ip,aq,aq];exact setI (by rw[aB];omega) _
   generalize hkk:k374_2=kk at ih;subst hkk;unfold k374_2;simp only[EV,decide_eq_true_eq,gt_iff_lt];rw[if_pos (by omega)];simp only[EV,ixM hiH,eltM he,rowE,f_bin,q2,ixM (show(i-1)/2<H by omega),eltM hp',den_lt,cm]
   cases hc:evLess e p with
   |false=>
    rw[if_neg (by simp)];simp
   |true=>
    simp only[h0,true_and,if_true,EV,f_bin,q2,ixM hiH,ixM (show(i-1)/2<H by omega),eltM he,eltM hp',rowE,den_lt,shEP,s1,s2,eltM ge,eltM gp,rf,ie,ip,ixM wje,ixM wjp,s3,s4]
    exact ih
theorem mi (s:Slots)(hp:List Evt)(wh:List Int):RF.ev .agg [SL s,sl erow hp,sl I1 wh]=some (AG ⟨s,hp,wh⟩):=rfl
theorem pHD (h:Hnd):RF.ev (.part 0 2) [HD h]=some (HD h):=rfl
theorem pR (r:Rt):RF.ev (.part 0 2) [R r]=some (R r):=rfl
theorem rv {a:Agenda}(h:cV a):ASm a:=by
 have hs:=okR_fine.1 h.1;have:=hs.n2;exact⟨ss_of hs,by have:=h.2.1.2.1;omega,by have:=h.2.1.1;omega⟩
theorem Xz {a:Agenda}(h:cV a){fr:List Int}{i:Nat}{u:Int}(hf:a.slots.free=fr++[(i:Int)])(hu:a.slots.uses[i]?=some u)(hm:u<1000000){t:Rt}{n:Int}(hx:rok t=true∧0≤n∧n≤1000000)(hn:n∉a.heap.map (·.number))(ht:In64 t)(h64: ∀e∈a.heap,In64 e.time):
  Ans D 374 [AG a,R t,.i64 n] [AG (d4 a fr i u t n),HD ⟨i,u+1⟩]:=by
 have hs:=okR_fine.1 h.1;have hP:=iJ hs h.2.1;have hsm:=rv h;have n2:=hs.n2;have hl:=h.2.1.2.1;have hw:=h.2.1.1;have hi:=aP hu;have hP':=plc_push hs hP hf hu (x:=⟨t,n,⟨i,u+1⟩⟩) rfl;obtain⟨_,q2,q3⟩:=tr h hf hu hm hx hn;have ap:=dc (f:=erow) (l:=a.heap) (k:=[⟨t,n,⟨i,u+1⟩⟩]) (bytes:=40) (z:=5) (by simp;omega) lenE;have dn:=downN (n:=a.heap.length) (by omega);have s3:=setI (l:=a.wher) (i:=i) (by omega) (a.heap.length:Int);have s4:=subM (f:=erow) (l:=(d4 a fr i u t n).heap);rw[q2.length_eq,an,az] at s4;have s5:=subM (f:=I1) (l:=(d4 a fr i u t n).wher);rw[q3] at s5;refine ans_of k374_ok s374 rfl ⟨1001,?_⟩;unfold k374;simp only[den_lt,shAG,shapeR,phi (c209 hsm),cAG0,cAG1,cAG2,cAG3,cAG4,EV,aa,subM,aggSL,phi (c409 hs hf hu hm),shSL,shHD,pR,pHD,aggEv,bsE,subE1,ap,an,az,dn,cHD0,ixM (show i<a.wher.length by omega),s3]
 refine(qi (s:=gG a.slots fr i u) (N:=1001) (H:=a.heap.length+1) (W:=a.wher.length) (by omega) (a.heap.length+1) a.heap.length 1001 _ _ (by omega) (by omega) (by omega) (by simp) (by simp) (fun e he=>?_) hP').trans ?_
 ·rcases bh.1 he with h1|h1
  ·exact h64 e h1
  ·rw[bm] at h1;subst h1;exact ht
 ·unfold HG;have s4':RF.ev .sub [sl erow (upS (a.heap.length+1) (a.heap++[⟨t,n,⟨i,u+1⟩⟩]) (a.wher.set i (a.heap.length:Int)) a.heap.length).1,.v (.int .i64 0),.v (.int .i64 ((a.heap.length+1:Nat):Int))]=some (sl erow (d4 a fr i u t n).heap):=s4;have s5':RF.ev .sub [sl I1 (upS (a.heap.length+1) (a.heap++[⟨t,n,⟨i,u+1⟩⟩]) (a.wher.set i (a.heap.length:Int)) a.heap.length).2.1,.v (.int .i64 0),.v (.int .i64 (a.wher.length:Int))]=some (sl I1 (d4 a fr i u t n).wher):=s5;simp only[EV,pSL,s4',s5',mi];rfl
def siftH (x:Evt):Nat→List Evt→List Int→Nat→List Evt×List Int×Nat
 |0,hp,wh,i=>(hp,wh,i)
 |n+1,hp,wh,i=>match hp[(i-1)/2]? with
  |some p=>if 0<i∧evLess x p=true then siftH x n (hp.set i p) (wh.set p.hnd.index.toNat (i:Int)) ((i-1)/2) else(hp,wh,i)
  |none=>(hp,wh,i)
theorem tu {x:Evt}: ∀(n:Nat) (hp:List Evt) (wh:List Int) (i:Nat),i<hp.length→
  upS n (hp.set i x) (wh.set x.hnd.index.toNat (i:Int)) i=((siftH x n hp wh i).1.set (siftH x n hp wh i).2.2 x,(siftH x n hp wh i).2.1.set x.hnd.index.toNat ((siftH x n hp wh i).2.2:Int),(siftH x n hp wh i).2.2)
 |0,hp,wh,i,_=>rfl
 |n+1,hp,wh,i,hi=>by
  have hx:(hp.set i x)[i]?=some x:=aC hi;by_cases h0:0<i
  ·obtain⟨p,hp'⟩: ∃p,hp[(i-1)/2]?=some p:=⟨hp[(i-1)/2]'(by omega),ac _⟩;have hq:(hp.set i x)[(i-1)/2]?=some p:=by rw[aE (by omega)];exact hp'
   unfold upS siftH;rw[hx,hq,hp'];simp only;by_cases hc:0<i∧evLess x p=true
   ·rw[if_pos hc,if_pos hc];have e1:swpH (hp.set i x) i ((i-1)/2) x p=(hp.set i p).set ((i-1)/2) x:=by unfold swpH;rw[dY]
    have e2:d9 (wh.set x.hnd.index.toNat (i:Int)) i ((i-1)/2) x p=(wh.set p.hnd.index.toNat (i:Int)).set x.hnd.index.toNat (((i-1)/2:Nat):Int):=by
     unfold d9;by_cases e:x.hnd.index.toNat=p.hnd.index.toNat
     ·simp only[e,dY]
     ·rw[fX _ _ e,dY]
    rw[e1,e2];exact tu n (hp.set i p) (wh.set p.hnd.index.toNat (i:Int)) ((i-1)/2) (by rw[aB];omega)
   ·rw[if_neg hc,if_neg hc]
  ·have:i=0:=by omega
   subst this;obtain⟨p,hp'⟩: ∃p,hp[(0-1)/2]?=some p:=⟨hp[0]'hi,ac hi⟩;unfold upS siftH;rw[show(0-1)/2=0 from rfl] at hp'⊢
   rw[hx,hp'];simp
theorem Fr {n d:Int}(hn:Sm n)(hd:Sm d)(h0:d≠0):rok (mkR n d)=true∧In64 (mkR n d):=by
 obtain⟨n1,n2⟩:=hn;obtain⟨d1,d2⟩:=hd;have hg:0<Nat.gcd n.natAbs d.natAbs:=dC _ (by omega);have l1:n.natAbs/Nat.gcd n.natAbs d.natAbs≤n.natAbs:=d7 ..;have l2:d.natAbs/Nat.gcd n.natAbs d.natAbs≤d.natAbs:=d7 ..;have l3:0<d.natAbs/Nat.gcd n.natAbs d.natAbs:=Nat.div_pos (Nat.le_of_dvd (by omega) (Nat.gcd_dvd_right ..)) hg;have co:Nat.gcd (n.natAbs/Nat.gcd n.natAbs d.natAbs) (d.natAbs/Nat.gcd n.natAbs d.natAbs)=1:=Nat.coprime_div_gcd_div_gcd hg;have key: ∀z:Int,z.natAbs=n.natAbs/Nat.gcd n.natAbs d.natAbs→rok ⟨z,((d.natAbs/Nat.gcd n.natAbs d.natAbs:Nat):Int)⟩=true∧In64 ⟨z,((d.natAbs/Nat.gcd n.natAbs d.natAbs:Nat):Int)⟩:=fun z hz=>by
  refine⟨?_,⟨by simp only;omega,by simp only;omega⟩,by simp only;omega,by simp only;omega⟩;unfold rok;simp only[hz,jJ,co,decide_true,eL,au,decide_eq_true_eq,ai,decide_eq_false_iff_not];omega
 unfold mkR;split
 ·exact key _ (by rw[Int.natAbs_neg,jJ])
 ·exact key _ (jJ _)
theorem mj {l:List Pt}{t:Rt}{x:Crt}(h:okF l)(ht:In64 t)(hr:rok t=true)(h1:inF l x.low=true)(h2:inF l x.high=true)(hf:(failT t (ptOf l x.high) (ptOf l x.low)).2=true):
  rok (failT t (ptOf l x.high) (ptOf l x.low)).1=true∧In64 (failT t (ptOf l x.high) (ptOf l x.low)).1:=by
 obtain⟨i,p,a1,a2,a3,a4⟩:=cH h h1;obtain⟨j,q,b1,b2,b3,b4⟩:=cH h h2;have bp:=Pt.bnd (okF_pt h a1);have bq:=Pt.bnd (okF_pt h b1);rw[a4,b4] at hf⊢;unfold failT at hf⊢;split
 ·exact⟨hr,ht⟩
 ·rename_i h3;rw[if_neg h3] at hf;split
  ·exact Fr ⟨by omega,by omega⟩ ⟨by omega,by omega⟩ (by omega)
  ·rename_i h4;rw[if_neg h4] at hf;cases hf
theorem due_iff {a:Agenda}(h:cV a){d:Due}{n:Int}{t:Rt}:DueAt a d n t↔d.number=n∧(⟨t,n,d.hnd⟩:Evt)∈a.heap:=by
 constructor
 ·rintro⟨h1,h2,h3⟩;obtain⟨i,w,k,e,e1,e2,e3,e4,e5⟩:=vQ h h2;rw[e3] at e2;obtain⟨q1,q2⟩:=h3 i k e e1 e2 e4;refine⟨h1,?_⟩;obtain⟨et,en,eh⟩:=e;simp only at q1 q2 e5;rw[←q1,←q2,←e5];exact ah e4
 ·rintro⟨h1,h2⟩;obtain⟨k,hk⟩:=aA.1 h2;obtain⟨j,u,e1,e2,e3,e4⟩:=(iJ (okR_fine.1 h.1) h.2.1).at_ k _ hk;simp only at e1;refine⟨h1,⟨by rw[e1];simp only;omega,by rw[e1,aq];exact e2,by rw[e1,aq];exact e3⟩,fun i m e g1 g2 g3=>?_⟩;rw[e1] at g1;simp only at g1;have:j=i:=by omega
  subst this;rw[e4] at g2;simp only[aK] at g2;have:k=m:=by omega
  subst this;rw[hk] at g3;cases g3;exact⟨rfl,rfl⟩
theorem qD {c c':Clock}(hn:c'.now=c.now)(hp:c'.pts=c.pts)(hD: ∀d n t,DueAt c.agenda d n t→DueAt c'.agenda d n t){s:List Due}: ∀(l:List Held) (left out:List Due),foldO (dueStep c) left l=some out→foldO (dueStep c') (left++s) l=some (out++s)
 |[],left,out,h=>by
  unfold foldO at h⊢;cases h;rfl
 |x::l,left,out,h=>by
  unfold foldO at h⊢;cases e:dueStep c left x with
  |none=>rw[e] at h;cases h
  |some y=>
   rw[e] at h;have:dueStep c' (left++s) x=some (y++s):=by
    unfold dueStep at e⊢;rw[hn,hp];by_cases h1:knownH c.pts x=true
    ·rw[if_pos h1] at e⊢;by_cases h2:(failT c.now (ptOf c.pts x.cert.high) (ptOf c.pts x.cert.low)).2=true
     ·rw[if_pos h2] at e⊢;cases left with
      |nil=>cases e
      |cons d rest=>
       simp only[ay] at e⊢;by_cases h3:DueAt c.agenda d x.number (failT c.now (ptOf c.pts x.cert.high) (ptOf c.pts x.cert.low)).1
       ·rw[if_pos h3] at e;rw[if_pos (hD _ _ _ h3)];cases e;rfl
       ·rw[if_neg h3] at e;cases e
     ·rw[if_neg h2] at e⊢;cases e;rfl
    ·rw[if_neg h1] at e;cases e
   rw[this];exact qD hn hp hD l y out h
theorem fold_app {α β:Type}{g:β→α→Option β}: ∀{l k:List α} {x y:β},foldO g x l=some y→foldO g x (l++k)=foldO g y k
 |[],k,x,y,h=>by unfold foldO at h;cases h;rfl
 |a::l,k,x,y,h=>by
  have h:(match g x a with|some y=>foldO g y l|none=>none)=some y:=h
  show(match g x a with|some y=>foldO g y (l++k)|none=>none)=_
  cases e:g x a with
  |none=>rw[e] at h;cases h
  |some z=>rw[e] at h;exact fold_app h
theorem qE {c:Clock}(ha:cV c.agenda): ∀(l:List Held) (left:List Due),foldO (dueStep c) left l=some []→(left.map (·.number)).Sublist (l.map (·.number))∧ ∀d∈left,∃t,(⟨t,d.number,d.hnd⟩:Evt)∈c.agenda.heap
 |[],left,h=>by unfold foldO at h;cases h;exact⟨.slnil,by simp⟩
 |x::l,left,h=>by
  unfold foldO at h;cases e:dueStep c left x with
  |none=>rw[e] at h;cases h
  |some y=>
   rw[e] at h;obtain⟨r1,r2⟩:=qE ha l y h;unfold dueStep at e;by_cases h1:knownH c.pts x=true
   ·rw[if_pos h1] at e;by_cases h2:(failT c.now (ptOf c.pts x.cert.high) (ptOf c.pts x.cert.low)).2=true
    ·rw[if_pos h2] at e;cases left with
     |nil=>cases e
     |cons d rest=>
      simp only at e;by_cases h3:DueAt c.agenda d x.number (failT c.now (ptOf c.pts x.cert.high) (ptOf c.pts x.cert.low)).1
      ·rw[if_pos h3] at e;cases e;have h3:=(due_iff ha).1 h3;refine⟨?_,fun d' hd=>?_⟩
       ·rw[bz,bz,h3.1];exact .cons_cons _ r1
       ·rcases aT.1 hd with rfl|hd
        ·exact⟨_,by rw[h3.1];exact h3.2⟩
        ·exact r2 d' hd
      ·rw[if_neg h3] at e;cases e
    ·rw[if_neg h2] at e;cases e;exact⟨.cons _ r1,r2⟩
   ·rw[if_neg h1] at e;cases e
theorem held_lt {c:Certs}(h:bW c): ∀(j i:Nat) (x y:Held),i<j→c.list[i]?=some x→c.list[j]?=some y→x.number<y.number
 |0,i,x,y,hij,hx,hy=>by omega
 |j+1,i,x,y,hij,hx,hy=>by
  have q:=(h.2.2.2 (j+1) y hy).2.2.2.1;have hj:=aP hy;obtain⟨z,hz⟩: ∃z,c.list[j]?=some z:=⟨c.list[j]'(by omega),ac _⟩;have q:=q z (by omega) (by simpa using hz)
  by_cases e:i=j
  ·subst e;rw[hx] at hz;cases hz;exact q
  ·have:=held_lt h j i x z (by omega) hx hz;omega
theorem rz {c:Certs}(h:bW c):(c.list.map (·.number)).Nodup:=by
 rw[List.Nodup,dE,cX];intro i j hi hj hij e;have:=held_lt h j i _ _ hij (ac hi) (ac hj);omega
theorem lx {c:Clock}(h:ClkOk c):(c.due.map (·.number)).Perm (c.agenda.heap.map (·.number))∧(c.due.map (·.number)).Sublist (c.certs.list.map (·.number)):=by
 obtain⟨_,_,h3,h4,_,h6,h7⟩:=h;obtain⟨r1,r2⟩:=qE h4 _ _ h7;refine⟨sub_perm (r1.nodup (rz h3)) (fun n hn=>?_) (by simp only[aa];omega),r1⟩;obtain⟨d,hd,rfl⟩:=aN.1 hn;obtain⟨t,ht⟩:=r2 d hd;exact aN.2 ⟨_,ht,rfl⟩
theorem nD {c:Clock}(h:ClkOk c):c.certs.next∉c.agenda.heap.map (·.number):=fun hm=>by
 obtain⟨p,s⟩:=lx h;have:=s.subset (p.mem_iff.2 hm);obtain⟨x,hx,hn⟩:=aN.1 this;obtain⟨i,hi⟩:=aA.1 hx;have:=(h.2.2.1.2.2.2 i x hi).2.2.1;omega
def fT (c:Clock)(x:Crt):Rt×Bool:=failT c.now (ptOf c.pts x.high) (ptOf c.pts x.low)
def ly (c:Clock)(x:Crt):Clock:=⟨c.now,c.pts,addC c.certs x,c.agenda,c.due⟩
def certD (c:Clock)(x:Crt)(fr:List Int)(i:Nat)(u:Int):Clock:=⟨c.now,c.pts,addC c.certs x,d4 c.agenda fr i u (fT c x).1 c.certs.next,c.due++[⟨c.certs.next,⟨i,u+1⟩⟩]⟩
structure CAdd (c:Clock)(x:Crt):Prop where
 ok:ClkOk c
 cok:x.ok
 new: ∀g∈c.certs.list,g.cert≠x
 room:c.certs.list.length<200
 next:c.certs.next<1000000
 low:inF c.pts x.low=true
 high:inF c.pts x.high=true
theorem I5 {c:Clock}{x:Crt}(h:CAdd c x)(hf:(fT c x).2=false):ClkOk (ly c x):=by
 obtain⟨⟨h1,h2,h3,h4,h5,h6,h7⟩,hx,hn,hr,hl,k1,k2⟩:=h;refine⟨h1,h2,Fo h3 hx hn hr hl,h4,h5,h6,?_⟩;have:=qD (c:=c) (c':=ly c x) rfl rfl (fun _ _ _ h=>h) (s:=[]) _ _ _ h7;rw[aJ] at this;refine(fold_app this).trans ?_;have:dueStep (ly c x) ([]++[]) ⟨c.certs.next,x⟩=some []:=by
  unfold dueStep;have hk:knownH (ly c x).pts ⟨c.certs.next,x⟩=true:=by unfold knownH ly;simp only;rw[k1,k2];rfl
  rw[if_pos hk,if_neg (by unfold fT at hf;exact Bool.eq_false_iff.1 hf)];rfl
 unfold foldO;rw[this];rfl
theorem I6 {c:Clock}{x:Crt}(h:CAdd c x)(h64:In64 c.now){fr:List Int}{i:Nat}{u:Int}(he:c.agenda.slots.free=fr++[(i:Int)])(hu:c.agenda.slots.uses[i]?=some u)(hm:u<1000000)(hf:(fT c x).2=true):ClkOk (certD c x fr i u):=by
 have hnew:=nD h.ok;obtain⟨⟨h1,h2,h3,h4,h5,h6,h7⟩,hx,hn,hr,hl,k1,k2⟩:=h;obtain⟨f1,f2⟩:=mj h2 h64 h1 k1 k2 hf;have n0:=h3.2.1;obtain⟨p1,p2,p3⟩:=tr h4 he hu hm (t:=(fT c x).1) (n:=c.certs.next) ⟨f1,n0,by omega⟩ hnew;refine⟨h1,h2,Fo h3 hx hn hr hl,p1,p3.trans h5,?_,?_⟩
 ·have:=p2.length_eq;rw[an,az] at this;unfold certD;simp only[an,az];omega
 ·have:=qD (c:=c) (c':=certD c x fr i u) rfl rfl (fun d n t hd=>by
   refine(due_iff p1).2 ?_;obtain⟨d1,d2⟩:=(due_iff h4).1 hd;exact⟨d1,p2.mem_iff.2 (b5 _ d2)⟩) (s:=[⟨c.certs.next,⟨i,u+1⟩⟩]) _ _ _ h7
  refine(fold_app this).trans ?_;have:dueStep (certD c x fr i u) ([]++[⟨c.certs.next,⟨i,u+1⟩⟩]) ⟨c.certs.next,x⟩=some []:=by
   unfold dueStep;have hk:knownH (certD c x fr i u).pts ⟨c.certs.next,x⟩=true:=by unfold knownH certD;simp only;rw[k1,k2];rfl
   rw[if_pos hk,if_pos (by unfold fT at hf;exact hf)];simp only[ax];rw[if_pos];refine(due_iff p1).2 ⟨rfl,p2.mem_iff.2 ?_⟩;simp only[bh,bm];exact .inr rfl
  unfold foldO;rw[this];rfl
theorem pAG5 (a:Agenda):RF.ev (.part 0 5) [AG a]=some (AG a):=rfl
theorem cs_of {c:Clock}(h:ClkOk c):CSm c:=by
 obtain⟨_,h2,h3,h4,_,h6,_⟩:=h;have ha:=rv h4;exact⟨by have:=h2.1;omega,by have:=h3.1;omega,ha,by have:=ha.heap;omega⟩
theorem oO {a:Agenda}(h:cV a):gAg a=false:=by
 have hs:=okR_fine.1 h.1;have:=hs.n2;have:=h.2.1.2.1;have:=h.2.1.1;unfold gAg;rw[nB hs];simp only[jS,aY,decide_eq_false_iff_not];omega
structure Fresh (c:Clock):Prop where
 ok:ClkOk c
 now64:In64 c.now
 ev64: ∀e∈c.agenda.heap,In64 e.time
 heap:c.agenda.heap.length≤c.certs.list.length
 next:c.certs.next=c.certs.list.length
 uses: ∀i:Nat,(i:Int)∈c.agenda.slots.free→c.agenda.slots.uses[i]?=some 0
def frL (c:Clock):List Int:=c.agenda.slots.free.dropLast
def frI (c:Clock):Nat:=((c.agenda.slots.free.getLast?).getD 0).toNat
structure EdgOk (l:List Pt)(es:List Crt):Prop where
 nd:es.Nodup
 len:es.length<200
 ok: ∀x∈es,x.ok
 low: ∀x∈es,inF l x.low=true
 high: ∀x∈es,inF l x.high=true
structure AtK (l:List Pt)(t:Rt)(es:List Crt)(k:Nat)(c:Clock):Prop where
 fresh:Fresh c
 certs:c.certs.list.map (·.cert)=es.take k
 pts:c.pts=l
 now:c.now=t
theorem cEP3 (e:Evt):RF.ev (.cell 3) [EP e]=some (.i64 e.hnd.index):=rfl
structure GoodE (W:Nat)(e:Evt):Prop where
 t64:In64 e.time
 rok:rok e.time=true
 ix: ∃j:Nat,e.hnd.index=(j:Int)∧j<W
theorem uu {N:Nat}{f0:JT}{t:Rt}{n:Int}{h:Hnd}{e0 e1 e3 e5 e6 e7 e8 e9 e10 e11 e12 e13 e14 e15 e16 e17 e18 e20 e21 e22 e23 e24 e25 e27 e28 e29 e30 e31 e32 e34:PV}{H W:Nat}(hH:H≤1000)(ht:In64 t)(rt:rok t=true): ∀(r i m:Nat) (hp:List Evt) (wh:List Int),i≤r→r<m→i<H→hp.length=H→wh.length=W→(∀x∈hp,GoodE W x)→
  denW (PhiS D) N k317_6 [f0] [e0,e1,.i64 n,e3,R t,e5,e6,e7,e8,e9,e10,e11,e12,e13,e14,e15,e16,e17,e18,HD h,e20,e21,e22,e23,e24,e25,.i64 (W:Int),e27,e28,e29,e30,e31,e32,.i64 (H:Int),e34] m [.i64 (i:Int),sl erow hp,sl I1 wh]=f0 [sl erow (siftH ⟨t,n,h⟩ r hp wh i).1,sl I1 (siftH ⟨t,n,h⟩ r hp wh i).2.1,.i64 ((siftH ⟨t,n,h⟩ r hp wh i).2.2:Int)]
 |0,i,m,hp,wh,hi,hm,hiH,hl,hw,hg=>by
  obtain⟨m,rfl⟩: ∃m',m=m'+1:=⟨m-1,by omega⟩;have:i=0:=by omega
  subst this;rw[denW_succ];unfold k317_6 siftH;simp only[EV,decide_eq_true_eq,gt_iff_lt];rw[if_neg (by omega)]
 |r+1,i,m,hp,wh,hi,hm,hiH,hl,hw,hg=>by
  obtain⟨m,rfl⟩: ∃m',m=m'+1:=⟨m-1,by omega⟩;obtain⟨p,hp'⟩: ∃p,hp[(i-1)/2]?=some p:=⟨hp[(i-1)/2]'(by omega),ac _⟩;have E:siftH ⟨t,n,h⟩ (r+1) hp wh i=if 0<i∧evLess ⟨t,n,h⟩ p=true then siftH ⟨t,n,h⟩ r (hp.set i p) (wh.set p.hnd.index.toNat (i:Int)) ((i-1)/2) else(hp,wh,i):=by rw[siftH,hp']
  rw[E,denW_succ];by_cases h0:0<i
  rotate_left
  ·rw[if_neg (fun h=>h0 h.1)];unfold k317_6;simp only[EV,decide_eq_true_eq,gt_iff_lt];rw[if_neg (by omega)]
  ·obtain⟨p64,prk,jp,pj,pW⟩:=hg p (ah hp');have ih:=uu (N:=N) (f0:=f0) (t:=t) (n:=n) (h:=h) (e0:=e0) (e1:=e1) (e3:=e3) (e5:=e5) (e6:=e6) (e7:=e7) (e8:=e8) (e9:=e9) (e10:=e10) (e11:=e11) (e12:=e12) (e13:=e13) (e14:=e14) (e15:=e15) (e16:=e16) (e17:=e17) (e18:=e18) (e20:=e20) (e21:=e21) (e22:=e22) (e23:=e23) (e24:=e24) (e25:=e25) (e27:=e27) (e28:=e28) (e29:=e29) (e30:=e30) (e31:=e31) (e32:=e32) (e34:=e34) (H:=H) (W:=W) hH ht rt r ((i-1)/2) m (hp.set i p) (wh.set p.hnd.index.toNat (i:Int)) (by omega) (by omega) (by omega) (by rw[aB];exact hl) (by rw[aB];exact hw) (fun x hx=>by
    rcases cg hx with h1|h1
    ·exact hg x h1
    ·rw[h1];exact⟨p64,prk,jp,pj,pW⟩)
   have cm:=phi (qB (x:=⟨t,n,h⟩) (y:=p) ht p64 rt prk);have q2:=Bp h0 (by omega);have s1:=pQ (l:=hp) (i:=i) (by omega) p;have s3:=setI (l:=wh) (i:=jp) (by omega) (i:Int);generalize hkk:k317_6=kk at ih;subst hkk;unfold k317_6;simp only[EV,decide_eq_true_eq,gt_iff_lt];rw[if_pos (by omega)];simp only[EV,f_bin,q2,ixM (show(i-1)/2<H by omega),eltM hp',rowE,den_lt,pR,pHD,aggEv,cm,decide_eq_true_eq,cmpE_lt]
   by_cases hc:evLess ⟨t,n,h⟩ p=true
   ·rw[if_pos hc,if_pos ⟨h0,hc⟩];simp only[EV,f_bin,q2,ixM hiH,ixM (show(i-1)/2<H by omega),eltM hp',rowE,den_lt,shEP,s1,cEP3,pj,ixM pW,s3]
    rw[pj,aq] at ih;exact ih
   ·rw[if_neg hc,if_neg (fun q=>hc q.2)]
theorem Ay {x y:Evt}(h:evLess x y=false):¬qA x y<0:=fun c=>by
 rw[(cmpE_lt x y).1 c] at h;cases h
theorem Fs {N:Nat}{f0:JT}{t:Rt}{n:Int}{h:Hnd}{e0 e1 e3 e5 e6 e7 e8 e9 e10 e11 e12 e13 e14 e15 e16 e17 e18 e20 e21 e22 e23 e24 e25 e27 e28 e29 e30 e31 e32 e34 e35 e36 e37 e38 e39 e26:PV}{H i m:Nat}{hp:List Evt}{w:PV}(hH:H≤1000)(ht:In64 t)(rt:rok t=true)(hm:0<m)(hi:i<H)(hl:hp.length=H)
  (hg: ∀k e,k≠i→hp[k]?=some e→In64 e.time∧rok e.time=true) (ho: ∀k e,(k=2*i+1∨k=2*i+2)→hp[k]?=some e→evLess e ⟨t,n,h⟩=false):
  denW (PhiS D) N yu [f0] [e0,e1,.i64 n,e3,R t,e5,e6,e7,e8,e9,e10,e11,e12,e13,e14,e15,e16,e17,e18,HD h,e20,e21,e22,e23,e24,e25,e26,e27,e28,e29,e30,e31,e32,.i64 (H:Int),e34,e35,e36,e37,e38,e39] m [.i64 (i:Int),sl erow hp,w,.i64 ((2*i+1:Nat):Int)]=f0 [sl erow hp,w,.i64 (i:Int)]:=by
 obtain⟨m,rfl⟩: ∃m',m=m'+1:=⟨m-1,by omega⟩;rw[denW_succ];have sh: ∀e:Evt,RF.ev (.shape 5) [EP e]=some (EP e):=fun _=>rfl;have fin: ∀(k:Nat) (self:JT) (a b c d d':PV),(k=2*i+1∨k=2*i+2)→k<H→den (PhiS D) N yq [f0,self] [e0,e1,.i64 n,e3,R t,e5,e6,e7,e8,e9,e10,e11,e12,e13,e14,e15,e16,e17,e18,HD h,e20,e21,e22,e23,e24,e25,e26,e27,e28,e29,e30,e31,e32,.i64 (H:Int),e34,e35,e36,e37,e38,e39,.i64 (i:Int),sl erow hp,w,a,b,c,d,d',.i64 (k:Int)]=f0 [sl erow hp,w,.i64 (i:Int)]:=fun k self a b c d d' hk hkH=>by
  obtain⟨e,he⟩: ∃e,hp[k]?=some e:=⟨hp[k]'(by omega),ac _⟩;obtain⟨g1,g2⟩:=hg k e (by omega) he;have cm:=phi (qB (x:=e) (y:=⟨t,n,h⟩) g1 ht g2 rt);unfold yq;simp only[EV,ixM hkH,eltM he,rowE,den_lt,pR,pHD,aggEv,cm,decide_eq_true_eq,ge_iff_le];rw[if_pos (by have:=Ay (ho k e hk he);omega)]
 unfold yu;simp only[EV,decide_eq_true_eq];by_cases h1:2*i+1<H
 ·rw[if_pos (by omega)];simp only[EV,decide_eq_true_eq,up1 (show 2*i+1<1000000000 by omega)]
  by_cases h2:2*i+2<H
  ·rw[if_pos (by omega)];obtain⟨e,he⟩: ∃e,hp[2*i+1]?=some e:=⟨hp[2*i+1]'(by omega),ac _⟩;obtain⟨g,hg'⟩: ∃e,hp[2*i+1+1]?=some e:=⟨hp[2*i+1+1]'(by omega),ac _⟩;obtain⟨a1,a2⟩:=hg _ e (by omega) he;obtain⟨b1,b2⟩:=hg _ g (by omega) hg';have cm:=phi (qB (x:=g) (y:=e) b1 a1 b2 a2);simp only[EV,up1 (show 2*i+1<1000000000 by omega),ixM h1,ixM (show 2*i+1+1<H by omega),eltM he,eltM hg',rowE,den_lt,cm]
   unfold yr;simp only[EV,decide_eq_true_eq,up1 (show 2*i+1<1000000000 by omega)]
   by_cases hc:qA g e<0
   ·rw[if_pos hc];exact fin _ _ _ _ _ _ _ (.inr rfl) (by omega)
   ·rw[if_neg hc];exact fin _ _ _ _ _ _ _ (.inl rfl) (by omega)
  ·rw[if_neg (by omega)];unfold yr;simp only[EV,ad,if_false];exact fin _ _ _ _ _ _ _ (.inl rfl) (by omega)
 ·rw[if_neg (by omega)]
theorem XA {a:Agenda}(h:cV a){fr:List Int}{i:Nat}{u:Int}(hf:a.slots.free=fr++[(i:Int)])(hu:a.slots.uses[i]?=some u)(hm:u<1000000){t:Rt}{n:Int}(hx:rok t=true∧0≤n∧n≤1000000)(hn:n∉a.heap.map (·.number))(ht:In64 t)(h64: ∀e∈a.heap,In64 e.time):
  Ans D 317 [AG a,R t,.i64 n] [AG (d4 a fr i u t n),HD ⟨i,u+1⟩,.i64 0]:=by
 classical
 have hs:=okR_fine.1 h.1;have hP:=iJ hs h.2.1;have hsm:=rv h;have n2:=hs.n2;have hl:=h.2.1.2.1;have hw:=h.2.1.1;have hi:=aP hu;obtain⟨hOk,q2,q3⟩:=tr h hf hu hm hx hn;have hOrd:=ord_of hOk;have m1:=phi (vS (oO h) h64);rw[decide_eq_true h] at m1;have m2:=phi (c43 ht);rw[hx.1] at m2;have e0:okE true=0:=rfl;rw[e0] at m1 m2;have mm:RF.ev (.mm true) [.v (.int .i64 0),.v (.int .i64 0)]=some (.v (.int .i64 0)):=rfl;have ap:=dc (f:=erow) (l:=a.heap) (k:=[⟨t,n,⟨i,u+1⟩⟩]) (bytes:=40) (z:=5) (by simp;omega) lenE;have dn:=downN (n:=a.heap.length) (by omega);have good: ∀x∈a.heap++[(⟨t,n,⟨i,u+1⟩⟩:Evt)],GoodE a.wher.length x:=fun x hx'=>by
  rcases bh.1 hx' with h1|h1
  ·obtain⟨k,hk⟩:=aA.1 h1;obtain⟨j,v,g1,_,_,g4⟩:=hP.at_ k x hk;exact⟨h64 x h1,(h.2.2.1 x h1).1,j,by rw[g1],aP g4⟩
  ·rw[bm] at h1;subst h1;exact⟨ht,hx.1,i,rfl,by omega⟩
 have up:=tu (x:=⟨t,n,⟨i,u+1⟩⟩) (a.heap.length+1) (a.heap++[⟨t,n,⟨i,u+1⟩⟩]) a.wher a.heap.length (by simp);have e1:(a.heap++[(⟨t,n,⟨i,u+1⟩⟩:Evt)]).set a.heap.length ⟨t,n,⟨i,u+1⟩⟩=a.heap++[⟨t,n,⟨i,u+1⟩⟩]:=by simp
 rw[e1] at up;simp only[aq] at up;obtain⟨hpF,whF,jF,hF⟩: ∃hpF whF jF,siftH ⟨t,n,⟨i,u+1⟩⟩ (a.heap.length+1) (a.heap++[⟨t,n,⟨i,u+1⟩⟩]) a.wher a.heap.length=(hpF,whF,jF):=⟨_,_,_,rfl⟩;rw[hF] at up;simp only at up;have pH:(d4 a fr i u t n).heap=hpF.set jF ⟨t,n,⟨i,u+1⟩⟩:=by unfold d4;rw[up]
 have pW:(d4 a fr i u t n).wher=whF.set i (jF:Int):=by unfold d4;rw[up]
 have pS:(d4 a fr i u t n).slots=gG a.slots fr i u:=rfl;have lH:hpF.length=a.heap.length+1:=by
  have:=q2.length_eq;rw[pH,aB,an,az] at this;exact this
 have lW:whF.length=a.wher.length:=by rw[pW,aB] at q3;exact q3
 have hjF:jF≤a.heap.length:=by
  have q:=(ru (s:=gG a.slots fr i u) (a.heap.length+1) (a.heap++[⟨t,n,⟨i,u+1⟩⟩]) (a.wher.set i (a.heap.length:Int)) a.heap.length (by omega) (by simp) (fun x hx'=>(good x hx').rok) ⟨fun c e p c0 cn he hp=>by
   have h1:=aP he;rw[an,az] at h1;rw[aw (by omega)] at he hp;exact ord_of h c e p c0 he hp,fun c e p _ c0 hc he _=>by
   have h1:=aP he;rw[an,az] at h1;omega⟩ (plc_push hs hP hf hu rfl)).2.2.2.2
  rw[up] at q;exact q
 have child: ∀k e,k≠jF→hpF[k]?=some e→(d4 a fr i u t n).heap[k]?=some e:=fun k e hk he=>by rw[pH,aE (fun q=>hk q.symm)];exact he
 have s4:=subM (f:=erow) (l:=(d4 a fr i u t n).heap);rw[q2.length_eq,an,az] at s4;have s5:=subM (f:=I1) (l:=(d4 a fr i u t n).wher);rw[q3] at s5;have s1:=pQ (l:=hpF) (i:=jF) (by omega) ⟨t,n,⟨i,u+1⟩⟩;rw[←pH] at s1;have s3:=setI (l:=whF) (i:=i) (by omega) (jF:Int);rw[←pW] at s3;refine ans_of k317_ok s317 rfl ⟨1001,?_⟩;unfold k317;simp only[den_lt,shAG,shapeR,m1,m2,mm,cAG3,EV,aa,decide_true,ak,ad,if_false,decide_eq_true_eq,gt_iff_lt];rw[if_neg (by omega),if_neg (by omega)];refine(run_list (m:=1001) (l:=a.heap) (p:=fun g=>!decide (g.number=n)) (st:=fun i=>[.i64 (i:Int)]) (r:=none) (fin:=some [AG (d4 a fr i u t n),HD ⟨i,u+1⟩,.i64 0]) (fun k g self hg hall=>?_) (fun hall self=>?_) (by omega)).trans ?_
 ·have hne:¬g.number=n:=fun e=>hn (aN.2 ⟨g,ah hg,e⟩);unfold mu;simp only[den_lt,cAG3,tixM hg (lenE _),eltM hg,rowE,cEP2,EV,decide_eq_true_eq,if_lt (get_lt hg),up1 (show k<1000000000 by have:=get_lt hg;omega),hne,decide_false,aM,ad,if_true,if_false]
 ·unfold mu;simp only[EV,decide_eq_true_eq,if_ge];unfold yw;have g0:decide ((-1:Int)≥0)=false:=rfl;simp only[EV,g0,ad,if_false,den_lt,pAG,phi (Xy hs hf hu hm),shSL,shHD,decide_true,ak,phi (Qk hsm),shAG,cAG3,cAG4,pR,pHD,aggEv,bsE,subE1,aa,ap,an,az,dn];refine(uu (N:=1001) (n:=n) (h:=⟨i,u+1⟩) (H:=a.heap.length+1) (W:=a.wher.length) (by omega) ht hx.1 (a.heap.length+1) a.heap.length 1001 _ _ (by omega) (by omega) (by omega) (by simp) rfl good).trans ?_;rw[hF];unfold Hp;have w1:IntKind.i64.wrap (2*(jF:Int))=((2*jF:Nat):Int):=by rw[bU (by omega) (by omega)];omega
  simp only[EV,w1,up1 (show 2*jF<1000000000 by omega)]
  refine(Fs (N:=1001) (H:=a.heap.length+1) (by omega) ht hx.1 (by omega) (by omega) lH (fun k e hk he=>?_) (fun k e hk he=>?_)).trans ?_
  ·have he':=child k e hk he;have:=good e (q2.mem_iff.1 (ah he'));exact⟨this.t64,this.rok⟩
  ·have he':=child k e (by omega) he;refine hOrd k e _ (by omega) he' ?_;rw[pH,show(k-1)/2=jF by omega,aC (by omega)]
  ·unfold Ho;simp only[EV,den_lt,ixM (show jF<a.heap.length+1 by omega),pR,pHD,aggEv,s1,cHD0,ixM (show i<a.wher.length by omega),s3,pSL,s4,s5,mi]
   rfl
 ·rw[if_pos (by rw[aG];intro g hg;simpa using fun e=>hn (aN.2 ⟨g,hg,e⟩))]
theorem gW_of {c:Clock}(h:ClkOk c):gW c:=by
 have hc:=cs_of h;exact⟨hc.certs,hc.due,hc.pts,oO h.2.2.2.1⟩
theorem aggDu (n:Int)(h:Hnd):RF.ev .agg [.i64 n,HD h]=some (DP ⟨n,h⟩):=rfl
theorem bsDu (d:Due):RF.ev (.bs 1 [KP.z,KP.z,KP.z] [0]) [DP d]=some (sl bF [d]):=rfl
theorem subDu (d:Due):RF.ev .sub [sl bF [d],.v (.int .i64 0),.v (.int .i64 1)]=some (sl bF [d]):=rfl
theorem appDu {c:Clock}{d:Due}(h:c.due.length≤1000):RF.ev (.app 24 3) [sl bF c.due,.v (.int .i64 (c.due.length:Int)),sl bF [d]]=some (sl bF (c.due++[d])):=
 dc (f:=bF) (l:=c.due) (k:=[d]) (bytes:=24) (z:=3) (by simp;omega) lenD
theorem lastDu (c:Clock)(d:Due):RF.ev .sub [sl bF (c.due++[d]),.v (.int .i64 0),.v (.int .i64 ((c.due++[d]).length:Int))]=some (sl bF (c.due++[d])):=subM
theorem pCLk (c:Clock):RF.ev (.part 0 3) [CL c]=some (.agg [.i64 c.now.num,.i64 c.now.den,sl row c.pts]):=rfl
theorem pCSk (c:Certs):RF.ev (.part 0 2) [CS c]=some (CS c):=rfl
theorem pCL53 (c:Clock):RF.ev (.part 5 3) [CL c]=some (SL c.agenda.slots):=rfl
theorem aggC8 (r:Rt)(p:List Pt)(cs:Certs)(s:Slots)(h:List Evt)(w:List Int)(d:List Due):RF.ev .agg [.agg [.i64 r.num,.i64 r.den,sl row p],CS cs,sl I1 s.uses,sl B1 s.used,sl I1 s.free,sl erow h,sl I1 w,sl bF d]=some (CL ⟨r,p,cs,⟨s,h,w⟩,d⟩):=rfl
theorem aggC11 (r:Rt)(p:List Pt)(cs:Certs)(s:Slots)(h:List Evt)(w:List Int)(d:List Due):RF.ev .agg [.i64 r.num,.i64 r.den,sl row p,.i64 cs.next,sl hrow cs.list,sl I1 s.uses,sl B1 s.used,sl I1 s.free,sl erow h,sl I1 w,sl bF d]=some (CL ⟨r,p,cs,⟨s,h,w⟩,d⟩):=rfl
theorem Az {l:List Pt}{t:Rt}(h:okF l)(hr:rok t=true){x:Crt}(hx:x.ok)(h1:inF l x.low=true)(h2:inF l x.high=true):f8 (ptOf l x.high) (ptOf l x.low) t=0:=
 (ri (c:=⟨t,l,⟨0,[]⟩,⟨⟨[],[],[]⟩,[],[]⟩,[]⟩) h hr (x:=⟨0,x⟩) hx).2 (by unfold knownH;simp only;rw[h1,h2];rfl)
theorem nE {l:List Pt}(h:okF l){id:Int}(hi:inF l id=true):¬(ptOf l id).id<0:=by
 obtain⟨i,p,h1,h2,h3,h4⟩:=cH h hi;rw[h4];have:=gE h p (ah h1);omega
theorem cPP0 (p:Pt):RF.ev (.cell 0) [PP p]=some (.i64 p.id):=rfl
open Classical in
theorem XB {c:Clock}{x:Crt}(h:CAdd c x)(h64:c6 c):((fT c x).2=false→Ans D 238 [CL c,CP x] [CL (ly c x),.i64 c.certs.next,.i64 0])∧
  ∀{fr:List Int} {i:Nat} {u:Int},(fT c x).2=true→c.agenda.slots.free=fr++[(i:Int)]→c.agenda.slots.uses[i]?=some u→u<1000000→Ans D 238 [CL c,CP x] [CL (certD c x fr i u),.i64 c.certs.next,.i64 0]:=by
 have hc:=cs_of h.ok;have m1:=phi (pP h64 (gW_of h.ok));rw[decide_eq_true h.ok,show okE true=0 from rfl] at m1
 have hF:=h.ok.2.1;have m2:=phi (Qq h.ok.2.2.1 h.cok h.new h.room h.next);have m3:=phi (IR (x:=x) hF h64.1);rw[if_pos (Az hF h.ok.1 h.cok h.low h.high)] at m3;have n8:decide ((0:Int)=8)=false:=rfl;have s0:=subM (f:=bF) (l:=c.due);have p1:=nE hF h.low;have p2:=nE hF h.high;constructor
 ·intro hf;have hf':(failT c.now (ptOf c.pts x.high) (ptOf c.pts x.low)).2=false:=hf;rw[hf'] at m3;refine ans_of k238_ok s238 rfl ⟨1,?_⟩;unfold k238;simp only[den_lt,shCL,shCP,shapeR,pCL3,pCL2,pCL0,m1,m2,shCS,cCP0,cCP1,phi (c315 hF _),cPP0,EV,decide_true,ak,ad,if_false,n8,decide_eq_false p1,decide_eq_false p2,phi (c215 hc),cCL10,aa,m3,cCL5,cCL6,cCL7,cCL8,cCL9];unfold k238_1;simp only[EV,den_lt,pCLk,pCSk,s0,aggC8];rfl
 ·intro fr i u hf he hu hm;have hf':(failT c.now (ptOf c.pts x.high) (ptOf c.pts x.low)).2=true:=hf;rw[hf'] at m3;obtain⟨f1,f2⟩:=mj hF h64.1 h.ok.1 h.low h.high hf';have m4:=phi (XA h.ok.2.2.2.1 he hu hm (t:=(fT c x).1) (n:=c.certs.next) ⟨f1,h.ok.2.2.1.2.1,by have:=h.next;omega⟩ (nD h.ok) f2 h64.2);have m4:PhiS D 317 [AG c.agenda,R (failT c.now (ptOf c.pts x.high) (ptOf c.pts x.low)).1,.v (.int .i64 c.certs.next)]=_:=m4;refine ans_of k238_ok s238 rfl ⟨1,?_⟩;unfold k238;simp only[den_lt,shCL,shCP,shapeR,pCL3,pCL2,pCL0,pCL5,m1,m2,shCS,cCP0,cCP1,phi (c315 hF _),cPP0,EV,decide_true,ak,ad,if_false,n8,decide_eq_false p1,decide_eq_false p2,phi (c215 hc),cCL10,aa,m3,m4,shAG,shHD,pHD,aggDu,bsDu,subDu,appDu hc.due,cAG0,cAG1,cAG2,cAG3,cAG4,if_true];unfold k238_1;simp only[EV,den_lt,pCLk,pCSk,lastDu,aggC8];rfl
theorem XC {c:Clock}{x:Crt}(h:CAdd c x)(h64:c6 c):((fT c x).2=false→Ans D 311 [CL c,CP x] [CL (ly c x),.i64 c.certs.next,.i64 0])∧
  ∀{fr:List Int} {i:Nat} {u:Int},(fT c x).2=true→c.agenda.slots.free=fr++[(i:Int)]→c.agenda.slots.uses[i]?=some u→u<1000000→Ans D 311 [CL c,CP x] [CL (certD c x fr i u),.i64 c.certs.next,.i64 0]:=by
 have hc:=cs_of h.ok;have hF:=h.ok.2.1;have m2:=phi (Qp h.ok.2.2.1 h.cok h.new h.room h.next);have m3:=phi (IQ (x:=x) hF h64.1 h.low h.high);have s0:=subM (f:=bF) (l:=c.due);constructor
 ·intro hf;have hf':(failT c.now (ptOf c.pts x.high) (ptOf c.pts x.low)).2=false:=hf;rw[hf'] at m3;refine ans_of k311_ok s311 rfl ⟨1,?_⟩;unfold k311;simp only[den_lt,shCL,shCP,shapeR,pCL3,pCL2,pCL0,m2,shCS,EV,decide_true,ak,aM,ad,if_false,if_true,phi (c112 hc),cCL10,aa,m3,cCL0,cCL1,cCL2,cCL5,cCL6,cCL7,cCL8,cCL9,cCS0,cCS1,s0,aggC11];rfl
 ·intro fr i u hf he hu hm;have hf':(failT c.now (ptOf c.pts x.high) (ptOf c.pts x.low)).2=true:=hf;rw[hf'] at m3;obtain⟨f1,f2⟩:=mj hF h64.1 h.ok.1 h.low h.high hf';have m4:=phi (Xz h.ok.2.2.2.1 he hu hm (t:=(fT c x).1) (n:=c.certs.next) ⟨f1,h.ok.2.2.1.2.1,by have:=h.next;omega⟩ (nD h.ok) f2 h64.2);have m4:PhiS D 374 [AG c.agenda,R (failT c.now (ptOf c.pts x.high) (ptOf c.pts x.low)).1,.v (.int .i64 c.certs.next)]=_:=m4;have m5:=phi (Qn (okR_fine.1 h.ok.2.2.2.1.1));rw[nA he hu,decide_eq_true hm] at m5;refine ans_of k311_ok s311 rfl ⟨1,?_⟩;unfold k311;simp only[den_lt,shCL,shCP,shapeR,pCL3,pCL2,pCL0,pCL5,pCL53,m2,shCS,EV,decide_true,ak,aM,ad,if_false,if_true,phi (c112 hc),cCL10,aa,m3,m4,m5,shAG,shHD,pHD,aggDu,bsDu,subDu,appDu hc.due,cCL0,cCL1,cCL2,cCS0,cCS1,cAG0,cAG1,cAG2,cAG3,cAG4,lastDu,aggC11];rfl
theorem XD {l k:List Pt}(hl:l.length≤1000):Ans D 234 [sl row l,sl row k] [.bool (decide (l=k))]:=by
 refine ans_of MC UE rfl ⟨1001,?_⟩;unfold CZ;simp only[EV,aa,ai,decide_eq_false_iff_not];by_cases h:l.length=k.length
 ·rw[if_neg (by omega)];refine ju h (run_list (l:=l.zip k) (st:=fun i=>[.i64 (i:Int)]) (fun i x self hx _=>?_) (fun _ self=>?_) (by rw[cx h];omega))
  ·obtain⟨hp,hq⟩:=dK hx;unfold xP;simp only[tixM hp (row_len _),eltM hp,tixM hq (row_len _),eltM hq,rowP,PY,EV,decide_eq_true_eq,ai,decide_eq_false_iff_not,if_lt (get_lt hp),up1 (show i<1000000000 by have:=get_lt hp;omega)]
   by_cases e:x.1=x.2<;>simp[e]
  ·rw[cx h];unfold xP;simp only[EV,decide_eq_true_eq,if_ge,GY]
 ·rw[if_pos (by omega),decide_eq_false (fun e=>h (by rw[e]))]
theorem Ko {l:List Pt}(h:okF l){x:Int}(hx:x∈l.map Pt.id):0≤x∧x≤65535:=by
 obtain⟨p,hp,rfl⟩:=aN.1 hx;exact gE h p hp
theorem tv {t:Rt}{l:List Pt}(h:okF l){x:Crt}(h1:inF l x.low=true)(h2:inF l x.high=true)(hl:leads t (ptOf l x.high) (ptOf l x.low)=true):x.ok:=by
 have b1:=Ko h (in_ids.1 h1);have b2:=Ko h (in_ids.1 h2);refine⟨b1.1,b1.2,b2.1,b2.2,fun e=>?_⟩;rw[e,leads_irr] at hl;cases hl
theorem qF {t:Rt}{l:List Pt}(h:okF l):EdgOk l (edgesU l (upsO t l)):=by
 refine⟨iF (risen_ids h.2.2),?_,fun x hx=>?_,fun x hx=>(eu h hx).1,fun x hx=>(eu h hx).2.1⟩
 ·have h64:=h.1;have:(edgesU l (upsO t l)).length≤l.length:=by
   unfold edgesU;refine bc (eF ..) ?_;rw[cv];omega
  omega
 ·obtain⟨a,b,c⟩:=eu h hx;exact tv h a b c
theorem qG {t:Rt}{l:List Pt}(h:okF l):EdgOk l (edgsT (cart t l).nodes l.length):=by
 refine⟨j4 h _ (am _),?_,fun x hx=>?_,fun x hx=>(fH h hx).1,fun x hx=>(fH h hx).2.1⟩
 ·have h64:=h.1;have:=il (cart t l).nodes l.length;omega
 ·obtain⟨a,b,c⟩:=fH h hx;exact tv h a b c
theorem pCL11 (c:Clock):RF.ev (.part 0 11) [CL c]=some (CL c):=rfl
theorem Sq {es:List Crt}{i:Nat}(h:i≤es.length):RF.ev (.tsub 2) [sl crow es,.v (.int .i64 0),.v (.int .i64 (i:Int))]=some (sl crow (es.take i)):=by
 have he:elsOk' 2 (es.map crow)=true:=by
  cases es with
  |nil=>rfl
  |cons a l=>simp[elsOk',lenC]
 rw[sU,if_pos ⟨by omega,by omega,by simp;omega,he,by decide⟩];simp
theorem XE {i n:Nat}(h:i≤n):RF.ev .bnd [.v (.int .i64 (i:Int)),.v (.int .i64 (n:Int))]=some (.i64 (i:Int)):=by rw[gZ,if_pos ⟨by omega,by omega⟩]
theorem shPt (p:Pt):RF.ev (.shape 3) [PP p]=some (PP p):=rfl
theorem Kq {l:List Pt}(h:okF l){x:Int}(hx:inF l x=true): ∃(i:Nat) (p:Pt),l[i]?=some p∧p.id=x∧ptOf l x=p:=by
 obtain⟨i,p,h1,h2,_,h4⟩:=cH h hx;exact⟨i,p,h1,h2,h4⟩
open Classical in
theorem aggKH (c:Clock)(h:List Int):RF.ev .agg [CL c,sl I1 h]=some (KH ⟨c,h⟩):=rfl
def rA:Nat→Nat→Nat→Nat
 |0,n,_=>n
 |f+1,n,m=>if n<m then rA f (2*n) m else n
theorem Af {t:Rt}{l:List Pt}{wins places:List Int}(hb:ku wins places)(hf:gh (wonI t l) wins places):f9 wins places:=by
 refine⟨hb,fun i hi=>?_⟩;have:=hf i hi;unfold pickA;rw[this];unfold wonI;split
 ·rename_i h1;exact⟨.inr rfl,fun g=>by omega⟩
 ·split
  ·exact⟨.inl rfl,fun g=>by omega⟩
  ·split
   ·exact⟨.inl rfl,fun g=>by omega⟩
   ·exact⟨.inr rfl,fun g=>by omega⟩
def bracketOf (t:Rt)(l:List Pt)(places:List Int):Brk:=⟨places,playD (wonI t l) places (places.length-1) (places.length-1)⟩
theorem gI {t:Rt}{l:List Pt}{places:List Int}(h:okF l)(h1:1≤places.length)(h2:places.length≤64)(hv: ∀x∈places,valK l x)(ho:dO places):
  (bracketOf t l places).wins.length=places.length-1∧f9 (bracketOf t l places).wins places∧gh (wonI t l) (bracketOf t l places).wins places:=by
 have hlen:(bracketOf t l places).wins.length=places.length-1:=by unfold bracketOf;simp only;exact dU _
 have hf:gh (wonI t l) (bracketOf t l places).wins places:=(lK hlen).1 rfl;refine⟨hlen,Af ⟨⟨h1,h2,by omega⟩,ho,fun x hx=>?_⟩ hf,hf⟩;exact jl h (hv x hx)
theorem oP {t:Rt}{l:List Pt}{places:List Int}(h:okF l)(h1:1≤places.length)(h2:places.length≤64)(hv: ∀x∈places,valK l x)(ho:dO places):
  EdgOk l (edsB (bracketOf t l places).wins places (bracketOf t l places).wins.length):=by
 obtain⟨hlen,hb,hf⟩:=gI (t:=t) h h1 h2 hv ho;have facts:=fun e=>iG (b:=bracketOf t l places) (e:=e) h hb hv hf;refine⟨j5 (b:=bracketOf t l places) h hb hv hf _ (am _),?_,fun x hx=>?_,fun x hx=>(facts x hx).1,fun x hx=>(facts x hx).2.1⟩
 ·have:=hG (bracketOf t l places).wins places (bracketOf t l places).wins.length;omega
 ·obtain⟨a,b,c⟩:=facts x hx;exact tv h a b c
theorem XF {l:List Pt}{t:Rt}{pl:List Int}(h:okF l)(ht:In64 t)(h1:1≤pl.length)(h2:pl.length≤64)(hv: ∀x∈pl,valK l x):Ans D 321 [F l,R t,sl I1 pl] [BR (bracketOf t l pl)]:=by
 have wp:IntKind.i64.wrap ((pl.length:Int)-1)=((pl.length-1:Nat):Int):=by rw[bU (by omega) (by omega)];omega
 have rp:=vW (n:=pl.length-1) (by omega);have agB: ∀w:List Int,RF.ev .agg [sl I1 pl,sl I1 w]=some (BR ⟨pl,w⟩):=fun w=>rfl;refine ans_of Nq Vp rfl ⟨1001,?_⟩;unfold DK bracketOf;simp only[den_lt,shapeF,shapeR,EV,aa,ed (l:=pl) (f:=I1) (bytes:=8) (z:=1) (by omega) lenI,wp,rp,aQ];generalize hm:pl.length-1=m at*;have w1:IntKind.i64.wrap ((m:Int)-1)=(m:Int)-1:=bU (by omega) (by omega);rw[w1];have e0:([sl I1 (List.replicate m 0),PV.v (.int .i64 ((m:Int)-1))]:List PV)=[sl I1 (playD (wonI t l) pl m 0),.i64 ((m:Int)-1-((0:Nat):Int))]:=by
  simp[playD]
 rw[e0];refine(dQ (m:=1001) (n:=m) (st:=fun k=>[sl I1 (playD (wonI t l) pl m k),.i64 ((m:Int)-1-(k:Int))]) (fun k self hk=>?_) (fun self=>?_) (by omega))
 ·obtain⟨i,hi⟩: ∃i:Nat,m-1-k=i:=⟨_,rfl⟩;have hii:(m:Int)-1-(k:Int)=(i:Int):=by omega
  have hdn:IntKind.i64.wrap ((i:Int)-1)=(m:Int)-1-((k+1:Nat):Int):=by rw[bU (by omega) (by omega)];omega
  have hP:=qd (P:=valK l) (.inl rfl) (won:=wonI t l) (fun a b=>qC a b) hv k (by omega:k≤m);have hlen:=dU (won:=wonI t l) (places:=pl) (m:=m) k;have hnx:playD (wonI t l) pl m (k+1)=(playD (wonI t l) pl m k).set i (wonI t l (nodeV (playD (wonI t l) pl m k) pl (2*i+1)) (nodeV (playD (wonI t l) pl m k) pl (2*i+2))):=by rw[←hi];rfl
  rw[hnx];generalize playD (wonI t l) pl m k=w at hP hlen;have su:RF.ev .sub [sl I1 w,.v (.int .i64 0),.v (.int .i64 (m:Int))]=some (sl I1 w):=by rw[←hlen];exact subM
  unfold yy;simp only[EV,hii,decide_eq_true_eq,ge_iff_le,if_pos (show(0:Int)≤(i:Int) by omega),dbl (show i<100000000 by omega),up1 (show 2*i<1000000000 by omega),up2 (show 2*i<1000000000 by omega),subM,su,agB,den_lt,phi (oJ (b:=⟨pl,w⟩) (i:=2*i+1) (by simp only;omega) (by simp only;omega)),phi (oJ (b:=⟨pl,w⟩) (i:=2*i+2) (by simp only;omega) (by simp only;omega)),phi (Qd h ht (hP (2*i+1) (by omega)) (hP (2*i+2) (by omega))),ixM (show i<m by omega),setI (l:=w) (i:=i) (by omega),hdn]
 ·have hlen:=dU (won:=wonI t l) (places:=pl) (m:=m) m;generalize playD (wonI t l) pl m m=w at hlen;have su:RF.ev .sub [sl I1 w,.v (.int .i64 0),.v (.int .i64 (m:Int))]=some (sl I1 w):=by rw[←hlen];exact subM
  unfold yy;simp only[EV,decide_eq_true_eq,ge_iff_le,if_neg (show¬(0:Int)≤(m:Int)-1-(m:Int) by omega),Hq,subM,su,agB,den_lt]
theorem c240 {l:List Pt}{t:Rt}{pl:List Int}(h:okF l)(ht:In64 t)(h1:1≤pl.length)(h2:pl.length≤64)(hv: ∀x∈pl,valK l x):Ans D 240 [F l,R t,sl I1 pl] [BR (bracketOf t l pl)]:=by
 refine ans_of ME UG rfl ⟨1,?_⟩;unfold C2;simp only[den_lt,shapeF,shapeR,EV,phi (XF h ht h1 h2 hv),shBR]
theorem aggKT (c:Clock)(b:Brk):RF.ev .agg [CL c,BR b]=some (KT ⟨c,b⟩):=rfl
theorem aggHT (c:Clock)(b:Tree):RF.ev .agg [CL c,TR b]=some (HT ⟨c,b⟩):=rfl
theorem pBR2 (b:Brk):RF.ev (.part 0 2) [BR b]=some (BR b):=rfl
theorem pTR2 (b:Tree):RF.ev (.part 0 2) [TR b]=some (TR b):=rfl
set_option linter.unusedSimpArgs false
theorem ht0 (k:Heater):RF.ev (.cell 0) [HT k]=some (.i64 k.clock.now.num):=rfl
theorem ht1 (k:Heater):RF.ev (.cell 1) [HT k]=some (.i64 k.clock.now.den):=rfl
def zCH:Choice:=⟨0,zKH,zKT,zHT,zKH⟩
theorem aggZ (g:Int):RF.ev .agg [.v (.int .u8 g),.v (.int .i64 0),.v (.int .i64 0),.sl [],.v (.int .i64 0),.sl [],.sl [],.sl [],.sl [],.sl [],.sl [],.sl [],.sl [],.v (.int .i64 0),.v (.int .i64 0),.sl [],.v (.int .i64 0),.sl [],.sl [],.sl [],.sl [],.sl [],.sl [],.sl [],.sl [],.sl [],.v (.int .i64 0),.v (.int .i64 0),.sl [],.v (.int .i64 0),.sl [],.sl [],.sl [],.sl [],.sl [],.sl [],.sl [],.v (.int .i64 0),.sl [],.v (.int .i64 0),.v (.int .i64 0),.sl [],.v (.int .i64 0),.sl [],.sl [],.sl [],.sl [],.sl [],.sl [],.sl [],.sl []]=some (CHO ⟨g,zKH,zKT,zHT,zKH⟩):=rfl
theorem Ft {t:Rt}(h:rok t=true):asked t=0∨asked t=2:=by
 unfold asked;rw[if_pos h];split
 ·exact .inl rfl
 ·exact .inr rfl
theorem I7:okE true=0:=rfl
structure ChW (c:Choice):Prop where
 h1:gW c.heap.clock∧c.heap.heap.length≤1000
 h2:gW c.tourn.clock∧c.tourn.brk.places.length≤1000∧c.tourn.brk.wins.length≤1000
 h3:gW c.heater.clock∧c.heater.tree.nodes.length≤1000
 h4:gW c.hanger.clock∧c.hanger.heap.length≤1000
theorem zC_w:gW zC:=⟨by decide,by decide,by decide,rfl⟩
theorem zCH_w:ChW zCH:=⟨⟨zC_w,by decide⟩,⟨zC_w,by decide,by decide⟩,⟨zC_w,by decide⟩,⟨zC_w,by decide⟩⟩
theorem c17 {a:Choice}(h:ChW a):Ans D 17 [CHO a,CHO a] [.bool true]:=by
 have m1:=phi (P4 (t:=a.heap) h.h1);have m2:=phi (c52w (t:=a.tourn) h.h2);have m3:=phi (c53w (t:=a.heater) h.h3);have m4:=phi (P5 (t:=a.hanger) h.h4);rw[decide_eq_true rfl] at m1 m2 m3 m4;refine ans_of k17_ok s17 rfl ⟨1,?_⟩;unfold k17;simp only[den_lt,shCH,cCH,u8E,pCH1,pCH2,pCH3,pCH4,m1,m2,m3,m4,EV,decide_true,if_true,k17_1]
end Go.Proofs.YtfghdmmapmdcgaaGreat
