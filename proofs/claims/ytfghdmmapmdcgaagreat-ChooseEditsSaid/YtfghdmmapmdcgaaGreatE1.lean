import Derived.Test.YtfghdmmapmdcgaaGreatC3
import Derived.Test.YtfghdmmapmdcgaaGreatC1
import Derived.Test.YtfghdmmapmdcgaaGreatP1
set_option linter.unusedVariables false
set_option linter.unusedSimpArgs false
set_option linter.defProp false
noncomputable section
namespace Go.Proofs.YtfghdmmapmdcgaaGreat
open Go.Sym Bnd
set_option maxRecDepth 100000
def d67 {l:List Pt}(hl:l.length<=1000):Ans D 67 [sl row l] [sl row l]:=by
 refine am ?_;unfold k67;simp only[EV,ai,aa];have h1:den (aY D) 1 L7 [] [sl row l,.i64 (l.length:Int),.bool (decide ((l.length:Int)=0))]=some [sl row l]:=by
  unfold L7;simp[EV,gy (l:=l) (f:=row) (bytes:=24) (z:=3) (by omega) bY,bF]
 by_cases h:(l.length:Int)=0
 .have:l=[]:=bQ (by omega);subst this;rw[ad h];exact l7 rfl h1
 .grind
def LL {l:List Held}(hl:l.length<=1000):Ans D 291 [sl hrow l] [sl hrow l]:=by
 refine am ?_;unfold aa3;simp only[EV,ai,aa];have h1:den (aY D) 1 HK [] [sl hrow l,.i64 (l.length:Int),.bool (decide ((l.length:Int)=0))]=some [sl hrow l]:=by
  unfold HK;simp[EV,gy (l:=l) (f:=hrow) (bytes:=24) (z:=3) (by omega) fi,bF]
 by_cases h:(l.length:Int)=0
 .have:l=[]:=bQ (by omega);subst this;rw[ad h];exact l7 rfl h1
 .grind
def XU {l:List Due}(hl:l.length<=1000):Ans D 292 [sl cE l] [sl cE l]:=by
 refine am ?_;unfold aa4;simp only[EV,ai,aa];have h1:den (aY D) 1 HL [] [sl cE l,.i64 (l.length:Int),.bool (decide ((l.length:Int)=0))]=some [sl cE l]:=by
  unfold HL;simp[EV,gy (l:=l) (f:=cE) (bytes:=24) (z:=3) (by omega) iT,bF]
 by_cases h:(l.length:Int)=0
 .have:l=[]:=bQ (by omega);subst this;rw[ad h];exact l7 rfl h1
 .grind
def R7 {l:List Evt}(hl:l.length<=1000):Ans D 293 [sl bO l] [sl bO l]:=by
 refine am ?_;unfold aa5;simp only[EV,ai,aa];have h1:den (aY D) 1 HM [] [sl bO l,.i64 (l.length:Int),.bool (decide ((l.length:Int)=0))]=some [sl bO l]:=by
  unfold HM;simp[EV,gy (l:=l) (f:=bO) (bytes:=40) (z:=5) (by omega) kb,bF]
 by_cases h:(l.length:Int)=0
 .have:l=[]:=bQ (by omega);subst this;rw[ad h];exact l7 rfl h1
 .grind
def XV {l:List Int}(hl:l.length<=1000):Ans D 422 [sl I1 l] [sl I1 l]:=by
 refine am ?_;unfold acv;simp only[EV,ai,aa];have h1:den (aY D) 1 Iz [] [sl I1 l,.i64 (l.length:Int),.bool (decide ((l.length:Int)=0))]=some [sl I1 l]:=by
  unfold Iz;simp[EV,gy (l:=l) (f:=I1) (bytes:=8) (z:=1) (by omega) bS,bF]
 by_cases h:(l.length:Int)=0
 .have:l=[]:=bQ (by omega);subst this;rw[ad h];exact l7 rfl h1
 .grind
structure SSm (s:Slots):Prop where
 uses:s.uses.length<=1000
 used:s.used.length<=1000
 free:s.free.length<=1000
structure ASm (a:Agenda):Prop where
 slots:SSm a.slots
 heap:a.heap.length<=1000
 wher:a.wher.length<=1000
structure CSm (c:Clock):Prop where
 pts:c.pts.length<=1000
 certs:c.certs.list.length<=1000
 agenda:ASm c.agenda
 due:c.due.length<=1000
def vF (l:List Pt):RF.ev .agg [sl row l]=some (F l):=rfl
def R8 {l:List Pt}(hl:l.length<=1000):Ans D 207 [F l] [F l]:=by
 refine am ?_;unfold aaa;simp[aO,b8,gy (l:=l) (f:=row) (bytes:=24) (z:=3) (by omega) bY,EV,bF,vF]
def Up (c:Certs):RF.ev .agg [.i64 c.next,sl hrow c.list]=some (CS c):=rfl
def XW {c:Certs}(hl:c.list.length<=1000):Ans D 208 [CS c] [CS c]:=by
 refine am ?_;unfold aab;simp[iI,lx,fm,gy (l:=c.list) (f:=hrow) (bytes:=24) (z:=3) (by omega) fi,EV,bF,Up]
def yR (s:Slots):RF.ev .agg [sl I1 s.uses,sl B1 s.used,sl I1 s.free]=some (SL s):=rfl
def R9 {s:Slots}(h:SSm s):Ans D 286 [SL s] [SL s]:=by
 obtain⟨h1,h2,h3⟩:=h;refine am ?_;unfold aaZ;simp[iW,iX,kf,iY,gy (l:=s.uses) (f:=I1) (bytes:=8) (z:=1) (by omega) bS,gy (l:=s.free) (f:=I1) (bytes:=8) (z:=1) (by omega) bS,gy (l:=s.used) (f:=B1) (bytes:=1) (z:=1) (by omega) rD,EV,bF,yR]
def XX {s:Slots}(h:SSm s):Ans D 413 [SL s] [SL s]:=by
 obtain⟨h1,h2,h3⟩:=h;refine am ?_;unfold acq;simp[iW,iX,kf,iY,phi (ml h1),phi (Ly h2),EV,bF,yR]
def Uq (a:Agenda):RF.ev .agg [sl I1 a.slots.uses,sl B1 a.slots.used,sl I1 a.slots.free,sl bO a.heap,sl I1 a.wher]=some (AG a):=rfl
def agV (a:Agenda):RF.ev (.part 0 3) [AG a]=some (SL a.slots):=rfl
def cAG0 (a:Agenda):RF.ev (.cell 0) [AG a]=some (sl I1 a.slots.uses):=rfl
def cAG1 (a:Agenda):RF.ev (.cell 1) [AG a]=some (sl B1 a.slots.used):=rfl
def cAG2 (a:Agenda):RF.ev (.cell 2) [AG a]=some (sl I1 a.slots.free):=rfl
def LM {a:Agenda}(h:ASm a):Ans D 209 [AG a] [AG a]:=by
 obtain⟨h1,h2,h3⟩:=h;refine am ?_;unfold aac;simp[ga,agV,phi (R9 h1),iW,iX,kf,iY,d7,gt,gy (l:=a.heap) (f:=bO) (bytes:=40) (z:=5) (by omega) kb,gy (l:=a.wher) (f:=I1) (bytes:=8) (z:=1) (by omega) bS,EV,bF,Uq]
def Sa {a:Agenda}(h:ASm a):Ans D 378 [AG a] [AG a]:=by
 obtain⟨h1,h2,h3⟩:=h;refine am ?_;unfold ab9;simp[ga,cAG0,cAG1,cAG2,d7,gt,phi (R7 h2),phi (ml h3),EV,bF,Uq]
section
variable (c:Clock)
def oc:RF.ev (.cell 0) [CL c]=some (.i64 c.now.num):=rfl
def od:RF.ev (.cell 1) [CL c]=some (.i64 c.now.den):=rfl
def rK:RF.ev (.cell 3) [CL c]=some (.i64 c.certs.next):=rfl
def mq:RF.ev (.cell 5) [CL c]=some (sl I1 c.agenda.slots.uses):=rfl
def mu:RF.ev (.cell 6) [CL c]=some (sl B1 c.agenda.slots.used):=rfl
def mw:RF.ev (.cell 7) [CL c]=some (sl I1 c.agenda.slots.free):=rfl
def kW:RF.ev .agg [.i64 c.now.num,.i64 c.now.den,sl row c.pts,.i64 c.certs.next,sl hrow c.certs.list,sl I1 c.agenda.slots.uses,sl B1 c.agenda.slots.used,sl I1 c.agenda.slots.free,sl bO c.agenda.heap,sl I1 c.agenda.wher,sl cE c.due]=some (CL c):=rfl
def XY:RF.ev .agg [R c.now,sl row c.pts,.i64 c.certs.next,sl hrow c.certs.list,sl I1 c.agenda.slots.uses,sl B1 c.agenda.slots.used,sl I1 c.agenda.slots.free,sl bO c.agenda.heap,sl I1 c.agenda.wher,sl cE c.due]=some (CL c):=rfl
def cR0 (r:Rt):RF.ev (.cell 0) [R r]=some (.i64 r.num):=rfl
def cR1 (r:Rt):RF.ev (.cell 1) [R r]=some (.i64 r.den):=rfl
end
def tz {c:Clock}(h:CSm c):Ans D 112 [CL c] [CL c]:=by
 obtain⟨h1,h2,h3,h4⟩:=h;refine am ?_;unfold Ze;simp[db,fq,mf,mh,mi,cU,phi (R8 h1),phi (XW h2),phi (LM h3),aO,bU,b8,cR0,cR1,iI,lx,fm,ga,cAG0,cAG1,cAG2,d7,gt,gy (l:=c.due) (f:=cE) (bytes:=24) (z:=3) (by omega) iT,EV,bF,kW]
def Fv {c:Clock}(h:CSm c):Ans D 215 [CL c] [CL c]:=by
 obtain⟨h1,h2,⟨⟨h5,h6,h7⟩,h8,h9⟩,h4⟩:=h;refine am ?_;unfold aah;simp[db,oc,od,m8,rK,fu,mq,mu,mw,jB,jU,cU,phi (d67 h1),phi (LL h2),phi (XU h4),phi (R7 h8),phi (ml h9),phi (ml h5),phi (ml h7),phi (Ly h6),EV,bF,kW]
def XZ {c:Clock}(h:CSm c):Ans D 299 [CL c] [CL c]:=by
 obtain⟨h1,h2,⟨⟨h5,h6,h7⟩,h8,h9⟩,h4⟩:=h;refine am ?_;unfold abb;simp[db,fq,m8,rK,fu,mq,mu,mw,jB,jU,cU,phi (d67 h1),phi (LL h2),phi (XU h4),phi (R7 h8),phi (ml h9),phi (ml h5),phi (ml h7),phi (Ly h6),EV,bF,XY]
def vG {x y:Evt}:evLess x y=true↔crs x.time y.time<0\/(crs x.time y.time=0/\ x.number<y.number):=by
 unfold evLess sgn
 grind
def rh (a b:Rt):crs b a= -crs a b:=by unfold crs;omega
def NL {a b c:Rt}(ha:0<a.den)(hb:0<b.den)(hc:0<c.den)(h1:crs a b<=0)(h2:crs b c<=0):crs a c<=0/\(crs a c=0->crs a b=0/\ crs b c=0):=by
 have e:crs a c*b.den=crs a b*c.den+crs b c*a.den:=by
  unfold crs
  grind
 have m1:crs a b*c.den<=0:=mD h1 (by omega);have m2:crs b c*a.den<=0:=mD h2 (by omega);constructor
 .apply Int.not_lt.1;intro h;have:=Int.mul_pos h hb;omega
 .intro h;rw[h,Int.zero_mul] at e;have z1:crs a b*c.den=0:=by omega
  have z2:crs b c*a.den=0:=by omega
  exact⟨(Int.mul_eq_zero.1 z1).resolve_right (by omega),(Int.mul_eq_zero.1 z2).resolve_right (by omega)⟩
def oe {x y:Evt}(h:evLess x y=true):evLess y x=false:=by
 cases e:evLess y x with
 |false=>rfl
 |true=>
  rw[vG] at h e;rw[rh x.time y.time] at e;omega
def Fw {x y z:Evt}(hx:rok x.time=true)(hy:rok y.time=true)(hz:rok z.time=true)(h:evLess x y=true)(k:evLess y z=true):evLess x z=true:=by
 rw[vG] at*;have:=NL (a:=x.time) (b:=y.time) (c:=z.time) (by have:=nE hx;omega) (by have:=nE hy;omega) (by have:=nE hz;omega) (by omega) (by omega);omega
def qN {x y z:Evt}(hx:rok x.time=true)(hy:rok y.time=true)(hz:rok z.time=true)(h:evLess x y=false)(k:evLess y z=false):evLess x z=false:=by
 cases e:evLess x z with
 |false=>rfl
 |true=>
  have h':¬(evLess x y=true):=by simp[h]
  have k':¬(evLess y z=true):=by simp[k]
  rw[vG] at*;rw[rh z.time x.time] at e;have:=NL (a:=z.time) (b:=y.time) (c:=x.time) (by have:=nE hz;omega) (by have:=nE hy;omega) (by have:=nE hx;omega) (by have:=rh y.time z.time;omega) (by have:=rh x.time y.time;omega);have e1:=rh y.time z.time;have e2:=rh x.time y.time;omega
def xz {x p s:Evt}(hx:rok x.time=true)(hp:rok p.time=true)(hs:rok s.time=true)(h:evLess x p=true)(k:evLess s p=false):evLess s x=false:=by
 cases e:evLess s x with
 |false=>rfl
 |true=>rw[Fw hs hx hp e h] at k;cases k
structure SFine (s:Slots):Prop where
 n1:1<=s.uses.length
 n2:s.uses.length<=200
 len:s.used.length=s.uses.length
 nd:s.free.Nodup
 rng:∀x∈s.free,0<=x/\ x<(s.uses.length:Int)
 used:∀i:Nat,i<s.uses.length->s.used[i]?=some (!decide ((i:Int)∈s.free))
 uses:∀(i:Nat) (u:Int),s.uses[i]?=some u->0<=u/\ u<=1000000/\(s.used[i]?=some true->1<=u)
def cZ {s:Slots}:s.okR↔SFine s:=by
 unfold Slots.okR;constructor
 .rintro⟨h1,h2,h3,_,l,h5,h6⟩;obtain⟨m1,m2,m3,m4⟩:=lN.1 h5;rw[aP] at m3 m4;have hl:∀i:Nat,i<s.uses.length->l[i]?=some (decide ((i:Int)∈s.free)):=λi hi=>by
   grind
  have fact:∀(i:Nat) (u:Int),s.uses[i]?=some u->0<=u/\ u<=1000000/\ s.used[i]?=some (!decide ((i:Int)∈s.free))/\(s.used[i]?=some true->1<=u):=λi u hu=>by
   have hi:=(aD.1 hu).1;obtain⟨b,hb⟩:∃b,s.used[i]?=some b:=⟨s.used[i]'(by omega),ah _⟩;obtain⟨q1,q2,q3,q4⟩:=h6 i u b _ hu hb (hl i hi);refine⟨q1,q2,?_,λh=>?_⟩
   .rw[hb];cases b<;>cases h:decide ((i:Int)∈s.free)<;>simp_all
   .rw[hb] at h;cases h;exact Int.not_lt.1 λhlt=>q4 ⟨rfl,by omega⟩
  refine⟨h1,h2,h3,m2,λx hx=>?_,λi hi=>?_,λi u hu=>?_⟩
  .obtain⟨g1,g2,_⟩:=m1 x hx;rw[aP] at g2;exact⟨g1,g2⟩
  .exact(fact i _ (ah hi)).2.2.1
  .obtain⟨q1,q2,_,q4⟩:=fact i u hu;exact⟨q1,q2,q4⟩
 .rintro⟨n1,n2,len,nd,rng,used,uses⟩;refine⟨n1,n2,len,gL nd rng,(List.range s.uses.length).map λi:Nat=>decide ((i:Int)∈s.free),?_,λi u b c hu hb hc=>?_⟩
  .rw[lN];refine⟨λx hx=>?_,nd,by simp,λi hi=>?_⟩
   .obtain⟨g1,g2⟩:=rng x hx;rw[aP];exact⟨g1,g2,by rw[eK,ad (by omega)]⟩
   .rw[aP] at hi;rw[aW,iR hi,eK,ad hi];by_cases e:(i:Int)∈s.free<;>simp[e]
  .have hi:=(aD.1 hu).1;rw[aW,iR hi] at hc;simp only[cf,bW] at hc;have hu':=used i hi;rw[hb] at hu';simp only[bW] at hu';obtain⟨q1,q2,q3⟩:=uses i u hu;refine⟨q1,q2,?_,λ⟨h1,h2⟩=>?_⟩
   .rw[<-hc,hu'];cases decide ((i:Int)∈s.free)<;>simp
   .subst h1;have:=q3 hb;omega
def lV (s:Slots)(fr:List Int)(i:Nat)(u:Int):Slots:=⟨s.uses.set i (u+1),s.used.set i true,fr⟩
def NM {s:Slots}(h:SFine s){fr:List Int}{i:Nat}{u:Int}(hf:s.free=fr++[(i:Int)])(hu:s.uses[i]?=some u)(hm:u<1000000):SFine (lV s fr i u):=by
 obtain⟨n1,n2,len,nd,rng,used,uses⟩:=h;have hi:=(aD.1 hu).1;rw[hf,fG] at nd;obtain⟨nd1,_,nd2⟩:=nd;have hni:(i:Int)∉fr:=λhm'=>nd2 _ hm' _ (by simp) rfl;unfold lV;refine⟨by simpa using n1,by simpa using n2,by simpa using len,nd1,λx hx=>?_,λj hj=>?_,λj v hv=>?_⟩
 .simp only[aH];exact rng x (by rw[hf];simp[hx])
 .simp only[aH] at hj|-;by_cases e:i=j
  .subst e;rw[be (by omega)];simp[hni]
  .rw[bG e,used j hj,hf];have:((j:Int)∈fr++[(i:Int)])↔(j:Int)∈fr:=by
    simp only[b9,cg];exact⟨λh=>h.resolve_right (by omega),.inl⟩
   simp only[this]
 .simp only at hv|-;by_cases e:i=j
  .subst e;rw[be hi] at hv;cases hv;obtain⟨q1,q2,_⟩:=uses i u hu;exact⟨by omega,by omega,λ_=>by omega⟩
  .rw[bG e] at hv|-;exact uses j v hv
def Ur {fr k:List Int}:RF.ev (.tsub 1) [sl I1 (fr++k),.v (.int .i64 0),.v (.int .i64 (fr.length:Int))]=some (sl I1 fr):=by
 have he:dK 1 ((fr++k).map I1)=true:=by
  cases h:fr++k with
  |nil=>rfl
  |cons a l=>simp[dK,bS]
 rw[B5,ad ⟨by omega,by omega,by simp;omega,he,by decide⟩];simp
def qO {n:Nat}(h:n<1000000000):IntKind.i64.wrap (((n+1:Nat):Int)-1)=(n:Int):=vn h
def X3 {fr:List Int}{i:Int}(hl:fr.length<=900):Ans D 412 [sl I1 (fr++[i])] [sl I1 fr,.i64 i]:=by
 have bn:RF.ev .bnd [.v (.int .i64 (fr.length:Int)),.v (.int .i64 ((fr.length+1:Nat):Int))]=some (.i64 (fr.length:Int)):=by rw[jO,ad ⟨by omega,by omega⟩]
 have hx:(fr++[i])[fr.length]?=some i:=by simp
 refine am ?_;unfold acp;simp only[EV,ai,aB,aQ,qO (show fr.length<1000000000 by omega),bn,Ur,phi (XV (l:=fr) (by omega)),aS hx (bS _),aJ hx,bZ,bF]
def gc (s:Slots):Bool:=match s.free.getLast? with
 |some x=>match s.uses[x.toNat]? with
  |some u=>decide (u<1000000)
  |none=>false
 |none=>false
def free_last {s:Slots}(h:SFine s):s.free=[]\/∃(fr:List Int) (i:Nat) (u:Int),s.free=fr++[(i:Int)]/\ s.uses[i]?=some u/\ fr.length<200/\ i<s.uses.length:=by
 rcases ib s.free with e|⟨fr,x,e⟩
 .exact .inl e
 .right
  rw[List.concat_eq_append] at e;have hx:=h.rng x (by rw[e];simp);have hb:=gL h.nd h.rng;rw[e,aB,aQ] at hb;have:=h.n2;exact⟨fr,x.toNat,s.uses[x.toNat]'(by omega),by rw[e];congr 2;omega,ah _,by omega,by omega⟩
def vH {s:Slots}{fr:List Int}{i:Nat}{u:Int}(h:s.free=fr++[(i:Int)])(hu:s.uses[i]?=some u):gc s=decide (u<1000000):=by
 unfold gc
 grind
def Sb {s:Slots}(h:SFine s):Ans D 373 [SL s] [.bool (gc s)]:=by
 refine am ?_;unfold ab6;rcases free_last h with e|⟨fr,i,u,e,hu,h1,h2⟩
 .have:gc s=false:=by unfold gc;rw[e];rfl
  simp only[iW,iY,e,EV,this];rw[ac (by decide)];unfold Is;simp[EV]
 .have hx:(fr++[(i:Int)])[fr.length]?=some (i:Int):=by simp
  simp only[iW,iY,iX,e,EV,ai,aB,aQ,qO (show fr.length<1000000000 by omega),aS hx (bS _),aJ hx,aS hu (bS _),aJ hu,bZ,vH e hu]
  rw[ad (au (by omega))];unfold Is;simp only[EV]
def Ei:PV:= .agg [.sl [],.sl [],.sl []]
def AO {s:Slots}(h:SFine s):SSm s:=⟨by have:=h.n2;omega,by have:=h.n2;have:=h.len;omega,by have:=gL h.nd h.rng;have:=h.n2;omega⟩
def agW {s:Slots}(h:SFine s){fr:List Int}{i:Nat}{u:Int}(e:s.free=fr++[(i:Int)])(hu:s.uses[i]?=some u)(hm:u<1000000):Ans D 409 [SL s] [SL (lV s fr i u),HD ⟨i,u+1⟩]:=by
 have hi:=aN hu;have hb:=gL h.nd h.rng;have n2:=h.n2;rw[e,aB,aQ] at hb;have hx:(fr++[(i:Int)])[fr.length]?=some (i:Int):=by simp
 have bn:RF.ev .bnd [.v (.int .i64 (fr.length:Int)),.v (.int .i64 ((fr.length+1:Nat):Int))]=some (.i64 (fr.length:Int)):=by rw[jO,ad ⟨by omega,by omega⟩]
 have wu:IntKind.i64.wrap (u+1)=u+1:=bV (by have:=(h.uses i u hu).1;omega) (by omega);have hu':(s.uses.set i (u+1))[i]?=some (u+1):=by rw[be hi]
 have sb:RF.ev .sub [sl I1 (fr++[(i:Int)]),.v (.int .i64 0),.v (.int .i64 (fr.length:Int))]=some (sl I1 fr):=by
  rw[td,ad (by simp;omega)];simp
 have s1:=bF (f:=I1) (l:=s.uses.set i (u+1));rw[aH] at s1;have s2:=bF (f:=B1) (l:=s.used.set i true);rw[aH] at s2;refine am ?_;unfold aco;simp only[ax,iW,phi (R9 (AO h)),iX,kf,iY,e,EV,ai,aB,aQ,qO (show fr.length<1000000000 by omega),ixM (show fr.length<fr.length+1 by omega),aJ hx,bZ,bn,ixM hi,aJ hu,wu,dQ hi,ixM (show i<s.used.length by rw[h.len];exact hi),Lr (show i<s.used.length by rw[h.len];exact hi),aJ hu',s1,s2,sb]
 rfl
def H0:PV:= .agg [.i64 0,.i64 0]
def Us:RF.ev .agg [.sl [],.sl [],.sl []]=some Ei:=rfl
def LN:RF.ev .agg [.v (.int .i64 0),.v (.int .i64 0)]=some H0:=rfl
def vI {s:Slots}(h:SFine s):gSl s=false:=by
 have:=h.n2;have:=h.len;have:=gL h.nd h.rng;unfold gSl
 grind
open Classical in
def agX {s:Slots}(h:SFine s){fr:List Int}{i:Nat}{u:Int}(e:s.free=fr++[(i:Int)])(hu:s.uses[i]?=some u)(hm:u<1000000):Ans D 382 [SL s] [SL (lV s fr i u),HD ⟨i,u+1⟩,.i64 0]:=by
 have hi:=aN hu;have hb:=gL h.nd h.rng;have n2:=h.n2;rw[e,aB,aQ] at hb;have hc:=phi (Lz (vI h));rw[au (cZ.2 h)] at hc;have e0:okE true=0:=rfl;rw[e0] at hc;have wu:IntKind.i64.wrap (u+1)=u+1:=bV (by have:=(h.uses i u hu).1;omega) (by omega);have hu':(s.uses.set i (u+1))[i]?=some (u+1):=by rw[be hi]
 have s1:=bF (f:=I1) (l:=s.uses.set i (u+1));rw[aH] at s1;have s2:=bF (f:=B1) (l:=s.used.set i true);rw[aH] at s2;refine am ?_;unfold SU;simp only[ax,iW,hc,iX,kf,iY,EV,ai,az,aE,aq,aw];have hne:¬((s.free.length:Nat):Int)=0:=by rw[e];simp;omega
 have c4:=phi (X3 (fr:=fr) (i:=(i:Int)) (by omega));rw[<-e] at c4;simp only[hne,bw,aq,aw,ax,c4,iX,aS hu (bS _),aJ hu,bZ,EV,aa];rw[ac (by omega)];simp only[ax,iW,phi (XX (AO h)),iX,kf,EV,ai,ixM (show i<s.used.length by rw[h.len];exact hi),Lr (show i<s.used.length by rw[h.len];exact hi),ixM hi,aJ hu,bZ,wu,dQ hi,aJ hu',s1,s2]
 rfl
def nfree (n:Nat):List Int:=(List.range n).map λi:Nat=>((n-1-i:Nat):Int)
def rpt (n k:Nat):List Int:=List.replicate k (-1)++List.replicate (n-k) 0
def VY {n k:Nat}(h:k<=n):(rpt n k).length=n:=by unfold rpt;simp;omega
def Sc {n k m:Nat}(h:k+m<=n):(rpt n k).take k++List.replicate m (-1)++(rpt n k).drop (k+m)=rpt n (k+m):=by
 unfold rpt;rw[cI (by simp),kC,cD (l:=List.replicate k (-1)) (by simp)];simp only[aP,aT,xb,aU];rw[<-aU,nU]
 congr 2
 omega
def Sd {L S:List Int}{k:Nat}(h:k<=L.length):RF.ev (.appK 0 1) [sl I1 L,.v (.int .i64 (k:Int)),sl I1 S]=some (sl I1 (L.take k++S++L.drop (k+S.length))):=by
 have he:dK 1 (S.map I1)=true:=by
  cases S with
  |nil=>rfl
  |cons a k=>simp[dK,bS]
 show(if(0:Int)<=k/\(k:Int)<=((L.map I1).length:Nat)/\((k:Int).toNat+(S.map I1).length)*0<=140737488355328/\ dK 1 (S.map I1)=true then some (PV.sl ((L.map I1).take (k:Int).toNat++S.map I1++(L.map I1).drop ((k:Int).toNat+(S.map I1).length))) else none)=_
 simp_all
def X4 {L:List Int}{k:Nat}(h:k<=L.length):RF.ev .sub [sl I1 L,.v (.int .i64 0),.v (.int .i64 (k:Int))]=some (sl I1 (L.take k)):=by
 rw[td,ad (by simp;omega)];simp
def Fx {N n:Nat}(hn:n<=1000){f0:JT}{e0 e1 e2 e3 e4 e5 e6 e7 e8 e9 e10 e12 e13 e14 e15 e16:PV}:∀(r k m:Nat),n-k<=r->r<m->1<=k->k<=n->
  cS (aY D) N t7 [f0] [e0,e1,e2,e3,e4,e5,e6,e7,e8,e9,e10,.i64 (n:Int),e12,e13,e14,e15,e16] m [sl I1 (rpt n k),.i64 (k:Int)]=f0 [sl I1 (rpt n n)]
 |0,k,m,h,hm,h1,h2=>by
  obtain⟨m,rfl⟩:∃m',m=m'+1:=⟨m-1,by omega⟩;have:k=n:=by omega
  subst this;rw[bc];unfold t7;simp[EV]
 |r+1,k,m,h,hm,h1,h2=>by
  obtain⟨m,rfl⟩:∃m',m=m'+1:=⟨m-1,by omega⟩;by_cases hk:k=n
  .subst hk;rw[bc];unfold t7;simp[EV]
  .have ih:=Fx (N:=N) hn (f0:=f0) (e0:=e0) (e1:=e1) (e2:=e2) (e3:=e3) (e4:=e4) (e5:=e5) (e6:=e6) (e7:=e7) (e8:=e8) (e9:=e9) (e10:=e10) (e12:=e12) (e13:=e13) (e14:=e14) (e15:=e15) (e16:=e16) r (k+min (n-k) k) m (by omega) (by omega) (by omega) (by omega);have bn:RF.ev .bnd [.v (.int .i64 (k:Int)),.v (.int .i64 (n:Int))]=some (.i64 (k:Int)):=by rw[jO,ad ⟨by omega,by omega⟩]
   have dd:(n:Int)-(k:Int)=((n-k:Nat):Int):=by omega
   have hl:=VY (n:=n) h2;have tk:(rpt n k).take k=List.replicate k (-1):=by unfold rpt;exact cI (by simp)
   have s1:=X4 (L:=rpt n k) (k:=k) (by omega);rw[tk] at s1;have a1:RF.ev (.appK 0 1) [.sl [],.v (.int .i64 0),sl I1 (List.replicate k (-1))]=some (sl I1 (List.replicate k (-1))):=by
    have:=Sd (L:=[]) (S:=List.replicate k (-1)) (k:=0) (by simp);simp at this;exact this
   have mm:RF.ev (.mm false) [.v (.int .i64 ((n-k:Nat):Int)),.v (.int .i64 (k:Int))]=some (.i64 ((min (n-k) k:Nat):Int)):=by
    rw[mmN];congr 3;omega
   have s2:=X4 (L:=List.replicate k (-1)) (k:=min (n-k) k) (by simp;omega);rw[List.take_replicate,show min (min (n-k) k) k=min (n-k) k by omega] at s2
   have a2:=Sd (L:=rpt n k) (S:=List.replicate (min (n-k) k) (-1)) (k:=k) (by omega);rw[aP,Sc (by omega)] at a2;have wk:IntKind.i64.wrap ((k:Int)+((min (n-k) k:Nat):Int))=((k+min (n-k) k:Nat):Int):=by rw[bV (by omega) (by omega)];omega
   rw[bc];generalize hkk:t7=kk at ih;subst hkk;unfold t7;simp only[EV,aa];rw[ad (by omega)];simp[EV,bn,dd,s1,a1,mm,s2,a2,wk];exact ih
def agY {x y:Nat}(hx:x<18446744073709551616)(hy:y<18446744073709551616):Ans D 277 [U x,U y] [U (x*y/18446744073709551616),U (x*y% 18446744073709551616)]:=by
 refine am ?_;unfold aaR;simp[EV,phi (Ry hx hy)]
def X5 {n:Nat}(h1:1<=n)(h2:n<=1000):Ans D 184 [sl I1 [-1],.i64 (n:Int)] [sl I1 (List.replicate n (-1))]:=by
 have m1:=phi (agY (x:=1) (y:=n) (by omega) (by omega));rw[zM,Nat.div_eq_of_lt (by omega),Nat.mod_eq_of_lt (by omega)] at m1;have cu:IntKind.u64.wrap (n:Int)=(n:Int):=wu (by omega);have cu1:IntKind.u64.wrap ((1:Nat):Int)=((1:Nat):Int):=wu (by omega);have ci:IntKind.i64.wrap (n:Int)=(n:Int):=bV (by omega) (by omega);have r1:=xu (n:=n) h2;have a1:RF.ev (.appK 0 1) [.sl [],.v (.int .i64 0),sl I1 [-1]]=some (sl I1 [-1]):=rfl;have mm:RF.ev (.mm false) [.v (.int .i64 (n:Int)),.v (.int .i64 ((1:Nat):Int))]=some (.i64 ((1:Nat):Int)):=by
  rw[mmN];congr 3;omega
 have s2:RF.ev .sub [sl I1 [-1],.v (.int .i64 0),.v (.int .i64 ((1:Nat):Int))]=some (sl I1 [-1]):=rfl;have a2:=Sd (L:=List.replicate n 0) (S:=[-1]) (k:=0) (by simp);have e2:(List.replicate n (0:Int)).take 0++[-1]++(List.replicate n (0:Int)).drop (0+[(-1:Int)].length)=rpt n 1:=by
  unfold rpt;simp
 rw[e2] at a2;have a2:RF.ev (.appK 0 1) [sl I1 (List.replicate n 0),.v (.int .i64 0),sl I1 [-1]]=some (sl I1 (rpt n 1)):=a2;refine an ⟨1001,?_⟩;unfold ZY;simp only[EV,aa];rw[ac (by omega)];have cu1':IntKind.u64.wrap (([[PV.i64 (-1)]].length:Nat):Int)=((1:Nat):Int):=cu1;simp only[EV,ai,aQ,cu,cu1];have m1:aY D 277 [.v (.int .u64 ((1:Nat):Int)),.v (.int .u64 (n:Int))]=some [U 0,U n]:=m1;simp only[m1,ax,EV,U,aa];rw[ac (by decide)];unfold OY;simp only[EV];have g0:decide ((n:Int)>9223372036854775807)=false:=aj (by omega);simp only[g0,aq,aw,EV,ci,r1,ai,aP,a1,aQ,mm,s2,a2,ax];refine(Fx (N:=1001) (n:=n) h2 n 1 1001 (by omega) (by omega) (by omega) h1).trans ?_;have e3:rpt n n=List.replicate n (-1):=by unfold rpt;simp
 have s3:=bF (f:=I1) (l:=List.replicate n (-1:Int));rw[aP] at s3;unfold OX;simp only[EV,e3,s3]
def Ej (l:List Int):RF.ev .flatL [sl I1 l]=some (sl I1 l):=by
 have:(l.map I1).flatten.all isV=true:=by
  induction l with
  |nil=>rfl
  |cons a l ih=>simp[I1,isV]
 show(if _ then _ else _)=_
 grind
def pSL (s:Slots):RF.ev (.part 0 3) [SL s]=some (SL s):=rfl
def xA (c:Certs)(x:Crt):Certs:=⟨c.next+1,c.list++[⟨c.next,x⟩]⟩
def NN {c:Certs}{x:Crt}(h:dk c)(hx:x.ok)(hn:∀g∈c.list,g.cert≠x)(h1:c.list.length<200)(h2:c.next<1000000):dk (xA c x):=by
 obtain⟨a1,a2,a3,a4⟩:=h;unfold xA;refine⟨by simp;omega,by simp only;omega,by simp only;omega,λi g hg=>?_⟩;simp only at hg|-;by_cases e:i<c.list.length
 .rw[aI e] at hg;obtain⟨q1,q2,q3,q4,q5⟩:=a4 i g hg;refine⟨q1,q2,by omega,λg' h0 hg'=>?_,λk hk g' hg'=>?_⟩
  .rw[aI (by omega)] at hg';exact q4 g' h0 hg'
  .rw[aI (by omega)] at hg';exact q5 k hk g' hg'
 .have hi:i=c.list.length:=by
   have:=aN hg;simp at this;omega
  subst hi;rw[bL (aC _),fL] at hg;simp only[ja,bW] at hg;subst hg;refine⟨hx,a2,by simp only;omega,λg' h0 hg'=>?_,λk hk g' hg'=>?_⟩
  .rw[aI (by omega)] at hg';exact(a4 _ g' hg').2.2.1
  .rw[aI hk] at hg';exact hn g' (ay hg')
def Ut (n:Int)(x:Crt):RF.ev .agg [.i64 n,CP x]=some (HP ⟨n,x⟩):=rfl
def bsH (h:Held):RF.ev (.bs 1 [KP.z,KP.z,KP.z] [0]) [HP h]=some (sl hrow [h]):=rfl
def Uu (h:Held):RF.ev .sub [sl hrow [h],.v (.int .i64 0),.v (.int .i64 1)]=some (sl hrow [h]):=rfl
def NO (n:Int)(l:List Held):RF.ev .agg [.i64 n,sl hrow l]=some (CS ⟨n,l⟩):=rfl
def pCP (x:Crt):RF.ev (.part 0 2) [CP x]=some (CP x):=rfl
def X6 {c:Certs}{x:Crt}(h:c.list.length<200):RF.ev (.app 24 3) [sl hrow c.list,.v (.int .i64 (c.list.length:Int)),sl hrow [⟨c.next,x⟩]]=some (sl hrow (c.list++[⟨c.next,x⟩])):=
 fh (f:=hrow) (l:=c.list) (k:=[⟨c.next,x⟩]) (bytes:=24) (z:=3) (by simp;omega) fi
open Classical in
def X7 {c:Certs}{x:Crt}(h:dk c)(hx:x.ok)(hn:∀g∈c.list,g.cert≠x)(h1:c.list.length<200)(h2:c.next<1000000):Ans D 375 [CS c,CP x] [CS (xA c x),.i64 c.next,.i64 0]:=by
 have e0:okE true=0:=rfl;have m1:=phi (RP c);rw[au h,e0] at m1;have m2:=phi (RM x);rw[au hx] at m2;have m3:=phi (Lt (c:=c) (x:=x) (by omega));rw[show(c.list.any λh=>decide (h.cert=x))=false from by rw[eg];intro g hg;simpa using hn g hg] at m3
 have w:IntKind.i64.wrap (c.next+1)=c.next+1:=bV (by have:=h.2.1;omega) (by omega);have s1:=bF (f:=hrow) (l:=c.list++[⟨c.next,x⟩]);refine am ?_;unfold ST;simp[iI,jA,m1,m2,m3,lx,fm,EV];rw[ac (by omega),ac (by omega)];simp only[phi (XW (c:=c) (by omega)),iI,lx,fm,pCP,Ut,bsH,Uu,EV,ai,X6 h1,w,s1,NO];rfl
open Classical in
def X8 {c:Certs}{x:Crt}(h:dk c)(hx:x.ok)(hn:∀g∈c.list,g.cert≠x)(h1:c.list.length<200)(h2:c.next<1000000):Ans D 320 [CS c,CP x] [CS (xA c x),.i64 c.next,.i64 0]:=by
 have e0:okE true=0:=rfl;have m1:=phi (LA (c:=c) (by omega));rw[au h,e0] at m1;have m2:=phi (RN x);rw[au hx] at m2;have w:IntKind.i64.wrap (c.next+1)=c.next+1:=bV (by have:=h.2.1;omega) (by omega);have s1:=bF (f:=hrow) (l:=c.list++[⟨c.next,x⟩]);refine an ⟨1001,?_⟩;unfold SN;simp only[ax,iI,jA,m1,m2,fm,EV,ai,az,aE,aq,aw];refine(cw (m:=1001) (l:=c.list) (p:=λg=>!decide (g.cert=x)) (st:=λi=>[.i64 (i:Int)]) (r:=none) (fin:=some [CS (xA c x),.i64 c.next,.i64 0]) (λi g self hg _=>?_) (λhall self=>?_) (by omega)).trans ?_
 .unfold xW;simp only[ax,fm,aS hg (fi _),aJ hg,iS,pHP,xm,EV,aa,bi (aN hg),up1 (show i<1000000000 by have:=aN hg;omega)]
  grind
 .unfold xW H6;simp only[ax,lx,fm,EV,ai,aa,bK];rw[ac (by decide),ac (by omega),ac (by omega)];simp only[ax,phi (LL (l:=c.list) (by omega)),lx,fm,pCP,Ut,bsH,Uu,EV,ai,X6 h1,w,s1,NO];rfl
 .grind
structure Plc (s:Slots)(hp:List Evt)(wh:List Int):Prop where
 len:wh.length=s.uses.length
 at_:∀(k:Nat) (e:Evt),hp[k]?=some e->∃(j:Nat) (u:Int),e.hnd=⟨(j:Int),u⟩/\ s.used[j]?=some true/\ s.uses[j]?=some u/\ wh[j]?=some (k:Int)
 of_:∀j:Nat,s.used[j]?=some true->∃(k:Nat) (e:Evt) (u:Int),wh[j]?=some (k:Int)/\ hp[k]?=some e/\ s.uses[j]?=some u/\ e.hnd=⟨(j:Int),u⟩
 off:∀j:Nat,s.used[j]?=some false->wh[j]?=some (-1)
def bb {α:Type}{l:List α}{i:Nat}{a:α}(h:l[i]?=some a):i<l.length:=(aD.1 h).1
def vJ {s:Slots}{hp:List Evt}{wh:List Int}(h:Plc s hp wh){i k:Nat}{e f:Evt}(hi:hp[i]?=some e)(hk:hp[k]?=some f)(hne:i≠k):
  Plc s ((hp.set i f).set k e) ((wh.set f.hnd.index.toNat (i:Int)).set e.hnd.index.toNat (k:Int)):=by
 obtain⟨je,ue,e1,e2,e3,e4⟩:=h.at_ i e hi;obtain⟨jf,uf,f1,f2,f3,f4⟩:=h.at_ k f hk;have hi':=bb hi;have hk':=bb hk;have we:=bb e4;have wf:=bb f4;have hj:je≠jf:=λq=>by
  grind
 rw[e1,f1];simp only[aG];have W:∀j:Nat,((wh.set jf (i:Int)).set je (k:Int))[j]?=if j=je then some (k:Int) else if j=jf then some (i:Int) else wh[j]?:=λj=>by
  grind
 have P:∀m:Nat,((hp.set i f).set k e)[m]?=if m=k then some e else if m=i then some f else hp[m]?:=λm=>by
  grind
 refine⟨by simpa using h.len,λm g hg=>?_,λj hu=>?_,λj hu=>?_⟩
 .rw[P] at hg;by_cases a:m=k
  .subst a;rw[ad rfl] at hg;cases hg;exact⟨je,ue,e1,e2,e3,by rw[W,ad rfl]⟩
  .rw[ac a] at hg;by_cases b:m=i
   .subst b;rw[ad rfl] at hg;cases hg;exact⟨jf,uf,f1,f2,f3,by rw[W,ac (λq=>hj q.symm),ad rfl]⟩
   .rw[ac b] at hg;obtain⟨j,u,g1,g2,g3,g4⟩:=h.at_ m g hg;refine⟨j,u,g1,g2,g3,?_⟩;rw[W,ac,ac,g4]
    .rintro rfl;rw[f4] at g4;simp only[bW] at g4;omega
    .rintro rfl;rw[e4] at g4;simp only[bW] at g4;omega
 .by_cases a:j=je
  .subst a;exact⟨k,e,ue,by rw[W,ad rfl],by rw[P,ad rfl],e3,e1⟩
  .by_cases b:j=jf
   .subst b;exact⟨i,f,uf,by rw[W,ac a,ad rfl],by rw[P,ac hne,ad rfl],f3,f1⟩
   .obtain⟨m,g,u,g1,g2,g3,g4⟩:=h.of_ j hu;refine⟨m,g,u,by rw[W,ac a,ac b,g1],?_,g3,g4⟩;rw[P,ac,ac,g2]
    .rintro rfl;rw[hi] at g2;cases g2;rw[e1] at g4;simp only[Hnd.mk.injEq] at g4;omega
    .rintro rfl;rw[hk] at g2;cases g2;rw[f1] at g4;simp only[Hnd.mk.injEq] at g4;omega
 .have a:j≠je:=λq=>by subst q;rw[e2] at hu;cases hu
  have b:j≠jf:=λq=>by subst q;rw[f2] at hu;cases hu
  rw[W,ac a,ac b];exact h.off j hu
def zY {s:Slots}(hs:SFine s){hp:List Evt}{wh:List Int}(h:Plc s hp wh){fr:List Int}{i:Nat}{u:Int}{x:Evt}(e:s.free=fr++[(i:Int)])(hu:s.uses[i]?=some u)(hx:x.hnd=⟨(i:Int),u+1⟩):
  Plc (lV s fr i u) (hp++[x]) (wh.set i (hp.length:Int)):=by
 have hi:=bb hu;have hui:s.used[i]?=some false:=by rw[hs.used i hi,e];simp
 have hul:=bb hui;have hw:i<wh.length:=by rw[h.len];exact hi
 have U:∀j:Nat,(s.used.set i true)[j]?=if j=i then some true else s.used[j]?:=λj=>by
  grind
 have V:∀j:Nat,(s.uses.set i (u+1))[j]?=if j=i then some (u+1) else s.uses[j]?:=λj=>by
  grind
 have W:∀j:Nat,(wh.set i (hp.length:Int))[j]?=if j=i then some (hp.length:Int) else wh[j]?:=λj=>by
  grind
 unfold lV;refine⟨by simpa using h.len,λm g hg=>?_,λj hj=>?_,λj hj=>?_⟩
 .by_cases a:m<hp.length
  .rw[aI a] at hg;obtain⟨j,v,g1,g2,g3,g4⟩:=h.at_ m g hg;have b:j≠i:=λq=>by subst q;rw[hui] at g2;cases g2
   exact⟨j,v,g1,by simp only[U,ac b,g2],by simp only[V,ac b,g3],by simp only[W,ac b,g4]⟩
  .have hm:=bb hg;rw[aB,aQ] at hm;have:m=hp.length:=by omega
   subst this;rw[bL (aC _),fL] at hg;simp only[ja,bW] at hg;subst hg;exact⟨i,u+1,hx,by simp only[U,aA],by simp only[V,aA],by simp only[W,aA]⟩
 .simp only[U] at hj;by_cases a:j=i
  .subst a;exact⟨hp.length,x,u+1,by simp only[W,aA],by simp,by simp only[V,aA],hx⟩
  .rw[ac a] at hj;obtain⟨k,g,v,g1,g2,g3,g4⟩:=h.of_ j hj;exact⟨k,g,v,by simp only[W,ac a,g1],by rw[aI (bb g2)];exact g2,by simp only[V,ac a,g3],g4⟩
 .simp only[U] at hj;by_cases a:j=i
  .subst a;rw[ad rfl] at hj;cases hj
  .rw[ac a] at hj;simp only[W,ac a];exact h.off j hj
def dZ (hp:List Evt)(i k:Nat)(e f:Evt):List Evt:=(hp.set i f).set k e
def fF (wh:List Int)(i k:Nat)(e f:Evt):List Int:=(wh.set f.hnd.index.toNat (i:Int)).set e.hnd.index.toNat (k:Int)
def upS:Nat->List Evt->List Int->Nat->List Evt×List Int×Nat
 |0,hp,wh,i=>(hp,wh,i)
 |n+1,hp,wh,i=>match hp[i]?,hp[(i-1)/2]? with
  |some e,some p=>if 0<i/\ evLess e p=true then upS n (dZ hp i ((i-1)/2) e p) (fF wh i ((i-1)/2) e p) ((i-1)/2) else(hp,wh,i)
  |_,_=>(hp,wh,i)
def Ek (hp:List Evt)(i:Nat):Prop:=
 (∀(c:Nat) (e p:Evt),0<c->c≠i->hp[c]?=some e->hp[(c-1)/2]?=some p->evLess e p=false)/\
 ∀(c:Nat) (e p:Evt),0<i->0<c->(c-1)/2=i->hp[c]?=some e->hp[(i-1)/2]?=some p->evLess e p=false
def Ord (hp:List Evt):Prop:=∀(c:Nat) (e p:Evt),0<c->hp[c]?=some e->hp[(c-1)/2]?=some p->evLess e p=false
def swp_get {hp:List Evt}{i k:Nat}{e f:Evt}(hi:hp[i]?=some e)(hk:hp[k]?=some f)(m:Nat):(dZ hp i k e f)[m]?=if m=k then some e else if m=i then some f else hp[m]?:=by
 unfold dZ
 grind
def po {hp:List Evt}{i k:Nat}{e f:Evt}(hi:hp[i]?=some e)(hk:hp[k]?=some f):(dZ hp i k e f).Perm hp:=by
 unfold dZ
 grind
def Se {hp:List Evt}{i:Nat}{e p:Evt}(hr:∀x∈hp,rok x.time=true)(ho:Ek hp i)(h0:0<i)(hi:hp[i]?=some e)(hp':hp[(i-1)/2]?=some p)(hl:evLess e p=true):Ek (dZ hp i ((i-1)/2) e p) ((i-1)/2):=by
 obtain⟨o1,o2⟩:=ho;have re:=hr e (ay hi);have rp:=hr p (ay hp');have G:=swp_get hi hp';refine⟨λc x q c0 cn hx hq=>?_,λc x q k0 c0 hc hx hq=>?_⟩
 .rw[G] at hx hq;rw[ac cn] at hx;by_cases a:c=i
  .subst a;rw[ad rfl] at hx hq;cases hx;cases hq;exact oe hl
  .rw[ac a] at hx;by_cases b:(c-1)/2=(i-1)/2
   .rw[ad b] at hq;cases hq;have:=o1 c x p c0 a hx (by rw[b];exact hp');exact xz re rp (hr x (ay hx)) hl this
   .rw[ac b] at hq;by_cases d:(c-1)/2=i
    .rw[ad d] at hq;cases hq;exact o2 c x p h0 c0 d hx hp'
    .rw[ac d] at hq;exact o1 c x q c0 a hx hq
 .rw[G] at hx hq;rw[ac (by omega)] at hx;rw[ac (by omega),ac (by omega)] at hq;have up:=o1 ((i-1)/2) p q k0 (by omega) hp' hq;by_cases a:c=i
  .subst a;rw[ad rfl] at hx;cases hx;exact up
  .rw[ac a] at hx;have:=o1 c x p c0 a hx (by rw[hc];exact hp');exact qN (hr x (ay hx)) rp (hr q (ay hq)) this up
def xB {s:Slots}:∀(n:Nat) (hp:List Evt) (wh:List Int) (i:Nat),i<=n->i<hp.length->(∀x∈hp,rok x.time=true)->Ek hp i->Plc s hp wh->
  Ord (upS n hp wh i).1/\(upS n hp wh i).1.Perm hp/\ Plc s (upS n hp wh i).1 (upS n hp wh i).2.1/\(upS n hp wh i).1[(upS n hp wh i).2.2]?=hp[i]?/\(upS n hp wh i).2.2<=i
 |0,hp,wh,i,hn,hi,hr,ho,hP=>by
  have:i=0:=by omega
  subst this;exact⟨λc e p c0 he hp'=>ho.1 c e p c0 (by omega) he hp',.refl _,hP,rfl,aC _⟩
 |n+1,hp,wh,i,hn,hi,hr,ho,hP=>by
  obtain⟨e,he⟩:∃e,hp[i]?=some e:=⟨hp[i],ah _⟩;obtain⟨p,hp'⟩:∃p,hp[(i-1)/2]?=some p:=⟨hp[(i-1)/2]'(by omega),ah _⟩;unfold upS;rw[he,hp'];simp only;by_cases hc:0<i/\ evLess e p=true
  .rw[ad hc];obtain⟨h0,hl⟩:=hc;have pm:=po he hp';obtain⟨q1,q2,q3,q4,q5⟩:=xB n (dZ hp i ((i-1)/2) e p) (fF wh i ((i-1)/2) e p) ((i-1)/2) (by omega) (by rw[pm.length_eq];omega) (λx hx=>hr x (pm.mem_iff.1 hx)) (Se hr ho h0 he hp' hl) (vJ hP he hp' (by omega));refine⟨q1,q2.trans pm,q3,?_,by omega⟩;rw[q4,swp_get he hp',ad rfl]
  .rw[ac hc];refine⟨λc x q c0 hx hq=>?_,.refl _,hP,he,aC _⟩;by_cases a:c=i
   .subst a;rw[he] at hx;cases hx;rw[hp'] at hq;cases hq;cases hl:evLess e p with
    |false=>rfl
    |true=>exact absurd ⟨c0,hl⟩ hc
   .exact ho.1 c x q c0 a hx hq
def rL {α:Type}(p:α->Bool):∀l:List α,l.length=(l.filter p).length+(l.filter λx=>!p x).length
 |[]=>rfl
 |a::l=>by
  have:=rL p l;rw[cy,cy];cases p a<;>simp<;>omega
def jW {a:Agenda}(hs:SFine a.slots)(hp:qc a):Plc a.slots a.heap a.wher:=by
 obtain⟨p1,p2,p3⟩:=hp;have hlen:=hs.len;have get:∀j:Nat,j<a.slots.uses.length->∃b w u,a.slots.used[j]?=some b/\ a.wher[j]?=some w/\ a.slots.uses[j]?=some u:=λj hj=>
  ⟨_,_,_,ah (by omega),ah (by omega),ah hj⟩
 have of_:∀j:Nat,a.slots.used[j]?=some true->∃(k:Nat) (e:Evt) (u:Int),a.wher[j]?=some (k:Int)/\ a.heap[k]?=some e/\ a.slots.uses[j]?=some u/\ e.hnd=⟨(j:Int),u⟩:=λj hj=>by
  grind
 refine⟨p1,λk e hk=>?_,of_,λj hj=>?_⟩
 ·
  let W:Nat->Nat:=λj=>((a.wher[j]?).getD 0).toNat
  let U:Nat->Bool:=λj=>decide (a.slots.used[j]?=some true)
  have hnd:(((List.range a.slots.uses.length).filter U).map W).Nodup:=by
   rw[List.Nodup,gk];refine List.Pairwise.imp_of_mem (R:=λx y=>x≠y) (λ{x y} hx hy hne=>?_) (List.nodup_range.filter _);intro h;obtain⟨k1,e1,u1,g1,g2,_,g4⟩:=of_ x (by have:=(bE.1 hx).2;exact ba this);obtain⟨k2,e2,u2,f1,f2,_,f4⟩:=of_ y (by have:=(bE.1 hy).2;exact ba this);simp only[W,g1,f1,ct,aG] at h;subst h;rw[g2] at f2;cases f2;rw[g4] at f4;simp only[Hnd.mk.injEq] at f4;omega
  have hsub:∀x∈((List.range a.slots.uses.length).filter U).map W,x∈List.range a.heap.length:=λx hx=>by
   obtain⟨j,hj,rfl⟩:=bh.1 hx;obtain⟨k1,e1,u1,g1,g2,_,g4⟩:=of_ j (by have:=(bE.1 hj).2;exact ba this);simp only[W,g1,ct,aG,dW];exact bb g2
  have hfree:((List.range a.slots.uses.length).filter λj=>!U j).length<=a.slots.free.length:=by
   have:=Dc (l:=((List.range a.slots.uses.length).filter λj=>!U j).map λj:Nat=>(j:Int)) (k:=a.slots.free) (by
    rw[List.Nodup,gk];exact(List.nodup_range.filter _).imp λh e=>h (by omega)) (λx hx=>by
     obtain⟨j,hj,rfl⟩:=bh.1 hx;obtain⟨h1,h2⟩:=bE.1 hj;rw[dW] at h1;have hu:=hs.used j h1;simp only[U,aF,ak] at h2;by_cases hm:(j:Int)∈a.slots.free
     .exact hm
     .exact absurd (by rw[hu];simp[hm]) h2)
   simpa using this
  have hsplit:=rL U (List.range a.slots.uses.length);rw[mF] at hsplit;have hperm:=jI hnd hsub (by rw[mF,ai];omega);have hk':k∈((List.range a.slots.uses.length).filter U).map W:=hperm.mem_iff.2 (dW.2 (bb hk));obtain⟨j,hj,hjk⟩:=bh.1 hk';have hju:a.slots.used[j]?=some true:=by have:=(bE.1 hj).2;exact ba this
  obtain⟨k1,e1,u1,g1,g2,g3,g4⟩:=of_ j hju;simp only[W,g1,ct,aG] at hjk;subst hjk;rw[hk] at g2;cases g2;exact⟨j,u1,g4,hju,g3,g1⟩
 .obtain⟨b,w,u,h1,h2,h3⟩:=get j (by have:=bb hj;omega);have:=p3 j false w u hj h2 h3;rw[ac (by simp)] at this;rw[h2,this]
def Fy {a:Agenda}(h:Plc a.slots a.heap a.wher)(hl:a.heap.length+a.slots.free.length=a.slots.uses.length):qc a:=by
 refine⟨h.len,hl,λj b w u hb hw hu=>?_⟩;cases b with
 |true=>
  obtain⟨k,e,v,g1,g2,g3,g4⟩:=h.of_ j hb
  grind
 |false=>
  have:=h.off j hb
  grind
def gJ (a:Agenda)(fr:List Int)(i:Nat)(u:Int)(t:Rt)(n:Int):Agenda:=
 let r:=upS (a.heap.length+1) (a.heap++[⟨t,n,⟨i,u+1⟩⟩]) (a.wher.set i (a.heap.length:Int)) a.heap.length
 ⟨lV a.slots fr i u,r.1,r.2.1⟩
def xC {a:Agenda}(h:dX a):Ord a.heap:=λc e p c0 he hp=>by
 have:=h.2.2.2.2 (c-1) e p (by rw[show c-1+1=c by omega];exact he) hp
 exact this
def yS {a:Agenda}(h:dX a){fr:List Int}{i:Nat}{u:Int}(hf:a.slots.free=fr++[(i:Int)])(hu:a.slots.uses[i]?=some u)(hm:u<1000000){t:Rt}{n:Int}(hx:rok t=true/\ 0<=n/\ n<=1000000)(hn:n∉a.heap.map (·.number)):
  dX (gJ a fr i u t n)/\(gJ a fr i u t n).heap.Perm (a.heap++[⟨t,n,⟨i,u+1⟩⟩])/\(gJ a fr i u t n).wher.length=a.wher.length:=by
 have hs:=cZ.1 h.1;have hP:=jW hs h.2.1;have hP':=zY hs hP hf hu (x:=⟨t,n,⟨i,u+1⟩⟩) rfl;have hs':=NM hs hf hu hm;have hl:=h.2.1.2.1;have hr:∀x∈a.heap++[(⟨t,n,⟨i,u+1⟩⟩:Evt)],mj x:=λx hx'=>by
  rcases b9.1 hx' with h1|h1
  .exact h.2.2.1 x h1
  .rw[cg] at h1;subst h1;exact hx
 have hex:Ek (a.heap++[⟨t,n,⟨i,u+1⟩⟩]) a.heap.length:=by
  refine⟨λc e p c0 cn he hp=>?_,λc e p _ c0 hc he _=>?_⟩
  .have h1:=bb he;rw[aB,aQ] at h1;rw[aI (by omega)] at he hp;exact xC h c e p c0 he hp
  .grind
 obtain⟨q1,q2,q3,_,_⟩:=xB (s:=lV a.slots fr i u) (a.heap.length+1) (a.heap++[⟨t,n,⟨i,u+1⟩⟩]) (a.wher.set i (a.heap.length:Int)) a.heap.length (by omega) (by simp) (λx hx'=>(hr x hx').1) hex hP';unfold gJ;refine⟨⟨cZ.2 hs',Fy q3 ?_,λe he=>hr e (q2.mem_iff.1 he),?_,λc e p he hp=>?_⟩,q2,?_⟩
 .simp only;rw[q2.length_eq];unfold lV;rw[hf] at hl;simp only[aB,aQ,aH] at hl|-;omega
 .have pm:((upS (a.heap.length+1) (a.heap++[(⟨t,n,⟨i,u+1⟩⟩:Evt)]) (a.wher.set i (a.heap.length:Int)) a.heap.length).1.map (·.number)).Perm ((a.heap++[(⟨t,n,⟨i,u+1⟩⟩:Evt)]).map (·.number)):=q2.map _;refine pm.nodup_iff.2 ?_;rw[fJ,fG];refine⟨h.2.2.2.1,by simp,λx hx1 y hy e=>?_⟩;simp only[bN,sD,cg] at hy;subst hy;subst e;exact hn hx1
 .exact q1 (c+1) e p (by omega) he (by simpa using hp)
 .have l1:=q3.len;have l2:=hP.len;simp only;rw[l1,l2];unfold lV;simp
def lX {l:List Evt}{i:Nat}(h:i<l.length)(f:Evt):RF.ev (.set 0) [sl bO l,.v (.int .i64 (i:Int)),EP f]=some (sl bO (l.set i f)):=by
 obtain⟨e,he⟩:∃e,l[i]?=some e:=⟨l[i],ah h⟩;have hs:lE (bO e) 0 (bO f)=bO f:=rfl;rw[qY,ad (by omega),aG,aW,he];simp only[cf,show(EP f).cells=bO f from rfl,show(bO f).length=5 from rfl,show(bO e).length=5 from rfl]
 simp_all
def AP (t:Rt)(n:Int)(h:Hnd):RF.ev .agg [R t,.i64 n,HD h]=some (EP ⟨t,n,h⟩):=rfl
def bsE (e:Evt):RF.ev (.bs 1 [KP.z,KP.z,KP.z,KP.z,KP.z] [0]) [EP e]=some (sl bO [e]):=rfl
def Uv (e:Evt):RF.ev .sub [sl bO [e],.v (.int .i64 0),.v (.int .i64 1)]=some (sl bO [e]):=rfl
def tC {i:Nat}(h0:0<i)(h:i<1000000):de .quo .i64 (IntKind.i64.wrap ((i:Int)-1)) .i64 2=some (.v (.int .i64 (((i-1)/2:Nat):Int))):=by
 obtain⟨k,rfl⟩:∃k,i=k+1:=⟨i-1,by omega⟩;exact Ls (by omega)
def zz {s:Slots}{N:Nat}{f0:JT}{e0 e1 e2 e3 e4 e5 e6 e7 e8 e9 e10 e11 e12 e13 e14 e15 e17 e18 e19 e20 e21 e22 e23 e24 e25 e26 e27 e28 e29 e30 e32 e33 e34 e35 e36:PV}{H W:Nat}(hH:H<=1000):∀(r i m:Nat) (hp:List Evt) (wh:List Int),i<=r->r<m->i<H->hp.length=H->wh.length=W->(∀x∈hp,aX x.time)->Plc s hp wh->
  cS (aY D) N uu [f0] [e0,e1,e2,e3,e4,e5,e6,e7,e8,e9,e10,e11,e12,e13,e14,e15,.i64 (W:Int),e17,e18,e19,e20,e21,e22,e23,e24,e25,e26,e27,e28,e29,e30,.i64 (H:Int),e32,e33,e34,e35,e36] m [.i64 (i:Int),sl bO hp,sl I1 wh]=f0 [.i64 ((upS r hp wh i).2.2:Int),sl I1 (upS r hp wh i).2.1,sl bO (upS r hp wh i).1]
 |0,i,m,hp,wh,hi,hm,hiH,hl,hw,h64,hP=>by
  obtain⟨m,rfl⟩:∃m',m=m'+1:=⟨m-1,by omega⟩;have:i=0:=by omega
  subst this;rw[bc];unfold uu upS;simp only[EV,aa];rw[ac (by omega)]
 |r+1,i,m,hp,wh,hi,hm,hiH,hl,hw,h64,hP=>by
  obtain⟨m,rfl⟩:∃m',m=m'+1:=⟨m-1,by omega⟩;obtain⟨e,he⟩:∃e,hp[i]?=some e:=⟨hp[i],ah _⟩;obtain⟨p,hp'⟩:∃p,hp[(i-1)/2]?=some p:=⟨hp[(i-1)/2]'(by omega),ah _⟩;have E:upS (r+1) hp wh i=if 0<i/\ evLess e p=true then upS r (dZ hp i ((i-1)/2) e p) (fF wh i ((i-1)/2) e p) ((i-1)/2) else(hp,wh,i):=by rw[upS,he,hp']
  rw[E,bc];by_cases h0:0<i
  rotate_left
  .rw[ac (λh=>h0 h.1)];unfold uu;simp only[EV,aa,cJ];rw[ac (by omega)]
  .have pm:=po he hp';have ih:=zz (s:=s) (N:=N) (f0:=f0) (e0:=e0) (e1:=e1) (e2:=e2) (e3:=e3) (e4:=e4) (e5:=e5) (e6:=e6) (e7:=e7) (e8:=e8) (e9:=e9) (e10:=e10) (e11:=e11) (e12:=e12) (e13:=e13) (e14:=e14) (e15:=e15) (e17:=e17) (e18:=e18) (e19:=e19) (e20:=e20) (e21:=e21) (e22:=e22) (e23:=e23) (e24:=e24) (e25:=e25) (e26:=e26) (e27:=e27) (e28:=e28) (e29:=e29) (e30:=e30) (e32:=e32) (e33:=e33) (e34:=e34) (e35:=e35) (e36:=e36) (H:=H) (W:=W) hH r ((i-1)/2) m (dZ hp i ((i-1)/2) e p) (fF wh i ((i-1)/2) e p) (by omega) (by omega) (by omega) (by rw[pm.length_eq];exact hl) (by unfold fF;simpa using hw) (λx hx=>h64 x (pm.mem_iff.1 hx)) (vJ hP he hp' (by omega))
   have cm:=phi (xn (h64 e (ay he)) (h64 p (ay hp')));obtain⟨je,ue,g1,_,_,g4⟩:=hP.at_ i e he;obtain⟨jp,up,k1,_,_,k4⟩:=hP.at_ _ p hp';have wje:je<W:=by rw[<-hw];exact bb g4
   have wjp:jp<W:=by rw[<-hw];exact bb k4
   have q2:=tC h0 (by omega);have ge:(dZ hp i ((i-1)/2) e p)[(i-1)/2]?=some e:=by rw[swp_get he hp',ad rfl]
   have gp:(dZ hp i ((i-1)/2) e p)[i]?=some p:=by rw[swp_get he hp',ac (by omega),ad rfl]
   have s1:=lX (l:=hp) (i:=i) (by omega) p;have s2:RF.ev (.set 0) [sl bO (hp.set i p),.v (.int .i64 (((i-1)/2:Nat):Int)),EP e]=some (sl bO (dZ hp i ((i-1)/2) e p)):=lX (by rw[aH];omega) e;have ie:e.hnd.index=(je:Int):=by rw[g1]
   have ip:p.hnd.index=(jp:Int):=by rw[k1]
   have s3:=dQ (l:=wh) (i:=jp) (by omega) (i:Int);have s4:RF.ev (.set 0) [sl I1 (wh.set jp (i:Int)),.v (.int .i64 (je:Int)),.v (.int .i64 (((i-1)/2:Nat):Int))]=some (sl I1 (fF wh i ((i-1)/2) e p)):=by
    unfold fF;rw[ie,ip,aG,aG];exact dQ (by rw[aH];omega) _
   generalize hkk:uu=kk at ih;subst hkk;unfold uu;simp only[EV,aa,cJ];rw[ad (by omega)];simp only[EV,ixM hiH,aJ he,eU,fN,q2,ixM (show(i-1)/2<H by omega),aJ hp',ax,cm]
   cases hc:evLess e p with
   |false=>
    rw[ac (by simp)];simp
   |true=>
    simp only[h0,fS,aA,EV,fN,q2,ixM hiH,ixM (show(i-1)/2<H by omega),aJ he,aJ hp',eU,ax,ly,s1,s2,aJ ge,aJ gp,vw,ie,ip,ixM wje,ixM wjp,s3,s4]
    exact ih
def rM (s:Slots)(hp:List Evt)(wh:List Int):RF.ev .agg [SL s,sl bO hp,sl I1 wh]=some (AG ⟨s,hp,wh⟩):=rfl
def pHD (h:Hnd):RF.ev (.part 0 2) [HD h]=some (HD h):=rfl
def pR (r:Rt):RF.ev (.part 0 2) [R r]=some (R r):=rfl
def vK {a:Agenda}(h:dX a):ASm a:=by
 have hs:=cZ.1 h.1;have:=hs.n2;exact⟨AO hs,by have:=h.2.1.2.1;omega,by have:=h.2.1.1;omega⟩
def X9 {a:Agenda}(h:dX a){fr:List Int}{i:Nat}{u:Int}(hf:a.slots.free=fr++[(i:Int)])(hu:a.slots.uses[i]?=some u)(hm:u<1000000){t:Rt}{n:Int}(hx:rok t=true/\ 0<=n/\ n<=1000000)(hn:n∉a.heap.map (·.number))(ht:aX t)(h64:∀e∈a.heap,aX e.time):
  Ans D 374 [AG a,R t,.i64 n] [AG (gJ a fr i u t n),HD ⟨i,u+1⟩]:=by
 have hs:=cZ.1 h.1;have hP:=jW hs h.2.1;have hsm:=vK h;have n2:=hs.n2;have hl:=h.2.1.2.1;have hw:=h.2.1.1;have hi:=bb hu;have hP':=zY hs hP hf hu (x:=⟨t,n,⟨i,u+1⟩⟩) rfl;obtain⟨_,q2,q3⟩:=yS h hf hu hm hx hn;have ap:=fh (f:=bO) (l:=a.heap) (k:=[⟨t,n,⟨i,u+1⟩⟩]) (bytes:=40) (z:=5) (by simp;omega) kb;have dn:=qO (n:=a.heap.length) (by omega);have s3:=dQ (l:=a.wher) (i:=i) (by omega) (a.heap.length:Int);have s4:=bF (f:=bO) (l:=(gJ a fr i u t n).heap);rw[q2.length_eq,aB,aQ] at s4;have s5:=bF (f:=I1) (l:=(gJ a fr i u t n).wher);rw[q3] at s5;refine an ⟨1001,?_⟩;unfold ab7;simp only[ax,ga,bU,phi (LM hsm),cAG0,cAG1,cAG2,d7,gt,EV,ai,bF,yR,phi (agW hs hf hu hm),iW,lz,pR,pHD,AP,bsE,Uv,ap,aB,aQ,dn,m9,ixM (show i<a.wher.length by omega),s3]
 refine(zz (s:=lV a.slots fr i u) (N:=1001) (H:=a.heap.length+1) (W:=a.wher.length) (by omega) (a.heap.length+1) a.heap.length 1001 _ _ (by omega) (by omega) (by omega) (by simp) (by simp) (λe he=>?_) hP').trans ?_
 .grind
 .unfold Qw;have s4':RF.ev .sub [sl bO (upS (a.heap.length+1) (a.heap++[⟨t,n,⟨i,u+1⟩⟩]) (a.wher.set i (a.heap.length:Int)) a.heap.length).1,.v (.int .i64 0),.v (.int .i64 ((a.heap.length+1:Nat):Int))]=some (sl bO (gJ a fr i u t n).heap):=s4;have s5':RF.ev .sub [sl I1 (upS (a.heap.length+1) (a.heap++[⟨t,n,⟨i,u+1⟩⟩]) (a.wher.set i (a.heap.length:Int)) a.heap.length).2.1,.v (.int .i64 0),.v (.int .i64 (a.wher.length:Int))]=some (sl I1 (gJ a fr i u t n).wher):=s5;simp only[EV,pSL,s4',s5',rM];rfl
def dM (x:Evt):Nat->List Evt->List Int->Nat->List Evt×List Int×Nat
 |0,hp,wh,i=>(hp,wh,i)
 |n+1,hp,wh,i=>match hp[(i-1)/2]? with
  |some p=>if 0<i/\ evLess x p=true then dM x n (hp.set i p) (wh.set p.hnd.index.toNat (i:Int)) ((i-1)/2) else(hp,wh,i)
  |none=>(hp,wh,i)
def yT {x:Evt}:∀(n:Nat) (hp:List Evt) (wh:List Int) (i:Nat),i<hp.length->
  upS n (hp.set i x) (wh.set x.hnd.index.toNat (i:Int)) i=((dM x n hp wh i).1.set (dM x n hp wh i).2.2 x,(dM x n hp wh i).2.1.set x.hnd.index.toNat ((dM x n hp wh i).2.2:Int),(dM x n hp wh i).2.2)
 |0,hp,wh,i,_=>rfl
 |n+1,hp,wh,i,hi=>by
  have hx:(hp.set i x)[i]?=some x:=be hi;by_cases h0:0<i
  .obtain⟨p,hp'⟩:∃p,hp[(i-1)/2]?=some p:=⟨hp[(i-1)/2]'(by omega),ah _⟩;have hq:(hp.set i x)[(i-1)/2]?=some p:=by rw[bG (by omega)];exact hp'
   unfold upS dM;rw[hx,hq,hp'];simp only;by_cases hc:0<i/\ evLess x p=true
   .rw[ad hc,ad hc];have e1:dZ (hp.set i x) i ((i-1)/2) x p=(hp.set i p).set ((i-1)/2) x:=by unfold dZ;rw[j0]
    have e2:fF (wh.set x.hnd.index.toNat (i:Int)) i ((i-1)/2) x p=(wh.set p.hnd.index.toNat (i:Int)).set x.hnd.index.toNat (((i-1)/2:Nat):Int):=by
     unfold fF;by_cases e:x.hnd.index.toNat=p.hnd.index.toNat
     .simp[e]
     .rw[qH _ _ e,j0]
    rw[e1,e2];exact yT n (hp.set i p) (wh.set p.hnd.index.toNat (i:Int)) ((i-1)/2) (by rw[aH];omega)
   .rw[ac hc,ac hc]
  .have:i=0:=by omega
   subst this;obtain⟨p,hp'⟩:∃p,hp[(0-1)/2]?=some p:=⟨hp[0]'hi,ah hi⟩;unfold upS dM;rw[show(0-1)/2=0 from rfl] at hp'|-
   rw[hx,hp'];simp
def Ya {n d:Int}(hn:Sm n)(hd:Sm d)(h0:d≠0):rok (mkR n d)=true/\ aX (mkR n d):=by
 obtain⟨n1,n2⟩:=hn;obtain⟨d1,d2⟩:=hd;have hg:0<Nat.gcd n.natAbs d.natAbs:=iO _ (by omega);have l1:n.natAbs/Nat.gcd n.natAbs d.natAbs<=n.natAbs:=ic ..;have l2:d.natAbs/Nat.gcd n.natAbs d.natAbs<=d.natAbs:=ic ..;have l3:=Nat.div_pos (Nat.le_of_dvd (by omega) (Nat.gcd_dvd_right ..)) hg;have co:=Nat.coprime_div_gcd_div_gcd hg;have key:∀z:Int,z.natAbs=n.natAbs/Nat.gcd n.natAbs d.natAbs->rok ⟨z,((d.natAbs/Nat.gcd n.natAbs d.natAbs:Nat):Int)⟩=true/\ aX ⟨z,((d.natAbs/Nat.gcd n.natAbs d.natAbs:Nat):Int)⟩:=λz hz=>by
  refine⟨?_,⟨by simp only;omega,by simp only;omega⟩,by simp only;omega,by simp only;omega⟩;unfold rok
  grind
 unfold mkR
 grind
def ri {l:List Pt}{t:Rt}{x:Crt}(h:okF l)(ht:aX t)(hr:rok t=true)(h1:inF l x.low=true)(h2:inF l x.high=true)(hf:(ef t (ptOf l x.high) (ptOf l x.low)).2=true):
  rok (ef t (ptOf l x.high) (ptOf l x.low)).1=true/\ aX (ef t (ptOf l x.high) (ptOf l x.low)).1:=by
 obtain⟨i,p,a1,a2,a3,a4⟩:=iJ h h1;obtain⟨j,q,b1,b2,b3,b4⟩:=iJ h h2;have bp:=Pt.bnd (eQ h a1);have bq:=Pt.bnd (eQ h b1);rw[a4,b4] at hf|-;unfold ef at hf|-;split
 .grind
 .rename_i h3;split
  .exact Ya ⟨by omega,by omega⟩ ⟨by omega,by omega⟩ (by omega)
  .grind
def rj {a:Agenda}(h:dX a){d:Due}{n:Int}{t:Rt}:pT a d n t↔d.number=n/\(⟨t,n,d.hnd⟩:Evt)∈a.heap:=by
 constructor
 .rintro⟨h1,h2,h3⟩;obtain⟨i,w,k,e,e1,e2,e3,e4,e5⟩:=Fb h h2;rw[e3] at e2;obtain⟨q1,q2⟩:=h3 i k e e1 e2 e4;refine⟨h1,?_⟩;obtain⟨et,en,eh⟩:=e;simp only at q1 q2 e5;rw[<-q1,<-q2,<-e5];exact ay e4
 .rintro⟨h1,h2⟩;obtain⟨k,hk⟩:=aL.1 h2;obtain⟨j,u,e1,e2,e3,e4⟩:=(jW (cZ.1 h.1) h.2.1).at_ k _ hk;simp only at e1;refine⟨h1,⟨by rw[e1];simp only;omega,by rw[e1,aG];exact e2,by rw[e1,aG];exact e3⟩,λi m e g1 g2 g3=>?_⟩;rw[e1] at g1;simp only at g1;have:j=i:=by omega
  subst this;rw[e4] at g2;simp only[bW] at g2;have:k=m:=by omega
  subst this;rw[hk] at g3;cases g3;exact⟨rfl,rfl⟩
def zZ {c c':Clock}(hn:c'.now=c.now)(hp:c'.pts=c.pts)(hD:∀d n t,pT c.agenda d n t->pT c'.agenda d n t){s:List Due}:∀(l:List Held) (left out:List Due),foldO (d8 c) left l=some out->foldO (d8 c') (left++s) l=some (out++s)
 |[],left,out,h=>by
  unfold foldO at h|-;cases h;rfl
 |x::l,left,out,h=>by
  unfold foldO at h|-;cases e:d8 c left x with
  |none=>rw[e] at h;cases h
  |some y=>
   rw[e] at h;have:d8 c' (left++s) x=some (y++s):=by
    unfold d8 at e|-;rw[hn,hp];by_cases h1:cT c.pts x=true
    .rw[ad h1] at e|-;by_cases h2:(ef c.now (ptOf c.pts x.cert.high) (ptOf c.pts x.cert.low)).2=true
     .rw[ad h2] at e|-;cases left with
      |nil=>cases e
      |cons d rest=>
       simp only[bf] at e|-;by_cases h3:pT c.agenda d x.number (ef c.now (ptOf c.pts x.cert.high) (ptOf c.pts x.cert.low)).1
       .rw[ad h3] at e;rw[ad (hD _ _ _ h3)];cases e;rfl
       .rw[ac h3] at e;cases e
     .rw[ac h2] at e|-;cases e;rfl
    .rw[ac h1] at e;cases e
   rw[this];exact zZ hn hp hD l y out h
def z6 {α β:Type}{g:β->α->Option β}:∀{l k:List α} {x y:β},foldO g x l=some y->foldO g x (l++k)=foldO g y k
 |[],k,x,y,h=>by unfold foldO at h;cases h;rfl
 |a::l,k,x,y,h=>by
  have h:(match g x a with|some y=>foldO g y l|none=>none)=some y:=h
  show(match g x a with|some y=>foldO g y (l++k)|none=>none)=_
  cases e:g x a with
  |none=>rw[e] at h;cases h
  |some z=>rw[e] at h;exact z6 h
def z7 {c:Clock}(ha:dX c.agenda):∀(l:List Held) (left:List Due),foldO (d8 c) left l=some []->(left.map (·.number)).Sublist (l.map (·.number))/\∀d∈left,∃t,(⟨t,d.number,d.hnd⟩:Evt)∈c.agenda.heap
 |[],left,h=>by unfold foldO at h;cases h;exact⟨.slnil,by simp⟩
 |x::l,left,h=>by
  unfold foldO at h;cases e:d8 c left x with
  |none=>rw[e] at h;cases h
  |some y=>
   rw[e] at h;obtain⟨r1,r2⟩:=z7 ha l y h;unfold d8 at e;by_cases h1:cT c.pts x=true
   .rw[ad h1] at e;by_cases h2:(ef c.now (ptOf c.pts x.cert.high) (ptOf c.pts x.cert.low)).2=true
    .rw[ad h2] at e;cases left with
     |nil=>cases e
     |cons d rest=>
      simp only at e;by_cases h3:pT c.agenda d x.number (ef c.now (ptOf c.pts x.cert.high) (ptOf c.pts x.cert.low)).1
      .rw[ad h3] at e;cases e;have h3:=(rj ha).1 h3;refine⟨?_,λd' hd=>?_⟩
       .rw[bN,bN,h3.1];exact .cons_cons _ r1
       .rcases bB.1 hd with rfl|hd
        .exact⟨_,by rw[h3.1];exact h3.2⟩
        .exact r2 d' hd
      .rw[ac h3] at e;cases e
    .rw[ac h2] at e;cases e;exact⟨.cons _ r1,r2⟩
   .rw[ac h1] at e;cases e
def tW {c:Certs}(h:dk c):∀(j i:Nat) (x y:Held),i<j->c.list[i]?=some x->c.list[j]?=some y->x.number<y.number
 |0,i,x,y,hij,hx,hy=>by omega
 |j+1,i,x,y,hij,hx,hy=>by
  have q:=(h.2.2.2 (j+1) y hy).2.2.2.1;have hj:=bb hy;obtain⟨z,hz⟩:∃z,c.list[j]?=some z:=⟨c.list[j]'(by omega),ah _⟩;have q:=q z (by omega) (by simpa using hz)
  by_cases e:i=j
  .subst e;rw[hx] at hz;cases hz;exact q
  .have:=tW h j i x z (by omega) hx hz;omega
def AQ {c:Certs}(h:dk c):(c.list.map (·.number)).Nodup:=by
 rw[List.Nodup,gk,ec];intro i j hi hj hij e;have:=tW h j i _ _ hij (ah hi) (ah hj);omega
def qe {c:Clock}(h:bx c):(c.due.map (·.number)).Perm (c.agenda.heap.map (·.number))/\(c.due.map (·.number)).Sublist (c.certs.list.map (·.number)):=by
 obtain⟨_,_,h3,h4,_,h6,h7⟩:=h;obtain⟨r1,r2⟩:=z7 h4 _ _ h7;refine⟨jI (r1.nodup (AQ h3)) (λn hn=>?_) (by simp;omega),r1⟩
 grind
def vL {c:Clock}(h:bx c):c.certs.next∉c.agenda.heap.map (·.number):=λhm=>by
 obtain⟨p,s⟩:=qe h;have:=s.subset (p.mem_iff.2 hm);obtain⟨x,hx,hn⟩:=bh.1 this;obtain⟨i,hi⟩:=aL.1 hx;have:=(h.2.2.1.2.2.2 i x hi).2.2.1;omega
def fT (c:Clock)(x:Crt):Rt×Bool:=ef c.now (ptOf c.pts x.high) (ptOf c.pts x.low)
def sS (c:Clock)(x:Crt):Clock:=⟨c.now,c.pts,xA c.certs x,c.agenda,c.due⟩
def qP (c:Clock)(x:Crt)(fr:List Int)(i:Nat)(u:Int):Clock:=⟨c.now,c.pts,xA c.certs x,gJ c.agenda fr i u (fT c x).1 c.certs.next,c.due++[⟨c.certs.next,⟨i,u+1⟩⟩]⟩
structure CAdd (c:Clock)(x:Crt):Prop where
 ok:bx c
 cok:x.ok
 new:∀g∈c.certs.list,g.cert≠x
 room:c.certs.list.length<200
 next:c.certs.next<1000000
 low:inF c.pts x.low=true
 high:inF c.pts x.high=true
def Sf {c:Clock}{x:Crt}(h:CAdd c x)(hf:(fT c x).2=false):bx (sS c x):=by
 obtain⟨⟨h1,h2,h3,h4,h5,h6,h7⟩,hx,hn,hr,hl,k1,k2⟩:=h;refine⟨h1,h2,NN h3 hx hn hr hl,h4,h5,h6,?_⟩;have:=zZ (c:=c) (c':=sS c x) rfl rfl (λ_ _ _ h=>h) (s:=[]) _ _ _ h7;rw[aR] at this;refine(z6 this).trans ?_;have:d8 (sS c x) ([]++[]) ⟨c.certs.next,x⟩=some []:=by
  unfold d8;have hk:cT (sS c x).pts ⟨c.certs.next,x⟩=true:=by unfold cT sS;simp only;rw[k1,k2];rfl
  rw[ad hk,ac (by unfold fT at hf;exact Bool.eq_false_iff.1 hf)];rfl
 unfold foldO;rw[this];rfl
def Sg {c:Clock}{x:Crt}(h:CAdd c x)(h64:aX c.now){fr:List Int}{i:Nat}{u:Int}(he:c.agenda.slots.free=fr++[(i:Int)])(hu:c.agenda.slots.uses[i]?=some u)(hm:u<1000000)(hf:(fT c x).2=true):bx (qP c x fr i u):=by
 have hnew:=vL h.ok;obtain⟨⟨h1,h2,h3,h4,h5,h6,h7⟩,hx,hn,hr,hl,k1,k2⟩:=h;obtain⟨f1,f2⟩:=ri h2 h64 h1 k1 k2 hf;have n0:=h3.2.1;obtain⟨p1,p2,p3⟩:=yS h4 he hu hm (t:=(fT c x).1) (n:=c.certs.next) ⟨f1,n0,by omega⟩ hnew;refine⟨h1,h2,NN h3 hx hn hr hl,p1,p3.trans h5,?_,?_⟩
 .have:=p2.length_eq;rw[aB,aQ] at this;unfold qP
  grind
 .have:=zZ (c:=c) (c':=qP c x fr i u) rfl rfl (λd n t hd=>by
   refine(rj p1).2 ?_;obtain⟨d1,d2⟩:=(rj h4).1 hd;exact⟨d1,p2.mem_iff.2 (dg _ d2)⟩) (s:=[⟨c.certs.next,⟨i,u+1⟩⟩]) _ _ _ h7
  refine(z6 this).trans ?_;have:d8 (qP c x fr i u) ([]++[⟨c.certs.next,⟨i,u+1⟩⟩]) ⟨c.certs.next,x⟩=some []:=by
   unfold d8;have hk:cT (qP c x fr i u).pts ⟨c.certs.next,x⟩=true:=by unfold cT qP;simp only;rw[k1,k2];rfl
   rw[ad hk,ad (by unfold fT at hf;exact hf)];simp only[aT];rw[ad];refine(rj p1).2 ⟨rfl,p2.mem_iff.2 ?_⟩;simp only[b9,cg];exact .inr rfl
  unfold foldO;rw[this];rfl
def agZ (a:Agenda):RF.ev (.part 0 5) [AG a]=some (AG a):=rfl
def kX {c:Clock}(h:bx c):CSm c:=by
 obtain⟨_,h2,h3,h4,_,h6,_⟩:=h;have ha:=vK h4;exact⟨by have:=h2.1;omega,by have:=h3.1;omega,ha,by have:=ha.heap;omega⟩
def xD {a:Agenda}(h:dX a):gAg a=false:=by
 have hs:=cZ.1 h.1;have:=hs.n2;have:=h.2.1.2.1;have:=h.2.1.1;unfold gAg;rw[vI hs]
 grind
structure Fresh (c:Clock):Prop where
 ok:bx c
 now64:aX c.now
 ev64:∀e∈c.agenda.heap,aX e.time
 heap:c.agenda.heap.length<=c.certs.list.length
 next:c.certs.next=c.certs.list.length
 uses:∀i:Nat,(i:Int)∈c.agenda.slots.free->c.agenda.slots.uses[i]?=some 0
def frL (c:Clock):List Int:=c.agenda.slots.free.dropLast
def frI (c:Clock):Nat:=((c.agenda.slots.free.getLast?).getD 0).toNat
structure EdgOk (l:List Pt)(es:List Crt):Prop where
 nd:es.Nodup
 len:es.length<200
 ok:∀x∈es,x.ok
 low:∀x∈es,inF l x.low=true
 high:∀x∈es,inF l x.high=true
structure AtK (l:List Pt)(t:Rt)(es:List Crt)(k:Nat)(c:Clock):Prop where
 fresh:Fresh c
 certs:c.certs.list.map (·.cert)=es.take k
 pts:c.pts=l
 now:c.now=t
def xE (e:Evt):RF.ev (.cell 3) [EP e]=some (.i64 e.hnd.index):=rfl
structure GoodE (W:Nat)(e:Evt):Prop where
 t64:aX e.time
 rok:rok e.time=true
 ix:∃j:Nat,e.hnd.index=(j:Int)/\ j<W
def DE {N:Nat}{f0:JT}{t:Rt}{n:Int}{h:Hnd}{e0 e1 e3 e5 e6 e7 e8 e9 e10 e11 e12 e13 e14 e15 e16 e17 e18 e20 e21 e22 e23 e24 e25 e27 e28 e29 e30 e31 e32 e34:PV}{H W:Nat}(hH:H<=1000)(ht:aX t)(rt:rok t=true):∀(r i m:Nat) (hp:List Evt) (wh:List Int),i<=r->r<m->i<H->hp.length=H->wh.length=W->(∀x∈hp,GoodE W x)->
  cS (aY D) N um [f0] [e0,e1,.i64 n,e3,R t,e5,e6,e7,e8,e9,e10,e11,e12,e13,e14,e15,e16,e17,e18,HD h,e20,e21,e22,e23,e24,e25,.i64 (W:Int),e27,e28,e29,e30,e31,e32,.i64 (H:Int),e34] m [.i64 (i:Int),sl bO hp,sl I1 wh]=f0 [sl bO (dM ⟨t,n,h⟩ r hp wh i).1,sl I1 (dM ⟨t,n,h⟩ r hp wh i).2.1,.i64 ((dM ⟨t,n,h⟩ r hp wh i).2.2:Int)]
 |0,i,m,hp,wh,hi,hm,hiH,hl,hw,hg=>by
  obtain⟨m,rfl⟩:∃m',m=m'+1:=⟨m-1,by omega⟩;have:i=0:=by omega
  subst this;rw[bc];unfold um dM;simp only[EV,aa];rw[ac (by omega)]
 |r+1,i,m,hp,wh,hi,hm,hiH,hl,hw,hg=>by
  obtain⟨m,rfl⟩:∃m',m=m'+1:=⟨m-1,by omega⟩;obtain⟨p,hp'⟩:∃p,hp[(i-1)/2]?=some p:=⟨hp[(i-1)/2]'(by omega),ah _⟩;have E:dM ⟨t,n,h⟩ (r+1) hp wh i=if 0<i/\ evLess ⟨t,n,h⟩ p=true then dM ⟨t,n,h⟩ r (hp.set i p) (wh.set p.hnd.index.toNat (i:Int)) ((i-1)/2) else(hp,wh,i):=by rw[dM,hp']
  rw[E,bc];by_cases h0:0<i
  rotate_left
  .rw[ac (λh=>h0 h.1)];unfold um;simp only[EV,aa];rw[ac (by omega)]
  .obtain⟨p64,prk,jp,pj,pW⟩:=hg p (ay hp');have ih:=DE (N:=N) (f0:=f0) (t:=t) (n:=n) (h:=h) (e0:=e0) (e1:=e1) (e3:=e3) (e5:=e5) (e6:=e6) (e7:=e7) (e8:=e8) (e9:=e9) (e10:=e10) (e11:=e11) (e12:=e12) (e13:=e13) (e14:=e14) (e15:=e15) (e16:=e16) (e17:=e17) (e18:=e18) (e20:=e20) (e21:=e21) (e22:=e22) (e23:=e23) (e24:=e24) (e25:=e25) (e27:=e27) (e28:=e28) (e29:=e29) (e30:=e30) (e31:=e31) (e32:=e32) (e34:=e34) (H:=H) (W:=W) hH ht rt r ((i-1)/2) m (hp.set i p) (wh.set p.hnd.index.toNat (i:Int)) (by omega) (by omega) (by omega) (by rw[aH];exact hl) (by rw[aH];exact hw) (λx hx=>by
    rcases b6 hx with h1|h1
    .exact hg x h1
    .rw[h1];exact⟨p64,prk,jp,pj,pW⟩)
   have cm:=phi (tu (x:=⟨t,n,h⟩) (y:=p) ht p64 rt prk);have q2:=tC h0 (by omega);have s1:=lX (l:=hp) (i:=i) (by omega) p;have s3:=dQ (l:=wh) (i:=jp) (by omega) (i:Int);generalize hkk:um=kk at ih;subst hkk;unfold um;simp[EV];rw[ad (by omega)];simp only[EV,q2,ixM (show(i-1)/2<H by omega),aJ hp',eU,ax,pR,pHD,AP,cm,aa,kL]
   by_cases hc:evLess ⟨t,n,h⟩ p=true
   .rw[ad hc,ad ⟨h0,hc⟩];simp only[EV,fN,q2,ixM hiH,ixM (show(i-1)/2<H by omega),aJ hp',eU,ax,ly,s1,xE,pj,ixM pW,s3]
    rw[pj,aG] at ih;exact ih
   .rw[ac hc,ac (λq=>hc q.2)]
def Cy {x y:Evt}(h:evLess x y=false):¬zV x y<0:=λc=>by
 rw[(kL x y).1 c] at h;cases h
def NQ {N:Nat}{f0:JT}{t:Rt}{n:Int}{h:Hnd}{e0 e1 e3 e5 e6 e7 e8 e9 e10 e11 e12 e13 e14 e15 e16 e17 e18 e20 e21 e22 e23 e24 e25 e27 e28 e29 e30 e31 e32 e34 e35 e36 e37 e38 e39 e26:PV}{H i m:Nat}{hp:List Evt}{w:PV}(hH:H<=1000)(ht:aX t)(rt:rok t=true)(hm:0<m)(hi:i<H)(hl:hp.length=H)
  (hg:∀k e,k≠i->hp[k]?=some e->aX e.time/\ rok e.time=true) (ho:∀k e,(k=2*i+1\/k=2*i+2)->hp[k]?=some e->evLess e ⟨t,n,h⟩=false):
  cS (aY D) N H4 [f0] [e0,e1,.i64 n,e3,R t,e5,e6,e7,e8,e9,e10,e11,e12,e13,e14,e15,e16,e17,e18,HD h,e20,e21,e22,e23,e24,e25,e26,e27,e28,e29,e30,e31,e32,.i64 (H:Int),e34,e35,e36,e37,e38,e39] m [.i64 (i:Int),sl bO hp,w,.i64 ((2*i+1:Nat):Int)]=f0 [sl bO hp,w,.i64 (i:Int)]:=by
 obtain⟨m,rfl⟩:∃m',m=m'+1:=⟨m-1,by omega⟩;rw[bc];have sh:∀e:Evt,RF.ev (.shape 5) [EP e]=some (EP e):=λ_=>rfl;have fin:∀(k:Nat) (self:JT) (a b c d d':PV),(k=2*i+1\/k=2*i+2)->k<H->den (aY D) N H2 [f0,self] [e0,e1,.i64 n,e3,R t,e5,e6,e7,e8,e9,e10,e11,e12,e13,e14,e15,e16,e17,e18,HD h,e20,e21,e22,e23,e24,e25,e26,e27,e28,e29,e30,e31,e32,.i64 (H:Int),e34,e35,e36,e37,e38,e39,.i64 (i:Int),sl bO hp,w,a,b,c,d,d',.i64 (k:Int)]=f0 [sl bO hp,w,.i64 (i:Int)]:=λk self a b c d d' hk hkH=>by
  obtain⟨e,he⟩:∃e,hp[k]?=some e:=⟨hp[k]'(by omega),ah _⟩;obtain⟨g1,g2⟩:=hg k e (by omega) he;have cm:=phi (tu (x:=e) (y:=⟨t,n,h⟩) g1 ht g2 rt);unfold H2;simp only[EV,ixM hkH,aJ he,eU,ax,pR,pHD,AP,cm,aa,bk];rw[ad (by have:=Cy (ho k e hk he);omega)]
 unfold H4;simp only[EV,aa];by_cases h1:2*i+1<H
 .rw[ad (by omega)];simp only[EV,aa,up1 (show 2*i+1<1000000000 by omega)]
  by_cases h2:2*i+2<H
  .rw[ad (by omega)];obtain⟨e,he⟩:∃e,hp[2*i+1]?=some e:=⟨hp[2*i+1]'(by omega),ah _⟩;obtain⟨g,hg'⟩:∃e,hp[2*i+1+1]?=some e:=⟨hp[2*i+1+1]'(by omega),ah _⟩;obtain⟨a1,a2⟩:=hg _ e (by omega) he;obtain⟨b1,b2⟩:=hg _ g (by omega) hg';have cm:=phi (tu (x:=g) (y:=e) b1 a1 b2 a2);simp only[EV,up1 (show 2*i+1<1000000000 by omega),ixM h1,ixM (show 2*i+1+1<H by omega),aJ he,aJ hg',eU,ax,cm]
   unfold H3;simp only[EV,aa,up1 (show 2*i+1<1000000000 by omega)]
   by_cases hc:zV g e<0
   .rw[ad hc];exact fin _ _ _ _ _ _ _ (.inr rfl) (by omega)
   .rw[ac hc];exact fin _ _ _ _ _ _ _ (.inl rfl) (by omega)
  .rw[ac (by omega)];unfold H3;simp only[EV,aq,aw];exact fin _ _ _ _ _ _ _ (.inl rfl) (by omega)
 .rw[ac (by omega)]
def Yb {a:Agenda}(h:dX a){fr:List Int}{i:Nat}{u:Int}(hf:a.slots.free=fr++[(i:Int)])(hu:a.slots.uses[i]?=some u)(hm:u<1000000){t:Rt}{n:Int}(hx:rok t=true/\ 0<=n/\ n<=1000000)(hn:n∉a.heap.map (·.number))(ht:aX t)(h64:∀e∈a.heap,aX e.time):
  Ans D 317 [AG a,R t,.i64 n] [AG (gJ a fr i u t n),HD ⟨i,u+1⟩,.i64 0]:=by
 classical
 have hs:=cZ.1 h.1;have hP:=jW hs h.2.1;have hsm:=vK h;have n2:=hs.n2;have hl:=h.2.1.2.1;have hw:=h.2.1.1;have hi:=bb hu;obtain⟨hOk,q2,q3⟩:=yS h hf hu hm hx hn;have hOrd:=xC hOk;have m1:=phi (Fe (xD h) h64);rw[au h] at m1;have m2:=phi (c43 ht);rw[hx.1] at m2;have e0:okE true=0:=rfl;rw[e0] at m1 m2;have mm:RF.ev (.mm true) [.v (.int .i64 0),.v (.int .i64 0)]=some (.v (.int .i64 0)):=rfl;have ap:=fh (f:=bO) (l:=a.heap) (k:=[⟨t,n,⟨i,u+1⟩⟩]) (bytes:=40) (z:=5) (by simp;omega) kb;have dn:=qO (n:=a.heap.length) (by omega);have good:∀x∈a.heap++[(⟨t,n,⟨i,u+1⟩⟩:Evt)],GoodE a.wher.length x:=λx hx'=>by
  rcases b9.1 hx' with h1|h1
  .obtain⟨k,hk⟩:=aL.1 h1;obtain⟨j,v,g1,_,_,g4⟩:=hP.at_ k x hk;exact⟨h64 x h1,(h.2.2.1 x h1).1,j,by rw[g1],bb g4⟩
  .rw[cg] at h1;subst h1;exact⟨ht,hx.1,i,rfl,by omega⟩
 have up:=yT (x:=⟨t,n,⟨i,u+1⟩⟩) (a.heap.length+1) (a.heap++[⟨t,n,⟨i,u+1⟩⟩]) a.wher a.heap.length (by simp);have e1:(a.heap++[(⟨t,n,⟨i,u+1⟩⟩:Evt)]).set a.heap.length ⟨t,n,⟨i,u+1⟩⟩=a.heap++[⟨t,n,⟨i,u+1⟩⟩]:=by simp
 rw[e1] at up;simp only[aG] at up;obtain⟨hpF,whF,jF,hF⟩:∃hpF whF jF,dM ⟨t,n,⟨i,u+1⟩⟩ (a.heap.length+1) (a.heap++[⟨t,n,⟨i,u+1⟩⟩]) a.wher a.heap.length=(hpF,whF,jF):=⟨_,_,_,rfl⟩;rw[hF] at up;simp only at up;have pH:(gJ a fr i u t n).heap=hpF.set jF ⟨t,n,⟨i,u+1⟩⟩:=by unfold gJ;rw[up]
 have pW:(gJ a fr i u t n).wher=whF.set i (jF:Int):=by unfold gJ;rw[up]
 have pS:(gJ a fr i u t n).slots=lV a.slots fr i u:=rfl;have lH:hpF.length=a.heap.length+1:=by
  have:=q2.length_eq;rw[pH,aH,aB,aQ] at this;exact this
 have lW:whF.length=a.wher.length:=by rw[pW,aH] at q3;exact q3
 have hjF:jF<=a.heap.length:=by
  have q:=(xB (s:=lV a.slots fr i u) (a.heap.length+1) (a.heap++[⟨t,n,⟨i,u+1⟩⟩]) (a.wher.set i (a.heap.length:Int)) a.heap.length (by omega) (by simp) (λx hx'=>(good x hx').rok) ⟨λc e p c0 cn he hp=>by
   have h1:=bb he;rw[aB,aQ] at h1;rw[aI (by omega)] at he hp;exact xC h c e p c0 he hp,λc e p _ c0 hc he _=>by
   have h1:=bb he;rw[aB,aQ] at h1;omega⟩ (zY hs hP hf hu rfl)).2.2.2.2
  rw[up] at q;exact q
 have child:∀k e,k≠jF->hpF[k]?=some e->(gJ a fr i u t n).heap[k]?=some e:=λk e hk he=>by rw[pH,bG (λq=>hk q.symm)];exact he
 have s4:=bF (f:=bO) (l:=(gJ a fr i u t n).heap);rw[q2.length_eq,aB,aQ] at s4;have s5:=bF (f:=I1) (l:=(gJ a fr i u t n).wher);rw[q3] at s5;have s1:=lX (l:=hpF) (i:=jF) (by omega) ⟨t,n,⟨i,u+1⟩⟩;rw[<-pH] at s1;have s3:=dQ (l:=whF) (i:=i) (by omega) (jF:Int);rw[<-pW] at s3;refine an ⟨1001,?_⟩;unfold SM;simp only[ax,ga,bU,m1,m2,mm,d7,EV,ai,az,aE,aq,aw,aa,cJ];rw[ac (by omega),ac (by omega)];refine(cw (m:=1001) (l:=a.heap) (p:=λg=>!decide (g.number=n)) (st:=λi=>[.i64 (i:Int)]) (r:=none) (fin:=some [AG (gJ a fr i u t n),HD ⟨i,u+1⟩,.i64 0]) (λk g self hg hall=>?_) (λhall self=>?_) (by omega)).trans ?_
 .have hne:¬g.number=n:=λe=>hn (bh.2 ⟨g,ay hg,e⟩);unfold uo;simp only[ax,d7,aS hg (kb _),aJ hg,eU,vu,EV,aa,bi (aN hg),up1 (show k<1000000000 by have:=aN hg;omega),hne,bw,bI,aq,aA,aw]
 .unfold uo;simp only[EV,aa,bK];unfold H5;have g0:decide ((-1:Int)>=0)=false:=rfl;simp only[EV,g0,aq,aw,ax,pAG,phi (agX hs hf hu hm),iW,lz,az,aE,phi (Sa hsm),ga,d7,gt,pR,pHD,AP,bsE,Uv,ai,ap,aB,aQ,dn];refine(DE (N:=1001) (n:=n) (h:=⟨i,u+1⟩) (H:=a.heap.length+1) (W:=a.wher.length) (by omega) ht hx.1 (a.heap.length+1) a.heap.length 1001 _ _ (by omega) (by omega) (by omega) (by simp) rfl good).trans ?_;rw[hF];unfold P6;have w1:IntKind.i64.wrap (2*(jF:Int))=((2*jF:Nat):Int):=by rw[bV (by omega) (by omega)];omega
  simp only[EV,w1,up1 (show 2*jF<1000000000 by omega)]
  refine(NQ (N:=1001) (H:=a.heap.length+1) (by omega) ht hx.1 (by omega) (by omega) lH (λk e hk he=>?_) (λk e hk he=>?_)).trans ?_
  .have he':=child k e hk he;have:=good e (q2.mem_iff.1 (ay he'));exact⟨this.t64,this.rok⟩
  .have he':=child k e (by omega) he;refine hOrd k e _ (by omega) he' ?_;rw[pH,show(k-1)/2=jF by omega,be (by omega)]
  .unfold P5;simp only[EV,ax,ixM (show jF<a.heap.length+1 by omega),pR,pHD,AP,s1,m9,ixM (show i<a.wher.length by omega),s3,pSL,s4,s5,rM]
   rfl
 .rw[ad (by rw[aV];intro g hg;simpa usingλe=>hn (bh.2 ⟨g,hg,e⟩))]
def qQ {c:Clock}(h:bx c):gW c:=by
 have hc:=kX h;exact⟨hc.certs,hc.due,hc.pts,xD h.2.2.2.1⟩
def Em (n:Int)(h:Hnd):RF.ev .agg [.i64 n,HD h]=some (DP ⟨n,h⟩):=rfl
def z8 (d:Due):RF.ev (.bs 1 [KP.z,KP.z,KP.z] [0]) [DP d]=some (sl cE [d]):=rfl
def vM (d:Due):RF.ev .sub [sl cE [d],.v (.int .i64 0),.v (.int .i64 1)]=some (sl cE [d]):=rfl
def Uw {c:Clock}{d:Due}(h:c.due.length<=1000):RF.ev (.app 24 3) [sl cE c.due,.v (.int .i64 (c.due.length:Int)),sl cE [d]]=some (sl cE (c.due++[d])):=
 fh (f:=cE) (l:=c.due) (k:=[d]) (bytes:=24) (z:=3) (by simp;omega) iT
def NR (c:Clock)(d:Due):RF.ev .sub [sl cE (c.due++[d]),.v (.int .i64 0),.v (.int .i64 ((c.due++[d]).length:Int))]=some (sl cE (c.due++[d])):=bF
def LO (c:Clock):RF.ev (.part 0 3) [CL c]=some (.agg [.i64 c.now.num,.i64 c.now.den,sl row c.pts]):=rfl
def Yc (c:Certs):RF.ev (.part 0 2) [CS c]=some (CS c):=rfl
def Ux (c:Clock):RF.ev (.part 5 3) [CL c]=some (SL c.agenda.slots):=rfl
def En (r:Rt)(p:List Pt)(cs:Certs)(s:Slots)(h:List Evt)(w:List Int)(d:List Due):RF.ev .agg [.agg [.i64 r.num,.i64 r.den,sl row p],CS cs,sl I1 s.uses,sl B1 s.used,sl I1 s.free,sl bO h,sl I1 w,sl cE d]=some (CL ⟨r,p,cs,⟨s,h,w⟩,d⟩):=rfl
def AR (r:Rt)(p:List Pt)(cs:Certs)(s:Slots)(h:List Evt)(w:List Int)(d:List Due):RF.ev .agg [.i64 r.num,.i64 r.den,sl row p,.i64 cs.next,sl hrow cs.list,sl I1 s.uses,sl B1 s.used,sl I1 s.free,sl bO h,sl I1 w,sl cE d]=some (CL ⟨r,p,cs,⟨s,h,w⟩,d⟩):=rfl
def Cz {l:List Pt}{t:Rt}(h:okF l)(hr:rok t=true){x:Crt}(hx:x.ok)(h1:inF l x.low=true)(h2:inF l x.high=true):kO (ptOf l x.high) (ptOf l x.low) t=0:=
 (AI (c:=⟨t,l,⟨0,[]⟩,⟨⟨[],[],[]⟩,[],[]⟩,[]⟩) h hr (x:=⟨0,x⟩) hx).2 (by unfold cT;simp only;rw[h1,h2];rfl)
def pq {l:List Pt}(h:okF l){id:Int}(hi:inF l id=true):¬(ptOf l id).id<0:=by
 obtain⟨i,p,h1,h2,h3,h4⟩:=iJ h hi;rw[h4];have:=ji h p (ay h1);omega
def Fz (p:Pt):RF.ev (.cell 0) [PP p]=some (.i64 p.id):=rfl
open Classical in
def ag0 {c:Clock}{x:Crt}(h:CAdd c x)(h64:ij c):((fT c x).2=false->Ans D 238 [CL c,CP x] [CL (sS c x),.i64 c.certs.next,.i64 0])/\
  ∀{fr:List Int} {i:Nat} {u:Int},(fT c x).2=true->c.agenda.slots.free=fr++[(i:Int)]->c.agenda.slots.uses[i]?=some u->u<1000000->Ans D 238 [CL c,CP x] [CL (qP c x fr i u),.i64 c.certs.next,.i64 0]:=by
 have hc:=kX h.ok;have m1:=phi (yP h64 (qQ h.ok));rw[au h.ok,show okE true=0 from rfl] at m1
 have hF:=h.ok.2.1;have m2:=phi (X8 h.ok.2.2.1 h.cok h.new h.room h.next);have m3:=phi (Lv (x:=x) hF h64.1);rw[ad (Cz hF h.ok.1 h.cok h.low h.high)] at m3;have n8:decide ((0:Int)=8)=false:=rfl;have s0:=bF (f:=cE) (l:=c.due);have p1:=pq hF h.low;have p2:=pq hF h.high;constructor
 .intro hf;have hf':(ef c.now (ptOf c.pts x.high) (ptOf c.pts x.low)).2=false:=hf;rw[hf'] at m3;refine am ?_;unfold Mo;simp only[ax,db,jA,bU,mh,mf,fq,m1,m2,iI,nY,nZ,phi (zT hF _),Fz,EV,az,aE,aq,aw,n8,aj p1,aj p2,phi (Fv hc),cU,ai,m3,mq,mu,mw,jB,jU];unfold G8;simp only[EV,ax,LO,Yc,s0,En];rfl
 .intro fr i u hf he hu hm;have hf':(ef c.now (ptOf c.pts x.high) (ptOf c.pts x.low)).2=true:=hf;rw[hf'] at m3;obtain⟨f1,f2⟩:=ri hF h64.1 h.ok.1 h.low h.high hf';have m4:=phi (Yb h.ok.2.2.2.1 he hu hm (t:=(fT c x).1) (n:=c.certs.next) ⟨f1,h.ok.2.2.1.2.1,by have:=h.next;omega⟩ (vL h.ok) f2 h64.2);have m4:aY D 317 [AG c.agenda,R (ef c.now (ptOf c.pts x.high) (ptOf c.pts x.low)).1,.v (.int .i64 c.certs.next)]=_:=m4;refine am ?_;unfold Mo;simp only[ax,db,jA,bU,mh,mf,fq,mi,m1,m2,iI,nY,nZ,phi (zT hF _),Fz,EV,az,aE,aq,aw,n8,aj p1,aj p2,phi (Fv hc),cU,ai,m3,m4,ga,lz,pHD,Em,z8,vM,Uw hc.due,cAG0,cAG1,cAG2,d7,gt,aA];unfold G8;simp only[EV,ax,LO,Yc,NR,En];rfl
def ag1 {c:Clock}{x:Crt}(h:CAdd c x)(h64:ij c):((fT c x).2=false->Ans D 311 [CL c,CP x] [CL (sS c x),.i64 c.certs.next,.i64 0])/\
  ∀{fr:List Int} {i:Nat} {u:Int},(fT c x).2=true->c.agenda.slots.free=fr++[(i:Int)]->c.agenda.slots.uses[i]?=some u->u<1000000->Ans D 311 [CL c,CP x] [CL (qP c x fr i u),.i64 c.certs.next,.i64 0]:=by
 have hc:=kX h.ok;have hF:=h.ok.2.1;have m2:=phi (X7 h.ok.2.2.1 h.cok h.new h.room h.next);have m3:=phi (Lu (x:=x) hF h64.1 h.low h.high);have s0:=bF (f:=cE) (l:=c.due);constructor
 .intro hf;have hf':(ef c.now (ptOf c.pts x.high) (ptOf c.pts x.low)).2=false:=hf;rw[hf'] at m3;refine am ?_;unfold Mx;simp only[ax,db,jA,bU,mh,mf,fq,m2,iI,EV,az,aE,bI,aq,aw,aA,phi (tz hc),cU,ai,m3,oc,od,m8,mq,mu,mw,jB,jU,lx,fm,s0,AR];rfl
 .intro fr i u hf he hu hm;have hf':(ef c.now (ptOf c.pts x.high) (ptOf c.pts x.low)).2=true:=hf;rw[hf'] at m3;obtain⟨f1,f2⟩:=ri hF h64.1 h.ok.1 h.low h.high hf';have m4:=phi (X9 h.ok.2.2.2.1 he hu hm (t:=(fT c x).1) (n:=c.certs.next) ⟨f1,h.ok.2.2.1.2.1,by have:=h.next;omega⟩ (vL h.ok) f2 h64.2);have m4:aY D 374 [AG c.agenda,R (ef c.now (ptOf c.pts x.high) (ptOf c.pts x.low)).1,.v (.int .i64 c.certs.next)]=_:=m4;have m5:=phi (Sb (cZ.1 h.ok.2.2.2.1.1));rw[vH he hu,au hm] at m5;refine am ?_;unfold Mx;simp only[ax,db,jA,bU,mh,mf,fq,mi,Ux,m2,iI,EV,az,aE,bI,aq,aw,aA,phi (tz hc),cU,ai,m3,m4,m5,ga,lz,pHD,Em,z8,vM,Uw hc.due,oc,od,m8,lx,fm,cAG0,cAG1,cAG2,d7,gt,NR,AR];rfl
def ag2 {l k:List Pt}(hl:l.length<=1000):Ans D 234 [sl row l,sl row k] [.bool (decide (l=k))]:=by
 refine an ⟨1001,?_⟩;unfold aas;simp only[EV,ai,aF,ak];by_cases h:l.length=k.length
 .rw[ac (by omega)];refine pQ h (cw (l:=l.zip k) (st:=λi=>[.i64 (i:Int)]) (λi x self hx _=>?_) (λ_ self=>?_) (by rw[eG h];omega))
  .obtain⟨hp,hq⟩:=g9 hx;unfold G4;simp[aS hp (bY _),aJ hp,aS hq (bY _),aJ hq,gr,Xu,EV,bi (aN hp),up1 (show i<1000000000 by have:=aN hp;omega)]
   grind
  .rw[eG h];unfold G4;simp only[EV,aa,bK,Pn]
 .rw[ad (by omega),aj (λe=>h (by rw[e]))]
def lY (t:Rt)(l:List Pt):Nat->List Int->Nat->List Int
 |0,h,_=>h
 |n+1,h,i=>match h[i]?,h[(i-1)/2]? with
  |some a,some b=>if 0<i/\ leads t (ptOf l a) (ptOf l b)=true then lY t l n ((h.set i b).set ((i-1)/2) a) ((i-1)/2) else h
  |_,_=>h
def qf {t:Rt}{l:List Pt}:∀(n:Nat) (h:List Int) (i:Nat),(lY t l n h i).Perm h
 |0,h,i=> .refl _
 |n+1,h,i=>by
  unfold lY;split
  .rename_i a b ha hb;split
   .refine(qf n _ _).trans ?_;obtain⟨h1,h2⟩:=aD.1 ha;obtain⟨h3,h4⟩:=aD.1 hb;rw[<-h2,<-h4];exact List.set_set_perm h1 h3
   .exact .refl _
  .exact .refl _
def Eo {l:List Pt}(h:okF l){x:Int}(hx:x∈l.map Pt.id):0<=x/\ x<=65535:=by
 obtain⟨p,hp,rfl⟩:=bh.1 hx;exact ji h p hp
def Aa {l:List Pt}(h:okF l){hp:List Int}(pm:hp.Perm (l.map Pt.id)):EdgOk l (dY hp):=by
 have hnd:=pm.nodup_iff.2 (dD h.2.2);have hlen:=pm.length_eq;rw[ai] at hlen;have h64:=h.1;refine⟨zy hnd,by unfold dY;rw[mH];omega,λx hx=>?_,λx hx=>ey.2 (pm.mem_iff.1 (nG hx).1),λx hx=>ey.2 (pm.mem_iff.1 (nG hx).2)⟩;obtain⟨m1,m2⟩:=nG hx;have b1:=Eo h (pm.mem_iff.1 m1);have b2:=Eo h (pm.mem_iff.1 m2);refine⟨b1.1,b1.2,b2.1,b2.2,?_⟩;obtain⟨i,hi,rfl⟩:=bh.1 hx;rw[dW] at hi;simp only;intro e;have:=dE.1 hnd (i+1) (i/2) _ (ew (by omega)) (by rw[e];exact ew (by omega));omega
def CA {t:Rt}{l:List Pt}(h:okF l){x:Crt}(h1:inF l x.low=true)(h2:inF l x.high=true)(hl:leads t (ptOf l x.high) (ptOf l x.low)=true):x.ok:=by
 have b1:=Eo h (ey.1 h1);have b2:=Eo h (ey.1 h2);refine⟨b1.1,b1.2,b2.1,b2.2,λe=>?_⟩;rw[e,D1] at hl;cases hl
def Ab {t:Rt}{l:List Pt}(h:okF l):EdgOk l (edgesU l (upsO t l)):=by
 refine⟨rI (dD h.2.2),?_,λx hx=>?_,λx hx=>(jV h hx).1,λx hx=>(jV h hx).2.1⟩
 .have h64:=h.1;have:(edgesU l (upsO t l)).length<=l.length:=by
   unfold edgesU
   grind
  omega
 .obtain⟨a,b,c⟩:=jV h hx;exact CA h a b c
def Ac {t:Rt}{l:List Pt}(h:okF l):EdgOk l (edgsT (cart t l).nodes l.length):=by
 refine⟨vD h _ (aC _),?_,λx hx=>?_,λx hx=>(lU h hx).1,λx hx=>(lU h hx).2.1⟩
 .have h64:=h.1;have:=lA (cart t l).nodes l.length;omega
 .obtain⟨a,b,c⟩:=lU h hx;exact CA h a b c
def og (c:Clock):RF.ev (.part 0 11) [CL c]=some (CL c):=rfl
def ad3 {es:List Crt}{i:Nat}(h:i<=es.length):RF.ev (.tsub 2) [sl bT es,.v (.int .i64 0),.v (.int .i64 (i:Int))]=some (sl bT (es.take i)):=by
 have he:dK 2 (es.map bT)=true:=by
  cases es with
  |nil=>rfl
  |cons a l=>simp[dK,jz]
 rw[B5,ad ⟨by omega,by omega,by simp;omega,he,by decide⟩];simp
def ag3 {i n:Nat}(h:i<=n):RF.ev .bnd [.v (.int .i64 (i:Int)),.v (.int .i64 (n:Int))]=some (.i64 (i:Int)):=by rw[jO,ad ⟨by omega,by omega⟩]
def CB (p:Pt):RF.ev (.shape 3) [PP p]=some (PP p):=rfl
def vN {l:List Pt}(h:okF l){x:Int}(hx:inF l x=true):∃(i:Nat) (p:Pt),l[i]?=some p/\ p.id=x/\ ptOf l x=p:=by
 obtain⟨i,p,h1,h2,_,h4⟩:=iJ h hx
 grind
open Classical in
def Si {l:List Pt}{t:Rt}(h:okF l)(ht:aX t){a b:Int}(ha:inF l a=true)(hb:inF l b=true):Ans D 280 [F l,R t,.i64 a,.i64 b] [.bool (leads t (ptOf l a) (ptOf l b))]:=by
 obtain⟨i,p,a1,a2,a3,a4⟩:=iJ h ha;obtain⟨j,q,b1,b2,b3,b4⟩:=iJ h hb;have q1:=phi (me (l:=l) (by have:=h.1;omega) a);have q2:=phi (me (l:=l) (by have:=h.1;omega) b);rw[a3] at q1;rw[b3] at q2;refine am ?_;unfold aaU;simp[aO,bU,b8,q1,q2,aS a1 (bY _),aJ a1,aS b1 (bY _),aJ b1,gr,EV,phi (Cq (eQ h a1) (eQ h b1) ht),a4,b4]
def AS {l:List Pt}{t:Rt}(h:okF l)(ht:aX t){N:Nat}{f0:JT}{e0 e1 e2 e3 e6:PV}{H:Nat}(hH:H<=1000):∀(r i m:Nat) (hp:List Int),i<=r->r<m->i<H->hp.length=H->(∀x∈hp,inF l x=true)->
  cS (aY D) N t8 [f0] [e0,e1,e2,e3,F l,R t,e6,.i64 (H:Int)] m [.i64 (i:Int),sl I1 hp]=f0 [sl I1 (lY t l r hp i)]
 |0,i,m,hp,hi,hm,hiH,hl,hin=>by
  obtain⟨m,rfl⟩:∃m',m=m'+1:=⟨m-1,by omega⟩;have:i=0:=by omega
  subst this;rw[bc];unfold t8 lY;simp only[EV,aa];rw[ac (by omega)]
 |r+1,i,m,hp,hi,hm,hiH,hl,hin=>by
  obtain⟨m,rfl⟩:∃m',m=m'+1:=⟨m-1,by omega⟩;obtain⟨a,ha⟩:∃a,hp[i]?=some a:=⟨hp[i],ah _⟩;obtain⟨b,hb⟩:∃b,hp[(i-1)/2]?=some b:=⟨hp[(i-1)/2]'(by omega),ah _⟩;have E:lY t l (r+1) hp i=if 0<i/\ leads t (ptOf l a) (ptOf l b)=true then lY t l r ((hp.set i b).set ((i-1)/2) a) ((i-1)/2) else hp:=by rw[lY,ha,hb]
  rw[E,bc];by_cases h0:0<i
  rotate_left
  .rw[ac (λh=>h0 h.1)];unfold t8;simp only[EV,aa];rw[ac (by omega)]
  .have pm:((hp.set i b).set ((i-1)/2) a).Perm hp:=by
    obtain⟨h1,h2⟩:=aD.1 ha;obtain⟨h3,h4⟩:=aD.1 hb;rw[<-h2,<-h4];exact List.set_set_perm h1 h3
   have ih:=AS (l:=l) (t:=t) h ht (N:=N) (f0:=f0) (e0:=e0) (e1:=e1) (e2:=e2) (e3:=e3) (e6:=e6) (H:=H) hH r ((i-1)/2) m ((hp.set i b).set ((i-1)/2) a) (by omega) (by omega) (by omega) (by rw[pm.length_eq];exact hl) (λx hx=>hin x (pm.mem_iff.1 hx));have cm:=phi (Si h ht (hin a (ay ha)) (hin b (ay hb)));have q2:=tC h0 (by omega);have s1:=dQ (l:=hp) (i:=i) (by omega) b;have s2:RF.ev (.set 0) [sl I1 (hp.set i b),.v (.int .i64 (((i-1)/2:Nat):Int)),.v (.int .i64 a)]=some (sl I1 ((hp.set i b).set ((i-1)/2) a)):=dQ (by rw[aH];omega) a;generalize hkk:t8=kk at ih;subst hkk;unfold t8;simp[EV];rw[ad (by omega)];simp only[EV,q2,ixM hiH,ixM (show(i-1)/2<H by omega),aJ ha,aJ hb,bZ,cm]
   cases hc:leads t (ptOf l a) (ptOf l b) with
   |false=>
    simp
   |true=>
    simp only[h0,fx,aA,EV,fN,q2,ixM hiH,ixM (show(i-1)/2<H by omega),aJ ha,aJ hb,bZ,ax,s1,s2]
    exact ih
def Yd {l:List Pt}{t:Rt}(h:okF l)(ht:aX t){hp:List Int}{i:Nat}(hi:i<hp.length)(hH:hp.length<=900)(hin:∀x∈hp,inF l x=true):Ans D 192 [F l,R t,sl I1 hp,.i64 (i:Int)] [sl I1 (lY t l (i+1) hp i)]:=by
 have s0:=bF (f:=I1) (l:=lY t l (i+1) hp i);rw[(qf (t:=t) (l:=l) (i+1) hp i).length_eq] at s0;refine an ⟨1001,?_⟩;unfold Z2;simp[aO,bU,gy (l:=hp) (f:=I1) (bytes:=8) (z:=1) (by omega) bS,EV];refine(AS h ht (N:=1001) (H:=hp.length) (by omega) (i+1) i 1001 hp (by omega) (by omega) hi rfl hin).trans ?_;unfold OZ;simp[EV,s0]
def Uy (c:Clock)(h:List Int):RF.ev .agg [CL c,sl I1 h]=some (KH ⟨c,h⟩):=rfl
def AT:Nat->Nat->Nat->Nat
 |0,n,_=>n
 |f+1,n,m=>if n<m then AT f (2*n) m else n
def J9 {t:Rt}{l:List Pt}{wins places:List Int}(hb:rv wins places)(hf:mT (wonI t l) wins places):kQ wins places:=by
 refine⟨hb,λi hi=>?_⟩;have:=hf i hi;unfold oP;rw[this];unfold wonI
 grind
def bracketOf (t:Rt)(l:List Pt)(places:List Int):Brk:=⟨places,playD (wonI t l) places (places.length-1) (places.length-1)⟩
def qR {t:Rt}{l:List Pt}{places:List Int}(h:okF l)(h1:1<=places.length)(h2:places.length<=64)(hv:∀x∈places,dR l x)(ho:iC places):
  (bracketOf t l places).wins.length=places.length-1/\ kQ (bracketOf t l places).wins places/\ mT (wonI t l) (bracketOf t l places).wins places:=by
 have hlen:(bracketOf t l places).wins.length=places.length-1:=by unfold bracketOf;simp only;exact gU _
 have hf:=(D4 hlen).1 rfl;refine⟨hlen,J9 ⟨⟨h1,h2,by omega⟩,ho,λx hx=>?_⟩ hf,hf⟩;exact lD h (hv x hx)
def xF {t:Rt}{l:List Pt}{places:List Int}(h:okF l)(h1:1<=places.length)(h2:places.length<=64)(hv:∀x∈places,dR l x)(ho:iC places):
  EdgOk l (edsB (bracketOf t l places).wins places (bracketOf t l places).wins.length):=by
 obtain⟨hlen,hb,hf⟩:=qR (t:=t) h h1 h2 hv ho;have facts:=λe=>qM (b:=bracketOf t l places) (e:=e) h hb hv hf;refine⟨vE (b:=bracketOf t l places) h hb hv hf _ (aC _),?_,λx hx=>?_,λx hx=>(facts x hx).1,λx hx=>(facts x hx).2.1⟩
 .have:=lC (bracketOf t l places).wins places (bracketOf t l places).wins.length;omega
 .obtain⟨a,b,c⟩:=facts x hx;exact CA h a b c
def ag4 {l:List Pt}{t:Rt}{pl:List Int}(h:okF l)(ht:aX t)(h1:1<=pl.length)(h2:pl.length<=64)(hv:∀x∈pl,dR l x):Ans D 321 [F l,R t,sl I1 pl] [BR (bracketOf t l pl)]:=by
 have wp:IntKind.i64.wrap ((pl.length:Int)-1)=((pl.length-1:Nat):Int):=by rw[bV (by omega) (by omega)];omega
 have rp:=xu (n:=pl.length-1) (by omega);have agB:∀w:List Int,RF.ev .agg [sl I1 pl,sl I1 w]=some (BR ⟨pl,w⟩):=λw=>rfl;refine an ⟨1001,?_⟩;unfold abu bracketOf;simp only[ax,aO,bU,EV,ai,gy (l:=pl) (f:=I1) (bytes:=8) (z:=1) (by omega) bS,wp,rp,aP];generalize hm:pl.length-1=m at*;have w1:IntKind.i64.wrap ((m:Int)-1)=(m:Int)-1:=bV (by omega) (by omega);rw[w1];have e0:([sl I1 (List.replicate m 0),PV.v (.int .i64 ((m:Int)-1))]:List PV)=[sl I1 (playD (wonI t l) pl m 0),.i64 ((m:Int)-1-((0:Nat):Int))]:=by
  simp[playD]
 rw[e0];refine(dP (m:=1001) (n:=m) (st:=λk=>[sl I1 (playD (wonI t l) pl m k),.i64 ((m:Int)-1-(k:Int))]) (λk self hk=>?_) (λself=>?_) (by omega))
 .obtain⟨i,hi⟩:∃i:Nat,m-1-k=i:=⟨_,rfl⟩;have hii:(m:Int)-1-(k:Int)=(i:Int):=by omega
  have hdn:IntKind.i64.wrap ((i:Int)-1)=(m:Int)-1-((k+1:Nat):Int):=by rw[bV (by omega) (by omega)];omega
  have hP:=zo (P:=dR l) (.inl rfl) (won:=wonI t l) (λa b=>zX a b) hv k (by omega:k<=m);have hlen:=gU (won:=wonI t l) (places:=pl) (m:=m) k;have hnx:playD (wonI t l) pl m (k+1)=(playD (wonI t l) pl m k).set i (wonI t l (nodeV (playD (wonI t l) pl m k) pl (2*i+1)) (nodeV (playD (wonI t l) pl m k) pl (2*i+2))):=by rw[<-hi];rfl
  rw[hnx];generalize playD (wonI t l) pl m k=w at hP hlen;have su:RF.ev .sub [sl I1 w,.v (.int .i64 0),.v (.int .i64 (m:Int))]=some (sl I1 w):=by rw[<-hlen];exact bF
  unfold H7;simp only[EV,hii,aa,bk,ad (show(0:Int)<=(i:Int) by omega),dbl (show i<100000000 by omega),up1 (show 2*i<1000000000 by omega),up2 (show 2*i<1000000000 by omega),bF,su,agB,ax,phi (xx (b:=⟨pl,w⟩) (i:=2*i+1) (by simp only;omega) (by simp only;omega)),phi (xx (b:=⟨pl,w⟩) (i:=2*i+2) (by simp only;omega) (by simp only;omega)),phi (XO h ht (hP (2*i+1) (by omega)) (hP (2*i+2) (by omega))),ixM (show i<m by omega),dQ (l:=w) (i:=i) (by omega),hdn]
 .have hlen:=gU (won:=wonI t l) (places:=pl) (m:=m) m;generalize playD (wonI t l) pl m m=w at hlen;have su:RF.ev .sub [sl I1 w,.v (.int .i64 0),.v (.int .i64 (m:Int))]=some (sl I1 w):=by rw[<-hlen];exact bF
  unfold H7;simp only[EV,aa,bk,ac (show¬(0:Int)<=(m:Int)-1-(m:Int) by omega),P7,bF,su,agB,ax]
def Ye {l:List Pt}{t:Rt}{pl:List Int}(h:okF l)(ht:aX t)(h1:1<=pl.length)(h2:pl.length<=64)(hv:∀x∈pl,dR l x):Ans D 240 [F l,R t,sl I1 pl] [BR (bracketOf t l pl)]:=by
 refine am ?_;unfold aau;simp[aO,bU,EV,phi (ag4 h ht h1 h2 hv),kg]
def Uz (c:Clock)(b:Brk):RF.ev .agg [CL c,BR b]=some (KT ⟨c,b⟩):=rfl
def Ep (c:Clock)(b:Tree):RF.ev .agg [CL c,TR b]=some (HT ⟨c,b⟩):=rfl
def Sj (b:Brk):RF.ev (.part 0 2) [BR b]=some (BR b):=rfl
def FA (b:Tree):RF.ev (.part 0 2) [TR b]=some (TR b):=rfl
def Er (k:KTourn):RF.ev (.part 0 13) [KT k]=some (KT k):=rfl
def LP (k:Heater):RF.ev (.part 0 13) [HT k]=some (HT k):=rfl
def qS (k:KHeap):RF.ev (.part 0 12) [KH k]=some (KH k):=rfl
set_option linter.unusedSimpArgs false
def ht0 (k:Heater):RF.ev (.cell 0) [HT k]=some (.i64 k.clock.now.num):=rfl
def ht1 (k:Heater):RF.ev (.cell 1) [HT k]=some (.i64 k.clock.now.den):=rfl
def zCH:Choice:=⟨0,zKH,zKT,zHT,zKH⟩
def eL (c:Choice)(e:Int):Choice:=if e=0 then c else zCH
def c59 (c:Choice)(e:Int):Ans D 59 [CHO c,.i64 e] [CHO (eL c e),.i64 e]:=by
 refine am ?_;unfold k59 eL;simp[er,EV];by_cases h:e=0
 .subst h;rfl
 .simp[h];rfl
def c65 (c:Choice)(e:Int):Ans D 65 [CHO c,.i64 e] [CHO (eL c e),.i64 e]:=by
 refine am ?_;unfold k65 eL;simp[er,EV];by_cases h:e=0
 .subst h;rfl
 .simp[h];rfl
def Sk:okE true=0:=rfl
section
variable (k:KTourn)(h:Heater)(c:KHeap)
theorem lZ:RF.ev (.part 2 1) [KT k]=some (F k.clock.pts):=rfl
theorem kj:RF.ev (.part 2 1) [HT h]=some (F h.clock.pts):=rfl
theorem yU:RF.ev (.part 0 2) [HT h]=some (R h.clock.now):=rfl
theorem f7:RF.ev (.part 2 1) [KH c]=some (F c.clock.pts):=rfl
theorem vO:RF.ev (.part 0 2) [KH c]=some (R c.clock.now):=rfl
end
structure ChW (c:Choice):Prop where
 h1:gW c.heap.clock/\ c.heap.heap.length<=1000
 h2:gW c.tourn.clock/\ c.tourn.brk.places.length<=1000/\ c.tourn.brk.wins.length<=1000
 h3:gW c.heater.clock/\ c.heater.tree.nodes.length<=1000
 h4:gW c.hanger.clock/\ c.hanger.heap.length<=1000
def Ad:gW zC:=⟨by decide,by decide,by decide,rfl⟩
def Es:ChW zCH:=⟨⟨Ad,by decide⟩,⟨Ad,by decide,by decide⟩,⟨Ad,by decide⟩,⟨Ad,by decide⟩⟩
def c17 {a:Choice}(h:ChW a):Ans D 17 [CHO a,CHO a] [.bool true]:=by
 have m1:=phi (XC (t:=a.heap) h.h1);have m2:=phi (XE (t:=a.tourn) h.h2);have m3:=phi (XF (t:=a.heater) h.h3);have m4:=phi (XD (t:=a.hanger) h.h4);refine am ?_;unfold k17;simp[er,cCH,qy,qz,qA,qB,m1,m2,m3,m4,EV,UI]
end Go.Proofs.YtfghdmmapmdcgaaGreat
