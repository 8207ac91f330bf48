import Derived.Test.YtndgdhbpojakpaaGreatC3
import Derived.Test.YtndgdhbpojakpaaGreatC1
import Derived.Test.YtndgdhbpojakpaaGreatP1
set_option linter.unusedVariables false
set_option linter.unusedSimpArgs false
set_option linter.defProp false
noncomputable section
namespace Go.Proofs.YtndgdhbpojakpaaGreat
open Go.Sym Bnd
set_option maxRecDepth 100000
def d67 {l:List Pt}(hl:l.length<=1000):Ans D 43 [sl row l] [sl row l]:=by
 refine am ?_;unfold k67;simp only[EV,aj,aa];have h1:den (PhiS D) 1 G9 [] [sl row l,.i64 (l.length:Int),.bool (decide ((l.length:Int)=0))]=some [sl row l]:=by
  unfold G9;simp[EV,fM (l:=l) (f:=row) (bytes:=24) (z:=3) (by omega) bL,bm]
 by_cases h:(l.length:Int)=0
 .have:l=[]:=bu (by omega);subst this;rw[ad h];exact k9 rfl h1
 .grind
def GP {l:List Held}(hl:l.length<=1000):Ans D 147 [sl hrow l] [sl hrow l]:=by
 refine am ?_;unfold U7;simp only[EV,aj,aa];have h1:den (PhiS D) 1 Cv [] [sl hrow l,.i64 (l.length:Int),.bool (decide ((l.length:Int)=0))]=some [sl hrow l]:=by
  unfold Cv;simp[EV,fM (l:=l) (f:=hrow) (bytes:=24) (z:=3) (by omega) eV,bm]
 by_cases h:(l.length:Int)=0
 .have:l=[]:=bu (by omega);subst this;rw[ad h];exact k9 rfl h1
 .grind
def M7 {l:List Due}(hl:l.length<=1000):Ans D 150 [sl cF l] [sl cF l]:=by
 refine am ?_;unfold Va;simp only[EV,aj,aa];have h1:den (PhiS D) 1 Cz [] [sl cF l,.i64 (l.length:Int),.bool (decide ((l.length:Int)=0))]=some [sl cF l]:=by
  unfold Cz;simp[EV,fM (l:=l) (f:=cF) (bytes:=24) (z:=3) (by omega) vX,bm]
 by_cases h:(l.length:Int)=0
 .have:l=[]:=bu (by omega);subst this;rw[ad h];exact k9 rfl h1
 .grind
def GQ {l:List Evt}(hl:l.length<=1000):Ans D 149 [sl cw l] [sl cw l]:=by
 refine am ?_;unfold U9;simp only[EV,aj,aa];have h1:den (PhiS D) 1 Cy [] [sl cw l,.i64 (l.length:Int),.bool (decide ((l.length:Int)=0))]=some [sl cw l]:=by
  unfold Cy;simp[EV,fM (l:=l) (f:=cw) (bytes:=40) (z:=5) (by omega) jo,bm]
 by_cases h:(l.length:Int)=0
 .have:l=[]:=bu (by omega);subst this;rw[ad h];exact k9 rfl h1
 .grind
def acm {l:List Int}(hl:l.length<=1000):Ans D 357 [sl I1 l] [sl I1 l]:=by
 refine am ?_;unfold Yv;simp only[EV,aj,aa];have h1:den (PhiS D) 1 D2 [] [sl I1 l,.i64 (l.length:Int),.bool (decide ((l.length:Int)=0))]=some [sl I1 l]:=by
  unfold D2;simp[EV,fM (l:=l) (f:=I1) (bytes:=8) (z:=1) (by omega) bJ,bm]
 by_cases h:(l.length:Int)=0
 .have:l=[]:=bu (by omega);subst this;rw[ad h];exact k9 rfl h1
 .grind
structure SSm (s:Slots):Prop where
 uses:s.uses.length<=1000
 used:s.used.length<=1000
 free:s.free.length<=1000
structure ASm (a:Agenda):Prop where
 slots:SSm a.slots
 heap:a.heap.length<=1000
 wher:a.wher.length<=1000
structure CSm (c:Clock):Prop where
 pts:c.pts.length<=1000
 certs:c.certs.list.length<=1000
 agenda:ASm c.agenda
 due:c.due.length<=1000
def M8 (l:List Pt):RF.ev .agg [sl row l]=some (F l):=rfl
def M9 {l:List Pt}(hl:l.length<=1000):Ans D 93 [F l] [F l]:=by
 refine am ?_;unfold TV;simp[aW,bQ,fM (l:=l) (f:=row) (bytes:=24) (z:=3) (by omega) bL,EV,bm,M8]
def O3 (c:Certs):RF.ev .agg [.i64 c.next,sl hrow c.list]=some (CS c):=rfl
def SI {c:Certs}(hl:c.list.length<=1000):Ans D 115 [CS c] [CS c]:=by
 refine am ?_;unfold Ue;simp[im,l9,eb,fM (l:=c.list) (f:=hrow) (bytes:=24) (z:=3) (by omega) eV,EV,bm,O3]
def GR (s:Slots):RF.ev .agg [sl I1 s.uses,sl B1 s.used,sl I1 s.free]=some (SL s):=rfl
def SJ {s:Slots}(h:SSm s):Ans D 174 [SL s] [SL s]:=by
 obtain⟨h1,h2,h3⟩:=h;refine am ?_;unfold Vz;simp[jq,iw,jV,iy,fM (l:=s.uses) (f:=I1) (bytes:=8) (z:=1) (by omega) bJ,fM (l:=s.free) (f:=I1) (bytes:=8) (z:=1) (by omega) bJ,fM (l:=s.used) (f:=B1) (bytes:=1) (z:=1) (by omega) qn,EV,bm,GR]
def acn {s:Slots}(h:SSm s):Ans D 315 [SL s] [SL s]:=by
 obtain⟨h1,h2,h3⟩:=h;refine am ?_;unfold XM;simp[jq,iw,jV,iy,phi (iB h1),phi (A1 h2),EV,bm,GR]
def O4 (a:Agenda):RF.ev .agg [sl I1 a.slots.uses,sl B1 a.slots.used,sl I1 a.slots.free,sl cw a.heap,sl I1 a.wher]=some (AG a):=rfl
def aco (a:Agenda):RF.ev (.part 0 3) [AG a]=some (SL a.slots):=rfl
def cAG0 (a:Agenda):RF.ev (.cell 0) [AG a]=some (sl I1 a.slots.uses):=rfl
def cAG1 (a:Agenda):RF.ev (.cell 1) [AG a]=some (sl B1 a.slots.used):=rfl
def cAG2 (a:Agenda):RF.ev (.cell 2) [AG a]=some (sl I1 a.slots.free):=rfl
def SK {a:Agenda}(h:ASm a):Ans D 116 [AG a] [AG a]:=by
 obtain⟨h1,h2,h3⟩:=h;refine am ?_;unfold Uf;simp[jr,aco,phi (SJ h1),jq,iw,jV,iy,eW,ky,fM (l:=a.heap) (f:=cw) (bytes:=40) (z:=5) (by omega) jo,fM (l:=a.wher) (f:=I1) (bytes:=8) (z:=1) (by omega) bJ,EV,bm,O4]
def acp {a:Agenda}(h:ASm a):Ans D 258 [AG a] [AG a]:=by
 obtain⟨h1,h2,h3⟩:=h;refine am ?_;unfold W4;simp[jr,cAG0,cAG1,cAG2,eW,ky,phi (GQ h2),phi (iB h3),EV,bm,O4]
section
variable (c:Clock)
def nL:RF.ev (.cell 0) [CL c]=some (.i64 c.now.num):=rfl
def nM:RF.ev (.cell 1) [CL c]=some (.i64 c.now.den):=rfl
def nN:RF.ev (.cell 3) [CL c]=some (.i64 c.certs.next):=rfl
def mh:RF.ev (.cell 5) [CL c]=some (sl I1 c.agenda.slots.uses):=rfl
def mi:RF.ev (.cell 6) [CL c]=some (sl B1 c.agenda.slots.used):=rfl
def mj:RF.ev (.cell 7) [CL c]=some (sl I1 c.agenda.slots.free):=rfl
def rN:RF.ev .agg [.i64 c.now.num,.i64 c.now.den,sl row c.pts,.i64 c.certs.next,sl hrow c.certs.list,sl I1 c.agenda.slots.uses,sl B1 c.agenda.slots.used,sl I1 c.agenda.slots.free,sl cw c.agenda.heap,sl I1 c.agenda.wher,sl cF c.due]=some (CL c):=rfl
def IK:RF.ev .agg [R c.now,sl row c.pts,.i64 c.certs.next,sl hrow c.certs.list,sl I1 c.agenda.slots.uses,sl B1 c.agenda.slots.used,sl I1 c.agenda.slots.free,sl cw c.agenda.heap,sl I1 c.agenda.wher,sl cF c.due]=some (CL c):=rfl
def cR0 (r:Rt):RF.ev (.cell 0) [R r]=some (.i64 r.num):=rfl
def cR1 (r:Rt):RF.ev (.cell 1) [R r]=some (.i64 r.den):=rfl
end
def tw {c:Clock}(h:CSm c):Ans D 66 [CL c] [CL c]:=by
 obtain⟨h1,h2,h3,h4⟩:=h;refine am ?_;unfold TI;simp[cV,eR,iz,nJ,mb,dw,phi (M9 h1),phi (SI h2),phi (SK h3),aW,aY,bQ,cR0,cR1,im,l9,eb,jr,cAG0,cAG1,cAG2,eW,ky,fM (l:=c.due) (f:=cF) (bytes:=24) (z:=3) (by omega) vX,EV,bm,rN]
def SM {c:Clock}(h:CSm c):Ans D 194 [CL c] [CL c]:=by
 obtain⟨h1,h2,⟨⟨h5,h6,h7⟩,h8,h9⟩,h4⟩:=h;refine am ?_;unfold V0;simp[cV,nL,nM,jW,nN,eS,mh,mi,mj,iA,iX,dw,phi (d67 h1),phi (GP h2),phi (M7 h4),phi (GQ h8),phi (iB h9),phi (iB h5),phi (iB h7),phi (A1 h6),EV,bm,rN]
def acq {c:Clock}(h:CSm c):Ans D 244 [CL c] [CL c]:=by
 obtain⟨h1,h2,⟨⟨h5,h6,h7⟩,h8,h9⟩,h4⟩:=h;refine am ?_;unfold WY;simp[cV,eR,jW,nN,eS,mh,mi,mj,iA,iX,dw,phi (d67 h1),phi (GP h2),phi (M7 h4),phi (GQ h8),phi (iB h9),phi (iB h5),phi (iB h7),phi (A1 h6),EV,bm,IK]
def rO {x y:Evt}:evLess x y=true↔crs x.time y.time<0\/(crs x.time y.time=0/\ x.number<y.number):=by
 unfold evLess sgn
 grind
def oz (a b:Rt):crs b a= -crs a b:=by unfold crs;omega
def IL {a b c:Rt}(ha:0<a.den)(hb:0<b.den)(hc:0<c.den)(h1:crs a b<=0)(h2:crs b c<=0):crs a c<=0/\(crs a c=0->crs a b=0/\ crs b c=0):=by
 have e:crs a c*b.den=crs a b*c.den+crs b c*a.den:=by
  unfold crs
  grind
 have m1:crs a b*c.den<=0:=j6 h1 (by omega);have m2:crs b c*a.den<=0:=j6 h2 (by omega);constructor
 .apply Int.not_lt.1;intro h;have:=Int.mul_pos h hb;omega
 .intro h;rw[h,Int.zero_mul] at e;have z1:crs a b*c.den=0:=by omega
  have z2:crs b c*a.den=0:=by omega
  exact⟨(Int.mul_eq_zero.1 z1).resolve_right (by omega),(Int.mul_eq_zero.1 z2).resolve_right (by omega)⟩
def Bk {x y:Evt}(h:evLess x y=true):evLess y x=false:=by
 cases e:evLess y x with
 |false=>rfl
 |true=>
  rw[rO] at h e;rw[oz x.time y.time] at e;omega
def Bl {x y z:Evt}(hx:rok x.time=true)(hy:rok y.time=true)(hz:rok z.time=true)(h:evLess x y=true)(k:evLess y z=true):evLess x z=true:=by
 rw[rO] at*;have:=IL (a:=x.time) (b:=y.time) (c:=z.time) (by have:=kP hx;omega) (by have:=kP hy;omega) (by have:=kP hz;omega) (by omega) (by omega);omega
def GS {x y z:Evt}(hx:rok x.time=true)(hy:rok y.time=true)(hz:rok z.time=true)(h:evLess x y=false)(k:evLess y z=false):evLess x z=false:=by
 cases e:evLess x z with
 |false=>rfl
 |true=>
  have h':¬(evLess x y=true):=by simp[h]
  have k':¬(evLess y z=true):=by simp[k]
  rw[rO] at*;rw[oz z.time x.time] at e;have:=IL (a:=z.time) (b:=y.time) (c:=x.time) (by have:=kP hz;omega) (by have:=kP hy;omega) (by have:=kP hx;omega) (by have:=oz y.time z.time;omega) (by have:=oz x.time y.time;omega);have e1:=oz y.time z.time;have e2:=oz x.time y.time;omega
def IM {x p s:Evt}(hx:rok x.time=true)(hp:rok p.time=true)(hs:rok s.time=true)(h:evLess x p=true)(k:evLess s p=false):evLess s x=false:=by
 cases e:evLess s x with
 |false=>rfl
 |true=>rw[Bl hs hx hp e h] at k;cases k
structure SFine (s:Slots):Prop where
 n1:1<=s.uses.length
 n2:s.uses.length<=200
 len:s.used.length=s.uses.length
 nd:s.free.Nodup
 rng:∀x∈s.free,0<=x/\ x<(s.uses.length:Int)
 used:∀i:Nat,i<s.uses.length->s.used[i]?=some (!decide ((i:Int)∈s.free))
 uses:∀(i:Nat) (u:Int),s.uses[i]?=some u->0<=u/\ u<=1000000/\(s.used[i]?=some true->1<=u)
def gb {s:Slots}:s.okR↔SFine s:=by
 unfold Slots.okR;constructor
 .rintro⟨h1,h2,h3,_,l,h5,h6⟩;obtain⟨m1,m2,m3,m4⟩:=jG.1 h5;rw[aI] at m3 m4;have hl:∀i:Nat,i<s.uses.length->l[i]?=some (decide ((i:Int)∈s.free)):=λi hi=>by
   grind
  have fact:∀(i:Nat) (u:Int),s.uses[i]?=some u->0<=u/\ u<=1000000/\ s.used[i]?=some (!decide ((i:Int)∈s.free))/\(s.used[i]?=some true->1<=u):=λi u hu=>by
   have hi:=(aC.1 hu).1;obtain⟨b,hb⟩:∃b,s.used[i]?=some b:=⟨s.used[i]'(by omega),ak _⟩;obtain⟨q1,q2,q3,q4⟩:=h6 i u b _ hu hb (hl i hi);refine⟨q1,q2,?_,λh=>?_⟩
   .rw[hb];cases b<;>cases h:decide ((i:Int)∈s.free)<;>simp_all
   .rw[hb] at h;cases h;exact Int.not_lt.1 λhlt=>q4 ⟨rfl,by omega⟩
  refine⟨h1,h2,h3,m2,λx hx=>?_,λi hi=>?_,λi u hu=>?_⟩
  .obtain⟨g1,g2,_⟩:=m1 x hx;rw[aI] at g2;exact⟨g1,g2⟩
  .exact(fact i _ (ak hi)).2.2.1
  .obtain⟨q1,q2,_,q4⟩:=fact i u hu;exact⟨q1,q2,q4⟩
 .rintro⟨n1,n2,len,nd,rng,used,uses⟩;refine⟨n1,n2,len,ic nd rng,(List.range s.uses.length).map λi:Nat=>decide ((i:Int)∈s.free),?_,λi u b c hu hb hc=>?_⟩
  .rw[jG];refine⟨λx hx=>?_,nd,by simp,λi hi=>?_⟩
   .obtain⟨g1,g2⟩:=rng x hx;rw[aI];exact⟨g1,g2,by rw[dO,ad (by omega)]⟩
   .rw[aI] at hi;rw[aT,fq hi,dO,ad hi];by_cases e:(i:Int)∈s.free<;>simp[e]
  .have hi:=(aC.1 hu).1;rw[aT,fq hi] at hc;simp only[bX,bS] at hc;have hu':=used i hi;rw[hb] at hu';simp only[bS] at hu';obtain⟨q1,q2,q3⟩:=uses i u hu;refine⟨q1,q2,?_,λ⟨h1,h2⟩=>?_⟩
   .rw[<-hc,hu'];cases decide ((i:Int)∈s.free)<;>simp
   .subst h1;have:=q3 hb;omega
def jN (s:Slots)(fr:List Int)(i:Nat)(u:Int):Slots:=⟨s.uses.set i (u+1),s.used.set i true,fr⟩
def IN {s:Slots}(h:SFine s){fr:List Int}{i:Nat}{u:Int}(hf:s.free=fr++[(i:Int)])(hu:s.uses[i]?=some u)(hm:u<1000000):SFine (jN s fr i u):=by
 obtain⟨n1,n2,len,nd,rng,used,uses⟩:=h;have hi:=(aC.1 hu).1;rw[hf,ew] at nd;obtain⟨nd1,_,nd2⟩:=nd;have hni:(i:Int)∉fr:=λhm'=>nd2 _ hm' _ (by simp) rfl;unfold jN;refine⟨by simpa using n1,by simpa using n2,by simpa using len,nd1,λx hx=>?_,λj hj=>?_,λj v hv=>?_⟩
 .simp only[bK];exact rng x (by rw[hf];simp[hx])
 .simp only[bK] at hj|-;by_cases e:i=j
  .subst e;rw[bk (by omega)];simp[hni]
  .rw[bA e,used j hj,hf];have:((j:Int)∈fr++[(i:Int)])↔(j:Int)∈fr:=by
    simp only[b5,cC];exact⟨λh=>h.resolve_right (by omega),.inl⟩
   simp only[this]
 .simp only at hv|-;by_cases e:i=j
  .subst e;rw[bk hi] at hv;cases hv;obtain⟨q1,q2,_⟩:=uses i u hu;exact⟨by omega,by omega,λ_=>by omega⟩
  .rw[bA e] at hv|-;exact uses j v hv
def ZO {fr k:List Int}:RF.ev (.tsub 1) [sl I1 (fr++k),.v (.int .i64 0),.v (.int .i64 (fr.length:Int))]=some (sl I1 fr):=by
 have he:dU 1 ((fr++k).map I1)=true:=by
  cases h:fr++k with
  |nil=>rfl
  |cons a l=>simp[dU,bJ]
 rw[yc,ad ⟨by omega,by omega,by simp;omega,he,by decide⟩];simp
def wU {n:Nat}(h:n<1000000000):IntKind.i64.wrap (((n+1:Nat):Int)-1)=(n:Int):=rz h
def acr {fr:List Int}{i:Int}(hl:fr.length<=900):Ans D 314 [sl I1 (fr++[i])] [sl I1 fr,.i64 i]:=by
 have bn:RF.ev .bnd [.v (.int .i64 (fr.length:Int)),.v (.int .i64 ((fr.length+1:Nat):Int))]=some (.i64 (fr.length:Int)):=by rw[qf,ad ⟨by omega,by omega⟩]
 have hx:(fr++[i])[fr.length]?=some i:=by simp
 refine am ?_;unfold XL;simp only[EV,aj,aE,aS,wU (show fr.length<1000000000 by omega),bn,ZO,phi (acm (l:=fr) (by omega)),aO hx (bJ _),aL hx,cj,bm]
def uO (s:Slots):Bool:=match s.free.getLast? with
 |some x=>match s.uses[x.toNat]? with
  |some u=>decide (u<1000000)
  |none=>false
 |none=>false
def free_last {s:Slots}(h:SFine s):s.free=[]\/∃(fr:List Int) (i:Nat) (u:Int),s.free=fr++[(i:Int)]/\ s.uses[i]?=some u/\ fr.length<200/\ i<s.uses.length:=by
 rcases List.eq_nil_or_concat s.free with e|⟨fr,x,e⟩
 .exact .inl e
 .right
  rw[List.concat_eq_append] at e;have hx:=h.rng x (by rw[e];simp);have hb:=ic h.nd h.rng;rw[e,aE,aS] at hb;have:=h.n2;exact⟨fr,x.toNat,s.uses[x.toNat]'(by omega),by rw[e];congr 2;omega,ak _,by omega,by omega⟩
def Bn {s:Slots}{fr:List Int}{i:Nat}{u:Int}(h:s.free=fr++[(i:Int)])(hu:s.uses[i]?=some u):uO s=decide (u<1000000):=by
 unfold uO
 grind
def acs {s:Slots}(h:SFine s):Ans D 202 [SL s] [.bool (uO s)]:=by
 refine am ?_;unfold Wb;rcases free_last h with e|⟨fr,i,u,e,hu,h1,h2⟩
 .have:uO s=false:=by unfold uO;rw[e];rfl
  simp only[jq,iy,e,EV,this];rw[ac (by decide)];unfold Di;simp[EV]
 .have hx:(fr++[(i:Int)])[fr.length]?=some (i:Int):=by simp
  simp only[jq,iy,iw,e,EV,aj,aE,aS,wU (show fr.length<1000000000 by omega),aO hx (bJ _),aL hx,aO hu (bJ _),aL hu,cj,Bn e hu]
  rw[ad (aq (by omega))];unfold Di;simp only[EV]
def GT {s:Slots}(h:SFine s):SSm s:=⟨by have:=h.n2;omega,by have:=h.n2;have:=h.len;omega,by have:=ic h.nd h.rng;have:=h.n2;omega⟩
def act {s:Slots}(h:SFine s){fr:List Int}{i:Nat}{u:Int}(e:s.free=fr++[(i:Int)])(hu:s.uses[i]?=some u)(hm:u<1000000):Ans D 267 [SL s] [SL (jN s fr i u),HD ⟨i,u+1⟩]:=by
 have hi:=aK hu;have hb:=ic h.nd h.rng;have n2:=h.n2;rw[e,aE,aS] at hb;have hx:(fr++[(i:Int)])[fr.length]?=some (i:Int):=by simp
 have bn:RF.ev .bnd [.v (.int .i64 (fr.length:Int)),.v (.int .i64 ((fr.length+1:Nat):Int))]=some (.i64 (fr.length:Int)):=by rw[qf,ad ⟨by omega,by omega⟩]
 have wu:IntKind.i64.wrap (u+1)=u+1:=cz (by have:=(h.uses i u hu).1;omega) (by omega);have hu':(s.uses.set i (u+1))[i]?=some (u+1):=by rw[bk hi]
 have sb:RF.ev .sub [sl I1 (fr++[(i:Int)]),.v (.int .i64 0),.v (.int .i64 (fr.length:Int))]=some (sl I1 fr):=by
  rw[AK,ad (by simp;omega)];simp
 have s1:=bm (f:=I1) (l:=s.uses.set i (u+1));rw[bK] at s1;have s2:=bm (f:=B1) (l:=s.used.set i true);rw[bK] at s2;refine am ?_;unfold Xk;simp only[au,jq,phi (SJ (GT h)),iw,jV,iy,e,EV,aj,aE,aS,wU (show fr.length<1000000000 by omega),ixM (show fr.length<fr.length+1 by omega),aL hx,cj,bn,ixM hi,aL hu,wu,gt hi,ixM (show i<s.used.length by rw[h.len];exact hi),GE (show i<s.used.length by rw[h.len];exact hi),aL hu',s1,s2,sb]
 rfl
def Bo {s:Slots}(h:SFine s):gSl s=false:=by
 have:=h.n2;have:=h.len;have:=ic h.nd h.rng;unfold gSl
 grind
open Classical in
def acu {s:Slots}(h:SFine s){fr:List Int}{i:Nat}{u:Int}(e:s.free=fr++[(i:Int)])(hu:s.uses[i]?=some u)(hm:u<1000000):Ans D 257 [SL s] [SL (jN s fr i u),HD ⟨i,u+1⟩,.i64 0]:=by
 have hi:=aK hu;have hb:=ic h.nd h.rng;have n2:=h.n2;rw[e,aE,aS] at hb;have hc:=phi (Si (Bo h));rw[aq (gb.2 h)] at hc;have e0:okE true=0:=rfl;rw[e0] at hc;have wu:IntKind.i64.wrap (u+1)=u+1:=cz (by have:=(h.uses i u hu).1;omega) (by omega);have hu':(s.uses.set i (u+1))[i]?=some (u+1):=by rw[bk hi]
 have s1:=bm (f:=I1) (l:=s.uses.set i (u+1));rw[bK] at s1;have s2:=bm (f:=B1) (l:=s.used.set i true);rw[bK] at s2;refine am ?_;unfold W3;simp only[au,jq,hc,iw,jV,iy,EV,aj,az,aJ,aw,ax];have hne:¬((s.free.length:Nat):Int)=0:=by rw[e];simp;omega
 have c4:=phi (acr (fr:=fr) (i:=(i:Int)) (by omega));rw[<-e] at c4;simp only[hne,bb,aw,ax,au,c4,iw,aO hu (bJ _),aL hu,cj,EV,aa];rw[ac (by omega)];simp only[au,jq,phi (acn (GT h)),iw,jV,EV,aj,ixM (show i<s.used.length by rw[h.len];exact hi),GE (show i<s.used.length by rw[h.len];exact hi),ixM hi,aL hu,cj,wu,gt hi,aL hu',s1,s2]
 rfl
def nfree (n:Nat):List Int:=(List.range n).map λi:Nat=>((n-1-i:Nat):Int)
def ml (n:Nat):Slots:=⟨List.replicate n 0,List.replicate n false,nfree n⟩
def pZ {n i:Nat}(h:i<n):(nfree n)[i]?=some ((n-1-i:Nat):Int):=by
 unfold nfree
 grind
def eL (n:Nat):(nfree n).length=n:=by simp[nfree]
def zH {n:Nat}(h1:1<=n)(h2:n<=200):SFine (ml n):=by
 unfold ml;have hm:∀i:Nat,i<n->(i:Int)∈nfree n:=λi hi=>bg.2 ⟨n-1-i,de.2 (by omega),by omega⟩;refine⟨by simpa using h1,by simpa using h2,by simp,?_,λx hx=>?_,λi hi=>?_,λi u hu=>?_⟩
 .rw[List.Nodup,d6];intro i j hi hj hij e;have a:=pZ (n:=n) (i:=i) (by rw[eL] at hi;exact hi);have b:=pZ (n:=n) (i:=j) (by rw[eL] at hj;exact hj);rw[eL] at hi hj
  grind
 .obtain⟨k,hk,rfl⟩:=bg.1 hx
  grind
 .grind
 .grind
def GU {n i:Nat}(h:¬i<n):(nfree n)[i]?=none:=bI (by rw[eL];omega)
def Na (n i:Nat):(nfree n)[i]?=if i<n then some ((n-1-i:Nat):Int) else none:=by
 by_cases h:i<n
 .rw[ad h,pZ h]
 .rw[ac h,GU h]
def ZP {n i:Nat}(h:i<n):((nfree n).take i++List.replicate (n-i) 0).set i ((n-1-i:Nat):Int)=(nfree n).take (i+1)++List.replicate (n-(i+1)) 0:=by
 refine cB λk=>?_;simp only[List.getElem?_set,gn,dO,fS,aE,aI,aM,eL,Na,bv (show i<=n by omega),bv (show i+1<=n by omega)]
 repeat' split
 all_goals first|rfl|omega|(congr 1;omega)
def SN {n:Nat}(h:n<=1000):RF.ev (.rep [(.v (.bool false))] 1) [.v (.int .i64 (n:Int)),.v (.int .i64 (n:Int))]=some (sl B1 (List.replicate n false)):=by
 rw[Ie,ad ⟨by omega,by omega,by omega,by omega⟩,aG];unfold sl;rw[nD];rfl
def acv {n:Nat}(h1:1<=n)(h2:n<=200):Ans D 187 [.i64 (n:Int)] [SL (ml n),.i64 0]:=by
 refine an ⟨1001,?_⟩;unfold VT;simp only[EV,aa,bh];rw[ac (by omega),ac (by omega)];have r1:=oV (n:=n) (by omega);have r2:=SN (n:=n) (by omega);simp only[r1,r2,au,EV,aj,aI];have e0:([sl I1 (List.replicate n 0),PV.v (.int .i64 0)]:List PV)=[sl I1 ((nfree n).take 0++List.replicate (n-0) 0),.i64 ((0:Nat):Int)]:=by simp
 rw[e0];refine(dG (m:=1001) (n:=n) (st:=λi=>[sl I1 ((nfree n).take i++List.replicate (n-i) 0),.i64 (i:Int)]) (fin:=some [SL (ml n),.i64 0]) (λi self hi=>?_) (λself=>?_) (by omega))
 .have hlen:((nfree n).take i++List.replicate (n-i) 0).length=n:=by simp[eL];omega
  have w1:IntKind.i64.wrap ((n:Int)-1)=((n-1:Nat):Int):=by rw[cz (by omega) (by omega)];omega
  have w2:IntKind.i64.wrap (((n-1:Nat):Int)-(i:Int))=((n-1-i:Nat):Int):=by rw[cz (by omega) (by omega)];omega
  have st:=gt (l:=(nfree n).take i++List.replicate (n-i) 0) (i:=i) (by rw[hlen];exact hi) ((n-1-i:Nat):Int);rw[ZP hi] at st;unfold Db;simp only[EV,aa,bc hi,w1,w2,ixM hi,st,up1 (show i<1000000000 by omega)]
 .have e1:(nfree n).take n++List.replicate (n-n) 0=nfree n:=by rw[aZ (by rw[eL];omega)];simp
  have s0:=bm (f:=I1) (l:=List.replicate n (0:Int));have s1:=bm (f:=B1) (l:=List.replicate n false);have s2:=bm (f:=I1) (l:=nfree n);rw[aI] at s0 s1;rw[eL] at s2;unfold Db;simp only[EV,aa,bw,KC,e1,s0,s1,s2];rfl
def acw {n:Nat}(h1:1<=n)(h2:n<=200):Ans D 265 [.i64 (n:Int)] [SL (ml n)]:=by
 refine an ⟨1001,?_⟩;unfold Xi;have r1:=oV (n:=n) (by omega);have r2:=SN (n:=n) (by omega);have w1:IntKind.i64.wrap ((n:Int)-1)=(n:Int)-1:=cz (by omega) (by omega);simp only[r1,r2,au,EV,aj,aI,w1];have e0:([PV.sl [],PV.v (.int .i64 0),PV.v (.int .i64 ((n:Int)-1))]:List PV)=[sl I1 ((nfree n).take 0),.i64 ((0:Nat):Int),.i64 ((n:Int)-1-((0:Nat):Int))]:=by simp
 rw[e0];refine(dG (m:=1001) (n:=n) (st:=λk=>[sl I1 ((nfree n).take k),.i64 (k:Int),.i64 ((n:Int)-1-(k:Int))]) (fin:=some [SL (ml n)]) (λk self hk=>?_) (λself=>?_) (by omega))
 .have hlen:((nfree n).take k).length=k:=by rw[aM,eL];omega
  have ap:RF.ev (.app 8 1) [sl I1 ((nfree n).take k),.v (.int .i64 (k:Int)),sl I1 [(n:Int)-1-(k:Int)]]=some (sl I1 ((nfree n).take (k+1))):=by
   have:=fJ (f:=I1) (l:=(nfree n).take k) (k:=[(n:Int)-1-(k:Int)]) (bytes:=8) (z:=1) (by rw[hlen];simp;omega) bJ;rw[hlen] at this;rw[this,cd,pZ hk];have:((n-1-k:Nat):Int)=(n:Int)-1-(k:Int):=by omega
   rw[this];rfl
  have hlen':((nfree n).take (k+1)).length=k+1:=by rw[aM,eL];omega
  have hdn:IntKind.i64.wrap ((n:Int)-1-(k:Int)-1)=(n:Int)-1-((k+1:Nat):Int):=by rw[cz (by omega) (by omega)];omega
  unfold DL;simp only[EV,aa,be,ad (show(0:Int)<=(n:Int)-1-(k:Int) by omega),bsI,jJ,ap,aj,hlen',hdn]
 .have e1:(nfree n).take n=nfree n:=aZ (by rw[eL];omega);have s0:=bm (f:=I1) (l:=List.replicate n (0:Int));have s1:=bm (f:=B1) (l:=List.replicate n false);have s2:=bm (f:=I1) (l:=nfree n);rw[aI] at s0 s1;rw[eL] at s2;unfold DL;simp only[EV,aa,be,ac (show¬(0:Int)<=(n:Int)-1-(n:Int) by omega),Lu,e1,s0,s1,s2]
  rfl
def lA (n:Nat):Agenda:=⟨ml n,[],List.replicate n (-1)⟩
def acx {n:Nat}(h1:1<=n)(h2:n<=200):Ans D 199 [.i64 (n:Int)] [AG (lA n)]:=by
 refine an ⟨1001,?_⟩;unfold V8;simp only[phi (acw h1 h2),au,jq,EV];have e0:([PV.sl [],PV.v (.int .i64 0),PV.v (.int .i64 0)]:List PV)=[sl I1 (List.replicate 0 (-1)),.i64 ((0:Nat):Int),.i64 ((0:Nat):Int)]:=by simp
 rw[e0];refine(dG (m:=1001) (n:=n) (st:=λk=>[sl I1 (List.replicate k (-1)),.i64 (k:Int),.i64 (k:Int)]) (fin:=some [AG (lA n)]) (λk self hk=>?_) (λself=>?_) (by omega))
 .have ap:RF.ev (.app 8 1) [sl I1 (List.replicate k (-1)),.v (.int .i64 (k:Int)),sl I1 [-1]]=some (sl I1 (List.replicate (k+1) (-1))):=by
   have:=fJ (f:=I1) (l:=List.replicate k (-1)) (k:=[-1]) (bytes:=8) (z:=1) (by simp;omega) bJ;rw[aI] at this;rw[this,sO]
  unfold Dh;simp only[EV,aa,bc hk,bsI,jJ,ap,aj,aI,up1 (show k<1000000000 by omega)]
 .have s0:=bm (f:=I1) (l:=List.replicate n (-1:Int));rw[aI] at s0;have pS:RF.ev (.part 0 3) [SL (ml n)]=some (SL (ml n)):=rfl;unfold Dh;simp only[EV,aa,bw,KO,s0,au,pS];rfl
def rpt (n k:Nat):List Int:=List.replicate k (-1)++List.replicate (n-k) 0
def Qq {n k:Nat}(h:k<=n):(rpt n k).length=n:=by unfold rpt;simp;omega
def Nb {n k m:Nat}(h:k+m<=n):(rpt n k).take k++List.replicate m (-1)++(rpt n k).drop (k+m)=rpt n (k+m):=by
 unfold rpt;rw[f8 (by simp),kN,db (l:=List.replicate k (-1)) (by simp)];simp only[aI,bV,List.drop_replicate,aX];rw[<-aX,lr]
 congr 2
 omega
def Nc {L S:List Int}{k:Nat}(h:k<=L.length):RF.ev (.appK 0 1) [sl I1 L,.v (.int .i64 (k:Int)),sl I1 S]=some (sl I1 (L.take k++S++L.drop (k+S.length))):=by
 have he:dU 1 (S.map I1)=true:=by
  cases S with
  |nil=>rfl
  |cons a k=>simp[dU,bJ]
 show(if(0:Int)<=k/\(k:Int)<=((L.map I1).length:Nat)/\((k:Int).toNat+(S.map I1).length)*0<=140737488355328/\ dU 1 (S.map I1)=true then some (PV.sl ((L.map I1).take (k:Int).toNat++S.map I1++(L.map I1).drop ((k:Int).toNat+(S.map I1).length))) else none)=_
 simp_all
def SO {L:List Int}{k:Nat}(h:k<=L.length):RF.ev .sub [sl I1 L,.v (.int .i64 0),.v (.int .i64 (k:Int))]=some (sl I1 (L.take k)):=by
 rw[AK,ad (by simp;omega)];simp
def Bp {N n:Nat}(hn:n<=1000){f0:JT}{e0 e1 e2 e3 e4 e5 e6 e7 e8 e9 e10 e12 e13 e14 e15 e16:PV}:∀(r k m:Nat),n-k<=r->r<m->1<=k->k<=n->
  denW (PhiS D) N qL [f0] [e0,e1,e2,e3,e4,e5,e6,e7,e8,e9,e10,.i64 (n:Int),e12,e13,e14,e15,e16] m [sl I1 (rpt n k),.i64 (k:Int)]=f0 [sl I1 (rpt n n)]
 |0,k,m,h,hm,h1,h2=>by
  obtain⟨m,rfl⟩:∃m',m=m'+1:=⟨m-1,by omega⟩;have:k=n:=by omega
  subst this;rw[bG];unfold qL;simp[EV]
 |r+1,k,m,h,hm,h1,h2=>by
  obtain⟨m,rfl⟩:∃m',m=m'+1:=⟨m-1,by omega⟩;by_cases hk:k=n
  .subst hk;rw[bG];unfold qL;simp[EV]
  .have ih:=Bp (N:=N) hn (f0:=f0) (e0:=e0) (e1:=e1) (e2:=e2) (e3:=e3) (e4:=e4) (e5:=e5) (e6:=e6) (e7:=e7) (e8:=e8) (e9:=e9) (e10:=e10) (e12:=e12) (e13:=e13) (e14:=e14) (e15:=e15) (e16:=e16) r (k+min (n-k) k) m (by omega) (by omega) (by omega) (by omega);have bn:RF.ev .bnd [.v (.int .i64 (k:Int)),.v (.int .i64 (n:Int))]=some (.i64 (k:Int)):=by rw[qf,ad ⟨by omega,by omega⟩]
   have dd:(n:Int)-(k:Int)=((n-k:Nat):Int):=by omega
   have hl:=Qq (n:=n) h2;have tk:(rpt n k).take k=List.replicate k (-1):=by unfold rpt;exact f8 (by simp)
   have s1:=SO (L:=rpt n k) (k:=k) (by omega);rw[tk] at s1;have a1:RF.ev (.appK 0 1) [.sl [],.v (.int .i64 0),sl I1 (List.replicate k (-1))]=some (sl I1 (List.replicate k (-1))):=by
    have:=Nc (L:=[]) (S:=List.replicate k (-1)) (k:=0) (by simp);simp at this;exact this
   have mm:RF.ev (.mm false) [.v (.int .i64 ((n-k:Nat):Int)),.v (.int .i64 (k:Int))]=some (.i64 ((min (n-k) k:Nat):Int)):=by
    rw[mmN];congr 3;omega
   have s2:=SO (L:=List.replicate k (-1)) (k:=min (n-k) k) (by simp;omega);rw[List.take_replicate,show min (min (n-k) k) k=min (n-k) k by omega] at s2
   have a2:=Nc (L:=rpt n k) (S:=List.replicate (min (n-k) k) (-1)) (k:=k) (by omega);rw[aI,Nb (by omega)] at a2;have wk:IntKind.i64.wrap ((k:Int)+((min (n-k) k:Nat):Int))=((k+min (n-k) k:Nat):Int):=by rw[cz (by omega) (by omega)];omega
   rw[bG];generalize hkk:qL=kk at ih;subst hkk;unfold qL;simp only[EV,aa];rw[ad (by omega)];simp[EV,bn,dd,s1,a1,mm,s2,a2,wk];exact ih
def acy {x y:Nat}(hx:x<18446744073709551616)(hy:y<18446744073709551616):Ans D 245 [U x,U y] [U (x*y/18446744073709551616),U (x*y% 18446744073709551616)]:=by
 refine am ?_;unfold WZ;simp[EV,phi (MI hx hy)]
def SP {n:Nat}(h1:1<=n)(h2:n<=1000):Ans D 184 [sl I1 [-1],.i64 (n:Int)] [sl I1 (List.replicate n (-1))]:=by
 have m1:=phi (acy (x:=1) (y:=n) (by omega) (by omega));rw[Nat.one_mul,Nat.div_eq_of_lt (by omega),Nat.mod_eq_of_lt (by omega)] at m1;have cu:IntKind.u64.wrap (n:Int)=(n:Int):=wu (by omega);have cu1:IntKind.u64.wrap ((1:Nat):Int)=((1:Nat):Int):=wu (by omega);have ci:IntKind.i64.wrap (n:Int)=(n:Int):=cz (by omega) (by omega);have r1:=oV (n:=n) h2;have a1:RF.ev (.appK 0 1) [.sl [],.v (.int .i64 0),sl I1 [-1]]=some (sl I1 [-1]):=rfl;have mm:RF.ev (.mm false) [.v (.int .i64 (n:Int)),.v (.int .i64 ((1:Nat):Int))]=some (.i64 ((1:Nat):Int)):=by
  rw[mmN];congr 3;omega
 have s2:RF.ev .sub [sl I1 [-1],.v (.int .i64 0),.v (.int .i64 ((1:Nat):Int))]=some (sl I1 [-1]):=rfl;have a2:=Nc (L:=List.replicate n 0) (S:=[-1]) (k:=0) (by simp);have e2:(List.replicate n (0:Int)).take 0++[-1]++(List.replicate n (0:Int)).drop (0+[(-1:Int)].length)=rpt n 1:=by
  unfold rpt;simp
 rw[e2] at a2;have a2:RF.ev (.appK 0 1) [sl I1 (List.replicate n 0),.v (.int .i64 0),sl I1 [-1]]=some (sl I1 (rpt n 1)):=a2;refine an ⟨1001,?_⟩;unfold VP;simp only[EV,aa];rw[ac (by omega)];have cu1':IntKind.u64.wrap (([[PV.i64 (-1)]].length:Nat):Int)=((1:Nat):Int):=cu1;simp only[EV,aj,aS,cu,cu1];have m1:PhiS D 245 [.v (.int .u64 ((1:Nat):Int)),.v (.int .u64 (n:Int))]=some [U 0,U n]:=m1;simp only[m1,au,EV,U,aa];rw[ac (by decide)];unfold Kw;simp only[EV];have g0:decide ((n:Int)>9223372036854775807)=false:=ai (by omega);simp only[g0,aw,ax,EV,ci,r1,aj,aI,a1,aS,mm,s2,a2,au];refine(Bp (N:=1001) (n:=n) h2 n 1 1001 (by omega) (by omega) (by omega) h1).trans ?_;have e3:rpt n n=List.replicate n (-1):=by unfold rpt;simp
 have s3:=bm (f:=I1) (l:=List.replicate n (-1:Int));rw[aI] at s3;unfold Kv;simp only[EV,e3,s3]
def O5 (l:List Int):RF.ev .flatL [sl I1 l]=some (sl I1 l):=by
 have:(l.map I1).flatten.all isV=true:=by
  induction l with
  |nil=>rfl
  |cons a l ih=>simp[I1,isV]
 show(if _ then _ else _)=_
 grind
def pSL (s:Slots):RF.ev (.part 0 3) [SL s]=some (SL s):=rfl
def acz {n:Nat}(h1:1<=n)(h2:n<=200):Ans D 125 [.i64 (n:Int)] [AG (lA n),.i64 0]:=by
 have s3:=bm (f:=I1) (l:=List.replicate n (-1:Int));rw[aI] at s3;refine am ?_;unfold Un;simp only[phi (acv h1 h2),jq,EV,bsI,jJ,phi (SP (n:=n) h1 (by omega)),aj,aI,pSL,O5,s3];rfl
def mn (c:Certs)(x:Crt):Certs:=⟨c.next+1,c.list++[⟨c.next,x⟩]⟩
def IP {c:Certs}{x:Crt}(h:cU c)(hx:x.ok)(hn:∀g∈c.list,g.cert≠x)(h1:c.list.length<200)(h2:c.next<1000000):cU (mn c x):=by
 obtain⟨a1,a2,a3,a4⟩:=h;unfold mn;refine⟨by simp;omega,by simp only;omega,by simp only;omega,λi g hg=>?_⟩;simp only at hg|-;by_cases e:i<c.list.length
 .rw[aH e] at hg;obtain⟨q1,q2,q3,q4,q5⟩:=a4 i g hg;refine⟨q1,q2,by omega,λg' h0 hg'=>?_,λk hk g' hg'=>?_⟩
  .rw[aH (by omega)] at hg';exact q4 g' h0 hg'
  .rw[aH (by omega)] at hg';exact q5 k hk g' hg'
 .have hi:i=c.list.length:=by
   have:=aK hg;simp at this;omega
  subst hi;rw[bC (aD _),fe] at hg;simp only[jS,bS] at hg;subst hg;refine⟨hx,a2,by simp only;omega,λg' h0 hg'=>?_,λk hk g' hg'=>?_⟩
  .rw[aH (by omega)] at hg';exact(a4 _ g' hg').2.2.1
  .rw[aH hk] at hg';exact hn g' (aB hg')
def O6 (n:Int)(x:Crt):RF.ev .agg [.i64 n,CP x]=some (HP ⟨n,x⟩):=rfl
def bsH (h:Held):RF.ev (.bs 1 [KP.z,KP.z,KP.z] [0]) [HP h]=some (sl hrow [h]):=rfl
def O7 (h:Held):RF.ev .sub [sl hrow [h],.v (.int .i64 0),.v (.int .i64 1)]=some (sl hrow [h]):=rfl
def IQ (n:Int)(l:List Held):RF.ev .agg [.i64 n,sl hrow l]=some (CS ⟨n,l⟩):=rfl
def pCP (x:Crt):RF.ev (.part 0 2) [CP x]=some (CP x):=rfl
def SQ {c:Certs}{x:Crt}(h:c.list.length<200):RF.ev (.app 24 3) [sl hrow c.list,.v (.int .i64 (c.list.length:Int)),sl hrow [⟨c.next,x⟩]]=some (sl hrow (c.list++[⟨c.next,x⟩])):=
 fJ (f:=hrow) (l:=c.list) (k:=[⟨c.next,x⟩]) (bytes:=24) (z:=3) (by simp;omega) eV
open Classical in
def acA {c:Certs}{x:Crt}(h:cU c)(hx:x.ok)(hn:∀g∈c.list,g.cert≠x)(h1:c.list.length<200)(h2:c.next<1000000):Ans D 201 [CS c,CP x] [CS (mn c x),.i64 c.next,.i64 0]:=by
 have e0:okE true=0:=rfl;have m1:=phi (Sc c);rw[aq h,e0] at m1;have m2:=phi (Sa x);rw[aq hx] at m2;have m3:=phi (MW (c:=c) (x:=x) (by omega));rw[show(c.list.any λh=>decide (h.cert=x))=false from by rw[j7];intro g hg;simpa using hn g hg] at m3
 have w:IntKind.i64.wrap (c.next+1)=c.next+1:=cz (by have:=h.2.1;omega) (by omega);have s1:=bm (f:=hrow) (l:=c.list++[⟨c.next,x⟩]);refine am ?_;unfold Wa;simp[im,kx,m1,m2,m3,l9,eb,EV];rw[ac (by omega),ac (by omega)];simp only[phi (SI (c:=c) (by omega)),im,l9,eb,pCP,O6,bsH,O7,EV,aj,SQ h1,w,s1,IQ];rfl
open Classical in
def acB {c:Certs}{x:Crt}(h:cU c)(hx:x.ok)(hn:∀g∈c.list,g.cert≠x)(h1:c.list.length<200)(h2:c.next<1000000):Ans D 192 [CS c,CP x] [CS (mn c x),.i64 c.next,.i64 0]:=by
 have e0:okE true=0:=rfl;have m1:=phi (GH (c:=c) (by omega));rw[aq h,e0] at m1;have m2:=phi (Sb x);rw[aq hx] at m2;have w:IntKind.i64.wrap (c.next+1)=c.next+1:=cz (by have:=h.2.1;omega) (by omega);have s1:=bm (f:=hrow) (l:=c.list++[⟨c.next,x⟩]);refine an ⟨1001,?_⟩;unfold VV;simp only[au,im,kx,m1,m2,eb,EV,aj,az,aJ,aw,ax];refine(b9 (m:=1001) (l:=c.list) (p:=λg=>!decide (g.cert=x)) (st:=λi=>[.i64 (i:Int)]) (r:=none) (fin:=some [CS (mn c x),.i64 c.next,.i64 0]) (λi g self hg _=>?_) (λhall self=>?_) (by omega)).trans ?_
 .unfold Dc;simp only[au,eb,aO hg (eV _),aL hg,jn,pHP,tg,EV,aa,bc (aK hg),up1 (show i<1000000000 by have:=aK hg;omega)]
  grind
 .unfold Dc KD;simp only[au,l9,eb,EV,aj,aa,bw];rw[ac (by decide),ac (by omega),ac (by omega)];simp only[au,phi (GP (l:=c.list) (by omega)),l9,eb,pCP,O6,bsH,O7,EV,aj,SQ h1,w,s1,IQ];rfl
 .grind
structure Plc (s:Slots)(hp:List Evt)(wh:List Int):Prop where
 len:wh.length=s.uses.length
 at_:∀(k:Nat) (e:Evt),hp[k]?=some e->∃(j:Nat) (u:Int),e.hnd=⟨(j:Int),u⟩/\ s.used[j]?=some true/\ s.uses[j]?=some u/\ wh[j]?=some (k:Int)
 of_:∀j:Nat,s.used[j]?=some true->∃(k:Nat) (e:Evt) (u:Int),wh[j]?=some (k:Int)/\ hp[k]?=some e/\ s.uses[j]?=some u/\ e.hnd=⟨(j:Int),u⟩
 off:∀j:Nat,s.used[j]?=some false->wh[j]?=some (-1)
def cy {α:Type}{l:List α}{i:Nat}{a:α}(h:l[i]?=some a):i<l.length:=(aC.1 h).1
def Bq {s:Slots}{hp:List Evt}{wh:List Int}(h:Plc s hp wh){i k:Nat}{e f:Evt}(hi:hp[i]?=some e)(hk:hp[k]?=some f)(hne:i≠k):
  Plc s ((hp.set i f).set k e) ((wh.set f.hnd.index.toNat (i:Int)).set e.hnd.index.toNat (k:Int)):=by
 obtain⟨je,ue,e1,e2,e3,e4⟩:=h.at_ i e hi;obtain⟨jf,uf,f1,f2,f3,f4⟩:=h.at_ k f hk;have hi':=cy hi;have hk':=cy hk;have we:=cy e4;have wf:=cy f4;have hj:je≠jf:=λq=>by
  grind
 rw[e1,f1];simp only[aG];have W:∀j:Nat,((wh.set jf (i:Int)).set je (k:Int))[j]?=if j=je then some (k:Int) else if j=jf then some (i:Int) else wh[j]?:=λj=>by
  grind
 have P:∀m:Nat,((hp.set i f).set k e)[m]?=if m=k then some e else if m=i then some f else hp[m]?:=λm=>by
  grind
 refine⟨by simpa using h.len,λm g hg=>?_,λj hu=>?_,λj hu=>?_⟩
 .rw[P] at hg;by_cases a:m=k
  .subst a;rw[ad rfl] at hg;cases hg;exact⟨je,ue,e1,e2,e3,by rw[W,ad rfl]⟩
  .rw[ac a] at hg;by_cases b:m=i
   .subst b;rw[ad rfl] at hg;cases hg;exact⟨jf,uf,f1,f2,f3,by rw[W,ac (λq=>hj q.symm),ad rfl]⟩
   .rw[ac b] at hg;obtain⟨j,u,g1,g2,g3,g4⟩:=h.at_ m g hg;refine⟨j,u,g1,g2,g3,?_⟩;rw[W,ac,ac,g4]
    .rintro rfl;rw[f4] at g4;simp only[bS] at g4;omega
    .rintro rfl;rw[e4] at g4;simp only[bS] at g4;omega
 .by_cases a:j=je
  .subst a;exact⟨k,e,ue,by rw[W,ad rfl],by rw[P,ad rfl],e3,e1⟩
  .by_cases b:j=jf
   .subst b;exact⟨i,f,uf,by rw[W,ac a,ad rfl],by rw[P,ac hne,ad rfl],f3,f1⟩
   .obtain⟨m,g,u,g1,g2,g3,g4⟩:=h.of_ j hu;refine⟨m,g,u,by rw[W,ac a,ac b,g1],?_,g3,g4⟩;rw[P,ac,ac,g2]
    .rintro rfl;rw[hi] at g2;cases g2;rw[e1] at g4;simp only[Hnd.mk.injEq] at g4;omega
    .rintro rfl;rw[hk] at g2;cases g2;rw[f1] at g4;simp only[Hnd.mk.injEq] at g4;omega
 .have a:j≠je:=λq=>by subst q;rw[e2] at hu;cases hu
  have b:j≠jf:=λq=>by subst q;rw[f2] at hu;cases hu
  rw[W,ac a,ac b];exact h.off j hu
def wa {s:Slots}(hs:SFine s){hp:List Evt}{wh:List Int}(h:Plc s hp wh){fr:List Int}{i:Nat}{u:Int}{x:Evt}(e:s.free=fr++[(i:Int)])(hu:s.uses[i]?=some u)(hx:x.hnd=⟨(i:Int),u+1⟩):
  Plc (jN s fr i u) (hp++[x]) (wh.set i (hp.length:Int)):=by
 have hi:=cy hu;have hui:s.used[i]?=some false:=by rw[hs.used i hi,e];simp
 have hul:=cy hui;have hw:i<wh.length:=by rw[h.len];exact hi
 have U:∀j:Nat,(s.used.set i true)[j]?=if j=i then some true else s.used[j]?:=λj=>by
  grind
 have V:∀j:Nat,(s.uses.set i (u+1))[j]?=if j=i then some (u+1) else s.uses[j]?:=λj=>by
  grind
 have W:∀j:Nat,(wh.set i (hp.length:Int))[j]?=if j=i then some (hp.length:Int) else wh[j]?:=λj=>by
  grind
 unfold jN;refine⟨by simpa using h.len,λm g hg=>?_,λj hj=>?_,λj hj=>?_⟩
 .by_cases a:m<hp.length
  .rw[aH a] at hg;obtain⟨j,v,g1,g2,g3,g4⟩:=h.at_ m g hg;have b:j≠i:=λq=>by subst q;rw[hui] at g2;cases g2
   exact⟨j,v,g1,by simp only[U,ac b,g2],by simp only[V,ac b,g3],by simp only[W,ac b,g4]⟩
  .have hm:=cy hg;rw[aE,aS] at hm;have:m=hp.length:=by omega
   subst this;rw[bC (aD _),fe] at hg;simp only[jS,bS] at hg;subst hg;exact⟨i,u+1,hx,by simp only[U,ay],by simp only[V,ay],by simp only[W,ay]⟩
 .simp only[U] at hj;by_cases a:j=i
  .subst a;exact⟨hp.length,x,u+1,by simp only[W,ay],by simp,by simp only[V,ay],hx⟩
  .rw[ac a] at hj;obtain⟨k,g,v,g1,g2,g3,g4⟩:=h.of_ j hj;exact⟨k,g,v,by simp only[W,ac a,g1],by rw[aH (cy g2)];exact g2,by simp only[V,ac a,g3],g4⟩
 .simp only[U] at hj;by_cases a:j=i
  .subst a;rw[ad rfl] at hj;cases hj
  .rw[ac a] at hj;simp only[W,ac a];exact h.off j hj
def kD (hp:List Evt)(i k:Nat)(e f:Evt):List Evt:=(hp.set i f).set k e
def qt (wh:List Int)(i k:Nat)(e f:Evt):List Int:=(wh.set f.hnd.index.toNat (i:Int)).set e.hnd.index.toNat (k:Int)
def upS:Nat->List Evt->List Int->Nat->List Evt×List Int×Nat
 |0,hp,wh,i=>(hp,wh,i)
 |n+1,hp,wh,i=>match hp[i]?,hp[(i-1)/2]? with
  |some e,some p=>if 0<i/\ evLess e p=true then upS n (kD hp i ((i-1)/2) e p) (qt wh i ((i-1)/2) e p) ((i-1)/2) else(hp,wh,i)
  |_,_=>(hp,wh,i)
def Ao (hp:List Evt)(i:Nat):Prop:=
 (∀(c:Nat) (e p:Evt),0<c->c≠i->hp[c]?=some e->hp[(c-1)/2]?=some p->evLess e p=false)/\
 ∀(c:Nat) (e p:Evt),0<i->0<c->(c-1)/2=i->hp[c]?=some e->hp[(i-1)/2]?=some p->evLess e p=false
def Ord (hp:List Evt):Prop:=∀(c:Nat) (e p:Evt),0<c->hp[c]?=some e->hp[(c-1)/2]?=some p->evLess e p=false
def swp_get {hp:List Evt}{i k:Nat}{e f:Evt}(hi:hp[i]?=some e)(hk:hp[k]?=some f)(m:Nat):(kD hp i k e f)[m]?=if m=k then some e else if m=i then some f else hp[m]?:=by
 unfold kD
 grind
def Br {hp:List Evt}{i k:Nat}{e f:Evt}(hi:hp[i]?=some e)(hk:hp[k]?=some f):(kD hp i k e f).Perm hp:=by
 unfold kD
 grind
def Nd {hp:List Evt}{i:Nat}{e p:Evt}(hr:∀x∈hp,rok x.time=true)(ho:Ao hp i)(h0:0<i)(hi:hp[i]?=some e)(hp':hp[(i-1)/2]?=some p)(hl:evLess e p=true):Ao (kD hp i ((i-1)/2) e p) ((i-1)/2):=by
 obtain⟨o1,o2⟩:=ho;have re:=hr e (aB hi);have rp:=hr p (aB hp');have G:=swp_get hi hp';refine⟨λc x q c0 cn hx hq=>?_,λc x q k0 c0 hc hx hq=>?_⟩
 .rw[G] at hx hq;rw[ac cn] at hx;by_cases a:c=i
  .subst a;rw[ad rfl] at hx hq;cases hx;cases hq;exact Bk hl
  .rw[ac a] at hx;by_cases b:(c-1)/2=(i-1)/2
   .rw[ad b] at hq;cases hq;have:=o1 c x p c0 a hx (by rw[b];exact hp');exact IM re rp (hr x (aB hx)) hl this
   .rw[ac b] at hq;by_cases d:(c-1)/2=i
    .rw[ad d] at hq;cases hq;exact o2 c x p h0 c0 d hx hp'
    .rw[ac d] at hq;exact o1 c x q c0 a hx hq
 .rw[G] at hx hq;rw[ac (by omega)] at hx;rw[ac (by omega),ac (by omega)] at hq;have up:=o1 ((i-1)/2) p q k0 (by omega) hp' hq;by_cases a:c=i
  .subst a;rw[ad rfl] at hx;cases hx;exact up
  .rw[ac a] at hx;have:=o1 c x p c0 a hx (by rw[hc];exact hp');exact GS (hr x (aB hx)) rp (hr q (aB hq)) this up
def Bt {s:Slots}:∀(n:Nat) (hp:List Evt) (wh:List Int) (i:Nat),i<=n->i<hp.length->(∀x∈hp,rok x.time=true)->Ao hp i->Plc s hp wh->
  Ord (upS n hp wh i).1/\(upS n hp wh i).1.Perm hp/\ Plc s (upS n hp wh i).1 (upS n hp wh i).2.1/\(upS n hp wh i).1[(upS n hp wh i).2.2]?=hp[i]?/\(upS n hp wh i).2.2<=i
 |0,hp,wh,i,hn,hi,hr,ho,hP=>by
  have:i=0:=by omega
  subst this;exact⟨λc e p c0 he hp'=>ho.1 c e p c0 (by omega) he hp',.refl _,hP,rfl,aD _⟩
 |n+1,hp,wh,i,hn,hi,hr,ho,hP=>by
  obtain⟨e,he⟩:∃e,hp[i]?=some e:=⟨hp[i],ak _⟩;obtain⟨p,hp'⟩:∃p,hp[(i-1)/2]?=some p:=⟨hp[(i-1)/2]'(by omega),ak _⟩;unfold upS;rw[he,hp'];simp only;by_cases hc:0<i/\ evLess e p=true
  .rw[ad hc];obtain⟨h0,hl⟩:=hc;have pm:=Br he hp';obtain⟨q1,q2,q3,q4,q5⟩:=Bt n (kD hp i ((i-1)/2) e p) (qt wh i ((i-1)/2) e p) ((i-1)/2) (by omega) (by rw[pm.length_eq];omega) (λx hx=>hr x (pm.mem_iff.1 hx)) (Nd hr ho h0 he hp' hl) (Bq hP he hp' (by omega));refine⟨q1,q2.trans pm,q3,?_,by omega⟩;rw[q4,swp_get he hp',ad rfl]
  .rw[ac hc];refine⟨λc x q c0 hx hq=>?_,.refl _,hP,he,aD _⟩;by_cases a:c=i
   .subst a;rw[he] at hx;cases hx;rw[hp'] at hq;cases hq;cases hl:evLess e p with
    |false=>rfl
    |true=>exact absurd ⟨c0,hl⟩ hc
   .exact ho.1 c x q c0 a hx hq
def tz {α:Type}(p:α->Bool):∀l:List α,l.length=(l.filter p).length+(l.filter λx=>!p x).length
 |[]=>rfl
 |a::l=>by
  have:=tz p l;rw[cS,cS];cases p a<;>simp<;>omega
def wV {a:Agenda}(hs:SFine a.slots)(hp:m9 a):Plc a.slots a.heap a.wher:=by
 obtain⟨p1,p2,p3⟩:=hp;have hlen:=hs.len;have get:∀j:Nat,j<a.slots.uses.length->∃b w u,a.slots.used[j]?=some b/\ a.wher[j]?=some w/\ a.slots.uses[j]?=some u:=λj hj=>
  ⟨_,_,_,ak (by omega),ak (by omega),ak hj⟩
 have of_:∀j:Nat,a.slots.used[j]?=some true->∃(k:Nat) (e:Evt) (u:Int),a.wher[j]?=some (k:Int)/\ a.heap[k]?=some e/\ a.slots.uses[j]?=some u/\ e.hnd=⟨(j:Int),u⟩:=λj hj=>by
  grind
 refine⟨p1,λk e hk=>?_,of_,λj hj=>?_⟩
 ·
  let W:Nat->Nat:=λj=>((a.wher[j]?).getD 0).toNat
  let U:Nat->Bool:=λj=>decide (a.slots.used[j]?=some true)
  have hnd:(((List.range a.slots.uses.length).filter U).map W).Nodup:=by
   rw[List.Nodup,nV];refine List.Pairwise.imp_of_mem (R:=λx y=>x≠y) (λ{x y} hx hy hne=>?_) (List.nodup_range.filter _);intro h;obtain⟨k1,e1,u1,g1,g2,_,g4⟩:=of_ x (by have:=(cq.1 hx).2;exact aU this);obtain⟨k2,e2,u2,f1,f2,_,f4⟩:=of_ y (by have:=(cq.1 hy).2;exact aU this);simp only[W,g1,f1,cp,aG] at h;subst h;rw[g2] at f2;cases f2;rw[g4] at f4;simp only[Hnd.mk.injEq] at f4;omega
  have hsub:∀x∈((List.range a.slots.uses.length).filter U).map W,x∈List.range a.heap.length:=λx hx=>by
   obtain⟨j,hj,rfl⟩:=bg.1 hx;obtain⟨k1,e1,u1,g1,g2,_,g4⟩:=of_ j (by have:=(cq.1 hj).2;exact aU this);simp only[W,g1,cp,aG,de];exact cy g2
  have hfree:((List.range a.slots.uses.length).filter λj=>!U j).length<=a.slots.free.length:=by
   have:=zn (l:=((List.range a.slots.uses.length).filter λj=>!U j).map λj:Nat=>(j:Int)) (k:=a.slots.free) (by
    rw[List.Nodup,nV];exact(List.nodup_range.filter _).imp λh e=>h (by omega)) (λx hx=>by
     obtain⟨j,hj,rfl⟩:=bg.1 hx;obtain⟨h1,h2⟩:=cq.1 hj;rw[de] at h1;have hu:=hs.used j h1;simp only[U,aA,ah] at h2;by_cases hm:(j:Int)∈a.slots.free
     .exact hm
     .exact absurd (by rw[hu];simp[hm]) h2)
   simpa using this
  have hsplit:=tz U (List.range a.slots.uses.length);rw[il] at hsplit;have hperm:=jD hnd hsub (by rw[il,aj];omega);have hk':k∈((List.range a.slots.uses.length).filter U).map W:=hperm.mem_iff.2 (de.2 (cy hk));obtain⟨j,hj,hjk⟩:=bg.1 hk';have hju:a.slots.used[j]?=some true:=by have:=(cq.1 hj).2;exact aU this
  obtain⟨k1,e1,u1,g1,g2,g3,g4⟩:=of_ j hju;simp only[W,g1,cp,aG] at hjk;subst hjk;rw[hk] at g2;cases g2;exact⟨j,u1,g4,hju,g3,g1⟩
 .obtain⟨b,w,u,h1,h2,h3⟩:=get j (by have:=cy hj;omega);have:=p3 j false w u hj h2 h3;rw[ac (by simp)] at this;rw[h2,this]
def ST {a:Agenda}(h:Plc a.slots a.heap a.wher)(hl:a.heap.length+a.slots.free.length=a.slots.uses.length):m9 a:=by
 refine⟨h.len,hl,λj b w u hb hw hu=>?_⟩;cases b with
 |true=>
  obtain⟨k,e,v,g1,g2,g3,g4⟩:=h.of_ j hb
  grind
 |false=>
  have:=h.off j hb
  grind
def fX (a:Agenda)(fr:List Int)(i:Nat)(u:Int)(t:Rt)(n:Int):Agenda:=
 let r:=upS (a.heap.length+1) (a.heap++[⟨t,n,⟨i,u+1⟩⟩]) (a.wher.set i (a.heap.length:Int)) a.heap.length
 ⟨jN a.slots fr i u,r.1,r.2.1⟩
def Bu {a:Agenda}(h:gi a):Ord a.heap:=λc e p c0 he hp=>by
 have:=h.2.2.2.2 (c-1) e p (by rw[show c-1+1=c by omega];exact he) hp
 exact this
def uP {a:Agenda}(h:gi a){fr:List Int}{i:Nat}{u:Int}(hf:a.slots.free=fr++[(i:Int)])(hu:a.slots.uses[i]?=some u)(hm:u<1000000){t:Rt}{n:Int}(hx:rok t=true/\ 0<=n/\ n<=1000000)(hn:n∉a.heap.map (·.number)):
  gi (fX a fr i u t n)/\(fX a fr i u t n).heap.Perm (a.heap++[⟨t,n,⟨i,u+1⟩⟩])/\(fX a fr i u t n).wher.length=a.wher.length:=by
 have hs:=gb.1 h.1;have hP:=wV hs h.2.1;have hP':=wa hs hP hf hu (x:=⟨t,n,⟨i,u+1⟩⟩) rfl;have hs':=IN hs hf hu hm;have hl:=h.2.1.2.1;have hr:∀x∈a.heap++[(⟨t,n,⟨i,u+1⟩⟩:Evt)],nK x:=λx hx'=>by
  rcases b5.1 hx' with h1|h1
  .exact h.2.2.1 x h1
  .rw[cC] at h1;subst h1;exact hx
 have hex:Ao (a.heap++[⟨t,n,⟨i,u+1⟩⟩]) a.heap.length:=by
  refine⟨λc e p c0 cn he hp=>?_,λc e p _ c0 hc he _=>?_⟩
  .have h1:=cy he;rw[aE,aS] at h1;rw[aH (by omega)] at he hp;exact Bu h c e p c0 he hp
  .grind
 obtain⟨q1,q2,q3,_,_⟩:=Bt (s:=jN a.slots fr i u) (a.heap.length+1) (a.heap++[⟨t,n,⟨i,u+1⟩⟩]) (a.wher.set i (a.heap.length:Int)) a.heap.length (by omega) (by simp) (λx hx'=>(hr x hx').1) hex hP';unfold fX;refine⟨⟨gb.2 hs',ST q3 ?_,λe he=>hr e (q2.mem_iff.1 he),?_,λc e p he hp=>?_⟩,q2,?_⟩
 .simp only;rw[q2.length_eq];unfold jN;rw[hf] at hl;simp only[aE,aS,bK] at hl|-;omega
 .have pm:((upS (a.heap.length+1) (a.heap++[(⟨t,n,⟨i,u+1⟩⟩:Evt)]) (a.wher.set i (a.heap.length:Int)) a.heap.length).1.map (·.number)).Perm ((a.heap++[(⟨t,n,⟨i,u+1⟩⟩:Evt)]).map (·.number)):=q2.map _;refine pm.nodup_iff.2 ?_;rw[d5,ew];refine⟨h.2.2.2.1,by simp,λx hx1 y hy e=>?_⟩;simp only[bO,pF,cC] at hy;subst hy;subst e;exact hn hx1
 .exact q1 (c+1) e p (by omega) he (by simpa using hp)
 .have l1:=q3.len;have l2:=hP.len;simp only;rw[l1,l2];unfold jN;simp
def Ap {l:List Evt}{i:Nat}(h:i<l.length)(f:Evt):RF.ev (.set 0) [sl cw l,.v (.int .i64 (i:Int)),EP f]=some (sl cw (l.set i f)):=by
 obtain⟨e,he⟩:∃e,l[i]?=some e:=⟨l[i],ak h⟩;have hs:ng (cw e) 0 (cw f)=cw f:=rfl;rw[yd,ad (by omega),aG,aT,he];simp only[bX,show(EP f).cells=cw f from rfl,show(cw f).length=5 from rfl,show(cw e).length=5 from rfl]
 simp_all
def wW (t:Rt)(n:Int)(h:Hnd):RF.ev .agg [R t,.i64 n,HD h]=some (EP ⟨t,n,h⟩):=rfl
def bsE (e:Evt):RF.ev (.bs 1 [KP.z,KP.z,KP.z,KP.z,KP.z] [0]) [EP e]=some (sl cw [e]):=rfl
def O8 (e:Evt):RF.ev .sub [sl cw [e],.v (.int .i64 0),.v (.int .i64 1)]=some (sl cw [e]):=rfl
def GV {i:Nat}(h0:0<i)(h:i<1000000):cT .quo .i64 (IntKind.i64.wrap ((i:Int)-1)) .i64 2=some (.v (.int .i64 (((i-1)/2:Nat):Int))):=by
 obtain⟨k,rfl⟩:∃k,i=k+1:=⟨i-1,by omega⟩;exact GF (by omega)
def vG {s:Slots}{N:Nat}{f0:JT}{e0 e1 e2 e3 e4 e5 e6 e7 e8 e9 e10 e11 e12 e13 e14 e15 e17 e18 e19 e20 e21 e22 e23 e24 e25 e26 e27 e28 e29 e30 e32 e33 e34 e35 e36:PV}{H W:Nat}(hH:H<=1000):∀(r i m:Nat) (hp:List Evt) (wh:List Int),i<=r->r<m->i<H->hp.length=H->wh.length=W->(∀x∈hp,bi x.time)->Plc s hp wh->
  denW (PhiS D) N qO [f0] [e0,e1,e2,e3,e4,e5,e6,e7,e8,e9,e10,e11,e12,e13,e14,e15,.i64 (W:Int),e17,e18,e19,e20,e21,e22,e23,e24,e25,e26,e27,e28,e29,e30,.i64 (H:Int),e32,e33,e34,e35,e36] m [.i64 (i:Int),sl cw hp,sl I1 wh]=f0 [.i64 ((upS r hp wh i).2.2:Int),sl I1 (upS r hp wh i).2.1,sl cw (upS r hp wh i).1]
 |0,i,m,hp,wh,hi,hm,hiH,hl,hw,h64,hP=>by
  obtain⟨m,rfl⟩:∃m',m=m'+1:=⟨m-1,by omega⟩;have:i=0:=by omega
  subst this;rw[bG];unfold qO upS;simp only[EV,aa];rw[ac (by omega)]
 |r+1,i,m,hp,wh,hi,hm,hiH,hl,hw,h64,hP=>by
  obtain⟨m,rfl⟩:∃m',m=m'+1:=⟨m-1,by omega⟩;obtain⟨e,he⟩:∃e,hp[i]?=some e:=⟨hp[i],ak _⟩;obtain⟨p,hp'⟩:∃p,hp[(i-1)/2]?=some p:=⟨hp[(i-1)/2]'(by omega),ak _⟩;have E:upS (r+1) hp wh i=if 0<i/\ evLess e p=true then upS r (kD hp i ((i-1)/2) e p) (qt wh i ((i-1)/2) e p) ((i-1)/2) else(hp,wh,i):=by rw[upS,he,hp']
  rw[E,bG];by_cases h0:0<i
  rotate_left
  .rw[ac (λh=>h0 h.1)];unfold qO;simp only[EV,aa,bh];rw[ac (by omega)]
  .have pm:=Br he hp';have ih:=vG (s:=s) (N:=N) (f0:=f0) (e0:=e0) (e1:=e1) (e2:=e2) (e3:=e3) (e4:=e4) (e5:=e5) (e6:=e6) (e7:=e7) (e8:=e8) (e9:=e9) (e10:=e10) (e11:=e11) (e12:=e12) (e13:=e13) (e14:=e14) (e15:=e15) (e17:=e17) (e18:=e18) (e19:=e19) (e20:=e20) (e21:=e21) (e22:=e22) (e23:=e23) (e24:=e24) (e25:=e25) (e26:=e26) (e27:=e27) (e28:=e28) (e29:=e29) (e30:=e30) (e32:=e32) (e33:=e33) (e34:=e34) (e35:=e35) (e36:=e36) (H:=H) (W:=W) hH r ((i-1)/2) m (kD hp i ((i-1)/2) e p) (qt wh i ((i-1)/2) e p) (by omega) (by omega) (by omega) (by rw[pm.length_eq];exact hl) (by unfold qt;simpa using hw) (λx hx=>h64 x (pm.mem_iff.1 hx)) (Bq hP he hp' (by omega))
   have cm:=phi (R8 (h64 e (aB he)) (h64 p (aB hp')));obtain⟨je,ue,g1,_,_,g4⟩:=hP.at_ i e he;obtain⟨jp,up,k1,_,_,k4⟩:=hP.at_ _ p hp';have wje:je<W:=by rw[<-hw];exact cy g4
   have wjp:jp<W:=by rw[<-hw];exact cy k4
   have q2:=GV h0 (by omega);have ge:(kD hp i ((i-1)/2) e p)[(i-1)/2]?=some e:=by rw[swp_get he hp',ad rfl]
   have gp:(kD hp i ((i-1)/2) e p)[i]?=some p:=by rw[swp_get he hp',ac (by omega),ad rfl]
   have s1:=Ap (l:=hp) (i:=i) (by omega) p;have s2:RF.ev (.set 0) [sl cw (hp.set i p),.v (.int .i64 (((i-1)/2:Nat):Int)),EP e]=some (sl cw (kD hp i ((i-1)/2) e p)):=Ap (by rw[bK];omega) e;have ie:e.hnd.index=(je:Int):=by rw[g1]
   have ip:p.hnd.index=(jp:Int):=by rw[k1]
   have s3:=gt (l:=wh) (i:=jp) (by omega) (i:Int);have s4:RF.ev (.set 0) [sl I1 (wh.set jp (i:Int)),.v (.int .i64 (je:Int)),.v (.int .i64 (((i-1)/2:Nat):Int))]=some (sl I1 (qt wh i ((i-1)/2) e p)):=by
    unfold qt;rw[ie,ip,aG,aG];exact gt (by rw[bK];omega) _
   generalize hkk:qO=kk at ih;subst hkk;unfold qO;simp only[EV,aa,bh];rw[ad (by omega)];simp only[EV,ixM hiH,aL he,ly,jQ,q2,ixM (show(i-1)/2<H by omega),aL hp',au,cm]
   cases hc:evLess e p with
   |false=>
    rw[ac (by simp)];simp
   |true=>
    simp only[h0,dT,ay,EV,jQ,q2,ixM hiH,ixM (show(i-1)/2<H by omega),aL he,aL hp',ly,au,yy,s1,s2,aL ge,aL gp,OT,ie,ip,ixM wje,ixM wjp,s3,s4]
    exact ih
def IR (s:Slots)(hp:List Evt)(wh:List Int):RF.ev .agg [SL s,sl cw hp,sl I1 wh]=some (AG ⟨s,hp,wh⟩):=rfl
def pHD (h:Hnd):RF.ev (.part 0 2) [HD h]=some (HD h):=rfl
def pR (r:Rt):RF.ev (.part 0 2) [R r]=some (R r):=rfl
def GW {a:Agenda}(h:gi a):ASm a:=by
 have hs:=gb.1 h.1;have:=hs.n2;exact⟨GT hs,by have:=h.2.1.2.1;omega,by have:=h.2.1.1;omega⟩
def acC {a:Agenda}(h:gi a){fr:List Int}{i:Nat}{u:Int}(hf:a.slots.free=fr++[(i:Int)])(hu:a.slots.uses[i]?=some u)(hm:u<1000000){t:Rt}{n:Int}(hx:rok t=true/\ 0<=n/\ n<=1000000)(hn:n∉a.heap.map (·.number))(ht:bi t)(h64:∀e∈a.heap,bi e.time):
  Ans D 203 [AG a,R t,.i64 n] [AG (fX a fr i u t n),HD ⟨i,u+1⟩]:=by
 have hs:=gb.1 h.1;have hP:=wV hs h.2.1;have hsm:=GW h;have n2:=hs.n2;have hl:=h.2.1.2.1;have hw:=h.2.1.1;have hi:=cy hu;have hP':=wa hs hP hf hu (x:=⟨t,n,⟨i,u+1⟩⟩) rfl;obtain⟨_,q2,q3⟩:=uP h hf hu hm hx hn;have ap:=fJ (f:=cw) (l:=a.heap) (k:=[⟨t,n,⟨i,u+1⟩⟩]) (bytes:=40) (z:=5) (by simp;omega) jo;have dn:=wU (n:=a.heap.length) (by omega);have s3:=gt (l:=a.wher) (i:=i) (by omega) (a.heap.length:Int);have s4:=bm (f:=cw) (l:=(fX a fr i u t n).heap);rw[q2.length_eq,aE,aS] at s4;have s5:=bm (f:=I1) (l:=(fX a fr i u t n).wher);rw[q3] at s5;refine an ⟨1001,?_⟩;unfold Wc;simp only[au,jr,aY,phi (SK hsm),cAG0,cAG1,cAG2,eW,ky,EV,aj,bm,GR,phi (act hs hf hu hm),jq,vZ,pR,pHD,wW,bsE,O8,ap,aE,aS,dn,v6,ixM (show i<a.wher.length by omega),s3]
 refine(vG (s:=jN a.slots fr i u) (N:=1001) (H:=a.heap.length+1) (W:=a.wher.length) (by omega) (a.heap.length+1) a.heap.length 1001 _ _ (by omega) (by omega) (by omega) (by simp) (by simp) (λe he=>?_) hP').trans ?_
 .grind
 .unfold KQ;have s4':RF.ev .sub [sl cw (upS (a.heap.length+1) (a.heap++[⟨t,n,⟨i,u+1⟩⟩]) (a.wher.set i (a.heap.length:Int)) a.heap.length).1,.v (.int .i64 0),.v (.int .i64 ((a.heap.length+1:Nat):Int))]=some (sl cw (fX a fr i u t n).heap):=s4;have s5':RF.ev .sub [sl I1 (upS (a.heap.length+1) (a.heap++[⟨t,n,⟨i,u+1⟩⟩]) (a.wher.set i (a.heap.length:Int)) a.heap.length).2.1,.v (.int .i64 0),.v (.int .i64 (a.wher.length:Int))]=some (sl I1 (fX a fr i u t n).wher):=s5;simp only[EV,pSL,s4',s5',IR];rfl
def ii (x:Evt):Nat->List Evt->List Int->Nat->List Evt×List Int×Nat
 |0,hp,wh,i=>(hp,wh,i)
 |n+1,hp,wh,i=>match hp[(i-1)/2]? with
  |some p=>if 0<i/\ evLess x p=true then ii x n (hp.set i p) (wh.set p.hnd.index.toNat (i:Int)) ((i-1)/2) else(hp,wh,i)
  |none=>(hp,wh,i)
def FS {x:Evt}:∀(n:Nat) (hp:List Evt) (wh:List Int) (i:Nat),i<hp.length->
  upS n (hp.set i x) (wh.set x.hnd.index.toNat (i:Int)) i=((ii x n hp wh i).1.set (ii x n hp wh i).2.2 x,(ii x n hp wh i).2.1.set x.hnd.index.toNat ((ii x n hp wh i).2.2:Int),(ii x n hp wh i).2.2)
 |0,hp,wh,i,_=>rfl
 |n+1,hp,wh,i,hi=>by
  have hx:(hp.set i x)[i]?=some x:=bk hi;by_cases h0:0<i
  .obtain⟨p,hp'⟩:∃p,hp[(i-1)/2]?=some p:=⟨hp[(i-1)/2]'(by omega),ak _⟩;have hq:(hp.set i x)[(i-1)/2]?=some p:=by rw[bA (by omega)];exact hp'
   unfold upS ii;rw[hx,hq,hp'];simp only;by_cases hc:0<i/\ evLess x p=true
   .rw[ad hc,ad hc];have e1:kD (hp.set i x) i ((i-1)/2) x p=(hp.set i p).set ((i-1)/2) x:=by unfold kD;rw[uG]
    have e2:qt (wh.set x.hnd.index.toNat (i:Int)) i ((i-1)/2) x p=(wh.set p.hnd.index.toNat (i:Int)).set x.hnd.index.toNat (((i-1)/2:Nat):Int):=by
     unfold qt;by_cases e:x.hnd.index.toNat=p.hnd.index.toNat
     .simp[e]
     .rw[List.set_comm _ _ e,uG]
    rw[e1,e2];exact FS n (hp.set i p) (wh.set p.hnd.index.toNat (i:Int)) ((i-1)/2) (by rw[bK];omega)
   .rw[ac hc,ac hc]
  .have:i=0:=by omega
   subst this;obtain⟨p,hp'⟩:∃p,hp[(0-1)/2]?=some p:=⟨hp[0]'hi,ak hi⟩;unfold upS ii;rw[show(0-1)/2=0 from rfl] at hp'|-
   rw[hx,hp'];simp
def SU {n d:Int}(hn:Sm n)(hd:Sm d)(h0:d≠0):rok (mkR n d)=true/\ bi (mkR n d):=by
 obtain⟨n1,n2⟩:=hn;obtain⟨d1,d2⟩:=hd;have hg:0<Nat.gcd n.natAbs d.natAbs:=gB _ (by omega);have l1:n.natAbs/Nat.gcd n.natAbs d.natAbs<=n.natAbs:=f9 ..;have l2:d.natAbs/Nat.gcd n.natAbs d.natAbs<=d.natAbs:=f9 ..;have l3:=Nat.div_pos (Nat.le_of_dvd (by omega) (Nat.gcd_dvd_right ..)) hg;have co:=Nat.coprime_div_gcd_div_gcd hg;have key:∀z:Int,z.natAbs=n.natAbs/Nat.gcd n.natAbs d.natAbs->rok ⟨z,((d.natAbs/Nat.gcd n.natAbs d.natAbs:Nat):Int)⟩=true/\ bi ⟨z,((d.natAbs/Nat.gcd n.natAbs d.natAbs:Nat):Int)⟩:=λz hz=>by
  refine⟨?_,⟨by simp only;omega,by simp only;omega⟩,by simp only;omega,by simp only;omega⟩;unfold rok
  grind
 unfold mkR
 grind
def uQ {l:List Pt}{t:Rt}{x:Crt}(h:okF l)(ht:bi t)(hr:rok t=true)(h1:inF l x.low=true)(h2:inF l x.high=true)(hf:(dY t (bo l x.high) (bo l x.low)).2=true):
  rok (dY t (bo l x.high) (bo l x.low)).1=true/\ bi (dY t (bo l x.high) (bo l x.low)).1:=by
 obtain⟨i,p,a1,a2,a3,a4⟩:=gr h h1;obtain⟨j,q,b1,b2,b3,b4⟩:=gr h h2;have bp:=Pt.bnd (ea h a1);have bq:=Pt.bnd (ea h b1);rw[a4,b4] at hf|-;unfold dY at hf|-;split
 .grind
 .rename_i h3;split
  .exact SU ⟨by omega,by omega⟩ ⟨by omega,by omega⟩ (by omega)
  .grind
def uR {a:Agenda}(h:gi a){d:Due}{n:Int}{t:Rt}:pQ a d n t↔d.number=n/\(⟨t,n,d.hnd⟩:Evt)∈a.heap:=by
 constructor
 .rintro⟨h1,h2,h3⟩;obtain⟨i,w,k,e,e1,e2,e3,e4,e5⟩:=AZ h h2;rw[e3] at e2;obtain⟨q1,q2⟩:=h3 i k e e1 e2 e4;refine⟨h1,?_⟩;obtain⟨et,en,eh⟩:=e;simp only at q1 q2 e5;rw[<-q1,<-q2,<-e5];exact aB e4
 .rintro⟨h1,h2⟩;obtain⟨k,hk⟩:=aN.1 h2;obtain⟨j,u,e1,e2,e3,e4⟩:=(wV (gb.1 h.1) h.2.1).at_ k _ hk;simp only at e1;refine⟨h1,⟨by rw[e1];simp only;omega,by rw[e1,aG];exact e2,by rw[e1,aG];exact e3⟩,λi m e g1 g2 g3=>?_⟩;rw[e1] at g1;simp only at g1;have:j=i:=by omega
  subst this;rw[e4] at g2;simp only[bS] at g2;have:k=m:=by omega
  subst this;rw[hk] at g3;cases g3;exact⟨rfl,rfl⟩
def wb {c c':Clock}(hn:c'.now=c.now)(hp:c'.pts=c.pts)(hD:∀d n t,pQ c.agenda d n t->pQ c'.agenda d n t){s:List Due}:∀(l:List Held) (left out:List Due),dV (dL c) left l=some out->dV (dL c') (left++s) l=some (out++s)
 |[],left,out,h=>by
  unfold dV at h|-;cases h;rfl
 |x::l,left,out,h=>by
  unfold dV at h|-;cases e:dL c left x with
  |none=>rw[e] at h;cases h
  |some y=>
   rw[e] at h;have:dL c' (left++s) x=some (y++s):=by
    unfold dL at e|-;rw[hn,hp];by_cases h1:eX c.pts x=true
    .rw[ad h1] at e|-;by_cases h2:(dY c.now (bo c.pts x.cert.high) (bo c.pts x.cert.low)).2=true
     .rw[ad h2] at e|-;cases left with
      |nil=>cases e
      |cons d rest=>
       simp only[dR] at e|-;by_cases h3:pQ c.agenda d x.number (dY c.now (bo c.pts x.cert.high) (bo c.pts x.cert.low)).1
       .rw[ad h3] at e;rw[ad (hD _ _ _ h3)];cases e;rfl
       .rw[ac h3] at e;cases e
     .rw[ac h2] at e|-;cases e;rfl
    .rw[ac h1] at e;cases e
   rw[this];exact wb hn hp hD l y out h
def wc {α β:Type}{g:β->α->Option β}:∀{l k:List α} {x y:β},dV g x l=some y->dV g x (l++k)=dV g y k
 |[],k,x,y,h=>by unfold dV at h;cases h;rfl
 |a::l,k,x,y,h=>by
  have h:(match g x a with|some y=>dV g y l|none=>none)=some y:=h
  show(match g x a with|some y=>dV g y (l++k)|none=>none)=_
  cases e:g x a with
  |none=>rw[e] at h;cases h
  |some z=>rw[e] at h;exact wc h
def Bv {c:Clock}(ha:gi c.agenda):∀(l:List Held) (left:List Due),dV (dL c) left l=some []->(left.map (·.number)).Sublist (l.map (·.number))/\∀d∈left,∃t,(⟨t,d.number,d.hnd⟩:Evt)∈c.agenda.heap
 |[],left,h=>by unfold dV at h;cases h;exact⟨.slnil,by simp⟩
 |x::l,left,h=>by
  unfold dV at h;cases e:dL c left x with
  |none=>rw[e] at h;cases h
  |some y=>
   rw[e] at h;obtain⟨r1,r2⟩:=Bv ha l y h;unfold dL at e;by_cases h1:eX c.pts x=true
   .rw[ad h1] at e;by_cases h2:(dY c.now (bo c.pts x.cert.high) (bo c.pts x.cert.low)).2=true
    .rw[ad h2] at e;cases left with
     |nil=>cases e
     |cons d rest=>
      simp only at e;by_cases h3:pQ c.agenda d x.number (dY c.now (bo c.pts x.cert.high) (bo c.pts x.cert.low)).1
      .rw[ad h3] at e;cases e;have h3:=(uR ha).1 h3;refine⟨?_,λd' hd=>?_⟩
       .rw[bO,bO,h3.1];exact .cons_cons _ r1
       .rcases bz.1 hd with rfl|hd
        .exact⟨_,by rw[h3.1];exact h3.2⟩
        .exact r2 d' hd
      .rw[ac h3] at e;cases e
    .rw[ac h2] at e;cases e;exact⟨.cons _ r1,r2⟩
   .rw[ac h1] at e;cases e
def yG {c:Certs}(h:cU c):∀(j i:Nat) (x y:Held),i<j->c.list[i]?=some x->c.list[j]?=some y->x.number<y.number
 |0,i,x,y,hij,hx,hy=>by omega
 |j+1,i,x,y,hij,hx,hy=>by
  have q:=(h.2.2.2 (j+1) y hy).2.2.2.1;have hj:=cy hy;obtain⟨z,hz⟩:∃z,c.list[j]?=some z:=⟨c.list[j]'(by omega),ak _⟩;have q:=q z (by omega) (by simpa using hz)
  by_cases e:i=j
  .subst e;rw[hx] at hz;cases hz;exact q
  .have:=yG h j i x z (by omega) hx hz;omega
def GX {c:Certs}(h:cU c):(c.list.map (·.number)).Nodup:=by
 rw[List.Nodup,nV,d6];intro i j hi hj hij e;have:=yG h j i _ _ hij (ak hi) (ak hj);omega
def IS {c:Clock}(h:dp c):(c.due.map (·.number)).Perm (c.agenda.heap.map (·.number))/\(c.due.map (·.number)).Sublist (c.certs.list.map (·.number)):=by
 obtain⟨_,_,h3,h4,_,h6,h7⟩:=h;obtain⟨r1,r2⟩:=Bv h4 _ _ h7;refine⟨jD (r1.nodup (GX h3)) (λn hn=>?_) (by simp;omega),r1⟩
 grind
def rP {c:Clock}(h:dp c):c.certs.next∉c.agenda.heap.map (·.number):=λhm=>by
 obtain⟨p,s⟩:=IS h;have:=s.subset (p.mem_iff.2 hm);obtain⟨x,hx,hn⟩:=bg.1 this;obtain⟨i,hi⟩:=aN.1 hx;have:=(h.2.2.1.2.2.2 i x hi).2.2.1;omega
def fT (c:Clock)(x:Crt):Rt×Bool:=dY c.now (bo c.pts x.high) (bo c.pts x.low)
def mR (c:Clock)(x:Crt):Clock:=⟨c.now,c.pts,mn c.certs x,c.agenda,c.due⟩
def lB (c:Clock)(x:Crt)(fr:List Int)(i:Nat)(u:Int):Clock:=⟨c.now,c.pts,mn c.certs x,fX c.agenda fr i u (fT c x).1 c.certs.next,c.due++[⟨c.certs.next,⟨i,u+1⟩⟩]⟩
structure CAdd (c:Clock)(x:Crt):Prop where
 ok:dp c
 cok:x.ok
 new:∀g∈c.certs.list,g.cert≠x
 room:c.certs.list.length<200
 next:c.certs.next<1000000
 low:inF c.pts x.low=true
 high:inF c.pts x.high=true
def Nf {c:Clock}{x:Crt}(h:CAdd c x)(hf:(fT c x).2=false):dp (mR c x):=by
 obtain⟨⟨h1,h2,h3,h4,h5,h6,h7⟩,hx,hn,hr,hl,k1,k2⟩:=h;refine⟨h1,h2,IP h3 hx hn hr hl,h4,h5,h6,?_⟩;have:=wb (c:=c) (c':=mR c x) rfl rfl (λ_ _ _ h=>h) (s:=[]) _ _ _ h7;rw[aP] at this;refine(wc this).trans ?_;have:dL (mR c x) ([]++[]) ⟨c.certs.next,x⟩=some []:=by
  unfold dL;have hk:eX (mR c x).pts ⟨c.certs.next,x⟩=true:=by unfold eX mR;simp only;rw[k1,k2];rfl
  rw[ad hk,ac (by unfold fT at hf;exact Bool.eq_false_iff.1 hf)];rfl
 unfold dV;rw[this];rfl
def Ng {c:Clock}{x:Crt}(h:CAdd c x)(h64:bi c.now){fr:List Int}{i:Nat}{u:Int}(he:c.agenda.slots.free=fr++[(i:Int)])(hu:c.agenda.slots.uses[i]?=some u)(hm:u<1000000)(hf:(fT c x).2=true):dp (lB c x fr i u):=by
 have hnew:=rP h.ok;obtain⟨⟨h1,h2,h3,h4,h5,h6,h7⟩,hx,hn,hr,hl,k1,k2⟩:=h;obtain⟨f1,f2⟩:=uQ h2 h64 h1 k1 k2 hf;have n0:=h3.2.1;obtain⟨p1,p2,p3⟩:=uP h4 he hu hm (t:=(fT c x).1) (n:=c.certs.next) ⟨f1,n0,by omega⟩ hnew;refine⟨h1,h2,IP h3 hx hn hr hl,p1,p3.trans h5,?_,?_⟩
 .have:=p2.length_eq;rw[aE,aS] at this;unfold lB
  grind
 .have:=wb (c:=c) (c':=lB c x fr i u) rfl rfl (λd n t hd=>by
   refine(uR p1).2 ?_;obtain⟨d1,d2⟩:=(uR h4).1 hd;exact⟨d1,p2.mem_iff.2 (ee _ d2)⟩) (s:=[⟨c.certs.next,⟨i,u+1⟩⟩]) _ _ _ h7
  refine(wc this).trans ?_;have:dL (lB c x fr i u) ([]++[⟨c.certs.next,⟨i,u+1⟩⟩]) ⟨c.certs.next,x⟩=some []:=by
   unfold dL;have hk:eX (lB c x fr i u).pts ⟨c.certs.next,x⟩=true:=by unfold eX lB;simp only;rw[k1,k2];rfl
   rw[ad hk,ad (by unfold fT at hf;exact hf)];simp only[bV];rw[ad];refine(uR p1).2 ⟨rfl,p2.mem_iff.2 ?_⟩;simp only[b5,cC];exact .inr rfl
  unfold dV;rw[this];rfl
def newC (l:List Pt)(t:Rt):Clock:=⟨t,l,⟨0,[]⟩,lA 200,[]⟩
def SX (a:Agenda):RF.ev (.part 0 5) [AG a]=some (AG a):=rfl
def IT (l:List Pt)(t:Rt):RF.ev .agg [R t,sl row l,.v (.int .i64 0),.sl [],AG (lA 200),.sl []]=some (CL (newC l t)):=rfl
def Bw {l:List Pt}{t:Rt}(hl:l.length<=1000):Ans D 130 [F l,R t] [CL (newC l t)]:=by
 have c2:=phi (acx (n:=200) (by omega) (by omega));have c2:PhiS D 199 [.v (.int .i64 200)]=some [AG (lA 200)]:=c2;refine am ?_;unfold Uq;simp[aW,aY,phi (M9 hl),bQ,EV,c2,jr,pR,SX,bm,IT]
def Bx {l:List Pt}{t:Rt}(h:okF l)(ht:bi t)(hr:rok t=true):Ans D 74 [F l,R t] [CL (newC l t),.i64 0]:=by
 have h1:=phi (qm l);rw[dH.2 h] at h1;have h2:=phi (c43 ht);rw[hr] at h2;have e0:okE true=0:=rfl;rw[e0] at h2;have c2:=phi (acz (n:=200) (by omega) (by omega));have c2:PhiS D 125 [.v (.int .i64 200)]=some [AG (lA 200),.i64 0]:=c2;refine am ?_;unfold No;simp[aW,aY,h1,h2,EV,c2,jr,bQ,phi (d67 (l:=l) (by have:=h.1;omega)),pR,SX,bm,IT]
def rQ {c:Clock}(h:dp c):CSm c:=by
 obtain⟨_,h2,h3,h4,_,h6,_⟩:=h;have ha:=GW h4;exact⟨by have:=h2.1;omega,by have:=h3.1;omega,ha,by have:=ha.heap;omega⟩
def IU {a:Agenda}(h:gi a):gAg a=false:=by
 have hs:=gb.1 h.1;have:=hs.n2;have:=h.2.1.2.1;have:=h.2.1.1;unfold gAg;rw[Bo hs]
 grind
structure Fresh (c:Clock):Prop where
 ok:dp c
 now64:bi c.now
 ev64:∀e∈c.agenda.heap,bi e.time
 heap:c.agenda.heap.length<=c.certs.list.length
 next:c.certs.next=c.certs.list.length
 uses:∀i:Nat,(i:Int)∈c.agenda.slots.free->c.agenda.slots.uses[i]?=some 0
def frL (c:Clock):List Int:=c.agenda.slots.free.dropLast
def frI (c:Clock):Nat:=((c.agenda.slots.free.getLast?).getD 0).toNat
def eY (c:Clock)(x:Crt):Clock:=if(fT c x).2=true then lB c x (frL c) (frI c) 0 else mR c x
def rR {c:Clock}(h:Fresh c)(hr:c.certs.list.length<200):c.agenda.slots.free=frL c++[(frI c:Int)]/\ c.agenda.slots.uses[frI c]?=some 0:=by
 have hs:=gb.1 h.ok.2.2.2.1.1;have hl:=h.ok.2.2.2.1.2.1.2.1;have hw:=h.ok.2.2.2.1.2.1.1;have hw':=h.ok.2.2.2.2.1;have hh:=h.heap;rcases free_last hs with e|⟨fr,i,u,e,hu,h1,h2⟩
 .grind
 .have e1:frL c=fr:=by unfold frL;rw[e];simp
  have e2:frI c=i:=by unfold frI;rw[e];simp
  rw[e1,e2];exact⟨e,h.uses i (by rw[e];simp)⟩
def GY {c:Clock}{x:Crt}(h:Fresh c)(ha:CAdd c x):Fresh (eY c x)/\(eY c x).certs=mn c.certs x/\(eY c x).pts=c.pts/\(eY c x).now=c.now:=by
 obtain⟨e1,e2⟩:=rR h ha.room;have hnx:=h.next;unfold eY;split
 .rename_i hf;have hrk:=ha.ok.1;have hok:=Ng ha h.now64 e1 e2 (by omega) hf;obtain⟨f1,f2⟩:=uQ ha.ok.2.1 h.now64 hrk ha.low ha.high hf;obtain⟨p1,p2,p3⟩:=uP ha.ok.2.2.2.1 e1 e2 (by omega) (t:=(fT c x).1) (n:=c.certs.next) ⟨f1,ha.ok.2.2.1.2.1,by have:=ha.next;omega⟩ (rP ha.ok);refine⟨⟨hok,h.now64,λe he=>?_,?_,?_,λj hj=>?_⟩,rfl,rfl,rfl⟩
  .rcases b5.1 (p2.mem_iff.1 he) with h1|h1
   .exact h.ev64 e h1
   .rw[cC] at h1;subst h1;exact f2
  .have q:=p2.length_eq;rw[aE,aS] at q;have:=h.heap;unfold lB mn
   grind
  .unfold lB mn
   grind
  .have hj':(j:Int)∈frL c:=hj;have hnd:=(gb.1 ha.ok.2.2.2.1.1).nd;rw[e1,ew] at hnd;have hne:frI c≠j:=λq=>hnd.2.2 _ hj' (frI c:Int) (by simp) (by omega);show(c.agenda.slots.uses.set (frI c) (0+1))[j]?=some 0
   rw[bA hne];exact h.uses j (by rw[e1];simp[hj'])
 .rename_i hf;have hf:=Bool.eq_false_iff.2 hf;refine⟨⟨Nf ha hf,h.now64,h.ev64,?_,?_,h.uses⟩,rfl,rfl,rfl⟩
  .have:=h.heap;unfold mR mn;simp only[aE,aS];omega
  .unfold mR mn;simp only[aE,aS];omega
def newA_ok {n:Nat}(h1:1<=n)(h2:n<=200):gi (lA n):=by
 have hs:=zH (n:=n) h1 h2;refine⟨gb.2 hs,⟨by unfold lA ml;simp,by unfold lA ml;simp[eL],λi b w u hb hw hu=>?_⟩,by simp[lA],by simp[lA],λi e p he=>?_⟩
 .unfold lA ml at hb hw
  grind
 .unfold lA at he;simp at he
def rS {l:List Pt}{t:Rt}(hl:okF l)(ht:bi t)(hr:rok t=true):Fresh (newC l t):=by
 refine⟨⟨hr,hl,⟨bN _,Int.le_refl _,(by decide:(0:Int)<=1000000),λi h hi=>by cases i<;>cases hi⟩,newA_ok (n:=200) (by omega) (by omega),aI,rfl,rfl⟩,ht,(λe he=>by cases he),aD _,rfl,λi hi=>?_⟩;have:=(zH (n:=200) (by omega) (by omega)).rng _ hi;simp only[ml] at this;show(List.replicate 200 (0:Int))[i]?=some 0
 grind
structure EdgOk (l:List Pt)(es:List Crt):Prop where
 nd:es.Nodup
 len:es.length<200
 ok:∀x∈es,x.ok
 low:∀x∈es,inF l x.low=true
 high:∀x∈es,inF l x.high=true
def certAll (c:Clock)(es:List Crt):Clock:=es.foldl eY c
structure AtK (l:List Pt)(t:Rt)(es:List Crt)(k:Nat)(c:Clock):Prop where
 fresh:Fresh c
 certs:c.certs.list.map (·.cert)=es.take k
 pts:c.pts=l
 now:c.now=t
def qJ {l:List Pt}{t:Rt}{es:List Crt}(hE:EdgOk l es){k:Nat}{c:Clock}(h:AtK l t es k c){x:Crt}(hx:es[k]?=some x):CAdd c x/\(∀g∈c.certs.list,g.cert≠x):=by
 have hm:=aB hx;have hk:=cy hx;have hlen:c.certs.list.length=k:=by
  have:=aR List.length h.certs
  grind
 have hE':=hE.len;have hnew:∀g∈c.certs.list,g.cert≠x:=λg hg e=>by
  have h1:g.cert∈es.take k:=by rw[<-h.certs];exact bg.2 ⟨g,hg,rfl⟩
  rw[e] at h1;obtain⟨i,hi⟩:=aN.1 h1;have hik:i<k:=by have:=cy hi;rw[aM] at this;omega
  rw[dC hik] at hi;have:=dt.1 hE.nd i k x hi hx;omega
 refine⟨⟨h.fresh.ok,hE.ok x hm,hnew,by omega,by have:=h.fresh.next;omega,by rw[h.pts];exact hE.low x hm,by rw[h.pts];exact hE.high x hm⟩,hnew⟩
def Nh {l:List Pt}{t:Rt}{es:List Crt}(hE:EdgOk l es){k:Nat}{c:Clock}(h:AtK l t es k c){x:Crt}(hx:es[k]?=some x):AtK l t es (k+1) (eY c x):=by
 obtain⟨f1,f2,f3,f4⟩:=GY h.fresh (qJ hE h hx).1;refine⟨f1,?_,f3.trans h.pts,f4.trans h.now⟩;rw[f2];unfold mn;rw[d5,h.certs,cd,hx];rfl
def oB {l:List Pt}{t:Rt}{es:List Crt}(hE:EdgOk l es)(hl:okF l)(ht:bi t)(hr:rok t=true):∀k,k<=es.length->AtK l t es k (certAll (newC l t) (es.take k))
 |0,_=>⟨rS hl ht hr,rfl,rfl,rfl⟩
 |k+1,hk=>by
  have hx:es[k]?=some es[k]:=ak _;have:=Nh hE (oB hE hl ht hr k (by omega)) hx;have e:es.take (k+1)=es.take k++[es[k]]:=by rw[cd,hx];rfl
  unfold certAll at this|-;rw[e,List.foldl_append];exact this
def acD (e:Evt):RF.ev (.cell 3) [EP e]=some (.i64 e.hnd.index):=rfl
structure GoodE (W:Nat)(e:Evt):Prop where
 t64:bi e.time
 rok:rok e.time=true
 ix:∃j:Nat,e.hnd.index=(j:Int)/\ j<W
def zI {N:Nat}{f0:JT}{t:Rt}{n:Int}{h:Hnd}{e0 e1 e3 e5 e6 e7 e8 e9 e10 e11 e12 e13 e14 e15 e16 e17 e18 e20 e21 e22 e23 e24 e25 e27 e28 e29 e30 e31 e32 e34:PV}{H W:Nat}(hH:H<=1000)(ht:bi t)(rt:rok t=true):∀(r i m:Nat) (hp:List Evt) (wh:List Int),i<=r->r<m->i<H->hp.length=H->wh.length=W->(∀x∈hp,GoodE W x)->
  denW (PhiS D) N qM [f0] [e0,e1,.i64 n,e3,R t,e5,e6,e7,e8,e9,e10,e11,e12,e13,e14,e15,e16,e17,e18,HD h,e20,e21,e22,e23,e24,e25,.i64 (W:Int),e27,e28,e29,e30,e31,e32,.i64 (H:Int),e34] m [.i64 (i:Int),sl cw hp,sl I1 wh]=f0 [sl cw (ii ⟨t,n,h⟩ r hp wh i).1,sl I1 (ii ⟨t,n,h⟩ r hp wh i).2.1,.i64 ((ii ⟨t,n,h⟩ r hp wh i).2.2:Int)]
 |0,i,m,hp,wh,hi,hm,hiH,hl,hw,hg=>by
  obtain⟨m,rfl⟩:∃m',m=m'+1:=⟨m-1,by omega⟩;have:i=0:=by omega
  subst this;rw[bG];unfold qM ii;simp only[EV,aa];rw[ac (by omega)]
 |r+1,i,m,hp,wh,hi,hm,hiH,hl,hw,hg=>by
  obtain⟨m,rfl⟩:∃m',m=m'+1:=⟨m-1,by omega⟩;obtain⟨p,hp'⟩:∃p,hp[(i-1)/2]?=some p:=⟨hp[(i-1)/2]'(by omega),ak _⟩;have E:ii ⟨t,n,h⟩ (r+1) hp wh i=if 0<i/\ evLess ⟨t,n,h⟩ p=true then ii ⟨t,n,h⟩ r (hp.set i p) (wh.set p.hnd.index.toNat (i:Int)) ((i-1)/2) else(hp,wh,i):=by rw[ii,hp']
  rw[E,bG];by_cases h0:0<i
  rotate_left
  .rw[ac (λh=>h0 h.1)];unfold qM;simp only[EV,aa];rw[ac (by omega)]
  .obtain⟨p64,prk,jp,pj,pW⟩:=hg p (aB hp');have ih:=zI (N:=N) (f0:=f0) (t:=t) (n:=n) (h:=h) (e0:=e0) (e1:=e1) (e3:=e3) (e5:=e5) (e6:=e6) (e7:=e7) (e8:=e8) (e9:=e9) (e10:=e10) (e11:=e11) (e12:=e12) (e13:=e13) (e14:=e14) (e15:=e15) (e16:=e16) (e17:=e17) (e18:=e18) (e20:=e20) (e21:=e21) (e22:=e22) (e23:=e23) (e24:=e24) (e25:=e25) (e27:=e27) (e28:=e28) (e29:=e29) (e30:=e30) (e31:=e31) (e32:=e32) (e34:=e34) (H:=H) (W:=W) hH ht rt r ((i-1)/2) m (hp.set i p) (wh.set p.hnd.index.toNat (i:Int)) (by omega) (by omega) (by omega) (by rw[bK];exact hl) (by rw[bK];exact hw) (λx hx=>by
    rcases jd hx with h1|h1
    .exact hg x h1
    .rw[h1];exact⟨p64,prk,jp,pj,pW⟩)
   have cm:=phi (GG (x:=⟨t,n,h⟩) (y:=p) ht p64 rt prk);have q2:=GV h0 (by omega);have s1:=Ap (l:=hp) (i:=i) (by omega) p;have s3:=gt (l:=wh) (i:=jp) (by omega) (i:Int);generalize hkk:qM=kk at ih;subst hkk;unfold qM;simp[EV];rw[ad (by omega)];simp only[EV,q2,ixM (show(i-1)/2<H by omega),aL hp',ly,au,pR,pHD,wW,cm,aa,uL]
   by_cases hc:evLess ⟨t,n,h⟩ p=true
   .rw[ad hc,ad ⟨h0,hc⟩];simp only[EV,jQ,q2,ixM hiH,ixM (show(i-1)/2<H by omega),aL hp',ly,au,yy,s1,acD,pj,ixM pW,s3]
    rw[pj,aG] at ih;exact ih
   .rw[ac hc,ac (λq=>hc q.2)]
def Qr {x y:Evt}(h:evLess x y=false):¬v7 x y<0:=λc=>by
 rw[(uL x y).1 c] at h;cases h
def IV {N:Nat}{f0:JT}{t:Rt}{n:Int}{h:Hnd}{e0 e1 e3 e5 e6 e7 e8 e9 e10 e11 e12 e13 e14 e15 e16 e17 e18 e20 e21 e22 e23 e24 e25 e27 e28 e29 e30 e31 e32 e34 e35 e36 e37 e38 e39 e26:PV}{H i m:Nat}{hp:List Evt}{w:PV}(hH:H<=1000)(ht:bi t)(rt:rok t=true)(hm:0<m)(hi:i<H)(hl:hp.length=H)
  (hg:∀k e,k≠i->hp[k]?=some e->bi e.time/\ rok e.time=true) (ho:∀k e,(k=2*i+1\/k=2*i+2)->hp[k]?=some e->evLess e ⟨t,n,h⟩=false):
  denW (PhiS D) N Dg [f0] [e0,e1,.i64 n,e3,R t,e5,e6,e7,e8,e9,e10,e11,e12,e13,e14,e15,e16,e17,e18,HD h,e20,e21,e22,e23,e24,e25,e26,e27,e28,e29,e30,e31,e32,.i64 (H:Int),e34,e35,e36,e37,e38,e39] m [.i64 (i:Int),sl cw hp,w,.i64 ((2*i+1:Nat):Int)]=f0 [sl cw hp,w,.i64 (i:Int)]:=by
 obtain⟨m,rfl⟩:∃m',m=m'+1:=⟨m-1,by omega⟩;rw[bG];have sh:∀e:Evt,RF.ev (.shape 5) [EP e]=some (EP e):=λ_=>rfl;have fin:∀(k:Nat) (self:JT) (a b c d d':PV),(k=2*i+1\/k=2*i+2)->k<H->den (PhiS D) N De [f0,self] [e0,e1,.i64 n,e3,R t,e5,e6,e7,e8,e9,e10,e11,e12,e13,e14,e15,e16,e17,e18,HD h,e20,e21,e22,e23,e24,e25,e26,e27,e28,e29,e30,e31,e32,.i64 (H:Int),e34,e35,e36,e37,e38,e39,.i64 (i:Int),sl cw hp,w,a,b,c,d,d',.i64 (k:Int)]=f0 [sl cw hp,w,.i64 (i:Int)]:=λk self a b c d d' hk hkH=>by
  obtain⟨e,he⟩:∃e,hp[k]?=some e:=⟨hp[k]'(by omega),ak _⟩;obtain⟨g1,g2⟩:=hg k e (by omega) he;have cm:=phi (GG (x:=e) (y:=⟨t,n,h⟩) g1 ht g2 rt);unfold De;simp only[EV,ixM hkH,aL he,ly,au,pR,pHD,wW,cm,aa,be];rw[ad (by have:=Qr (ho k e hk he);omega)]
 unfold Dg;simp only[EV,aa];by_cases h1:2*i+1<H
 .rw[ad (by omega)];simp only[EV,aa,up1 (show 2*i+1<1000000000 by omega)]
  by_cases h2:2*i+2<H
  .rw[ad (by omega)];obtain⟨e,he⟩:∃e,hp[2*i+1]?=some e:=⟨hp[2*i+1]'(by omega),ak _⟩;obtain⟨g,hg'⟩:∃e,hp[2*i+1+1]?=some e:=⟨hp[2*i+1+1]'(by omega),ak _⟩;obtain⟨a1,a2⟩:=hg _ e (by omega) he;obtain⟨b1,b2⟩:=hg _ g (by omega) hg';have cm:=phi (GG (x:=g) (y:=e) b1 a1 b2 a2);simp only[EV,up1 (show 2*i+1<1000000000 by omega),ixM h1,ixM (show 2*i+1+1<H by omega),aL he,aL hg',ly,au,cm]
   unfold Df;simp only[EV,aa,up1 (show 2*i+1<1000000000 by omega)]
   by_cases hc:v7 g e<0
   .rw[ad hc];exact fin _ _ _ _ _ _ _ (.inr rfl) (by omega)
   .rw[ac hc];exact fin _ _ _ _ _ _ _ (.inl rfl) (by omega)
  .rw[ac (by omega)];unfold Df;simp only[EV,aw,ax];exact fin _ _ _ _ _ _ _ (.inl rfl) (by omega)
 .rw[ac (by omega)]
def acE {a:Agenda}(h:gi a){fr:List Int}{i:Nat}{u:Int}(hf:a.slots.free=fr++[(i:Int)])(hu:a.slots.uses[i]?=some u)(hm:u<1000000){t:Rt}{n:Int}(hx:rok t=true/\ 0<=n/\ n<=1000000)(hn:n∉a.heap.map (·.number))(ht:bi t)(h64:∀e∈a.heap,bi e.time):
  Ans D 195 [AG a,R t,.i64 n] [AG (fX a fr i u t n),HD ⟨i,u+1⟩,.i64 0]:=by
 classical
 have hs:=gb.1 h.1;have hP:=wV hs h.2.1;have hsm:=GW h;have n2:=hs.n2;have hl:=h.2.1.2.1;have hw:=h.2.1.1;have hi:=cy hu;obtain⟨hOk,q2,q3⟩:=uP h hf hu hm hx hn;have hOrd:=Bu hOk;have m1:=phi (Sj (IU h) h64);rw[aq h] at m1;have m2:=phi (c43 ht);rw[hx.1] at m2;have e0:okE true=0:=rfl;rw[e0] at m1 m2;have mm:RF.ev (.mm true) [.v (.int .i64 0),.v (.int .i64 0)]=some (.v (.int .i64 0)):=rfl;have ap:=fJ (f:=cw) (l:=a.heap) (k:=[⟨t,n,⟨i,u+1⟩⟩]) (bytes:=40) (z:=5) (by simp;omega) jo;have dn:=wU (n:=a.heap.length) (by omega);have good:∀x∈a.heap++[(⟨t,n,⟨i,u+1⟩⟩:Evt)],GoodE a.wher.length x:=λx hx'=>by
  rcases b5.1 hx' with h1|h1
  .obtain⟨k,hk⟩:=aN.1 h1;obtain⟨j,v,g1,_,_,g4⟩:=hP.at_ k x hk;exact⟨h64 x h1,(h.2.2.1 x h1).1,j,by rw[g1],cy g4⟩
  .rw[cC] at h1;subst h1;exact⟨ht,hx.1,i,rfl,by omega⟩
 have up:=FS (x:=⟨t,n,⟨i,u+1⟩⟩) (a.heap.length+1) (a.heap++[⟨t,n,⟨i,u+1⟩⟩]) a.wher a.heap.length (by simp);have e1:(a.heap++[(⟨t,n,⟨i,u+1⟩⟩:Evt)]).set a.heap.length ⟨t,n,⟨i,u+1⟩⟩=a.heap++[⟨t,n,⟨i,u+1⟩⟩]:=by simp
 rw[e1] at up;simp only[aG] at up;obtain⟨hpF,whF,jF,hF⟩:∃hpF whF jF,ii ⟨t,n,⟨i,u+1⟩⟩ (a.heap.length+1) (a.heap++[⟨t,n,⟨i,u+1⟩⟩]) a.wher a.heap.length=(hpF,whF,jF):=⟨_,_,_,rfl⟩;rw[hF] at up;simp only at up;have pH:(fX a fr i u t n).heap=hpF.set jF ⟨t,n,⟨i,u+1⟩⟩:=by unfold fX;rw[up]
 have pW:(fX a fr i u t n).wher=whF.set i (jF:Int):=by unfold fX;rw[up]
 have pS:(fX a fr i u t n).slots=jN a.slots fr i u:=rfl;have lH:hpF.length=a.heap.length+1:=by
  have:=q2.length_eq;rw[pH,bK,aE,aS] at this;exact this
 have lW:whF.length=a.wher.length:=by rw[pW,bK] at q3;exact q3
 have hjF:jF<=a.heap.length:=by
  have q:=(Bt (s:=jN a.slots fr i u) (a.heap.length+1) (a.heap++[⟨t,n,⟨i,u+1⟩⟩]) (a.wher.set i (a.heap.length:Int)) a.heap.length (by omega) (by simp) (λx hx'=>(good x hx').rok) ⟨λc e p c0 cn he hp=>by
   have h1:=cy he;rw[aE,aS] at h1;rw[aH (by omega)] at he hp;exact Bu h c e p c0 he hp,λc e p _ c0 hc he _=>by
   have h1:=cy he;rw[aE,aS] at h1;omega⟩ (wa hs hP hf hu rfl)).2.2.2.2
  rw[up] at q;exact q
 have child:∀k e,k≠jF->hpF[k]?=some e->(fX a fr i u t n).heap[k]?=some e:=λk e hk he=>by rw[pH,bA (λq=>hk q.symm)];exact he
 have s4:=bm (f:=cw) (l:=(fX a fr i u t n).heap);rw[q2.length_eq,aE,aS] at s4;have s5:=bm (f:=I1) (l:=(fX a fr i u t n).wher);rw[q3] at s5;have s1:=Ap (l:=hpF) (i:=jF) (by omega) ⟨t,n,⟨i,u+1⟩⟩;rw[<-pH] at s1;have s3:=gt (l:=whF) (i:=i) (by omega) (jF:Int);rw[<-pW] at s3;refine an ⟨1001,?_⟩;unfold V3;simp only[au,jr,aY,m1,m2,mm,eW,EV,aj,az,aJ,aw,ax,aa,bh];rw[ac (by omega),ac (by omega)];refine(b9 (m:=1001) (l:=a.heap) (p:=λg=>!decide (g.number=n)) (st:=λi=>[.i64 (i:Int)]) (r:=none) (fin:=some [AG (fX a fr i u t n),HD ⟨i,u+1⟩,.i64 0]) (λk g self hg hall=>?_) (λhall self=>?_) (by omega)).trans ?_
 .have hne:¬g.number=n:=λe=>hn (bg.2 ⟨g,aB hg,e⟩);unfold yQ;simp only[au,eW,aO hg (jo _),aL hg,ly,th,EV,aa,bc (aK hg),up1 (show k<1000000000 by have:=aK hg;omega),hne,bb,aV,aw,ay,ax]
 .unfold yQ;simp only[EV,aa,bw];unfold KG;have g0:decide ((-1:Int)>=0)=false:=rfl;simp only[EV,g0,aw,ax,au,pAG,phi (acu hs hf hu hm),jq,vZ,az,aJ,phi (acp hsm),jr,eW,ky,pR,pHD,wW,bsE,O8,aj,ap,aE,aS,dn];refine(zI (N:=1001) (n:=n) (h:=⟨i,u+1⟩) (H:=a.heap.length+1) (W:=a.wher.length) (by omega) ht hx.1 (a.heap.length+1) a.heap.length 1001 _ _ (by omega) (by omega) (by omega) (by simp) rfl good).trans ?_;rw[hF];unfold KF;have w1:IntKind.i64.wrap (2*(jF:Int))=((2*jF:Nat):Int):=by rw[cz (by omega) (by omega)];omega
  simp only[EV,w1,up1 (show 2*jF<1000000000 by omega)]
  refine(IV (N:=1001) (H:=a.heap.length+1) (by omega) ht hx.1 (by omega) (by omega) lH (λk e hk he=>?_) (λk e hk he=>?_)).trans ?_
  .have he':=child k e hk he;have:=good e (q2.mem_iff.1 (aB he'));exact⟨this.t64,this.rok⟩
  .have he':=child k e (by omega) he;refine hOrd k e _ (by omega) he' ?_;rw[pH,show(k-1)/2=jF by omega,bk (by omega)]
  .unfold KE;simp only[EV,au,ixM (show jF<a.heap.length+1 by omega),pR,pHD,wW,s1,v6,ixM (show i<a.wher.length by omega),s3,pSL,s4,s5,IR]
   rfl
 .rw[ad (by rw[aQ];intro g hg;simpa usingλe=>hn (bg.2 ⟨g,hg,e⟩))]
def GZ {c:Clock}(h:dp c):gW c:=by
 have hc:=rQ h;exact⟨hc.certs,hc.due,hc.pts,IU h.2.2.2.1⟩
def O9 (n:Int)(h:Hnd):RF.ev .agg [.i64 n,HD h]=some (DP ⟨n,h⟩):=rfl
def SY (d:Due):RF.ev (.bs 1 [KP.z,KP.z,KP.z] [0]) [DP d]=some (sl cF [d]):=rfl
def Pa (d:Due):RF.ev .sub [sl cF [d],.v (.int .i64 0),.v (.int .i64 1)]=some (sl cF [d]):=rfl
def Pb {c:Clock}{d:Due}(h:c.due.length<=1000):RF.ev (.app 24 3) [sl cF c.due,.v (.int .i64 (c.due.length:Int)),sl cF [d]]=some (sl cF (c.due++[d])):=
 fJ (f:=cF) (l:=c.due) (k:=[d]) (bytes:=24) (z:=3) (by simp;omega) vX
def IW (c:Clock)(d:Due):RF.ev .sub [sl cF (c.due++[d]),.v (.int .i64 0),.v (.int .i64 ((c.due++[d]).length:Int))]=some (sl cF (c.due++[d])):=bm
def SZ (c:Clock):RF.ev (.part 0 3) [CL c]=some (.agg [.i64 c.now.num,.i64 c.now.den,sl row c.pts]):=rfl
def S1 (c:Certs):RF.ev (.part 0 2) [CS c]=some (CS c):=rfl
def ZQ (c:Clock):RF.ev (.part 5 3) [CL c]=some (SL c.agenda.slots):=rfl
def Pc (r:Rt)(p:List Pt)(cs:Certs)(s:Slots)(h:List Evt)(w:List Int)(d:List Due):RF.ev .agg [.agg [.i64 r.num,.i64 r.den,sl row p],CS cs,sl I1 s.uses,sl B1 s.used,sl I1 s.free,sl cw h,sl I1 w,sl cF d]=some (CL ⟨r,p,cs,⟨s,h,w⟩,d⟩):=rfl
def IX (r:Rt)(p:List Pt)(cs:Certs)(s:Slots)(h:List Evt)(w:List Int)(d:List Due):RF.ev .agg [.i64 r.num,.i64 r.den,sl row p,.i64 cs.next,sl hrow cs.list,sl I1 s.uses,sl B1 s.used,sl I1 s.free,sl cw h,sl I1 w,sl cF d]=some (CL ⟨r,p,cs,⟨s,h,w⟩,d⟩):=rfl
def Qs {l:List Pt}{t:Rt}(h:okF l)(hr:rok t=true){x:Crt}(hx:x.ok)(h1:inF l x.low=true)(h2:inF l x.high=true):hZ (bo l x.high) (bo l x.low) t=0:=
 (wP (c:=⟨t,l,⟨0,[]⟩,⟨⟨[],[],[]⟩,[],[]⟩,[]⟩) h hr (x:=⟨0,x⟩) hx).2 (by unfold eX;simp only;rw[h1,h2];rfl)
def By {l:List Pt}(h:okF l){id:Int}(hi:inF l id=true):¬(bo l id).id<0:=by
 obtain⟨i,p,h1,h2,h3,h4⟩:=gr h hi;rw[h4];have:=jK h p (aB h1);omega
def Bz (p:Pt):RF.ev (.cell 0) [PP p]=some (.i64 p.id):=rfl
open Classical in
def acF {c:Clock}{x:Crt}(h:CAdd c x)(h64:fw c):((fT c x).2=false->Ans D 127 [CL c,CP x] [CL (mR c x),.i64 c.certs.next,.i64 0])/\
  ∀{fr:List Int} {i:Nat} {u:Int},(fT c x).2=true->c.agenda.slots.free=fr++[(i:Int)]->c.agenda.slots.uses[i]?=some u->u<1000000->Ans D 127 [CL c,CP x] [CL (lB c x fr i u),.i64 c.certs.next,.i64 0]:=by
 have hc:=rQ h.ok;have m1:=phi (GI h64 (GZ h.ok));rw[aq h.ok,show okE true=0 from rfl] at m1
 have hF:=h.ok.2.1;have m2:=phi (acB h.ok.2.2.1 h.cok h.new h.room h.next);have m3:=phi (Se (x:=x) hF h64.1);rw[ad (Qs hF h.ok.1 h.cok h.low h.high)] at m3;have n8:decide ((0:Int)=8)=false:=rfl;have s0:=bm (f:=cF) (l:=c.due);have p1:=By hF h.low;have p2:=By hF h.high;constructor
 .intro hf;have hf':(dY c.now (bo c.pts x.high) (bo c.pts x.low)).2=false:=hf;rw[hf'] at m3;refine am ?_;unfold Nr;simp only[au,cV,kx,aY,nJ,iz,eR,m1,m2,im,oR,oT,phi (Gz hF _),Bz,EV,az,aJ,aw,ax,n8,ai p1,ai p2,phi (SM hc),dw,aj,m3,mh,mi,mj,iA,iX];unfold Ca;simp only[EV,au,SZ,S1,s0,Pc];rfl
 .intro fr i u hf he hu hm;have hf':(dY c.now (bo c.pts x.high) (bo c.pts x.low)).2=true:=hf;rw[hf'] at m3;obtain⟨f1,f2⟩:=uQ hF h64.1 h.ok.1 h.low h.high hf';have m4:=phi (acE h.ok.2.2.2.1 he hu hm (t:=(fT c x).1) (n:=c.certs.next) ⟨f1,h.ok.2.2.1.2.1,by have:=h.next;omega⟩ (rP h.ok) f2 h64.2);have m4:PhiS D 195 [AG c.agenda,R (dY c.now (bo c.pts x.high) (bo c.pts x.low)).1,.v (.int .i64 c.certs.next)]=_:=m4;refine am ?_;unfold Nr;simp only[au,cV,kx,aY,nJ,iz,eR,mb,m1,m2,im,oR,oT,phi (Gz hF _),Bz,EV,az,aJ,aw,ax,n8,ai p1,ai p2,phi (SM hc),dw,aj,m3,m4,jr,vZ,pHD,O9,SY,Pa,Pb hc.due,cAG0,cAG1,cAG2,eW,ky,ay];unfold Ca;simp only[EV,au,SZ,S1,IW,Pc];rfl
def acG {c:Clock}{x:Crt}(h:CAdd c x)(h64:fw c):((fT c x).2=false->Ans D 136 [CL c,CP x] [CL (mR c x),.i64 c.certs.next,.i64 0])/\
  ∀{fr:List Int} {i:Nat} {u:Int},(fT c x).2=true->c.agenda.slots.free=fr++[(i:Int)]->c.agenda.slots.uses[i]?=some u->u<1000000->Ans D 136 [CL c,CP x] [CL (lB c x fr i u),.i64 c.certs.next,.i64 0]:=by
 have hc:=rQ h.ok;have hF:=h.ok.2.1;have m2:=phi (acA h.ok.2.2.1 h.cok h.new h.room h.next);have m3:=phi (Sd (x:=x) hF h64.1 h.low h.high);have s0:=bm (f:=cF) (l:=c.due);constructor
 .intro hf;have hf':(dY c.now (bo c.pts x.high) (bo c.pts x.low)).2=false:=hf;rw[hf'] at m3;refine am ?_;unfold Ns;simp only[au,cV,kx,aY,nJ,iz,eR,m2,im,EV,az,aJ,aV,aw,ax,ay,phi (tw hc),dw,aj,m3,nL,nM,jW,mh,mi,mj,iA,iX,l9,eb,s0,IX];rfl
 .intro fr i u hf he hu hm;have hf':(dY c.now (bo c.pts x.high) (bo c.pts x.low)).2=true:=hf;rw[hf'] at m3;obtain⟨f1,f2⟩:=uQ hF h64.1 h.ok.1 h.low h.high hf';have m4:=phi (acC h.ok.2.2.2.1 he hu hm (t:=(fT c x).1) (n:=c.certs.next) ⟨f1,h.ok.2.2.1.2.1,by have:=h.next;omega⟩ (rP h.ok) f2 h64.2);have m4:PhiS D 203 [AG c.agenda,R (dY c.now (bo c.pts x.high) (bo c.pts x.low)).1,.v (.int .i64 c.certs.next)]=_:=m4;have m5:=phi (acs (gb.1 h.ok.2.2.2.1.1));rw[Bn he hu,aq hm] at m5;refine am ?_;unfold Ns;simp only[au,cV,kx,aY,nJ,iz,eR,mb,ZQ,m2,im,EV,az,aJ,aV,aw,ax,ay,phi (tw hc),dw,aj,m3,m4,m5,jr,vZ,pHD,O9,SY,Pa,Pb hc.due,nL,nM,jW,l9,eb,cAG0,cAG1,cAG2,eW,ky,IW,IX];rfl
def S2 {l k:List Pt}(hl:l.length<=1000):Ans D 42 [sl row l,sl row k] [.bool (decide (l=k))]:=by
 refine an ⟨1001,?_⟩;unfold TB;simp only[EV,aj,aA,ah];by_cases h:l.length=k.length
 .rw[ac (by omega)];refine mO h (b9 (l:=l.zip k) (st:=λi=>[.i64 (i:Int)]) (λi x self hx _=>?_) (λ_ self=>?_) (by rw[dK h];omega))
  .obtain⟨hp,hq⟩:=fW hx;unfold BI;simp[aO hp (bL _),aL hp,aO hq (bL _),aL hq,eU,RX,EV,bc (aK hp),up1 (show i<1000000000 by have:=aK hp;omega)]
   grind
  .rw[dK h];unfold BI;simp only[EV,aa,bw,I8]
 .rw[ad (by omega),ai (λe=>h (by rw[e]))]
def yH {c:Clock}(h:Fresh c):fw c:=⟨h.now64,h.ev64⟩
def Pd {c:Clock}{x:Crt}(h:Fresh c)(ha:CAdd c x):Ans D 127 [CL c,CP x] [CL (eY c x),.i64 c.certs.next,.i64 0]:=by
 obtain⟨h1,h2⟩:=acF ha (yH h);obtain⟨e1,e2⟩:=rR h ha.room;unfold eY
 grind
def Pe {c:Clock}{x:Crt}(h:Fresh c)(ha:CAdd c x):Ans D 136 [CL c,CP x] [CL (eY c x),.i64 c.certs.next,.i64 0]:=by
 obtain⟨h1,h2⟩:=acG ha (yH h);obtain⟨e1,e2⟩:=rR h ha.room;unfold eY
 grind
def lC {c:Clock}{es:List Crt}{k:Nat}{x:Crt}(hx:es[k]?=some x):certAll c (es.take (k+1))=eY (certAll c (es.take k)) x:=by
 unfold certAll;rw[cd,hx,List.foldl_append];rfl
def S3 {l:List Pt}{t:Rt}{es:List Crt}(hl:okF l)(ht:bi t)(hr:rok t=true)(hE:EdgOk l es):Ans D 119 [CL (newC l t),F l,sl cv es] [CL (certAll (newC l t) es),.i64 0]:=by
 have hlen:=hE.len;have h64:=hl.1;have z:(newC l t).certs.list.length=0:=rfl;have d0:decide (((0:Nat):Int)<((0:Nat):Int))=false:=rfl;have d0':decide ((0:Int)<((0:Nat):Int))=false:=rfl;have e234:=phi (S2 (l:=l) (k:=l) (by omega));rw[aq rfl] at e234;have pts:(newC l t).pts=l:=rfl;refine an ⟨1001,?_⟩;unfold Ui;simp only[au,cV,aW,nL,nM,jW,nN,eS,mh,mi,mj,iA,iX,dw,EV,aj,z,pts];rw[bG];unfold JB;simp only[EV,d0,d0',aw,ax];unfold JA;simp only[EV,au,bQ,e234,aJ,aw,ax];unfold Jz;simp only[EV,aj]
 let st:Nat->List PV:=λk=>[.i64 0,.i64 (certAll (newC l t) (es.take k)).now.num,.i64 (certAll (newC l t) (es.take k)).now.den,sl row (certAll (newC l t) (es.take k)).pts,.i64 (certAll (newC l t) (es.take k)).certs.next,sl hrow (certAll (newC l t) (es.take k)).certs.list,sl I1 (certAll (newC l t) (es.take k)).agenda.slots.uses,sl B1 (certAll (newC l t) (es.take k)).agenda.slots.used,sl I1 (certAll (newC l t) (es.take k)).agenda.slots.free,sl cw (certAll (newC l t) (es.take k)).agenda.heap,sl I1 (certAll (newC l t) (es.take k)).agenda.wher,sl cF (certAll (newC l t) (es.take k)).due,.i64 (k:Int)]
 refine(dG (m:=1001) (n:=es.length) (st:=st) (fin:=some [CL (certAll (newC l t) es),.i64 0]) (λk self hk=>?_) (λself=>?_) (by omega))
 .have hx:es[k]?=some es[k]:=ak _;have A:=oB hE hl ht hr k (by omega);obtain⟨ha,hnew⟩:=qJ hE A hx;have hroom:=ha.room;show den (PhiS D) 1001 xh _ _=self [.i64 0,.i64 (certAll (newC l t) (es.take (k+1))).now.num,.i64 (certAll (newC l t) (es.take (k+1))).now.den,sl row (certAll (newC l t) (es.take (k+1))).pts,.i64 (certAll (newC l t) (es.take (k+1))).certs.next,sl hrow (certAll (newC l t) (es.take (k+1))).certs.list,sl I1 (certAll (newC l t) (es.take (k+1))).agenda.slots.uses,sl B1 (certAll (newC l t) (es.take (k+1))).agenda.slots.used,sl I1 (certAll (newC l t) (es.take (k+1))).agenda.slots.free,sl cw (certAll (newC l t) (es.take (k+1))).agenda.heap,sl I1 (certAll (newC l t) (es.take (k+1))).agenda.wher,sl cF (certAll (newC l t) (es.take (k+1))).due,.i64 ((k+1:Nat):Int)]
  rw[lC hx];simp only[st];generalize certAll (newC l t) (es.take k)=c at A ha hnew hroom|-;generalize es[k]=x at hx ha hnew|-;have m:=phi (Pd A.fresh ha);unfold xh;simp only[EV,aa,bc hk,au,aO hx (kw _),aL hx,vW,aj];refine(b9 (m:=1001) (l:=c.certs.list) (p:=λg=>!decide (g.cert=x)) (st:=λi=>[.i64 (i:Int)]) (r:=none) (fin:=self [.i64 0,.i64 (eY c x).now.num,.i64 (eY c x).now.den,sl row (eY c x).pts,.i64 (eY c x).certs.next,sl hrow (eY c x).certs.list,sl I1 (eY c x).agenda.slots.uses,sl B1 (eY c x).agenda.slots.used,sl I1 (eY c x).agenda.slots.free,sl cw (eY c x).agenda.heap,sl I1 (eY c x).agenda.wher,sl cF (eY c x).due,.i64 ((k+1:Nat):Int)]) (λi g self' hg _=>?_) (λhall self'=>?_) (by omega)).trans ?_
  .have hne:=hnew g (aB hg);unfold B7;simp only[au,aO hg (eV _),aL hg,jn,pHP,tg,EV,aa,bc (aK hg),up1 (show i<1000000000 by have:=aK hg;omega),hne,bb,aV,aw,ay,ax]
  .have g0:decide (-1>=(0:Int))=false:=rfl;have g1:decide ((0:Int)<= -1)=false:=rfl;unfold B7;simp only[EV,aa,bw];unfold Jy;simp only[EV,g0,g1,aw,ax,au,rN,m,cV,az,aJ,nL,nM,jW,nN,eS,mh,mi,mj,iA,iX,dw,oR,oT];unfold Jx;simp only[EV,up1 (show k<1000000000 by omega)]
  .rw[ad (by rw[aQ];intro g hg;simpa using hnew g hg)]
 .have e:es.take es.length=es:=gA;simp only[st,e];unfold xh;simp only[EV,aa,bw];unfold Jw;simp only[EV,au,rN]
def G0 {l:List Pt}{t:Rt}{es:List Crt}(hl:okF l)(ht:bi t)(hr:rok t=true)(hE:EdgOk l es):Ans D 197 [CL (newC l t),F l,sl cv es] [CL (certAll (newC l t) es),.i64 0]:=by
 have hlen:=hE.len;have h64:=hl.1;have z:(newC l t).certs.list.length=0:=rfl;have d0:decide (((0:Nat):Int)<((0:Nat):Int))=false:=rfl;have d0':decide ((0:Int)<((0:Nat):Int))=false:=rfl;have e28:=phi (c28 (l:=l) (k:=l) (by omega));rw[aq rfl] at e28;have pts:(newC l t).pts=l:=rfl;have hc:=rQ (rS hl ht hr).ok;refine an ⟨1001,?_⟩;unfold V6;simp only[au,cV,aW,phi (tw hc),nL,nM,jW,nN,eS,mh,mi,mj,iA,iX,dw,EV,aj,pts];rw[bG];unfold KN;simp only[au,eS,EV,aj,z,d0,d0',aw,ax];unfold KM;simp only[EV,au,M8,e28,aJ,aw,ax];unfold KL;simp only[EV]
 let st:Nat->List PV:=λk=>[.i64 (certAll (newC l t) (es.take k)).now.num,.i64 (certAll (newC l t) (es.take k)).now.den,sl row (certAll (newC l t) (es.take k)).pts,.i64 (certAll (newC l t) (es.take k)).certs.next,sl hrow (certAll (newC l t) (es.take k)).certs.list,sl I1 (certAll (newC l t) (es.take k)).agenda.slots.uses,sl B1 (certAll (newC l t) (es.take k)).agenda.slots.used,sl I1 (certAll (newC l t) (es.take k)).agenda.slots.free,sl cw (certAll (newC l t) (es.take k)).agenda.heap,sl I1 (certAll (newC l t) (es.take k)).agenda.wher,sl cF (certAll (newC l t) (es.take k)).due,.i64 ((certAll (newC l t) (es.take k)).due.length:Int),.i64 (k:Int)]
 refine(dG (m:=1001) (n:=es.length) (st:=st) (fin:=some [CL (certAll (newC l t) es),.i64 0]) (λk self hk=>?_) (λself=>?_) (by omega))
 .have hx:es[k]?=some es[k]:=ak _;have A:=oB hE hl ht hr k (by omega);obtain⟨ha,hnew⟩:=qJ hE A hx;have hroom:=ha.room;show den (PhiS D) 1001 xu _ _=self [.i64 (certAll (newC l t) (es.take (k+1))).now.num,.i64 (certAll (newC l t) (es.take (k+1))).now.den,sl row (certAll (newC l t) (es.take (k+1))).pts,.i64 (certAll (newC l t) (es.take (k+1))).certs.next,sl hrow (certAll (newC l t) (es.take (k+1))).certs.list,sl I1 (certAll (newC l t) (es.take (k+1))).agenda.slots.uses,sl B1 (certAll (newC l t) (es.take (k+1))).agenda.slots.used,sl I1 (certAll (newC l t) (es.take (k+1))).agenda.slots.free,sl cw (certAll (newC l t) (es.take (k+1))).agenda.heap,sl I1 (certAll (newC l t) (es.take (k+1))).agenda.wher,sl cF (certAll (newC l t) (es.take (k+1))).due,.i64 ((certAll (newC l t) (es.take (k+1))).due.length:Int),.i64 ((k+1:Nat):Int)]
  rw[lC hx];simp only[st];generalize certAll (newC l t) (es.take k)=c at A ha hnew hroom|-;generalize es[k]=x at hx ha hnew|-;have m:=phi (Pe A.fresh ha);have m2:=phi (MW (c:=c.certs) (x:=x) (by omega));rw[show(c.certs.list.any λh=>decide (h.cert=x))=false from by rw[j7];intro g hg;simpa using hnew g hg] at m2
  have s0:=bm (f:=cF) (l:=c.due);unfold xu;simp only[EV,aa,bc hk,au,aO hx (kw _),aL hx,vW,aj,O3,m2,aw,ax,s0,rN,m,cV,az,aJ,nL,nM,jW,nN,eS,mh,mi,mj,iA,iX,dw];unfold KK;simp only[EV,up1 (show k<1000000000 by omega)]
 .have e:es.take es.length=es:=gA;simp only[st,e];have s0:=bm (f:=cF) (l:=(certAll (newC l t) es).due);unfold xu;simp only[EV,aj,aa,bw];unfold KJ;simp only[EV,au,s0,rN]
def gR (t:Rt)(l:List Pt):Nat->List Int->Nat->List Int
 |0,h,_=>h
 |n+1,h,i=>match h[i]?,h[(i-1)/2]? with
  |some a,some b=>if 0<i/\ leads t (bo l a) (bo l b)=true then gR t l n ((h.set i b).set ((i-1)/2) a) ((i-1)/2) else h
  |_,_=>h
def p6 {t:Rt}{l:List Pt}:∀(n:Nat) (h:List Int) (i:Nat),(gR t l n h i).Perm h
 |0,h,i=> .refl _
 |n+1,h,i=>by
  unfold gR;split
  .rename_i a b ha hb;split
   .refine(p6 n _ _).trans ?_;obtain⟨h1,h2⟩:=aC.1 ha;obtain⟨h3,h4⟩:=aC.1 hb;rw[<-h2,<-h4];exact nW h1 h3
   .exact .refl _
  .exact .refl _
def Ni (l:List Pt)(k:Nat):Int:=((l[k]?).map Pt.id).getD 0
def dZ (t:Rt)(l:List Pt):Nat->List Int
 |0=>[]
 |k+1=>gR t l (k+1) (dZ t l k++[Ni l k]) k
def lD {t:Rt}{l:List Pt}:∀k,k<=l.length->(dZ t l k).Perm ((l.take k).map Pt.id)
 |0,_=>by simp[dZ]
 |k+1,h=>by
  have hk:l[k]?=some l[k]:=ak _;refine(p6 _ _ _).trans ?_;rw[cd,hk,d5];unfold Ni;rw[hk];exact(lD k (by omega)).append_right _
def kT {t:Rt}{l:List Pt}{k:Nat}(h:k<=l.length):(dZ t l k).length=k:=by
 rw[(lD k h).length_eq,aj,aM];omega
def tA {t:Rt}{l:List Pt}:(dZ t l l.length).Perm (l.map Pt.id):=by
 have:=lD (t:=t) (l:=l) l.length (aD _)
 grind
def Aq {l:List Pt}(h:okF l){x:Int}(hx:x∈l.map Pt.id):0<=x/\ x<=65535:=by
 obtain⟨p,hp,rfl⟩:=bg.1 hx;exact jK h p hp
def wd {l:List Pt}(h:okF l){hp:List Int}(pm:hp.Perm (l.map Pt.id)):EdgOk l (eK hp):=by
 have hnd:=pm.nodup_iff.2 (cM h.2.2);have hlen:=pm.length_eq;rw[aj] at hlen;have h64:=h.1;refine⟨vE hnd,by unfold eK;rw[mQ];omega,λx hx=>?_,λx hx=>fk.2 (pm.mem_iff.1 (kR hx).1),λx hx=>fk.2 (pm.mem_iff.1 (kR hx).2)⟩;obtain⟨m1,m2⟩:=kR hx;have b1:=Aq h (pm.mem_iff.1 m1);have b2:=Aq h (pm.mem_iff.1 m2);refine⟨b1.1,b1.2,b2.1,b2.2,?_⟩;obtain⟨i,hi,rfl⟩:=bg.1 hx;rw[de] at hi;simp only;intro e;have:=dt.1 hnd (i+1) (i/2) _ (eA (by omega)) (by rw[e];exact eA (by omega));omega
def yI {t:Rt}{l:List Pt}(h:okF l){x:Crt}(h1:inF l x.low=true)(h2:inF l x.high=true)(hl:leads t (bo l x.high) (bo l x.low)=true):x.ok:=by
 have b1:=Aq h (fk.1 h1);have b2:=Aq h (fk.1 h2);refine⟨b1.1,b1.2,b2.1,b2.2,λe=>?_⟩;rw[e,qh] at hl;cases hl
def wg {t:Rt}{l:List Pt}(h:okF l):EdgOk l (dB l (eC t l)):=by
 refine⟨oW (cM h.2.2),?_,λx hx=>?_,λx hx=>(io h hx).1,λx hx=>(io h hx).2.1⟩
 .have h64:=h.1;have:(dB l (eC t l)).length<=l.length:=by
   unfold dB
   grind
  omega
 .obtain⟨a,b,c⟩:=io h hx;exact yI h a b c
def wj {t:Rt}{l:List Pt}(h:okF l):EdgOk l (edgsT (cart t l).nodes l.length):=by
 refine⟨rL h _ (aD _),?_,λx hx=>?_,λx hx=>(jL h hx).1,λx hx=>(jL h hx).2.1⟩
 .have h64:=h.1;have:=kS (cart t l).nodes l.length;omega
 .obtain⟨a,b,c⟩:=jL h hx;exact yI h a b c
def wX (c:Clock):RF.ev (.part 0 11) [CL c]=some (CL c):=rfl
def ZR {es:List Crt}{i:Nat}(h:i<=es.length):RF.ev (.tsub 2) [sl cv es,.v (.int .i64 0),.v (.int .i64 (i:Int))]=some (sl cv (es.take i)):=by
 have he:dU 2 (es.map cv)=true:=by
  cases es with
  |nil=>rfl
  |cons a l=>simp[dU,kw]
 rw[yc,ad ⟨by omega,by omega,by simp;omega,he,by decide⟩];simp
def acH {i n:Nat}(h:i<=n):RF.ev .bnd [.v (.int .i64 (i:Int)),.v (.int .i64 (n:Int))]=some (.i64 (i:Int)):=by rw[qf,ad ⟨by omega,by omega⟩]
def acI (p:Pt):RF.ev (.shape 3) [PP p]=some (PP p):=rfl
def Ar {l:List Pt}(h:okF l){x:Int}(hx:inF l x=true):∃(i:Nat) (p:Pt),l[i]?=some p/\ p.id=x/\ bo l x=p:=by
 obtain⟨i,p,h1,h2,_,h4⟩:=gr h hx
 grind
open Classical in
def Nj {l:List Pt}{t:Rt}{es:List Crt}(hl:okF l)(ht:bi t)(hr:rok t=true)(hE:EdgOk l es):Ans D 183 [CL (newC l t),F l,sl cv es] [CL (certAll (newC l t) es),.i64 0]:=by
 have hlen:=hE.len;have hfr:=rS hl ht hr;have m1:=phi (GI (yH hfr) (GZ hfr.ok));rw[aq hfr.ok,show okE true=0 from rfl] at m1
 have m2:=phi (qm l);rw[dH.2 hl] at m2;refine an ⟨1001,?_⟩;unfold VO;simp only[au,cV,aW,m1,m2,EV,az,aJ,aw,ax,aj];refine(b9 (m:=1001) (l:=es) (p:=λ_=>true) (st:=λi=>[.i64 (i:Int)]) (r:=none) (fin:=some [CL (certAll (newC l t) es),.i64 0]) (λi x self hx _=>?_) (λ_ self=>?_) (by omega)).trans (ad (by simp))
 .obtain⟨o1,o2,o3,o4,o5⟩:=hE.ok x (aB hx);unfold C3;simp only[au,aO hx (kw _),aL hx,vW,oR,oT,EV,aa,bc (aK hx),bh,up1 (show i<1000000000 by have:=aK hx;omega)]
  grind
 .unfold C3;simp only[EV,aa,bw];unfold Ku;simp only[EV,aj];refine(b9 (m:=1001) (l:=es) (p:=λ_=>true) (st:=λi=>[.i64 (i:Int)]) (r:=none) (fin:=some [CL (certAll (newC l t) es),.i64 0]) (λi x self hx _=>?_) (λ_ self=>?_) (by omega)).trans (ad (by simp))
  .have hn:x∉es.take i:=λhm=>by
    obtain⟨j,hj⟩:=aN.1 hm;have hji:j<i:=by have:=aK hj;rw[aM] at this;omega
    rw[dC hji] at hj;have:=dt.1 hE.nd j i x hj hx;omega
   have m3:=phi (yD (l:=es.take i) x (by rw[aM];omega));rw[ai hn] at m3;have hi:=aK hx;unfold C2;simp only[au,aO hx (kw _),aL hx,vW,acH (show i<=es.length by omega),ZR (show i<=es.length by omega),m3,EV,aj,aa,bc hi,aw,ax,ay,up1 (show i<1000000000 by omega)]
  .unfold C2;simp only[EV,aa,bw];unfold Kt;simp only[EV,aj];refine(b9 (m:=1001) (l:=es) (p:=λ_=>true) (st:=λi=>[.i64 (i:Int)]) (r:=none) (fin:=some [CL (certAll (newC l t) es),.i64 0]) (λi x self hx _=>?_) (λ_ self=>?_) (by omega)).trans (ad (by simp))
   .obtain⟨a,p,a1,a2,_⟩:=Ar hl (hE.low x (aB hx));obtain⟨b,q,b1,b2,_⟩:=Ar hl (hE.high x (aB hx));have n1:=phi (Gy hl a1);have n2:=phi (Gy hl b1);rw[a2] at n1;rw[b2] at n2;unfold C1;simp only[au,aO hx (kw _),aL hx,vW,oR,oT,n1,n2,acI,EV,aj,aa,bc (aK hx),az,aJ,aw,ax,ay,up1 (show i<1000000000 by have:=aK hx;omega)]
   .unfold C1;simp only[EV,aa,bw];unfold Ks;simp only[EV,au,phi (acq (rQ hfr.ok)),phi (S3 hl ht hr hE),cV,wX]
def acJ {l:List Pt}{t:Rt}(h:okF l)(ht:bi t){a b:Int}(ha:inF l a=true)(hb:inF l b=true):Ans D 260 [F l,R t,.i64 a,.i64 b] [.bool (leads t (bo l a) (bo l b))]:=by
 obtain⟨i,p,a1,a2,a3,a4⟩:=gr h ha;obtain⟨j,q,b1,b2,b3,b4⟩:=gr h hb;have q1:=phi (nI (l:=l) (by have:=h.1;omega) a);have q2:=phi (nI (l:=l) (by have:=h.1;omega) b);rw[a3] at q1;rw[b3] at q2;refine am ?_;unfold W5;simp[aW,aY,bQ,q1,q2,aO a1 (bL _),aL a1,aO b1 (bL _),aL b1,eU,EV,phi (yp (ea h a1) (ea h b1) ht),a4,b4]
def ZS {l:List Pt}{t:Rt}(h:okF l)(ht:bi t)(hr:rok t=true){a b:Int}(ha:inF l a=true)(hb:inF l b=true)(hne:a≠b):Ans D 176 [F l,R t,.i64 a,.i64 b] [.bool (leads t (bo l a) (bo l b))]:=by
 obtain⟨i,p,a1,a2,a4⟩:=Ar h ha;obtain⟨j,q,b1,b2,b4⟩:=Ar h hb;have:=RZ h ht hr a1 b1 (by rw[a2,b2];exact hne)
 grind
def zJ {l:List Pt}{t:Rt}(h:okF l)(ht:bi t)(hr:rok t=true){N:Nat}{f0 f1 f2:JT}{e0 e1 e4 e5 e6 e7 e8 e9 e10 e11 e12 e13 e14 e15 e16 e17 e18 e19 e20:PV}{H:Nat}(hH:H<=1000):∀(r i m:Nat) (hp:List Int),i<=r->r<m->i<H->hp.length=H->(∀x∈hp,inF l x=true)->hp.Nodup->
  denW (PhiS D) N uZ [f0,f1,f2] [e0,e1,F l,R t,e4,e5,e6,e7,e8,e9,e10,e11,e12,e13,e14,e15,e16,e17,e18,e19,e20,.i64 (H:Int)] m [.i64 (i:Int),sl I1 hp]=f2 [sl I1 (gR t l r hp i)]
 |0,i,m,hp,hi,hm,hiH,hl,hin,hnd=>by
  obtain⟨m,rfl⟩:∃m',m=m'+1:=⟨m-1,by omega⟩;have:i=0:=by omega
  subst this;rw[bG];unfold uZ gR;simp only[EV,aa];rw[ac (by omega)]
 |r+1,i,m,hp,hi,hm,hiH,hl,hin,hnd=>by
  obtain⟨m,rfl⟩:∃m',m=m'+1:=⟨m-1,by omega⟩;obtain⟨a,ha⟩:∃a,hp[i]?=some a:=⟨hp[i],ak _⟩;obtain⟨b,hb⟩:∃b,hp[(i-1)/2]?=some b:=⟨hp[(i-1)/2]'(by omega),ak _⟩;have E:gR t l (r+1) hp i=if 0<i/\ leads t (bo l a) (bo l b)=true then gR t l r ((hp.set i b).set ((i-1)/2) a) ((i-1)/2) else hp:=by rw[gR,ha,hb]
  rw[E,bG];by_cases h0:0<i
  rotate_left
  .rw[ac (λh=>h0 h.1)];unfold uZ;simp only[EV,aa];rw[ac (by omega)]
  .have pm:((hp.set i b).set ((i-1)/2) a).Perm hp:=by
    obtain⟨h1,h2⟩:=aC.1 ha;obtain⟨h3,h4⟩:=aC.1 hb;rw[<-h2,<-h4];exact nW h1 h3
   have hne:a≠b:=λe=>by
    have:=dt.1 hnd i ((i-1)/2) a ha (by rw[e];exact hb);omega
   have ih:=zJ (l:=l) (t:=t) h ht hr (N:=N) (f0:=f0) (f1:=f1) (f2:=f2) (e0:=e0) (e1:=e1) (e4:=e4) (e5:=e5) (e6:=e6) (e7:=e7) (e8:=e8) (e9:=e9) (e10:=e10) (e11:=e11) (e12:=e12) (e13:=e13) (e14:=e14) (e15:=e15) (e16:=e16) (e17:=e17) (e18:=e18) (e19:=e19) (e20:=e20) (H:=H) hH r ((i-1)/2) m ((hp.set i b).set ((i-1)/2) a) (by omega) (by omega) (by omega) (by rw[pm.length_eq];exact hl) (λx hx=>hin x (pm.mem_iff.1 hx)) (pm.nodup_iff.2 hnd);have cm:=phi (ZS h ht hr (hin a (aB ha)) (hin b (aB hb)) hne);have q2:=GV h0 (by omega);have s1:=gt (l:=hp) (i:=i) (by omega) b;have s2:RF.ev (.set 0) [sl I1 (hp.set i b),.v (.int .i64 (((i-1)/2:Nat):Int)),.v (.int .i64 a)]=some (sl I1 ((hp.set i b).set ((i-1)/2) a)):=gt (by rw[bK];omega) a;generalize hkk:uZ=kk at ih;subst hkk;unfold uZ;simp[EV];rw[ad (by omega)];simp only[EV,q2,ixM hiH,ixM (show(i-1)/2<H by omega),aL ha,aL hb,cj,cm]
   cases hc:leads t (bo l a) (bo l b) with
   |false=>
    simp only[aw,ax,eP]
   |true=>
    simp only[h0,fG,ay,EV,jQ,q2,ixM hiH,ixM (show(i-1)/2<H by omega),aL ha,aL hb,cj,au,s1,s2]
    exact ih
def wY {l:List Pt}{t:Rt}(h:okF l)(ht:bi t){N:Nat}{f0:JT}{e0 e1 e2 e3 e6:PV}{H:Nat}(hH:H<=1000):∀(r i m:Nat) (hp:List Int),i<=r->r<m->i<H->hp.length=H->(∀x∈hp,inF l x=true)->
  denW (PhiS D) N qN [f0] [e0,e1,e2,e3,F l,R t,e6,.i64 (H:Int)] m [.i64 (i:Int),sl I1 hp]=f0 [sl I1 (gR t l r hp i)]
 |0,i,m,hp,hi,hm,hiH,hl,hin=>by
  obtain⟨m,rfl⟩:∃m',m=m'+1:=⟨m-1,by omega⟩;have:i=0:=by omega
  subst this;rw[bG];unfold qN gR;simp only[EV,aa];rw[ac (by omega)]
 |r+1,i,m,hp,hi,hm,hiH,hl,hin=>by
  obtain⟨m,rfl⟩:∃m',m=m'+1:=⟨m-1,by omega⟩;obtain⟨a,ha⟩:∃a,hp[i]?=some a:=⟨hp[i],ak _⟩;obtain⟨b,hb⟩:∃b,hp[(i-1)/2]?=some b:=⟨hp[(i-1)/2]'(by omega),ak _⟩;have E:gR t l (r+1) hp i=if 0<i/\ leads t (bo l a) (bo l b)=true then gR t l r ((hp.set i b).set ((i-1)/2) a) ((i-1)/2) else hp:=by rw[gR,ha,hb]
  rw[E,bG];by_cases h0:0<i
  rotate_left
  .rw[ac (λh=>h0 h.1)];unfold qN;simp only[EV,aa];rw[ac (by omega)]
  .have pm:((hp.set i b).set ((i-1)/2) a).Perm hp:=by
    obtain⟨h1,h2⟩:=aC.1 ha;obtain⟨h3,h4⟩:=aC.1 hb;rw[<-h2,<-h4];exact nW h1 h3
   have ih:=wY (l:=l) (t:=t) h ht (N:=N) (f0:=f0) (e0:=e0) (e1:=e1) (e2:=e2) (e3:=e3) (e6:=e6) (H:=H) hH r ((i-1)/2) m ((hp.set i b).set ((i-1)/2) a) (by omega) (by omega) (by omega) (by rw[pm.length_eq];exact hl) (λx hx=>hin x (pm.mem_iff.1 hx));have cm:=phi (acJ h ht (hin a (aB ha)) (hin b (aB hb)));have q2:=GV h0 (by omega);have s1:=gt (l:=hp) (i:=i) (by omega) b;have s2:RF.ev (.set 0) [sl I1 (hp.set i b),.v (.int .i64 (((i-1)/2:Nat):Int)),.v (.int .i64 a)]=some (sl I1 ((hp.set i b).set ((i-1)/2) a)):=gt (by rw[bK];omega) a;generalize hkk:qN=kk at ih;subst hkk;unfold qN;simp[EV];rw[ad (by omega)];simp only[EV,q2,ixM hiH,ixM (show(i-1)/2<H by omega),aL ha,aL hb,cj,cm]
   cases hc:leads t (bo l a) (bo l b) with
   |false=>
    simp
   |true=>
    simp only[h0,fG,ay,EV,jQ,q2,ixM hiH,ixM (show(i-1)/2<H by omega),aL ha,aL hb,cj,au,s1,s2]
    exact ih
def acK {l:List Pt}{t:Rt}(h:okF l)(ht:bi t){hp:List Int}{i:Nat}(hi:i<hp.length)(hH:hp.length<=900)(hin:∀x∈hp,inF l x=true):Ans D 196 [F l,R t,sl I1 hp,.i64 (i:Int)] [sl I1 (gR t l (i+1) hp i)]:=by
 have s0:=bm (f:=I1) (l:=gR t l (i+1) hp i);rw[(p6 (t:=t) (l:=l) (i+1) hp i).length_eq] at s0;refine an ⟨1001,?_⟩;unfold V4;simp[aW,aY,fM (l:=hp) (f:=I1) (bytes:=8) (z:=1) (by omega) bJ,EV];refine(wY h ht (N:=1001) (H:=hp.length) (by omega) (i+1) i 1001 hp (by omega) (by omega) hi rfl hin).trans ?_;unfold KI;simp[EV,s0]
def uS (t:Rt)(l:List Pt):KHeap:=⟨certAll (newC l t) (eK (dZ t l l.length)),dZ t l l.length⟩
def Pf (c:Clock)(h:List Int):RF.ev .agg [CL c,sl I1 h]=some (KH ⟨c,h⟩):=rfl
def Nk {l:List Pt}{t:Rt}{k:Nat}(hk:k<=l.length):∀x∈dZ t l k,inF l x=true:=λx hx=>by
 have:=(lD (t:=t) k hk).mem_iff.1 hx;obtain⟨p,hp,e⟩:=bg.1 this;exact fk.2 (bg.2 ⟨p,iK hp,e⟩)
def Nl {l:List Pt}{t:Rt}(h:okF l){k:Nat}(hk:k<=l.length):(dZ t l k).Nodup:=by
 refine(lD (t:=t) k hk).nodup_iff.2 ?_;have:=cM h.2.2;unfold Ids at this
 grind
def tB {l:List Pt}{t:Rt}{k:Nat}{p:Pt}(hp:l[k]?=some p):dZ t l (k+1)=gR t l (k+1) (dZ t l k++[p.id]) k:=by
 rw[dZ];unfold Ni;rw[hp];rfl
def FU {l:List Pt}{t:Rt}{k:Nat}{p:Pt}(hp:l[k]?=some p):∀x∈dZ t l k++[p.id],inF l x=true:=λx hx=>by
 rcases b5.1 hx with h|h
 .exact Nk (by have:=aK hp;omega) x h
 .rw[cC] at h;subst h;exact fk.2 (bg.2 ⟨p,aB hp,rfl⟩)
def Qt {l:List Pt}{t:Rt}(h:okF l){k:Nat}{p:Pt}(hp:l[k]?=some p):(dZ t l k++[p.id]).Nodup:=by
 have:=Nl (t:=t) h (k:=k+1) (aK hp);rw[tB hp] at this;exact(p6 _ _ _).nodup_iff.1 this
def acL {l:List Pt}{t:Rt}(hl:okF l)(ht:bi t)(hr:rok t=true):Ans D 128 [F l,R t] [KH (uS t l)]:=by
 have h64:=hl.1;have hE:=wd hl (tA (t:=t) (l:=l));refine an ⟨1001,?_⟩;unfold Uo;simp only[au,aW,aY,EV];refine(dG (m:=1001) (n:=l.length) (st:=λk=>[sl I1 (dZ t l k),.i64 (k:Int)]) (fin:=some [KH (uS t l)]) (λk self hk=>?_) (λself=>?_) (by omega))
 .obtain⟨p,hp⟩:∃p,l[k]?=some p:=⟨l[k],ak _⟩;have hbl:=kT (t:=t) (l:=l) (k:=k) (by omega);have ap:=fJ (f:=I1) (l:=dZ t l k) (k:=[p.id]) (bytes:=8) (z:=1) (by simp;omega) bJ;have s0:=bm (f:=I1) (l:=dZ t l k++[p.id]);have c1:=phi (acK (t:=t) hl ht (hp:=dZ t l k++[p.id]) (i:=k) (by simp;omega) (by simp;omega) (FU hp));rw[<-tB hp] at c1;unfold Cb;simp only[au,bQ,EV,aj,aa,bc hk,fM (l:=dZ t l k) (f:=I1) (bytes:=8) (z:=1) (by omega) bJ,aO hp (bL _),aL hp,mN,bsI,jJ,ap,s0,c1,up1 (show k<1000000000 by omega)]
 .unfold Cb;simp only[au,bQ,EV,aj,aa,bw];unfold JF;simp only[EV,au,phi (Bw (l:=l) (t:=t) (by omega)),phi (Sn (l:=dZ t l l.length) (by rw[kT (aD _)];omega)),aj,bm,phi (G0 hl ht hr hE),cV,wX,Pf];rfl
def c55 {l:List Pt}{t:Rt}(hl:okF l)(ht:bi t)(hr:rok t=true):Ans D 69 [F l,R t] [KH (uS t l),.i64 0]:=by
 have h64:=hl.1;have hE:=wd hl (tA (t:=t) (l:=l));have s9:=bm (f:=I1) (l:=dZ t l l.length);refine an ⟨1001,?_⟩;unfold k55;simp only[au,aW,aY,phi (Bx hl ht hr),cV,bQ,EV,az,aJ,aw,ax,aj];refine(dG (m:=1001) (n:=l.length) (st:=λk=>[sl I1 (dZ t l k),.i64 ((dZ t l k).length:Int),.i64 (k:Int)]) (fin:=some [KH (uS t l),.i64 0]) (λk self hk=>?_) (λself=>?_) (by omega))
 .obtain⟨p,hp⟩:∃p,l[k]?=some p:=⟨l[k],ak _⟩;have hbl:=kT (t:=t) (l:=l) (k:=k) (by omega);have hbl':=kT (t:=t) (l:=l) (k:=k+1) (by omega);have ap:=fJ (f:=I1) (l:=dZ t l k) (k:=[p.id]) (bytes:=8) (z:=1) (by simp;omega) bJ;unfold Hd;simp only[au,bQ,EV,aa,bc hk,aO hp (bL _),aL hp,eU,Bz,bsI,jJ,ap,aj];refine(zJ hl ht hr (N:=1001) (H:=(dZ t l k++[p.id]).length) (by simp;omega) (k+1) k 1001 _ (by omega) (by omega) (by simp;omega) rfl (FU hp) (Qt hl hp)).trans ?_;unfold Pw;have e:(dZ t l k++[p.id]).length=(dZ t l (k+1)).length:=by rw[hbl',aE,hbl];rfl
  rw[<-tB hp];simp only[EV,up1 (show k<1000000000 by omega),e]
 .unfold Hd;simp only[EV,aa,bw];unfold Pv;simp only[EV,au,s9,phi (Sl (l:=dZ t l l.length) (by rw[kT (aD _)];omega)),phi (S3 hl ht hr hE),cV,wX,Pf];rfl
def c60 {l:List Pt}{t:Rt}(hl:okF l)(ht:bi t)(hr:rok t=true):Ans D 77 [F l,R t] [KH (uS t l),.i64 0]:=by
 have m1:=phi (ku l);rw[dH.2 hl] at m1;have m2:=phi (nG ht);rw[hr,show okE true=0 from rfl] at m2
 refine am ?_;unfold k60;simp[aW,aY,m1,m2,EV,phi (acL hl ht hr),jX]
def twice:Nat->Nat->Nat->Nat
 |0,n,_=>n
 |f+1,n,m=>if n<m then twice f (2*n) m else n
def wl:∀m:Nat,m<65->1<=twice 7 1 m/\ m<=twice 7 1 m/\ twice 7 1 m<=64:=by decide
def bZ (l:List Pt):List Int:=l.map Pt.id++List.replicate (twice 7 1 l.length-l.length) (-1)
def od {l:List Pt}(h:okF l):(bZ l).length=twice 7 1 l.length/\ 1<=(bZ l).length/\(bZ l).length<=64:=by
 have h1:=h.1;obtain⟨a,b,c⟩:=wl l.length (by omega);unfold bZ
 grind
def gS {l:List Pt}:∀x∈bZ l,dP l x:=λx hx=>by
 unfold bZ at hx;rcases b5.1 hx with h|h
 .exact .inr (fk.2 h)
 .exact .inl (eO.1 h).2
def iT {l:List Pt}(h:okF l):ja (bZ l):=by
 rw[uy];have hI:=cM h.2.2;have key:∀(i:Nat) (x:Int),0<=x->(bZ l)[i]?=some x->(l.map Pt.id)[i]?=some x:=λi x h0 hi=>by
  unfold bZ at hi
  grind
 intro i j x h0 hi hj;exact dt.1 hI i j x (key i x h0 hi) (key j x h0 hj)
def Fw {t:Rt}{l:List Pt}{wins places:List Int}(hb:oJ wins places)(hf:kq (wonI t l) wins places):iZ wins places:=by
 refine⟨hb,λi hi=>?_⟩;have:=hf i hi;unfold lS;rw[this];unfold wonI
 grind
def cE (t:Rt)(l:List Pt)(places:List Int):Brk:=⟨places,playD (wonI t l) places (places.length-1) (places.length-1)⟩
def rT {t:Rt}{l:List Pt}{places:List Int}(h:okF l)(h1:1<=places.length)(h2:places.length<=64)(hv:∀x∈places,dP l x)(ho:ja places):
  (cE t l places).wins.length=places.length-1/\ iZ (cE t l places).wins places/\ kq (wonI t l) (cE t l places).wins places:=by
 have hlen:(cE t l places).wins.length=places.length-1:=by unfold cE;simp only;exact fP _
 have hf:=(Ae hlen).1 rfl;refine⟨hlen,Fw ⟨⟨h1,h2,by omega⟩,ho,λx hx=>?_⟩ hf,hf⟩;exact mf h (hv x hx)
def tC {t:Rt}{l:List Pt}{places:List Int}(h:okF l)(h1:1<=places.length)(h2:places.length<=64)(hv:∀x∈places,dP l x)(ho:ja places):
  EdgOk l (edsB (cE t l places).wins places (cE t l places).wins.length):=by
 obtain⟨hlen,hb,hf⟩:=rT (t:=t) h h1 h2 hv ho;have facts:=λe=>oc (b:=cE t l places) (e:=e) h hb hv hf;refine⟨rM (b:=cE t l places) h hb hv hf _ (aD _),?_,λx hx=>?_,λx hx=>(facts x hx).1,λx hx=>(facts x hx).2.1⟩
 .have:=kC (cE t l places).wins places (cE t l places).wins.length;omega
 .obtain⟨a,b,c⟩:=facts x hx;exact yI h a b c
def acM {l:List Pt}{t:Rt}{pl:List Int}(h:okF l)(ht:bi t)(h1:1<=pl.length)(h2:pl.length<=64)(hv:∀x∈pl,dP l x):Ans D 264 [F l,R t,sl I1 pl] [BR (cE t l pl)]:=by
 have wp:IntKind.i64.wrap ((pl.length:Int)-1)=((pl.length-1:Nat):Int):=by rw[cz (by omega) (by omega)];omega
 have rp:=oV (n:=pl.length-1) (by omega);have agB:∀w:List Int,RF.ev .agg [sl I1 pl,sl I1 w]=some (BR ⟨pl,w⟩):=λw=>rfl;refine an ⟨1001,?_⟩;unfold Xh cE;simp only[au,aW,aY,EV,aj,fM (l:=pl) (f:=I1) (bytes:=8) (z:=1) (by omega) bJ,wp,rp,aI];generalize hm:pl.length-1=m at*;have w1:IntKind.i64.wrap ((m:Int)-1)=(m:Int)-1:=cz (by omega) (by omega);rw[w1];have e0:([sl I1 (List.replicate m 0),PV.v (.int .i64 ((m:Int)-1))]:List PV)=[sl I1 (playD (wonI t l) pl m 0),.i64 ((m:Int)-1-((0:Nat):Int))]:=by
  simp[playD]
 rw[e0];refine(dG (m:=1001) (n:=m) (st:=λk=>[sl I1 (playD (wonI t l) pl m k),.i64 ((m:Int)-1-(k:Int))]) (λk self hk=>?_) (λself=>?_) (by omega))
 .obtain⟨i,hi⟩:∃i:Nat,m-1-k=i:=⟨_,rfl⟩;have hii:(m:Int)-1-(k:Int)=(i:Int):=by omega
  have hdn:IntKind.i64.wrap ((i:Int)-1)=(m:Int)-1-((k+1:Nat):Int):=by rw[cz (by omega) (by omega)];omega
  have hP:=vA (P:=dP l) (.inl rfl) (won:=wonI t l) (λa b=>v8 a b) hv k (by omega:k<=m);have hlen:=fP (won:=wonI t l) (places:=pl) (m:=m) k;have hnx:playD (wonI t l) pl m (k+1)=(playD (wonI t l) pl m k).set i (wonI t l (nodeV (playD (wonI t l) pl m k) pl (2*i+1)) (nodeV (playD (wonI t l) pl m k) pl (2*i+2))):=by rw[<-hi];rfl
  rw[hnx];generalize playD (wonI t l) pl m k=w at hP hlen;have su:RF.ev .sub [sl I1 w,.v (.int .i64 0),.v (.int .i64 (m:Int))]=some (sl I1 w):=by rw[<-hlen];exact bm
  unfold DK;simp only[EV,hii,aa,be,ad (show(0:Int)<=(i:Int) by omega),dbl (show i<100000000 by omega),up1 (show 2*i<1000000000 by omega),up2 (show 2*i<1000000000 by omega),bm,su,agB,au,phi (tu (b:=⟨pl,w⟩) (i:=2*i+1) (by simp only;omega) (by simp only;omega)),phi (tu (b:=⟨pl,w⟩) (i:=2*i+2) (by simp only;omega) (by simp only;omega)),phi (SD h ht (hP (2*i+1) (by omega)) (hP (2*i+2) (by omega))),ixM (show i<m by omega),gt (l:=w) (i:=i) (by omega),hdn]
 .have hlen:=fP (won:=wonI t l) (places:=pl) (m:=m) m;generalize playD (wonI t l) pl m m=w at hlen;have su:RF.ev .sub [sl I1 w,.v (.int .i64 0),.v (.int .i64 (m:Int))]=some (sl I1 w):=by rw[<-hlen];exact bm
  unfold DK;simp only[EV,aa,be,ac (show¬(0:Int)<=(m:Int)-1-(m:Int) by omega),Lt,bm,su,agB,au]
def acN {l:List Pt}{t:Rt}{pl:List Int}(h:okF l)(ht:bi t)(h1:1<=pl.length)(h2:pl.length<=64)(hv:∀x∈pl,dP l x):Ans D 198 [F l,R t,sl I1 pl] [BR (cE t l pl)]:=by
 refine am ?_;unfold V7;simp[aW,aY,EV,phi (acM h ht h1 h2 hv),iY]
def rU {N:Nat}{f0:JT}{e0:PV}{l:List Pt}(hl:l.length<=64):∀(f n M:Nat),l.length<=n*2^ f->1<=n->f<M->denW (PhiS D) N o7 [f0] [e0,F l] M [.i64 (n:Int)]=f0 [.i64 (twice f n l.length:Nat)]
 |0,n,M,h,h1,hM=>by
  obtain⟨M,rfl⟩:∃m',M=m'+1:=⟨M-1,by omega⟩;rw[bG];unfold o7 twice;simp only[bQ,EV,aj,aa];rw[ac (by omega)]
 |f+1,n,M,h,h1,hM=>by
  obtain⟨M,rfl⟩:∃m',M=m'+1:=⟨M-1,by omega⟩;rw[bG,twice];by_cases c:n<l.length
  .have ih:=rU (N:=N) (f0:=f0) (e0:=e0) hl f (2*n) M (by rw[Nat.pow_succ] at h;rw[Nat.mul_comm 2 n,Nat.mul_assoc,Nat.mul_comm 2];exact h) (by omega) (by omega);have w:IntKind.i64.wrap ((n:Int)*2)=((2*n:Nat):Int):=by rw[cz (by omega) (by omega)];omega
   rw[ad c];generalize hkk:o7=kk at ih;subst hkk;unfold o7;simp[bQ,EV];rw[ad (by omega),w];exact ih
  .rw[ac c];unfold o7;simp only[bQ,EV,aj,aa];rw[ac (by omega)]
def Fx {l:List Pt}{n k:Nat}{p:Pt}(hp:l[k]?=some p)(hn:l.length<=n):((l.take k).map Pt.id++List.replicate (n-k) (-1)).set k p.id=(l.take (k+1)).map Pt.id++List.replicate (n-(k+1)) (-1):=by
 have hk:=aK hp;have hlen:((l.take k).map Pt.id).length=k:=by rw[aj,aM];omega
 have e:n-k=n-(k+1)+1:=by omega
 rw[lh _ _ (by omega),hlen,fe,e,fu,nE,cd,hp,d5,aX];rfl
def acO {l:List Pt}(h:okF l):Ans D 122 [F l] [sl I1 (bZ l)]:=by
 have hl:=h.1;obtain⟨t1,t2,t3⟩:=wl l.length (by omega);refine an ⟨1001,?_⟩;unfold Uk;simp only[au,aW,EV];refine(rU (N:=1001) (l:=l) hl 7 1 1001 (by omega) (by omega) (by omega)).trans ?_;unfold bZ;generalize twice 7 1 l.length=n at t1 t2 t3;unfold JE;simp only[EV,bsI,jJ,O5,phi (SP (n:=n) t1 (by omega)),aj,aI,au,bQ];have e0:([sl I1 (List.replicate n (-1)),PV.v (.int .i64 0)]:List PV)=[sl I1 ((l.take 0).map Pt.id++List.replicate (n-0) (-1)),.i64 ((0:Nat):Int)]:=by simp
 rw[e0];refine(dG (m:=1001) (n:=l.length) (st:=λk=>[sl I1 ((l.take k).map Pt.id++List.replicate (n-k) (-1)),.i64 (k:Int)]) (λk self hk=>?_) (λself=>?_) (by omega))
 .obtain⟨p,hp⟩:∃p,l[k]?=some p:=⟨l[k],ak _⟩;have hlen:((l.take k).map Pt.id++List.replicate (n-k) (-1:Int)).length=n:=by simp;omega
  have st:=gt (l:=(l.take k).map Pt.id++List.replicate (n-k) (-1)) (i:=k) (by rw[hlen];omega) p.id;rw[Fx hp t2] at st;unfold B9;simp only[au,bQ,EV,aa,bc hk,aO hp (bL _),aL hp,eU,Bz,ixM (show k<n by omega),st,up1 (show k<1000000000 by omega)]
 .have hlen:(l.map Pt.id++List.replicate (n-l.length) (-1:Int)).length=n:=by simp;omega
  have su:=bm (f:=I1) (l:=l.map Pt.id++List.replicate (n-l.length) (-1:Int));rw[hlen] at su;unfold B9;simp only[EV,aa,bw,gA];unfold JD;simp only[EV,su]
def acP {l:List Pt}(h:okF l):Ans D 131 [F l] [sl I1 (bZ l)]:=by
 have hl:=h.1;obtain⟨t1,t2,t3⟩:=wl l.length (by omega);have same:JI=o7:=rfl;have hget:∀k,(k<l.length->∀p,l[k]?=some p->(bZ l)[k]?=some p.id)/\(¬k<l.length->k<twice 7 1 l.length->(bZ l)[k]?=some (-1)):=λk=>by
  unfold bZ
  grind
 have hlen:(bZ l).length=twice 7 1 l.length:=(od h).1;refine an ⟨1001,?_⟩;unfold Ur;simp only[au,aW,EV,same];refine(rU (N:=1001) (l:=l) hl 7 1 1001 (by omega) (by omega) (by omega)).trans ?_;generalize twice 7 1 l.length=n at t1 t2 t3 hget hlen;unfold JH;simp only[EV];refine(dG (m:=1001) (n:=n) (st:=λk=>[sl I1 ((bZ l).take k),.i64 (((bZ l).take k).length:Int),.i64 (k:Int)]) (λk self hk=>?_) (λself=>?_) (by omega))
 .have hlk:((bZ l).take k).length=k:=by rw[aM];omega
  have hlk':((bZ l).take (k+1)).length=k+1:=by rw[aM];omega
  have ap:∀x:Int,(bZ l)[k]?=some x->RF.ev (.app 8 1) [sl I1 ((bZ l).take k),.v (.int .i64 (((bZ l).take k).length:Int)),sl I1 [x]]=some (sl I1 ((bZ l).take (k+1))):=λx hx=>by
   have:=fJ (f:=I1) (l:=(bZ l).take k) (k:=[x]) (bytes:=8) (z:=1) (by simp;omega) bJ;rw[this,cd,hx];rfl
  unfold Cd;simp only[au,bQ,EV,aa,bc hk,aj];by_cases c:k<l.length
  .obtain⟨p,hp⟩:∃p,l[k]?=some p:=⟨l[k],ak _⟩;rw[ad (by omega)];simp only[EV,aO hp (bL _),aL hp,mN,bsI,jJ,ap _ ((hget k).1 c p hp),aj];unfold Cc;simp only[EV,up1 (show k<1000000000 by omega)]
  .rw[ac (by omega)];simp only[EV,bsI,jJ,ap _ ((hget k).2 c hk),aj];unfold Cc;simp only[EV,up1 (show k<1000000000 by omega)]
 .have su:=bm (f:=I1) (l:=bZ l);unfold Cd;simp only[EV,aa,bw];unfold JG;rw[show(bZ l).take n=bZ l from aZ (by omega)]
  simp only[EV,su]
section
variable (t:Rt)(l:List Pt)
def tD:KTourn:=⟨certAll (newC l t) (edsB (cE t l (bZ l)).wins (bZ l) (cE t l (bZ l)).wins.length),cE t l (bZ l)⟩
def wZ:Heater:=⟨certAll (newC l t) (edgsT (cart t l).nodes l.length),cart t l⟩
def xa:KHeap:=⟨certAll (newC l t) (dB l (eC t l)),eC t l⟩
end
def acQ (b:Brk):RF.ev (.part 0 2) [BR b]=some (BR b):=rfl
def acR (b:Tree):RF.ev (.part 0 2) [TR b]=some (TR b):=rfl
def Pg (k:KTourn):RF.ev (.part 0 13) [KT k]=some (KT k):=rfl
def ZT (k:Heater):RF.ev (.part 0 13) [HT k]=some (HT k):=rfl
def ZU (k:KHeap):RF.ev (.part 0 12) [KH k]=some (KH k):=rfl
section
variable {l:List Pt}{t:Rt}(hl:okF l)(ht:bi t)(hr:rok t=true)
include hl ht hr
theorem acS:Ans D 121 [CL (newC l t),F l,sl I1 (bZ l)] [KT (tD t l),.i64 0]:=by
 obtain⟨_,h1,h2⟩:=od hl;have hE:=tC (t:=t) hl h1 h2 gS (iT hl);have nw:(newC l t).now=t:=rfl;have m1:PhiS D 182 [F l,R t,sl I1 (bZ l)]=some [BR (cE t l (bZ l)),sl cv (edsB (cE t l (bZ l)).wins (bZ l) (cE t l (bZ l)).wins.length)]:=phi (SE hl ht hr h1 h2 gS (iT hl) rfl);refine am ?_;unfold Uj;simp[cV,aW,eR,nw,m1,iY,phi (Nj hl ht hr hE),EV];rfl
theorem c56:Ans D 70 [F l,R t] [KT (tD t l),.i64 0]:=by
 refine am ?_;unfold k56;simp[aW,aY,phi (Bx hl ht hr),cV,EV,phi (acO hl),phi (acS hl ht hr),qo,Pg]
theorem acT:Ans D 129 [CL (newC l t),F l,sl I1 (bZ l)] [KT (tD t l),.i64 0]:=by
 obtain⟨_,h1,h2⟩:=od hl;have hE:=tC (t:=t) hl h1 h2 gS (iT hl);have nw:(newC l t).now=t:=rfl;obtain⟨b1,b2,b3⟩:=rT (t:=t) hl h1 h2 gS (iT hl);have m2:=phi (SG (b:=cE t l (bZ l)) (by rw[b1];show(bZ l).length=_;omega) (by show(bZ l).length<=70;omega) (λi hi=>(b2.2 i hi).1) (λj=>mf hl (brk_val (b:=cE t l (bZ l)) b2 gS j)))
 have m2:PhiS D 159 [BR (cE t l (bZ l))]=some [sl cv (edsB (cE t l (bZ l)).wins (bZ l) (cE t l (bZ l)).wins.length)]:=m2;refine am ?_;unfold Up;simp[cV,aW,eR,nw,phi (acN hl ht h1 h2 gS),iY,m2,phi (G0 hl ht hr hE),EV];rfl
theorem c61:Ans D 78 [F l,R t] [KT (tD t l),.i64 0]:=by
 have m1:=phi (ku l);rw[dH.2 hl] at m1;have m2:=phi (nG ht);rw[hr,show okE true=0 from rfl] at m2
 refine am ?_;unfold k61;simp[aW,aY,m1,m2,EV,phi (Bw (l:=l) (t:=t) (by have:=hl.1;omega)),phi (acP hl),phi (acT hl ht hr),qo,Pg]
theorem acU:Ans D 123 [CL (newC l t),F l] [HT (wZ t l),.i64 0]:=by
 have hE:=wj (t:=t) hl;have nw:(newC l t).now=t:=rfl;refine am ?_;unfold Ul;simp[cV,aW,eR,nw,phi (Sw hl ht hr (rK hl) (FQ hl)),oU,phi (Nj hl ht hr hE),EV];rfl
theorem c57:Ans D 71 [F l,R t] [HT (wZ t l),.i64 0]:=by
 refine am ?_;unfold k57;simp[aW,aY,phi (Bx hl ht hr),cV,EV,phi (acU hl ht hr),qp]
theorem acV:Ans D 132 [CL (newC l t),F l] [HT (wZ t l),.i64 0]:=by
 have hE:=wj (t:=t) hl;have nw:(newC l t).now=t:=rfl;have m2:=phi (Sv (x:=cart t l) (rK hl) (by rw[kA hl];have:=hl.1;omega));rw[kA hl] at m2;refine am ?_;unfold Us;simp[cV,aW,eR,nw,phi (Sz hl ht),oU,m2,phi (G0 hl ht hr hE),EV];rfl
theorem c62:Ans D 79 [F l,R t] [HT (wZ t l),.i64 0]:=by
 have m1:=phi (ku l);rw[dH.2 hl] at m1;have m2:=phi (nG ht);rw[hr,show okE true=0 from rfl] at m2
 refine am ?_;unfold k62;simp[aW,aY,m1,m2,EV,phi (Bw (l:=l) (t:=t) (by have:=hl.1;omega)),phi (acV hl ht hr),qp,ZT]
theorem acW:Ans D 124 [CL (newC l t),F l] [KH (xa t l),.i64 0]:=by
 have hE:=wg (t:=t) hl;have nw:(newC l t).now=t:=rfl;refine am ?_;unfold Um;simp[cV,aW,eR,nw,phi (Su hl ht hr),phi (Nj hl ht hr hE),EV];rfl
theorem c58:Ans D 72 [F l,R t] [KH (xa t l),.i64 0]:=by
 refine am ?_;unfold k58;simp[aW,aY,phi (Bx hl ht hr),cV,EV,phi (acW hl ht hr),jX]
theorem acX:Ans D 133 [CL (newC l t),F l] [KH (xa t l),.i64 0]:=by
 have hE:=wg (t:=t) hl;have nw:(newC l t).now=t:=rfl;refine am ?_;unfold Ut;simp[cV,aW,eR,nw,phi (Sr hl ht),phi (Ss (l:=l) (up:=eC t l) (qI t l).symm (by have:=hl.1;omega)),phi (G0 hl ht hr hE),EV];rfl
theorem c63:Ans D 80 [F l,R t] [KH (xa t l),.i64 0]:=by
 have m1:=phi (ku l);rw[dH.2 hl] at m1;have m2:=phi (nG ht);rw[hr,show okE true=0 from rfl] at m2
 refine am ?_;unfold k63;simp[aW,aY,m1,m2,EV,phi (Bw (l:=l) (t:=t) (by have:=hl.1;omega)),phi (acX hl ht hr),jX,ZU]
end
set_option linter.unusedSimpArgs false
def kh0 (k:KHeap):RF.ev (.cell 0) [KH k]=some (.i64 k.clock.now.num):=rfl
def kh1 (k:KHeap):RF.ev (.cell 1) [KH k]=some (.i64 k.clock.now.den):=rfl
def kh2 (k:KHeap):RF.ev (.cell 2) [KH k]=some (sl row k.clock.pts):=rfl
def kh3 (k:KHeap):RF.ev (.cell 3) [KH k]=some (.i64 k.clock.certs.next):=rfl
def kh4 (k:KHeap):RF.ev (.cell 4) [KH k]=some (sl hrow k.clock.certs.list):=rfl
def kh5 (k:KHeap):RF.ev (.cell 5) [KH k]=some (sl I1 k.clock.agenda.slots.uses):=rfl
def kh6 (k:KHeap):RF.ev (.cell 6) [KH k]=some (sl B1 k.clock.agenda.slots.used):=rfl
def kh7 (k:KHeap):RF.ev (.cell 7) [KH k]=some (sl I1 k.clock.agenda.slots.free):=rfl
def kh8 (k:KHeap):RF.ev (.cell 8) [KH k]=some (sl cw k.clock.agenda.heap):=rfl
def kh9 (k:KHeap):RF.ev (.cell 9) [KH k]=some (sl I1 k.clock.agenda.wher):=rfl
def G1 (k:KHeap):RF.ev (.cell 10) [KH k]=some (sl cF k.clock.due):=rfl
def G2 (k:KHeap):RF.ev (.cell 11) [KH k]=some (sl I1 k.heap):=rfl
def kt0 (k:KTourn):RF.ev (.cell 0) [KT k]=some (.i64 k.clock.now.num):=rfl
def kt1 (k:KTourn):RF.ev (.cell 1) [KT k]=some (.i64 k.clock.now.den):=rfl
def kt2 (k:KTourn):RF.ev (.cell 2) [KT k]=some (sl row k.clock.pts):=rfl
def kt3 (k:KTourn):RF.ev (.cell 3) [KT k]=some (.i64 k.clock.certs.next):=rfl
def kt4 (k:KTourn):RF.ev (.cell 4) [KT k]=some (sl hrow k.clock.certs.list):=rfl
def kt5 (k:KTourn):RF.ev (.cell 5) [KT k]=some (sl I1 k.clock.agenda.slots.uses):=rfl
def kt6 (k:KTourn):RF.ev (.cell 6) [KT k]=some (sl B1 k.clock.agenda.slots.used):=rfl
def kt7 (k:KTourn):RF.ev (.cell 7) [KT k]=some (sl I1 k.clock.agenda.slots.free):=rfl
def kt8 (k:KTourn):RF.ev (.cell 8) [KT k]=some (sl cw k.clock.agenda.heap):=rfl
def kt9 (k:KTourn):RF.ev (.cell 9) [KT k]=some (sl I1 k.clock.agenda.wher):=rfl
def S4 (k:KTourn):RF.ev (.cell 10) [KT k]=some (sl cF k.clock.due):=rfl
def S5 (k:KTourn):RF.ev (.cell 11) [KT k]=some (sl I1 k.brk.places):=rfl
def S6 (k:KTourn):RF.ev (.cell 12) [KT k]=some (sl I1 k.brk.wins):=rfl
def ht0 (k:Heater):RF.ev (.cell 0) [HT k]=some (.i64 k.clock.now.num):=rfl
def ht1 (k:Heater):RF.ev (.cell 1) [HT k]=some (.i64 k.clock.now.den):=rfl
def ht2 (k:Heater):RF.ev (.cell 2) [HT k]=some (sl row k.clock.pts):=rfl
def ht3 (k:Heater):RF.ev (.cell 3) [HT k]=some (.i64 k.clock.certs.next):=rfl
def ht4 (k:Heater):RF.ev (.cell 4) [HT k]=some (sl hrow k.clock.certs.list):=rfl
def ht5 (k:Heater):RF.ev (.cell 5) [HT k]=some (sl I1 k.clock.agenda.slots.uses):=rfl
def ht6 (k:Heater):RF.ev (.cell 6) [HT k]=some (sl B1 k.clock.agenda.slots.used):=rfl
def ht7 (k:Heater):RF.ev (.cell 7) [HT k]=some (sl I1 k.clock.agenda.slots.free):=rfl
def ht8 (k:Heater):RF.ev (.cell 8) [HT k]=some (sl cw k.clock.agenda.heap):=rfl
def ht9 (k:Heater):RF.ev (.cell 9) [HT k]=some (sl I1 k.clock.agenda.wher):=rfl
def S7 (k:Heater):RF.ev (.cell 10) [HT k]=some (sl cF k.clock.due):=rfl
def S8 (k:Heater):RF.ev (.cell 11) [HT k]=some (.i64 k.tree.root):=rfl
def S9 (k:Heater):RF.ev (.cell 12) [HT k]=some (sl cL k.tree.nodes):=rfl
def BA (g:Int)(k:KHeap):RF.ev .agg [.v (.int .u8 g),.i64 k.clock.now.num,.i64 k.clock.now.den,sl row k.clock.pts,.i64 k.clock.certs.next,sl hrow k.clock.certs.list,sl I1 k.clock.agenda.slots.uses,sl B1 k.clock.agenda.slots.used,sl I1 k.clock.agenda.slots.free,sl cw k.clock.agenda.heap,sl I1 k.clock.agenda.wher,sl cF k.clock.due,sl I1 k.heap,.v (.int .i64 0),.v (.int .i64 0),.sl [],.v (.int .i64 0),.sl [],.sl [],.sl [],.sl [],.sl [],.sl [],.sl [],.sl [],.sl [],.v (.int .i64 0),.v (.int .i64 0),.sl [],.v (.int .i64 0),.sl [],.sl [],.sl [],.sl [],.sl [],.sl [],.sl [],.v (.int .i64 0),.sl [],.v (.int .i64 0),.v (.int .i64 0),.sl [],.v (.int .i64 0),.sl [],.sl [],.sl [],.sl [],.sl [],.sl [],.sl [],.sl []]=some (CHO ⟨g,k,zKT,zHT,zKH⟩):=rfl
def BB (g:Int)(k:KTourn):RF.ev .agg [.v (.int .u8 g),.v (.int .i64 0),.v (.int .i64 0),.sl [],.v (.int .i64 0),.sl [],.sl [],.sl [],.sl [],.sl [],.sl [],.sl [],.sl [],.i64 k.clock.now.num,.i64 k.clock.now.den,sl row k.clock.pts,.i64 k.clock.certs.next,sl hrow k.clock.certs.list,sl I1 k.clock.agenda.slots.uses,sl B1 k.clock.agenda.slots.used,sl I1 k.clock.agenda.slots.free,sl cw k.clock.agenda.heap,sl I1 k.clock.agenda.wher,sl cF k.clock.due,sl I1 k.brk.places,sl I1 k.brk.wins,.v (.int .i64 0),.v (.int .i64 0),.sl [],.v (.int .i64 0),.sl [],.sl [],.sl [],.sl [],.sl [],.sl [],.sl [],.v (.int .i64 0),.sl [],.v (.int .i64 0),.v (.int .i64 0),.sl [],.v (.int .i64 0),.sl [],.sl [],.sl [],.sl [],.sl [],.sl [],.sl [],.sl []]=some (CHO ⟨g,zKH,k,zHT,zKH⟩):=rfl
def BC (g:Int)(k:Heater):RF.ev .agg [.v (.int .u8 g),.v (.int .i64 0),.v (.int .i64 0),.sl [],.v (.int .i64 0),.sl [],.sl [],.sl [],.sl [],.sl [],.sl [],.sl [],.sl [],.v (.int .i64 0),.v (.int .i64 0),.sl [],.v (.int .i64 0),.sl [],.sl [],.sl [],.sl [],.sl [],.sl [],.sl [],.sl [],.sl [],.i64 k.clock.now.num,.i64 k.clock.now.den,sl row k.clock.pts,.i64 k.clock.certs.next,sl hrow k.clock.certs.list,sl I1 k.clock.agenda.slots.uses,sl B1 k.clock.agenda.slots.used,sl I1 k.clock.agenda.slots.free,sl cw k.clock.agenda.heap,sl I1 k.clock.agenda.wher,sl cF k.clock.due,.i64 k.tree.root,sl cL k.tree.nodes,.v (.int .i64 0),.v (.int .i64 0),.sl [],.v (.int .i64 0),.sl [],.sl [],.sl [],.sl [],.sl [],.sl [],.sl [],.sl []]=some (CHO ⟨g,zKH,zKT,k,zKH⟩):=rfl
def BD (g:Int)(k:KHeap):RF.ev .agg [.v (.int .u8 g),.v (.int .i64 0),.v (.int .i64 0),.sl [],.v (.int .i64 0),.sl [],.sl [],.sl [],.sl [],.sl [],.sl [],.sl [],.sl [],.v (.int .i64 0),.v (.int .i64 0),.sl [],.v (.int .i64 0),.sl [],.sl [],.sl [],.sl [],.sl [],.sl [],.sl [],.sl [],.sl [],.v (.int .i64 0),.v (.int .i64 0),.sl [],.v (.int .i64 0),.sl [],.sl [],.sl [],.sl [],.sl [],.sl [],.sl [],.v (.int .i64 0),.sl [],.i64 k.clock.now.num,.i64 k.clock.now.den,sl row k.clock.pts,.i64 k.clock.certs.next,sl hrow k.clock.certs.list,sl I1 k.clock.agenda.slots.uses,sl B1 k.clock.agenda.slots.used,sl I1 k.clock.agenda.slots.free,sl cw k.clock.agenda.heap,sl I1 k.clock.agenda.wher,sl cF k.clock.due,sl I1 k.heap]=some (CHO ⟨g,zKH,zKT,zHT,k⟩):=rfl
def zCH:Choice:=⟨0,zKH,zKT,zHT,zKH⟩
def Ta (g:Int):RF.ev .agg [.v (.int .u8 g),.v (.int .i64 0),.v (.int .i64 0),.sl [],.v (.int .i64 0),.sl [],.sl [],.sl [],.sl [],.sl [],.sl [],.sl [],.sl [],.v (.int .i64 0),.v (.int .i64 0),.sl [],.v (.int .i64 0),.sl [],.sl [],.sl [],.sl [],.sl [],.sl [],.sl [],.sl [],.sl [],.v (.int .i64 0),.v (.int .i64 0),.sl [],.v (.int .i64 0),.sl [],.sl [],.sl [],.sl [],.sl [],.sl [],.sl [],.v (.int .i64 0),.sl [],.v (.int .i64 0),.v (.int .i64 0),.sl [],.v (.int .i64 0),.sl [],.sl [],.sl [],.sl [],.sl [],.sl [],.sl [],.sl []]=some (CHO ⟨g,zKH,zKT,zHT,zKH⟩):=rfl
def uT:RF.ev .agg [.v (.int .i64 0),.v (.int .i64 0),.sl [],.v (.int .i64 0),.sl [],.sl [],.sl [],.sl [],.sl [],.sl [],.sl [],.sl []]=some (KH zKH):=rfl
def G3:RF.ev .agg [.v (.int .i64 0),.v (.int .i64 0),.sl [],.v (.int .i64 0),.sl [],.sl [],.sl [],.sl [],.sl [],.sl [],.sl [],.sl [],.sl []]=some (KT zKT):=rfl
def G4:RF.ev .agg [.v (.int .i64 0),.v (.int .i64 0),.sl [],.v (.int .i64 0),.sl [],.sl [],.sl [],.sl [],.sl [],.sl [],.sl [],.v (.int .i64 0),.sl []]=some (HT zHT):=rfl
def Ph:RF.ev .agg [.v (.int .i64 0),.v (.int .i64 0),.sl [],.v (.int .i64 0),.sl [],.sl [],.sl [],.sl [],.sl [],.sl [],.sl []]=some (CL zC):=rfl
def bE (l:List Pt)(t:Rt):Int:=if eg l=0 then okE (rok t) else eg l
def bE_ok {l:List Pt}{t:Rt}(h:bE l t=0):okF l/\ rok t=true:=by
 unfold bE at h;split at h
 .rename_i h1;exact⟨dH.1 h1,AU.1 h⟩
 .grind
def As {l:List Pt}{t:Rt}(ht:bi t)(h:bE l t≠0):Ans D 74 [F l,R t] [CL zC,.i64 (bE l t)]:=by
 refine am ?_;unfold No;unfold bE at h|-;by_cases h1:eg l=0
 .rw[ad h1] at h|-;simp[aW,aY,phi (qm l),phi (c43 ht),h1,EV,h,Ph]
 .rw[ac h1] at h|-;simp[aW,aY,phi (qm l),EV,h,Ph]
section
variable (t:Rt)(l:List Pt)
def uU:KHeap:=if bE l t=0 then uS t l else zKH
def qK:KTourn:=if bE l t=0 then tD t l else zKT
def uV:Heater:=if bE l t=0 then wZ t l else zHT
def uW:KHeap:=if bE l t=0 then xa t l else zKH
end
section
variable {l:List Pt}{t:Rt}(ht:bi t)
include ht
theorem acY:Ans D 69 [F l,R t] [KH (uU t l),.i64 (bE l t)]:=by
 unfold uU;by_cases h:bE l t=0
 .obtain⟨h1,h2⟩:=bE_ok h;rw[ad h,h];exact c55 h1 ht h2
 .rw[ac h];refine am ?_;unfold k55;simp[aW,aY,phi (As ht h),cV,EV,h,uT]
theorem acZ:Ans D 70 [F l,R t] [KT (qK t l),.i64 (bE l t)]:=by
 unfold qK;by_cases h:bE l t=0
 .obtain⟨h1,h2⟩:=bE_ok h;rw[ad h,h];exact c56 h1 ht h2
 .rw[ac h];refine am ?_;unfold k56;simp[aW,aY,phi (As ht h),cV,EV,h,G3]
theorem ac0:Ans D 71 [F l,R t] [HT (uV t l),.i64 (bE l t)]:=by
 unfold uV;by_cases h:bE l t=0
 .obtain⟨h1,h2⟩:=bE_ok h;rw[ad h,h];exact c57 h1 ht h2
 .rw[ac h];refine am ?_;unfold k57;simp[aW,aY,phi (As ht h),cV,EV,h,G4]
theorem ac1:Ans D 72 [F l,R t] [KH (uW t l),.i64 (bE l t)]:=by
 unfold uW;by_cases h:bE l t=0
 .obtain⟨h1,h2⟩:=bE_ok h;rw[ad h,h];exact c58 h1 ht h2
 .rw[ac h];refine am ?_;unfold k58;simp[aW,aY,phi (As ht h),cV,EV,h,uT]
theorem ac2:Ans D 77 [F l,R t] [KH (uU t l),.i64 (bE l t)]:=by
 unfold uU;by_cases h:bE l t=0
 .obtain⟨h1,h2⟩:=bE_ok h;rw[ad h,h];exact c60 h1 ht h2
 .rw[ac h];refine am ?_;unfold k60;unfold bE at h|-;by_cases h1:eg l=0
  .rw[ad h1] at h|-;have h2:rok t=false:=by
    cases e:rok t with
    |true=>rw[e] at h;exact absurd rfl h
    |false=>rfl
   have m:=phi (nG ht);rw[h2] at m|-;have e8:okE false=8:=rfl;rw[e8] at m|-;have n8:decide ((8:Int)=0)=false:=rfl;simp[aW,aY,phi (ku l),h1,m,EV,uT]
  .rw[ac h1];simp[aW,aY,phi (ku l),EV,h1,uT]
theorem ac3:Ans D 78 [F l,R t] [KT (qK t l),.i64 (bE l t)]:=by
 unfold qK;by_cases h:bE l t=0
 .obtain⟨h1,h2⟩:=bE_ok h;rw[ad h,h];exact c61 h1 ht h2
 .rw[ac h];refine am ?_;unfold k61;unfold bE at h|-;by_cases h1:eg l=0
  .rw[ad h1] at h|-;have h2:rok t=false:=by
    cases e:rok t with
    |true=>rw[e] at h;exact absurd rfl h
    |false=>rfl
   have m:=phi (nG ht);rw[h2] at m|-;have e8:okE false=8:=rfl;rw[e8] at m|-;have n8:decide ((8:Int)=0)=false:=rfl;simp[aW,aY,phi (ku l),h1,m,EV,G3]
  .rw[ac h1];simp only[au,aW,aY,phi (ku l),EV,h1,bb,aV,ay,G3]
theorem ac4:Ans D 79 [F l,R t] [HT (uV t l),.i64 (bE l t)]:=by
 unfold uV;by_cases h:bE l t=0
 .obtain⟨h1,h2⟩:=bE_ok h;rw[ad h,h];exact c62 h1 ht h2
 .rw[ac h];refine am ?_;unfold k62;unfold bE at h|-;by_cases h1:eg l=0
  .rw[ad h1] at h|-;have h2:rok t=false:=by
    cases e:rok t with
    |true=>rw[e] at h;exact absurd rfl h
    |false=>rfl
   have m:=phi (nG ht);rw[h2] at m|-;have e8:okE false=8:=rfl;rw[e8] at m|-;have n8:decide ((8:Int)=0)=false:=rfl;simp[aW,aY,phi (ku l),h1,m,EV,G4]
  .rw[ac h1];simp[aW,aY,phi (ku l),EV,h1,G4]
theorem ac5:Ans D 80 [F l,R t] [KH (uW t l),.i64 (bE l t)]:=by
 unfold uW;by_cases h:bE l t=0
 .obtain⟨h1,h2⟩:=bE_ok h;rw[ad h,h];exact c63 h1 ht h2
 .rw[ac h];refine am ?_;unfold k63;unfold bE at h|-;by_cases h1:eg l=0
  .rw[ad h1] at h|-;have h2:rok t=false:=by
    cases e:rok t with
    |true=>rw[e] at h;exact absurd rfl h
    |false=>rfl
   have m:=phi (nG ht);rw[h2] at m|-;have e8:okE false=8:=rfl;rw[e8] at m|-;have n8:decide ((8:Int)=0)=false:=rfl;simp[aW,aY,phi (ku l),h1,m,EV,uT]
  .rw[ac h1];simp[aW,aY,phi (ku l),EV,h1,uT]
end
def eB (c:Choice)(e:Int):Choice:=if e=0 then c else zCH
def c59 (c:Choice)(e:Int):Ans D 73 [CHO c,.i64 e] [CHO (eB c e),.i64 e]:=by
 refine am ?_;unfold k59 eB;simp[eG,EV];by_cases h:e=0
 .subst h;rfl
 .simp[h];rfl
def c65 (c:Choice)(e:Int):Ans D 81 [CHO c,.i64 e] [CHO (eB c e),.i64 e]:=by
 refine am ?_;unfold k65 eB;simp[eG,EV];by_cases h:e=0
 .subst h;rfl
 .simp[h];rfl
def eZ (tag:Int)(l:List Pt)(t:Rt):Choice:=if tag=1 then⟨1,uU t l,zKT,zHT,zKH⟩ else if tag=2 then⟨2,zKH,qK t l,zHT,zKH⟩ else if tag=3 then⟨3,zKH,zKT,uV t l,zKH⟩ else⟨4,zKH,zKT,zHT,uW t l⟩
def cG (l:List Pt)(t:Rt):Int:=if bE l t=0 then dl t else bE l t
def fi (tag:Int)(l:List Pt)(t:Rt):List PV:=if tag=1\/tag=2\/tag=3\/tag=4 then [CHO (eB (eZ tag l t) (cG l t)),.i64 (cG l t)] else [CHO zCH,.i64 2]
def BE {tag:Int}{l:List Pt}{t:Rt}:(fi tag l t).length=2:=by unfold fi;split<;>rfl
def c20 (tag:Int){l:List Pt}{t:Rt}(ht:bi t):Ans D 35 [.v (.int .u8 tag),F l,R t] (fi tag l t):=by
 have hk:=λ(c:Choice) (e:Int)=>phi (c59 c e);refine an (hl:=BE) ⟨1,?_⟩;unfold k20;simp only[au,aW,aY,u8E,EV,aa];by_cases t1:tag=1
 .subst t1;rw[ad rfl];simp only[au,EV,phi (acY (l:=l) ht),jX,kh0,kh1,kh2,kh3,kh4,kh5,kh6,kh7,kh8,kh9,G1,G2];unfold xd;simp only[EV,aa];by_cases hb:bE l t=0
  .rw[ad hb];have hE:cG l t=dl t:=ad hb;simp only[au,EV,phi (c44 ht)];unfold oe;simp only[au,EV,BA,hk,eG];rw[show fi 1 l t=[CHO (eB (eZ 1 l t) (cG l t)),.i64 (cG l t)] from rfl,hE];rfl
  .rw[ac hb];have hE:cG l t=bE l t:=ac hb;unfold oe;simp only[au,EV,BA,hk,eG];rw[show fi 1 l t=[CHO (eB (eZ 1 l t) (cG l t)),.i64 (cG l t)] from rfl,hE];rfl
 by_cases t2:tag=2
 .subst t2;rw[ac (by decide),ad rfl];simp only[au,EV,phi (acZ (l:=l) ht),qo,kt0,kt1,kt2,kt3,kt4,kt5,kt6,kt7,kt8,kt9,S4,S5,S6,Au];unfold xd;simp only[EV,aa];by_cases hb:bE l t=0
  .rw[ad hb];have hE:cG l t=dl t:=ad hb;simp only[au,EV,phi (c44 ht)];unfold oe;simp only[au,EV,BB,hk,eG];rw[show fi 2 l t=[CHO (eB (eZ 2 l t) (cG l t)),.i64 (cG l t)] from rfl,hE];rfl
  .rw[ac hb];have hE:cG l t=bE l t:=ac hb;unfold oe;simp only[au,EV,BB,hk,eG];rw[show fi 2 l t=[CHO (eB (eZ 2 l t) (cG l t)),.i64 (cG l t)] from rfl,hE];rfl
 by_cases t3:tag=3
 .subst t3;rw[ac (by decide),ac (by decide),ad rfl];simp only[au,EV,phi (ac0 (l:=l) ht),qp,ht0,ht1,ht2,ht3,ht4,ht5,ht6,ht7,ht8,ht9,S7,S8,S9,G7,Au];unfold xd;simp only[EV,aa];by_cases hb:bE l t=0
  .rw[ad hb];have hE:cG l t=dl t:=ad hb;simp only[au,EV,phi (c44 ht)];unfold oe;simp only[au,EV,BC,hk,eG];rw[show fi 3 l t=[CHO (eB (eZ 3 l t) (cG l t)),.i64 (cG l t)] from rfl,hE];rfl
  .rw[ac hb];have hE:cG l t=bE l t:=ac hb;unfold oe;simp only[au,EV,BC,hk,eG];rw[show fi 3 l t=[CHO (eB (eZ 3 l t) (cG l t)),.i64 (cG l t)] from rfl,hE];rfl
 by_cases t4:tag=4
 .subst t4;rw[ac (by decide),ac (by decide),ac (by decide),ad rfl];simp only[au,EV,phi (ac1 (l:=l) ht),jX,kh0,kh1,kh2,kh3,kh4,kh5,kh6,kh7,kh8,kh9,G1,G2,G7,Au];unfold xd;simp only[EV,aa];by_cases hb:bE l t=0
  .rw[ad hb];have hE:cG l t=dl t:=ad hb;simp only[au,EV,phi (c44 ht)];unfold oe;simp only[au,EV,BD,hk,eG];rw[show fi 4 l t=[CHO (eB (eZ 4 l t) (cG l t)),.i64 (cG l t)] from rfl,hE];rfl
  .rw[ac hb];have hE:cG l t=bE l t:=ac hb;unfold oe;simp only[au,EV,BD,hk,eG];rw[show fi 4 l t=[CHO (eB (eZ 4 l t) (cG l t)),.i64 (cG l t)] from rfl,hE];rfl
 rw[ac t1,ac t2,ac t3,ac t4];simp only[EV,Ta];unfold fi;rw[ac (by omega)];rfl
def asked_two {t:Rt}(h:rok t=true):dl t=0\/dl t=2:=by
 unfold dl
 grind
def c21 (tag:Int){l:List Pt}{t:Rt}(ht:bi t):Ans D 37 [.v (.int .u8 tag),F l,R t] (fi tag l t):=by
 have hk:=λ(c:Choice) (e:Int)=>phi (c65 c e);have n2:decide ((2:Int)=0)=false:=rfl;refine an (hl:=BE) ⟨1,?_⟩;unfold k21;simp only[au,aW,aY,u8E,EV,aa];by_cases t1:tag=1
 .subst t1;rw[ad rfl];simp only[au,EV,phi (ac2 (l:=l) ht),jX,kh0,kh1,kh2,kh3,kh4,kh5,kh6,kh7,kh8,kh9,G1,G2];unfold uY;simp only[EV,aa];by_cases hb:bE l t=0
  .rw[ad hb];have hE:cG l t=dl t:=ad hb;simp only[au,EV,phi (c64 ht)];unfold mS;simp only[EV];rcases asked_two (bE_ok hb).2 with h|h
   .simp only[h,az,aJ,aw,ax];unfold i6;simp only[au,EV,BA,hk,eG,hb];rw[h] at hE;rw[show fi 1 l t=[CHO (eB (eZ 1 l t) (cG l t)),.i64 (cG l t)] from rfl,hE];rfl
   .simp only[h,n2,aV,ay];unfold i6;simp only[au,EV,BA,hk,eG];rw[h] at hE;rw[show fi 1 l t=[CHO (eB (eZ 1 l t) (cG l t)),.i64 (cG l t)] from rfl,hE];rfl
  .rw[ac hb];have hE:cG l t=bE l t:=ac hb;unfold mS;simp only[EV,aw,ax];unfold i6;simp only[au,EV,BA,hk,eG];rw[show fi 1 l t=[CHO (eB (eZ 1 l t) (cG l t)),.i64 (cG l t)] from rfl,hE];rfl
 by_cases t2:tag=2
 .subst t2;rw[ac (by decide),ad rfl];simp only[au,EV,phi (ac3 (l:=l) ht),qo,kt0,kt1,kt2,kt3,kt4,kt5,kt6,kt7,kt8,kt9,S4,S5,S6,xe];unfold uY;simp only[EV,aa];by_cases hb:bE l t=0
  .rw[ad hb];have hE:cG l t=dl t:=ad hb;simp only[au,EV,phi (c64 ht)];unfold mS;simp only[EV];rcases asked_two (bE_ok hb).2 with h|h
   .simp only[h,az,aJ,aw,ax];unfold i6;simp only[au,EV,BB,hk,eG,hb];rw[h] at hE;rw[show fi 2 l t=[CHO (eB (eZ 2 l t) (cG l t)),.i64 (cG l t)] from rfl,hE];rfl
   .simp only[h,n2,aV,ay];unfold i6;simp only[au,EV,BB,hk,eG];rw[h] at hE;rw[show fi 2 l t=[CHO (eB (eZ 2 l t) (cG l t)),.i64 (cG l t)] from rfl,hE];rfl
  .rw[ac hb];have hE:cG l t=bE l t:=ac hb;unfold mS;simp only[EV,aw,ax];unfold i6;simp only[au,EV,BB,hk,eG];rw[show fi 2 l t=[CHO (eB (eZ 2 l t) (cG l t)),.i64 (cG l t)] from rfl,hE];rfl
 by_cases t3:tag=3
 .subst t3;rw[ac (by decide),ac (by decide),ad rfl];simp only[au,EV,phi (ac4 (l:=l) ht),qp,ht0,ht1,ht2,ht3,ht4,ht5,ht6,ht7,ht8,ht9,S7,S8,S9,Av,xe];unfold uY;simp only[EV,aa];by_cases hb:bE l t=0
  .rw[ad hb];have hE:cG l t=dl t:=ad hb;simp only[au,EV,phi (c64 ht)];unfold mS;simp only[EV];rcases asked_two (bE_ok hb).2 with h|h
   .simp only[h,az,aJ,aw,ax];unfold i6;simp only[au,EV,BC,hk,eG,hb];rw[h] at hE;rw[show fi 3 l t=[CHO (eB (eZ 3 l t) (cG l t)),.i64 (cG l t)] from rfl,hE];rfl
   .simp only[h,n2,aV,ay];unfold i6;simp only[au,EV,BC,hk,eG];rw[h] at hE;rw[show fi 3 l t=[CHO (eB (eZ 3 l t) (cG l t)),.i64 (cG l t)] from rfl,hE];rfl
  .rw[ac hb];have hE:cG l t=bE l t:=ac hb;unfold mS;simp only[EV,aw,ax];unfold i6;simp only[au,EV,BC,hk,eG];rw[show fi 3 l t=[CHO (eB (eZ 3 l t) (cG l t)),.i64 (cG l t)] from rfl,hE];rfl
 by_cases t4:tag=4
 .subst t4;rw[ac (by decide),ac (by decide),ac (by decide),ad rfl];simp only[au,EV,phi (ac5 (l:=l) ht),jX,kh0,kh1,kh2,kh3,kh4,kh5,kh6,kh7,kh8,kh9,G1,G2,G8,Av,xe];unfold uY;simp only[EV,aa];by_cases hb:bE l t=0
  .rw[ad hb];have hE:cG l t=dl t:=ad hb;simp only[au,EV,phi (c64 ht)];unfold mS;simp only[EV];rcases asked_two (bE_ok hb).2 with h|h
   .simp only[h,az,aJ,aw,ax];unfold i6;simp only[au,EV,BD,hk,eG,hb];rw[h] at hE;rw[show fi 4 l t=[CHO (eB (eZ 4 l t) (cG l t)),.i64 (cG l t)] from rfl,hE];rfl
   .simp only[h,n2,aV,ay];unfold i6;simp only[au,EV,BD,hk,eG];rw[h] at hE;rw[show fi 4 l t=[CHO (eB (eZ 4 l t) (cG l t)),.i64 (cG l t)] from rfl,hE];rfl
  .rw[ac hb];have hE:cG l t=bE l t:=ac hb;unfold mS;simp only[EV,aw,ax];unfold i6;simp only[au,EV,BD,hk,eG];rw[show fi 4 l t=[CHO (eB (eZ 4 l t) (cG l t)),.i64 (cG l t)] from rfl,hE];rfl
 rw[ac t1,ac t2,ac t3,ac t4];simp only[EV,G8,Av,xe];unfold uY;simp only[EV,n2,aw,ax];unfold mS;simp only[EV,aw,ax];unfold i6;simp only[au,EV,Ta,hk,eG];unfold fi;rw[ac (by omega)];rfl
def qu:okE true=0:=rfl
def wm {c:Choice}(h:ei c):dp (ed c):=by
 unfold ei at h;unfold ed;by_cases t1:c.tag=1
 .rw[ad t1] at h|-;exact h.1
 rw[ac t1] at h|-;by_cases t2:c.tag=2
 .rw[ad t2] at h|-;exact h.1
 rw[ac t2] at h|-;by_cases t3:c.tag=3
 .rw[ad t3] at h|-;exact h.1
 rw[ac t3] at h|-;by_cases t4:c.tag=4
 .rw[ad t4] at h;exact h.1
 .grind
open Classical in
def yJ (c:Choice):Rt×List Pt×Int:=if jM c then((ed c).now,(ed c).pts,0) else(⟨0,0⟩,[],8)
def ZV:RF.ev .agg [.v (.int .i64 0),.v (.int .i64 0)]=some (R ⟨0,0⟩):=rfl
def ZW:RF.ev .agg [.sl []]=some (F []):=rfl
open Classical in
def c22 {c:Choice}(h64:Cho64 c)(hg:gCh c=false):Ans D 39 [CHO c] [R (yJ c).1,F (yJ c).2.1,.i64 (yJ c).2.2]:=by
 have m:=phi (c26 h64 hg);refine am ?_;unfold k22 yJ;by_cases h:jM c
 .rw[aq h,qu] at m;have hl:=(wm h.2.1).2.1.1;simp[eG,m,EV,phi (c66 c),cV,eR,jW,phi (d67 (l:=(ed c).pts) (by omega)),aY,pR,bm,M8,ad h]
 .rw[ai h] at m;have e8:okE false=8:=rfl;rw[e8] at m;have n8:decide ((8:Int)=0)=false:=rfl;simp[eG,m,EV,ZV,ZW,ac h]
structure ChW (c:Choice):Prop where
 h1:gW c.heap.clock/\ c.heap.heap.length<=1000
 h2:gW c.tourn.clock/\ c.tourn.brk.places.length<=1000/\ c.tourn.brk.wins.length<=1000
 h3:gW c.heater.clock/\ c.heater.tree.nodes.length<=1000
 h4:gW c.hanger.clock/\ c.hanger.heap.length<=1000
def ju:gW zC:=⟨by decide,by decide,by decide,rfl⟩
def G5:ChW zCH:=⟨⟨ju,by decide⟩,⟨ju,by decide,by decide⟩,⟨ju,by decide⟩,⟨ju,by decide⟩⟩
def xb {l:List Pt}{t:Rt}{es:List Crt}(hl:okF l)(ht:bi t)(hr:rok t=true)(hE:EdgOk l es):gW (certAll (newC l t) es):=by
 have:=oB hE hl ht hr es.length (aD _);rw[gA] at this;exact GZ this.fresh.ok
def Tb {tag:Int}{l:List Pt}{t:Rt}(ht:bi t)(hb:bE l t=0):ChW (eZ tag l t):=by
 obtain⟨hl,hr⟩:=bE_ok hb;have h64:=hl.1;obtain⟨f0,f1,f2⟩:=od hl;unfold eZ uU qK uV uW;simp only[ad hb];split
 .refine⟨⟨xb hl ht hr (wd hl tA),?_⟩,⟨ju,bN _,bN _⟩,⟨ju,bN _⟩,⟨ju,bN _⟩⟩;show(dZ t l l.length).length<=1000
  rw[kT (aD _)];omega
 split
 .refine⟨⟨ju,bN _⟩,⟨xb hl ht hr (tC hl f1 f2 gS (iT hl)),?_,?_⟩,⟨ju,bN _⟩,⟨ju,bN _⟩⟩
  .show(bZ l).length<=1000;omega
  .have:=(rT (t:=t) hl f1 f2 gS (iT hl)).1;show(cE t l (bZ l)).wins.length<=1000
   omega
 split
 .refine⟨⟨ju,bN _⟩,⟨ju,bN _,bN _⟩,⟨xb hl ht hr (wj hl),?_⟩,⟨ju,bN _⟩⟩;show(cart t l).nodes.length<=1000
  rw[kA hl];omega
 .refine⟨⟨ju,bN _⟩,⟨ju,bN _,bN _⟩,⟨ju,bN _⟩,⟨xb hl ht hr (wg hl),?_⟩⟩;show(eC t l).length<=1000
  rw[qI];omega
def FV {tag:Int}{l:List Pt}{t:Rt}(ht:bi t):∃(a:Choice) (e:Int),fi tag l t=[CHO a,.i64 e]/\ ChW a:=by
 unfold fi;split
 .refine⟨_,_,rfl,?_⟩;unfold eB;split
  .rename_i h;unfold cG at h;split at h
   .rename_i hb;exact Tb ht hb
   .grind
  .exact G5
 .exact⟨_,_,rfl,G5⟩
def c17 {a:Choice}(h:ChW a):Ans D 30 [CHO a,CHO a] [.bool true]:=by
 have m1:=phi (R4 (t:=a.heap) h.h1);have m2:=phi (R6 (t:=a.tourn) h.h2);have m3:=phi (R7 (t:=a.heater) h.h3);have m4:=phi (R5 (t:=a.hanger) h.h4);refine am ?_;unfold k17;simp[eG,cCH,yr,yu,yw,yx,m1,m2,m3,m4,EV,Pj]
end Go.Proofs.YtndgdhbpojakpaaGreat
