import Derived.Test.YtoeigdpfcnaaeaaGreatC3
import Derived.Test.YtoeigdpfcnaaeaaGreatC1
import Derived.Test.YtoeigdpfcnaaeaaGreatP1
set_option linter.unusedVariables false
set_option linter.unusedSimpArgs false
set_option linter.defProp false
noncomputable section
namespace Go.Proofs.YtoeigdpfcnaaeaaGreat
open Go.Sym Bnd
set_option maxRecDepth 100000
def d67 {l:List Pt}(hl:l.length<=1000):Ans D 66 [sl row l] [sl row l]:=by
 refine am ?_;unfold k67;simp only[EV,ai,aa];have h1:den (bL D) 1 LV [] [sl row l,.i64 (l.length:Int),.bool (decide ((l.length:Int)=0))]=some [sl row l]:=by
  unfold LV;simp[EV,mU (l:=l) (f:=row) (bytes:=24) (z:=3) (by omega) cq,cp]
 by_cases h:(l.length:Int)=0
 .have:l=[]:=bJ (by omega);subst this;rw[ad h];exact o7 rfl h1
 .grind
def Ll {l:List Held}(hl:l.length<=1000):Ans D 365 [sl hrow l] [sl hrow l]:=by
 refine am ?_;unfold abw;simp only[EV,ai,aa];have h1:den (bL D) 1 Ht [] [sl hrow l,.i64 (l.length:Int),.bool (decide ((l.length:Int)=0))]=some [sl hrow l]:=by
  unfold Ht;simp[EV,mU (l:=l) (f:=hrow) (bytes:=24) (z:=3) (by omega) gL,cp]
 by_cases h:(l.length:Int)=0
 .have:l=[]:=bJ (by omega);subst this;rw[ad h];exact o7 rfl h1
 .grind
def Xn {l:List Due}(hl:l.length<=1000):Ans D 366 [sl cR l] [sl cR l]:=by
 refine am ?_;unfold abx;simp only[EV,ai,aa];have h1:den (bL D) 1 Hu [] [sl cR l,.i64 (l.length:Int),.bool (decide ((l.length:Int)=0))]=some [sl cR l]:=by
  unfold Hu;simp[EV,mU (l:=l) (f:=cR) (bytes:=24) (z:=3) (by omega) u9,cp]
 by_cases h:(l.length:Int)=0
 .have:l=[]:=bJ (by omega);subst this;rw[ad h];exact o7 rfl h1
 .grind
def Ru {l:List Evt}(hl:l.length<=1000):Ans D 367 [sl ct l] [sl ct l]:=by
 refine am ?_;unfold aby;simp only[EV,ai,aa];have h1:den (bL D) 1 Hv [] [sl ct l,.i64 (l.length:Int),.bool (decide ((l.length:Int)=0))]=some [sl ct l]:=by
  unfold Hv;simp[EV,mU (l:=l) (f:=ct) (bytes:=40) (z:=5) (by omega) jP,cp]
 by_cases h:(l.length:Int)=0
 .have:l=[]:=bJ (by omega);subst this;rw[ad h];exact o7 rfl h1
 .grind
def Xo {l:List Int}(hl:l.length<=1000):Ans D 449 [sl I1 l] [sl I1 l]:=by
 refine am ?_;unfold ab7;simp only[EV,ai,aa];have h1:den (bL D) 1 HH [] [sl I1 l,.i64 (l.length:Int),.bool (decide ((l.length:Int)=0))]=some [sl I1 l]:=by
  unfold HH;simp[EV,mU (l:=l) (f:=I1) (bytes:=8) (z:=1) (by omega) cA,cp]
 by_cases h:(l.length:Int)=0
 .have:l=[]:=bJ (by omega);subst this;rw[ad h];exact o7 rfl h1
 .grind
structure SSm (s:Slots):Prop where
 uses:s.uses.length<=1000
 used:s.used.length<=1000
 free:s.free.length<=1000
structure ASm (a:Agenda):Prop where
 slots:SSm a.slots
 heap:a.heap.length<=1000
 wher:a.wher.length<=1000
structure CSm (c:Clock):Prop where
 pts:c.pts.length<=1000
 certs:c.certs.list.length<=1000
 agenda:ASm c.agenda
 due:c.due.length<=1000
def ago (l:List Pt):RF.ev .agg [sl row l]=some (F l):=rfl
def agp {l:List Pt}(hl:l.length<=1000):Ans D 287 [F l] [F l]:=by
 refine am ?_;unfold aaH;simp[bv,cG,mU (l:=l) (f:=row) (bytes:=24) (z:=3) (by omega) cq,EV,cp,ago]
def adq (c:Certs):RF.ev .agg [.i64 c.next,sl hrow c.list]=some (CS c):=rfl
def Xp {c:Certs}(hl:c.list.length<=1000):Ans D 377 [CS c] [CS c]:=by
 refine am ?_;unfold abC;simp[kD,nO,gg,mU (l:=c.list) (f:=hrow) (bytes:=24) (z:=3) (by omega) gL,EV,cp,adq]
def Lm (s:Slots):RF.ev .agg [sl I1 s.uses,sl B1 s.used,sl I1 s.free]=some (SL s):=rfl
def Xq {s:Slots}(h:SSm s):Ans D 428 [SL s] [SL s]:=by
 obtain⟨h1,h2,h3⟩:=h;refine am ?_;unfold abY;simp[jS,jT,mn,jU,mU (l:=s.uses) (f:=I1) (bytes:=8) (z:=1) (by omega) cA,mU (l:=s.free) (f:=I1) (bytes:=8) (z:=1) (by omega) cA,mU (l:=s.used) (f:=B1) (bytes:=1) (z:=1) (by omega) uZ,EV,cp,Lm]
def Xr {s:Slots}(h:SSm s):Ans D 440 [SL s] [SL s]:=by
 obtain⟨h1,h2,h3⟩:=h;refine am ?_;unfold ab4;simp[jS,jT,mn,jU,phi (qg h1),phi (K9 h2),EV,cp,Lm]
def TQ (a:Agenda):RF.ev .agg [sl I1 a.slots.uses,sl B1 a.slots.used,sl I1 a.slots.free,sl ct a.heap,sl I1 a.wher]=some (AG a):=rfl
def agq (a:Agenda):RF.ev (.part 0 3) [AG a]=some (SL a.slots):=rfl
def cAG0 (a:Agenda):RF.ev (.cell 0) [AG a]=some (sl I1 a.slots.uses):=rfl
def cAG1 (a:Agenda):RF.ev (.cell 1) [AG a]=some (sl B1 a.slots.used):=rfl
def cAG2 (a:Agenda):RF.ev (.cell 2) [AG a]=some (sl I1 a.slots.free):=rfl
def Xs {a:Agenda}(h:ASm a):Ans D 378 [AG a] [AG a]:=by
 obtain⟨h1,h2,h3⟩:=h;refine am ?_;unfold abD;simp[jE,agq,phi (Xq h1),jS,jT,mn,jU,fE,mo,mU (l:=a.heap) (f:=ct) (bytes:=40) (z:=5) (by omega) jP,mU (l:=a.wher) (f:=I1) (bytes:=8) (z:=1) (by omega) cA,EV,cp,TQ]
def Xt {a:Agenda}(h:ASm a):Ans D 404 [AG a] [AG a]:=by
 obtain⟨h1,h2,h3⟩:=h;refine am ?_;unfold abT;simp[jE,cAG0,cAG1,cAG2,fE,mo,phi (Ru h2),phi (qg h3),EV,cp,TQ]
section
variable (c:Clock)
def wZ:RF.ev (.cell 0) [CL c]=some (.i64 c.now.num):=rfl
def xa:RF.ev (.cell 1) [CL c]=some (.i64 c.now.den):=rfl
def zr:RF.ev (.cell 3) [CL c]=some (.i64 c.certs.next):=rfl
def tz:RF.ev (.cell 5) [CL c]=some (sl I1 c.agenda.slots.uses):=rfl
def tA:RF.ev (.cell 6) [CL c]=some (sl B1 c.agenda.slots.used):=rfl
def tB:RF.ev (.cell 7) [CL c]=some (sl I1 c.agenda.slots.free):=rfl
def gE:RF.ev .agg [.i64 c.now.num,.i64 c.now.den,sl row c.pts,.i64 c.certs.next,sl hrow c.certs.list,sl I1 c.agenda.slots.uses,sl B1 c.agenda.slots.used,sl I1 c.agenda.slots.free,sl ct c.agenda.heap,sl I1 c.agenda.wher,sl cR c.due]=some (CL c):=rfl
def Xu:RF.ev .agg [R c.now,sl row c.pts,.i64 c.certs.next,sl hrow c.certs.list,sl I1 c.agenda.slots.uses,sl B1 c.agenda.slots.used,sl I1 c.agenda.slots.free,sl ct c.agenda.heap,sl I1 c.agenda.wher,sl cR c.due]=some (CL c):=rfl
def cR0 (r:Rt):RF.ev (.cell 0) [R r]=some (.i64 r.num):=rfl
def cR1 (r:Rt):RF.ev (.cell 1) [R r]=some (.i64 r.den):=rfl
end
def Xv {c:Clock}(h:CSm c):Ans D 291 [CL c] [CL c]:=by
 obtain⟨h1,h2,h3,h4⟩:=h;refine am ?_;unfold aaI;simp[cZ,gM,io,rj,nP,fA,phi (agp h1),phi (Xp h2),phi (Xs h3),bv,bm,cG,cR0,cR1,kD,nO,gg,jE,cAG0,cAG1,cAG2,fE,mo,mU (l:=c.due) (f:=cR) (bytes:=24) (z:=3) (by omega) u9,EV,cp,gE]
def E9 {c:Clock}(h:CSm c):Ans D 283 [CL c] [CL c]:=by
 obtain⟨h1,h2,⟨⟨h5,h6,h7⟩,h8,h9⟩,h4⟩:=h;refine am ?_;unfold aaF;simp[cZ,wZ,xa,th,zr,jx,tz,tA,tB,mq,nQ,fA,phi (d67 h1),phi (Ll h2),phi (Xn h4),phi (Ru h8),phi (qg h9),phi (qg h5),phi (qg h7),phi (K9 h6),EV,cp,gE]
def Rv {c:Clock}(h:CSm c):Ans D 353 [CL c] [CL c]:=by
 obtain⟨h1,h2,⟨⟨h5,h6,h7⟩,h8,h9⟩,h4⟩:=h;refine am ?_;unfold abr;simp[cZ,gM,th,zr,jx,tz,tA,tB,mq,nQ,fA,phi (d67 h1),phi (Ll h2),phi (Xn h4),phi (Ru h8),phi (qg h9),phi (qg h5),phi (qg h7),phi (K9 h6),EV,cp,Xu]
def qE {x y:Evt}:evLess x y=true↔crs x.time y.time<0\/(crs x.time y.time=0/\ x.number<y.number):=by
 unfold evLess sgn
 grind
def eS (a b:Rt):crs b a= -crs a b:=by unfold crs;omega
def tT {a b c:Rt}(ha:0<a.den)(hb:0<b.den)(hc:0<c.den)(h1:crs a b<=0)(h2:crs b c<=0):crs a c<=0/\(crs a c=0->crs a b=0/\ crs b c=0):=by
 have e:crs a c*b.den=crs a b*c.den+crs b c*a.den:=by
  unfold crs
  grind
 have m1:crs a b*c.den<=0:=d8 h1 (by omega);have m2:crs b c*a.den<=0:=d8 h2 (by omega);constructor
 .apply qP.1;intro h;have:=zh h hb;omega
 .intro h;rw[h,ot] at e;have z1:crs a b*c.den=0:=by omega
  have z2:crs b c*a.den=0:=by omega
  exact⟨(tc.1 z1).resolve_right (by omega),(tc.1 z2).resolve_right (by omega)⟩
def lw {x y:Evt}(h:evLess x y=true):evLess y x=false:=by
 cases e:evLess y x with
 |false=>rfl
 |true=>
  rw[qE] at h e;rw[eS x.time y.time] at e;omega
def Fa {x y z:Evt}(hx:rok x.time=true)(hy:rok y.time=true)(hz:rok z.time=true)(h:evLess x y=true)(k:evLess y z=true):evLess x z=true:=by
 rw[qE] at*;have:=tT (a:=x.time) (b:=y.time) (c:=z.time) (by have:=eJ hx;omega) (by have:=eJ hy;omega) (by have:=eJ hz;omega) (by omega) (by omega);omega
def qF {x y z:Evt}(hx:rok x.time=true)(hy:rok y.time=true)(hz:rok z.time=true)(h:evLess x y=false)(k:evLess y z=false):evLess x z=false:=by
 cases e:evLess x z with
 |false=>rfl
 |true=>
  have h':¬(evLess x y=true):=by simp[h]
  have k':¬(evLess y z=true):=by simp[k]
  rw[qE] at*;rw[eS z.time x.time] at e;have:=tT (a:=z.time) (b:=y.time) (c:=x.time) (by have:=eJ hz;omega) (by have:=eJ hy;omega) (by have:=eJ hx;omega) (by have:=eS y.time z.time;omega) (by have:=eS x.time y.time;omega);have e1:=eS y.time z.time;have e2:=eS x.time y.time;omega
def C9 {x p s:Evt}(hx:rok x.time=true)(hp:rok p.time=true)(hs:rok s.time=true)(h:evLess x p=true)(k:evLess s p=false):evLess s x=false:=by
 cases e:evLess s x with
 |false=>rfl
 |true=>rw[Fa hs hx hp e h] at k;cases k
structure SFine (s:Slots):Prop where
 n1:1<=s.uses.length
 n2:s.uses.length<=200
 len:s.used.length=s.uses.length
 nd:s.free.Nodup
 rng:∀x∈s.free,0<=x/\ x<(s.uses.length:Int)
 used:∀i:Nat,i<s.uses.length->s.used[i]?=some (!decide ((i:Int)∈s.free))
 uses:∀(i:Nat) (u:Int),s.uses[i]?=some u->0<=u/\ u<=1000000/\(s.used[i]?=some true->1<=u)
def okR_fine {s:Slots}:s.okR↔SFine s:=by
 unfold Slots.okR;constructor
 .rintro⟨h1,h2,h3,_,l,h5,h6⟩;obtain⟨m1,m2,m3,m4⟩:=lM.1 h5;rw[aR] at m3 m4;have hl:∀i:Nat,i<s.uses.length->l[i]?=some (decide ((i:Int)∈s.free)):=λi hi=>by
   grind
  have fact:∀(i:Nat) (u:Int),s.uses[i]?=some u->0<=u/\ u<=1000000/\ s.used[i]?=some (!decide ((i:Int)∈s.free))/\(s.used[i]?=some true->1<=u):=λi u hu=>by
   have hi:=(aD.1 hu).1;obtain⟨b,hb⟩:∃b,s.used[i]?=some b:=⟨s.used[i]'(by omega),ah _⟩;obtain⟨q1,q2,q3,q4⟩:=h6 i u b _ hu hb (hl i hi);refine⟨q1,q2,?_,λh=>?_⟩
   .rw[hb];cases b<;>cases h:decide ((i:Int)∈s.free)<;>simp_all
   .rw[hb] at h;cases h;exact qP.1 λhlt=>q4 ⟨rfl,by omega⟩
  refine⟨h1,h2,h3,m2,λx hx=>?_,λi hi=>?_,λi u hu=>?_⟩
  .obtain⟨g1,g2,_⟩:=m1 x hx;rw[aR] at g2;exact⟨g1,g2⟩
  .exact(fact i _ (ah hi)).2.2.1
  .obtain⟨q1,q2,_,q4⟩:=fact i u hu;exact⟨q1,q2,q4⟩
 .rintro⟨n1,n2,len,nd,rng,used,uses⟩;refine⟨n1,n2,len,iE nd rng,(List.range s.uses.length).map λi:Nat=>decide ((i:Int)∈s.free),?_,λi u b c hu hb hc=>?_⟩
  .rw[lM];refine⟨λx hx=>?_,nd,by simp,λi hi=>?_⟩
   .obtain⟨g1,g2⟩:=rng x hx;rw[aR];exact⟨g1,g2,by rw[eC,ad (by omega)]⟩
   .rw[aR] at hi;rw[a8,iT hi,eC,ad hi];by_cases e:(i:Int)∈s.free<;>simp[e]
  .have hi:=(aD.1 hu).1;rw[a8,iT hi] at hc;simp only[cg,bY] at hc;have hu':=used i hi;rw[hb] at hu';simp only[bY] at hu';obtain⟨q1,q2,q3⟩:=uses i u hu;refine⟨q1,q2,?_,λ⟨h1,h2⟩=>?_⟩
   .rw[<-hc,hu'];cases decide ((i:Int)∈s.free)<;>simp
   .subst h1;have:=q3 hb;omega
def lX (s:Slots)(fr:List Int)(i:Nat)(u:Int):Slots:=⟨s.uses.set i (u+1),s.used.set i true,fr⟩
def Nl {s:Slots}(h:SFine s){fr:List Int}{i:Nat}{u:Int}(hf:s.free=fr++[(i:Int)])(hu:s.uses[i]?=some u)(hm:u<1000000):SFine (lX s fr i u):=by
 obtain⟨n1,n2,len,nd,rng,used,uses⟩:=h;have hi:=(aD.1 hu).1;rw[hf,eN] at nd;obtain⟨nd1,_,nd2⟩:=nd;have hni:(i:Int)∉fr:=λhm'=>nd2 _ hm' _ (by simp) rfl;unfold lX;refine⟨by simpa using n1,by simpa using n2,by simpa using len,nd1,λx hx=>?_,λj hj=>?_,λj v hv=>?_⟩
 .simp only[ba];exact rng x (by rw[hf];simp[hx])
 .simp only[ba] at hj|-;by_cases e:i=j
  .subst e;rw[bj (by omega)];simp[hni]
  .rw[bw e,used j hj,hf];have:((j:Int)∈fr++[(i:Int)])↔(j:Int)∈fr:=by
    simp only[bS,b8];exact⟨λh=>h.resolve_right (by omega),.inl⟩
   simp only[this]
 .simp only at hv|-;by_cases e:i=j
  .subst e;rw[bj hi] at hv;cases hv;obtain⟨q1,q2,_⟩:=uses i u hu;exact⟨by omega,by omega,λ_=>by omega⟩
  .rw[bw e] at hv|-;exact uses j v hv
def adr {fr k:List Int}:RF.ev (.tsub 1) [sl I1 (fr++k),.v (.int .i64 0),.v (.int .i64 (fr.length:Int))]=some (sl I1 fr):=by
 have he:ec 1 ((fr++k).map I1)=true:=by
  cases h:fr++k with
  |nil=>rfl
  |cons a l=>simp[ec,cA]
 rw[xT,ad ⟨by omega,by omega,by simp;omega,he,by decide⟩];simp
def yn {n:Nat}(h:n<1000000000):IntKind.i64.wrap (((n+1:Nat):Int)-1)=(n:Int):=uU h
def Xw {fr:List Int}{i:Int}(hl:fr.length<=900):Ans D 439 [sl I1 (fr++[i])] [sl I1 fr,.i64 i]:=by
 have bn:RF.ev .bnd [.v (.int .i64 (fr.length:Int)),.v (.int .i64 ((fr.length+1:Nat):Int))]=some (.i64 (fr.length:Int)):=by rw[j5,ad ⟨by omega,by omega⟩]
 have hx:(fr++[i])[fr.length]?=some i:=by simp
 refine am ?_;unfold ab3;simp only[EV,ai,aC,aK,yn (show fr.length<1000000000 by omega),bn,adr,phi (Xo (l:=fr) (by omega)),aX hx (cA _),aM hx,cQ,cp]
def jX (s:Slots):Bool:=match s.free.getLast? with
 |some x=>match s.uses[x.toNat]? with
  |some u=>decide (u<1000000)
  |none=>false
 |none=>false
def free_last {s:Slots}(h:SFine s):s.free=[]\/∃(fr:List Int) (i:Nat) (u:Int),s.free=fr++[(i:Int)]/\ s.uses[i]?=some u/\ fr.length<200/\ i<s.uses.length:=by
 rcases nH s.free with e|⟨fr,x,e⟩
 .exact .inl e
 .right
  rw[List.concat_eq_append] at e;have hx:=h.rng x (by rw[e];simp);have hb:=iE h.nd h.rng;rw[e,aC,aK] at hb;have:=h.n2;exact⟨fr,x.toNat,s.uses[x.toNat]'(by omega),by rw[e];congr 2;omega,ah _,by omega,by omega⟩
def rz {s:Slots}{fr:List Int}{i:Nat}{u:Int}(h:s.free=fr++[(i:Int)])(hu:s.uses[i]?=some u):jX s=decide (u<1000000):=by
 unfold jX
 grind
def agr {s:Slots}(h:SFine s):Ans D 380 [SL s] [.bool (jX s)]:=by
 refine am ?_;unfold abE;rcases free_last h with e|⟨fr,i,u,e,hu,h1,h2⟩
 .have:jX s=false:=by unfold jX;rw[e];rfl
  simp only[jS,jU,e,EV,this];rw[ac (by decide)];unfold Hx;simp[EV]
 .have hx:(fr++[(i:Int)])[fr.length]?=some (i:Int):=by simp
  simp only[jS,jU,jT,e,EV,ai,aC,aK,yn (show fr.length<1000000000 by omega),aX hx (cA _),aM hx,aX hu (cA _),aM hu,cQ,rz e hu]
  rw[ad (aq (by omega))];unfold Hx;simp only[EV]
def DX:PV:= .agg [.sl [],.sl [],.sl []]
def DY {s:Slots}(h:SFine s):SSm s:=⟨by have:=h.n2;omega,by have:=h.n2;have:=h.len;omega,by have:=iE h.nd h.rng;have:=h.n2;omega⟩
def ags {s:Slots}(h:SFine s){fr:List Int}{i:Nat}{u:Int}(e:s.free=fr++[(i:Int)])(hu:s.uses[i]?=some u)(hm:u<1000000):Ans D 429 [SL s] [SL (lX s fr i u),HD ⟨i,u+1⟩]:=by
 have hi:=aL hu;have hb:=iE h.nd h.rng;have n2:=h.n2;rw[e,aC,aK] at hb;have hx:(fr++[(i:Int)])[fr.length]?=some (i:Int):=by simp
 have bn:RF.ev .bnd [.v (.int .i64 (fr.length:Int)),.v (.int .i64 ((fr.length+1:Nat):Int))]=some (.i64 (fr.length:Int)):=by rw[j5,ad ⟨by omega,by omega⟩]
 have wu:IntKind.i64.wrap (u+1)=u+1:=cI (by have:=(h.uses i u hu).1;omega) (by omega);have hu':(s.uses.set i (u+1))[i]?=some (u+1):=by rw[bj hi]
 have sb:RF.ev .sub [sl I1 (fr++[(i:Int)]),.v (.int .i64 0),.v (.int .i64 (fr.length:Int))]=some (sl I1 fr):=by
  rw[wa,ad (by simp;omega)];simp
 have s1:=cp (f:=I1) (l:=s.uses.set i (u+1));rw[ba] at s1;have s2:=cp (f:=B1) (l:=s.used.set i true);rw[ba] at s2;refine am ?_;unfold abZ;simp only[ay,jS,phi (Xq (DY h)),jT,mn,jU,e,EV,ai,aC,aK,yn (show fr.length<1000000000 by omega),ixM (show fr.length<fr.length+1 by omega),aM hx,cQ,bn,ixM hi,aM hu,wu,iI hi,ixM (show i<s.used.length by rw[h.len];exact hi),K5 (show i<s.used.length by rw[h.len];exact hi),aM hu',s1,s2,sb]
 rfl
def H0:PV:= .agg [.i64 0,.i64 0]
def TS:RF.ev .agg [.sl [],.sl [],.sl []]=some DX:=rfl
def Lo:RF.ev .agg [.v (.int .i64 0),.v (.int .i64 0)]=some H0:=rfl
def vw {s:Slots}(h:SFine s):gSl s=false:=by
 have:=h.n2;have:=h.len;have:=iE h.nd h.rng;unfold gSl
 grind
open Classical in
def agt {s:Slots}(h:SFine s){fr:List Int}{i:Nat}{u:Int}(e:s.free=fr++[(i:Int)])(hu:s.uses[i]?=some u)(hm:u<1000000):Ans D 408 [SL s] [SL (lX s fr i u),HD ⟨i,u+1⟩,.i64 0]:=by
 have hi:=aL hu;have hb:=iE h.nd h.rng;have n2:=h.n2;rw[e,aC,aK] at hb;have hc:=phi (La (vw h));rw[aq (okR_fine.2 h)] at hc;have e0:okE true=0:=rfl;rw[e0] at hc;have wu:IntKind.i64.wrap (u+1)=u+1:=cI (by have:=(h.uses i u hu).1;omega) (by omega);have hu':(s.uses.set i (u+1))[i]?=some (u+1):=by rw[bj hi]
 have s1:=cp (f:=I1) (l:=s.uses.set i (u+1));rw[ba] at s1;have s2:=cp (f:=B1) (l:=s.used.set i true);rw[ba] at s2;refine am ?_;unfold R3;simp only[ay,jS,hc,jT,mn,jU,EV,ai,aA,aJ,aw,ax];have hne:¬((s.free.length:Nat):Int)=0:=by rw[e];simp;omega
 have c4:=phi (Xw (fr:=fr) (i:=(i:Int)) (by omega));rw[<-e] at c4;simp only[hne,aY,aw,ax,ay,c4,jT,aX hu (cA _),aM hu,cQ,EV,aa];rw[ac (by omega)];simp only[ay,jS,phi (Xr (DY h)),jT,mn,EV,ai,ixM (show i<s.used.length by rw[h.len];exact hi),K5 (show i<s.used.length by rw[h.len];exact hi),ixM hi,aM hu,cQ,wu,iI hi,aM hu',s1,s2]
 rfl
def nfree (n:Nat):List Int:=(List.range n).map λi:Nat=>((n-1-i:Nat):Int)
def vz (n:Nat):Slots:=⟨List.replicate n 0,List.replicate n false,nfree n⟩
def xb {n i:Nat}(h:i<n):(nfree n)[i]?=some ((n-1-i:Nat):Int):=by
 unfold nfree
 grind
def jh (n:Nat):(nfree n).length=n:=by simp[nfree]
def Da {n:Nat}(h1:1<=n)(h2:n<=200):SFine (vz n):=by
 unfold vz;have hm:∀i:Nat,i<n->(i:Int)∈nfree n:=λi hi=>bf.2 ⟨n-1-i,c9.2 (by omega),by omega⟩;refine⟨by simpa using h1,by simpa using h2,by simp,?_,λx hx=>?_,λi hi=>?_,λi u hu=>?_⟩
 .rw[List.Nodup,dM];intro i j hi hj hij e;have a:=xb (n:=n) (i:=i) (by rw[jh] at hi;exact hi);have b:=xb (n:=n) (i:=j) (by rw[jh] at hj;exact hj);rw[jh] at hi hj
  grind
 .obtain⟨k,hk,rfl⟩:=bf.1 hx
  grind
 .grind
 .grind
def Lp {n i:Nat}(h:¬i<n):(nfree n)[i]?=none:=bF (by rw[jh];omega)
def Rx (n i:Nat):(nfree n)[i]?=if i<n then some ((n-1-i:Nat):Int) else none:=by
 by_cases h:i<n
 .rw[ad h,xb h]
 .rw[ac h,Lp h]
def ads {n i:Nat}(h:i<n):((nfree n).take i++List.replicate (n-i) 0).set i ((n-1-i:Nat):Int)=(nfree n).take (i+1)++List.replicate (n-(i+1)) 0:=by
 refine cU λk=>?_;simp only[mD,iB,eC,gR,aC,aR,aP,jh,Rx,bG (show i<=n by omega),bG (show i+1<=n by omega)]
 repeat' split
 all_goals first|rfl|omega|(congr 1;omega)
def agu {n:Nat}(h:n<=1000):RF.ev (.rep [(.v (.bool false))] 1) [.v (.int .i64 (n:Int)),.v (.int .i64 (n:Int))]=some (sl B1 (List.replicate n false)):=by
 rw[MU,ad ⟨by omega,by omega,by omega,by omega⟩,aF];unfold sl;rw[qb];rfl
def agv {n:Nat}(h1:1<=n)(h2:n<=200):Ans D 346 [.i64 (n:Int)] [SL (vz n),.i64 0]:=by
 refine an ⟨1001,?_⟩;unfold abg;simp only[EV,aa,cw];rw[ac (by omega),ac (by omega)];have r1:=BZ (n:=n) (by omega);have r2:=agu (n:=n) (by omega);simp only[r1,r2,ay,EV,ai,aR];have e0:([sl I1 (List.replicate n 0),PV.v (.int .i64 0)]:List PV)=[sl I1 ((nfree n).take 0++List.replicate (n-0) 0),.i64 ((0:Nat):Int)]:=by simp
 rw[e0];refine(gj (m:=1001) (n:=n) (st:=λi=>[sl I1 ((nfree n).take i++List.replicate (n-i) 0),.i64 (i:Int)]) (fin:=some [SL (vz n),.i64 0]) (λi self hi=>?_) (λself=>?_) (by omega))
 .have hlen:((nfree n).take i++List.replicate (n-i) 0).length=n:=by simp[jh];omega
  have w1:IntKind.i64.wrap ((n:Int)-1)=((n-1:Nat):Int):=by rw[cI (by omega) (by omega)];omega
  have w2:IntKind.i64.wrap (((n-1:Nat):Int)-(i:Int))=((n-1-i:Nat):Int):=by rw[cI (by omega) (by omega)];omega
  have st:=iI (l:=(nfree n).take i++List.replicate (n-i) 0) (i:=i) (by rw[hlen];exact hi) ((n-1-i:Nat):Int);rw[ads hi] at st;unfold Hk;simp only[EV,aa,bi hi,w1,w2,ixM hi,st,up1 (show i<1000000000 by omega)]
 .have e1:(nfree n).take n++List.replicate (n-n) 0=nfree n:=by rw[bk (by rw[jh];omega)];simp
  have s0:=cp (f:=I1) (l:=List.replicate n (0:Int));have s1:=cp (f:=B1) (l:=List.replicate n false);have s2:=cp (f:=I1) (l:=nfree n);rw[aR] at s0 s1;rw[jh] at s2;unfold Hk;simp only[EV,aa,bP,PI,e1,s0,s1,s2];rfl
def rA (n:Nat):Agenda:=⟨vz n,[],List.replicate n (-1)⟩
def rpt (n k:Nat):List Int:=List.replicate k (-1)++List.replicate (n-k) 0
def Vh {n k:Nat}(h:k<=n):(rpt n k).length=n:=by unfold rpt;simp;omega
def Ry {n k m:Nat}(h:k+m<=n):(rpt n k).take k++List.replicate m (-1)++(rpt n k).drop (k+m)=rpt n (k+m):=by
 unfold rpt;rw[g9 (by simp),nj,dx (l:=List.replicate k (-1)) (by simp)];simp only[aR,aO,List.drop_replicate,bc];rw[<-bc,nJ]
 congr 2
 omega
def Rz {L S:List Int}{k:Nat}(h:k<=L.length):RF.ev (.appK 0 1) [sl I1 L,.v (.int .i64 (k:Int)),sl I1 S]=some (sl I1 (L.take k++S++L.drop (k+S.length))):=by
 have he:ec 1 (S.map I1)=true:=by
  cases S with
  |nil=>rfl
  |cons a k=>simp[ec,cA]
 show(if(0:Int)<=k/\(k:Int)<=((L.map I1).length:Nat)/\((k:Int).toNat+(S.map I1).length)*0<=140737488355328/\ ec 1 (S.map I1)=true then some (PV.sl ((L.map I1).take (k:Int).toNat++S.map I1++(L.map I1).drop ((k:Int).toNat+(S.map I1).length))) else none)=_
 simp_all
def Xx {L:List Int}{k:Nat}(h:k<=L.length):RF.ev .sub [sl I1 L,.v (.int .i64 0),.v (.int .i64 (k:Int))]=some (sl I1 (L.take k)):=by
 rw[wa,ad (by simp;omega)];simp
def Fb {N n:Nat}(hn:n<=1000){f0:JT}{e0 e1 e2 e3 e4 e5 e6 e7 e8 e9 e10 e12 e13 e14 e15 e16:PV}:∀(r k m:Nat),n-k<=r->r<m->1<=k->k<=n->
  dW (bL D) N t7 [f0] [e0,e1,e2,e3,e4,e5,e6,e7,e8,e9,e10,.i64 (n:Int),e12,e13,e14,e15,e16] m [sl I1 (rpt n k),.i64 (k:Int)]=f0 [sl I1 (rpt n n)]
 |0,k,m,h,hm,h1,h2=>by
  obtain⟨m,rfl⟩:∃m',m=m'+1:=⟨m-1,by omega⟩;have:k=n:=by omega
  subst this;rw[bC];unfold t7;simp[EV]
 |r+1,k,m,h,hm,h1,h2=>by
  obtain⟨m,rfl⟩:∃m',m=m'+1:=⟨m-1,by omega⟩;by_cases hk:k=n
  .subst hk;rw[bC];unfold t7;simp[EV]
  .have ih:=Fb (N:=N) hn (f0:=f0) (e0:=e0) (e1:=e1) (e2:=e2) (e3:=e3) (e4:=e4) (e5:=e5) (e6:=e6) (e7:=e7) (e8:=e8) (e9:=e9) (e10:=e10) (e12:=e12) (e13:=e13) (e14:=e14) (e15:=e15) (e16:=e16) r (k+min (n-k) k) m (by omega) (by omega) (by omega) (by omega);have bn:RF.ev .bnd [.v (.int .i64 (k:Int)),.v (.int .i64 (n:Int))]=some (.i64 (k:Int)):=by rw[j5,ad ⟨by omega,by omega⟩]
   have dd:(n:Int)-(k:Int)=((n-k:Nat):Int):=by omega
   have hl:=Vh (n:=n) h2;have tk:(rpt n k).take k=List.replicate k (-1):=by unfold rpt;exact g9 (by simp)
   have s1:=Xx (L:=rpt n k) (k:=k) (by omega);rw[tk] at s1;have a1:RF.ev (.appK 0 1) [.sl [],.v (.int .i64 0),sl I1 (List.replicate k (-1))]=some (sl I1 (List.replicate k (-1))):=by
    have:=Rz (L:=[]) (S:=List.replicate k (-1)) (k:=0) (by simp);simp at this;exact this
   have mm:RF.ev (.mm false) [.v (.int .i64 ((n-k:Nat):Int)),.v (.int .i64 (k:Int))]=some (.i64 ((min (n-k) k:Nat):Int)):=by
    rw[mmN];congr 3;omega
   have s2:=Xx (L:=List.replicate k (-1)) (k:=min (n-k) k) (by simp;omega);rw[List.take_replicate,show min (min (n-k) k) k=min (n-k) k by omega] at s2
   have a2:=Rz (L:=rpt n k) (S:=List.replicate (min (n-k) k) (-1)) (k:=k) (by omega);rw[aR,Ry (by omega)] at a2;have wk:IntKind.i64.wrap ((k:Int)+((min (n-k) k:Nat):Int))=((k+min (n-k) k:Nat):Int):=by rw[cI (by omega) (by omega)];omega
   rw[bC];generalize hkk:t7=kk at ih;subst hkk;unfold t7;simp only[EV,aa];rw[ad (by omega)];simp[EV,bn,dd,s1,a1,mm,s2,a2,wk];exact ih
def agw {x y:Nat}(hx:x<18446744073709551616)(hy:y<18446744073709551616):Ans D 273 [U x,U y] [U (x*y/18446744073709551616),U (x*y% 18446744073709551616)]:=by
 refine am ?_;unfold aay;simp[EV,phi (Q7 hx hy)]
def Xy {n:Nat}(h1:1<=n)(h2:n<=1000):Ans D 179 [sl I1 [-1],.i64 (n:Int)] [sl I1 (List.replicate n (-1))]:=by
 have m1:=phi (agw (x:=1) (y:=n) (by omega) (by omega));rw[tO,Nat.div_eq_of_lt (by omega),Nat.mod_eq_of_lt (by omega)] at m1;have cu:IntKind.u64.wrap (n:Int)=(n:Int):=wu (by omega);have cu1:IntKind.u64.wrap ((1:Nat):Int)=((1:Nat):Int):=wu (by omega);have ci:IntKind.i64.wrap (n:Int)=(n:Int):=cI (by omega) (by omega);have r1:=BZ (n:=n) h2;have a1:RF.ev (.appK 0 1) [.sl [],.v (.int .i64 0),sl I1 [-1]]=some (sl I1 [-1]):=rfl;have mm:RF.ev (.mm false) [.v (.int .i64 (n:Int)),.v (.int .i64 ((1:Nat):Int))]=some (.i64 ((1:Nat):Int)):=by
  rw[mmN];congr 3;omega
 have s2:RF.ev .sub [sl I1 [-1],.v (.int .i64 0),.v (.int .i64 ((1:Nat):Int))]=some (sl I1 [-1]):=rfl;have a2:=Rz (L:=List.replicate n 0) (S:=[-1]) (k:=0) (by simp);have e2:(List.replicate n (0:Int)).take 0++[-1]++(List.replicate n (0:Int)).drop (0+[(-1:Int)].length)=rpt n 1:=by
  unfold rpt;simp
 rw[e2] at a2;have a2:RF.ev (.appK 0 1) [sl I1 (List.replicate n 0),.v (.int .i64 0),sl I1 [-1]]=some (sl I1 (rpt n 1)):=a2;refine an ⟨1001,?_⟩;unfold ZM;simp only[EV,aa];rw[ac (by omega)];have cu1':IntKind.u64.wrap (([[PV.i64 (-1)]].length:Nat):Int)=((1:Nat):Int):=cu1;simp only[EV,ai,aK,cu,cu1];have m1:bL D 273 [.v (.int .u64 ((1:Nat):Int)),.v (.int .u64 (n:Int))]=some [U 0,U n]:=m1;simp only[m1,ay,EV,U,aa];rw[ac (by decide)];unfold OS;simp only[EV];have g0:decide ((n:Int)>9223372036854775807)=false:=ak (by omega);simp only[g0,aw,ax,EV,ci,r1,ai,aR,a1,aK,mm,s2,a2,ay];refine(Fb (N:=1001) (n:=n) h2 n 1 1001 (by omega) (by omega) (by omega) h1).trans ?_;have e3:rpt n n=List.replicate n (-1):=by unfold rpt;simp
 have s3:=cp (f:=I1) (l:=List.replicate n (-1:Int));rw[aR] at s3;unfold OQ;simp only[EV,e3,s3]
def TT (l:List Int):RF.ev .flatL [sl I1 l]=some (sl I1 l):=by
 have:(l.map I1).flatten.all isV=true:=by
  induction l with
  |nil=>rfl
  |cons a l ih=>simp[I1,isV]
 show(if _ then _ else _)=_
 grind
def pSL (s:Slots):RF.ev (.part 0 3) [SL s]=some (SL s):=rfl
def agx {n:Nat}(h1:1<=n)(h2:n<=200):Ans D 258 [.i64 (n:Int)] [AG (rA n),.i64 0]:=by
 have s3:=cp (f:=I1) (l:=List.replicate n (-1:Int));rw[aR] at s3;refine am ?_;unfold aal;simp only[phi (agv h1 h2),jS,EV,bsI,sF,phi (Xy (n:=n) h1 (by omega)),ai,aR,pSL,TT,s3];rfl
def lx (c:Certs)(x:Crt):Certs:=⟨c.next+1,c.list++[⟨c.next,x⟩]⟩
def Nn {c:Certs}{x:Crt}(h:dy c)(hx:x.ok)(hn:∀g∈c.list,g.cert≠x)(h1:c.list.length<200)(h2:c.next<1000000):dy (lx c x):=by
 obtain⟨a1,a2,a3,a4⟩:=h;unfold lx;refine⟨by simp;omega,by simp only;omega,by simp only;omega,λi g hg=>?_⟩;simp only at hg|-;by_cases e:i<c.list.length
 .rw[aG e] at hg;obtain⟨q1,q2,q3,q4,q5⟩:=a4 i g hg;refine⟨q1,q2,by omega,λg' h0 hg'=>?_,λk hk g' hg'=>?_⟩
  .rw[aG (by omega)] at hg';exact q4 g' h0 hg'
  .rw[aG (by omega)] at hg';exact q5 k hk g' hg'
 .have hi:i=c.list.length:=by
   have:=aL hg;simp at this;omega
  subst hi;rw[bH (aB _),iQ] at hg;simp only[i7,bY] at hg;subst hg;refine⟨hx,a2,by simp only;omega,λg' h0 hg'=>?_,λk hk g' hg'=>?_⟩
  .rw[aG (by omega)] at hg';exact(a4 _ g' hg').2.2.1
  .rw[aG hk] at hg';exact hn g' (au hg')
def TU (n:Int)(x:Crt):RF.ev .agg [.i64 n,CP x]=some (HP ⟨n,x⟩):=rfl
def bsH (h:Held):RF.ev (.bs 1 [KP.z,KP.z,KP.z] [0]) [HP h]=some (sl hrow [h]):=rfl
def TV (h:Held):RF.ev .sub [sl hrow [h],.v (.int .i64 0),.v (.int .i64 1)]=some (sl hrow [h]):=rfl
def No (n:Int)(l:List Held):RF.ev .agg [.i64 n,sl hrow l]=some (CS ⟨n,l⟩):=rfl
def pCP (x:Crt):RF.ev (.part 0 2) [CP x]=some (CP x):=rfl
def Xz {c:Certs}{x:Crt}(h:c.list.length<200):RF.ev (.app 24 3) [sl hrow c.list,.v (.int .i64 (c.list.length:Int)),sl hrow [⟨c.next,x⟩]]=some (sl hrow (c.list++[⟨c.next,x⟩])):=
 gn (f:=hrow) (l:=c.list) (k:=[⟨c.next,x⟩]) (bytes:=24) (z:=3) (by simp;omega) gL
open Classical in
def agy {c:Certs}{x:Crt}(h:dy c)(hx:x.ok)(hn:∀g∈c.list,g.cert≠x)(h1:c.list.length<200)(h2:c.next<1000000):Ans D 382 [CS c,CP x] [CS (lx c x),.i64 c.next,.i64 0]:=by
 have e0:okE true=0:=rfl;have m1:=phi (Xa c);rw[aq h,e0] at m1;have m2:=phi (W9 x);rw[aq hx] at m2;have m3:=phi (Xc (c:=c) (x:=x) (by omega));rw[show(c.list.any λh=>decide (h.cert=x))=false from by rw[f8];intro g hg;simpa using hn g hg] at m3
 have w:IntKind.i64.wrap (c.next+1)=c.next+1:=cI (by have:=h.2.1;omega) (by omega);have s1:=cp (f:=hrow) (l:=c.list++[⟨c.next,x⟩]);refine am ?_;unfold abG;simp[kD,kC,m1,m2,m3,nO,gg,EV];rw[ac (by omega),ac (by omega)];simp only[phi (Xp (c:=c) (by omega)),kD,nO,gg,pCP,TU,bsH,TV,EV,ai,Xz h1,w,s1,No];rfl
open Classical in
def XA {c:Certs}{x:Crt}(h:dy c)(hx:x.ok)(hn:∀g∈c.list,g.cert≠x)(h1:c.list.length<200)(h2:c.next<1000000):Ans D 352 [CS c,CP x] [CS (lx c x),.i64 c.next,.i64 0]:=by
 have e0:okE true=0:=rfl;have m1:=phi (Lb (c:=c) (by omega));rw[aq h,e0] at m1;have m2:=phi (Rf x);rw[aq hx] at m2;have w:IntKind.i64.wrap (c.next+1)=c.next+1:=cI (by have:=h.2.1;omega) (by omega);have s1:=cp (f:=hrow) (l:=c.list++[⟨c.next,x⟩]);refine an ⟨1001,?_⟩;unfold R1;simp only[ay,kD,kC,m1,m2,gg,EV,ai,aA,aJ,aw,ax];refine(cz (m:=1001) (l:=c.list) (p:=λg=>!decide (g.cert=x)) (st:=λi=>[.i64 (i:Int)]) (r:=none) (fin:=some [CS (lx c x),.i64 c.next,.i64 0]) (λi g self hg _=>?_) (λhall self=>?_) (by omega)).trans ?_
 .unfold xq;simp only[ay,gg,aX hg (gL _),aM hg,lr,pHP,wT,EV,aa,bi (aL hg),up1 (show i<1000000000 by have:=aL hg;omega)]
  grind
 .unfold xq Hs;simp only[ay,nO,gg,EV,ai,aa,bP];rw[ac (by decide),ac (by omega),ac (by omega)];simp only[ay,phi (Ll (l:=c.list) (by omega)),nO,gg,pCP,TU,bsH,TV,EV,ai,Xz h1,w,s1,No];rfl
 .grind
structure Plc (s:Slots)(hp:List Evt)(wh:List Int):Prop where
 len:wh.length=s.uses.length
 at_:∀(k:Nat) (e:Evt),hp[k]?=some e->∃(j:Nat) (u:Int),e.hnd=⟨(j:Int),u⟩/\ s.used[j]?=some true/\ s.uses[j]?=some u/\ wh[j]?=some (k:Int)
 of_:∀j:Nat,s.used[j]?=some true->∃(k:Nat) (e:Evt) (u:Int),wh[j]?=some (k:Int)/\ hp[k]?=some e/\ s.uses[j]?=some u/\ e.hnd=⟨(j:Int),u⟩
 off:∀j:Nat,s.used[j]?=some false->wh[j]?=some (-1)
def bu {α:Type}{l:List α}{i:Nat}{a:α}(h:l[i]?=some a):i<l.length:=(aD.1 h).1
def vA {s:Slots}{hp:List Evt}{wh:List Int}(h:Plc s hp wh){i k:Nat}{e f:Evt}(hi:hp[i]?=some e)(hk:hp[k]?=some f)(hne:i≠k):
  Plc s ((hp.set i f).set k e) ((wh.set f.hnd.index.toNat (i:Int)).set e.hnd.index.toNat (k:Int)):=by
 obtain⟨je,ue,e1,e2,e3,e4⟩:=h.at_ i e hi;obtain⟨jf,uf,f1,f2,f3,f4⟩:=h.at_ k f hk;have hi':=bu hi;have hk':=bu hk;have we:=bu e4;have wf:=bu f4;have hj:je≠jf:=λq=>by
  grind
 rw[e1,f1];simp only[aF];have W:∀j:Nat,((wh.set jf (i:Int)).set je (k:Int))[j]?=if j=je then some (k:Int) else if j=jf then some (i:Int) else wh[j]?:=λj=>by
  grind
 have P:∀m:Nat,((hp.set i f).set k e)[m]?=if m=k then some e else if m=i then some f else hp[m]?:=λm=>by
  grind
 refine⟨by simpa using h.len,λm g hg=>?_,λj hu=>?_,λj hu=>?_⟩
 .rw[P] at hg;by_cases a:m=k
  .subst a;rw[ad rfl] at hg;cases hg;exact⟨je,ue,e1,e2,e3,by rw[W,ad rfl]⟩
  .rw[ac a] at hg;by_cases b:m=i
   .subst b;rw[ad rfl] at hg;cases hg;exact⟨jf,uf,f1,f2,f3,by rw[W,ac (λq=>hj q.symm),ad rfl]⟩
   .rw[ac b] at hg;obtain⟨j,u,g1,g2,g3,g4⟩:=h.at_ m g hg;refine⟨j,u,g1,g2,g3,?_⟩;rw[W,ac,ac,g4]
    .rintro rfl;rw[f4] at g4;simp only[bY] at g4;omega
    .rintro rfl;rw[e4] at g4;simp only[bY] at g4;omega
 .by_cases a:j=je
  .subst a;exact⟨k,e,ue,by rw[W,ad rfl],by rw[P,ad rfl],e3,e1⟩
  .by_cases b:j=jf
   .subst b;exact⟨i,f,uf,by rw[W,ac a,ad rfl],by rw[P,ac hne,ad rfl],f3,f1⟩
   .obtain⟨m,g,u,g1,g2,g3,g4⟩:=h.of_ j hu;refine⟨m,g,u,by rw[W,ac a,ac b,g1],?_,g3,g4⟩;rw[P,ac,ac,g2]
    .rintro rfl;rw[hi] at g2;cases g2;rw[e1] at g4;simp only[Hnd.mk.injEq] at g4;omega
    .rintro rfl;rw[hk] at g2;cases g2;rw[f1] at g4;simp only[Hnd.mk.injEq] at g4;omega
 .have a:j≠je:=λq=>by subst q;rw[e2] at hu;cases hu
  have b:j≠jf:=λq=>by subst q;rw[f2] at hu;cases hu
  rw[W,ac a,ac b];exact h.off j hu
def zt {s:Slots}(hs:SFine s){hp:List Evt}{wh:List Int}(h:Plc s hp wh){fr:List Int}{i:Nat}{u:Int}{x:Evt}(e:s.free=fr++[(i:Int)])(hu:s.uses[i]?=some u)(hx:x.hnd=⟨(i:Int),u+1⟩):
  Plc (lX s fr i u) (hp++[x]) (wh.set i (hp.length:Int)):=by
 have hi:=bu hu;have hui:s.used[i]?=some false:=by rw[hs.used i hi,e];simp
 have hul:=bu hui;have hw:i<wh.length:=by rw[h.len];exact hi
 have U:∀j:Nat,(s.used.set i true)[j]?=if j=i then some true else s.used[j]?:=λj=>by
  grind
 have V:∀j:Nat,(s.uses.set i (u+1))[j]?=if j=i then some (u+1) else s.uses[j]?:=λj=>by
  grind
 have W:∀j:Nat,(wh.set i (hp.length:Int))[j]?=if j=i then some (hp.length:Int) else wh[j]?:=λj=>by
  grind
 unfold lX;refine⟨by simpa using h.len,λm g hg=>?_,λj hj=>?_,λj hj=>?_⟩
 .by_cases a:m<hp.length
  .rw[aG a] at hg;obtain⟨j,v,g1,g2,g3,g4⟩:=h.at_ m g hg;have b:j≠i:=λq=>by subst q;rw[hui] at g2;cases g2
   exact⟨j,v,g1,by simp only[U,ac b,g2],by simp only[V,ac b,g3],by simp only[W,ac b,g4]⟩
  .have hm:=bu hg;rw[aC,aK] at hm;have:m=hp.length:=by omega
   subst this;rw[bH (aB _),iQ] at hg;simp only[i7,bY] at hg;subst hg;exact⟨i,u+1,hx,by simp only[U,az],by simp only[V,az],by simp only[W,az]⟩
 .simp only[U] at hj;by_cases a:j=i
  .subst a;exact⟨hp.length,x,u+1,by simp only[W,az],by simp,by simp only[V,az],hx⟩
  .rw[ac a] at hj;obtain⟨k,g,v,g1,g2,g3,g4⟩:=h.of_ j hj;exact⟨k,g,v,by simp only[W,ac a,g1],by rw[aG (bu g2)];exact g2,by simp only[V,ac a,g3],g4⟩
 .simp only[U] at hj;by_cases a:j=i
  .subst a;rw[ad rfl] at hj;cases hj
  .rw[ac a] at hj;simp only[W,ac a];exact h.off j hj
def jY (hp:List Evt)(i k:Nat)(e f:Evt):List Evt:=(hp.set i f).set k e
def oQ (wh:List Int)(i k:Nat)(e f:Evt):List Int:=(wh.set f.hnd.index.toNat (i:Int)).set e.hnd.index.toNat (k:Int)
def upS:Nat->List Evt->List Int->Nat->List Evt×List Int×Nat
 |0,hp,wh,i=>(hp,wh,i)
 |n+1,hp,wh,i=>match hp[i]?,hp[(i-1)/2]? with
  |some e,some p=>if 0<i/\ evLess e p=true then upS n (jY hp i ((i-1)/2) e p) (oQ wh i ((i-1)/2) e p) ((i-1)/2) else(hp,wh,i)
  |_,_=>(hp,wh,i)
def DZ (hp:List Evt)(i:Nat):Prop:=
 (∀(c:Nat) (e p:Evt),0<c->c≠i->hp[c]?=some e->hp[(c-1)/2]?=some p->evLess e p=false)/\
 ∀(c:Nat) (e p:Evt),0<i->0<c->(c-1)/2=i->hp[c]?=some e->hp[(i-1)/2]?=some p->evLess e p=false
def Ord (hp:List Evt):Prop:=∀(c:Nat) (e p:Evt),0<c->hp[c]?=some e->hp[(c-1)/2]?=some p->evLess e p=false
def swp_get {hp:List Evt}{i k:Nat}{e f:Evt}(hi:hp[i]?=some e)(hk:hp[k]?=some f)(m:Nat):(jY hp i k e f)[m]?=if m=k then some e else if m=i then some f else hp[m]?:=by
 unfold jY
 grind
def vB {hp:List Evt}{i k:Nat}{e f:Evt}(hi:hp[i]?=some e)(hk:hp[k]?=some f):(jY hp i k e f).Perm hp:=by
 unfold jY
 grind
def RA {hp:List Evt}{i:Nat}{e p:Evt}(hr:∀x∈hp,rok x.time=true)(ho:DZ hp i)(h0:0<i)(hi:hp[i]?=some e)(hp':hp[(i-1)/2]?=some p)(hl:evLess e p=true):DZ (jY hp i ((i-1)/2) e p) ((i-1)/2):=by
 obtain⟨o1,o2⟩:=ho;have re:=hr e (au hi);have rp:=hr p (au hp');have G:=swp_get hi hp';refine⟨λc x q c0 cn hx hq=>?_,λc x q k0 c0 hc hx hq=>?_⟩
 .rw[G] at hx hq;rw[ac cn] at hx;by_cases a:c=i
  .subst a;rw[ad rfl] at hx hq;cases hx;cases hq;exact lw hl
  .rw[ac a] at hx;by_cases b:(c-1)/2=(i-1)/2
   .rw[ad b] at hq;cases hq;have:=o1 c x p c0 a hx (by rw[b];exact hp');exact C9 re rp (hr x (au hx)) hl this
   .rw[ac b] at hq;by_cases d:(c-1)/2=i
    .rw[ad d] at hq;cases hq;exact o2 c x p h0 c0 d hx hp'
    .rw[ac d] at hq;exact o1 c x q c0 a hx hq
 .rw[G] at hx hq;rw[ac (by omega)] at hx;rw[ac (by omega),ac (by omega)] at hq;have up:=o1 ((i-1)/2) p q k0 (by omega) hp' hq;by_cases a:c=i
  .subst a;rw[ad rfl] at hx;cases hx;exact up
  .rw[ac a] at hx;have:=o1 c x p c0 a hx (by rw[hc];exact hp');exact qF (hr x (au hx)) rp (hr q (au hq)) this up
def Ao {s:Slots}:∀(n:Nat) (hp:List Evt) (wh:List Int) (i:Nat),i<=n->i<hp.length->(∀x∈hp,rok x.time=true)->DZ hp i->Plc s hp wh->
  Ord (upS n hp wh i).1/\(upS n hp wh i).1.Perm hp/\ Plc s (upS n hp wh i).1 (upS n hp wh i).2.1/\(upS n hp wh i).1[(upS n hp wh i).2.2]?=hp[i]?/\(upS n hp wh i).2.2<=i
 |0,hp,wh,i,hn,hi,hr,ho,hP=>by
  have:i=0:=by omega
  subst this;exact⟨λc e p c0 he hp'=>ho.1 c e p c0 (by omega) he hp',.refl _,hP,rfl,aB _⟩
 |n+1,hp,wh,i,hn,hi,hr,ho,hP=>by
  obtain⟨e,he⟩:∃e,hp[i]?=some e:=⟨hp[i],ah _⟩;obtain⟨p,hp'⟩:∃p,hp[(i-1)/2]?=some p:=⟨hp[(i-1)/2]'(by omega),ah _⟩;unfold upS;rw[he,hp'];simp only;by_cases hc:0<i/\ evLess e p=true
  .rw[ad hc];obtain⟨h0,hl⟩:=hc;have pm:=vB he hp';obtain⟨q1,q2,q3,q4,q5⟩:=Ao n (jY hp i ((i-1)/2) e p) (oQ wh i ((i-1)/2) e p) ((i-1)/2) (by omega) (by rw[pm.length_eq];omega) (λx hx=>hr x (pm.mem_iff.1 hx)) (RA hr ho h0 he hp' hl) (vA hP he hp' (by omega));refine⟨q1,q2.trans pm,q3,?_,by omega⟩;rw[q4,swp_get he hp',ad rfl]
  .rw[ac hc];refine⟨λc x q c0 hx hq=>?_,.refl _,hP,he,aB _⟩;by_cases a:c=i
   .subst a;rw[he] at hx;cases hx;rw[hp'] at hq;cases hq;cases hl:evLess e p with
    |false=>rfl
    |true=>exact absurd ⟨c0,hl⟩ hc
   .exact ho.1 c x q c0 a hx hq
def rB {α:Type}(p:α->Bool):∀l:List α,l.length=(l.filter p).length+(l.filter λx=>!p x).length
 |[]=>rfl
 |a::l=>by
  have:=rB p l;rw[cT,cT];cases p a<;>simp<;>omega
def pG {a:Agenda}(hs:SFine a.slots)(hp:pE a):Plc a.slots a.heap a.wher:=by
 obtain⟨p1,p2,p3⟩:=hp;have hlen:=hs.len;have get:∀j:Nat,j<a.slots.uses.length->∃b w u,a.slots.used[j]?=some b/\ a.wher[j]?=some w/\ a.slots.uses[j]?=some u:=λj hj=>
  ⟨_,_,_,ah (by omega),ah (by omega),ah hj⟩
 have of_:∀j:Nat,a.slots.used[j]?=some true->∃(k:Nat) (e:Evt) (u:Int),a.wher[j]?=some (k:Int)/\ a.heap[k]?=some e/\ a.slots.uses[j]?=some u/\ e.hnd=⟨(j:Int),u⟩:=λj hj=>by
  grind
 refine⟨p1,λk e hk=>?_,of_,λj hj=>?_⟩
 ·
  let W:Nat->Nat:=λj=>((a.wher[j]?).getD 0).toNat
  let U:Nat->Bool:=λj=>decide (a.slots.used[j]?=some true)
  have hnd:(((List.range a.slots.uses.length).filter U).map W).Nodup:=by
   rw[List.Nodup,f9];refine List.Pairwise.imp_of_mem (R:=λx y=>x≠y) (λ{x y} hx hy hne=>?_) (List.nodup_range.filter _);intro h;obtain⟨k1,e1,u1,g1,g2,_,g4⟩:=of_ x (by have:=(bx.1 hx).2;exact aT this);obtain⟨k2,e2,u2,f1,f2,_,f4⟩:=of_ y (by have:=(bx.1 hy).2;exact aT this);simp only[W,g1,f1,cx,aF] at h;subst h;rw[g2] at f2;cases f2;rw[g4] at f4;simp only[Hnd.mk.injEq] at f4;omega
  have hsub:∀x∈((List.range a.slots.uses.length).filter U).map W,x∈List.range a.heap.length:=λx hx=>by
   obtain⟨j,hj,rfl⟩:=bf.1 hx;obtain⟨k1,e1,u1,g1,g2,_,g4⟩:=of_ j (by have:=(bx.1 hj).2;exact aT this);simp only[W,g1,cx,aF,c9];exact bu g2
  have hfree:((List.range a.slots.uses.length).filter λj=>!U j).length<=a.slots.free.length:=by
   have:=qV (l:=((List.range a.slots.uses.length).filter λj=>!U j).map λj:Nat=>(j:Int)) (k:=a.slots.free) (by
    rw[List.Nodup,f9];exact(List.nodup_range.filter _).imp λh e=>h (by omega)) (λx hx=>by
     obtain⟨j,hj,rfl⟩:=bf.1 hx;obtain⟨h1,h2⟩:=bx.1 hj;rw[c9] at h1;have hu:=hs.used j h1;simp only[U,aE,aj] at h2;by_cases hm:(j:Int)∈a.slots.free
     .exact hm
     .exact absurd (by rw[hu];simp[hm]) h2)
   simpa using this
  have hsplit:=rB U (List.range a.slots.uses.length);rw[mF] at hsplit;have hperm:=lK hnd hsub (by rw[mF,ai];omega);have hk':k∈((List.range a.slots.uses.length).filter U).map W:=hperm.mem_iff.2 (c9.2 (bu hk));obtain⟨j,hj,hjk⟩:=bf.1 hk';have hju:a.slots.used[j]?=some true:=by have:=(bx.1 hj).2;exact aT this
  obtain⟨k1,e1,u1,g1,g2,g3,g4⟩:=of_ j hju;simp only[W,g1,cx,aF] at hjk;subst hjk;rw[hk] at g2;cases g2;exact⟨j,u1,g4,hju,g3,g1⟩
 .obtain⟨b,w,u,h1,h2,h3⟩:=get j (by have:=bu hj;omega);have:=p3 j false w u hj h2 h3;rw[ac (by simp)] at this;rw[h2,this]
def Np {a:Agenda}(h:Plc a.slots a.heap a.wher)(hl:a.heap.length+a.slots.free.length=a.slots.uses.length):pE a:=by
 refine⟨h.len,hl,λj b w u hb hw hu=>?_⟩;cases b with
 |true=>
  obtain⟨k,e,v,g1,g2,g3,g4⟩:=h.of_ j hb
  grind
 |false=>
  have:=h.off j hb
  grind
def gT (a:Agenda)(fr:List Int)(i:Nat)(u:Int)(t:Rt)(n:Int):Agenda:=
 let r:=upS (a.heap.length+1) (a.heap++[⟨t,n,⟨i,u+1⟩⟩]) (a.wher.set i (a.heap.length:Int)) a.heap.length
 ⟨lX a.slots fr i u,r.1,r.2.1⟩
def xc {a:Agenda}(h:eO a):Ord a.heap:=λc e p c0 he hp=>by
 have:=h.2.2.2.2 (c-1) e p (by rw[show c-1+1=c by omega];exact he) hp
 exact this
def yp {a:Agenda}(h:eO a){fr:List Int}{i:Nat}{u:Int}(hf:a.slots.free=fr++[(i:Int)])(hu:a.slots.uses[i]?=some u)(hm:u<1000000){t:Rt}{n:Int}(hx:rok t=true/\ 0<=n/\ n<=1000000)(hn:n∉a.heap.map (·.number)):
  eO (gT a fr i u t n)/\(gT a fr i u t n).heap.Perm (a.heap++[⟨t,n,⟨i,u+1⟩⟩])/\(gT a fr i u t n).wher.length=a.wher.length:=by
 have hs:=okR_fine.1 h.1;have hP:=pG hs h.2.1;have hP':=zt hs hP hf hu (x:=⟨t,n,⟨i,u+1⟩⟩) rfl;have hs':=Nl hs hf hu hm;have hl:=h.2.1.2.1;have hr:∀x∈a.heap++[(⟨t,n,⟨i,u+1⟩⟩:Evt)],oJ x:=λx hx'=>by
  rcases bS.1 hx' with h1|h1
  .exact h.2.2.1 x h1
  .rw[b8] at h1;subst h1;exact hx
 have hex:DZ (a.heap++[⟨t,n,⟨i,u+1⟩⟩]) a.heap.length:=by
  refine⟨λc e p c0 cn he hp=>?_,λc e p _ c0 hc he _=>?_⟩
  .have h1:=bu he;rw[aC,aK] at h1;rw[aG (by omega)] at he hp;exact xc h c e p c0 he hp
  .grind
 obtain⟨q1,q2,q3,_,_⟩:=Ao (s:=lX a.slots fr i u) (a.heap.length+1) (a.heap++[⟨t,n,⟨i,u+1⟩⟩]) (a.wher.set i (a.heap.length:Int)) a.heap.length (by omega) (by simp) (λx hx'=>(hr x hx').1) hex hP';unfold gT;refine⟨⟨okR_fine.2 hs',Np q3 ?_,λe he=>hr e (q2.mem_iff.1 he),?_,λc e p he hp=>?_⟩,q2,?_⟩
 .simp only;rw[q2.length_eq];unfold lX;rw[hf] at hl;simp only[aC,aK,ba] at hl|-;omega
 .have pm:((upS (a.heap.length+1) (a.heap++[(⟨t,n,⟨i,u+1⟩⟩:Evt)]) (a.wher.set i (a.heap.length:Int)) a.heap.length).1.map (·.number)).Perm ((a.heap++[(⟨t,n,⟨i,u+1⟩⟩:Evt)]).map (·.number)):=q2.map _;refine pm.nodup_iff.2 ?_;rw[dQ,eN];refine⟨h.2.2.2.1,by simp,λx hx1 y hy e=>?_⟩;simp only[bQ,sg,b8] at hy;subst hy;subst e;exact hn hx1
 .exact q1 (c+1) e p (by omega) he (by simpa using hp)
 .have l1:=q3.len;have l2:=hP.len;simp only;rw[l1,l2];unfold lX;simp
def Ap {l:List Evt}{i:Nat}(h:i<l.length)(f:Evt):RF.ev (.set 0) [sl ct l,.v (.int .i64 (i:Int)),EP f]=some (sl ct (l.set i f)):=by
 obtain⟨e,he⟩:∃e,l[i]?=some e:=⟨l[i],ah h⟩;have hs:pK (ct e) 0 (ct f)=ct f:=rfl;rw[yP,ad (by omega),aF,a8,he];simp only[cg,show(EP f).cells=ct f from rfl,show(ct f).length=5 from rfl,show(ct e).length=5 from rfl]
 simp_all
def Aq (t:Rt)(n:Int)(h:Hnd):RF.ev .agg [R t,.i64 n,HD h]=some (EP ⟨t,n,h⟩):=rfl
def bsE (e:Evt):RF.ev (.bs 1 [KP.z,KP.z,KP.z,KP.z,KP.z] [0]) [EP e]=some (sl ct [e]):=rfl
def TW (e:Evt):RF.ev .sub [sl ct [e],.v (.int .i64 0),.v (.int .i64 1)]=some (sl ct [e]):=rfl
def Lq {i:Nat}(h0:0<i)(h:i<1000000):dq .quo .i64 (IntKind.i64.wrap ((i:Int)-1)) .i64 2=some (.v (.int .i64 (((i-1)/2:Nat):Int))):=by
 obtain⟨k,rfl⟩:∃k,i=k+1:=⟨i-1,by omega⟩;exact K6 (by omega)
def yZ {s:Slots}{N:Nat}{f0:JT}{e0 e1 e2 e3 e4 e5 e6 e7 e8 e9 e10 e11 e12 e13 e14 e15 e17 e18 e19 e20 e21 e22 e23 e24 e25 e26 e27 e28 e29 e30 e32 e33 e34 e35 e36:PV}{H W:Nat}(hH:H<=1000):∀(r i m:Nat) (hp:List Evt) (wh:List Int),i<=r->r<m->i<H->hp.length=H->wh.length=W->(∀x∈hp,aQ x.time)->Plc s hp wh->
  dW (bL D) N ui [f0] [e0,e1,e2,e3,e4,e5,e6,e7,e8,e9,e10,e11,e12,e13,e14,e15,.i64 (W:Int),e17,e18,e19,e20,e21,e22,e23,e24,e25,e26,e27,e28,e29,e30,.i64 (H:Int),e32,e33,e34,e35,e36] m [.i64 (i:Int),sl ct hp,sl I1 wh]=f0 [.i64 ((upS r hp wh i).2.2:Int),sl I1 (upS r hp wh i).2.1,sl ct (upS r hp wh i).1]
 |0,i,m,hp,wh,hi,hm,hiH,hl,hw,h64,hP=>by
  obtain⟨m,rfl⟩:∃m',m=m'+1:=⟨m-1,by omega⟩;have:i=0:=by omega
  subst this;rw[bC];unfold ui upS;simp only[EV,aa];rw[ac (by omega)]
 |r+1,i,m,hp,wh,hi,hm,hiH,hl,hw,h64,hP=>by
  obtain⟨m,rfl⟩:∃m',m=m'+1:=⟨m-1,by omega⟩;obtain⟨e,he⟩:∃e,hp[i]?=some e:=⟨hp[i],ah _⟩;obtain⟨p,hp'⟩:∃p,hp[(i-1)/2]?=some p:=⟨hp[(i-1)/2]'(by omega),ah _⟩;have E:upS (r+1) hp wh i=if 0<i/\ evLess e p=true then upS r (jY hp i ((i-1)/2) e p) (oQ wh i ((i-1)/2) e p) ((i-1)/2) else(hp,wh,i):=by rw[upS,he,hp']
  rw[E,bC];by_cases h0:0<i
  rotate_left
  .rw[ac (λh=>h0 h.1)];unfold ui;simp only[EV,aa,cw];rw[ac (by omega)]
  .have pm:=vB he hp';have ih:=yZ (s:=s) (N:=N) (f0:=f0) (e0:=e0) (e1:=e1) (e2:=e2) (e3:=e3) (e4:=e4) (e5:=e5) (e6:=e6) (e7:=e7) (e8:=e8) (e9:=e9) (e10:=e10) (e11:=e11) (e12:=e12) (e13:=e13) (e14:=e14) (e15:=e15) (e17:=e17) (e18:=e18) (e19:=e19) (e20:=e20) (e21:=e21) (e22:=e22) (e23:=e23) (e24:=e24) (e25:=e25) (e26:=e26) (e27:=e27) (e28:=e28) (e29:=e29) (e30:=e30) (e32:=e32) (e33:=e33) (e34:=e34) (e35:=e35) (e36:=e36) (H:=H) (W:=W) hH r ((i-1)/2) m (jY hp i ((i-1)/2) e p) (oQ wh i ((i-1)/2) e p) (by omega) (by omega) (by omega) (by rw[pm.length_eq];exact hl) (by unfold oQ;simpa using hw) (λx hx=>h64 x (pm.mem_iff.1 hx)) (vA hP he hp' (by omega))
   have cm:=phi (W8 (h64 e (au he)) (h64 p (au hp')));obtain⟨je,ue,g1,_,_,g4⟩:=hP.at_ i e he;obtain⟨jp,up,k1,_,_,k4⟩:=hP.at_ _ p hp';have wje:je<W:=by rw[<-hw];exact bu g4
   have wjp:jp<W:=by rw[<-hw];exact bu k4
   have q2:=Lq h0 (by omega);have ge:(jY hp i ((i-1)/2) e p)[(i-1)/2]?=some e:=by rw[swp_get he hp',ad rfl]
   have gp:(jY hp i ((i-1)/2) e p)[i]?=some p:=by rw[swp_get he hp',ac (by omega),ad rfl]
   have s1:=Ap (l:=hp) (i:=i) (by omega) p;have s2:RF.ev (.set 0) [sl ct (hp.set i p),.v (.int .i64 (((i-1)/2:Nat):Int)),EP e]=some (sl ct (jY hp i ((i-1)/2) e p)):=Ap (by rw[ba];omega) e;have ie:e.hnd.index=(je:Int):=by rw[g1]
   have ip:p.hnd.index=(jp:Int):=by rw[k1]
   have s3:=iI (l:=wh) (i:=jp) (by omega) (i:Int);have s4:RF.ev (.set 0) [sl I1 (wh.set jp (i:Int)),.v (.int .i64 (je:Int)),.v (.int .i64 (((i-1)/2:Nat):Int))]=some (sl I1 (oQ wh i ((i-1)/2) e p)):=by
    unfold oQ;rw[ie,ip,aF,aF];exact iI (by rw[ba];omega) _
   generalize hkk:ui=kk at ih;subst hkk;unfold ui;simp only[EV,aa,cw];rw[ad (by omega)];simp only[EV,ixM hiH,aM he,iX,mb,q2,ixM (show(i-1)/2<H by omega),aM hp',ay,cm]
   cases hc:evLess e p with
   |false=>
    rw[ac (by simp)];simp
   |true=>
    simp only[h0,fJ,az,EV,mb,q2,ixM hiH,ixM (show(i-1)/2<H by omega),aM he,aM hp',iX,ay,ir,s1,s2,aM ge,aM gp,TH,ie,ip,ixM wje,ixM wjp,s3,s4]
    exact ih
def Ar (s:Slots)(hp:List Evt)(wh:List Int):RF.ev .agg [SL s,sl ct hp,sl I1 wh]=some (AG ⟨s,hp,wh⟩):=rfl
def pHD (h:Hnd):RF.ev (.part 0 2) [HD h]=some (HD h):=rfl
def pR (r:Rt):RF.ev (.part 0 2) [R r]=some (R r):=rfl
def D2 {a:Agenda}(h:eO a):ASm a:=by
 have hs:=okR_fine.1 h.1;have:=hs.n2;exact⟨DY hs,by have:=h.2.1.2.1;omega,by have:=h.2.1.1;omega⟩
def agz {a:Agenda}(h:eO a){fr:List Int}{i:Nat}{u:Int}(hf:a.slots.free=fr++[(i:Int)])(hu:a.slots.uses[i]?=some u)(hm:u<1000000){t:Rt}{n:Int}(hx:rok t=true/\ 0<=n/\ n<=1000000)(hn:n∉a.heap.map (·.number))(ht:aQ t)(h64:∀e∈a.heap,aQ e.time):
  Ans D 381 [AG a,R t,.i64 n] [AG (gT a fr i u t n),HD ⟨i,u+1⟩]:=by
 have hs:=okR_fine.1 h.1;have hP:=pG hs h.2.1;have hsm:=D2 h;have n2:=hs.n2;have hl:=h.2.1.2.1;have hw:=h.2.1.1;have hi:=bu hu;have hP':=zt hs hP hf hu (x:=⟨t,n,⟨i,u+1⟩⟩) rfl;obtain⟨_,q2,q3⟩:=yp h hf hu hm hx hn;have ap:=gn (f:=ct) (l:=a.heap) (k:=[⟨t,n,⟨i,u+1⟩⟩]) (bytes:=40) (z:=5) (by simp;omega) jP;have dn:=yn (n:=a.heap.length) (by omega);have s3:=iI (l:=a.wher) (i:=i) (by omega) (a.heap.length:Int);have s4:=cp (f:=ct) (l:=(gT a fr i u t n).heap);rw[q2.length_eq,aC,aK] at s4;have s5:=cp (f:=I1) (l:=(gT a fr i u t n).wher);rw[q3] at s5;refine an ⟨1001,?_⟩;unfold abF;simp only[ay,jE,bm,phi (Xs hsm),cAG0,cAG1,cAG2,fE,mo,EV,ai,cp,Lm,phi (ags hs hf hu hm),jS,rk,pR,pHD,Aq,bsE,TW,ap,aC,aK,dn,rm,ixM (show i<a.wher.length by omega),s3]
 refine(yZ (s:=lX a.slots fr i u) (N:=1001) (H:=a.heap.length+1) (W:=a.wher.length) (by omega) (a.heap.length+1) a.heap.length 1001 _ _ (by omega) (by omega) (by omega) (by simp) (by simp) (λe he=>?_) hP').trans ?_
 .grind
 .unfold PM;have s4':RF.ev .sub [sl ct (upS (a.heap.length+1) (a.heap++[⟨t,n,⟨i,u+1⟩⟩]) (a.wher.set i (a.heap.length:Int)) a.heap.length).1,.v (.int .i64 0),.v (.int .i64 ((a.heap.length+1:Nat):Int))]=some (sl ct (gT a fr i u t n).heap):=s4;have s5':RF.ev .sub [sl I1 (upS (a.heap.length+1) (a.heap++[⟨t,n,⟨i,u+1⟩⟩]) (a.wher.set i (a.heap.length:Int)) a.heap.length).2.1,.v (.int .i64 0),.v (.int .i64 (a.wher.length:Int))]=some (sl I1 (gT a fr i u t n).wher):=s5;simp only[EV,pSL,s4',s5',Ar];rfl
def eP (x:Evt):Nat->List Evt->List Int->Nat->List Evt×List Int×Nat
 |0,hp,wh,i=>(hp,wh,i)
 |n+1,hp,wh,i=>match hp[(i-1)/2]? with
  |some p=>if 0<i/\ evLess x p=true then eP x n (hp.set i p) (wh.set p.hnd.index.toNat (i:Int)) ((i-1)/2) else(hp,wh,i)
  |none=>(hp,wh,i)
def B5 {x:Evt}:∀(n:Nat) (hp:List Evt) (wh:List Int) (i:Nat),i<hp.length->
  upS n (hp.set i x) (wh.set x.hnd.index.toNat (i:Int)) i=((eP x n hp wh i).1.set (eP x n hp wh i).2.2 x,(eP x n hp wh i).2.1.set x.hnd.index.toNat ((eP x n hp wh i).2.2:Int),(eP x n hp wh i).2.2)
 |0,hp,wh,i,_=>rfl
 |n+1,hp,wh,i,hi=>by
  have hx:(hp.set i x)[i]?=some x:=bj hi;by_cases h0:0<i
  .obtain⟨p,hp'⟩:∃p,hp[(i-1)/2]?=some p:=⟨hp[(i-1)/2]'(by omega),ah _⟩;have hq:(hp.set i x)[(i-1)/2]?=some p:=by rw[bw (by omega)];exact hp'
   unfold upS eP;rw[hx,hq,hp'];simp only;by_cases hc:0<i/\ evLess x p=true
   .rw[ad hc,ad hc];have e1:jY (hp.set i x) i ((i-1)/2) x p=(hp.set i p).set ((i-1)/2) x:=by unfold jY;rw[lR]
    have e2:oQ (wh.set x.hnd.index.toNat (i:Int)) i ((i-1)/2) x p=(wh.set p.hnd.index.toNat (i:Int)).set x.hnd.index.toNat (((i-1)/2:Nat):Int):=by
     unfold oQ;by_cases e:x.hnd.index.toNat=p.hnd.index.toNat
     .simp[e]
     .rw[qp _ _ e,lR]
    rw[e1,e2];exact B5 n (hp.set i p) (wh.set p.hnd.index.toNat (i:Int)) ((i-1)/2) (by rw[ba];omega)
   .rw[ac hc,ac hc]
  .have:i=0:=by omega
   subst this;obtain⟨p,hp'⟩:∃p,hp[(0-1)/2]?=some p:=⟨hp[0]'hi,ah hi⟩;unfold upS eP;rw[show(0-1)/2=0 from rfl] at hp'|-
   rw[hx,hp'];simp
def Fc {n d:Int}(hn:Sm n)(hd:Sm d)(h0:d≠0):rok (mkR n d)=true/\ aQ (mkR n d):=by
 obtain⟨n1,n2⟩:=hn;obtain⟨d1,d2⟩:=hd;have hg:0<Nat.gcd n.natAbs d.natAbs:=fZ _ (by omega);have l1:n.natAbs/Nat.gcd n.natAbs d.natAbs<=n.natAbs:=hG ..;have l2:d.natAbs/Nat.gcd n.natAbs d.natAbs<=d.natAbs:=hG ..;have l3:=Nat.div_pos (Nat.le_of_dvd (by omega) (Nat.gcd_dvd_right ..)) hg;have co:=Nat.coprime_div_gcd_div_gcd hg;have key:∀z:Int,z.natAbs=n.natAbs/Nat.gcd n.natAbs d.natAbs->rok ⟨z,((d.natAbs/Nat.gcd n.natAbs d.natAbs:Nat):Int)⟩=true/\ aQ ⟨z,((d.natAbs/Nat.gcd n.natAbs d.natAbs:Nat):Int)⟩:=λz hz=>by
  refine⟨?_,⟨by simp only;omega,by simp only;omega⟩,by simp only;omega,by simp only;omega⟩;unfold rok
  grind
 unfold mkR
 grind
def qT {l:List Pt}{t:Rt}{x:Crt}(h:okF l)(ht:aQ t)(hr:rok t=true)(h1:inF l x.low=true)(h2:inF l x.high=true)(hf:(cB t (be l x.high) (be l x.low)).2=true):
  rok (cB t (be l x.high) (be l x.low)).1=true/\ aQ (cB t (be l x.high) (be l x.low)).1:=by
 obtain⟨i,p,a1,a2,a3,a4⟩:=ea h h1;obtain⟨j,q,b1,b2,b3,b4⟩:=ea h h2;have bp:=Pt.bnd (dH h a1);have bq:=Pt.bnd (dH h b1);rw[a4,b4] at hf|-;unfold cB at hf|-;split
 .grind
 .rename_i h3;split
  .exact Fc ⟨by omega,by omega⟩ ⟨by omega,by omega⟩ (by omega)
  .grind
def qU {a:Agenda}(h:eO a){d:Due}{n:Int}{t:Rt}:ph a d n t↔d.number=n/\(⟨t,n,d.hnd⟩:Evt)∈a.heap:=by
 constructor
 .rintro⟨h1,h2,h3⟩;obtain⟨i,w,k,e,e1,e2,e3,e4,e5⟩:=EH h h2;rw[e3] at e2;obtain⟨q1,q2⟩:=h3 i k e e1 e2 e4;refine⟨h1,?_⟩;obtain⟨et,en,eh⟩:=e;simp only at q1 q2 e5;rw[<-q1,<-q2,<-e5];exact au e4
 .rintro⟨h1,h2⟩;obtain⟨k,hk⟩:=aI.1 h2;obtain⟨j,u,e1,e2,e3,e4⟩:=(pG (okR_fine.1 h.1) h.2.1).at_ k _ hk;simp only at e1;refine⟨h1,⟨by rw[e1];simp only;omega,by rw[e1,aF];exact e2,by rw[e1,aF];exact e3⟩,λi m e g1 g2 g3=>?_⟩;rw[e1] at g1;simp only at g1;have:j=i:=by omega
  subst this;rw[e4] at g2;simp only[bY] at g2;have:k=m:=by omega
  subst this;rw[hk] at g3;cases g3;exact⟨rfl,rfl⟩
def zu {c c':Clock}(hn:c'.now=c.now)(hp:c'.pts=c.pts)(hD:∀d n t,ph c.agenda d n t->ph c'.agenda d n t){s:List Due}:∀(l:List Held) (left out:List Due),ef (dX c) left l=some out->ef (dX c') (left++s) l=some (out++s)
 |[],left,out,h=>by
  unfold ef at h|-;cases h;rfl
 |x::l,left,out,h=>by
  unfold ef at h|-;cases e:dX c left x with
  |none=>rw[e] at h;cases h
  |some y=>
   rw[e] at h;have:dX c' (left++s) x=some (y++s):=by
    unfold dX at e|-;rw[hn,hp];by_cases h1:dT c.pts x=true
    .rw[ad h1] at e|-;by_cases h2:(cB c.now (be c.pts x.cert.high) (be c.pts x.cert.low)).2=true
     .rw[ad h2] at e|-;cases left with
      |nil=>cases e
      |cons d rest=>
       simp only[aU] at e|-;by_cases h3:ph c.agenda d x.number (cB c.now (be c.pts x.cert.high) (be c.pts x.cert.low)).1
       .rw[ad h3] at e;rw[ad (hD _ _ _ h3)];cases e;rfl
       .rw[ac h3] at e;cases e
     .rw[ac h2] at e|-;cases e;rfl
    .rw[ac h1] at e;cases e
   rw[this];exact zu hn hp hD l y out h
def zw {α β:Type}{g:β->α->Option β}:∀{l k:List α} {x y:β},ef g x l=some y->ef g x (l++k)=ef g y k
 |[],k,x,y,h=>by unfold ef at h;cases h;rfl
 |a::l,k,x,y,h=>by
  have h:(match g x a with|some y=>ef g y l|none=>none)=some y:=h
  show(match g x a with|some y=>ef g y (l++k)|none=>none)=_
  cases e:g x a with
  |none=>rw[e] at h;cases h
  |some z=>rw[e] at h;exact zw h
def zx {c:Clock}(ha:eO c.agenda):∀(l:List Held) (left:List Due),ef (dX c) left l=some []->(left.map (·.number)).Sublist (l.map (·.number))/\∀d∈left,∃t,(⟨t,d.number,d.hnd⟩:Evt)∈c.agenda.heap
 |[],left,h=>by unfold ef at h;cases h;exact⟨.slnil,by simp⟩
 |x::l,left,h=>by
  unfold ef at h;cases e:dX c left x with
  |none=>rw[e] at h;cases h
  |some y=>
   rw[e] at h;obtain⟨r1,r2⟩:=zx ha l y h;unfold dX at e;by_cases h1:dT c.pts x=true
   .rw[ad h1] at e;by_cases h2:(cB c.now (be c.pts x.cert.high) (be c.pts x.cert.low)).2=true
    .rw[ad h2] at e;cases left with
     |nil=>cases e
     |cons d rest=>
      simp only at e;by_cases h3:ph c.agenda d x.number (cB c.now (be c.pts x.cert.high) (be c.pts x.cert.low)).1
      .rw[ad h3] at e;cases e;have h3:=(qU ha).1 h3;refine⟨?_,λd' hd=>?_⟩
       .rw[bQ,bQ,h3.1];exact .cons_cons _ r1
       .rcases bh.1 hd with rfl|hd
        .exact⟨_,by rw[h3.1];exact h3.2⟩
        .exact r2 d' hd
      .rw[ac h3] at e;cases e
    .rw[ac h2] at e;cases e;exact⟨.cons _ r1,r2⟩
   .rw[ac h1] at e;cases e
def B6 {c:Certs}(h:dy c):∀(j i:Nat) (x y:Held),i<j->c.list[i]?=some x->c.list[j]?=some y->x.number<y.number
 |0,i,x,y,hij,hx,hy=>by omega
 |j+1,i,x,y,hij,hx,hy=>by
  have q:=(h.2.2.2 (j+1) y hy).2.2.2.1;have hj:=bu hy;obtain⟨z,hz⟩:∃z,c.list[j]?=some z:=⟨c.list[j]'(by omega),ah _⟩;have q:=q z (by omega) (by simpa using hz)
  by_cases e:i=j
  .subst e;rw[hx] at hz;cases hz;exact q
  .have:=B6 h j i x z (by omega) hx hz;omega
def As {c:Certs}(h:dy c):(c.list.map (·.number)).Nodup:=by
 rw[List.Nodup,f9,dM];intro i j hi hj hij e;have:=B6 h j i _ _ hij (ah hi) (ah hj);omega
def sJ {c:Clock}(h:bD c):(c.due.map (·.number)).Perm (c.agenda.heap.map (·.number))/\(c.due.map (·.number)).Sublist (c.certs.list.map (·.number)):=by
 obtain⟨_,_,h3,h4,_,h6,h7⟩:=h;obtain⟨r1,r2⟩:=zx h4 _ _ h7;refine⟨lK (r1.nodup (As h3)) (λn hn=>?_) (by simp;omega),r1⟩
 grind
def rC {c:Clock}(h:bD c):c.certs.next∉c.agenda.heap.map (·.number):=λhm=>by
 obtain⟨p,s⟩:=sJ h;have:=s.subset (p.mem_iff.2 hm);obtain⟨x,hx,hn⟩:=bf.1 this;obtain⟨i,hi⟩:=aI.1 hx;have:=(h.2.2.1.2.2.2 i x hi).2.2.1;omega
def fT (c:Clock)(x:Crt):Rt×Bool:=cB c.now (be c.pts x.high) (be c.pts x.low)
def nU (c:Clock)(x:Crt):Clock:=⟨c.now,c.pts,lx c.certs x,c.agenda,c.due⟩
def mM (c:Clock)(x:Crt)(fr:List Int)(i:Nat)(u:Int):Clock:=⟨c.now,c.pts,lx c.certs x,gT c.agenda fr i u (fT c x).1 c.certs.next,c.due++[⟨c.certs.next,⟨i,u+1⟩⟩]⟩
structure CAdd (c:Clock)(x:Crt):Prop where
 ok:bD c
 cok:x.ok
 new:∀g∈c.certs.list,g.cert≠x
 room:c.certs.list.length<200
 next:c.certs.next<1000000
 low:inF c.pts x.low=true
 high:inF c.pts x.high=true
def Fe {c:Clock}{x:Crt}(h:CAdd c x)(hf:(fT c x).2=false):bD (nU c x):=by
 obtain⟨⟨h1,h2,h3,h4,h5,h6,h7⟩,hx,hn,hr,hl,k1,k2⟩:=h;refine⟨h1,h2,Nn h3 hx hn hr hl,h4,h5,h6,?_⟩;have:=zu (c:=c) (c':=nU c x) rfl rfl (λ_ _ _ h=>h) (s:=[]) _ _ _ h7;rw[aZ] at this;refine(zw this).trans ?_;have:dX (nU c x) ([]++[]) ⟨c.certs.next,x⟩=some []:=by
  unfold dX;have hk:dT (nU c x).pts ⟨c.certs.next,x⟩=true:=by unfold dT nU;simp only;rw[k1,k2];rfl
  rw[ad hk,ac (by unfold fT at hf;exact qr.1 hf)];rfl
 unfold ef;rw[this];rfl
def Ff {c:Clock}{x:Crt}(h:CAdd c x)(h64:aQ c.now){fr:List Int}{i:Nat}{u:Int}(he:c.agenda.slots.free=fr++[(i:Int)])(hu:c.agenda.slots.uses[i]?=some u)(hm:u<1000000)(hf:(fT c x).2=true):bD (mM c x fr i u):=by
 have hnew:=rC h.ok;obtain⟨⟨h1,h2,h3,h4,h5,h6,h7⟩,hx,hn,hr,hl,k1,k2⟩:=h;obtain⟨f1,f2⟩:=qT h2 h64 h1 k1 k2 hf;have n0:=h3.2.1;obtain⟨p1,p2,p3⟩:=yp h4 he hu hm (t:=(fT c x).1) (n:=c.certs.next) ⟨f1,n0,by omega⟩ hnew;refine⟨h1,h2,Nn h3 hx hn hr hl,p1,p3.trans h5,?_,?_⟩
 .have:=p2.length_eq;rw[aC,aK] at this;unfold mM
  grind
 .have:=zu (c:=c) (c':=mM c x fr i u) rfl rfl (λd n t hd=>by
   refine(qU p1).2 ?_;obtain⟨d1,d2⟩:=(qU h4).1 hd;exact⟨d1,p2.mem_iff.2 (dL _ d2)⟩) (s:=[⟨c.certs.next,⟨i,u+1⟩⟩]) _ _ _ h7
  refine(zw this).trans ?_;have:dX (mM c x fr i u) ([]++[⟨c.certs.next,⟨i,u+1⟩⟩]) ⟨c.certs.next,x⟩=some []:=by
   unfold dX;have hk:dT (mM c x fr i u).pts ⟨c.certs.next,x⟩=true:=by unfold dT mM;simp only;rw[k1,k2];rfl
   rw[ad hk,ad (by unfold fT at hf;exact hf)];simp only[aO];rw[ad];refine(qU p1).2 ⟨rfl,p2.mem_iff.2 ?_⟩;simp only[bS,b8];exact .inr rfl
  unfold ef;rw[this];rfl
def newC (l:List Pt)(t:Rt):Clock:=⟨t,l,⟨0,[]⟩,rA 200,[]⟩
def XB (a:Agenda):RF.ev (.part 0 5) [AG a]=some (AG a):=rfl
def XC (l:List Pt)(t:Rt):RF.ev .agg [R t,sl row l,.v (.int .i64 0),.sl [],AG (rA 200),.sl []]=some (CL (newC l t)):=rfl
def Lr {l:List Pt}{t:Rt}(h:okF l)(ht:aQ t)(hr:rok t=true):Ans D 167 [F l,R t] [CL (newC l t),.i64 0]:=by
 have h1:=phi (te l);rw[eL.2 h] at h1;have h2:=phi (c43 ht);rw[hr] at h2;have e0:okE true=0:=rfl;rw[e0] at h2;have c2:=phi (agx (n:=200) (by omega) (by omega));have c2:bL D 258 [.v (.int .i64 200)]=some [AG (rA 200),.i64 0]:=c2;refine am ?_;unfold RV;simp[bv,bm,h1,h2,EV,c2,jE,cG,phi (d67 (l:=l) (by have:=h.1;omega)),pR,XB,cp,XC]
def po {c:Clock}(h:bD c):CSm c:=by
 obtain⟨_,h2,h3,h4,_,h6,_⟩:=h;have ha:=D2 h4;exact⟨by have:=h2.1;omega,by have:=h3.1;omega,ha,by have:=ha.heap;omega⟩
def tU {a:Agenda}(h:eO a):gAg a=false:=by
 have hs:=okR_fine.1 h.1;have:=hs.n2;have:=h.2.1.2.1;have:=h.2.1.1;unfold gAg;rw[vw hs]
 grind
structure Fresh (c:Clock):Prop where
 ok:bD c
 now64:aQ c.now
 ev64:∀e∈c.agenda.heap,aQ e.time
 heap:c.agenda.heap.length<=c.certs.list.length
 next:c.certs.next=c.certs.list.length
 uses:∀i:Nat,(i:Int)∈c.agenda.slots.free->c.agenda.slots.uses[i]?=some 0
def frL (c:Clock):List Int:=c.agenda.slots.free.dropLast
def frI (c:Clock):Nat:=((c.agenda.slots.free.getLast?).getD 0).toNat
def fV (c:Clock)(x:Crt):Clock:=if(fT c x).2=true then mM c x (frL c) (frI c) 0 else nU c x
def At {c:Clock}(h:Fresh c)(hr:c.certs.list.length<200):c.agenda.slots.free=frL c++[(frI c:Int)]/\ c.agenda.slots.uses[frI c]?=some 0:=by
 have hs:=okR_fine.1 h.ok.2.2.2.1.1;have hl:=h.ok.2.2.2.1.2.1.2.1;have hw:=h.ok.2.2.2.1.2.1.1;have hw':=h.ok.2.2.2.2.1;have hh:=h.heap;rcases free_last hs with e|⟨fr,i,u,e,hu,h1,h2⟩
 .grind
 .have e1:frL c=fr:=by unfold frL;rw[e];simp
  have e2:frI c=i:=by unfold frI;rw[e];simp
  rw[e1,e2];exact⟨e,h.uses i (by rw[e];simp)⟩
def Ls {c:Clock}{x:Crt}(h:Fresh c)(ha:CAdd c x):Fresh (fV c x)/\(fV c x).certs=lx c.certs x/\(fV c x).pts=c.pts/\(fV c x).now=c.now:=by
 obtain⟨e1,e2⟩:=At h ha.room;have hnx:=h.next;unfold fV;split
 .rename_i hf;have hrk:=ha.ok.1;have hok:=Ff ha h.now64 e1 e2 (by omega) hf;obtain⟨f1,f2⟩:=qT ha.ok.2.1 h.now64 hrk ha.low ha.high hf;obtain⟨p1,p2,p3⟩:=yp ha.ok.2.2.2.1 e1 e2 (by omega) (t:=(fT c x).1) (n:=c.certs.next) ⟨f1,ha.ok.2.2.1.2.1,by have:=ha.next;omega⟩ (rC ha.ok);refine⟨⟨hok,h.now64,λe he=>?_,?_,?_,λj hj=>?_⟩,rfl,rfl,rfl⟩
  .rcases bS.1 (p2.mem_iff.1 he) with h1|h1
   .exact h.ev64 e h1
   .rw[b8] at h1;subst h1;exact f2
  .have q:=p2.length_eq;rw[aC,aK] at q;have:=h.heap;unfold mM lx
   grind
  .unfold mM lx
   grind
  .have hj':(j:Int)∈frL c:=hj;have hnd:=(okR_fine.1 ha.ok.2.2.2.1.1).nd;rw[e1,eN] at hnd;have hne:frI c≠j:=λq=>hnd.2.2 _ hj' (frI c:Int) (by simp) (by omega);show(c.agenda.slots.uses.set (frI c) (0+1))[j]?=some 0
   rw[bw hne];exact h.uses j (by rw[e1];simp[hj'])
 .rename_i hf;have hf:=qr.2 hf;refine⟨⟨Fe ha hf,h.now64,h.ev64,?_,?_,h.uses⟩,rfl,rfl,rfl⟩
  .have:=h.heap;unfold nU lx;simp only[aC,aK];omega
  .unfold nU lx;simp only[aC,aK];omega
def newA_ok {n:Nat}(h1:1<=n)(h2:n<=200):eO (rA n):=by
 have hs:=Da (n:=n) h1 h2;refine⟨okR_fine.2 hs,⟨by unfold rA vz;simp,by unfold rA vz;simp[jh],λi b w u hb hw hu=>?_⟩,by simp[rA],by simp[rA],λi e p he=>?_⟩
 .unfold rA vz at hb hw
  grind
 .unfold rA at he;simp at he
def Au {l:List Pt}{t:Rt}(hl:okF l)(ht:aQ t)(hr:rok t=true):Fresh (newC l t):=by
 refine⟨⟨hr,hl,⟨cV _,pB _,(by decide:(0:Int)<=1000000),λi h hi=>by cases i<;>cases hi⟩,newA_ok (n:=200) (by omega) (by omega),aR,rfl,rfl⟩,ht,(λe he=>by cases he),aB _,rfl,λi hi=>?_⟩;have:=(Da (n:=200) (by omega) (by omega)).rng _ hi;simp only[vz] at this;show(List.replicate 200 (0:Int))[i]?=some 0
 grind
structure EdgOk (l:List Pt)(es:List Crt):Prop where
 nd:es.Nodup
 len:es.length<200
 ok:∀x∈es,x.ok
 low:∀x∈es,inF l x.low=true
 high:∀x∈es,inF l x.high=true
def certAll (c:Clock)(es:List Crt):Clock:=es.foldl fV c
structure AtK (l:List Pt)(t:Rt)(es:List Crt)(k:Nat)(c:Clock):Prop where
 fresh:Fresh c
 certs:c.certs.list.map (·.cert)=es.take k
 pts:c.pts=l
 now:c.now=t
def JP {l:List Pt}{t:Rt}{es:List Crt}(hE:EdgOk l es){k:Nat}{c:Clock}(h:AtK l t es k c){x:Crt}(hx:es[k]?=some x):CAdd c x/\(∀g∈c.certs.list,g.cert≠x):=by
 have hm:=au hx;have hk:=bu hx;have hlen:c.certs.list.length=k:=by
  have:=aW List.length h.certs
  grind
 have hE':=hE.len;have hnew:∀g∈c.certs.list,g.cert≠x:=λg hg e=>by
  have h1:g.cert∈es.take k:=by rw[<-h.certs];exact bf.2 ⟨g,hg,rfl⟩
  rw[e] at h1;obtain⟨i,hi⟩:=aI.1 h1;have hik:i<k:=by have:=bu hi;rw[aP] at this;omega
  rw[c7 hik] at hi;have:=dN.1 hE.nd i k x hi hx;omega
 refine⟨⟨h.fresh.ok,hE.ok x hm,hnew,by omega,by have:=h.fresh.next;omega,by rw[h.pts];exact hE.low x hm,by rw[h.pts];exact hE.high x hm⟩,hnew⟩
def RB {l:List Pt}{t:Rt}{es:List Crt}(hE:EdgOk l es){k:Nat}{c:Clock}(h:AtK l t es k c){x:Crt}(hx:es[k]?=some x):AtK l t es (k+1) (fV c x):=by
 obtain⟨f1,f2,f3,f4⟩:=Ls h.fresh (JP hE h hx).1;refine⟨f1,?_,f3.trans h.pts,f4.trans h.now⟩;rw[f2];unfold lx;rw[dQ,h.certs,cC,hx];rfl
def yq {l:List Pt}{t:Rt}{es:List Crt}(hE:EdgOk l es)(hl:okF l)(ht:aQ t)(hr:rok t=true):∀k,k<=es.length->AtK l t es k (certAll (newC l t) (es.take k))
 |0,_=>⟨Au hl ht hr,rfl,rfl,rfl⟩
 |k+1,hk=>by
  have hx:es[k]?=some es[k]:=ah _;have:=RB hE (yq hE hl ht hr k (by omega)) hx;have e:es.take (k+1)=es.take k++[es[k]]:=by rw[cC,hx];rfl
  unfold certAll at this|-;rw[e,qt];exact this
def Fg (e:Evt):RF.ev (.cell 3) [EP e]=some (.i64 e.hnd.index):=rfl
structure GoodE (W:Nat)(e:Evt):Prop where
 t64:aQ e.time
 rok:rok e.time=true
 ix:∃j:Nat,e.hnd.index=(j:Int)/\ j<W
def Db {N:Nat}{f0:JT}{t:Rt}{n:Int}{h:Hnd}{e0 e1 e3 e5 e6 e7 e8 e9 e10 e11 e12 e13 e14 e15 e16 e17 e18 e20 e21 e22 e23 e24 e25 e27 e28 e29 e30 e31 e32 e34:PV}{H W:Nat}(hH:H<=1000)(ht:aQ t)(rt:rok t=true):∀(r i m:Nat) (hp:List Evt) (wh:List Int),i<=r->r<m->i<H->hp.length=H->wh.length=W->(∀x∈hp,GoodE W x)->
  dW (bL D) N ug [f0] [e0,e1,.i64 n,e3,R t,e5,e6,e7,e8,e9,e10,e11,e12,e13,e14,e15,e16,e17,e18,HD h,e20,e21,e22,e23,e24,e25,.i64 (W:Int),e27,e28,e29,e30,e31,e32,.i64 (H:Int),e34] m [.i64 (i:Int),sl ct hp,sl I1 wh]=f0 [sl ct (eP ⟨t,n,h⟩ r hp wh i).1,sl I1 (eP ⟨t,n,h⟩ r hp wh i).2.1,.i64 ((eP ⟨t,n,h⟩ r hp wh i).2.2:Int)]
 |0,i,m,hp,wh,hi,hm,hiH,hl,hw,hg=>by
  obtain⟨m,rfl⟩:∃m',m=m'+1:=⟨m-1,by omega⟩;have:i=0:=by omega
  subst this;rw[bC];unfold ug eP;simp only[EV,aa];rw[ac (by omega)]
 |r+1,i,m,hp,wh,hi,hm,hiH,hl,hw,hg=>by
  obtain⟨m,rfl⟩:∃m',m=m'+1:=⟨m-1,by omega⟩;obtain⟨p,hp'⟩:∃p,hp[(i-1)/2]?=some p:=⟨hp[(i-1)/2]'(by omega),ah _⟩;have E:eP ⟨t,n,h⟩ (r+1) hp wh i=if 0<i/\ evLess ⟨t,n,h⟩ p=true then eP ⟨t,n,h⟩ r (hp.set i p) (wh.set p.hnd.index.toNat (i:Int)) ((i-1)/2) else(hp,wh,i):=by rw[eP,hp']
  rw[E,bC];by_cases h0:0<i
  rotate_left
  .rw[ac (λh=>h0 h.1)];unfold ug;simp only[EV,aa];rw[ac (by omega)]
  .obtain⟨p64,prk,jp,pj,pW⟩:=hg p (au hp');have ih:=Db (N:=N) (f0:=f0) (t:=t) (n:=n) (h:=h) (e0:=e0) (e1:=e1) (e3:=e3) (e5:=e5) (e6:=e6) (e7:=e7) (e8:=e8) (e9:=e9) (e10:=e10) (e11:=e11) (e12:=e12) (e13:=e13) (e14:=e14) (e15:=e15) (e16:=e16) (e17:=e17) (e18:=e18) (e20:=e20) (e21:=e21) (e22:=e22) (e23:=e23) (e24:=e24) (e25:=e25) (e27:=e27) (e28:=e28) (e29:=e29) (e30:=e30) (e31:=e31) (e32:=e32) (e34:=e34) (H:=H) (W:=W) hH ht rt r ((i-1)/2) m (hp.set i p) (wh.set p.hnd.index.toNat (i:Int)) (by omega) (by omega) (by omega) (by rw[ba];exact hl) (by rw[ba];exact hw) (λx hx=>by
    rcases dp hx with h1|h1
    .exact hg x h1
    .rw[h1];exact⟨p64,prk,jp,pj,pW⟩)
   have cm:=phi (zo (x:=⟨t,n,h⟩) (y:=p) ht p64 rt prk);have q2:=Lq h0 (by omega);have s1:=Ap (l:=hp) (i:=i) (by omega) p;have s3:=iI (l:=wh) (i:=jp) (by omega) (i:Int);generalize hkk:ug=kk at ih;subst hkk;unfold ug;simp[EV];rw[ad (by omega)];simp only[EV,q2,ixM (show(i-1)/2<H by omega),aM hp',iX,ay,pR,pHD,Aq,cm,aa,oO]
   by_cases hc:evLess ⟨t,n,h⟩ p=true
   .rw[ad hc,ad ⟨h0,hc⟩];simp only[EV,mb,q2,ixM hiH,ixM (show(i-1)/2<H by omega),aM hp',iX,ay,ir,s1,Fg,pj,ixM pW,s3]
    rw[pj,aF] at ih;exact ih
   .rw[ac hc,ac (λq=>hc q.2)]
def JQ {x y:Evt}(h:evLess x y=false):¬zn x y<0:=λc=>by
 rw[(oO x y).1 c] at h;cases h
def Nq {N:Nat}{f0:JT}{t:Rt}{n:Int}{h:Hnd}{e0 e1 e3 e5 e6 e7 e8 e9 e10 e11 e12 e13 e14 e15 e16 e17 e18 e20 e21 e22 e23 e24 e25 e27 e28 e29 e30 e31 e32 e34 e35 e36 e37 e38 e39 e26:PV}{H i m:Nat}{hp:List Evt}{w:PV}(hH:H<=1000)(ht:aQ t)(rt:rok t=true)(hm:0<m)(hi:i<H)(hl:hp.length=H)
  (hg:∀k e,k≠i->hp[k]?=some e->aQ e.time/\ rok e.time=true) (ho:∀k e,(k=2*i+1\/k=2*i+2)->hp[k]?=some e->evLess e ⟨t,n,h⟩=false):
  dW (bL D) N Hq [f0] [e0,e1,.i64 n,e3,R t,e5,e6,e7,e8,e9,e10,e11,e12,e13,e14,e15,e16,e17,e18,HD h,e20,e21,e22,e23,e24,e25,e26,e27,e28,e29,e30,e31,e32,.i64 (H:Int),e34,e35,e36,e37,e38,e39] m [.i64 (i:Int),sl ct hp,w,.i64 ((2*i+1:Nat):Int)]=f0 [sl ct hp,w,.i64 (i:Int)]:=by
 obtain⟨m,rfl⟩:∃m',m=m'+1:=⟨m-1,by omega⟩;rw[bC];have sh:∀e:Evt,RF.ev (.shape 5) [EP e]=some (EP e):=λ_=>rfl;have fin:∀(k:Nat) (self:JT) (a b c d d':PV),(k=2*i+1\/k=2*i+2)->k<H->den (bL D) N Ho [f0,self] [e0,e1,.i64 n,e3,R t,e5,e6,e7,e8,e9,e10,e11,e12,e13,e14,e15,e16,e17,e18,HD h,e20,e21,e22,e23,e24,e25,e26,e27,e28,e29,e30,e31,e32,.i64 (H:Int),e34,e35,e36,e37,e38,e39,.i64 (i:Int),sl ct hp,w,a,b,c,d,d',.i64 (k:Int)]=f0 [sl ct hp,w,.i64 (i:Int)]:=λk self a b c d d' hk hkH=>by
  obtain⟨e,he⟩:∃e,hp[k]?=some e:=⟨hp[k]'(by omega),ah _⟩;obtain⟨g1,g2⟩:=hg k e (by omega) he;have cm:=phi (zo (x:=e) (y:=⟨t,n,h⟩) g1 ht g2 rt);unfold Ho;simp only[EV,ixM hkH,aM he,iX,ay,pR,pHD,Aq,cm,aa,bB];rw[ad (by have:=JQ (ho k e hk he);omega)]
 unfold Hq;simp only[EV,aa];by_cases h1:2*i+1<H
 .rw[ad (by omega)];simp only[EV,aa,up1 (show 2*i+1<1000000000 by omega)]
  by_cases h2:2*i+2<H
  .rw[ad (by omega)];obtain⟨e,he⟩:∃e,hp[2*i+1]?=some e:=⟨hp[2*i+1]'(by omega),ah _⟩;obtain⟨g,hg'⟩:∃e,hp[2*i+1+1]?=some e:=⟨hp[2*i+1+1]'(by omega),ah _⟩;obtain⟨a1,a2⟩:=hg _ e (by omega) he;obtain⟨b1,b2⟩:=hg _ g (by omega) hg';have cm:=phi (zo (x:=g) (y:=e) b1 a1 b2 a2);simp only[EV,up1 (show 2*i+1<1000000000 by omega),ixM h1,ixM (show 2*i+1+1<H by omega),aM he,aM hg',iX,ay,cm]
   unfold Hp;simp only[EV,aa,up1 (show 2*i+1<1000000000 by omega)]
   by_cases hc:zn g e<0
   .rw[ad hc];exact fin _ _ _ _ _ _ _ (.inr rfl) (by omega)
   .rw[ac hc];exact fin _ _ _ _ _ _ _ (.inl rfl) (by omega)
  .rw[ac (by omega)];unfold Hp;simp only[EV,aw,ax];exact fin _ _ _ _ _ _ _ (.inl rfl) (by omega)
 .rw[ac (by omega)]
def agA {a:Agenda}(h:eO a){fr:List Int}{i:Nat}{u:Int}(hf:a.slots.free=fr++[(i:Int)])(hu:a.slots.uses[i]?=some u)(hm:u<1000000){t:Rt}{n:Int}(hx:rok t=true/\ 0<=n/\ n<=1000000)(hn:n∉a.heap.map (·.number))(ht:aQ t)(h64:∀e∈a.heap,aQ e.time):
  Ans D 349 [AG a,R t,.i64 n] [AG (gT a fr i u t n),HD ⟨i,u+1⟩,.i64 0]:=by
 classical
 have hs:=okR_fine.1 h.1;have hP:=pG hs h.2.1;have hsm:=D2 h;have n2:=hs.n2;have hl:=h.2.1.2.1;have hw:=h.2.1.1;have hi:=bu hu;obtain⟨hOk,q2,q3⟩:=yp h hf hu hm hx hn;have hOrd:=xc hOk;have m1:=phi (EJ (tU h) h64);rw[aq h] at m1;have m2:=phi (c43 ht);rw[hx.1] at m2;have e0:okE true=0:=rfl;rw[e0] at m1 m2;have mm:RF.ev (.mm true) [.v (.int .i64 0),.v (.int .i64 0)]=some (.v (.int .i64 0)):=rfl;have ap:=gn (f:=ct) (l:=a.heap) (k:=[⟨t,n,⟨i,u+1⟩⟩]) (bytes:=40) (z:=5) (by simp;omega) jP;have dn:=yn (n:=a.heap.length) (by omega);have good:∀x∈a.heap++[(⟨t,n,⟨i,u+1⟩⟩:Evt)],GoodE a.wher.length x:=λx hx'=>by
  rcases bS.1 hx' with h1|h1
  .obtain⟨k,hk⟩:=aI.1 h1;obtain⟨j,v,g1,_,_,g4⟩:=hP.at_ k x hk;exact⟨h64 x h1,(h.2.2.1 x h1).1,j,by rw[g1],bu g4⟩
  .rw[b8] at h1;subst h1;exact⟨ht,hx.1,i,rfl,by omega⟩
 have up:=B5 (x:=⟨t,n,⟨i,u+1⟩⟩) (a.heap.length+1) (a.heap++[⟨t,n,⟨i,u+1⟩⟩]) a.wher a.heap.length (by simp);have e1:(a.heap++[(⟨t,n,⟨i,u+1⟩⟩:Evt)]).set a.heap.length ⟨t,n,⟨i,u+1⟩⟩=a.heap++[⟨t,n,⟨i,u+1⟩⟩]:=by simp
 rw[e1] at up;simp only[aF] at up;obtain⟨hpF,whF,jF,hF⟩:∃hpF whF jF,eP ⟨t,n,⟨i,u+1⟩⟩ (a.heap.length+1) (a.heap++[⟨t,n,⟨i,u+1⟩⟩]) a.wher a.heap.length=(hpF,whF,jF):=⟨_,_,_,rfl⟩;rw[hF] at up;simp only at up;have pH:(gT a fr i u t n).heap=hpF.set jF ⟨t,n,⟨i,u+1⟩⟩:=by unfold gT;rw[up]
 have pW:(gT a fr i u t n).wher=whF.set i (jF:Int):=by unfold gT;rw[up]
 have pS:(gT a fr i u t n).slots=lX a.slots fr i u:=rfl;have lH:hpF.length=a.heap.length+1:=by
  have:=q2.length_eq;rw[pH,ba,aC,aK] at this;exact this
 have lW:whF.length=a.wher.length:=by rw[pW,ba] at q3;exact q3
 have hjF:jF<=a.heap.length:=by
  have q:=(Ao (s:=lX a.slots fr i u) (a.heap.length+1) (a.heap++[⟨t,n,⟨i,u+1⟩⟩]) (a.wher.set i (a.heap.length:Int)) a.heap.length (by omega) (by simp) (λx hx'=>(good x hx').rok) ⟨λc e p c0 cn he hp=>by
   have h1:=bu he;rw[aC,aK] at h1;rw[aG (by omega)] at he hp;exact xc h c e p c0 he hp,λc e p _ c0 hc he _=>by
   have h1:=bu he;rw[aC,aK] at h1;omega⟩ (zt hs hP hf hu rfl)).2.2.2.2
  rw[up] at q;exact q
 have child:∀k e,k≠jF->hpF[k]?=some e->(gT a fr i u t n).heap[k]?=some e:=λk e hk he=>by rw[pH,bw (λq=>hk q.symm)];exact he
 have s4:=cp (f:=ct) (l:=(gT a fr i u t n).heap);rw[q2.length_eq,aC,aK] at s4;have s5:=cp (f:=I1) (l:=(gT a fr i u t n).wher);rw[q3] at s5;have s1:=Ap (l:=hpF) (i:=jF) (by omega) ⟨t,n,⟨i,u+1⟩⟩;rw[<-pH] at s1;have s3:=iI (l:=whF) (i:=i) (by omega) (jF:Int);rw[<-pW] at s3;refine an ⟨1001,?_⟩;unfold R0;simp only[ay,jE,bm,m1,m2,mm,fE,EV,ai,aA,aJ,aw,ax,aa,cw];rw[ac (by omega),ac (by omega)];refine(cz (m:=1001) (l:=a.heap) (p:=λg=>!decide (g.number=n)) (st:=λi=>[.i64 (i:Int)]) (r:=none) (fin:=some [AG (gT a fr i u t n),HD ⟨i,u+1⟩,.i64 0]) (λk g self hg hall=>?_) (λhall self=>?_) (by omega)).trans ?_
 .have hne:¬g.number=n:=λe=>hn (bf.2 ⟨g,au hg,e⟩);unfold uh;simp only[ay,fE,aX hg (jP _),aM hg,iX,vn,EV,aa,bi (aL hg),up1 (show k<1000000000 by have:=aL hg;omega),hne,aY,bZ,aw,az,ax]
 .unfold uh;simp only[EV,aa,bP];unfold Hr;have g0:decide ((-1:Int)>=0)=false:=rfl;simp only[EV,g0,aw,ax,ay,pAG,phi (agt hs hf hu hm),jS,rk,aA,aJ,phi (Xt hsm),jE,fE,mo,pR,pHD,Aq,bsE,TW,ai,ap,aC,aK,dn];refine(Db (N:=1001) (n:=n) (h:=⟨i,u+1⟩) (H:=a.heap.length+1) (W:=a.wher.length) (by omega) ht hx.1 (a.heap.length+1) a.heap.length 1001 _ _ (by omega) (by omega) (by omega) (by simp) rfl good).trans ?_;rw[hF];unfold PL;have w1:IntKind.i64.wrap (2*(jF:Int))=((2*jF:Nat):Int):=by rw[cI (by omega) (by omega)];omega
  simp only[EV,w1,up1 (show 2*jF<1000000000 by omega)]
  refine(Nq (N:=1001) (H:=a.heap.length+1) (by omega) ht hx.1 (by omega) (by omega) lH (λk e hk he=>?_) (λk e hk he=>?_)).trans ?_
  .have he':=child k e hk he;have:=good e (q2.mem_iff.1 (au he'));exact⟨this.t64,this.rok⟩
  .have he':=child k e (by omega) he;refine hOrd k e _ (by omega) he' ?_;rw[pH,show(k-1)/2=jF by omega,bj (by omega)]
  .unfold PK;simp only[EV,ay,ixM (show jF<a.heap.length+1 by omega),pR,pHD,Aq,s1,rm,ixM (show i<a.wher.length by omega),s3,pSL,s4,s5,Ar]
   rfl
 .rw[ad (by rw[aS];intro g hg;simpa usingλe=>hn (bf.2 ⟨g,hg,e⟩))]
def yr {c:Clock}(h:bD c):gW c:=by
 have hc:=po h;exact⟨hc.certs,hc.due,hc.pts,tU h.2.2.2.1⟩
def TX (n:Int)(h:Hnd):RF.ev .agg [.i64 n,HD h]=some (DP ⟨n,h⟩):=rfl
def XD (d:Due):RF.ev (.bs 1 [KP.z,KP.z,KP.z] [0]) [DP d]=some (sl cR [d]):=rfl
def TY (d:Due):RF.ev .sub [sl cR [d],.v (.int .i64 0),.v (.int .i64 1)]=some (sl cR [d]):=rfl
def TZ {c:Clock}{d:Due}(h:c.due.length<=1000):RF.ev (.app 24 3) [sl cR c.due,.v (.int .i64 (c.due.length:Int)),sl cR [d]]=some (sl cR (c.due++[d])):=
 gn (f:=cR) (l:=c.due) (k:=[d]) (bytes:=24) (z:=3) (by simp;omega) u9
def Nr (c:Clock)(d:Due):RF.ev .sub [sl cR (c.due++[d]),.v (.int .i64 0),.v (.int .i64 ((c.due++[d]).length:Int))]=some (sl cR (c.due++[d])):=cp
def Lt (c:Clock):RF.ev (.part 0 3) [CL c]=some (.agg [.i64 c.now.num,.i64 c.now.den,sl row c.pts]):=rfl
def XE (c:Certs):RF.ev (.part 0 2) [CS c]=some (CS c):=rfl
def adt (c:Clock):RF.ev (.part 5 3) [CL c]=some (SL c.agenda.slots):=rfl
def D3 (r:Rt)(p:List Pt)(cs:Certs)(s:Slots)(h:List Evt)(w:List Int)(d:List Due):RF.ev .agg [.agg [.i64 r.num,.i64 r.den,sl row p],CS cs,sl I1 s.uses,sl B1 s.used,sl I1 s.free,sl ct h,sl I1 w,sl cR d]=some (CL ⟨r,p,cs,⟨s,h,w⟩,d⟩):=rfl
def Ns (r:Rt)(p:List Pt)(cs:Certs)(s:Slots)(h:List Evt)(w:List Int)(d:List Due):RF.ev .agg [.i64 r.num,.i64 r.den,sl row p,.i64 cs.next,sl hrow cs.list,sl I1 s.uses,sl B1 s.used,sl I1 s.free,sl ct h,sl I1 w,sl cR d]=some (CL ⟨r,p,cs,⟨s,h,w⟩,d⟩):=rfl
def JR {l:List Pt}{t:Rt}(h:okF l)(hr:rok t=true){x:Crt}(hx:x.ok)(h1:inF l x.low=true)(h2:inF l x.high=true):kB (be l x.high) (be l x.low) t=0:=
 (Ai (c:=⟨t,l,⟨0,[]⟩,⟨⟨[],[],[]⟩,[],[]⟩,[]⟩) h hr (x:=⟨0,x⟩) hx).2 (by unfold dT;simp only;rw[h1,h2];rfl)
def vC {l:List Pt}(h:okF l){id:Int}(hi:inF l id=true):¬(be l id).id<0:=by
 obtain⟨i,p,h1,h2,h3,h4⟩:=ea h hi;rw[h4];have:=lV h p (au h1);omega
def B7 (p:Pt):RF.ev (.cell 0) [PP p]=some (.i64 p.id):=rfl
open Classical in
def XF {c:Clock}{x:Crt}(h:CAdd c x)(h64:fF c):((fT c x).2=false->Ans D 263 [CL c,CP x] [CL (nU c x),.i64 c.certs.next,.i64 0])/\
  ∀{fr:List Int} {i:Nat} {u:Int},(fT c x).2=true->c.agenda.slots.free=fr++[(i:Int)]->c.agenda.slots.uses[i]?=some u->u<1000000->Ans D 263 [CL c,CP x] [CL (mM c x fr i u),.i64 c.certs.next,.i64 0]:=by
 have hc:=po h.ok;have m1:=phi (vp h64 (yr h.ok));rw[aq h.ok,show okE true=0 from rfl] at m1
 have hF:=h.ok.2.1;have m2:=phi (XA h.ok.2.2.1 h.cok h.new h.room h.next);have m3:=phi (Rg (x:=x) hF h64.1);rw[ad (JR hF h.ok.1 h.cok h.low h.high)] at m3;have n8:decide ((0:Int)=8)=false:=rfl;have s0:=cp (f:=cR) (l:=c.due);have p1:=vC hF h.low;have p2:=vC hF h.high;constructor
 .intro hf;have hf':(cB c.now (be c.pts x.high) (be c.pts x.low)).2=false:=hf;rw[hf'] at m3;refine am ?_;unfold Mb;simp only[ay,cZ,kC,bm,rj,io,gM,m1,m2,kD,jQ,jR,phi (BV hF _),B7,EV,aA,aJ,aw,ax,n8,ak p1,ak p2,phi (E9 hc),fA,ai,m3,tz,tA,tB,mq,nQ];unfold G4;simp only[EV,ay,Lt,XE,s0,D3];rfl
 .intro fr i u hf he hu hm;have hf':(cB c.now (be c.pts x.high) (be c.pts x.low)).2=true:=hf;rw[hf'] at m3;obtain⟨f1,f2⟩:=qT hF h64.1 h.ok.1 h.low h.high hf';have m4:=phi (agA h.ok.2.2.2.1 he hu hm (t:=(fT c x).1) (n:=c.certs.next) ⟨f1,h.ok.2.2.1.2.1,by have:=h.next;omega⟩ (rC h.ok) f2 h64.2);have m4:bL D 349 [AG c.agenda,R (cB c.now (be c.pts x.high) (be c.pts x.low)).1,.v (.int .i64 c.certs.next)]=_:=m4;refine am ?_;unfold Mb;simp only[ay,cZ,kC,bm,rj,io,gM,nP,m1,m2,kD,jQ,jR,phi (BV hF _),B7,EV,aA,aJ,aw,ax,n8,ak p1,ak p2,phi (E9 hc),fA,ai,m3,m4,jE,rk,pHD,TX,XD,TY,TZ hc.due,cAG0,cAG1,cAG2,fE,mo,az];unfold G4;simp only[EV,ay,Lt,XE,Nr,D3];rfl
def agD {c:Clock}{x:Crt}(h:CAdd c x)(h64:fF c):((fT c x).2=false->Ans D 294 [CL c,CP x] [CL (nU c x),.i64 c.certs.next,.i64 0])/\
  ∀{fr:List Int} {i:Nat} {u:Int},(fT c x).2=true->c.agenda.slots.free=fr++[(i:Int)]->c.agenda.slots.uses[i]?=some u->u<1000000->Ans D 294 [CL c,CP x] [CL (mM c x fr i u),.i64 c.certs.next,.i64 0]:=by
 have hc:=po h.ok;have hF:=h.ok.2.1;have m2:=phi (agy h.ok.2.2.1 h.cok h.new h.room h.next);have m3:=phi (Xd (x:=x) hF h64.1 h.low h.high);have s0:=cp (f:=cR) (l:=c.due);constructor
 .intro hf;have hf':(cB c.now (be c.pts x.high) (be c.pts x.low)).2=false:=hf;rw[hf'] at m3;refine am ?_;unfold RZ;simp only[ay,cZ,kC,bm,rj,io,gM,m2,kD,EV,aA,aJ,bZ,aw,ax,az,phi (Xv hc),fA,ai,m3,wZ,xa,th,tz,tA,tB,mq,nQ,nO,gg,s0,Ns];rfl
 .intro fr i u hf he hu hm;have hf':(cB c.now (be c.pts x.high) (be c.pts x.low)).2=true:=hf;rw[hf'] at m3;obtain⟨f1,f2⟩:=qT hF h64.1 h.ok.1 h.low h.high hf';have m4:=phi (agz h.ok.2.2.2.1 he hu hm (t:=(fT c x).1) (n:=c.certs.next) ⟨f1,h.ok.2.2.1.2.1,by have:=h.next;omega⟩ (rC h.ok) f2 h64.2);have m4:bL D 381 [AG c.agenda,R (cB c.now (be c.pts x.high) (be c.pts x.low)).1,.v (.int .i64 c.certs.next)]=_:=m4;have m5:=phi (agr (okR_fine.1 h.ok.2.2.2.1.1));rw[rz he hu,aq hm] at m5;refine am ?_;unfold RZ;simp only[ay,cZ,kC,bm,rj,io,gM,nP,adt,m2,kD,EV,aA,aJ,bZ,aw,ax,az,phi (Xv hc),fA,ai,m3,m4,m5,jE,rk,pHD,TX,XD,TY,TZ hc.due,wZ,xa,th,nO,gg,cAG0,cAG1,cAG2,fE,mo,Nr,Ns];rfl
def XG {l k:List Pt}(hl:l.length<=1000):Ans D 260 [sl row l,sl row k] [.bool (decide (l=k))]:=by
 refine an ⟨1001,?_⟩;unfold aan;simp only[EV,ai,aE,aj];by_cases h:l.length=k.length
 .rw[ac (by omega)];refine Af h (cz (l:=l.zip k) (st:=λi=>[.i64 (i:Int)]) (λi x self hx _=>?_) (λ_ self=>?_) (by rw[i9 h];omega))
  .obtain⟨hp,hq⟩:=lU hx;unfold G3;simp[aX hp (cq _),aM hp,aX hq (cq _),aM hq,gJ,afg,EV,bi (aL hp),up1 (show i<1000000000 by have:=aL hp;omega)]
   grind
  .rw[i9 h];unfold G3;simp only[EV,aa,bP,Pp]
 .rw[ad (by omega),ak (λe=>h (by rw[e]))]
def B8 {c:Clock}(h:Fresh c):fF c:=⟨h.now64,h.ev64⟩
def adu {c:Clock}{x:Crt}(h:Fresh c)(ha:CAdd c x):Ans D 263 [CL c,CP x] [CL (fV c x),.i64 c.certs.next,.i64 0]:=by
 obtain⟨h1,h2⟩:=XF ha (B8 h);obtain⟨e1,e2⟩:=At h ha.room;unfold fV
 grind
def Fh {c:Clock}{es:List Crt}{k:Nat}{x:Crt}(hx:es[k]?=some x):certAll c (es.take (k+1))=fV (certAll c (es.take k)) x:=by
 unfold certAll;rw[cC,hx,qt];rfl
def XH {l:List Pt}{t:Rt}{es:List Crt}(hl:okF l)(ht:aQ t)(hr:rok t=true)(hE:EdgOk l es):Ans D 169 [CL (newC l t),F l,sl crow es] [CL (certAll (newC l t) es),.i64 0]:=by
 have hlen:=hE.len;have h64:=hl.1;have z:(newC l t).certs.list.length=0:=rfl;have d0:decide (((0:Nat):Int)<((0:Nat):Int))=false:=rfl;have d0':decide ((0:Int)<((0:Nat):Int))=false:=rfl;have e234:=phi (XG (l:=l) (k:=l) (by omega));rw[aq rfl] at e234;have pts:(newC l t).pts=l:=rfl;refine an ⟨1001,?_⟩;unfold L2;simp only[ay,cZ,bv,wZ,xa,th,zr,jx,tz,tA,tB,mq,nQ,fA,EV,ai,z,pts];rw[bC];unfold xk;simp only[EV,d0,d0',aw,ax];unfold Gr;simp only[EV,ay,cG,e234,aJ,aw,ax];unfold Gq;simp only[EV,ai]
 let st:Nat->List PV:=λk=>[.i64 0,.i64 (certAll (newC l t) (es.take k)).now.num,.i64 (certAll (newC l t) (es.take k)).now.den,sl row (certAll (newC l t) (es.take k)).pts,.i64 (certAll (newC l t) (es.take k)).certs.next,sl hrow (certAll (newC l t) (es.take k)).certs.list,sl I1 (certAll (newC l t) (es.take k)).agenda.slots.uses,sl B1 (certAll (newC l t) (es.take k)).agenda.slots.used,sl I1 (certAll (newC l t) (es.take k)).agenda.slots.free,sl ct (certAll (newC l t) (es.take k)).agenda.heap,sl I1 (certAll (newC l t) (es.take k)).agenda.wher,sl cR (certAll (newC l t) (es.take k)).due,.i64 (k:Int)]
 refine(gj (m:=1001) (n:=es.length) (st:=st) (fin:=some [CL (certAll (newC l t) es),.i64 0]) (λk self hk=>?_) (λself=>?_) (by omega))
 .have hx:es[k]?=some es[k]:=ah _;have A:=yq hE hl ht hr k (by omega);obtain⟨ha,hnew⟩:=JP hE A hx;have hroom:=ha.room;show den (bL D) 1001 pJ _ _=self [.i64 0,.i64 (certAll (newC l t) (es.take (k+1))).now.num,.i64 (certAll (newC l t) (es.take (k+1))).now.den,sl row (certAll (newC l t) (es.take (k+1))).pts,.i64 (certAll (newC l t) (es.take (k+1))).certs.next,sl hrow (certAll (newC l t) (es.take (k+1))).certs.list,sl I1 (certAll (newC l t) (es.take (k+1))).agenda.slots.uses,sl B1 (certAll (newC l t) (es.take (k+1))).agenda.slots.used,sl I1 (certAll (newC l t) (es.take (k+1))).agenda.slots.free,sl ct (certAll (newC l t) (es.take (k+1))).agenda.heap,sl I1 (certAll (newC l t) (es.take (k+1))).agenda.wher,sl cR (certAll (newC l t) (es.take (k+1))).due,.i64 ((k+1:Nat):Int)]
  rw[Fh hx];simp only[st];generalize certAll (newC l t) (es.take k)=c at A ha hnew hroom|-;generalize es[k]=x at hx ha hnew|-;have m:=phi (adu A.fresh ha);unfold pJ;simp only[EV,aa,bi hk,ay,aX hx (iY _),aM hx,tg,ai];refine(cz (m:=1001) (l:=c.certs.list) (p:=λg=>!decide (g.cert=x)) (st:=λi=>[.i64 (i:Int)]) (r:=none) (fin:=self [.i64 0,.i64 (fV c x).now.num,.i64 (fV c x).now.den,sl row (fV c x).pts,.i64 (fV c x).certs.next,sl hrow (fV c x).certs.list,sl I1 (fV c x).agenda.slots.uses,sl B1 (fV c x).agenda.slots.used,sl I1 (fV c x).agenda.slots.free,sl ct (fV c x).agenda.heap,sl I1 (fV c x).agenda.wher,sl cR (fV c x).due,.i64 ((k+1:Nat):Int)]) (λi g self' hg _=>?_) (λhall self'=>?_) (by omega)).trans ?_
  .have hne:=hnew g (au hg);unfold xj;simp only[ay,aX hg (gL _),aM hg,lr,pHP,wT,EV,aa,bi (aL hg),up1 (show i<1000000000 by have:=aL hg;omega),hne,aY,bZ,aw,az,ax]
  .have g0:decide (-1>=(0:Int))=false:=rfl;have g1:decide ((0:Int)<= -1)=false:=rfl;unfold xj;simp only[EV,aa,bP];unfold Gp;simp only[EV,g0,g1,aw,ax,ay,gE,m,cZ,aA,aJ,wZ,xa,th,zr,jx,tz,tA,tB,mq,nQ,fA,jQ,jR];unfold AR;simp only[EV,up1 (show k<1000000000 by omega)]
  .rw[ad (by rw[aS];intro g hg;simpa using hnew g hg)]
 .have e:es.take es.length=es:=eH;simp only[st,e];unfold pJ;simp only[EV,aa,bP];unfold Gn;simp only[EV,ay,gE]
def mN (t:Rt)(l:List Pt):Nat->List Int->Nat->List Int
 |0,h,_=>h
 |n+1,h,i=>match h[i]?,h[(i-1)/2]? with
  |some a,some b=>if 0<i/\ leads t (be l a) (be l b)=true then mN t l n ((h.set i b).set ((i-1)/2) a) ((i-1)/2) else h
  |_,_=>h
def xd {t:Rt}{l:List Pt}:∀(n:Nat) (h:List Int) (i:Nat),(mN t l n h i).Perm h
 |0,h,i=> .refl _
 |n+1,h,i=>by
  unfold mN;split
  .rename_i a b ha hb;split
   .refine(xd n _ _).trans ?_;obtain⟨h1,h2⟩:=aD.1 ha;obtain⟨h3,h4⟩:=aD.1 hb;rw[<-h2,<-h4];exact qu h1 h3
   .exact .refl _
  .exact .refl _
def RC (l:List Pt)(k:Nat):Int:=((l[k]?).map Pt.id).getD 0
def fb (t:Rt)(l:List Pt):Nat->List Int
 |0=>[]
 |k+1=>mN t l (k+1) (fb t l k++[RC l k]) k
def lY {t:Rt}{l:List Pt}:∀k,k<=l.length->(fb t l k).Perm ((l.take k).map Pt.id)
 |0,_=>by simp[fb]
 |k+1,h=>by
  have hk:l[k]?=some l[k]:=ah _;refine(xd _ _ _).trans ?_;rw[cC,hk,dQ];unfold RC;rw[hk];exact(lY k (by omega)).append_right _
def ly {t:Rt}{l:List Pt}{k:Nat}(h:k<=l.length):(fb t l k).length=k:=by
 rw[(lY k h).length_eq,ai,aP];omega
def pI {t:Rt}{l:List Pt}:(fb t l l.length).Perm (l.map Pt.id):=by
 have:=lY (t:=t) (l:=l) l.length (aB _)
 grind
def D4 {l:List Pt}(h:okF l){x:Int}(hx:x∈l.map Pt.id):0<=x/\ x<=65535:=by
 obtain⟨p,hp,rfl⟩:=bf.1 hx;exact lV h p hp
def rD {l:List Pt}(h:okF l){hp:List Int}(pm:hp.Perm (l.map Pt.id)):EdgOk l (cX hp):=by
 have hnd:=pm.nodup_iff.2 (cW h.2.2);have hlen:=pm.length_eq;rw[ai] at hlen;have h64:=h.1;refine⟨tq hnd,by unfold cX;rw[kx];omega,λx hx=>?_,λx hx=>gl.2 (pm.mem_iff.1 (nz hx).1),λx hx=>gl.2 (pm.mem_iff.1 (nz hx).2)⟩;obtain⟨m1,m2⟩:=nz hx;have b1:=D4 h (pm.mem_iff.1 m1);have b2:=D4 h (pm.mem_iff.1 m2);refine⟨b1.1,b1.2,b2.1,b2.2,?_⟩;obtain⟨i,hi,rfl⟩:=bf.1 hx;rw[c9] at hi;simp only;intro e;have:=dN.1 hnd (i+1) (i/2) _ (eM (by omega)) (by rw[e];exact eM (by omega));omega
def B9 {t:Rt}{l:List Pt}(h:okF l){x:Crt}(h1:inF l x.low=true)(h2:inF l x.high=true)(hl:leads t (be l x.high) (be l x.low)=true):x.ok:=by
 have b1:=D4 h (gl.1 h1);have b2:=D4 h (gl.1 h2);refine⟨b1.1,b1.2,b2.1,b2.2,λe=>?_⟩;rw[e,sX] at hl;cases hl
def lz {t:Rt}{l:List Pt}(h:okF l):EdgOk l (cv l (cS t l)):=by
 refine⟨nT (cW h.2.2),?_,λx hx=>?_,λx hx=>(eW h hx).1,λx hx=>(eW h hx).2.1⟩
 .have h64:=h.1;have:(cv l (cS t l)).length<=l.length:=by
   unfold cv
   grind
  omega
 .obtain⟨a,b,c⟩:=eW h hx;exact B9 h a b c
def lA {t:Rt}{l:List Pt}(h:okF l):EdgOk l (edgsT (cart t l).nodes l.length):=by
 refine⟨qB h _ (aB _),?_,λx hx=>?_,λx hx=>(fU h hx).1,λx hx=>(fU h hx).2.1⟩
 .have h64:=h.1;have:=jM (cart t l).nodes l.length;omega
 .obtain⟨a,b,c⟩:=fU h hx;exact B9 h a b c
def nV (c:Clock):RF.ev (.part 0 11) [CL c]=some (CL c):=rfl
def T2 {es:List Crt}{i:Nat}(h:i<=es.length):RF.ev (.tsub 2) [sl crow es,.v (.int .i64 0),.v (.int .i64 (i:Int))]=some (sl crow (es.take i)):=by
 have he:ec 2 (es.map crow)=true:=by
  cases es with
  |nil=>rfl
  |cons a l=>simp[ec,iY]
 rw[xT,ad ⟨by omega,by omega,by simp;omega,he,by decide⟩];simp
def XI {i n:Nat}(h:i<=n):RF.ev .bnd [.v (.int .i64 (i:Int)),.v (.int .i64 (n:Int))]=some (.i64 (i:Int)):=by rw[j5,ad ⟨by omega,by omega⟩]
def XJ (p:Pt):RF.ev (.shape 3) [PP p]=some (PP p):=rfl
def yu {l:List Pt}(h:okF l){x:Int}(hx:inF l x=true):∃(i:Nat) (p:Pt),l[i]?=some p/\ p.id=x/\ be l x=p:=by
 obtain⟨i,p,h1,h2,_,h4⟩:=ea h hx
 grind
open Classical in
def RD {l:List Pt}{t:Rt}{es:List Crt}(hl:okF l)(ht:aQ t)(hr:rok t=true)(hE:EdgOk l es):Ans D 264 [CL (newC l t),F l,sl crow es] [CL (certAll (newC l t) es),.i64 0]:=by
 have hlen:=hE.len;have hfr:=Au hl ht hr;have m1:=phi (vp (B8 hfr) (yr hfr.ok));rw[aq hfr.ok,show okE true=0 from rfl] at m1
 have m2:=phi (te l);rw[eL.2 hl] at m2;refine an ⟨1001,?_⟩;unfold Mc;simp only[ay,cZ,bv,m1,m2,EV,aA,aJ,aw,ax,ai];refine(cz (m:=1001) (l:=es) (p:=λ_=>true) (st:=λi=>[.i64 (i:Int)]) (r:=none) (fin:=some [CL (certAll (newC l t) es),.i64 0]) (λi x self hx _=>?_) (λ_ self=>?_) (by omega)).trans (ad (by simp))
 .obtain⟨o1,o2,o3,o4,o5⟩:=hE.ok x (au hx);unfold xp;simp only[ay,aX hx (iY _),aM hx,tg,jQ,jR,EV,aa,bi (aL hx),cw,up1 (show i<1000000000 by have:=aL hx;omega)]
  grind
 .unfold xp;simp only[EV,aa,bP];unfold G7;simp only[EV,ai];refine(cz (m:=1001) (l:=es) (p:=λ_=>true) (st:=λi=>[.i64 (i:Int)]) (r:=none) (fin:=some [CL (certAll (newC l t) es),.i64 0]) (λi x self hx _=>?_) (λ_ self=>?_) (by omega)).trans (ad (by simp))
  .have hn:x∉es.take i:=λhm=>by
    obtain⟨j,hj⟩:=aI.1 hm;have hji:j<i:=by have:=aL hj;rw[aP] at this;omega
    rw[c7 hji] at hj;have:=dN.1 hE.nd j i x hj hx;omega
   have m3:=phi (wW (l:=es.take i) x (by rw[aP];omega));rw[ak hn] at m3;have hi:=aL hx;unfold xn;simp only[ay,aX hx (iY _),aM hx,tg,XI (show i<=es.length by omega),T2 (show i<=es.length by omega),m3,EV,ai,aa,bi hi,aw,ax,az,up1 (show i<1000000000 by omega)]
  .unfold xn;simp only[EV,aa,bP];unfold G6;simp only[EV,ai];refine(cz (m:=1001) (l:=es) (p:=λ_=>true) (st:=λi=>[.i64 (i:Int)]) (r:=none) (fin:=some [CL (certAll (newC l t) es),.i64 0]) (λi x self hx _=>?_) (λ_ self=>?_) (by omega)).trans (ad (by simp))
   .obtain⟨a,p,a1,a2,_⟩:=yu hl (hE.low x (au hx));obtain⟨b,q,b1,b2,_⟩:=yu hl (hE.high x (au hx));have n1:=phi (BU hl a1);have n2:=phi (BU hl b1);rw[a2] at n1;rw[b2] at n2;unfold xm;simp only[ay,aX hx (iY _),aM hx,tg,jQ,jR,n1,n2,XJ,EV,ai,aa,bi (aL hx),aA,aJ,aw,ax,az,up1 (show i<1000000000 by have:=aL hx;omega)]
   .unfold xm;simp only[EV,aa,bP];unfold G5;simp only[EV,ay,phi (Rv (po hfr.ok)),phi (XH hl ht hr hE),cZ,nV]
def adw {l:List Pt}{t:Rt}(h:okF l)(ht:aQ t)(hr:rok t=true){a b:Int}(ha:inF l a=true)(hb:inF l b=true)(hne:a≠b):Ans D 151 [F l,R t,.i64 a,.i64 b] [.bool (leads t (be l a) (be l b))]:=by
 obtain⟨i,p,a1,a2,a4⟩:=yu h ha;obtain⟨j,q,b1,b2,b4⟩:=yu h hb;have:=W2 h ht hr a1 b1 (by rw[a2,b2];exact hne)
 grind
def Dc {l:List Pt}{t:Rt}(h:okF l)(ht:aQ t)(hr:rok t=true){N:Nat}{f0 f1 f2:JT}{e0 e1 e4 e5 e6 e7 e8 e9 e10 e11 e12 e13 e14 e15 e16 e17 e18 e19 e20:PV}{H:Nat}(hH:H<=1000):∀(r i m:Nat) (hp:List Int),i<=r->r<m->i<H->hp.length=H->(∀x∈hp,inF l x=true)->hp.Nodup->
  dW (bL D) N yC [f0,f1,f2] [e0,e1,F l,R t,e4,e5,e6,e7,e8,e9,e10,e11,e12,e13,e14,e15,e16,e17,e18,e19,e20,.i64 (H:Int)] m [.i64 (i:Int),sl I1 hp]=f2 [sl I1 (mN t l r hp i)]
 |0,i,m,hp,hi,hm,hiH,hl,hin,hnd=>by
  obtain⟨m,rfl⟩:∃m',m=m'+1:=⟨m-1,by omega⟩;have:i=0:=by omega
  subst this;rw[bC];unfold yC mN;simp only[EV,aa];rw[ac (by omega)]
 |r+1,i,m,hp,hi,hm,hiH,hl,hin,hnd=>by
  obtain⟨m,rfl⟩:∃m',m=m'+1:=⟨m-1,by omega⟩;obtain⟨a,ha⟩:∃a,hp[i]?=some a:=⟨hp[i],ah _⟩;obtain⟨b,hb⟩:∃b,hp[(i-1)/2]?=some b:=⟨hp[(i-1)/2]'(by omega),ah _⟩;have E:mN t l (r+1) hp i=if 0<i/\ leads t (be l a) (be l b)=true then mN t l r ((hp.set i b).set ((i-1)/2) a) ((i-1)/2) else hp:=by rw[mN,ha,hb]
  rw[E,bC];by_cases h0:0<i
  rotate_left
  .rw[ac (λh=>h0 h.1)];unfold yC;simp only[EV,aa];rw[ac (by omega)]
  .have pm:((hp.set i b).set ((i-1)/2) a).Perm hp:=by
    obtain⟨h1,h2⟩:=aD.1 ha;obtain⟨h3,h4⟩:=aD.1 hb;rw[<-h2,<-h4];exact qu h1 h3
   have hne:a≠b:=λe=>by
    have:=dN.1 hnd i ((i-1)/2) a ha (by rw[e];exact hb);omega
   have ih:=Dc (l:=l) (t:=t) h ht hr (N:=N) (f0:=f0) (f1:=f1) (f2:=f2) (e0:=e0) (e1:=e1) (e4:=e4) (e5:=e5) (e6:=e6) (e7:=e7) (e8:=e8) (e9:=e9) (e10:=e10) (e11:=e11) (e12:=e12) (e13:=e13) (e14:=e14) (e15:=e15) (e16:=e16) (e17:=e17) (e18:=e18) (e19:=e19) (e20:=e20) (H:=H) hH r ((i-1)/2) m ((hp.set i b).set ((i-1)/2) a) (by omega) (by omega) (by omega) (by rw[pm.length_eq];exact hl) (λx hx=>hin x (pm.mem_iff.1 hx)) (pm.nodup_iff.2 hnd);have cm:=phi (adw h ht hr (hin a (au ha)) (hin b (au hb)) hne);have q2:=Lq h0 (by omega);have s1:=iI (l:=hp) (i:=i) (by omega) b;have s2:RF.ev (.set 0) [sl I1 (hp.set i b),.v (.int .i64 (((i-1)/2:Nat):Int)),.v (.int .i64 a)]=some (sl I1 ((hp.set i b).set ((i-1)/2) a)):=iI (by rw[ba];omega) a;generalize hkk:yC=kk at ih;subst hkk;unfold yC;simp[EV];rw[ad (by omega)];simp only[EV,q2,ixM hiH,ixM (show(i-1)/2<H by omega),aM ha,aM hb,cQ,cm]
   cases hc:leads t (be l a) (be l b) with
   |false=>
    simp only[aw,ax,gS]
   |true=>
    simp only[h0,kj,az,EV,mb,q2,ixM hiH,ixM (show(i-1)/2<H by omega),aM ha,aM hb,cQ,ay,s1,s2]
    exact ih
def kR (t:Rt)(l:List Pt):KHeap:=⟨certAll (newC l t) (cX (fb t l l.length)),fb t l l.length⟩
def T3 (c:Clock)(h:List Int):RF.ev .agg [CL c,sl I1 h]=some (KH ⟨c,h⟩):=rfl
def Fi {l:List Pt}{t:Rt}{k:Nat}(hk:k<=l.length):∀x∈fb t l k,inF l x=true:=λx hx=>by
 have:=(lY (t:=t) k hk).mem_iff.1 hx;obtain⟨p,hp,e⟩:=bf.1 this;exact gl.2 (bf.2 ⟨p,iC hp,e⟩)
def Fj {l:List Pt}{t:Rt}(h:okF l){k:Nat}(hk:k<=l.length):(fb t l k).Nodup:=by
 refine(lY (t:=t) k hk).nodup_iff.2 ?_;have:=cW h.2.2;unfold Ids at this
 grind
def xe {l:List Pt}{t:Rt}{k:Nat}{p:Pt}(hp:l[k]?=some p):fb t l (k+1)=mN t l (k+1) (fb t l k++[p.id]) k:=by
 rw[fb];unfold RC;rw[hp];rfl
def Vi {l:List Pt}{t:Rt}{k:Nat}{p:Pt}(hp:l[k]?=some p):∀x∈fb t l k++[p.id],inF l x=true:=λx hx=>by
 rcases bS.1 hx with h|h
 .exact Fi (by have:=aL hp;omega) x h
 .rw[b8] at h;subst h;exact gl.2 (bf.2 ⟨p,au hp,rfl⟩)
def Vj {l:List Pt}{t:Rt}(h:okF l){k:Nat}{p:Pt}(hp:l[k]?=some p):(fb t l k++[p.id]).Nodup:=by
 have:=Fj (t:=t) h (k:=k+1) (aL hp);rw[xe hp] at this;exact(xd _ _ _).nodup_iff.1 this
def c55 {l:List Pt}{t:Rt}(hl:okF l)(ht:aQ t)(hr:rok t=true):Ans D 76 [F l,R t] [KH (kR t l),.i64 0]:=by
 have h64:=hl.1;have hE:=rD hl (pI (t:=t) (l:=l));have s9:=cp (f:=I1) (l:=fb t l l.length);refine an ⟨1001,?_⟩;unfold k55;simp only[ay,bv,bm,phi (Lr hl ht hr),cZ,cG,EV,aA,aJ,aw,ax,ai];refine(gj (m:=1001) (n:=l.length) (st:=λk=>[sl I1 (fb t l k),.i64 ((fb t l k).length:Int),.i64 (k:Int)]) (fin:=some [KH (kR t l),.i64 0]) (λk self hk=>?_) (λself=>?_) (by omega))
 .obtain⟨p,hp⟩:∃p,l[k]?=some p:=⟨l[k],ah _⟩;have hbl:=ly (t:=t) (l:=l) (k:=k) (by omega);have hbl':=ly (t:=t) (l:=l) (k:=k+1) (by omega);have ap:=gn (f:=I1) (l:=fb t l k) (k:=[p.id]) (bytes:=8) (z:=1) (by simp;omega) cA;unfold L1;simp only[ay,cG,EV,aa,bi hk,aX hp (cq _),aM hp,gJ,B7,bsI,sF,ap,ai];refine(Dc hl ht hr (N:=1001) (H:=(fb t l k++[p.id]).length) (by simp;omega) (k+1) k 1001 _ (by omega) (by omega) (by simp;omega) rfl (Vi hp) (Vj hl hp)).trans ?_;unfold UB;have e:(fb t l k++[p.id]).length=(fb t l (k+1)).length:=by rw[hbl',aC,hbl];rfl
  rw[<-xe hp];simp only[EV,up1 (show k<1000000000 by omega),e]
 .unfold L1;simp only[EV,aa,bP];unfold UA;simp only[EV,ay,s9,phi (Rk (l:=fb t l l.length) (by rw[ly (aB _)];omega)),phi (XH hl ht hr hE),cZ,nV,T3];rfl
def twice:Nat->Nat->Nat->Nat
 |0,n,_=>n
 |f+1,n,m=>if n<m then twice f (2*n) m else n
def Fk:∀m:Nat,m<65->1<=twice 7 1 m/\ m<=twice 7 1 m/\ twice 7 1 m<=64:=by decide
def cM (l:List Pt):List Int:=l.map Pt.id++List.replicate (twice 7 1 l.length-l.length) (-1)
def lZ {l:List Pt}(h:okF l):(cM l).length=twice 7 1 l.length/\ 1<=(cM l).length/\(cM l).length<=64:=by
 have h1:=h.1;obtain⟨a,b,c⟩:=Fk l.length (by omega);unfold cM
 grind
def dJ {l:List Pt}:∀x∈cM l,dY l x:=λx hx=>by
 unfold cM at hx;rcases bS.1 hx with h|h
 .exact .inr (gl.2 h)
 .exact .inl (eY.1 h).2
def eg {l:List Pt}(h:okF l):gV (cM l):=by
 rw[xZ];have hI:=cW h.2.2;have key:∀(i:Nat) (x:Int),0<=x->(cM l)[i]?=some x->(l.map Pt.id)[i]?=some x:=λi x h0 hi=>by
  unfold cM at hi
  grind
 intro i j x h0 hi hj;exact dN.1 hI i j x (key i x h0 hi) (key j x h0 hj)
def Ju {t:Rt}{l:List Pt}{wins places:List Int}(hb:rc wins places)(hf:kV (wonI t l) wins places):kI wins places:=by
 refine⟨hb,λi hi=>?_⟩;have:=hf i hi;unfold om;rw[this];unfold wonI
 grind
def bracketOf (t:Rt)(l:List Pt)(places:List Int):Brk:=⟨places,playD (wonI t l) places (places.length-1) (places.length-1)⟩
def iv {t:Rt}{l:List Pt}{places:List Int}(h:okF l)(h1:1<=places.length)(h2:places.length<=64)(hv:∀x∈places,dY l x)(ho:gV places):
  (bracketOf t l places).wins.length=places.length-1/\ kI (bracketOf t l places).wins places/\ kV (wonI t l) (bracketOf t l places).wins places:=by
 have hlen:(bracketOf t l places).wins.length=places.length-1:=by unfold bracketOf;simp only;exact js _
 have hf:=(sZ hlen).1 rfl;refine⟨hlen,Ju ⟨⟨h1,h2,by omega⟩,ho,λx hx=>?_⟩ hf,hf⟩;exact rv h (hv x hx)
def jN {t:Rt}{l:List Pt}{places:List Int}(h:okF l)(h1:1<=places.length)(h2:places.length<=64)(hv:∀x∈places,dY l x)(ho:gV places):
  EdgOk l (edsB (bracketOf t l places).wins places (bracketOf t l places).wins.length):=by
 obtain⟨hlen,hb,hf⟩:=iv (t:=t) h h1 h2 hv ho;have facts:=λe=>iu (b:=bracketOf t l places) (e:=e) h hb hv hf;refine⟨qC (b:=bracketOf t l places) h hb hv hf _ (aB _),?_,λx hx=>?_,λx hx=>(facts x hx).1,λx hx=>(facts x hx).2.1⟩
 .have:=jW (bracketOf t l places).wins places (bracketOf t l places).wins.length;omega
 .obtain⟨a,b,c⟩:=facts x hx;exact B9 h a b c
def Av {N:Nat}{f0:JT}{e0:PV}{l:List Pt}(hl:l.length<=64):∀(f n M:Nat),l.length<=n*2^ f->1<=n->f<M->dW (bL D) N tZ [f0] [e0,F l] M [.i64 (n:Int)]=f0 [.i64 (twice f n l.length:Nat)]
 |0,n,M,h,h1,hM=>by
  obtain⟨M,rfl⟩:∃m',M=m'+1:=⟨M-1,by omega⟩;rw[bC];unfold tZ twice;simp only[cG,EV,ai,aa];rw[ac (by omega)]
 |f+1,n,M,h,h1,hM=>by
  obtain⟨M,rfl⟩:∃m',M=m'+1:=⟨M-1,by omega⟩;rw[bC,twice];by_cases c:n<l.length
  .have ih:=Av (N:=N) (f0:=f0) (e0:=e0) hl f (2*n) M (by rw[Nat.pow_succ] at h;rw[sm 2 n,Nat.mul_assoc,sm 2];exact h) (by omega) (by omega);have w:IntKind.i64.wrap ((n:Int)*2)=((2*n:Nat):Int):=by rw[cI (by omega) (by omega)];omega
   rw[ad c];generalize hkk:tZ=kk at ih;subst hkk;unfold tZ;simp[cG,EV];rw[ad (by omega),w];exact ih
  .rw[ac c];unfold tZ;simp only[cG,EV,ai,aa];rw[ac (by omega)]
def Jv {l:List Pt}{n k:Nat}{p:Pt}(hp:l[k]?=some p)(hn:l.length<=n):((l.take k).map Pt.id++List.replicate (n-k) (-1)).set k p.id=(l.take (k+1)).map Pt.id++List.replicate (n-(k+1)) (-1):=by
 have hk:=aL hp;have hlen:((l.take k).map Pt.id).length=k:=by rw[ai,aP];omega
 have e:n-k=n-(k+1)+1:=by omega
 rw[uT _ _ (by omega),hlen,iQ,e,kP,List.set_cons_zero,cC,hp,dQ,bc];rfl
def agE {l:List Pt}(h:okF l):Ans D 171 [F l] [sl I1 (cM l)]:=by
 have hl:=h.1;obtain⟨t1,t2,t3⟩:=Fk l.length (by omega);refine an ⟨1001,?_⟩;unfold ZK;simp only[ay,bv,EV];refine(Av (N:=1001) (l:=l) hl 7 1 1001 (by omega) (by omega) (by omega)).trans ?_;unfold cM;generalize twice 7 1 l.length=n at t1 t2 t3;unfold OO;simp only[EV,bsI,sF,TT,phi (Xy (n:=n) t1 (by omega)),ai,aR,ay,cG];have e0:([sl I1 (List.replicate n (-1)),PV.v (.int .i64 0)]:List PV)=[sl I1 ((l.take 0).map Pt.id++List.replicate (n-0) (-1)),.i64 ((0:Nat):Int)]:=by simp
 rw[e0];refine(gj (m:=1001) (n:=l.length) (st:=λk=>[sl I1 ((l.take k).map Pt.id++List.replicate (n-k) (-1)),.i64 (k:Int)]) (λk self hk=>?_) (λself=>?_) (by omega))
 .obtain⟨p,hp⟩:∃p,l[k]?=some p:=⟨l[k],ah _⟩;have hlen:((l.take k).map Pt.id++List.replicate (n-k) (-1:Int)).length=n:=by simp;omega
  have st:=iI (l:=(l.take k).map Pt.id++List.replicate (n-k) (-1)) (i:=k) (by rw[hlen];omega) p.id;rw[Jv hp t2] at st;unfold Gt;simp only[ay,cG,EV,aa,bi hk,aX hp (cq _),aM hp,gJ,B7,ixM (show k<n by omega),st,up1 (show k<1000000000 by omega)]
 .have hlen:(l.map Pt.id++List.replicate (n-l.length) (-1:Int)).length=n:=by simp;omega
  have su:=cp (f:=I1) (l:=l.map Pt.id++List.replicate (n-l.length) (-1:Int));rw[hlen] at su;unfold Gt;simp only[EV,aa,bP,eH];unfold ON;simp only[EV,su]
section
variable (t:Rt)(l:List Pt)
def iJ:KTourn:=⟨certAll (newC l t) (edsB (bracketOf t l (cM l)).wins (cM l) (bracketOf t l (cM l)).wins.length),bracketOf t l (cM l)⟩
def l5:Heater:=⟨certAll (newC l t) (edgsT (cart t l).nodes l.length),cart t l⟩
def l6:KHeap:=⟨certAll (newC l t) (cv l (cS t l)),cS t l⟩
end
def T4 (c:Clock)(b:Brk):RF.ev .agg [CL c,BR b]=some (KT ⟨c,b⟩):=rfl
def T5 (c:Clock)(b:Tree):RF.ev .agg [CL c,TR b]=some (HT ⟨c,b⟩):=rfl
def XK (b:Brk):RF.ev (.part 0 2) [BR b]=some (BR b):=rfl
def XL (b:Tree):RF.ev (.part 0 2) [TR b]=some (TR b):=rfl
def adx (k:KTourn):RF.ev (.part 0 13) [KT k]=some (KT k):=rfl
section
variable {l:List Pt}{t:Rt}(hl:okF l)(ht:aQ t)(hr:rok t=true)
include hl ht hr
theorem agF:Ans D 170 [CL (newC l t),F l,sl I1 (cM l)] [KT (iJ t l),.i64 0]:=by
 obtain⟨_,h1,h2⟩:=lZ hl;have hE:=jN (t:=t) hl h1 h2 dJ (eg hl);have nw:(newC l t).now=t:=rfl;have m1:bL D 159 [F l,R t,sl I1 (cM l)]=some [BR (bracketOf t l (cM l)),sl crow (edsB (bracketOf t l (cM l)).wins (cM l) (bracketOf t l (cM l)).wins.length)]:=phi (Lk hl ht hr h1 h2 dJ (eg hl) rfl);refine am ?_;unfold L3;simp[cZ,bv,gM,nw,m1,nR,phi (RD hl ht hr hE),EV];rfl
theorem c56:Ans D 77 [F l,R t] [KT (iJ t l),.i64 0]:=by
 refine am ?_;unfold k56;simp[bv,bm,phi (Lr hl ht hr),cZ,EV,phi (agE hl),phi (agF hl ht hr),vg,adx]
theorem agG:Ans D 172 [CL (newC l t),F l] [HT (l5 t l),.i64 0]:=by
 have hE:=lA (t:=t) hl;have nw:(newC l t).now=t:=rfl;refine am ?_;unfold L4;simp[cZ,bv,gM,nw,phi (ET hl ht hr (oP hl) (tS hl)),vd,phi (RD hl ht hr hE),EV];rfl
theorem c57:Ans D 78 [F l,R t] [HT (l5 t l),.i64 0]:=by
 refine am ?_;unfold k57;simp[bv,bm,phi (Lr hl ht hr),cZ,EV,phi (agG hl ht hr),vk]
theorem agH:Ans D 173 [CL (newC l t),F l] [KH (l6 t l),.i64 0]:=by
 have hE:=lz (t:=t) hl;have nw:(newC l t).now=t:=rfl;refine am ?_;unfold L5;simp[cZ,bv,gM,nw,phi (ER hl ht hr),phi (RD hl ht hr hE),EV];rfl
theorem c58:Ans D 79 [F l,R t] [KH (l6 t l),.i64 0]:=by
 refine am ?_;unfold k58;simp[bv,bm,phi (Lr hl ht hr),cZ,EV,phi (agH hl ht hr),jG]
end
set_option linter.unusedSimpArgs false
def kh0 (k:KHeap):RF.ev (.cell 0) [KH k]=some (.i64 k.clock.now.num):=rfl
def kh1 (k:KHeap):RF.ev (.cell 1) [KH k]=some (.i64 k.clock.now.den):=rfl
def kh2 (k:KHeap):RF.ev (.cell 2) [KH k]=some (sl row k.clock.pts):=rfl
def kh3 (k:KHeap):RF.ev (.cell 3) [KH k]=some (.i64 k.clock.certs.next):=rfl
def kh4 (k:KHeap):RF.ev (.cell 4) [KH k]=some (sl hrow k.clock.certs.list):=rfl
def kh5 (k:KHeap):RF.ev (.cell 5) [KH k]=some (sl I1 k.clock.agenda.slots.uses):=rfl
def kh6 (k:KHeap):RF.ev (.cell 6) [KH k]=some (sl B1 k.clock.agenda.slots.used):=rfl
def kh7 (k:KHeap):RF.ev (.cell 7) [KH k]=some (sl I1 k.clock.agenda.slots.free):=rfl
def kh8 (k:KHeap):RF.ev (.cell 8) [KH k]=some (sl ct k.clock.agenda.heap):=rfl
def kh9 (k:KHeap):RF.ev (.cell 9) [KH k]=some (sl I1 k.clock.agenda.wher):=rfl
def XM (k:KHeap):RF.ev (.cell 10) [KH k]=some (sl cR k.clock.due):=rfl
def XN (k:KHeap):RF.ev (.cell 11) [KH k]=some (sl I1 k.heap):=rfl
def kt0 (k:KTourn):RF.ev (.cell 0) [KT k]=some (.i64 k.clock.now.num):=rfl
def kt1 (k:KTourn):RF.ev (.cell 1) [KT k]=some (.i64 k.clock.now.den):=rfl
def kt2 (k:KTourn):RF.ev (.cell 2) [KT k]=some (sl row k.clock.pts):=rfl
def kt3 (k:KTourn):RF.ev (.cell 3) [KT k]=some (.i64 k.clock.certs.next):=rfl
def kt4 (k:KTourn):RF.ev (.cell 4) [KT k]=some (sl hrow k.clock.certs.list):=rfl
def kt5 (k:KTourn):RF.ev (.cell 5) [KT k]=some (sl I1 k.clock.agenda.slots.uses):=rfl
def kt6 (k:KTourn):RF.ev (.cell 6) [KT k]=some (sl B1 k.clock.agenda.slots.used):=rfl
def kt7 (k:KTourn):RF.ev (.cell 7) [KT k]=some (sl I1 k.clock.agenda.slots.free):=rfl
def kt8 (k:KTourn):RF.ev (.cell 8) [KT k]=some (sl ct k.clock.agenda.heap):=rfl
def kt9 (k:KTourn):RF.ev (.cell 9) [KT k]=some (sl I1 k.clock.agenda.wher):=rfl
def agI (k:KTourn):RF.ev (.cell 10) [KT k]=some (sl cR k.clock.due):=rfl
def agJ (k:KTourn):RF.ev (.cell 11) [KT k]=some (sl I1 k.brk.places):=rfl
def agK (k:KTourn):RF.ev (.cell 12) [KT k]=some (sl I1 k.brk.wins):=rfl
def ht0 (k:Heater):RF.ev (.cell 0) [HT k]=some (.i64 k.clock.now.num):=rfl
def ht1 (k:Heater):RF.ev (.cell 1) [HT k]=some (.i64 k.clock.now.den):=rfl
def ht2 (k:Heater):RF.ev (.cell 2) [HT k]=some (sl row k.clock.pts):=rfl
def ht3 (k:Heater):RF.ev (.cell 3) [HT k]=some (.i64 k.clock.certs.next):=rfl
def ht4 (k:Heater):RF.ev (.cell 4) [HT k]=some (sl hrow k.clock.certs.list):=rfl
def ht5 (k:Heater):RF.ev (.cell 5) [HT k]=some (sl I1 k.clock.agenda.slots.uses):=rfl
def ht6 (k:Heater):RF.ev (.cell 6) [HT k]=some (sl B1 k.clock.agenda.slots.used):=rfl
def ht7 (k:Heater):RF.ev (.cell 7) [HT k]=some (sl I1 k.clock.agenda.slots.free):=rfl
def ht8 (k:Heater):RF.ev (.cell 8) [HT k]=some (sl ct k.clock.agenda.heap):=rfl
def ht9 (k:Heater):RF.ev (.cell 9) [HT k]=some (sl I1 k.clock.agenda.wher):=rfl
def agL (k:Heater):RF.ev (.cell 10) [HT k]=some (sl cR k.clock.due):=rfl
def agM (k:Heater):RF.ev (.cell 11) [HT k]=some (.i64 k.tree.root):=rfl
def agN (k:Heater):RF.ev (.cell 12) [HT k]=some (sl dD k.tree.nodes):=rfl
def XO (g:Int)(k:KHeap):RF.ev .agg [.v (.int .u8 g),.i64 k.clock.now.num,.i64 k.clock.now.den,sl row k.clock.pts,.i64 k.clock.certs.next,sl hrow k.clock.certs.list,sl I1 k.clock.agenda.slots.uses,sl B1 k.clock.agenda.slots.used,sl I1 k.clock.agenda.slots.free,sl ct k.clock.agenda.heap,sl I1 k.clock.agenda.wher,sl cR k.clock.due,sl I1 k.heap,.v (.int .i64 0),.v (.int .i64 0),.sl [],.v (.int .i64 0),.sl [],.sl [],.sl [],.sl [],.sl [],.sl [],.sl [],.sl [],.sl [],.v (.int .i64 0),.v (.int .i64 0),.sl [],.v (.int .i64 0),.sl [],.sl [],.sl [],.sl [],.sl [],.sl [],.sl [],.v (.int .i64 0),.sl [],.v (.int .i64 0),.v (.int .i64 0),.sl [],.v (.int .i64 0),.sl [],.sl [],.sl [],.sl [],.sl [],.sl [],.sl [],.sl []]=some (CHO ⟨g,k,zKT,zHT,zKH⟩):=rfl
def XP (g:Int)(k:KTourn):RF.ev .agg [.v (.int .u8 g),.v (.int .i64 0),.v (.int .i64 0),.sl [],.v (.int .i64 0),.sl [],.sl [],.sl [],.sl [],.sl [],.sl [],.sl [],.sl [],.i64 k.clock.now.num,.i64 k.clock.now.den,sl row k.clock.pts,.i64 k.clock.certs.next,sl hrow k.clock.certs.list,sl I1 k.clock.agenda.slots.uses,sl B1 k.clock.agenda.slots.used,sl I1 k.clock.agenda.slots.free,sl ct k.clock.agenda.heap,sl I1 k.clock.agenda.wher,sl cR k.clock.due,sl I1 k.brk.places,sl I1 k.brk.wins,.v (.int .i64 0),.v (.int .i64 0),.sl [],.v (.int .i64 0),.sl [],.sl [],.sl [],.sl [],.sl [],.sl [],.sl [],.v (.int .i64 0),.sl [],.v (.int .i64 0),.v (.int .i64 0),.sl [],.v (.int .i64 0),.sl [],.sl [],.sl [],.sl [],.sl [],.sl [],.sl [],.sl []]=some (CHO ⟨g,zKH,k,zHT,zKH⟩):=rfl
def XQ (g:Int)(k:Heater):RF.ev .agg [.v (.int .u8 g),.v (.int .i64 0),.v (.int .i64 0),.sl [],.v (.int .i64 0),.sl [],.sl [],.sl [],.sl [],.sl [],.sl [],.sl [],.sl [],.v (.int .i64 0),.v (.int .i64 0),.sl [],.v (.int .i64 0),.sl [],.sl [],.sl [],.sl [],.sl [],.sl [],.sl [],.sl [],.sl [],.i64 k.clock.now.num,.i64 k.clock.now.den,sl row k.clock.pts,.i64 k.clock.certs.next,sl hrow k.clock.certs.list,sl I1 k.clock.agenda.slots.uses,sl B1 k.clock.agenda.slots.used,sl I1 k.clock.agenda.slots.free,sl ct k.clock.agenda.heap,sl I1 k.clock.agenda.wher,sl cR k.clock.due,.i64 k.tree.root,sl dD k.tree.nodes,.v (.int .i64 0),.v (.int .i64 0),.sl [],.v (.int .i64 0),.sl [],.sl [],.sl [],.sl [],.sl [],.sl [],.sl [],.sl []]=some (CHO ⟨g,zKH,zKT,k,zKH⟩):=rfl
def XR (g:Int)(k:KHeap):RF.ev .agg [.v (.int .u8 g),.v (.int .i64 0),.v (.int .i64 0),.sl [],.v (.int .i64 0),.sl [],.sl [],.sl [],.sl [],.sl [],.sl [],.sl [],.sl [],.v (.int .i64 0),.v (.int .i64 0),.sl [],.v (.int .i64 0),.sl [],.sl [],.sl [],.sl [],.sl [],.sl [],.sl [],.sl [],.sl [],.v (.int .i64 0),.v (.int .i64 0),.sl [],.v (.int .i64 0),.sl [],.sl [],.sl [],.sl [],.sl [],.sl [],.sl [],.v (.int .i64 0),.sl [],.i64 k.clock.now.num,.i64 k.clock.now.den,sl row k.clock.pts,.i64 k.clock.certs.next,sl hrow k.clock.certs.list,sl I1 k.clock.agenda.slots.uses,sl B1 k.clock.agenda.slots.used,sl I1 k.clock.agenda.slots.free,sl ct k.clock.agenda.heap,sl I1 k.clock.agenda.wher,sl cR k.clock.due,sl I1 k.heap]=some (CHO ⟨g,zKH,zKT,zHT,k⟩):=rfl
def zCH:Choice:=⟨0,zKH,zKT,zHT,zKH⟩
def zy (g:Int):RF.ev .agg [.v (.int .u8 g),.v (.int .i64 0),.v (.int .i64 0),.sl [],.v (.int .i64 0),.sl [],.sl [],.sl [],.sl [],.sl [],.sl [],.sl [],.sl [],.v (.int .i64 0),.v (.int .i64 0),.sl [],.v (.int .i64 0),.sl [],.sl [],.sl [],.sl [],.sl [],.sl [],.sl [],.sl [],.sl [],.v (.int .i64 0),.v (.int .i64 0),.sl [],.v (.int .i64 0),.sl [],.sl [],.sl [],.sl [],.sl [],.sl [],.sl [],.v (.int .i64 0),.sl [],.v (.int .i64 0),.v (.int .i64 0),.sl [],.v (.int .i64 0),.sl [],.sl [],.sl [],.sl [],.sl [],.sl [],.sl [],.sl []]=some (CHO ⟨g,zKH,zKT,zHT,zKH⟩):=rfl
def T6:RF.ev .agg [.v (.int .i64 0),.v (.int .i64 0),.sl [],.v (.int .i64 0),.sl [],.sl [],.sl [],.sl [],.sl [],.sl [],.sl [],.sl []]=some (KH zKH):=rfl
def ady:RF.ev .agg [.v (.int .i64 0),.v (.int .i64 0),.sl [],.v (.int .i64 0),.sl [],.sl [],.sl [],.sl [],.sl [],.sl [],.sl [],.sl [],.sl []]=some (KT zKT):=rfl
def adz:RF.ev .agg [.v (.int .i64 0),.v (.int .i64 0),.sl [],.v (.int .i64 0),.sl [],.sl [],.sl [],.sl [],.sl [],.sl [],.sl [],.v (.int .i64 0),.sl []]=some (HT zHT):=rfl
def T7:RF.ev .agg [.v (.int .i64 0),.v (.int .i64 0),.sl [],.v (.int .i64 0),.sl [],.sl [],.sl [],.sl [],.sl [],.sl [],.sl []]=some (CL zC):=rfl
def bE (l:List Pt)(t:Rt):Int:=if gk l=0 then okE (rok t) else gk l
def vD {l:List Pt}{t:Rt}(h:bE l t=0):okF l/\ rok t=true:=by
 unfold bE at h;split at h
 .rename_i h1;exact⟨eL.1 h1,Ae.1 h⟩
 .grind
def D5 {l:List Pt}{t:Rt}(ht:aQ t)(h:bE l t≠0):Ans D 167 [F l,R t] [CL zC,.i64 (bE l t)]:=by
 refine am ?_;unfold RV;unfold bE at h|-;by_cases h1:gk l=0
 .rw[ad h1] at h|-;simp[bv,bm,phi (te l),phi (c43 ht),h1,EV,h,T7]
 .rw[ac h1] at h|-;simp[bv,bm,phi (te l),EV,h,T7]
section
variable (t:Rt)(l:List Pt)
def yw:KHeap:=if bE l t=0 then kR t l else zKH
def tV:KTourn:=if bE l t=0 then iJ t l else zKT
def yx:Heater:=if bE l t=0 then l5 t l else zHT
def yy:KHeap:=if bE l t=0 then l6 t l else zKH
end
section
variable {l:List Pt}{t:Rt}(ht:aQ t)
include ht
theorem agO:Ans D 76 [F l,R t] [KH (yw t l),.i64 (bE l t)]:=by
 unfold yw;by_cases h:bE l t=0
 .obtain⟨h1,h2⟩:=vD h;rw[ad h,h];exact c55 h1 ht h2
 .rw[ac h];refine am ?_;unfold k55;simp[bv,bm,phi (D5 ht h),cZ,EV,h,T6]
theorem agP:Ans D 77 [F l,R t] [KT (tV t l),.i64 (bE l t)]:=by
 unfold tV;by_cases h:bE l t=0
 .obtain⟨h1,h2⟩:=vD h;rw[ad h,h];exact c56 h1 ht h2
 .rw[ac h];refine am ?_;unfold k56;simp[bv,bm,phi (D5 ht h),cZ,EV,h,ady]
theorem agQ:Ans D 78 [F l,R t] [HT (yx t l),.i64 (bE l t)]:=by
 unfold yx;by_cases h:bE l t=0
 .obtain⟨h1,h2⟩:=vD h;rw[ad h,h];exact c57 h1 ht h2
 .rw[ac h];refine am ?_;unfold k57;simp[bv,bm,phi (D5 ht h),cZ,EV,h,adz]
theorem agR:Ans D 79 [F l,R t] [KH (yy t l),.i64 (bE l t)]:=by
 unfold yy;by_cases h:bE l t=0
 .obtain⟨h1,h2⟩:=vD h;rw[ad h,h];exact c58 h1 ht h2
 .rw[ac h];refine am ?_;unfold k58;simp[bv,bm,phi (D5 ht h),cZ,EV,h,T6]
end
def l7 (c:Choice)(e:Int):Choice:=if e=0 then c else zCH
def c59 (c:Choice)(e:Int):Ans D 80 [CHO c,.i64 e] [CHO (l7 c e),.i64 e]:=by
 refine am ?_;unfold k59 l7;simp[gN,EV];by_cases h:e=0
 .subst h;rfl
 .simp[h];rfl
def dw (tag:Int)(l:List Pt)(t:Rt):Choice:=if tag=1 then⟨1,yw t l,zKT,zHT,zKH⟩ else if tag=2 then⟨2,zKH,tV t l,zHT,zKH⟩ else if tag=3 then⟨3,zKH,zKT,yx t l,zKH⟩ else⟨4,zKH,zKT,zHT,yy t l⟩
def eE (l:List Pt)(t:Rt):Int:=if bE l t=0 then cO t else bE l t
def nW (tag:Int)(l:List Pt)(t:Rt):List PV:=if tag=1\/tag=2\/tag=3\/tag=4 then [CHO (l7 (dw tag l t) (eE l t)),.i64 (eE l t)] else [CHO zCH,.i64 2]
def RE {tag:Int}{l:List Pt}{t:Rt}:(nW tag l t).length=2:=by unfold nW;split<;>rfl
def c20 (tag:Int){l:List Pt}{t:Rt}(ht:aQ t):Ans D 31 [.v (.int .u8 tag),F l,R t] (nW tag l t):=by
 have hk:=λ(c:Choice) (e:Int)=>phi (c59 c e);refine an (hl:=RE) ⟨1,?_⟩;unfold k20;simp only[ay,bv,bm,u8E,EV,aa];by_cases t1:tag=1
 .subst t1;rw[ad rfl];simp only[ay,EV,phi (agO (l:=l) ht),jG,kh0,kh1,kh2,kh3,kh4,kh5,kh6,kh7,kh8,kh9,XM,XN];unfold AB;simp only[EV,aa];by_cases hb:bE l t=0
  .rw[ad hb];have hE:eE l t=cO t:=ad hb;simp only[ay,EV,phi (c44 ht)];unfold qG;simp only[ay,EV,XO,hk,gN];rw[show nW 1 l t=[CHO (l7 (dw 1 l t) (eE l t)),.i64 (eE l t)] from rfl,hE];rfl
  .rw[ac hb];have hE:eE l t=bE l t:=ac hb;unfold qG;simp only[ay,EV,XO,hk,gN];rw[show nW 1 l t=[CHO (l7 (dw 1 l t) (eE l t)),.i64 (eE l t)] from rfl,hE];rfl
 by_cases t2:tag=2
 .subst t2;rw[ac (by decide),ad rfl];simp only[ay,EV,phi (agP (l:=l) ht),vg,kt0,kt1,kt2,kt3,kt4,kt5,kt6,kt7,kt8,kt9,agI,agJ,agK,Eb];unfold AB;simp only[EV,aa];by_cases hb:bE l t=0
  .rw[ad hb];have hE:eE l t=cO t:=ad hb;simp only[ay,EV,phi (c44 ht)];unfold qG;simp only[ay,EV,XP,hk,gN];rw[show nW 2 l t=[CHO (l7 (dw 2 l t) (eE l t)),.i64 (eE l t)] from rfl,hE];rfl
  .rw[ac hb];have hE:eE l t=bE l t:=ac hb;unfold qG;simp only[ay,EV,XP,hk,gN];rw[show nW 2 l t=[CHO (l7 (dw 2 l t) (eE l t)),.i64 (eE l t)] from rfl,hE];rfl
 by_cases t3:tag=3
 .subst t3;rw[ac (by decide),ac (by decide),ad rfl];simp only[ay,EV,phi (agQ (l:=l) ht),vk,ht0,ht1,ht2,ht3,ht4,ht5,ht6,ht7,ht8,ht9,agL,agM,agN,LR,Eb];unfold AB;simp only[EV,aa];by_cases hb:bE l t=0
  .rw[ad hb];have hE:eE l t=cO t:=ad hb;simp only[ay,EV,phi (c44 ht)];unfold qG;simp only[ay,EV,XQ,hk,gN];rw[show nW 3 l t=[CHO (l7 (dw 3 l t) (eE l t)),.i64 (eE l t)] from rfl,hE];rfl
  .rw[ac hb];have hE:eE l t=bE l t:=ac hb;unfold qG;simp only[ay,EV,XQ,hk,gN];rw[show nW 3 l t=[CHO (l7 (dw 3 l t) (eE l t)),.i64 (eE l t)] from rfl,hE];rfl
 by_cases t4:tag=4
 .subst t4;rw[ac (by decide),ac (by decide),ac (by decide),ad rfl];simp only[ay,EV,phi (agR (l:=l) ht),jG,kh0,kh1,kh2,kh3,kh4,kh5,kh6,kh7,kh8,kh9,XM,XN,LR,Eb];unfold AB;simp only[EV,aa];by_cases hb:bE l t=0
  .rw[ad hb];have hE:eE l t=cO t:=ad hb;simp only[ay,EV,phi (c44 ht)];unfold qG;simp only[ay,EV,XR,hk,gN];rw[show nW 4 l t=[CHO (l7 (dw 4 l t) (eE l t)),.i64 (eE l t)] from rfl,hE];rfl
  .rw[ac hb];have hE:eE l t=bE l t:=ac hb;unfold qG;simp only[ay,EV,XR,hk,gN];rw[show nW 4 l t=[CHO (l7 (dw 4 l t) (eE l t)),.i64 (eE l t)] from rfl,hE];rfl
 rw[ac t1,ac t2,ac t3,ac t4];simp only[EV,zy];unfold nW;rw[ac (by omega)];rfl
def Nt {t:Rt}(h:rok t=true):cO t=0\/cO t=2:=by
 unfold cO
 grind
def agS:okE true=0:=rfl
structure ChW (c:Choice):Prop where
 h1:gW c.heap.clock/\ c.heap.heap.length<=1000
 h2:gW c.tourn.clock/\ c.tourn.brk.places.length<=1000/\ c.tourn.brk.wins.length<=1000
 h3:gW c.heater.clock/\ c.heater.tree.nodes.length<=1000
 h4:gW c.hanger.clock/\ c.hanger.heap.length<=1000
end Go.Proofs.YtoeigdpfcnaaeaaGreat
