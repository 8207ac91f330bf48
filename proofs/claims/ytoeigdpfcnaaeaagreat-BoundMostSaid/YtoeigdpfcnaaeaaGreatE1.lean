import Derived.Test.YtoeigdpfcnaaeaaGreatC3
import Derived.Test.YtoeigdpfcnaaeaaGreatC1
import Derived.Test.YtoeigdpfcnaaeaaGreatP1
set_option linter.unusedVariables false
set_option linter.unusedSimpArgs false
set_option linter.defProp false
noncomputable section
namespace Go.Proofs.YtoeigdpfcnaaeaaGreat
open Go.Sym Bnd
set_option maxRecDepth 100000
def d67 {l:List Pt}(hl:l.length<=1000):Ans D 66 [sl row l] [sl row l]:=by
 refine am ?_;unfold k67;simp only[EV,ai,aa];have h1:den (bK D) 1 Mf [] [sl row l,.i64 (l.length:Int),.bool (decide ((l.length:Int)=0))]=some [sl row l]:=by
  unfold Mf;simp[EV,ny (l:=l) (f:=row) (bytes:=24) (z:=3) (by omega) b5,ct]
 by_cases h:(l.length:Int)=0
 .have:l=[]:=bJ (by omega);subst this;rw[ad h];exact pD rfl h1
 .grind
def LJ {l:List Held}(hl:l.length<=1000):Ans D 365 [sl hrow l] [sl hrow l]:=by
 refine am ?_;unfold abZ;simp only[EV,ai,aa];have h1:den (bK D) 1 HY [] [sl hrow l,.i64 (l.length:Int),.bool (decide ((l.length:Int)=0))]=some [sl hrow l]:=by
  unfold HY;simp[EV,ny (l:=l) (f:=hrow) (bytes:=24) (z:=3) (by omega) gP,ct]
 by_cases h:(l.length:Int)=0
 .have:l=[]:=bJ (by omega);subst this;rw[ad h];exact pD rfl h1
 .grind
def XQ {l:List Due}(hl:l.length<=1000):Ans D 366 [sl cW l] [sl cW l]:=by
 refine am ?_;unfold ab0;simp only[EV,ai,aa];have h1:den (bK D) 1 HZ [] [sl cW l,.i64 (l.length:Int),.bool (decide ((l.length:Int)=0))]=some [sl cW l]:=by
  unfold HZ;simp[EV,ny (l:=l) (f:=cW) (bytes:=24) (z:=3) (by omega) vI,ct]
 by_cases h:(l.length:Int)=0
 .have:l=[]:=bJ (by omega);subst this;rw[ad h];exact pD rfl h1
 .grind
def R0 {l:List Evt}(hl:l.length<=1000):Ans D 367 [sl cv l] [sl cv l]:=by
 refine am ?_;unfold ab1;simp only[EV,ai,aa];have h1:den (bK D) 1 H3 [] [sl cv l,.i64 (l.length:Int),.bool (decide ((l.length:Int)=0))]=some [sl cv l]:=by
  unfold H3;simp[EV,ny (l:=l) (f:=cv) (bytes:=40) (z:=5) (by omega) j4,ct]
 by_cases h:(l.length:Int)=0
 .have:l=[]:=bJ (by omega);subst this;rw[ad h];exact pD rfl h1
 .grind
def XR {l:List Int}(hl:l.length<=1000):Ans D 449 [sl I1 l] [sl I1 l]:=by
 refine am ?_;unfold acB;simp only[EV,ai,aa];have h1:den (bK D) 1 If [] [sl I1 l,.i64 (l.length:Int),.bool (decide ((l.length:Int)=0))]=some [sl I1 l]:=by
  unfold If;simp[EV,ny (l:=l) (f:=I1) (bytes:=8) (z:=1) (by omega) cF,ct]
 by_cases h:(l.length:Int)=0
 .have:l=[]:=bJ (by omega);subst this;rw[ad h];exact pD rfl h1
 .grind
structure SSm (s:Slots):Prop where
 uses:s.uses.length<=1000
 used:s.used.length<=1000
 free:s.free.length<=1000
structure ASm (a:Agenda):Prop where
 slots:SSm a.slots
 heap:a.heap.length<=1000
 wher:a.wher.length<=1000
structure CSm (c:Clock):Prop where
 pts:c.pts.length<=1000
 certs:c.certs.list.length<=1000
 agenda:ASm c.agenda
 due:c.due.length<=1000
def agY (l:List Pt):RF.ev .agg [sl row l]=some (F l):=rfl
def agZ {l:List Pt}(hl:l.length<=1000):Ans D 287 [F l] [F l]:=by
 refine am ?_;unfold aba;simp[bv,cq,ny (l:=l) (f:=row) (bytes:=24) (z:=3) (by omega) b5,EV,ct,agY]
def adW (c:Certs):RF.ev .agg [.i64 c.next,sl hrow c.list]=some (CS c):=rfl
def XS {c:Certs}(hl:c.list.length<=1000):Ans D 377 [CS c] [CS c]:=by
 refine am ?_;unfold ab5;simp[kQ,od,gj,ny (l:=c.list) (f:=hrow) (bytes:=24) (z:=3) (by omega) gP,EV,ct,adW]
def LL (s:Slots):RF.ev .agg [sl I1 s.uses,sl B1 s.used,sl I1 s.free]=some (SL s):=rfl
def XT {s:Slots}(h:SSm s):Ans D 428 [SL s] [SL s]:=by
 obtain⟨h1,h2,h3⟩:=h;refine am ?_;unfold acs;simp[j7,j8,mJ,j9,ny (l:=s.uses) (f:=I1) (bytes:=8) (z:=1) (by omega) cF,ny (l:=s.free) (f:=I1) (bytes:=8) (z:=1) (by omega) cF,ny (l:=s.used) (f:=B1) (bytes:=1) (z:=1) (by omega) vG,EV,ct,LL]
def XU {s:Slots}(h:SSm s):Ans D 440 [SL s] [SL s]:=by
 obtain⟨h1,h2,h3⟩:=h;refine am ?_;unfold acy;simp[j7,j8,mJ,j9,phi (qD h1),phi (Lx h2),EV,ct,LL]
def Um (a:Agenda):RF.ev .agg [sl I1 a.slots.uses,sl B1 a.slots.used,sl I1 a.slots.free,sl cv a.heap,sl I1 a.wher]=some (AG a):=rfl
def ag0 (a:Agenda):RF.ev (.part 0 3) [AG a]=some (SL a.slots):=rfl
def cAG0 (a:Agenda):RF.ev (.cell 0) [AG a]=some (sl I1 a.slots.uses):=rfl
def cAG1 (a:Agenda):RF.ev (.cell 1) [AG a]=some (sl B1 a.slots.used):=rfl
def cAG2 (a:Agenda):RF.ev (.cell 2) [AG a]=some (sl I1 a.slots.free):=rfl
def XV {a:Agenda}(h:ASm a):Ans D 378 [AG a] [AG a]:=by
 obtain⟨h1,h2,h3⟩:=h;refine am ?_;unfold ab6;simp[jN,ag0,phi (XT h1),j7,j8,mJ,j9,fI,mK,ny (l:=a.heap) (f:=cv) (bytes:=40) (z:=5) (by omega) j4,ny (l:=a.wher) (f:=I1) (bytes:=8) (z:=1) (by omega) cF,EV,ct,Um]
def XW {a:Agenda}(h:ASm a):Ans D 404 [AG a] [AG a]:=by
 obtain⟨h1,h2,h3⟩:=h;refine am ?_;unfold acn;simp[jN,cAG0,cAG1,cAG2,fI,mK,phi (R0 h2),phi (qD h3),EV,ct,Um]
section
variable (c:Clock)
def xv:RF.ev (.cell 0) [CL c]=some (.i64 c.now.num):=rfl
def xw:RF.ev (.cell 1) [CL c]=some (.i64 c.now.den):=rfl
def zL:RF.ev (.cell 3) [CL c]=some (.i64 c.certs.next):=rfl
def t7:RF.ev (.cell 5) [CL c]=some (sl I1 c.agenda.slots.uses):=rfl
def t8:RF.ev (.cell 6) [CL c]=some (sl B1 c.agenda.slots.used):=rfl
def ug:RF.ev (.cell 7) [CL c]=some (sl I1 c.agenda.slots.free):=rfl
def gJ:RF.ev .agg [.i64 c.now.num,.i64 c.now.den,sl row c.pts,.i64 c.certs.next,sl hrow c.certs.list,sl I1 c.agenda.slots.uses,sl B1 c.agenda.slots.used,sl I1 c.agenda.slots.free,sl cv c.agenda.heap,sl I1 c.agenda.wher,sl cW c.due]=some (CL c):=rfl
def XX:RF.ev .agg [R c.now,sl row c.pts,.i64 c.certs.next,sl hrow c.certs.list,sl I1 c.agenda.slots.uses,sl B1 c.agenda.slots.used,sl I1 c.agenda.slots.free,sl cv c.agenda.heap,sl I1 c.agenda.wher,sl cW c.due]=some (CL c):=rfl
def cR0 (r:Rt):RF.ev (.cell 0) [R r]=some (.i64 r.num):=rfl
def cR1 (r:Rt):RF.ev (.cell 1) [R r]=some (.i64 r.den):=rfl
end
def XY {c:Clock}(h:CSm c):Ans D 291 [CL c] [CL c]:=by
 obtain⟨h1,h2,h3,h4⟩:=h;refine am ?_;unfold abb;simp[c9,gQ,iu,rQ,oe,fB,phi (agZ h1),phi (XS h2),phi (XV h3),bv,bm,cq,cR0,cR1,kQ,od,gj,jN,cAG0,cAG1,cAG2,fI,mK,ny (l:=c.due) (f:=cW) (bytes:=24) (z:=3) (by omega) vI,EV,ct,gJ]
def FA {c:Clock}(h:CSm c):Ans D 283 [CL c] [CL c]:=by
 obtain⟨h1,h2,⟨⟨h5,h6,h7⟩,h8,h9⟩,h4⟩:=h;refine am ?_;unfold aa8;simp[c9,xv,xw,tU,zL,jC,t7,t8,ug,mL,og,fB,phi (d67 h1),phi (LJ h2),phi (XQ h4),phi (R0 h8),phi (qD h9),phi (qD h5),phi (qD h7),phi (Lx h6),EV,ct,gJ]
def R1 {c:Clock}(h:CSm c):Ans D 353 [CL c] [CL c]:=by
 obtain⟨h1,h2,⟨⟨h5,h6,h7⟩,h8,h9⟩,h4⟩:=h;refine am ?_;unfold abU;simp[c9,gQ,tU,zL,jC,t7,t8,ug,mL,og,fB,phi (d67 h1),phi (LJ h2),phi (XQ h4),phi (R0 h8),phi (qD h9),phi (qD h5),phi (qD h7),phi (Lx h6),EV,ct,XX]
def qY {x y:Evt}:evLess x y=true↔crs x.time y.time<0\/(crs x.time y.time=0/\ x.number<y.number):=by
 unfold evLess sgn
 grind
def eR (a b:Rt):crs b a= -crs a b:=by unfold crs;omega
def om {a b c:Rt}(ha:0<a.den)(hb:0<b.den)(hc:0<c.den)(h1:crs a b<=0)(h2:crs b c<=0):crs a c<=0/\(crs a c=0->crs a b=0/\ crs b c=0):=by
 have e:crs a c*b.den=crs a b*c.den+crs b c*a.den:=by
  unfold crs
  grind
 have m1:crs a b*c.den<=0:=ed h1 (by omega);have m2:crs b c*a.den<=0:=ed h2 (by omega);constructor
 .apply rv.1;intro h;have:=zE h hb;omega
 .intro h;rw[h,iR] at e;have z1:crs a b*c.den=0:=by omega
  have z2:crs b c*a.den=0:=by omega
  exact⟨(jx.1 z1).resolve_right (by omega),(jx.1 z2).resolve_right (by omega)⟩
def lJ {x y:Evt}(h:evLess x y=true):evLess y x=false:=by
 cases e:evLess y x with
 |false=>rfl
 |true=>
  rw[qY] at h e;rw[eR x.time y.time] at e;omega
def FB {x y z:Evt}(hx:rok x.time=true)(hy:rok y.time=true)(hz:rok z.time=true)(h:evLess x y=true)(k:evLess y z=true):evLess x z=true:=by
 rw[qY] at*;have:=om (a:=x.time) (b:=y.time) (c:=z.time) (by have:=dA hx;omega) (by have:=dA hy;omega) (by have:=dA hz;omega) (by omega) (by omega);omega
def qZ {x y z:Evt}(hx:rok x.time=true)(hy:rok y.time=true)(hz:rok z.time=true)(h:evLess x y=false)(k:evLess y z=false):evLess x z=false:=by
 cases e:evLess x z with
 |false=>rfl
 |true=>
  have h':¬(evLess x y=true):=by simp[h]
  have k':¬(evLess y z=true):=by simp[k]
  rw[qY] at*;rw[eR z.time x.time] at e;have:=om (a:=z.time) (b:=y.time) (c:=x.time) (by have:=dA hz;omega) (by have:=dA hy;omega) (by have:=dA hx;omega) (by have:=eR y.time z.time;omega) (by have:=eR x.time y.time;omega);have e1:=eR y.time z.time;have e2:=eR x.time y.time;omega
def Du {x p s:Evt}(hx:rok x.time=true)(hp:rok p.time=true)(hs:rok s.time=true)(h:evLess x p=true)(k:evLess s p=false):evLess s x=false:=by
 cases e:evLess s x with
 |false=>rfl
 |true=>rw[FB hs hx hp e h] at k;cases k
structure SFine (s:Slots):Prop where
 n1:1<=s.uses.length
 n2:s.uses.length<=200
 len:s.used.length=s.uses.length
 nd:s.free.Nodup
 rng:∀x∈s.free,0<=x/\ x<(s.uses.length:Int)
 used:∀i:Nat,i<s.uses.length->s.used[i]?=some (!decide ((i:Int)∈s.free))
 uses:∀(i:Nat) (u:Int),s.uses[i]?=some u->0<=u/\ u<=1000000/\(s.used[i]?=some true->1<=u)
def okR_fine {s:Slots}:s.okR↔SFine s:=by
 unfold Slots.okR;constructor
 .rintro⟨h1,h2,h3,_,l,h5,h6⟩;obtain⟨m1,m2,m3,m4⟩:=lY.1 h5;rw[aR] at m3 m4;have hl:∀i:Nat,i<s.uses.length->l[i]?=some (decide ((i:Int)∈s.free)):=λi hi=>by
   grind
  have fact:∀(i:Nat) (u:Int),s.uses[i]?=some u->0<=u/\ u<=1000000/\ s.used[i]?=some (!decide ((i:Int)∈s.free))/\(s.used[i]?=some true->1<=u):=λi u hu=>by
   have hi:=(aC.1 hu).1;obtain⟨b,hb⟩:∃b,s.used[i]?=some b:=⟨s.used[i]'(by omega),ah _⟩;obtain⟨q1,q2,q3,q4⟩:=h6 i u b _ hu hb (hl i hi);refine⟨q1,q2,?_,λh=>?_⟩
   .rw[hb];cases b<;>cases h:decide ((i:Int)∈s.free)<;>simp_all
   .rw[hb] at h;cases h;exact rv.1 λhlt=>q4 ⟨rfl,by omega⟩
  refine⟨h1,h2,h3,m2,λx hx=>?_,λi hi=>?_,λi u hu=>?_⟩
  .obtain⟨g1,g2,_⟩:=m1 x hx;rw[aR] at g2;exact⟨g1,g2⟩
  .exact(fact i _ (ah hi)).2.2.1
  .obtain⟨q1,q2,_,q4⟩:=fact i u hu;exact⟨q1,q2,q4⟩
 .rintro⟨n1,n2,len,nd,rng,used,uses⟩;refine⟨n1,n2,len,iG nd rng,(List.range s.uses.length).map λi:Nat=>decide ((i:Int)∈s.free),?_,λi u b c hu hb hc=>?_⟩
  .rw[lY];refine⟨λx hx=>?_,nd,by simp,λi hi=>?_⟩
   .obtain⟨g1,g2⟩:=rng x hx;rw[aR];exact⟨g1,g2,by rw[eJ,ad (by omega)]⟩
   .rw[aR] at hi;rw[ba,iW hi,eJ,ad hi];by_cases e:(i:Int)∈s.free<;>simp[e]
  .have hi:=(aC.1 hu).1;rw[ba,iW hi] at hc;simp only[cj,bX] at hc;have hu':=used i hi;rw[hb] at hu';simp only[bX] at hu';obtain⟨q1,q2,q3⟩:=uses i u hu;refine⟨q1,q2,?_,λ⟨h1,h2⟩=>?_⟩
   .rw[<-hc,hu'];cases decide ((i:Int)∈s.free)<;>simp
   .subst h1;have:=q3 hb;omega
def me (s:Slots)(fr:List Int)(i:Nat)(u:Int):Slots:=⟨s.uses.set i (u+1),s.used.set i true,fr⟩
def NE {s:Slots}(h:SFine s){fr:List Int}{i:Nat}{u:Int}(hf:s.free=fr++[(i:Int)])(hu:s.uses[i]?=some u)(hm:u<1000000):SFine (me s fr i u):=by
 obtain⟨n1,n2,len,nd,rng,used,uses⟩:=h;have hi:=(aC.1 hu).1;rw[hf,eU] at nd;obtain⟨nd1,_,nd2⟩:=nd;have hni:(i:Int)∉fr:=λhm'=>nd2 _ hm' _ (by simp) rfl;unfold me;refine⟨by simpa using n1,by simpa using n2,by simpa using len,nd1,λx hx=>?_,λj hj=>?_,λj v hv=>?_⟩
 .simp only[a8];exact rng x (by rw[hf];simp[hx])
 .simp only[a8] at hj|-;by_cases e:i=j
  .subst e;rw[bi (by omega)];simp[hni]
  .rw[bx e,used j hj,hf];have:((j:Int)∈fr++[(i:Int)])↔(j:Int)∈fr:=by
    simp only[bR,cd];exact⟨λh=>h.resolve_right (by omega),.inl⟩
   simp only[this]
 .simp only at hv|-;by_cases e:i=j
  .subst e;rw[bi hi] at hv;cases hv;obtain⟨q1,q2,_⟩:=uses i u hu;exact⟨by omega,by omega,λ_=>by omega⟩
  .rw[bx e] at hv|-;exact uses j v hv
def adX {fr k:List Int}:RF.ev (.tsub 1) [sl I1 (fr++k),.v (.int .i64 0),.v (.int .i64 (fr.length:Int))]=some (sl I1 fr):=by
 have he:eg 1 ((fr++k).map I1)=true:=by
  cases h:fr++k with
  |nil=>rfl
  |cons a l=>simp[eg,cF]
 rw[yj,ad ⟨by omega,by omega,by simp;omega,he,by decide⟩];simp
def yI {n:Nat}(h:n<1000000000):IntKind.i64.wrap (((n+1:Nat):Int)-1)=(n:Int):=vB h
def XZ {fr:List Int}{i:Int}(hl:fr.length<=900):Ans D 439 [sl I1 (fr++[i])] [sl I1 fr,.i64 i]:=by
 have bn:RF.ev .bnd [.v (.int .i64 (fr.length:Int)),.v (.int .i64 ((fr.length+1:Nat):Int))]=some (.i64 (fr.length:Int)):=by rw[kr,ad ⟨by omega,by omega⟩]
 have hx:(fr++[i])[fr.length]?=some i:=by simp
 refine am ?_;unfold acx;simp only[EV,ai,aD,aK,yI (show fr.length<1000000000 by omega),bn,adX,phi (XR (l:=fr) (by omega)),aX hx (cF _),aN hx,cV,ct]
def kf (s:Slots):Bool:=match s.free.getLast? with
 |some x=>match s.uses[x.toNat]? with
  |some u=>decide (u<1000000)
  |none=>false
 |none=>false
def free_last {s:Slots}(h:SFine s):s.free=[]\/∃(fr:List Int) (i:Nat) (u:Int),s.free=fr++[(i:Int)]/\ s.uses[i]?=some u/\ fr.length<200/\ i<s.uses.length:=by
 rcases nY s.free with e|⟨fr,x,e⟩
 .exact .inl e
 .right
  rw[List.concat_eq_append] at e;have hx:=h.rng x (by rw[e];simp);have hb:=iG h.nd h.rng;rw[e,aD,aK] at hb;have:=h.n2;exact⟨fr,x.toNat,s.uses[x.toNat]'(by omega),by rw[e];congr 2;omega,ah _,by omega,by omega⟩
def rX {s:Slots}{fr:List Int}{i:Nat}{u:Int}(h:s.free=fr++[(i:Int)])(hu:s.uses[i]?=some u):kf s=decide (u<1000000):=by
 unfold kf
 grind
def ag1 {s:Slots}(h:SFine s):Ans D 380 [SL s] [.bool (kf s)]:=by
 refine am ?_;unfold ab7;rcases free_last h with e|⟨fr,i,u,e,hu,h1,h2⟩
 .have:kf s=false:=by unfold kf;rw[e];rfl
  simp only[j7,j9,e,EV,this];rw[ac (by decide)];unfold H5;simp[EV]
 .have hx:(fr++[(i:Int)])[fr.length]?=some (i:Int):=by simp
  simp only[j7,j9,j8,e,EV,ai,aD,aK,yI (show fr.length<1000000000 by omega),aX hx (cF _),aN hx,aX hu (cF _),aN hu,cV,rX e hu]
  rw[ad (aq (by omega))];unfold H5;simp only[EV]
def Eo:PV:= .agg [.sl [],.sl [],.sl []]
def Ep {s:Slots}(h:SFine s):SSm s:=⟨by have:=h.n2;omega,by have:=h.n2;have:=h.len;omega,by have:=iG h.nd h.rng;have:=h.n2;omega⟩
def ag2 {s:Slots}(h:SFine s){fr:List Int}{i:Nat}{u:Int}(e:s.free=fr++[(i:Int)])(hu:s.uses[i]?=some u)(hm:u<1000000):Ans D 429 [SL s] [SL (me s fr i u),HD ⟨i,u+1⟩]:=by
 have hi:=aL hu;have hb:=iG h.nd h.rng;have n2:=h.n2;rw[e,aD,aK] at hb;have hx:(fr++[(i:Int)])[fr.length]?=some (i:Int):=by simp
 have bn:RF.ev .bnd [.v (.int .i64 (fr.length:Int)),.v (.int .i64 ((fr.length+1:Nat):Int))]=some (.i64 (fr.length:Int)):=by rw[kr,ad ⟨by omega,by omega⟩]
 have wu:IntKind.i64.wrap (u+1)=u+1:=cM (by have:=(h.uses i u hu).1;omega) (by omega);have hu':(s.uses.set i (u+1))[i]?=some (u+1):=by rw[bi hi]
 have sb:RF.ev .sub [sl I1 (fr++[(i:Int)]),.v (.int .i64 0),.v (.int .i64 (fr.length:Int))]=some (sl I1 fr):=by
  rw[wL,ad (by simp;omega)];simp
 have s1:=ct (f:=I1) (l:=s.uses.set i (u+1));rw[a8] at s1;have s2:=ct (f:=B1) (l:=s.used.set i true);rw[a8] at s2;refine am ?_;unfold act;simp only[ay,j7,phi (XT (Ep h)),j8,mJ,j9,e,EV,ai,aD,aK,yI (show fr.length<1000000000 by omega),ixM (show fr.length<fr.length+1 by omega),aN hx,cV,bn,ixM hi,aN hu,wu,iK hi,ixM (show i<s.used.length by rw[h.len];exact hi),Lt (show i<s.used.length by rw[h.len];exact hi),aN hu',s1,s2,sb]
 rfl
def H0:PV:= .agg [.i64 0,.i64 0]
def Un:RF.ev .agg [.sl [],.sl [],.sl []]=some Eo:=rfl
def LM:RF.ev .agg [.v (.int .i64 0),.v (.int .i64 0)]=some H0:=rfl
def vV {s:Slots}(h:SFine s):gSl s=false:=by
 have:=h.n2;have:=h.len;have:=iG h.nd h.rng;unfold gSl
 grind
open Classical in
def ag3 {s:Slots}(h:SFine s){fr:List Int}{i:Nat}{u:Int}(e:s.free=fr++[(i:Int)])(hu:s.uses[i]?=some u)(hm:u<1000000):Ans D 408 [SL s] [SL (me s fr i u),HD ⟨i,u+1⟩,.i64 0]:=by
 have hi:=aL hu;have hb:=iG h.nd h.rng;have n2:=h.n2;rw[e,aD,aK] at hb;have hc:=phi (Ly (vV h));rw[aq (okR_fine.2 h)] at hc;have e0:okE true=0:=rfl;rw[e0] at hc;have wu:IntKind.i64.wrap (u+1)=u+1:=cM (by have:=(h.uses i u hu).1;omega) (by omega);have hu':(s.uses.set i (u+1))[i]?=some (u+1):=by rw[bi hi]
 have s1:=ct (f:=I1) (l:=s.uses.set i (u+1));rw[a8] at s1;have s2:=ct (f:=B1) (l:=s.used.set i true);rw[a8] at s2;refine am ?_;unfold SD;simp only[ay,j7,hc,j8,mJ,j9,EV,ai,aA,aJ,aw,ax];have hne:¬((s.free.length:Nat):Int)=0:=by rw[e];simp;omega
 have c4:=phi (XZ (fr:=fr) (i:=(i:Int)) (by omega));rw[<-e] at c4;simp only[hne,aY,aw,ax,ay,c4,j8,aX hu (cF _),aN hu,cV,EV,aa];rw[ac (by omega)];simp only[ay,j7,phi (XU (Ep h)),j8,mJ,EV,ai,ixM (show i<s.used.length by rw[h.len];exact hi),Lt (show i<s.used.length by rw[h.len];exact hi),ixM hi,aN hu,cV,wu,iK hi,aN hu',s1,s2]
 rfl
def nfree (n:Nat):List Int:=(List.range n).map λi:Nat=>((n-1-i:Nat):Int)
def vW (n:Nat):Slots:=⟨List.replicate n 0,List.replicate n false,nfree n⟩
def xx {n i:Nat}(h:i<n):(nfree n)[i]?=some ((n-1-i:Nat):Int):=by
 unfold nfree
 grind
def ji (n:Nat):(nfree n).length=n:=by simp[nfree]
def Dv {n:Nat}(h1:1<=n)(h2:n<=200):SFine (vW n):=by
 unfold vW;have hm:∀i:Nat,i<n->(i:Int)∈nfree n:=λi hi=>bb.2 ⟨n-1-i,cR.2 (by omega),by omega⟩;refine⟨by simpa using h1,by simpa using h2,by simp,?_,λx hx=>?_,λi hi=>?_,λi u hu=>?_⟩
 .rw[List.Nodup,dP];intro i j hi hj hij e;have a:=xx (n:=n) (i:=i) (by rw[ji] at hi;exact hi);have b:=xx (n:=n) (i:=j) (by rw[ji] at hj;exact hj);rw[ji] at hi hj
  grind
 .obtain⟨k,hk,rfl⟩:=bb.1 hx
  grind
 .grind
 .grind
def LN {n i:Nat}(h:¬i<n):(nfree n)[i]?=none:=bD (by rw[ji];omega)
def R2 (n i:Nat):(nfree n)[i]?=if i<n then some ((n-1-i:Nat):Int) else none:=by
 by_cases h:i<n
 .rw[ad h,xx h]
 .rw[ac h,LN h]
def adY {n i:Nat}(h:i<n):((nfree n).take i++List.replicate (n-i) 0).set i ((n-1-i:Nat):Int)=(nfree n).take (i+1)++List.replicate (n-(i+1)) 0:=by
 refine cZ λk=>?_;simp only[it,iC,eJ,gV,aD,aR,aP,ji,R2,bF (show i<=n by omega),bF (show i+1<=n by omega)]
 repeat' split
 all_goals first|rfl|omega|(congr 1;omega)
def ag4 {n:Nat}(h:n<=1000):RF.ev (.rep [(.v (.bool false))] 1) [.v (.int .i64 (n:Int)),.v (.int .i64 (n:Int))]=some (sl B1 (List.replicate n false)):=by
 rw[Nf,ad ⟨by omega,by omega,by omega,by omega⟩,aF];unfold sl;rw[qy];rfl
def ag5 {n:Nat}(h1:1<=n)(h2:n<=200):Ans D 346 [.i64 (n:Int)] [SL (vW n),.i64 0]:=by
 refine an ⟨1001,?_⟩;unfold abJ;simp only[EV,aa,cx];rw[ac (by omega),ac (by omega)];have r1:=Cp (n:=n) (by omega);have r2:=ag4 (n:=n) (by omega);simp only[r1,r2,ay,EV,ai,aR];have e0:([sl I1 (List.replicate n 0),PV.v (.int .i64 0)]:List PV)=[sl I1 ((nfree n).take 0++List.replicate (n-0) 0),.i64 ((0:Nat):Int)]:=by simp
 rw[e0];refine(gm (m:=1001) (n:=n) (st:=λi=>[sl I1 ((nfree n).take i++List.replicate (n-i) 0),.i64 (i:Int)]) (fin:=some [SL (vW n),.i64 0]) (λi self hi=>?_) (λself=>?_) (by omega))
 .have hlen:((nfree n).take i++List.replicate (n-i) 0).length=n:=by simp[ji];omega
  have w1:IntKind.i64.wrap ((n:Int)-1)=((n-1:Nat):Int):=by rw[cM (by omega) (by omega)];omega
  have w2:IntKind.i64.wrap (((n-1:Nat):Int)-(i:Int))=((n-1-i:Nat):Int):=by rw[cM (by omega) (by omega)];omega
  have st:=iK (l:=(nfree n).take i++List.replicate (n-i) 0) (i:=i) (by rw[hlen];exact hi) ((n-1-i:Nat):Int);rw[adY hi] at st;unfold HN;simp only[EV,aa,bh hi,w1,w2,ixM hi,st,up1 (show i<1000000000 by omega)]
 .have e1:(nfree n).take n++List.replicate (n-n) 0=nfree n:=by rw[bj (by rw[ji];omega)];simp
  have s0:=ct (f:=I1) (l:=List.replicate n (0:Int));have s1:=ct (f:=B1) (l:=List.replicate n false);have s2:=ct (f:=I1) (l:=nfree n);rw[aR] at s0 s1;rw[ji] at s2;unfold HN;simp only[EV,aa,bP,P5,e1,s0,s1,s2];rfl
def rY (n:Nat):Agenda:=⟨vW n,[],List.replicate n (-1)⟩
def rpt (n k:Nat):List Int:=List.replicate k (-1)++List.replicate (n-k) 0
def VI {n k:Nat}(h:k<=n):(rpt n k).length=n:=by unfold rpt;simp;omega
def R3 {n k m:Nat}(h:k+m<=n):(rpt n k).take k++List.replicate m (-1)++(rpt n k).drop (k+m)=rpt n (k+m):=by
 unfold rpt;rw[ic (by simp),nK,dz (l:=List.replicate k (-1)) (by simp)];simp only[aR,aM,List.drop_replicate,be];rw[<-be,n7]
 congr 2
 omega
def R4 {L S:List Int}{k:Nat}(h:k<=L.length):RF.ev (.appK 0 1) [sl I1 L,.v (.int .i64 (k:Int)),sl I1 S]=some (sl I1 (L.take k++S++L.drop (k+S.length))):=by
 have he:eg 1 (S.map I1)=true:=by
  cases S with
  |nil=>rfl
  |cons a k=>simp[eg,cF]
 show(if(0:Int)<=k/\(k:Int)<=((L.map I1).length:Nat)/\((k:Int).toNat+(S.map I1).length)*0<=140737488355328/\ eg 1 (S.map I1)=true then some (PV.sl ((L.map I1).take (k:Int).toNat++S.map I1++(L.map I1).drop ((k:Int).toNat+(S.map I1).length))) else none)=_
 simp_all
def X3 {L:List Int}{k:Nat}(h:k<=L.length):RF.ev .sub [sl I1 L,.v (.int .i64 0),.v (.int .i64 (k:Int))]=some (sl I1 (L.take k)):=by
 rw[wL,ad (by simp;omega)];simp
def FC {N n:Nat}(hn:n<=1000){f0:JT}{e0 e1 e2 e3 e4 e5 e6 e7 e8 e9 e10 e12 e13 e14 e15 e16:PV}:∀(r k m:Nat),n-k<=r->r<m->1<=k->k<=n->
  dY (bK D) N uG [f0] [e0,e1,e2,e3,e4,e5,e6,e7,e8,e9,e10,.i64 (n:Int),e12,e13,e14,e15,e16] m [sl I1 (rpt n k),.i64 (k:Int)]=f0 [sl I1 (rpt n n)]
 |0,k,m,h,hm,h1,h2=>by
  obtain⟨m,rfl⟩:∃m',m=m'+1:=⟨m-1,by omega⟩;have:k=n:=by omega
  subst this;rw[bB];unfold uG;simp[EV]
 |r+1,k,m,h,hm,h1,h2=>by
  obtain⟨m,rfl⟩:∃m',m=m'+1:=⟨m-1,by omega⟩;by_cases hk:k=n
  .subst hk;rw[bB];unfold uG;simp[EV]
  .have ih:=FC (N:=N) hn (f0:=f0) (e0:=e0) (e1:=e1) (e2:=e2) (e3:=e3) (e4:=e4) (e5:=e5) (e6:=e6) (e7:=e7) (e8:=e8) (e9:=e9) (e10:=e10) (e12:=e12) (e13:=e13) (e14:=e14) (e15:=e15) (e16:=e16) r (k+min (n-k) k) m (by omega) (by omega) (by omega) (by omega);have bn:RF.ev .bnd [.v (.int .i64 (k:Int)),.v (.int .i64 (n:Int))]=some (.i64 (k:Int)):=by rw[kr,ad ⟨by omega,by omega⟩]
   have dd:(n:Int)-(k:Int)=((n-k:Nat):Int):=by omega
   have hl:=VI (n:=n) h2;have tk:(rpt n k).take k=List.replicate k (-1):=by unfold rpt;exact ic (by simp)
   have s1:=X3 (L:=rpt n k) (k:=k) (by omega);rw[tk] at s1;have a1:RF.ev (.appK 0 1) [.sl [],.v (.int .i64 0),sl I1 (List.replicate k (-1))]=some (sl I1 (List.replicate k (-1))):=by
    have:=R4 (L:=[]) (S:=List.replicate k (-1)) (k:=0) (by simp);simp at this;exact this
   have mm:RF.ev (.mm false) [.v (.int .i64 ((n-k:Nat):Int)),.v (.int .i64 (k:Int))]=some (.i64 ((min (n-k) k:Nat):Int)):=by
    rw[mmN];congr 3;omega
   have s2:=X3 (L:=List.replicate k (-1)) (k:=min (n-k) k) (by simp;omega);rw[List.take_replicate,show min (min (n-k) k) k=min (n-k) k by omega] at s2
   have a2:=R4 (L:=rpt n k) (S:=List.replicate (min (n-k) k) (-1)) (k:=k) (by omega);rw[aR,R3 (by omega)] at a2;have wk:IntKind.i64.wrap ((k:Int)+((min (n-k) k:Nat):Int))=((k+min (n-k) k:Nat):Int):=by rw[cM (by omega) (by omega)];omega
   rw[bB];generalize hkk:uG=kk at ih;subst hkk;unfold uG;simp only[EV,aa];rw[ad (by omega)];simp[EV,bn,dd,s1,a1,mm,s2,a2,wk];exact ih
def ag6 {x y:Nat}(hx:x<18446744073709551616)(hy:y<18446744073709551616):Ans D 273 [U x,U y] [U (x*y/18446744073709551616),U (x*y% 18446744073709551616)]:=by
 refine am ?_;unfold aa1;simp[EV,phi (RB hx hy)]
def X4 {n:Nat}(h1:1<=n)(h2:n<=1000):Ans D 179 [sl I1 [-1],.i64 (n:Int)] [sl I1 (List.replicate n (-1))]:=by
 have m1:=phi (ag6 (x:=1) (y:=n) (by omega) (by omega));rw[ux,Nat.div_eq_of_lt (by omega),Nat.mod_eq_of_lt (by omega)] at m1;have cu:IntKind.u64.wrap (n:Int)=(n:Int):=wu (by omega);have cu1:IntKind.u64.wrap ((1:Nat):Int)=((1:Nat):Int):=wu (by omega);have ci:IntKind.i64.wrap (n:Int)=(n:Int):=cM (by omega) (by omega);have r1:=Cp (n:=n) h2;have a1:RF.ev (.appK 0 1) [.sl [],.v (.int .i64 0),sl I1 [-1]]=some (sl I1 [-1]):=rfl;have mm:RF.ev (.mm false) [.v (.int .i64 (n:Int)),.v (.int .i64 ((1:Nat):Int))]=some (.i64 ((1:Nat):Int)):=by
  rw[mmN];congr 3;omega
 have s2:RF.ev .sub [sl I1 [-1],.v (.int .i64 0),.v (.int .i64 ((1:Nat):Int))]=some (sl I1 [-1]):=rfl;have a2:=R4 (L:=List.replicate n 0) (S:=[-1]) (k:=0) (by simp);have e2:(List.replicate n (0:Int)).take 0++[-1]++(List.replicate n (0:Int)).drop (0+[(-1:Int)].length)=rpt n 1:=by
  unfold rpt;simp
 rw[e2] at a2;have a2:RF.ev (.appK 0 1) [sl I1 (List.replicate n 0),.v (.int .i64 0),sl I1 [-1]]=some (sl I1 (rpt n 1)):=a2;refine an ⟨1001,?_⟩;unfold aaf;simp only[EV,aa];rw[ac (by omega)];have cu1':IntKind.u64.wrap (([[PV.i64 (-1)]].length:Nat):Int)=((1:Nat):Int):=cu1;simp only[EV,ai,aK,cu,cu1];have m1:bK D 273 [.v (.int .u64 ((1:Nat):Int)),.v (.int .u64 (n:Int))]=some [U 0,U n]:=m1;simp only[m1,ay,EV,U,aa];rw[ac (by decide)];unfold Pc;simp only[EV];have g0:decide ((n:Int)>9223372036854775807)=false:=ak (by omega);simp only[g0,aw,ax,EV,ci,r1,ai,aR,a1,aK,mm,s2,a2,ay];refine(FC (N:=1001) (n:=n) h2 n 1 1001 (by omega) (by omega) (by omega) h1).trans ?_;have e3:rpt n n=List.replicate n (-1):=by unfold rpt;simp
 have s3:=ct (f:=I1) (l:=List.replicate n (-1:Int));rw[aR] at s3;unfold Pb;simp only[EV,e3,s3]
def Uo (l:List Int):RF.ev .flatL [sl I1 l]=some (sl I1 l):=by
 have:(l.map I1).flatten.all isV=true:=by
  induction l with
  |nil=>rfl
  |cons a l ih=>simp[I1,isV]
 show(if _ then _ else _)=_
 grind
def pSL (s:Slots):RF.ev (.part 0 3) [SL s]=some (SL s):=rfl
def ag7 {n:Nat}(h1:1<=n)(h2:n<=200):Ans D 258 [.i64 (n:Int)] [AG (rY n),.i64 0]:=by
 have s3:=ct (f:=I1) (l:=List.replicate n (-1:Int));rw[aR] at s3;refine am ?_;unfold aaO;simp only[phi (ag5 h1 h2),j7,EV,bsI,th,phi (X4 (n:=n) h1 (by omega)),ai,aR,pSL,Uo,s3];rfl
def lK (c:Certs)(x:Crt):Certs:=⟨c.next+1,c.list++[⟨c.next,x⟩]⟩
def NF {c:Certs}{x:Crt}(h:dB c)(hx:x.ok)(hn:∀g∈c.list,g.cert≠x)(h1:c.list.length<200)(h2:c.next<1000000):dB (lK c x):=by
 obtain⟨a1,a2,a3,a4⟩:=h;unfold lK;refine⟨by simp;omega,by simp only;omega,by simp only;omega,λi g hg=>?_⟩;simp only at hg|-;by_cases e:i<c.list.length
 .rw[aG e] at hg;obtain⟨q1,q2,q3,q4,q5⟩:=a4 i g hg;refine⟨q1,q2,by omega,λg' h0 hg'=>?_,λk hk g' hg'=>?_⟩
  .rw[aG (by omega)] at hg';exact q4 g' h0 hg'
  .rw[aG (by omega)] at hg';exact q5 k hk g' hg'
 .have hi:i=c.list.length:=by
   have:=aL hg;simp at this;omega
  subst hi;rw[bG (aB _),iS] at hg;simp only[i9,bX] at hg;subst hg;refine⟨hx,a2,by simp only;omega,λg' h0 hg'=>?_,λk hk g' hg'=>?_⟩
  .rw[aG (by omega)] at hg';exact(a4 _ g' hg').2.2.1
  .rw[aG hk] at hg';exact hn g' (au hg')
def Up (n:Int)(x:Crt):RF.ev .agg [.i64 n,CP x]=some (HP ⟨n,x⟩):=rfl
def bsH (h:Held):RF.ev (.bs 1 [KP.z,KP.z,KP.z] [0]) [HP h]=some (sl hrow [h]):=rfl
def Uq (h:Held):RF.ev .sub [sl hrow [h],.v (.int .i64 0),.v (.int .i64 1)]=some (sl hrow [h]):=rfl
def NG (n:Int)(l:List Held):RF.ev .agg [.i64 n,sl hrow l]=some (CS ⟨n,l⟩):=rfl
def pCP (x:Crt):RF.ev (.part 0 2) [CP x]=some (CP x):=rfl
def X5 {c:Certs}{x:Crt}(h:c.list.length<200):RF.ev (.app 24 3) [sl hrow c.list,.v (.int .i64 (c.list.length:Int)),sl hrow [⟨c.next,x⟩]]=some (sl hrow (c.list++[⟨c.next,x⟩])):=
 gt (f:=hrow) (l:=c.list) (k:=[⟨c.next,x⟩]) (bytes:=24) (z:=3) (by simp;omega) gP
open Classical in
def ag8 {c:Certs}{x:Crt}(h:dB c)(hx:x.ok)(hn:∀g∈c.list,g.cert≠x)(h1:c.list.length<200)(h2:c.next<1000000):Ans D 382 [CS c,CP x] [CS (lK c x),.i64 c.next,.i64 0]:=by
 have e0:okE true=0:=rfl;have m1:=phi (XE c);rw[aq h,e0] at m1;have m2:=phi (XD x);rw[aq hx] at m2;have m3:=phi (XF (c:=c) (x:=x) (by omega));rw[show(c.list.any λh=>decide (h.cert=x))=false from by rw[gg];intro g hg;simpa using hn g hg] at m3
 have w:IntKind.i64.wrap (c.next+1)=c.next+1:=cM (by have:=h.2.1;omega) (by omega);have s1:=ct (f:=hrow) (l:=c.list++[⟨c.next,x⟩]);refine am ?_;unfold ab9;simp[kQ,kP,m1,m2,m3,od,gj,EV];rw[ac (by omega),ac (by omega)];simp only[phi (XS (c:=c) (by omega)),kQ,od,gj,pCP,Up,bsH,Uq,EV,ai,X5 h1,w,s1,NG];rfl
open Classical in
def X6 {c:Certs}{x:Crt}(h:dB c)(hx:x.ok)(hn:∀g∈c.list,g.cert≠x)(h1:c.list.length<200)(h2:c.next<1000000):Ans D 352 [CS c,CP x] [CS (lK c x),.i64 c.next,.i64 0]:=by
 have e0:okE true=0:=rfl;have m1:=phi (Lz (c:=c) (by omega));rw[aq h,e0] at m1;have m2:=phi (RJ x);rw[aq hx] at m2;have w:IntKind.i64.wrap (c.next+1)=c.next+1:=cM (by have:=h.2.1;omega) (by omega);have s1:=ct (f:=hrow) (l:=c.list++[⟨c.next,x⟩]);refine an ⟨1001,?_⟩;unfold Sz;simp only[ay,kQ,kP,m1,m2,gj,EV,ai,aA,aJ,aw,ax];refine(cD (m:=1001) (l:=c.list) (p:=λg=>!decide (g.cert=x)) (st:=λi=>[.i64 (i:Int)]) (r:=none) (fin:=some [CS (lK c x),.i64 c.next,.i64 0]) (λi g self hg _=>?_) (λhall self=>?_) (by omega)).trans ?_
 .unfold xN;simp only[ay,gj,aX hg (gP _),aN hg,lG,pHP,xp,EV,aa,bh (aL hg),up1 (show i<1000000000 by have:=aL hg;omega)]
  grind
 .unfold xN HX;simp only[ay,od,gj,EV,ai,aa,bP];rw[ac (by decide),ac (by omega),ac (by omega)];simp only[ay,phi (LJ (l:=c.list) (by omega)),od,gj,pCP,Up,bsH,Uq,EV,ai,X5 h1,w,s1,NG];rfl
 .grind
structure Plc (s:Slots)(hp:List Evt)(wh:List Int):Prop where
 len:wh.length=s.uses.length
 at_:∀(k:Nat) (e:Evt),hp[k]?=some e->∃(j:Nat) (u:Int),e.hnd=⟨(j:Int),u⟩/\ s.used[j]?=some true/\ s.uses[j]?=some u/\ wh[j]?=some (k:Int)
 of_:∀j:Nat,s.used[j]?=some true->∃(k:Nat) (e:Evt) (u:Int),wh[j]?=some (k:Int)/\ hp[k]?=some e/\ s.uses[j]?=some u/\ e.hnd=⟨(j:Int),u⟩
 off:∀j:Nat,s.used[j]?=some false->wh[j]?=some (-1)
def bo {α:Type}{l:List α}{i:Nat}{a:α}(h:l[i]?=some a):i<l.length:=(aC.1 h).1
def vX {s:Slots}{hp:List Evt}{wh:List Int}(h:Plc s hp wh){i k:Nat}{e f:Evt}(hi:hp[i]?=some e)(hk:hp[k]?=some f)(hne:i≠k):
  Plc s ((hp.set i f).set k e) ((wh.set f.hnd.index.toNat (i:Int)).set e.hnd.index.toNat (k:Int)):=by
 obtain⟨je,ue,e1,e2,e3,e4⟩:=h.at_ i e hi;obtain⟨jf,uf,f1,f2,f3,f4⟩:=h.at_ k f hk;have hi':=bo hi;have hk':=bo hk;have we:=bo e4;have wf:=bo f4;have hj:je≠jf:=λq=>by
  grind
 rw[e1,f1];simp only[aF];have W:∀j:Nat,((wh.set jf (i:Int)).set je (k:Int))[j]?=if j=je then some (k:Int) else if j=jf then some (i:Int) else wh[j]?:=λj=>by
  grind
 have P:∀m:Nat,((hp.set i f).set k e)[m]?=if m=k then some e else if m=i then some f else hp[m]?:=λm=>by
  grind
 refine⟨by simpa using h.len,λm g hg=>?_,λj hu=>?_,λj hu=>?_⟩
 .rw[P] at hg;by_cases a:m=k
  .subst a;rw[ad rfl] at hg;cases hg;exact⟨je,ue,e1,e2,e3,by rw[W,ad rfl]⟩
  .rw[ac a] at hg;by_cases b:m=i
   .subst b;rw[ad rfl] at hg;cases hg;exact⟨jf,uf,f1,f2,f3,by rw[W,ac (λq=>hj q.symm),ad rfl]⟩
   .rw[ac b] at hg;obtain⟨j,u,g1,g2,g3,g4⟩:=h.at_ m g hg;refine⟨j,u,g1,g2,g3,?_⟩;rw[W,ac,ac,g4]
    .rintro rfl;rw[f4] at g4;simp only[bX] at g4;omega
    .rintro rfl;rw[e4] at g4;simp only[bX] at g4;omega
 .by_cases a:j=je
  .subst a;exact⟨k,e,ue,by rw[W,ad rfl],by rw[P,ad rfl],e3,e1⟩
  .by_cases b:j=jf
   .subst b;exact⟨i,f,uf,by rw[W,ac a,ad rfl],by rw[P,ac hne,ad rfl],f3,f1⟩
   .obtain⟨m,g,u,g1,g2,g3,g4⟩:=h.of_ j hu;refine⟨m,g,u,by rw[W,ac a,ac b,g1],?_,g3,g4⟩;rw[P,ac,ac,g2]
    .rintro rfl;rw[hi] at g2;cases g2;rw[e1] at g4;simp only[Hnd.mk.injEq] at g4;omega
    .rintro rfl;rw[hk] at g2;cases g2;rw[f1] at g4;simp only[Hnd.mk.injEq] at g4;omega
 .have a:j≠je:=λq=>by subst q;rw[e2] at hu;cases hu
  have b:j≠jf:=λq=>by subst q;rw[f2] at hu;cases hu
  rw[W,ac a,ac b];exact h.off j hu
def zM {s:Slots}(hs:SFine s){hp:List Evt}{wh:List Int}(h:Plc s hp wh){fr:List Int}{i:Nat}{u:Int}{x:Evt}(e:s.free=fr++[(i:Int)])(hu:s.uses[i]?=some u)(hx:x.hnd=⟨(i:Int),u+1⟩):
  Plc (me s fr i u) (hp++[x]) (wh.set i (hp.length:Int)):=by
 have hi:=bo hu;have hui:s.used[i]?=some false:=by rw[hs.used i hi,e];simp
 have hul:=bo hui;have hw:i<wh.length:=by rw[h.len];exact hi
 have U:∀j:Nat,(s.used.set i true)[j]?=if j=i then some true else s.used[j]?:=λj=>by
  grind
 have V:∀j:Nat,(s.uses.set i (u+1))[j]?=if j=i then some (u+1) else s.uses[j]?:=λj=>by
  grind
 have W:∀j:Nat,(wh.set i (hp.length:Int))[j]?=if j=i then some (hp.length:Int) else wh[j]?:=λj=>by
  grind
 unfold me;refine⟨by simpa using h.len,λm g hg=>?_,λj hj=>?_,λj hj=>?_⟩
 .by_cases a:m<hp.length
  .rw[aG a] at hg;obtain⟨j,v,g1,g2,g3,g4⟩:=h.at_ m g hg;have b:j≠i:=λq=>by subst q;rw[hui] at g2;cases g2
   exact⟨j,v,g1,by simp only[U,ac b,g2],by simp only[V,ac b,g3],by simp only[W,ac b,g4]⟩
  .have hm:=bo hg;rw[aD,aK] at hm;have:m=hp.length:=by omega
   subst this;rw[bG (aB _),iS] at hg;simp only[i9,bX] at hg;subst hg;exact⟨i,u+1,hx,by simp only[U,az],by simp only[V,az],by simp only[W,az]⟩
 .simp only[U] at hj;by_cases a:j=i
  .subst a;exact⟨hp.length,x,u+1,by simp only[W,az],by simp,by simp only[V,az],hx⟩
  .rw[ac a] at hj;obtain⟨k,g,v,g1,g2,g3,g4⟩:=h.of_ j hj;exact⟨k,g,v,by simp only[W,ac a,g1],by rw[aG (bo g2)];exact g2,by simp only[V,ac a,g3],g4⟩
 .simp only[U] at hj;by_cases a:j=i
  .subst a;rw[ad rfl] at hj;cases hj
  .rw[ac a] at hj;simp only[W,ac a];exact h.off j hj
def kg (hp:List Evt)(i k:Nat)(e f:Evt):List Evt:=(hp.set i f).set k e
def pi (wh:List Int)(i k:Nat)(e f:Evt):List Int:=(wh.set f.hnd.index.toNat (i:Int)).set e.hnd.index.toNat (k:Int)
def upS:Nat->List Evt->List Int->Nat->List Evt×List Int×Nat
 |0,hp,wh,i=>(hp,wh,i)
 |n+1,hp,wh,i=>match hp[i]?,hp[(i-1)/2]? with
  |some e,some p=>if 0<i/\ evLess e p=true then upS n (kg hp i ((i-1)/2) e p) (pi wh i ((i-1)/2) e p) ((i-1)/2) else(hp,wh,i)
  |_,_=>(hp,wh,i)
def Er (hp:List Evt)(i:Nat):Prop:=
 (∀(c:Nat) (e p:Evt),0<c->c≠i->hp[c]?=some e->hp[(c-1)/2]?=some p->evLess e p=false)/\
 ∀(c:Nat) (e p:Evt),0<i->0<c->(c-1)/2=i->hp[c]?=some e->hp[(i-1)/2]?=some p->evLess e p=false
def Ord (hp:List Evt):Prop:=∀(c:Nat) (e p:Evt),0<c->hp[c]?=some e->hp[(c-1)/2]?=some p->evLess e p=false
def swp_get {hp:List Evt}{i k:Nat}{e f:Evt}(hi:hp[i]?=some e)(hk:hp[k]?=some f)(m:Nat):(kg hp i k e f)[m]?=if m=k then some e else if m=i then some f else hp[m]?:=by
 unfold kg
 grind
def vY {hp:List Evt}{i k:Nat}{e f:Evt}(hi:hp[i]?=some e)(hk:hp[k]?=some f):(kg hp i k e f).Perm hp:=by
 unfold kg
 grind
def R5 {hp:List Evt}{i:Nat}{e p:Evt}(hr:∀x∈hp,rok x.time=true)(ho:Er hp i)(h0:0<i)(hi:hp[i]?=some e)(hp':hp[(i-1)/2]?=some p)(hl:evLess e p=true):Er (kg hp i ((i-1)/2) e p) ((i-1)/2):=by
 obtain⟨o1,o2⟩:=ho;have re:=hr e (au hi);have rp:=hr p (au hp');have G:=swp_get hi hp';refine⟨λc x q c0 cn hx hq=>?_,λc x q k0 c0 hc hx hq=>?_⟩
 .rw[G] at hx hq;rw[ac cn] at hx;by_cases a:c=i
  .subst a;rw[ad rfl] at hx hq;cases hx;cases hq;exact lJ hl
  .rw[ac a] at hx;by_cases b:(c-1)/2=(i-1)/2
   .rw[ad b] at hq;cases hq;have:=o1 c x p c0 a hx (by rw[b];exact hp');exact Du re rp (hr x (au hx)) hl this
   .rw[ac b] at hq;by_cases d:(c-1)/2=i
    .rw[ad d] at hq;cases hq;exact o2 c x p h0 c0 d hx hp'
    .rw[ac d] at hq;exact o1 c x q c0 a hx hq
 .rw[G] at hx hq;rw[ac (by omega)] at hx;rw[ac (by omega),ac (by omega)] at hq;have up:=o1 ((i-1)/2) p q k0 (by omega) hp' hq;by_cases a:c=i
  .subst a;rw[ad rfl] at hx;cases hx;exact up
  .rw[ac a] at hx;have:=o1 c x p c0 a hx (by rw[hc];exact hp');exact qZ (hr x (au hx)) rp (hr q (au hq)) this up
def AI {s:Slots}:∀(n:Nat) (hp:List Evt) (wh:List Int) (i:Nat),i<=n->i<hp.length->(∀x∈hp,rok x.time=true)->Er hp i->Plc s hp wh->
  Ord (upS n hp wh i).1/\(upS n hp wh i).1.Perm hp/\ Plc s (upS n hp wh i).1 (upS n hp wh i).2.1/\(upS n hp wh i).1[(upS n hp wh i).2.2]?=hp[i]?/\(upS n hp wh i).2.2<=i
 |0,hp,wh,i,hn,hi,hr,ho,hP=>by
  have:i=0:=by omega
  subst this;exact⟨λc e p c0 he hp'=>ho.1 c e p c0 (by omega) he hp',.refl _,hP,rfl,aB _⟩
 |n+1,hp,wh,i,hn,hi,hr,ho,hP=>by
  obtain⟨e,he⟩:∃e,hp[i]?=some e:=⟨hp[i],ah _⟩;obtain⟨p,hp'⟩:∃p,hp[(i-1)/2]?=some p:=⟨hp[(i-1)/2]'(by omega),ah _⟩;unfold upS;rw[he,hp'];simp only;by_cases hc:0<i/\ evLess e p=true
  .rw[ad hc];obtain⟨h0,hl⟩:=hc;have pm:=vY he hp';obtain⟨q1,q2,q3,q4,q5⟩:=AI n (kg hp i ((i-1)/2) e p) (pi wh i ((i-1)/2) e p) ((i-1)/2) (by omega) (by rw[pm.length_eq];omega) (λx hx=>hr x (pm.mem_iff.1 hx)) (R5 hr ho h0 he hp' hl) (vX hP he hp' (by omega));refine⟨q1,q2.trans pm,q3,?_,by omega⟩;rw[q4,swp_get he hp',ad rfl]
  .rw[ac hc];refine⟨λc x q c0 hx hq=>?_,.refl _,hP,he,aB _⟩;by_cases a:c=i
   .subst a;rw[he] at hx;cases hx;rw[hp'] at hq;cases hq;cases hl:evLess e p with
    |false=>rfl
    |true=>exact absurd ⟨c0,hl⟩ hc
   .exact ho.1 c x q c0 a hx hq
def rZ {α:Type}(p:α->Bool):∀l:List α,l.length=(l.filter p).length+(l.filter λx=>!p x).length
 |[]=>rfl
 |a::l=>by
  have:=rZ p l;rw[cO,cO];cases p a<;>simp<;>omega
def qf {a:Agenda}(hs:SFine a.slots)(hp:qd a):Plc a.slots a.heap a.wher:=by
 obtain⟨p1,p2,p3⟩:=hp;have hlen:=hs.len;have get:∀j:Nat,j<a.slots.uses.length->∃b w u,a.slots.used[j]?=some b/\ a.wher[j]?=some w/\ a.slots.uses[j]?=some u:=λj hj=>
  ⟨_,_,_,ah (by omega),ah (by omega),ah hj⟩
 have of_:∀j:Nat,a.slots.used[j]?=some true->∃(k:Nat) (e:Evt) (u:Int),a.wher[j]?=some (k:Int)/\ a.heap[k]?=some e/\ a.slots.uses[j]?=some u/\ e.hnd=⟨(j:Int),u⟩:=λj hj=>by
  grind
 refine⟨p1,λk e hk=>?_,of_,λj hj=>?_⟩
 ·
  let W:Nat->Nat:=λj=>((a.wher[j]?).getD 0).toNat
  let U:Nat->Bool:=λj=>decide (a.slots.used[j]?=some true)
  have hnd:(((List.range a.slots.uses.length).filter U).map W).Nodup:=by
   rw[List.Nodup,gh];refine List.Pairwise.imp_of_mem (R:=λx y=>x≠y) (λ{x y} hx hy hne=>?_) (List.nodup_range.filter _);intro h;obtain⟨k1,e1,u1,g1,g2,_,g4⟩:=of_ x (by have:=(bk.1 hx).2;exact aT this);obtain⟨k2,e2,u2,f1,f2,_,f4⟩:=of_ y (by have:=(bk.1 hy).2;exact aT this);simp only[W,g1,f1,cA,aF] at h;subst h;rw[g2] at f2;cases f2;rw[g4] at f4;simp only[Hnd.mk.injEq] at f4;omega
  have hsub:∀x∈((List.range a.slots.uses.length).filter U).map W,x∈List.range a.heap.length:=λx hx=>by
   obtain⟨j,hj,rfl⟩:=bb.1 hx;obtain⟨k1,e1,u1,g1,g2,_,g4⟩:=of_ j (by have:=(bk.1 hj).2;exact aT this);simp only[W,g1,cA,aF,cR];exact bo g2
  have hfree:((List.range a.slots.uses.length).filter λj=>!U j).length<=a.slots.free.length:=by
   have:=rE (l:=((List.range a.slots.uses.length).filter λj=>!U j).map λj:Nat=>(j:Int)) (k:=a.slots.free) (by
    rw[List.Nodup,gh];exact(List.nodup_range.filter _).imp λh e=>h (by omega)) (λx hx=>by
     obtain⟨j,hj,rfl⟩:=bb.1 hx;obtain⟨h1,h2⟩:=bk.1 hj;rw[cR] at h1;have hu:=hs.used j h1;simp only[U,aE,aj] at h2;by_cases hm:(j:Int)∈a.slots.free
     .exact hm
     .exact absurd (by rw[hu];simp[hm]) h2)
   simpa using this
  have hsplit:=rZ U (List.range a.slots.uses.length);rw[mR] at hsplit;have hperm:=lV hnd hsub (by rw[mR,ai];omega);have hk':k∈((List.range a.slots.uses.length).filter U).map W:=hperm.mem_iff.2 (cR.2 (bo hk));obtain⟨j,hj,hjk⟩:=bb.1 hk';have hju:a.slots.used[j]?=some true:=by have:=(bk.1 hj).2;exact aT this
  obtain⟨k1,e1,u1,g1,g2,g3,g4⟩:=of_ j hju;simp only[W,g1,cA,aF] at hjk;subst hjk;rw[hk] at g2;cases g2;exact⟨j,u1,g4,hju,g3,g1⟩
 .obtain⟨b,w,u,h1,h2,h3⟩:=get j (by have:=bo hj;omega);have:=p3 j false w u hj h2 h3;rw[ac (by simp)] at this;rw[h2,this]
def NH {a:Agenda}(h:Plc a.slots a.heap a.wher)(hl:a.heap.length+a.slots.free.length=a.slots.uses.length):qd a:=by
 refine⟨h.len,hl,λj b w u hb hw hu=>?_⟩;cases b with
 |true=>
  obtain⟨k,e,v,g1,g2,g3,g4⟩:=h.of_ j hb
  grind
 |false=>
  have:=h.off j hb
  grind
def gY (a:Agenda)(fr:List Int)(i:Nat)(u:Int)(t:Rt)(n:Int):Agenda:=
 let r:=upS (a.heap.length+1) (a.heap++[⟨t,n,⟨i,u+1⟩⟩]) (a.wher.set i (a.heap.length:Int)) a.heap.length
 ⟨me a.slots fr i u,r.1,r.2.1⟩
def xy {a:Agenda}(h:eV a):Ord a.heap:=λc e p c0 he hp=>by
 have:=h.2.2.2.2 (c-1) e p (by rw[show c-1+1=c by omega];exact he) hp
 exact this
def yJ {a:Agenda}(h:eV a){fr:List Int}{i:Nat}{u:Int}(hf:a.slots.free=fr++[(i:Int)])(hu:a.slots.uses[i]?=some u)(hm:u<1000000){t:Rt}{n:Int}(hx:rok t=true/\ 0<=n/\ n<=1000000)(hn:n∉a.heap.map (·.number)):
  eV (gY a fr i u t n)/\(gY a fr i u t n).heap.Perm (a.heap++[⟨t,n,⟨i,u+1⟩⟩])/\(gY a fr i u t n).wher.length=a.wher.length:=by
 have hs:=okR_fine.1 h.1;have hP:=qf hs h.2.1;have hP':=zM hs hP hf hu (x:=⟨t,n,⟨i,u+1⟩⟩) rfl;have hs':=NE hs hf hu hm;have hl:=h.2.1.2.1;have hr:∀x∈a.heap++[(⟨t,n,⟨i,u+1⟩⟩:Evt)],pe x:=λx hx'=>by
  rcases bR.1 hx' with h1|h1
  .exact h.2.2.1 x h1
  .rw[cd] at h1;subst h1;exact hx
 have hex:Er (a.heap++[⟨t,n,⟨i,u+1⟩⟩]) a.heap.length:=by
  refine⟨λc e p c0 cn he hp=>?_,λc e p _ c0 hc he _=>?_⟩
  .have h1:=bo he;rw[aD,aK] at h1;rw[aG (by omega)] at he hp;exact xy h c e p c0 he hp
  .grind
 obtain⟨q1,q2,q3,_,_⟩:=AI (s:=me a.slots fr i u) (a.heap.length+1) (a.heap++[⟨t,n,⟨i,u+1⟩⟩]) (a.wher.set i (a.heap.length:Int)) a.heap.length (by omega) (by simp) (λx hx'=>(hr x hx').1) hex hP';unfold gY;refine⟨⟨okR_fine.2 hs',NH q3 ?_,λe he=>hr e (q2.mem_iff.1 he),?_,λc e p he hp=>?_⟩,q2,?_⟩
 .simp only;rw[q2.length_eq];unfold me;rw[hf] at hl;simp only[aD,aK,a8] at hl|-;omega
 .have pm:((upS (a.heap.length+1) (a.heap++[(⟨t,n,⟨i,u+1⟩⟩:Evt)]) (a.wher.set i (a.heap.length:Int)) a.heap.length).1.map (·.number)).Perm ((a.heap++[(⟨t,n,⟨i,u+1⟩⟩:Evt)]).map (·.number)):=q2.map _;refine pm.nodup_iff.2 ?_;rw[dT,eU];refine⟨h.2.2.2.1,by simp,λx hx1 y hy e=>?_⟩;simp only[bH,sT,cd] at hy;subst hy;subst e;exact hn hx1
 .exact q1 (c+1) e p (by omega) he (by simpa using hp)
 .have l1:=q3.len;have l2:=hP.len;simp only;rw[l1,l2];unfold me;simp
def AJ {l:List Evt}{i:Nat}(h:i<l.length)(f:Evt):RF.ev (.set 0) [sl cv l,.v (.int .i64 (i:Int)),EP f]=some (sl cv (l.set i f)):=by
 obtain⟨e,he⟩:∃e,l[i]?=some e:=⟨l[i],ah h⟩;have hs:qh (cv e) 0 (cv f)=cv f:=rfl;rw[ze,ad (by omega),aF,ba,he];simp only[cj,show(EP f).cells=cv f from rfl,show(cv f).length=5 from rfl,show(cv e).length=5 from rfl]
 simp_all
def AK (t:Rt)(n:Int)(h:Hnd):RF.ev .agg [R t,.i64 n,HD h]=some (EP ⟨t,n,h⟩):=rfl
def bsE (e:Evt):RF.ev (.bs 1 [KP.z,KP.z,KP.z,KP.z,KP.z] [0]) [EP e]=some (sl cv [e]):=rfl
def Ur (e:Evt):RF.ev .sub [sl cv [e],.v (.int .i64 0),.v (.int .i64 1)]=some (sl cv [e]):=rfl
def LO {i:Nat}(h0:0<i)(h:i<1000000):dx .quo .i64 (IntKind.i64.wrap ((i:Int)-1)) .i64 2=some (.v (.int .i64 (((i-1)/2:Nat):Int))):=by
 obtain⟨k,rfl⟩:∃k,i=k+1:=⟨i-1,by omega⟩;exact Lu (by omega)
def zo {s:Slots}{N:Nat}{f0:JT}{e0 e1 e2 e3 e4 e5 e6 e7 e8 e9 e10 e11 e12 e13 e14 e15 e17 e18 e19 e20 e21 e22 e23 e24 e25 e26 e27 e28 e29 e30 e32 e33 e34 e35 e36:PV}{H W:Nat}(hH:H<=1000):∀(r i m:Nat) (hp:List Evt) (wh:List Int),i<=r->r<m->i<H->hp.length=H->wh.length=W->(∀x∈hp,aS x.time)->Plc s hp wh->
  dY (bK D) N uK [f0] [e0,e1,e2,e3,e4,e5,e6,e7,e8,e9,e10,e11,e12,e13,e14,e15,.i64 (W:Int),e17,e18,e19,e20,e21,e22,e23,e24,e25,e26,e27,e28,e29,e30,.i64 (H:Int),e32,e33,e34,e35,e36] m [.i64 (i:Int),sl cv hp,sl I1 wh]=f0 [.i64 ((upS r hp wh i).2.2:Int),sl I1 (upS r hp wh i).2.1,sl cv (upS r hp wh i).1]
 |0,i,m,hp,wh,hi,hm,hiH,hl,hw,h64,hP=>by
  obtain⟨m,rfl⟩:∃m',m=m'+1:=⟨m-1,by omega⟩;have:i=0:=by omega
  subst this;rw[bB];unfold uK upS;simp only[EV,aa];rw[ac (by omega)]
 |r+1,i,m,hp,wh,hi,hm,hiH,hl,hw,h64,hP=>by
  obtain⟨m,rfl⟩:∃m',m=m'+1:=⟨m-1,by omega⟩;obtain⟨e,he⟩:∃e,hp[i]?=some e:=⟨hp[i],ah _⟩;obtain⟨p,hp'⟩:∃p,hp[(i-1)/2]?=some p:=⟨hp[(i-1)/2]'(by omega),ah _⟩;have E:upS (r+1) hp wh i=if 0<i/\ evLess e p=true then upS r (kg hp i ((i-1)/2) e p) (pi wh i ((i-1)/2) e p) ((i-1)/2) else(hp,wh,i):=by rw[upS,he,hp']
  rw[E,bB];by_cases h0:0<i
  rotate_left
  .rw[ac (λh=>h0 h.1)];unfold uK;simp only[EV,aa,cx];rw[ac (by omega)]
  .have pm:=vY he hp';have ih:=zo (s:=s) (N:=N) (f0:=f0) (e0:=e0) (e1:=e1) (e2:=e2) (e3:=e3) (e4:=e4) (e5:=e5) (e6:=e6) (e7:=e7) (e8:=e8) (e9:=e9) (e10:=e10) (e11:=e11) (e12:=e12) (e13:=e13) (e14:=e14) (e15:=e15) (e17:=e17) (e18:=e18) (e19:=e19) (e20:=e20) (e21:=e21) (e22:=e22) (e23:=e23) (e24:=e24) (e25:=e25) (e26:=e26) (e27:=e27) (e28:=e28) (e29:=e29) (e30:=e30) (e32:=e32) (e33:=e33) (e34:=e34) (e35:=e35) (e36:=e36) (H:=H) (W:=W) hH r ((i-1)/2) m (kg hp i ((i-1)/2) e p) (pi wh i ((i-1)/2) e p) (by omega) (by omega) (by omega) (by rw[pm.length_eq];exact hl) (by unfold pi;simpa using hw) (λx hx=>h64 x (pm.mem_iff.1 hx)) (vX hP he hp' (by omega))
   have cm:=phi (XC (h64 e (au he)) (h64 p (au hp')));obtain⟨je,ue,g1,_,_,g4⟩:=hP.at_ i e he;obtain⟨jp,up,k1,_,_,k4⟩:=hP.at_ _ p hp';have wje:je<W:=by rw[<-hw];exact bo g4
   have wjp:jp<W:=by rw[<-hw];exact bo k4
   have q2:=LO h0 (by omega);have ge:(kg hp i ((i-1)/2) e p)[(i-1)/2]?=some e:=by rw[swp_get he hp',ad rfl]
   have gp:(kg hp i ((i-1)/2) e p)[i]?=some p:=by rw[swp_get he hp',ac (by omega),ad rfl]
   have s1:=AJ (l:=hp) (i:=i) (by omega) p;have s2:RF.ev (.set 0) [sl cv (hp.set i p),.v (.int .i64 (((i-1)/2:Nat):Int)),EP e]=some (sl cv (kg hp i ((i-1)/2) e p)):=AJ (by rw[a8];omega) e;have ie:e.hnd.index=(je:Int):=by rw[g1]
   have ip:p.hnd.index=(jp:Int):=by rw[k1]
   have s3:=iK (l:=wh) (i:=jp) (by omega) (i:Int);have s4:RF.ev (.set 0) [sl I1 (wh.set jp (i:Int)),.v (.int .i64 (je:Int)),.v (.int .i64 (((i-1)/2:Nat):Int))]=some (sl I1 (pi wh i ((i-1)/2) e p)):=by
    unfold pi;rw[ie,ip,aF,aF];exact iK (by rw[a8];omega) _
   generalize hkk:uK=kk at ih;subst hkk;unfold uK;simp only[EV,aa,cx];rw[ad (by omega)];simp only[EV,ixM hiH,aN he,iY,mq,q2,ixM (show(i-1)/2<H by omega),aN hp',ay,cm]
   cases hc:evLess e p with
   |false=>
    rw[ac (by simp)];simp
   |true=>
    simp only[h0,fO,az,EV,mq,q2,ixM hiH,ixM (show(i-1)/2<H by omega),aN he,aN hp',iY,ay,iv,s1,s2,aN ge,aN gp,Ud,ie,ip,ixM wje,ixM wjp,s3,s4]
    exact ih
def AL (s:Slots)(hp:List Evt)(wh:List Int):RF.ev .agg [SL s,sl cv hp,sl I1 wh]=some (AG ⟨s,hp,wh⟩):=rfl
def pHD (h:Hnd):RF.ev (.part 0 2) [HD h]=some (HD h):=rfl
def pR (r:Rt):RF.ev (.part 0 2) [R r]=some (R r):=rfl
def Es {a:Agenda}(h:eV a):ASm a:=by
 have hs:=okR_fine.1 h.1;have:=hs.n2;exact⟨Ep hs,by have:=h.2.1.2.1;omega,by have:=h.2.1.1;omega⟩
def ag9 {a:Agenda}(h:eV a){fr:List Int}{i:Nat}{u:Int}(hf:a.slots.free=fr++[(i:Int)])(hu:a.slots.uses[i]?=some u)(hm:u<1000000){t:Rt}{n:Int}(hx:rok t=true/\ 0<=n/\ n<=1000000)(hn:n∉a.heap.map (·.number))(ht:aS t)(h64:∀e∈a.heap,aS e.time):
  Ans D 381 [AG a,R t,.i64 n] [AG (gY a fr i u t n),HD ⟨i,u+1⟩]:=by
 have hs:=okR_fine.1 h.1;have hP:=qf hs h.2.1;have hsm:=Es h;have n2:=hs.n2;have hl:=h.2.1.2.1;have hw:=h.2.1.1;have hi:=bo hu;have hP':=zM hs hP hf hu (x:=⟨t,n,⟨i,u+1⟩⟩) rfl;obtain⟨_,q2,q3⟩:=yJ h hf hu hm hx hn;have ap:=gt (f:=cv) (l:=a.heap) (k:=[⟨t,n,⟨i,u+1⟩⟩]) (bytes:=40) (z:=5) (by simp;omega) j4;have dn:=yI (n:=a.heap.length) (by omega);have s3:=iK (l:=a.wher) (i:=i) (by omega) (a.heap.length:Int);have s4:=ct (f:=cv) (l:=(gY a fr i u t n).heap);rw[q2.length_eq,aD,aK] at s4;have s5:=ct (f:=I1) (l:=(gY a fr i u t n).wher);rw[q3] at s5;refine an ⟨1001,?_⟩;unfold ab8;simp only[ay,jN,bm,phi (XV hsm),cAG0,cAG1,cAG2,fI,mK,EV,ai,ct,LL,phi (ag2 hs hf hu hm),j7,rR,pR,pHD,AK,bsE,Ur,ap,aD,aK,dn,rS,ixM (show i<a.wher.length by omega),s3]
 refine(zo (s:=me a.slots fr i u) (N:=1001) (H:=a.heap.length+1) (W:=a.wher.length) (by omega) (a.heap.length+1) a.heap.length 1001 _ _ (by omega) (by omega) (by omega) (by simp) (by simp) (λe he=>?_) hP').trans ?_
 .grind
 .unfold P9;have s4':RF.ev .sub [sl cv (upS (a.heap.length+1) (a.heap++[⟨t,n,⟨i,u+1⟩⟩]) (a.wher.set i (a.heap.length:Int)) a.heap.length).1,.v (.int .i64 0),.v (.int .i64 ((a.heap.length+1:Nat):Int))]=some (sl cv (gY a fr i u t n).heap):=s4;have s5':RF.ev .sub [sl I1 (upS (a.heap.length+1) (a.heap++[⟨t,n,⟨i,u+1⟩⟩]) (a.wher.set i (a.heap.length:Int)) a.heap.length).2.1,.v (.int .i64 0),.v (.int .i64 (a.wher.length:Int))]=some (sl I1 (gY a fr i u t n).wher):=s5;simp only[EV,pSL,s4',s5',AL];rfl
def eW (x:Evt):Nat->List Evt->List Int->Nat->List Evt×List Int×Nat
 |0,hp,wh,i=>(hp,wh,i)
 |n+1,hp,wh,i=>match hp[(i-1)/2]? with
  |some p=>if 0<i/\ evLess x p=true then eW x n (hp.set i p) (wh.set p.hnd.index.toNat (i:Int)) ((i-1)/2) else(hp,wh,i)
  |none=>(hp,wh,i)
def Cu {x:Evt}:∀(n:Nat) (hp:List Evt) (wh:List Int) (i:Nat),i<hp.length->
  upS n (hp.set i x) (wh.set x.hnd.index.toNat (i:Int)) i=((eW x n hp wh i).1.set (eW x n hp wh i).2.2 x,(eW x n hp wh i).2.1.set x.hnd.index.toNat ((eW x n hp wh i).2.2:Int),(eW x n hp wh i).2.2)
 |0,hp,wh,i,_=>rfl
 |n+1,hp,wh,i,hi=>by
  have hx:(hp.set i x)[i]?=some x:=bi hi;by_cases h0:0<i
  .obtain⟨p,hp'⟩:∃p,hp[(i-1)/2]?=some p:=⟨hp[(i-1)/2]'(by omega),ah _⟩;have hq:(hp.set i x)[(i-1)/2]?=some p:=by rw[bx (by omega)];exact hp'
   unfold upS eW;rw[hx,hq,hp'];simp only;by_cases hc:0<i/\ evLess x p=true
   .rw[ad hc,ad hc];have e1:kg (hp.set i x) i ((i-1)/2) x p=(hp.set i p).set ((i-1)/2) x:=by unfold kg;rw[l7]
    have e2:pi (wh.set x.hnd.index.toNat (i:Int)) i ((i-1)/2) x p=(wh.set p.hnd.index.toNat (i:Int)).set x.hnd.index.toNat (((i-1)/2:Nat):Int):=by
     unfold pi;by_cases e:x.hnd.index.toNat=p.hnd.index.toNat
     .simp[e]
     .rw[qK _ _ e,l7]
    rw[e1,e2];exact Cu n (hp.set i p) (wh.set p.hnd.index.toNat (i:Int)) ((i-1)/2) (by rw[a8];omega)
   .rw[ac hc,ac hc]
  .have:i=0:=by omega
   subst this;obtain⟨p,hp'⟩:∃p,hp[(0-1)/2]?=some p:=⟨hp[0]'hi,ah hi⟩;unfold upS eW;rw[show(0-1)/2=0 from rfl] at hp'|-
   rw[hx,hp'];simp
def FD {n d:Int}(hn:Sm n)(hd:Sm d)(h0:d≠0):rok (mkR n d)=true/\ aS (mkR n d):=by
 obtain⟨n1,n2⟩:=hn;obtain⟨d1,d2⟩:=hd;have hg:0<Nat.gcd n.natAbs d.natAbs:=gb _ (by omega);have l1:n.natAbs/Nat.gcd n.natAbs d.natAbs<=n.natAbs:=ig ..;have l2:d.natAbs/Nat.gcd n.natAbs d.natAbs<=d.natAbs:=ig ..;have l3:=Nat.div_pos (Nat.le_of_dvd (by omega) (Nat.gcd_dvd_right ..)) hg;have co:=Nat.coprime_div_gcd_div_gcd hg;have key:∀z:Int,z.natAbs=n.natAbs/Nat.gcd n.natAbs d.natAbs->rok ⟨z,((d.natAbs/Nat.gcd n.natAbs d.natAbs:Nat):Int)⟩=true/\ aS ⟨z,((d.natAbs/Nat.gcd n.natAbs d.natAbs:Nat):Int)⟩:=λz hz=>by
  refine⟨?_,⟨by simp only;omega,by simp only;omega⟩,by simp only;omega,by simp only;omega⟩;unfold rok
  grind
 unfold mkR
 grind
def rC {l:List Pt}{t:Rt}{x:Crt}(h:okF l)(ht:aS t)(hr:rok t=true)(h1:inF l x.low=true)(h2:inF l x.high=true)(hf:(cL t (ptOf l x.high) (ptOf l x.low)).2=true):
  rok (cL t (ptOf l x.high) (ptOf l x.low)).1=true/\ aS (cL t (ptOf l x.high) (ptOf l x.low)).1:=by
 obtain⟨i,p,a1,a2,a3,a4⟩:=d5 h h1;obtain⟨j,q,b1,b2,b3,b4⟩:=d5 h h2;have bp:=Pt.bnd (dC h a1);have bq:=Pt.bnd (dC h b1);rw[a4,b4] at hf|-;unfold cL at hf|-;split
 .grind
 .rename_i h3;split
  .exact FD ⟨by omega,by omega⟩ ⟨by omega,by omega⟩ (by omega)
  .grind
def rD {a:Agenda}(h:eV a){d:Due}{n:Int}{t:Rt}:pP a d n t↔d.number=n/\(⟨t,n,d.hnd⟩:Evt)∈a.heap:=by
 constructor
 .rintro⟨h1,h2,h3⟩;obtain⟨i,w,k,e,e1,e2,e3,e4,e5⟩:=Fb h h2;rw[e3] at e2;obtain⟨q1,q2⟩:=h3 i k e e1 e2 e4;refine⟨h1,?_⟩;obtain⟨et,en,eh⟩:=e;simp only at q1 q2 e5;rw[<-q1,<-q2,<-e5];exact au e4
 .rintro⟨h1,h2⟩;obtain⟨k,hk⟩:=aI.1 h2;obtain⟨j,u,e1,e2,e3,e4⟩:=(qf (okR_fine.1 h.1) h.2.1).at_ k _ hk;simp only at e1;refine⟨h1,⟨by rw[e1];simp only;omega,by rw[e1,aF];exact e2,by rw[e1,aF];exact e3⟩,λi m e g1 g2 g3=>?_⟩;rw[e1] at g1;simp only at g1;have:j=i:=by omega
  subst this;rw[e4] at g2;simp only[bX] at g2;have:k=m:=by omega
  subst this;rw[hk] at g3;cases g3;exact⟨rfl,rfl⟩
def zN {c c':Clock}(hn:c'.now=c.now)(hp:c'.pts=c.pts)(hD:∀d n t,pP c.agenda d n t->pP c'.agenda d n t){s:List Due}:∀(l:List Held) (left out:List Due),ey (dZ c) left l=some out->ey (dZ c') (left++s) l=some (out++s)
 |[],left,out,h=>by
  unfold ey at h|-;cases h;rfl
 |x::l,left,out,h=>by
  unfold ey at h|-;cases e:dZ c left x with
  |none=>rw[e] at h;cases h
  |some y=>
   rw[e] at h;have:dZ c' (left++s) x=some (y++s):=by
    unfold dZ at e|-;rw[hn,hp];by_cases h1:dW c.pts x=true
    .rw[ad h1] at e|-;by_cases h2:(cL c.now (ptOf c.pts x.cert.high) (ptOf c.pts x.cert.low)).2=true
     .rw[ad h2] at e|-;cases left with
      |nil=>cases e
      |cons d rest=>
       simp only[aQ] at e|-;by_cases h3:pP c.agenda d x.number (cL c.now (ptOf c.pts x.cert.high) (ptOf c.pts x.cert.low)).1
       .rw[ad h3] at e;rw[ad (hD _ _ _ h3)];cases e;rfl
       .rw[ac h3] at e;cases e
     .rw[ac h2] at e|-;cases e;rfl
    .rw[ac h1] at e;cases e
   rw[this];exact zN hn hp hD l y out h
def zO {α β:Type}{g:β->α->Option β}:∀{l k:List α} {x y:β},ey g x l=some y->ey g x (l++k)=ey g y k
 |[],k,x,y,h=>by unfold ey at h;cases h;rfl
 |a::l,k,x,y,h=>by
  have h:(match g x a with|some y=>ey g y l|none=>none)=some y:=h
  show(match g x a with|some y=>ey g y (l++k)|none=>none)=_
  cases e:g x a with
  |none=>rw[e] at h;cases h
  |some z=>rw[e] at h;exact zO h
def zP {c:Clock}(ha:eV c.agenda):∀(l:List Held) (left:List Due),ey (dZ c) left l=some []->(left.map (·.number)).Sublist (l.map (·.number))/\∀d∈left,∃t,(⟨t,d.number,d.hnd⟩:Evt)∈c.agenda.heap
 |[],left,h=>by unfold ey at h;cases h;exact⟨.slnil,by simp⟩
 |x::l,left,h=>by
  unfold ey at h;cases e:dZ c left x with
  |none=>rw[e] at h;cases h
  |some y=>
   rw[e] at h;obtain⟨r1,r2⟩:=zP ha l y h;unfold dZ at e;by_cases h1:dW c.pts x=true
   .rw[ad h1] at e;by_cases h2:(cL c.now (ptOf c.pts x.cert.high) (ptOf c.pts x.cert.low)).2=true
    .rw[ad h2] at e;cases left with
     |nil=>cases e
     |cons d rest=>
      simp only at e;by_cases h3:pP c.agenda d x.number (cL c.now (ptOf c.pts x.cert.high) (ptOf c.pts x.cert.low)).1
      .rw[ad h3] at e;cases e;have h3:=(rD ha).1 h3;refine⟨?_,λd' hd=>?_⟩
       .rw[bH,bH,h3.1];exact .cons_cons _ r1
       .rcases bf.1 hd with rfl|hd
        .exact⟨_,by rw[h3.1];exact h3.2⟩
        .exact r2 d' hd
      .rw[ac h3] at e;cases e
    .rw[ac h2] at e;cases e;exact⟨.cons _ r1,r2⟩
   .rw[ac h1] at e;cases e
def Cv {c:Certs}(h:dB c):∀(j i:Nat) (x y:Held),i<j->c.list[i]?=some x->c.list[j]?=some y->x.number<y.number
 |0,i,x,y,hij,hx,hy=>by omega
 |j+1,i,x,y,hij,hx,hy=>by
  have q:=(h.2.2.2 (j+1) y hy).2.2.2.1;have hj:=bo hy;obtain⟨z,hz⟩:∃z,c.list[j]?=some z:=⟨c.list[j]'(by omega),ah _⟩;have q:=q z (by omega) (by simpa using hz)
  by_cases e:i=j
  .subst e;rw[hx] at hz;cases hz;exact q
  .have:=Cv h j i x z (by omega) hx hz;omega
def AM {c:Certs}(h:dB c):(c.list.map (·.number)).Nodup:=by
 rw[List.Nodup,gh,dP];intro i j hi hj hij e;have:=Cv h j i _ _ hij (ah hi) (ah hj);omega
def tu {c:Clock}(h:bC c):(c.due.map (·.number)).Perm (c.agenda.heap.map (·.number))/\(c.due.map (·.number)).Sublist (c.certs.list.map (·.number)):=by
 obtain⟨_,_,h3,h4,_,h6,h7⟩:=h;obtain⟨r1,r2⟩:=zP h4 _ _ h7;refine⟨lV (r1.nodup (AM h3)) (λn hn=>?_) (by simp;omega),r1⟩
 grind
def sa {c:Clock}(h:bC c):c.certs.next∉c.agenda.heap.map (·.number):=λhm=>by
 obtain⟨p,s⟩:=tu h;have:=s.subset (p.mem_iff.2 hm);obtain⟨x,hx,hn⟩:=bb.1 this;obtain⟨i,hi⟩:=aI.1 hx;have:=(h.2.2.1.2.2.2 i x hi).2.2.1;omega
def fT (c:Clock)(x:Crt):Rt×Bool:=cL c.now (ptOf c.pts x.high) (ptOf c.pts x.low)
def oo (c:Clock)(x:Crt):Clock:=⟨c.now,c.pts,lK c.certs x,c.agenda,c.due⟩
def m8 (c:Clock)(x:Crt)(fr:List Int)(i:Nat)(u:Int):Clock:=⟨c.now,c.pts,lK c.certs x,gY c.agenda fr i u (fT c x).1 c.certs.next,c.due++[⟨c.certs.next,⟨i,u+1⟩⟩]⟩
structure CAdd (c:Clock)(x:Crt):Prop where
 ok:bC c
 cok:x.ok
 new:∀g∈c.certs.list,g.cert≠x
 room:c.certs.list.length<200
 next:c.certs.next<1000000
 low:inF c.pts x.low=true
 high:inF c.pts x.high=true
def FE {c:Clock}{x:Crt}(h:CAdd c x)(hf:(fT c x).2=false):bC (oo c x):=by
 obtain⟨⟨h1,h2,h3,h4,h5,h6,h7⟩,hx,hn,hr,hl,k1,k2⟩:=h;refine⟨h1,h2,NF h3 hx hn hr hl,h4,h5,h6,?_⟩;have:=zN (c:=c) (c':=oo c x) rfl rfl (λ_ _ _ h=>h) (s:=[]) _ _ _ h7;rw[aZ] at this;refine(zO this).trans ?_;have:dZ (oo c x) ([]++[]) ⟨c.certs.next,x⟩=some []:=by
  unfold dZ;have hk:dW (oo c x).pts ⟨c.certs.next,x⟩=true:=by unfold dW oo;simp only;rw[k1,k2];rfl
  rw[ad hk,ac (by unfold fT at hf;exact mQ.1 hf)];rfl
 unfold ey;rw[this];rfl
def FF {c:Clock}{x:Crt}(h:CAdd c x)(h64:aS c.now){fr:List Int}{i:Nat}{u:Int}(he:c.agenda.slots.free=fr++[(i:Int)])(hu:c.agenda.slots.uses[i]?=some u)(hm:u<1000000)(hf:(fT c x).2=true):bC (m8 c x fr i u):=by
 have hnew:=sa h.ok;obtain⟨⟨h1,h2,h3,h4,h5,h6,h7⟩,hx,hn,hr,hl,k1,k2⟩:=h;obtain⟨f1,f2⟩:=rC h2 h64 h1 k1 k2 hf;have n0:=h3.2.1;obtain⟨p1,p2,p3⟩:=yJ h4 he hu hm (t:=(fT c x).1) (n:=c.certs.next) ⟨f1,n0,by omega⟩ hnew;refine⟨h1,h2,NF h3 hx hn hr hl,p1,p3.trans h5,?_,?_⟩
 .have:=p2.length_eq;rw[aD,aK] at this;unfold m8
  grind
 .have:=zN (c:=c) (c':=m8 c x fr i u) rfl rfl (λd n t hd=>by
   refine(rD p1).2 ?_;obtain⟨d1,d2⟩:=(rD h4).1 hd;exact⟨d1,p2.mem_iff.2 (db _ d2)⟩) (s:=[⟨c.certs.next,⟨i,u+1⟩⟩]) _ _ _ h7
  refine(zO this).trans ?_;have:dZ (m8 c x fr i u) ([]++[⟨c.certs.next,⟨i,u+1⟩⟩]) ⟨c.certs.next,x⟩=some []:=by
   unfold dZ;have hk:dW (m8 c x fr i u).pts ⟨c.certs.next,x⟩=true:=by unfold dW m8;simp only;rw[k1,k2];rfl
   rw[ad hk,ad (by unfold fT at hf;exact hf)];simp only[aM];rw[ad];refine(rD p1).2 ⟨rfl,p2.mem_iff.2 ?_⟩;simp only[bR,cd];exact .inr rfl
  unfold ey;rw[this];rfl
def newC (l:List Pt)(t:Rt):Clock:=⟨t,l,⟨0,[]⟩,rY 200,[]⟩
def X7 (a:Agenda):RF.ev (.part 0 5) [AG a]=some (AG a):=rfl
def X8 (l:List Pt)(t:Rt):RF.ev .agg [R t,sl row l,.v (.int .i64 0),.sl [],AG (rY 200),.sl []]=some (CL (newC l t)):=rfl
def LP {l:List Pt}{t:Rt}(h:okF l)(ht:aS t)(hr:rok t=true):Ans D 167 [F l,R t] [CL (newC l t),.i64 0]:=by
 have h1:=phi (tR l);rw[eE.2 h] at h1;have h2:=phi (c43 ht);rw[hr] at h2;have e0:okE true=0:=rfl;rw[e0] at h2;have c2:=phi (ag7 (n:=200) (by omega) (by omega));have c2:bK D 258 [.v (.int .i64 200)]=some [AG (rY 200),.i64 0]:=c2;refine am ?_;unfold Sr;simp[bv,bm,h1,h2,EV,c2,jN,cq,phi (d67 (l:=l) (by have:=h.1;omega)),pR,X7,ct,X8]
def pT {c:Clock}(h:bC c):CSm c:=by
 obtain⟨_,h2,h3,h4,_,h6,_⟩:=h;have ha:=Es h4;exact⟨by have:=h2.1;omega,by have:=h3.1;omega,ha,by have:=ha.heap;omega⟩
def uC {a:Agenda}(h:eV a):gAg a=false:=by
 have hs:=okR_fine.1 h.1;have:=hs.n2;have:=h.2.1.2.1;have:=h.2.1.1;unfold gAg;rw[vV hs]
 grind
structure Fresh (c:Clock):Prop where
 ok:bC c
 now64:aS c.now
 ev64:∀e∈c.agenda.heap,aS e.time
 heap:c.agenda.heap.length<=c.certs.list.length
 next:c.certs.next=c.certs.list.length
 uses:∀i:Nat,(i:Int)∈c.agenda.slots.free->c.agenda.slots.uses[i]?=some 0
def frL (c:Clock):List Int:=c.agenda.slots.free.dropLast
def frI (c:Clock):Nat:=((c.agenda.slots.free.getLast?).getD 0).toNat
def f7 (c:Clock)(x:Crt):Clock:=if(fT c x).2=true then m8 c x (frL c) (frI c) 0 else oo c x
def AN {c:Clock}(h:Fresh c)(hr:c.certs.list.length<200):c.agenda.slots.free=frL c++[(frI c:Int)]/\ c.agenda.slots.uses[frI c]?=some 0:=by
 have hs:=okR_fine.1 h.ok.2.2.2.1.1;have hl:=h.ok.2.2.2.1.2.1.2.1;have hw:=h.ok.2.2.2.1.2.1.1;have hw':=h.ok.2.2.2.2.1;have hh:=h.heap;rcases free_last hs with e|⟨fr,i,u,e,hu,h1,h2⟩
 .grind
 .have e1:frL c=fr:=by unfold frL;rw[e];simp
  have e2:frI c=i:=by unfold frI;rw[e];simp
  rw[e1,e2];exact⟨e,h.uses i (by rw[e];simp)⟩
def LQ {c:Clock}{x:Crt}(h:Fresh c)(ha:CAdd c x):Fresh (f7 c x)/\(f7 c x).certs=lK c.certs x/\(f7 c x).pts=c.pts/\(f7 c x).now=c.now:=by
 obtain⟨e1,e2⟩:=AN h ha.room;have hnx:=h.next;unfold f7;split
 .rename_i hf;have hrk:=ha.ok.1;have hok:=FF ha h.now64 e1 e2 (by omega) hf;obtain⟨f1,f2⟩:=rC ha.ok.2.1 h.now64 hrk ha.low ha.high hf;obtain⟨p1,p2,p3⟩:=yJ ha.ok.2.2.2.1 e1 e2 (by omega) (t:=(fT c x).1) (n:=c.certs.next) ⟨f1,ha.ok.2.2.1.2.1,by have:=ha.next;omega⟩ (sa ha.ok);refine⟨⟨hok,h.now64,λe he=>?_,?_,?_,λj hj=>?_⟩,rfl,rfl,rfl⟩
  .rcases bR.1 (p2.mem_iff.1 he) with h1|h1
   .exact h.ev64 e h1
   .rw[cd] at h1;subst h1;exact f2
  .have q:=p2.length_eq;rw[aD,aK] at q;have:=h.heap;unfold m8 lK
   grind
  .unfold m8 lK
   grind
  .have hj':(j:Int)∈frL c:=hj;have hnd:=(okR_fine.1 ha.ok.2.2.2.1.1).nd;rw[e1,eU] at hnd;have hne:frI c≠j:=λq=>hnd.2.2 _ hj' (frI c:Int) (by simp) (by omega);show(c.agenda.slots.uses.set (frI c) (0+1))[j]?=some 0
   rw[bx hne];exact h.uses j (by rw[e1];simp[hj'])
 .rename_i hf;have hf:=mQ.2 hf;refine⟨⟨FE ha hf,h.now64,h.ev64,?_,?_,h.uses⟩,rfl,rfl,rfl⟩
  .have:=h.heap;unfold oo lK;simp only[aD,aK];omega
  .unfold oo lK;simp only[aD,aK];omega
def newA_ok {n:Nat}(h1:1<=n)(h2:n<=200):eV (rY n):=by
 have hs:=Dv (n:=n) h1 h2;refine⟨okR_fine.2 hs,⟨by unfold rY vW;simp,by unfold rY vW;simp[ji],λi b w u hb hw hu=>?_⟩,by simp[rY],by simp[rY],λi e p he=>?_⟩
 .unfold rY vW at hb hw
  grind
 .unfold rY at he;simp at he
def AO {l:List Pt}{t:Rt}(hl:okF l)(ht:aS t)(hr:rok t=true):Fresh (newC l t):=by
 refine⟨⟨hr,hl,⟨c6 _,qa _,(by decide:(0:Int)<=1000000),λi h hi=>by cases i<;>cases hi⟩,newA_ok (n:=200) (by omega) (by omega),aR,rfl,rfl⟩,ht,(λe he=>by cases he),aB _,rfl,λi hi=>?_⟩;have:=(Dv (n:=200) (by omega) (by omega)).rng _ hi;simp only[vW] at this;show(List.replicate 200 (0:Int))[i]?=some 0
 grind
structure EdgOk (l:List Pt)(es:List Crt):Prop where
 nd:es.Nodup
 len:es.length<200
 ok:∀x∈es,x.ok
 low:∀x∈es,inF l x.low=true
 high:∀x∈es,inF l x.high=true
def certAll (c:Clock)(es:List Crt):Clock:=es.foldl f7 c
structure AtK (l:List Pt)(t:Rt)(es:List Crt)(k:Nat)(c:Clock):Prop where
 fresh:Fresh c
 certs:c.certs.list.map (·.cert)=es.take k
 pts:c.pts=l
 now:c.now=t
def J8 {l:List Pt}{t:Rt}{es:List Crt}(hE:EdgOk l es){k:Nat}{c:Clock}(h:AtK l t es k c){x:Crt}(hx:es[k]?=some x):CAdd c x/\(∀g∈c.certs.list,g.cert≠x):=by
 have hm:=au hx;have hk:=bo hx;have hlen:c.certs.list.length=k:=by
  have:=aW List.length h.certs
  grind
 have hE':=hE.len;have hnew:∀g∈c.certs.list,g.cert≠x:=λg hg e=>by
  have h1:g.cert∈es.take k:=by rw[<-h.certs];exact bb.2 ⟨g,hg,rfl⟩
  rw[e] at h1;obtain⟨i,hi⟩:=aI.1 h1;have hik:i<k:=by have:=bo hi;rw[aP] at this;omega
  rw[cH hik] at hi;have:=dr.1 hE.nd i k x hi hx;omega
 refine⟨⟨h.fresh.ok,hE.ok x hm,hnew,by omega,by have:=h.fresh.next;omega,by rw[h.pts];exact hE.low x hm,by rw[h.pts];exact hE.high x hm⟩,hnew⟩
def R6 {l:List Pt}{t:Rt}{es:List Crt}(hE:EdgOk l es){k:Nat}{c:Clock}(h:AtK l t es k c){x:Crt}(hx:es[k]?=some x):AtK l t es (k+1) (f7 c x):=by
 obtain⟨f1,f2,f3,f4⟩:=LQ h.fresh (J8 hE h hx).1;refine⟨f1,?_,f3.trans h.pts,f4.trans h.now⟩;rw[f2];unfold lK;rw[dT,h.certs,cG,hx];rfl
def yK {l:List Pt}{t:Rt}{es:List Crt}(hE:EdgOk l es)(hl:okF l)(ht:aS t)(hr:rok t=true):∀k,k<=es.length->AtK l t es k (certAll (newC l t) (es.take k))
 |0,_=>⟨AO hl ht hr,rfl,rfl,rfl⟩
 |k+1,hk=>by
  have hx:es[k]?=some es[k]:=ah _;have:=R6 hE (yK hE hl ht hr k (by omega)) hx;have e:es.take (k+1)=es.take k++[es[k]]:=by rw[cG,hx];rfl
  unfold certAll at this|-;rw[e,qN];exact this
def FG (e:Evt):RF.ev (.cell 3) [EP e]=some (.i64 e.hnd.index):=rfl
structure GoodE (W:Nat)(e:Evt):Prop where
 t64:aS e.time
 rok:rok e.time=true
 ix:∃j:Nat,e.hnd.index=(j:Int)/\ j<W
def Dw {N:Nat}{f0:JT}{t:Rt}{n:Int}{h:Hnd}{e0 e1 e3 e5 e6 e7 e8 e9 e10 e11 e12 e13 e14 e15 e16 e17 e18 e20 e21 e22 e23 e24 e25 e27 e28 e29 e30 e31 e32 e34:PV}{H W:Nat}(hH:H<=1000)(ht:aS t)(rt:rok t=true):∀(r i m:Nat) (hp:List Evt) (wh:List Int),i<=r->r<m->i<H->hp.length=H->wh.length=W->(∀x∈hp,GoodE W x)->
  dY (bK D) N uI [f0] [e0,e1,.i64 n,e3,R t,e5,e6,e7,e8,e9,e10,e11,e12,e13,e14,e15,e16,e17,e18,HD h,e20,e21,e22,e23,e24,e25,.i64 (W:Int),e27,e28,e29,e30,e31,e32,.i64 (H:Int),e34] m [.i64 (i:Int),sl cv hp,sl I1 wh]=f0 [sl cv (eW ⟨t,n,h⟩ r hp wh i).1,sl I1 (eW ⟨t,n,h⟩ r hp wh i).2.1,.i64 ((eW ⟨t,n,h⟩ r hp wh i).2.2:Int)]
 |0,i,m,hp,wh,hi,hm,hiH,hl,hw,hg=>by
  obtain⟨m,rfl⟩:∃m',m=m'+1:=⟨m-1,by omega⟩;have:i=0:=by omega
  subst this;rw[bB];unfold uI eW;simp only[EV,aa];rw[ac (by omega)]
 |r+1,i,m,hp,wh,hi,hm,hiH,hl,hw,hg=>by
  obtain⟨m,rfl⟩:∃m',m=m'+1:=⟨m-1,by omega⟩;obtain⟨p,hp'⟩:∃p,hp[(i-1)/2]?=some p:=⟨hp[(i-1)/2]'(by omega),ah _⟩;have E:eW ⟨t,n,h⟩ (r+1) hp wh i=if 0<i/\ evLess ⟨t,n,h⟩ p=true then eW ⟨t,n,h⟩ r (hp.set i p) (wh.set p.hnd.index.toNat (i:Int)) ((i-1)/2) else(hp,wh,i):=by rw[eW,hp']
  rw[E,bB];by_cases h0:0<i
  rotate_left
  .rw[ac (λh=>h0 h.1)];unfold uI;simp only[EV,aa];rw[ac (by omega)]
  .obtain⟨p64,prk,jp,pj,pW⟩:=hg p (au hp');have ih:=Dw (N:=N) (f0:=f0) (t:=t) (n:=n) (h:=h) (e0:=e0) (e1:=e1) (e3:=e3) (e5:=e5) (e6:=e6) (e7:=e7) (e8:=e8) (e9:=e9) (e10:=e10) (e11:=e11) (e12:=e12) (e13:=e13) (e14:=e14) (e15:=e15) (e16:=e16) (e17:=e17) (e18:=e18) (e20:=e20) (e21:=e21) (e22:=e22) (e23:=e23) (e24:=e24) (e25:=e25) (e27:=e27) (e28:=e28) (e29:=e29) (e30:=e30) (e31:=e31) (e32:=e32) (e34:=e34) (H:=H) (W:=W) hH ht rt r ((i-1)/2) m (hp.set i p) (wh.set p.hnd.index.toNat (i:Int)) (by omega) (by omega) (by omega) (by rw[a8];exact hl) (by rw[a8];exact hw) (λx hx=>by
    rcases dw hx with h1|h1
    .exact hg x h1
    .rw[h1];exact⟨p64,prk,jp,pj,pW⟩)
   have cm:=phi (zK (x:=⟨t,n,h⟩) (y:=p) ht p64 rt prk);have q2:=LO h0 (by omega);have s1:=AJ (l:=hp) (i:=i) (by omega) p;have s3:=iK (l:=wh) (i:=jp) (by omega) (i:Int);generalize hkk:uI=kk at ih;subst hkk;unfold uI;simp[EV];rw[ad (by omega)];simp only[EV,q2,ixM (show(i-1)/2<H by omega),aN hp',iY,ay,pR,pHD,AK,cm,aa,pf]
   by_cases hc:evLess ⟨t,n,h⟩ p=true
   .rw[ad hc,ad ⟨h0,hc⟩];simp only[EV,mq,q2,ixM hiH,ixM (show(i-1)/2<H by omega),aN hp',iY,ay,iv,s1,FG,pj,ixM pW,s3]
    rw[pj,aF] at ih;exact ih
   .rw[ac hc,ac (λq=>hc q.2)]
def J9 {x y:Evt}(h:evLess x y=false):¬zJ x y<0:=λc=>by
 rw[(pf x y).1 c] at h;cases h
def NI {N:Nat}{f0:JT}{t:Rt}{n:Int}{h:Hnd}{e0 e1 e3 e5 e6 e7 e8 e9 e10 e11 e12 e13 e14 e15 e16 e17 e18 e20 e21 e22 e23 e24 e25 e27 e28 e29 e30 e31 e32 e34 e35 e36 e37 e38 e39 e26:PV}{H i m:Nat}{hp:List Evt}{w:PV}(hH:H<=1000)(ht:aS t)(rt:rok t=true)(hm:0<m)(hi:i<H)(hl:hp.length=H)
  (hg:∀k e,k≠i->hp[k]?=some e->aS e.time/\ rok e.time=true) (ho:∀k e,(k=2*i+1\/k=2*i+2)->hp[k]?=some e->evLess e ⟨t,n,h⟩=false):
  dY (bK D) N HV [f0] [e0,e1,.i64 n,e3,R t,e5,e6,e7,e8,e9,e10,e11,e12,e13,e14,e15,e16,e17,e18,HD h,e20,e21,e22,e23,e24,e25,e26,e27,e28,e29,e30,e31,e32,.i64 (H:Int),e34,e35,e36,e37,e38,e39] m [.i64 (i:Int),sl cv hp,w,.i64 ((2*i+1:Nat):Int)]=f0 [sl cv hp,w,.i64 (i:Int)]:=by
 obtain⟨m,rfl⟩:∃m',m=m'+1:=⟨m-1,by omega⟩;rw[bB];have sh:∀e:Evt,RF.ev (.shape 5) [EP e]=some (EP e):=λ_=>rfl;have fin:∀(k:Nat) (self:JT) (a b c d d':PV),(k=2*i+1\/k=2*i+2)->k<H->den (bK D) N HS [f0,self] [e0,e1,.i64 n,e3,R t,e5,e6,e7,e8,e9,e10,e11,e12,e13,e14,e15,e16,e17,e18,HD h,e20,e21,e22,e23,e24,e25,e26,e27,e28,e29,e30,e31,e32,.i64 (H:Int),e34,e35,e36,e37,e38,e39,.i64 (i:Int),sl cv hp,w,a,b,c,d,d',.i64 (k:Int)]=f0 [sl cv hp,w,.i64 (i:Int)]:=λk self a b c d d' hk hkH=>by
  obtain⟨e,he⟩:∃e,hp[k]?=some e:=⟨hp[k]'(by omega),ah _⟩;obtain⟨g1,g2⟩:=hg k e (by omega) he;have cm:=phi (zK (x:=e) (y:=⟨t,n,h⟩) g1 ht g2 rt);unfold HS;simp only[EV,ixM hkH,aN he,iY,ay,pR,pHD,AK,cm,aa,bA];rw[ad (by have:=J9 (ho k e hk he);omega)]
 unfold HV;simp only[EV,aa];by_cases h1:2*i+1<H
 .rw[ad (by omega)];simp only[EV,aa,up1 (show 2*i+1<1000000000 by omega)]
  by_cases h2:2*i+2<H
  .rw[ad (by omega)];obtain⟨e,he⟩:∃e,hp[2*i+1]?=some e:=⟨hp[2*i+1]'(by omega),ah _⟩;obtain⟨g,hg'⟩:∃e,hp[2*i+1+1]?=some e:=⟨hp[2*i+1+1]'(by omega),ah _⟩;obtain⟨a1,a2⟩:=hg _ e (by omega) he;obtain⟨b1,b2⟩:=hg _ g (by omega) hg';have cm:=phi (zK (x:=g) (y:=e) b1 a1 b2 a2);simp only[EV,up1 (show 2*i+1<1000000000 by omega),ixM h1,ixM (show 2*i+1+1<H by omega),aN he,aN hg',iY,ay,cm]
   unfold HU;simp only[EV,aa,up1 (show 2*i+1<1000000000 by omega)]
   by_cases hc:zJ g e<0
   .rw[ad hc];exact fin _ _ _ _ _ _ _ (.inr rfl) (by omega)
   .rw[ac hc];exact fin _ _ _ _ _ _ _ (.inl rfl) (by omega)
  .rw[ac (by omega)];unfold HU;simp only[EV,aw,ax];exact fin _ _ _ _ _ _ _ (.inl rfl) (by omega)
 .rw[ac (by omega)]
def aha {a:Agenda}(h:eV a){fr:List Int}{i:Nat}{u:Int}(hf:a.slots.free=fr++[(i:Int)])(hu:a.slots.uses[i]?=some u)(hm:u<1000000){t:Rt}{n:Int}(hx:rok t=true/\ 0<=n/\ n<=1000000)(hn:n∉a.heap.map (·.number))(ht:aS t)(h64:∀e∈a.heap,aS e.time):
  Ans D 349 [AG a,R t,.i64 n] [AG (gY a fr i u t n),HD ⟨i,u+1⟩,.i64 0]:=by
 classical
 have hs:=okR_fine.1 h.1;have hP:=qf hs h.2.1;have hsm:=Es h;have n2:=hs.n2;have hl:=h.2.1.2.1;have hw:=h.2.1.1;have hi:=bo hu;obtain⟨hOk,q2,q3⟩:=yJ h hf hu hm hx hn;have hOrd:=xy hOk;have m1:=phi (Fe (uC h) h64);rw[aq h] at m1;have m2:=phi (c43 ht);rw[hx.1] at m2;have e0:okE true=0:=rfl;rw[e0] at m1 m2;have mm:RF.ev (.mm true) [.v (.int .i64 0),.v (.int .i64 0)]=some (.v (.int .i64 0)):=rfl;have ap:=gt (f:=cv) (l:=a.heap) (k:=[⟨t,n,⟨i,u+1⟩⟩]) (bytes:=40) (z:=5) (by simp;omega) j4;have dn:=yI (n:=a.heap.length) (by omega);have good:∀x∈a.heap++[(⟨t,n,⟨i,u+1⟩⟩:Evt)],GoodE a.wher.length x:=λx hx'=>by
  rcases bR.1 hx' with h1|h1
  .obtain⟨k,hk⟩:=aI.1 h1;obtain⟨j,v,g1,_,_,g4⟩:=hP.at_ k x hk;exact⟨h64 x h1,(h.2.2.1 x h1).1,j,by rw[g1],bo g4⟩
  .rw[cd] at h1;subst h1;exact⟨ht,hx.1,i,rfl,by omega⟩
 have up:=Cu (x:=⟨t,n,⟨i,u+1⟩⟩) (a.heap.length+1) (a.heap++[⟨t,n,⟨i,u+1⟩⟩]) a.wher a.heap.length (by simp);have e1:(a.heap++[(⟨t,n,⟨i,u+1⟩⟩:Evt)]).set a.heap.length ⟨t,n,⟨i,u+1⟩⟩=a.heap++[⟨t,n,⟨i,u+1⟩⟩]:=by simp
 rw[e1] at up;simp only[aF] at up;obtain⟨hpF,whF,jF,hF⟩:∃hpF whF jF,eW ⟨t,n,⟨i,u+1⟩⟩ (a.heap.length+1) (a.heap++[⟨t,n,⟨i,u+1⟩⟩]) a.wher a.heap.length=(hpF,whF,jF):=⟨_,_,_,rfl⟩;rw[hF] at up;simp only at up;have pH:(gY a fr i u t n).heap=hpF.set jF ⟨t,n,⟨i,u+1⟩⟩:=by unfold gY;rw[up]
 have pW:(gY a fr i u t n).wher=whF.set i (jF:Int):=by unfold gY;rw[up]
 have pS:(gY a fr i u t n).slots=me a.slots fr i u:=rfl;have lH:hpF.length=a.heap.length+1:=by
  have:=q2.length_eq;rw[pH,a8,aD,aK] at this;exact this
 have lW:whF.length=a.wher.length:=by rw[pW,a8] at q3;exact q3
 have hjF:jF<=a.heap.length:=by
  have q:=(AI (s:=me a.slots fr i u) (a.heap.length+1) (a.heap++[⟨t,n,⟨i,u+1⟩⟩]) (a.wher.set i (a.heap.length:Int)) a.heap.length (by omega) (by simp) (λx hx'=>(good x hx').rok) ⟨λc e p c0 cn he hp=>by
   have h1:=bo he;rw[aD,aK] at h1;rw[aG (by omega)] at he hp;exact xy h c e p c0 he hp,λc e p _ c0 hc he _=>by
   have h1:=bo he;rw[aD,aK] at h1;omega⟩ (zM hs hP hf hu rfl)).2.2.2.2
  rw[up] at q;exact q
 have child:∀k e,k≠jF->hpF[k]?=some e->(gY a fr i u t n).heap[k]?=some e:=λk e hk he=>by rw[pH,bx (λq=>hk q.symm)];exact he
 have s4:=ct (f:=cv) (l:=(gY a fr i u t n).heap);rw[q2.length_eq,aD,aK] at s4;have s5:=ct (f:=I1) (l:=(gY a fr i u t n).wher);rw[q3] at s5;have s1:=AJ (l:=hpF) (i:=jF) (by omega) ⟨t,n,⟨i,u+1⟩⟩;rw[<-pH] at s1;have s3:=iK (l:=whF) (i:=i) (by omega) (jF:Int);rw[<-pW] at s3;refine an ⟨1001,?_⟩;unfold Sy;simp only[ay,jN,bm,m1,m2,mm,fI,EV,ai,aA,aJ,aw,ax,aa,cx];rw[ac (by omega),ac (by omega)];refine(cD (m:=1001) (l:=a.heap) (p:=λg=>!decide (g.number=n)) (st:=λi=>[.i64 (i:Int)]) (r:=none) (fin:=some [AG (gY a fr i u t n),HD ⟨i,u+1⟩,.i64 0]) (λk g self hg hall=>?_) (λhall self=>?_) (by omega)).trans ?_
 .have hne:¬g.number=n:=λe=>hn (bb.2 ⟨g,au hg,e⟩);unfold uJ;simp only[ay,fI,aX hg (j4 _),aN hg,iY,vO,EV,aa,bh (aL hg),up1 (show k<1000000000 by have:=aL hg;omega),hne,aY,bY,aw,az,ax]
 .unfold uJ;simp only[EV,aa,bP];unfold HW;have g0:decide ((-1:Int)>=0)=false:=rfl;simp only[EV,g0,aw,ax,ay,pAG,phi (ag3 hs hf hu hm),j7,rR,aA,aJ,phi (XW hsm),jN,fI,mK,pR,pHD,AK,bsE,Ur,ai,ap,aD,aK,dn];refine(Dw (N:=1001) (n:=n) (h:=⟨i,u+1⟩) (H:=a.heap.length+1) (W:=a.wher.length) (by omega) ht hx.1 (a.heap.length+1) a.heap.length 1001 _ _ (by omega) (by omega) (by omega) (by simp) rfl good).trans ?_;rw[hF];unfold P8;have w1:IntKind.i64.wrap (2*(jF:Int))=((2*jF:Nat):Int):=by rw[cM (by omega) (by omega)];omega
  simp only[EV,w1,up1 (show 2*jF<1000000000 by omega)]
  refine(NI (N:=1001) (H:=a.heap.length+1) (by omega) ht hx.1 (by omega) (by omega) lH (λk e hk he=>?_) (λk e hk he=>?_)).trans ?_
  .have he':=child k e hk he;have:=good e (q2.mem_iff.1 (au he'));exact⟨this.t64,this.rok⟩
  .have he':=child k e (by omega) he;refine hOrd k e _ (by omega) he' ?_;rw[pH,show(k-1)/2=jF by omega,bi (by omega)]
  .unfold P7;simp only[EV,ay,ixM (show jF<a.heap.length+1 by omega),pR,pHD,AK,s1,rS,ixM (show i<a.wher.length by omega),s3,pSL,s4,s5,AL]
   rfl
 .rw[ad (by rw[aU];intro g hg;simpa usingλe=>hn (bb.2 ⟨g,hg,e⟩))]
def yL {c:Clock}(h:bC c):gW c:=by
 have hc:=pT h;exact⟨hc.certs,hc.due,hc.pts,uC h.2.2.2.1⟩
def Us (n:Int)(h:Hnd):RF.ev .agg [.i64 n,HD h]=some (DP ⟨n,h⟩):=rfl
def X9 (d:Due):RF.ev (.bs 1 [KP.z,KP.z,KP.z] [0]) [DP d]=some (sl cW [d]):=rfl
def Ut (d:Due):RF.ev .sub [sl cW [d],.v (.int .i64 0),.v (.int .i64 1)]=some (sl cW [d]):=rfl
def Uu {c:Clock}{d:Due}(h:c.due.length<=1000):RF.ev (.app 24 3) [sl cW c.due,.v (.int .i64 (c.due.length:Int)),sl cW [d]]=some (sl cW (c.due++[d])):=
 gt (f:=cW) (l:=c.due) (k:=[d]) (bytes:=24) (z:=3) (by simp;omega) vI
def NJ (c:Clock)(d:Due):RF.ev .sub [sl cW (c.due++[d]),.v (.int .i64 0),.v (.int .i64 ((c.due++[d]).length:Int))]=some (sl cW (c.due++[d])):=ct
def LR (c:Clock):RF.ev (.part 0 3) [CL c]=some (.agg [.i64 c.now.num,.i64 c.now.den,sl row c.pts]):=rfl
def Ya (c:Certs):RF.ev (.part 0 2) [CS c]=some (CS c):=rfl
def adZ (c:Clock):RF.ev (.part 5 3) [CL c]=some (SL c.agenda.slots):=rfl
def Et (r:Rt)(p:List Pt)(cs:Certs)(s:Slots)(h:List Evt)(w:List Int)(d:List Due):RF.ev .agg [.agg [.i64 r.num,.i64 r.den,sl row p],CS cs,sl I1 s.uses,sl B1 s.used,sl I1 s.free,sl cv h,sl I1 w,sl cW d]=some (CL ⟨r,p,cs,⟨s,h,w⟩,d⟩):=rfl
def NK (r:Rt)(p:List Pt)(cs:Certs)(s:Slots)(h:List Evt)(w:List Int)(d:List Due):RF.ev .agg [.i64 r.num,.i64 r.den,sl row p,.i64 cs.next,sl hrow cs.list,sl I1 s.uses,sl B1 s.used,sl I1 s.free,sl cv h,sl I1 w,sl cW d]=some (CL ⟨r,p,cs,⟨s,h,w⟩,d⟩):=rfl
def Ka {l:List Pt}{t:Rt}(h:okF l)(hr:rok t=true){x:Crt}(hx:x.ok)(h1:inF l x.low=true)(h2:inF l x.high=true):kO (ptOf l x.high) (ptOf l x.low) t=0:=
 (AC (c:=⟨t,l,⟨0,[]⟩,⟨⟨[],[],[]⟩,[],[]⟩,[]⟩) h hr (x:=⟨0,x⟩) hx).2 (by unfold dW;simp only;rw[h1,h2];rfl)
def vZ {l:List Pt}(h:okF l){id:Int}(hi:inF l id=true):¬(ptOf l id).id<0:=by
 obtain⟨i,p,h1,h2,h3,h4⟩:=d5 h hi;rw[h4];have:=md h p (au h1);omega
def Cw (p:Pt):RF.ev (.cell 0) [PP p]=some (.i64 p.id):=rfl
open Classical in
def Yb {c:Clock}{x:Crt}(h:CAdd c x)(h64:fJ c):((fT c x).2=false->Ans D 263 [CL c,CP x] [CL (oo c x),.i64 c.certs.next,.i64 0])/\
  ∀{fr:List Int} {i:Nat} {u:Int},(fT c x).2=true->c.agenda.slots.free=fr++[(i:Int)]->c.agenda.slots.uses[i]?=some u->u<1000000->Ans D 263 [CL c,CP x] [CL (m8 c x fr i u),.i64 c.certs.next,.i64 0]:=by
 have hc:=pT h.ok;have m1:=phi (vQ h64 (yL h.ok));rw[aq h.ok,show okE true=0 from rfl] at m1
 have hF:=h.ok.2.1;have m2:=phi (X6 h.ok.2.2.1 h.cok h.new h.room h.next);have m3:=phi (RK (x:=x) hF h64.1);rw[ad (Ka hF h.ok.1 h.cok h.low h.high)] at m3;have n8:decide ((0:Int)=8)=false:=rfl;have s0:=ct (f:=cW) (l:=c.due);have p1:=vZ hF h.low;have p2:=vZ hF h.high;constructor
 .intro hf;have hf':(cL c.now (ptOf c.pts x.high) (ptOf c.pts x.low)).2=false:=hf;rw[hf'] at m3;refine am ?_;unfold Mw;simp only[ay,c9,kP,bm,rQ,iu,gQ,m1,m2,kQ,j5,j6,phi (Ci hF _),Cw,EV,aA,aJ,aw,ax,n8,ak p1,ak p2,phi (FA hc),fB,ai,m3,t7,t8,ug,mL,og];unfold Hw;simp only[EV,ay,LR,Ya,s0,Et];rfl
 .intro fr i u hf he hu hm;have hf':(cL c.now (ptOf c.pts x.high) (ptOf c.pts x.low)).2=true:=hf;rw[hf'] at m3;obtain⟨f1,f2⟩:=rC hF h64.1 h.ok.1 h.low h.high hf';have m4:=phi (aha h.ok.2.2.2.1 he hu hm (t:=(fT c x).1) (n:=c.certs.next) ⟨f1,h.ok.2.2.1.2.1,by have:=h.next;omega⟩ (sa h.ok) f2 h64.2);have m4:bK D 349 [AG c.agenda,R (cL c.now (ptOf c.pts x.high) (ptOf c.pts x.low)).1,.v (.int .i64 c.certs.next)]=_:=m4;refine am ?_;unfold Mw;simp only[ay,c9,kP,bm,rQ,iu,gQ,oe,m1,m2,kQ,j5,j6,phi (Ci hF _),Cw,EV,aA,aJ,aw,ax,n8,ak p1,ak p2,phi (FA hc),fB,ai,m3,m4,jN,rR,pHD,Us,X9,Ut,Uu hc.due,cAG0,cAG1,cAG2,fI,mK,az];unfold Hw;simp only[EV,ay,LR,Ya,NJ,Et];rfl
def ahb {c:Clock}{x:Crt}(h:CAdd c x)(h64:fJ c):((fT c x).2=false->Ans D 294 [CL c,CP x] [CL (oo c x),.i64 c.certs.next,.i64 0])/\
  ∀{fr:List Int} {i:Nat} {u:Int},(fT c x).2=true->c.agenda.slots.free=fr++[(i:Int)]->c.agenda.slots.uses[i]?=some u->u<1000000->Ans D 294 [CL c,CP x] [CL (m8 c x fr i u),.i64 c.certs.next,.i64 0]:=by
 have hc:=pT h.ok;have hF:=h.ok.2.1;have m2:=phi (ag8 h.ok.2.2.1 h.cok h.new h.room h.next);have m3:=phi (XG (x:=x) hF h64.1 h.low h.high);have s0:=ct (f:=cW) (l:=c.due);constructor
 .intro hf;have hf':(cL c.now (ptOf c.pts x.high) (ptOf c.pts x.low)).2=false:=hf;rw[hf'] at m3;refine am ?_;unfold Sw;simp only[ay,c9,kP,bm,rQ,iu,gQ,m2,kQ,EV,aA,aJ,bY,aw,ax,az,phi (XY hc),fB,ai,m3,xv,xw,tU,t7,t8,ug,mL,og,od,gj,s0,NK];rfl
 .intro fr i u hf he hu hm;have hf':(cL c.now (ptOf c.pts x.high) (ptOf c.pts x.low)).2=true:=hf;rw[hf'] at m3;obtain⟨f1,f2⟩:=rC hF h64.1 h.ok.1 h.low h.high hf';have m4:=phi (ag9 h.ok.2.2.2.1 he hu hm (t:=(fT c x).1) (n:=c.certs.next) ⟨f1,h.ok.2.2.1.2.1,by have:=h.next;omega⟩ (sa h.ok) f2 h64.2);have m4:bK D 381 [AG c.agenda,R (cL c.now (ptOf c.pts x.high) (ptOf c.pts x.low)).1,.v (.int .i64 c.certs.next)]=_:=m4;have m5:=phi (ag1 (okR_fine.1 h.ok.2.2.2.1.1));rw[rX he hu,aq hm] at m5;refine am ?_;unfold Sw;simp only[ay,c9,kP,bm,rQ,iu,gQ,oe,adZ,m2,kQ,EV,aA,aJ,bY,aw,ax,az,phi (XY hc),fB,ai,m3,m4,m5,jN,rR,pHD,Us,X9,Ut,Uu hc.due,xv,xw,tU,od,gj,cAG0,cAG1,cAG2,fI,mK,NJ,NK];rfl
def Yc {l k:List Pt}(hl:l.length<=1000):Ans D 260 [sl row l,sl row k] [.bool (decide (l=k))]:=by
 refine an ⟨1001,?_⟩;unfold aaQ;simp only[EV,ai,aE,aj];by_cases h:l.length=k.length
 .rw[ac (by omega)];refine Az h (cD (l:=l.zip k) (st:=λi=>[.i64 (i:Int)]) (λi x self hx _=>?_) (λ_ self=>?_) (by rw[jb h];omega))
  .obtain⟨hp,hq⟩:=mb hx;unfold Hv;simp[aX hp (b5 _),aN hp,aX hq (b5 _),aN hq,gN,afO,EV,bh (aL hp),up1 (show i<1000000000 by have:=aL hp;omega)]
   grind
  .rw[jb h];unfold Hv;simp only[EV,aa,bP,PK]
 .rw[ad (by omega),ak (λe=>h (by rw[e]))]
def Cy {c:Clock}(h:Fresh c):fJ c:=⟨h.now64,h.ev64⟩
def ad0 {c:Clock}{x:Crt}(h:Fresh c)(ha:CAdd c x):Ans D 263 [CL c,CP x] [CL (f7 c x),.i64 c.certs.next,.i64 0]:=by
 obtain⟨h1,h2⟩:=Yb ha (Cy h);obtain⟨e1,e2⟩:=AN h ha.room;unfold f7
 grind
def FH {c:Clock}{es:List Crt}{k:Nat}{x:Crt}(hx:es[k]?=some x):certAll c (es.take (k+1))=f7 (certAll c (es.take k)) x:=by
 unfold certAll;rw[cG,hx,qN];rfl
def Yd {l:List Pt}{t:Rt}{es:List Crt}(hl:okF l)(ht:aS t)(hr:rok t=true)(hE:EdgOk l es):Ans D 169 [CL (newC l t),F l,sl crow es] [CL (certAll (newC l t) es),.i64 0]:=by
 have hlen:=hE.len;have h64:=hl.1;have z:(newC l t).certs.list.length=0:=rfl;have d0:decide (((0:Nat):Int)<((0:Nat):Int))=false:=rfl;have d0':decide ((0:Int)<((0:Nat):Int))=false:=rfl;have e234:=phi (Yc (l:=l) (k:=l) (by omega));rw[aq rfl] at e234;have pts:(newC l t).pts=l:=rfl;refine an ⟨1001,?_⟩;unfold Mm;simp only[ay,c9,bv,xv,xw,tU,zL,jC,t7,t8,ug,mL,og,fB,EV,ai,z,pts];rw[bB];unfold xI;simp only[EV,d0,d0',aw,ax];unfold GT;simp only[EV,ay,cq,e234,aJ,aw,ax];unfold GS;simp only[EV,ai]
 let st:Nat->List PV:=λk=>[.i64 0,.i64 (certAll (newC l t) (es.take k)).now.num,.i64 (certAll (newC l t) (es.take k)).now.den,sl row (certAll (newC l t) (es.take k)).pts,.i64 (certAll (newC l t) (es.take k)).certs.next,sl hrow (certAll (newC l t) (es.take k)).certs.list,sl I1 (certAll (newC l t) (es.take k)).agenda.slots.uses,sl B1 (certAll (newC l t) (es.take k)).agenda.slots.used,sl I1 (certAll (newC l t) (es.take k)).agenda.slots.free,sl cv (certAll (newC l t) (es.take k)).agenda.heap,sl I1 (certAll (newC l t) (es.take k)).agenda.wher,sl cW (certAll (newC l t) (es.take k)).due,.i64 (k:Int)]
 refine(gm (m:=1001) (n:=es.length) (st:=st) (fin:=some [CL (certAll (newC l t) es),.i64 0]) (λk self hk=>?_) (λself=>?_) (by omega))
 .have hx:es[k]?=some es[k]:=ah _;have A:=yK hE hl ht hr k (by omega);obtain⟨ha,hnew⟩:=J8 hE A hx;have hroom:=ha.room;show den (bK D) 1001 qg _ _=self [.i64 0,.i64 (certAll (newC l t) (es.take (k+1))).now.num,.i64 (certAll (newC l t) (es.take (k+1))).now.den,sl row (certAll (newC l t) (es.take (k+1))).pts,.i64 (certAll (newC l t) (es.take (k+1))).certs.next,sl hrow (certAll (newC l t) (es.take (k+1))).certs.list,sl I1 (certAll (newC l t) (es.take (k+1))).agenda.slots.uses,sl B1 (certAll (newC l t) (es.take (k+1))).agenda.slots.used,sl I1 (certAll (newC l t) (es.take (k+1))).agenda.slots.free,sl cv (certAll (newC l t) (es.take (k+1))).agenda.heap,sl I1 (certAll (newC l t) (es.take (k+1))).agenda.wher,sl cW (certAll (newC l t) (es.take (k+1))).due,.i64 ((k+1:Nat):Int)]
  rw[FH hx];simp only[st];generalize certAll (newC l t) (es.take k)=c at A ha hnew hroom|-;generalize es[k]=x at hx ha hnew|-;have m:=phi (ad0 A.fresh ha);unfold qg;simp only[EV,aa,bh hk,ay,aX hx (iZ _),aN hx,tT,ai];refine(cD (m:=1001) (l:=c.certs.list) (p:=λg=>!decide (g.cert=x)) (st:=λi=>[.i64 (i:Int)]) (r:=none) (fin:=self [.i64 0,.i64 (f7 c x).now.num,.i64 (f7 c x).now.den,sl row (f7 c x).pts,.i64 (f7 c x).certs.next,sl hrow (f7 c x).certs.list,sl I1 (f7 c x).agenda.slots.uses,sl B1 (f7 c x).agenda.slots.used,sl I1 (f7 c x).agenda.slots.free,sl cv (f7 c x).agenda.heap,sl I1 (f7 c x).agenda.wher,sl cW (f7 c x).due,.i64 ((k+1:Nat):Int)]) (λi g self' hg _=>?_) (λhall self'=>?_) (by omega)).trans ?_
  .have hne:=hnew g (au hg);unfold xH;simp only[ay,aX hg (gP _),aN hg,lG,pHP,xp,EV,aa,bh (aL hg),up1 (show i<1000000000 by have:=aL hg;omega),hne,aY,bY,aw,az,ax]
  .have g0:decide (-1>=(0:Int))=false:=rfl;have g1:decide ((0:Int)<= -1)=false:=rfl;unfold xH;simp only[EV,aa,bP];unfold GR;simp only[EV,g0,g1,aw,ax,ay,gJ,m,c9,aA,aJ,xv,xw,tU,zL,jC,t7,t8,ug,mL,og,fB,j5,j6];unfold Bc;simp only[EV,up1 (show k<1000000000 by omega)]
  .rw[ad (by rw[aU];intro g hg;simpa using hnew g hg)]
 .have e:es.take es.length=es:=eP;simp only[st,e];unfold qg;simp only[EV,aa,bP];unfold GQ;simp only[EV,ay,gJ]
def m9 (t:Rt)(l:List Pt):Nat->List Int->Nat->List Int
 |0,h,_=>h
 |n+1,h,i=>match h[i]?,h[(i-1)/2]? with
  |some a,some b=>if 0<i/\ leads t (ptOf l a) (ptOf l b)=true then m9 t l n ((h.set i b).set ((i-1)/2) a) ((i-1)/2) else h
  |_,_=>h
def xz {t:Rt}{l:List Pt}:∀(n:Nat) (h:List Int) (i:Nat),(m9 t l n h i).Perm h
 |0,h,i=> .refl _
 |n+1,h,i=>by
  unfold m9;split
  .rename_i a b ha hb;split
   .refine(xz n _ _).trans ?_;obtain⟨h1,h2⟩:=aC.1 ha;obtain⟨h3,h4⟩:=aC.1 hb;rw[<-h2,<-h4];exact qO h1 h3
   .exact .refl _
  .exact .refl _
def R7 (l:List Pt)(k:Nat):Int:=((l[k]?).map Pt.id).getD 0
def eK (t:Rt)(l:List Pt):Nat->List Int
 |0=>[]
 |k+1=>m9 t l (k+1) (eK t l k++[R7 l k]) k
def mf {t:Rt}{l:List Pt}:∀k,k<=l.length->(eK t l k).Perm ((l.take k).map Pt.id)
 |0,_=>by simp[eK]
 |k+1,h=>by
  have hk:l[k]?=some l[k]:=ah _;refine(xz _ _ _).trans ?_;rw[cG,hk,dT];unfold R7;rw[hk];exact(mf k (by omega)).append_right _
def jk {t:Rt}{l:List Pt}{k:Nat}(h:k<=l.length):(eK t l k).length=k:=by
 rw[(mf k h).length_eq,ai,aP];omega
def nP {t:Rt}{l:List Pt}:(eK t l l.length).Perm (l.map Pt.id):=by
 have:=mf (t:=t) (l:=l) l.length (aB _)
 grind
def Eu {l:List Pt}(h:okF l){x:Int}(hx:x∈l.map Pt.id):0<=x/\ x<=65535:=by
 obtain⟨p,hp,rfl⟩:=bb.1 hx;exact md h p hp
def po {l:List Pt}(h:okF l){hp:List Int}(pm:hp.Perm (l.map Pt.id)):EdgOk l (b7 hp):=by
 have hnd:=pm.nodup_iff.2 (cT h.2.2);have hlen:=pm.length_eq;rw[ai] at hlen;have h64:=h.1;refine⟨tX hnd,by unfold b7;rw[jD];omega,λx hx=>?_,λx hx=>gq.2 (pm.mem_iff.1 (nO hx).1),λx hx=>gq.2 (pm.mem_iff.1 (nO hx).2)⟩;obtain⟨m1,m2⟩:=nO hx;have b1:=Eu h (pm.mem_iff.1 m1);have b2:=Eu h (pm.mem_iff.1 m2);refine⟨b1.1,b1.2,b2.1,b2.2,?_⟩;obtain⟨i,hi,rfl⟩:=bb.1 hx;rw[cR] at hi;simp only;intro e;have:=dr.1 hnd (i+1) (i/2) _ (eT (by omega)) (by rw[e];exact eT (by omega));omega
def Cz {t:Rt}{l:List Pt}(h:okF l){x:Crt}(h1:inF l x.low=true)(h2:inF l x.high=true)(hl:leads t (ptOf l x.high) (ptOf l x.low)=true):x.ok:=by
 have b1:=Eu h (gq.1 h1);have b2:=Eu h (gq.1 h2);refine⟨b1.1,b1.2,b2.1,b2.2,λe=>?_⟩;rw[e,tK] at hl;cases hl
def lL {t:Rt}{l:List Pt}(h:okF l):EdgOk l (cw l (cX t l)):=by
 refine⟨ol (cT h.2.2),?_,λx hx=>?_,λx hx=>(fg h hx).1,λx hx=>(fg h hx).2.1⟩
 .have h64:=h.1;have:(cw l (cX t l)).length<=l.length:=by
   unfold cw
   grind
  omega
 .obtain⟨a,b,c⟩:=fg h hx;exact Cz h a b c
def lM {t:Rt}{l:List Pt}(h:okF l):EdgOk l (edgsT (cart t l).nodes l.length):=by
 refine⟨qV h _ (aB _),?_,λx hx=>?_,λx hx=>(fZ h hx).1,λx hx=>(fZ h hx).2.1⟩
 .have h64:=h.1;have:=jX (cart t l).nodes l.length;omega
 .obtain⟨a,b,c⟩:=fZ h hx;exact Cz h a b c
def oq (c:Clock):RF.ev (.part 0 11) [CL c]=some (CL c):=rfl
def Uv {es:List Crt}{i:Nat}(h:i<=es.length):RF.ev (.tsub 2) [sl crow es,.v (.int .i64 0),.v (.int .i64 (i:Int))]=some (sl crow (es.take i)):=by
 have he:eg 2 (es.map crow)=true:=by
  cases es with
  |nil=>rfl
  |cons a l=>simp[eg,iZ]
 rw[yj,ad ⟨by omega,by omega,by simp;omega,he,by decide⟩];simp
def Ye {i n:Nat}(h:i<=n):RF.ev .bnd [.v (.int .i64 (i:Int)),.v (.int .i64 (n:Int))]=some (.i64 (i:Int)):=by rw[kr,ad ⟨by omega,by omega⟩]
def Yf (p:Pt):RF.ev (.shape 3) [PP p]=some (PP p):=rfl
def yM {l:List Pt}(h:okF l){x:Int}(hx:inF l x=true):∃(i:Nat) (p:Pt),l[i]?=some p/\ p.id=x/\ ptOf l x=p:=by
 obtain⟨i,p,h1,h2,_,h4⟩:=d5 h hx
 grind
open Classical in
def R8 {l:List Pt}{t:Rt}{es:List Crt}(hl:okF l)(ht:aS t)(hr:rok t=true)(hE:EdgOk l es):Ans D 264 [CL (newC l t),F l,sl crow es] [CL (certAll (newC l t) es),.i64 0]:=by
 have hlen:=hE.len;have hfr:=AO hl ht hr;have m1:=phi (vQ (Cy hfr) (yL hfr.ok));rw[aq hfr.ok,show okE true=0 from rfl] at m1
 have m2:=phi (tR l);rw[eE.2 hl] at m2;refine an ⟨1001,?_⟩;unfold Mx;simp only[ay,c9,bv,m1,m2,EV,aA,aJ,aw,ax,ai];refine(cD (m:=1001) (l:=es) (p:=λ_=>true) (st:=λi=>[.i64 (i:Int)]) (r:=none) (fin:=some [CL (certAll (newC l t) es),.i64 0]) (λi x self hx _=>?_) (λ_ self=>?_) (by omega)).trans (ad (by simp))
 .obtain⟨o1,o2,o3,o4,o5⟩:=hE.ok x (au hx);unfold xM;simp only[ay,aX hx (iZ _),aN hx,tT,j5,j6,EV,aa,bh (aL hx),cx,up1 (show i<1000000000 by have:=aL hx;omega)]
  grind
 .unfold xM;simp only[EV,aa,bP];unfold Hz;simp only[EV,ai];refine(cD (m:=1001) (l:=es) (p:=λ_=>true) (st:=λi=>[.i64 (i:Int)]) (r:=none) (fin:=some [CL (certAll (newC l t) es),.i64 0]) (λi x self hx _=>?_) (λ_ self=>?_) (by omega)).trans (ad (by simp))
  .have hn:x∉es.take i:=λhm=>by
    obtain⟨j,hj⟩:=aI.1 hm;have hji:j<i:=by have:=aL hj;rw[aP] at this;omega
    rw[cH hji] at hj;have:=dr.1 hE.nd j i x hj hx;omega
   have m3:=phi (xq (l:=es.take i) x (by rw[aP];omega));rw[ak hn] at m3;have hi:=aL hx;unfold xL;simp only[ay,aX hx (iZ _),aN hx,tT,Ye (show i<=es.length by omega),Uv (show i<=es.length by omega),m3,EV,ai,aa,bh hi,aw,ax,az,up1 (show i<1000000000 by omega)]
  .unfold xL;simp only[EV,aa,bP];unfold Hy;simp only[EV,ai];refine(cD (m:=1001) (l:=es) (p:=λ_=>true) (st:=λi=>[.i64 (i:Int)]) (r:=none) (fin:=some [CL (certAll (newC l t) es),.i64 0]) (λi x self hx _=>?_) (λ_ self=>?_) (by omega)).trans (ad (by simp))
   .obtain⟨a,p,a1,a2,_⟩:=yM hl (hE.low x (au hx));obtain⟨b,q,b1,b2,_⟩:=yM hl (hE.high x (au hx));have n1:=phi (Ch hl a1);have n2:=phi (Ch hl b1);rw[a2] at n1;rw[b2] at n2;unfold xK;simp only[ay,aX hx (iZ _),aN hx,tT,j5,j6,n1,n2,Yf,EV,ai,aa,bh (aL hx),aA,aJ,aw,ax,az,up1 (show i<1000000000 by have:=aL hx;omega)]
   .unfold xK;simp only[EV,aa,bP];unfold Hx;simp only[EV,ay,phi (R1 (pT hfr.ok)),phi (Yd hl ht hr hE),c9,oq]
def ad1 {l:List Pt}{t:Rt}(h:okF l)(ht:aS t)(hr:rok t=true){a b:Int}(ha:inF l a=true)(hb:inF l b=true)(hne:a≠b):Ans D 151 [F l,R t,.i64 a,.i64 b] [.bool (leads t (ptOf l a) (ptOf l b))]:=by
 obtain⟨i,p,a1,a2,a4⟩:=yM h ha;obtain⟨j,q,b1,b2,b4⟩:=yM h hb;have:=Xx h ht hr a1 b1 (by rw[a2,b2];exact hne)
 grind
def Dx {l:List Pt}{t:Rt}(h:okF l)(ht:aS t)(hr:rok t=true){N:Nat}{f0 f1 f2:JT}{e0 e1 e4 e5 e6 e7 e8 e9 e10 e11 e12 e13 e14 e15 e16 e17 e18 e19 e20:PV}{H:Nat}(hH:H<=1000):∀(r i m:Nat) (hp:List Int),i<=r->r<m->i<H->hp.length=H->(∀x∈hp,inF l x=true)->hp.Nodup->
  dY (bK D) N yU [f0,f1,f2] [e0,e1,F l,R t,e4,e5,e6,e7,e8,e9,e10,e11,e12,e13,e14,e15,e16,e17,e18,e19,e20,.i64 (H:Int)] m [.i64 (i:Int),sl I1 hp]=f2 [sl I1 (m9 t l r hp i)]
 |0,i,m,hp,hi,hm,hiH,hl,hin,hnd=>by
  obtain⟨m,rfl⟩:∃m',m=m'+1:=⟨m-1,by omega⟩;have:i=0:=by omega
  subst this;rw[bB];unfold yU m9;simp only[EV,aa];rw[ac (by omega)]
 |r+1,i,m,hp,hi,hm,hiH,hl,hin,hnd=>by
  obtain⟨m,rfl⟩:∃m',m=m'+1:=⟨m-1,by omega⟩;obtain⟨a,ha⟩:∃a,hp[i]?=some a:=⟨hp[i],ah _⟩;obtain⟨b,hb⟩:∃b,hp[(i-1)/2]?=some b:=⟨hp[(i-1)/2]'(by omega),ah _⟩;have E:m9 t l (r+1) hp i=if 0<i/\ leads t (ptOf l a) (ptOf l b)=true then m9 t l r ((hp.set i b).set ((i-1)/2) a) ((i-1)/2) else hp:=by rw[m9,ha,hb]
  rw[E,bB];by_cases h0:0<i
  rotate_left
  .rw[ac (λh=>h0 h.1)];unfold yU;simp only[EV,aa];rw[ac (by omega)]
  .have pm:((hp.set i b).set ((i-1)/2) a).Perm hp:=by
    obtain⟨h1,h2⟩:=aC.1 ha;obtain⟨h3,h4⟩:=aC.1 hb;rw[<-h2,<-h4];exact qO h1 h3
   have hne:a≠b:=λe=>by
    have:=dr.1 hnd i ((i-1)/2) a ha (by rw[e];exact hb);omega
   have ih:=Dx (l:=l) (t:=t) h ht hr (N:=N) (f0:=f0) (f1:=f1) (f2:=f2) (e0:=e0) (e1:=e1) (e4:=e4) (e5:=e5) (e6:=e6) (e7:=e7) (e8:=e8) (e9:=e9) (e10:=e10) (e11:=e11) (e12:=e12) (e13:=e13) (e14:=e14) (e15:=e15) (e16:=e16) (e17:=e17) (e18:=e18) (e19:=e19) (e20:=e20) (H:=H) hH r ((i-1)/2) m ((hp.set i b).set ((i-1)/2) a) (by omega) (by omega) (by omega) (by rw[pm.length_eq];exact hl) (λx hx=>hin x (pm.mem_iff.1 hx)) (pm.nodup_iff.2 hnd);have cm:=phi (ad1 h ht hr (hin a (au ha)) (hin b (au hb)) hne);have q2:=LO h0 (by omega);have s1:=iK (l:=hp) (i:=i) (by omega) b;have s2:RF.ev (.set 0) [sl I1 (hp.set i b),.v (.int .i64 (((i-1)/2:Nat):Int)),.v (.int .i64 a)]=some (sl I1 ((hp.set i b).set ((i-1)/2) a)):=iK (by rw[a8];omega) a;generalize hkk:yU=kk at ih;subst hkk;unfold yU;simp[EV];rw[ad (by omega)];simp only[EV,q2,ixM hiH,ixM (show(i-1)/2<H by omega),aN ha,aN hb,cV,cm]
   cases hc:leads t (ptOf l a) (ptOf l b) with
   |false=>
    simp only[aw,ax,gX]
   |true=>
    simp only[h0,kG,az,EV,mq,q2,ixM hiH,ixM (show(i-1)/2<H by omega),aN ha,aN hb,cV,ay,s1,s2]
    exact ih
def fC (t:Rt)(l:List Pt):KHeap:=⟨certAll (newC l t) (b7 (eK t l l.length)),eK t l l.length⟩
def Uw (c:Clock)(h:List Int):RF.ev .agg [CL c,sl I1 h]=some (KH ⟨c,h⟩):=rfl
def zQ {l:List Pt}{t:Rt}{k:Nat}(hk:k<=l.length):∀x∈eK t l k,inF l x=true:=λx hx=>by
 have:=(mf (t:=t) k hk).mem_iff.1 hx;obtain⟨p,hp,e⟩:=bb.1 this;exact gq.2 (bb.2 ⟨p,iE hp,e⟩)
def zR {l:List Pt}{t:Rt}(h:okF l){k:Nat}(hk:k<=l.length):(eK t l k).Nodup:=by
 refine(mf (t:=t) k hk).nodup_iff.2 ?_;have:=cT h.2.2;unfold Ids at this
 grind
def xA {l:List Pt}{t:Rt}{k:Nat}{p:Pt}(hp:l[k]?=some p):eK t l (k+1)=m9 t l (k+1) (eK t l k++[p.id]) k:=by
 rw[eK];unfold R7;rw[hp];rfl
def VJ {l:List Pt}{t:Rt}{k:Nat}{p:Pt}(hp:l[k]?=some p):∀x∈eK t l k++[p.id],inF l x=true:=λx hx=>by
 rcases bR.1 hx with h|h
 .exact zQ (by have:=aL hp;omega) x h
 .rw[cd] at h;subst h;exact gq.2 (bb.2 ⟨p,au hp,rfl⟩)
def VK {l:List Pt}{t:Rt}(h:okF l){k:Nat}{p:Pt}(hp:l[k]?=some p):(eK t l k++[p.id]).Nodup:=by
 have:=zR (t:=t) h (k:=k+1) (aL hp);rw[xA hp] at this;exact(xz _ _ _).nodup_iff.1 this
def c55 {l:List Pt}{t:Rt}(hl:okF l)(ht:aS t)(hr:rok t=true):Ans D 76 [F l,R t] [KH (fC t l),.i64 0]:=by
 have h64:=hl.1;have hE:=po hl (nP (t:=t) (l:=l));have s9:=ct (f:=I1) (l:=eK t l l.length);refine an ⟨1001,?_⟩;unfold k55;simp only[ay,bv,bm,phi (LP hl ht hr),c9,cq,EV,aA,aJ,aw,ax,ai];refine(gm (m:=1001) (n:=l.length) (st:=λk=>[sl I1 (eK t l k),.i64 ((eK t l k).length:Int),.i64 (k:Int)]) (fin:=some [KH (fC t l),.i64 0]) (λk self hk=>?_) (λself=>?_) (by omega))
 .obtain⟨p,hp⟩:∃p,l[k]?=some p:=⟨l[k],ah _⟩;have hbl:=jk (t:=t) (l:=l) (k:=k) (by omega);have hbl':=jk (t:=t) (l:=l) (k:=k+1) (by omega);have ap:=gt (f:=I1) (l:=eK t l k) (k:=[p.id]) (bytes:=8) (z:=1) (by simp;omega) cF;unfold Ml;simp only[ay,cq,EV,aa,bh hk,aX hp (b5 _),aN hp,gN,Cw,bsI,th,ap,ai];refine(Dx hl ht hr (N:=1001) (H:=(eK t l k++[p.id]).length) (by simp;omega) (k+1) k 1001 _ (by omega) (by omega) (by simp;omega) rfl (VJ hp) (VK hl hp)).trans ?_;unfold U3;have e:(eK t l k++[p.id]).length=(eK t l (k+1)).length:=by rw[hbl',aD,hbl];rfl
  rw[<-xA hp];simp only[EV,up1 (show k<1000000000 by omega),e]
 .unfold Ml;simp only[EV,aa,bP];unfold U2;simp only[EV,ay,s9,phi (RP (l:=eK t l l.length) (by rw[jk (aB _)];omega)),phi (Yd hl ht hr hE),c9,oq,Uw];rfl
def twice:Nat->Nat->Nat->Nat
 |0,n,_=>n
 |f+1,n,m=>if n<m then twice f (2*n) m else n
def FI:∀m:Nat,m<65->1<=twice 7 1 m/\ m<=twice 7 1 m/\ twice 7 1 m<=64:=by decide
def cS (l:List Pt):List Int:=l.map Pt.id++List.replicate (twice 7 1 l.length-l.length) (-1)
def mh {l:List Pt}(h:okF l):(cS l).length=twice 7 1 l.length/\ 1<=(cS l).length/\(cS l).length<=64:=by
 have h1:=h.1;obtain⟨a,b,c⟩:=FI l.length (by omega);unfold cS
 grind
def dM {l:List Pt}:∀x∈cS l,d6 l x:=λx hx=>by
 unfold cS at hx;rcases bR.1 hx with h|h
 .exact .inr (gq.2 h)
 .exact .inl (fi.1 h).2
def ez {l:List Pt}(h:okF l):g9 (cS l):=by
 rw[yr];have hI:=cT h.2.2;have key:∀(i:Nat) (x:Int),0<=x->(cS l)[i]?=some x->(l.map Pt.id)[i]?=some x:=λi x h0 hi=>by
  unfold cS at hi
  grind
 intro i j x h0 hi hj;exact dr.1 hI i j x (key i x h0 hi) (key j x h0 hj)
def JO {t:Rt}{l:List Pt}{wins places:List Int}(hb:rK wins places)(hf:lw (wonI t l) wins places):kU wins places:=by
 refine⟨hb,λi hi=>?_⟩;have:=hf i hi;unfold oR;rw[this];unfold wonI
 grind
def bracketOf (t:Rt)(l:List Pt)(places:List Int):Brk:=⟨places,playD (wonI t l) places (places.length-1) (places.length-1)⟩
def iz {t:Rt}{l:List Pt}{places:List Int}(h:okF l)(h1:1<=places.length)(h2:places.length<=64)(hv:∀x∈places,d6 l x)(ho:g9 places):
  (bracketOf t l places).wins.length=places.length-1/\ kU (bracketOf t l places).wins places/\ lw (wonI t l) (bracketOf t l places).wins places:=by
 have hlen:(bracketOf t l places).wins.length=places.length-1:=by unfold bracketOf;simp only;exact ju _
 have hf:=(tM hlen).1 rfl;refine⟨hlen,JO ⟨⟨h1,h2,by omega⟩,ho,λx hx=>?_⟩ hf,hf⟩;exact rW h (hv x hx)
def jY {t:Rt}{l:List Pt}{places:List Int}(h:okF l)(h1:1<=places.length)(h2:places.length<=64)(hv:∀x∈places,d6 l x)(ho:g9 places):
  EdgOk l (edsB (bracketOf t l places).wins places (bracketOf t l places).wins.length):=by
 obtain⟨hlen,hb,hf⟩:=iz (t:=t) h h1 h2 hv ho;have facts:=λe=>iy (b:=bracketOf t l places) (e:=e) h hb hv hf;refine⟨qW (b:=bracketOf t l places) h hb hv hf _ (aB _),?_,λx hx=>?_,λx hx=>(facts x hx).1,λx hx=>(facts x hx).2.1⟩
 .have:=ke (bracketOf t l places).wins places (bracketOf t l places).wins.length;omega
 .obtain⟨a,b,c⟩:=facts x hx;exact Cz h a b c
def AP {N:Nat}{f0:JT}{e0:PV}{l:List Pt}(hl:l.length<=64):∀(f n M:Nat),l.length<=n*2^ f->1<=n->f<M->dY (bK D) N uF [f0] [e0,F l] M [.i64 (n:Int)]=f0 [.i64 (twice f n l.length:Nat)]
 |0,n,M,h,h1,hM=>by
  obtain⟨M,rfl⟩:∃m',M=m'+1:=⟨M-1,by omega⟩;rw[bB];unfold uF twice;simp only[cq,EV,ai,aa];rw[ac (by omega)]
 |f+1,n,M,h,h1,hM=>by
  obtain⟨M,rfl⟩:∃m',M=m'+1:=⟨M-1,by omega⟩;rw[bB,twice];by_cases c:n<l.length
  .have ih:=AP (N:=N) (f0:=f0) (e0:=e0) hl f (2*n) M (by rw[Nat.pow_succ] at h;rw[sW 2 n,Nat.mul_assoc,sW 2];exact h) (by omega) (by omega);have w:IntKind.i64.wrap ((n:Int)*2)=((2*n:Nat):Int):=by rw[cM (by omega) (by omega)];omega
   rw[ad c];generalize hkk:uF=kk at ih;subst hkk;unfold uF;simp[cq,EV];rw[ad (by omega),w];exact ih
  .rw[ac c];unfold uF;simp only[cq,EV,ai,aa];rw[ac (by omega)]
def JP {l:List Pt}{n k:Nat}{p:Pt}(hp:l[k]?=some p)(hn:l.length<=n):((l.take k).map Pt.id++List.replicate (n-k) (-1)).set k p.id=(l.take (k+1)).map Pt.id++List.replicate (n-(k+1)) (-1):=by
 have hk:=aL hp;have hlen:((l.take k).map Pt.id).length=k:=by rw[ai,aP];omega
 have e:n-k=n-(k+1)+1:=by omega
 rw[vA _ _ (by omega),hlen,iS,e,lg,List.set_cons_zero,cG,hp,dT,be];rfl
def ahc {l:List Pt}(h:okF l):Ans D 171 [F l] [sl I1 (cS l)]:=by
 have hl:=h.1;obtain⟨t1,t2,t3⟩:=FI l.length (by omega);refine an ⟨1001,?_⟩;unfold aad;simp only[ay,bv,EV];refine(AP (N:=1001) (l:=l) hl 7 1 1001 (by omega) (by omega) (by omega)).trans ?_;unfold cS;generalize twice 7 1 l.length=n at t1 t2 t3;unfold O9;simp only[EV,bsI,th,Uo,phi (X4 (n:=n) t1 (by omega)),ai,aR,ay,cq];have e0:([sl I1 (List.replicate n (-1)),PV.v (.int .i64 0)]:List PV)=[sl I1 ((l.take 0).map Pt.id++List.replicate (n-0) (-1)),.i64 ((0:Nat):Int)]:=by simp
 rw[e0];refine(gm (m:=1001) (n:=l.length) (st:=λk=>[sl I1 ((l.take k).map Pt.id++List.replicate (n-k) (-1)),.i64 (k:Int)]) (λk self hk=>?_) (λself=>?_) (by omega))
 .obtain⟨p,hp⟩:∃p,l[k]?=some p:=⟨l[k],ah _⟩;have hlen:((l.take k).map Pt.id++List.replicate (n-k) (-1:Int)).length=n:=by simp;omega
  have st:=iK (l:=(l.take k).map Pt.id++List.replicate (n-k) (-1)) (i:=k) (by rw[hlen];omega) p.id;rw[JP hp t2] at st;unfold GV;simp only[ay,cq,EV,aa,bh hk,aX hp (b5 _),aN hp,gN,Cw,ixM (show k<n by omega),st,up1 (show k<1000000000 by omega)]
 .have hlen:(l.map Pt.id++List.replicate (n-l.length) (-1:Int)).length=n:=by simp;omega
  have su:=ct (f:=I1) (l:=l.map Pt.id++List.replicate (n-l.length) (-1:Int));rw[hlen] at su;unfold GV;simp only[EV,aa,bP,eP];unfold O8;simp only[EV,su]
section
variable (t:Rt)(l:List Pt)
def iL:KTourn:=⟨certAll (newC l t) (edsB (bracketOf t l (cS l)).wins (cS l) (bracketOf t l (cS l)).wins.length),bracketOf t l (cS l)⟩
def mi:Heater:=⟨certAll (newC l t) (edgsT (cart t l).nodes l.length),cart t l⟩
def mj:KHeap:=⟨certAll (newC l t) (cw l (cX t l)),cX t l⟩
end
def Ux (c:Clock)(b:Brk):RF.ev .agg [CL c,BR b]=some (KT ⟨c,b⟩):=rfl
def Uy (c:Clock)(b:Tree):RF.ev .agg [CL c,TR b]=some (HT ⟨c,b⟩):=rfl
def Yg (b:Brk):RF.ev (.part 0 2) [BR b]=some (BR b):=rfl
def Yh (b:Tree):RF.ev (.part 0 2) [TR b]=some (TR b):=rfl
def ad2 (k:KTourn):RF.ev (.part 0 13) [KT k]=some (KT k):=rfl
section
variable {l:List Pt}{t:Rt}(hl:okF l)(ht:aS t)(hr:rok t=true)
include hl ht hr
theorem ahd:Ans D 170 [CL (newC l t),F l,sl I1 (cS l)] [KT (iL t l),.i64 0]:=by
 obtain⟨_,h1,h2⟩:=mh hl;have hE:=jY (t:=t) hl h1 h2 dM (ez hl);have nw:(newC l t).now=t:=rfl;have m1:bK D 159 [F l,R t,sl I1 (cS l)]=some [BR (bracketOf t l (cS l)),sl crow (edsB (bracketOf t l (cS l)).wins (cS l) (bracketOf t l (cS l)).wins.length)]:=phi (LI hl ht hr h1 h2 dM (ez hl) rfl);refine am ?_;unfold Mn;simp[c9,bv,gQ,nw,m1,oh,phi (R8 hl ht hr hE),EV];rfl
theorem c56:Ans D 77 [F l,R t] [KT (iL t l),.i64 0]:=by
 refine am ?_;unfold k56;simp[bv,bm,phi (LP hl ht hr),c9,EV,phi (ahc hl),phi (ahd hl ht hr),vL,ad2]
theorem ahe:Ans D 172 [CL (newC l t),F l] [HT (mi t l),.i64 0]:=by
 have hE:=lM (t:=t) hl;have nw:(newC l t).now=t:=rfl;refine am ?_;unfold Mo;simp[c9,bv,gQ,nw,phi (Fm hl ht hr (ph hl) (uB hl)),vK,phi (R8 hl ht hr hE),EV];rfl
theorem c57:Ans D 78 [F l,R t] [HT (mi t l),.i64 0]:=by
 refine am ?_;unfold k57;simp[bv,bm,phi (LP hl ht hr),c9,EV,phi (ahe hl ht hr),vM]
theorem ahf:Ans D 173 [CL (newC l t),F l] [KH (mj t l),.i64 0]:=by
 have hE:=lL (t:=t) hl;have nw:(newC l t).now=t:=rfl;refine am ?_;unfold Mp;simp[c9,bv,gQ,nw,phi (Fk hl ht hr),phi (R8 hl ht hr hE),EV];rfl
theorem c58:Ans D 79 [F l,R t] [KH (mj t l),.i64 0]:=by
 refine am ?_;unfold k58;simp[bv,bm,phi (LP hl ht hr),c9,EV,phi (ahf hl ht hr),jO]
end
set_option linter.unusedSimpArgs false
def kh0 (k:KHeap):RF.ev (.cell 0) [KH k]=some (.i64 k.clock.now.num):=rfl
def kh1 (k:KHeap):RF.ev (.cell 1) [KH k]=some (.i64 k.clock.now.den):=rfl
def kh2 (k:KHeap):RF.ev (.cell 2) [KH k]=some (sl row k.clock.pts):=rfl
def kh3 (k:KHeap):RF.ev (.cell 3) [KH k]=some (.i64 k.clock.certs.next):=rfl
def kh4 (k:KHeap):RF.ev (.cell 4) [KH k]=some (sl hrow k.clock.certs.list):=rfl
def kh5 (k:KHeap):RF.ev (.cell 5) [KH k]=some (sl I1 k.clock.agenda.slots.uses):=rfl
def kh6 (k:KHeap):RF.ev (.cell 6) [KH k]=some (sl B1 k.clock.agenda.slots.used):=rfl
def kh7 (k:KHeap):RF.ev (.cell 7) [KH k]=some (sl I1 k.clock.agenda.slots.free):=rfl
def kh8 (k:KHeap):RF.ev (.cell 8) [KH k]=some (sl cv k.clock.agenda.heap):=rfl
def kh9 (k:KHeap):RF.ev (.cell 9) [KH k]=some (sl I1 k.clock.agenda.wher):=rfl
def Yi (k:KHeap):RF.ev (.cell 10) [KH k]=some (sl cW k.clock.due):=rfl
def Yj (k:KHeap):RF.ev (.cell 11) [KH k]=some (sl I1 k.heap):=rfl
def kt0 (k:KTourn):RF.ev (.cell 0) [KT k]=some (.i64 k.clock.now.num):=rfl
def kt1 (k:KTourn):RF.ev (.cell 1) [KT k]=some (.i64 k.clock.now.den):=rfl
def kt2 (k:KTourn):RF.ev (.cell 2) [KT k]=some (sl row k.clock.pts):=rfl
def kt3 (k:KTourn):RF.ev (.cell 3) [KT k]=some (.i64 k.clock.certs.next):=rfl
def kt4 (k:KTourn):RF.ev (.cell 4) [KT k]=some (sl hrow k.clock.certs.list):=rfl
def kt5 (k:KTourn):RF.ev (.cell 5) [KT k]=some (sl I1 k.clock.agenda.slots.uses):=rfl
def kt6 (k:KTourn):RF.ev (.cell 6) [KT k]=some (sl B1 k.clock.agenda.slots.used):=rfl
def kt7 (k:KTourn):RF.ev (.cell 7) [KT k]=some (sl I1 k.clock.agenda.slots.free):=rfl
def kt8 (k:KTourn):RF.ev (.cell 8) [KT k]=some (sl cv k.clock.agenda.heap):=rfl
def kt9 (k:KTourn):RF.ev (.cell 9) [KT k]=some (sl I1 k.clock.agenda.wher):=rfl
def ahg (k:KTourn):RF.ev (.cell 10) [KT k]=some (sl cW k.clock.due):=rfl
def ahh (k:KTourn):RF.ev (.cell 11) [KT k]=some (sl I1 k.brk.places):=rfl
def ahi (k:KTourn):RF.ev (.cell 12) [KT k]=some (sl I1 k.brk.wins):=rfl
def ht0 (k:Heater):RF.ev (.cell 0) [HT k]=some (.i64 k.clock.now.num):=rfl
def ht1 (k:Heater):RF.ev (.cell 1) [HT k]=some (.i64 k.clock.now.den):=rfl
def ht2 (k:Heater):RF.ev (.cell 2) [HT k]=some (sl row k.clock.pts):=rfl
def ht3 (k:Heater):RF.ev (.cell 3) [HT k]=some (.i64 k.clock.certs.next):=rfl
def ht4 (k:Heater):RF.ev (.cell 4) [HT k]=some (sl hrow k.clock.certs.list):=rfl
def ht5 (k:Heater):RF.ev (.cell 5) [HT k]=some (sl I1 k.clock.agenda.slots.uses):=rfl
def ht6 (k:Heater):RF.ev (.cell 6) [HT k]=some (sl B1 k.clock.agenda.slots.used):=rfl
def ht7 (k:Heater):RF.ev (.cell 7) [HT k]=some (sl I1 k.clock.agenda.slots.free):=rfl
def ht8 (k:Heater):RF.ev (.cell 8) [HT k]=some (sl cv k.clock.agenda.heap):=rfl
def ht9 (k:Heater):RF.ev (.cell 9) [HT k]=some (sl I1 k.clock.agenda.wher):=rfl
def ahj (k:Heater):RF.ev (.cell 10) [HT k]=some (sl cW k.clock.due):=rfl
def ahk (k:Heater):RF.ev (.cell 11) [HT k]=some (.i64 k.tree.root):=rfl
def ahl (k:Heater):RF.ev (.cell 12) [HT k]=some (sl dG k.tree.nodes):=rfl
def Yk (g:Int)(k:KHeap):RF.ev .agg [.v (.int .u8 g),.i64 k.clock.now.num,.i64 k.clock.now.den,sl row k.clock.pts,.i64 k.clock.certs.next,sl hrow k.clock.certs.list,sl I1 k.clock.agenda.slots.uses,sl B1 k.clock.agenda.slots.used,sl I1 k.clock.agenda.slots.free,sl cv k.clock.agenda.heap,sl I1 k.clock.agenda.wher,sl cW k.clock.due,sl I1 k.heap,.v (.int .i64 0),.v (.int .i64 0),.sl [],.v (.int .i64 0),.sl [],.sl [],.sl [],.sl [],.sl [],.sl [],.sl [],.sl [],.sl [],.v (.int .i64 0),.v (.int .i64 0),.sl [],.v (.int .i64 0),.sl [],.sl [],.sl [],.sl [],.sl [],.sl [],.sl [],.v (.int .i64 0),.sl [],.v (.int .i64 0),.v (.int .i64 0),.sl [],.v (.int .i64 0),.sl [],.sl [],.sl [],.sl [],.sl [],.sl [],.sl [],.sl []]=some (CHO ⟨g,k,zKT,zHT,zKH⟩):=rfl
def Yl (g:Int)(k:KTourn):RF.ev .agg [.v (.int .u8 g),.v (.int .i64 0),.v (.int .i64 0),.sl [],.v (.int .i64 0),.sl [],.sl [],.sl [],.sl [],.sl [],.sl [],.sl [],.sl [],.i64 k.clock.now.num,.i64 k.clock.now.den,sl row k.clock.pts,.i64 k.clock.certs.next,sl hrow k.clock.certs.list,sl I1 k.clock.agenda.slots.uses,sl B1 k.clock.agenda.slots.used,sl I1 k.clock.agenda.slots.free,sl cv k.clock.agenda.heap,sl I1 k.clock.agenda.wher,sl cW k.clock.due,sl I1 k.brk.places,sl I1 k.brk.wins,.v (.int .i64 0),.v (.int .i64 0),.sl [],.v (.int .i64 0),.sl [],.sl [],.sl [],.sl [],.sl [],.sl [],.sl [],.v (.int .i64 0),.sl [],.v (.int .i64 0),.v (.int .i64 0),.sl [],.v (.int .i64 0),.sl [],.sl [],.sl [],.sl [],.sl [],.sl [],.sl [],.sl []]=some (CHO ⟨g,zKH,k,zHT,zKH⟩):=rfl
def Ym (g:Int)(k:Heater):RF.ev .agg [.v (.int .u8 g),.v (.int .i64 0),.v (.int .i64 0),.sl [],.v (.int .i64 0),.sl [],.sl [],.sl [],.sl [],.sl [],.sl [],.sl [],.sl [],.v (.int .i64 0),.v (.int .i64 0),.sl [],.v (.int .i64 0),.sl [],.sl [],.sl [],.sl [],.sl [],.sl [],.sl [],.sl [],.sl [],.i64 k.clock.now.num,.i64 k.clock.now.den,sl row k.clock.pts,.i64 k.clock.certs.next,sl hrow k.clock.certs.list,sl I1 k.clock.agenda.slots.uses,sl B1 k.clock.agenda.slots.used,sl I1 k.clock.agenda.slots.free,sl cv k.clock.agenda.heap,sl I1 k.clock.agenda.wher,sl cW k.clock.due,.i64 k.tree.root,sl dG k.tree.nodes,.v (.int .i64 0),.v (.int .i64 0),.sl [],.v (.int .i64 0),.sl [],.sl [],.sl [],.sl [],.sl [],.sl [],.sl [],.sl []]=some (CHO ⟨g,zKH,zKT,k,zKH⟩):=rfl
def Yn (g:Int)(k:KHeap):RF.ev .agg [.v (.int .u8 g),.v (.int .i64 0),.v (.int .i64 0),.sl [],.v (.int .i64 0),.sl [],.sl [],.sl [],.sl [],.sl [],.sl [],.sl [],.sl [],.v (.int .i64 0),.v (.int .i64 0),.sl [],.v (.int .i64 0),.sl [],.sl [],.sl [],.sl [],.sl [],.sl [],.sl [],.sl [],.sl [],.v (.int .i64 0),.v (.int .i64 0),.sl [],.v (.int .i64 0),.sl [],.sl [],.sl [],.sl [],.sl [],.sl [],.sl [],.v (.int .i64 0),.sl [],.i64 k.clock.now.num,.i64 k.clock.now.den,sl row k.clock.pts,.i64 k.clock.certs.next,sl hrow k.clock.certs.list,sl I1 k.clock.agenda.slots.uses,sl B1 k.clock.agenda.slots.used,sl I1 k.clock.agenda.slots.free,sl cv k.clock.agenda.heap,sl I1 k.clock.agenda.wher,sl cW k.clock.due,sl I1 k.heap]=some (CHO ⟨g,zKH,zKT,zHT,k⟩):=rfl
def zCH:Choice:=⟨0,zKH,zKT,zHT,zKH⟩
def zS (g:Int):RF.ev .agg [.v (.int .u8 g),.v (.int .i64 0),.v (.int .i64 0),.sl [],.v (.int .i64 0),.sl [],.sl [],.sl [],.sl [],.sl [],.sl [],.sl [],.sl [],.v (.int .i64 0),.v (.int .i64 0),.sl [],.v (.int .i64 0),.sl [],.sl [],.sl [],.sl [],.sl [],.sl [],.sl [],.sl [],.sl [],.v (.int .i64 0),.v (.int .i64 0),.sl [],.v (.int .i64 0),.sl [],.sl [],.sl [],.sl [],.sl [],.sl [],.sl [],.v (.int .i64 0),.sl [],.v (.int .i64 0),.v (.int .i64 0),.sl [],.v (.int .i64 0),.sl [],.sl [],.sl [],.sl [],.sl [],.sl [],.sl [],.sl []]=some (CHO ⟨g,zKH,zKT,zHT,zKH⟩):=rfl
def Uz:RF.ev .agg [.v (.int .i64 0),.v (.int .i64 0),.sl [],.v (.int .i64 0),.sl [],.sl [],.sl [],.sl [],.sl [],.sl [],.sl [],.sl []]=some (KH zKH):=rfl
def ad3:RF.ev .agg [.v (.int .i64 0),.v (.int .i64 0),.sl [],.v (.int .i64 0),.sl [],.sl [],.sl [],.sl [],.sl [],.sl [],.sl [],.sl [],.sl []]=some (KT zKT):=rfl
def ad4:RF.ev .agg [.v (.int .i64 0),.v (.int .i64 0),.sl [],.v (.int .i64 0),.sl [],.sl [],.sl [],.sl [],.sl [],.sl [],.sl [],.v (.int .i64 0),.sl []]=some (HT zHT):=rfl
def UA:RF.ev .agg [.v (.int .i64 0),.v (.int .i64 0),.sl [],.v (.int .i64 0),.sl [],.sl [],.sl [],.sl [],.sl [],.sl [],.sl []]=some (CL zC):=rfl
def bE (l:List Pt)(t:Rt):Int:=if gn l=0 then okE (rok t) else gn l
def v6 {l:List Pt}{t:Rt}(h:bE l t=0):okF l/\ rok t=true:=by
 unfold bE at h;split at h
 .rename_i h1;exact⟨eE.1 h1,Ay.1 h⟩
 .grind
def Ev {l:List Pt}{t:Rt}(ht:aS t)(h:bE l t≠0):Ans D 167 [F l,R t] [CL zC,.i64 (bE l t)]:=by
 refine am ?_;unfold Sr;unfold bE at h|-;by_cases h1:gn l=0
 .rw[ad h1] at h|-;simp[bv,bm,phi (tR l),phi (c43 ht),h1,EV,h,UA]
 .rw[ac h1] at h|-;simp[bv,bm,phi (tR l),EV,h,UA]
section
variable (t:Rt)(l:List Pt)
def yN:KHeap:=if bE l t=0 then fC t l else zKH
def uD:KTourn:=if bE l t=0 then iL t l else zKT
def yO:Heater:=if bE l t=0 then mi t l else zHT
def yP:KHeap:=if bE l t=0 then mj t l else zKH
end
section
variable {l:List Pt}{t:Rt}(ht:aS t)
include ht
theorem ahm:Ans D 76 [F l,R t] [KH (yN t l),.i64 (bE l t)]:=by
 unfold yN;by_cases h:bE l t=0
 .obtain⟨h1,h2⟩:=v6 h;rw[ad h,h];exact c55 h1 ht h2
 .rw[ac h];refine am ?_;unfold k55;simp[bv,bm,phi (Ev ht h),c9,EV,h,Uz]
theorem ahn:Ans D 77 [F l,R t] [KT (uD t l),.i64 (bE l t)]:=by
 unfold uD;by_cases h:bE l t=0
 .obtain⟨h1,h2⟩:=v6 h;rw[ad h,h];exact c56 h1 ht h2
 .rw[ac h];refine am ?_;unfold k56;simp[bv,bm,phi (Ev ht h),c9,EV,h,ad3]
theorem aho:Ans D 78 [F l,R t] [HT (yO t l),.i64 (bE l t)]:=by
 unfold yO;by_cases h:bE l t=0
 .obtain⟨h1,h2⟩:=v6 h;rw[ad h,h];exact c57 h1 ht h2
 .rw[ac h];refine am ?_;unfold k57;simp[bv,bm,phi (Ev ht h),c9,EV,h,ad4]
theorem ahp:Ans D 79 [F l,R t] [KH (yP t l),.i64 (bE l t)]:=by
 unfold yP;by_cases h:bE l t=0
 .obtain⟨h1,h2⟩:=v6 h;rw[ad h,h];exact c58 h1 ht h2
 .rw[ac h];refine am ?_;unfold k58;simp[bv,bm,phi (Ev ht h),c9,EV,h,Uz]
end
def ml (c:Choice)(e:Int):Choice:=if e=0 then c else zCH
def c59 (c:Choice)(e:Int):Ans D 80 [CHO c,.i64 e] [CHO (ml c e),.i64 e]:=by
 refine am ?_;unfold k59 ml;simp[gR,EV];by_cases h:e=0
 .subst h;rfl
 .simp[h];rfl
def dy (tag:Int)(l:List Pt)(t:Rt):Choice:=if tag=1 then⟨1,yN t l,zKT,zHT,zKH⟩ else if tag=2 then⟨2,zKH,uD t l,zHT,zKH⟩ else if tag=3 then⟨3,zKH,zKT,yO t l,zKH⟩ else⟨4,zKH,zKT,zHT,yP t l⟩
def eL (l:List Pt)(t:Rt):Int:=if bE l t=0 then cU t else bE l t
def ot (tag:Int)(l:List Pt)(t:Rt):List PV:=if tag=1\/tag=2\/tag=3\/tag=4 then [CHO (ml (dy tag l t) (eL l t)),.i64 (eL l t)] else [CHO zCH,.i64 2]
def R9 {tag:Int}{l:List Pt}{t:Rt}:(ot tag l t).length=2:=by unfold ot;split<;>rfl
def c20 (tag:Int){l:List Pt}{t:Rt}(ht:aS t):Ans D 31 [.v (.int .u8 tag),F l,R t] (ot tag l t):=by
 have hk:=λ(c:Choice) (e:Int)=>phi (c59 c e);refine an (hl:=R9) ⟨1,?_⟩;unfold k20;simp only[ay,bv,bm,u8E,EV,aa];by_cases t1:tag=1
 .subst t1;rw[ad rfl];simp only[ay,EV,phi (ahm (l:=l) ht),jO,kh0,kh1,kh2,kh3,kh4,kh5,kh6,kh7,kh8,kh9,Yi,Yj];unfold AX;simp only[EV,aa];by_cases hb:bE l t=0
  .rw[ad hb];have hE:eL l t=cU t:=ad hb;simp only[ay,EV,phi (c44 ht)];unfold q9;simp only[ay,EV,Yk,hk,gR];rw[show ot 1 l t=[CHO (ml (dy 1 l t) (eL l t)),.i64 (eL l t)] from rfl,hE];rfl
  .rw[ac hb];have hE:eL l t=bE l t:=ac hb;unfold q9;simp only[ay,EV,Yk,hk,gR];rw[show ot 1 l t=[CHO (ml (dy 1 l t) (eL l t)),.i64 (eL l t)] from rfl,hE];rfl
 by_cases t2:tag=2
 .subst t2;rw[ac (by decide),ad rfl];simp only[ay,EV,phi (ahn (l:=l) ht),vL,kt0,kt1,kt2,kt3,kt4,kt5,kt6,kt7,kt8,kt9,ahg,ahh,ahi,EB];unfold AX;simp only[EV,aa];by_cases hb:bE l t=0
  .rw[ad hb];have hE:eL l t=cU t:=ad hb;simp only[ay,EV,phi (c44 ht)];unfold q9;simp only[ay,EV,Yl,hk,gR];rw[show ot 2 l t=[CHO (ml (dy 2 l t) (eL l t)),.i64 (eL l t)] from rfl,hE];rfl
  .rw[ac hb];have hE:eL l t=bE l t:=ac hb;unfold q9;simp only[ay,EV,Yl,hk,gR];rw[show ot 2 l t=[CHO (ml (dy 2 l t) (eL l t)),.i64 (eL l t)] from rfl,hE];rfl
 by_cases t3:tag=3
 .subst t3;rw[ac (by decide),ac (by decide),ad rfl];simp only[ay,EV,phi (aho (l:=l) ht),vM,ht0,ht1,ht2,ht3,ht4,ht5,ht6,ht7,ht8,ht9,ahj,ahk,ahl,Mc,EB];unfold AX;simp only[EV,aa];by_cases hb:bE l t=0
  .rw[ad hb];have hE:eL l t=cU t:=ad hb;simp only[ay,EV,phi (c44 ht)];unfold q9;simp only[ay,EV,Ym,hk,gR];rw[show ot 3 l t=[CHO (ml (dy 3 l t) (eL l t)),.i64 (eL l t)] from rfl,hE];rfl
  .rw[ac hb];have hE:eL l t=bE l t:=ac hb;unfold q9;simp only[ay,EV,Ym,hk,gR];rw[show ot 3 l t=[CHO (ml (dy 3 l t) (eL l t)),.i64 (eL l t)] from rfl,hE];rfl
 by_cases t4:tag=4
 .subst t4;rw[ac (by decide),ac (by decide),ac (by decide),ad rfl];simp only[ay,EV,phi (ahp (l:=l) ht),jO,kh0,kh1,kh2,kh3,kh4,kh5,kh6,kh7,kh8,kh9,Yi,Yj,Mc,EB];unfold AX;simp only[EV,aa];by_cases hb:bE l t=0
  .rw[ad hb];have hE:eL l t=cU t:=ad hb;simp only[ay,EV,phi (c44 ht)];unfold q9;simp only[ay,EV,Yn,hk,gR];rw[show ot 4 l t=[CHO (ml (dy 4 l t) (eL l t)),.i64 (eL l t)] from rfl,hE];rfl
  .rw[ac hb];have hE:eL l t=bE l t:=ac hb;unfold q9;simp only[ay,EV,Yn,hk,gR];rw[show ot 4 l t=[CHO (ml (dy 4 l t) (eL l t)),.i64 (eL l t)] from rfl,hE];rfl
 rw[ac t1,ac t2,ac t3,ac t4];simp only[EV,zS];unfold ot;rw[ac (by omega)];rfl
def NL {t:Rt}(h:rok t=true):cU t=0\/cU t=2:=by
 unfold cU
 grind
def ahq:okE true=0:=rfl
structure ChW (c:Choice):Prop where
 h1:gW c.heap.clock/\ c.heap.heap.length<=1000
 h2:gW c.tourn.clock/\ c.tourn.brk.places.length<=1000/\ c.tourn.brk.wins.length<=1000
 h3:gW c.heater.clock/\ c.heater.tree.nodes.length<=1000
 h4:gW c.hanger.clock/\ c.hanger.heap.length<=1000
end Go.Proofs.YtoeigdpfcnaaeaaGreat
