import Derived.Test.YtoeigdpfcnaaeaaGreatC3
import Derived.Test.YtoeigdpfcnaaeaaGreatC1
import Derived.Test.YtoeigdpfcnaaeaaGreatP1
set_option linter.unusedVariables false
set_option linter.unusedSimpArgs false
set_option linter.defProp false
noncomputable section
namespace Go.Proofs.YtoeigdpfcnaaeaaGreat
open Go.Sym Bnd
set_option maxRecDepth 100000
def d67 {l:List Pt}(hl:l.length<=1000):Ans D 66 [sl row l] [sl row l]:=by
 refine am ?_;unfold k67;simp only[EV,ah,aa];have h1:den (bx D) 1 N9 [] [sl row l,.i64 (l.length:Int),.bool (decide ((l.length:Int)=0))]=some [sl row l]:=by
  unfold N9;simp[EV,iZ (l:=l) (f:=row) (bytes:=24) (z:=3) (by omega) b6,bI]
 by_cases h:(l.length:Int)=0
 .have:l=[]:=bS (by omega);subst this;rw[ad h];exact o7 rfl h1
 .grind
def Np {l:List Held}(hl:l.length<=1000):Ans D 365 [sl hrow l] [sl hrow l]:=by
 refine am ?_;unfold aed;simp only[EV,ah,aa];have h1:den (bx D) 1 Jq [] [sl hrow l,.i64 (l.length:Int),.bool (decide ((l.length:Int)=0))]=some [sl hrow l]:=by
  unfold Jq;simp[EV,iZ (l:=l) (f:=hrow) (bytes:=24) (z:=3) (by omega) fL,bI]
 by_cases h:(l.length:Int)=0
 .have:l=[]:=bS (by omega);subst this;rw[ad h];exact o7 rfl h1
 .grind
def ZO {l:List Due}(hl:l.length<=1000):Ans D 366 [sl cp l] [sl cp l]:=by
 refine am ?_;unfold aee;simp only[EV,ah,aa];have h1:den (bx D) 1 Jr [] [sl cp l,.i64 (l.length:Int),.bool (decide ((l.length:Int)=0))]=some [sl cp l]:=by
  unfold Jr;simp[EV,iZ (l:=l) (f:=cp) (bytes:=24) (z:=3) (by omega) po,bI]
 by_cases h:(l.length:Int)=0
 .have:l=[]:=bS (by omega);subst this;rw[ad h];exact o7 rfl h1
 .grind
def Ul {l:List Evt}(hl:l.length<=1000):Ans D 367 [sl bV l] [sl bV l]:=by
 refine am ?_;unfold aef;simp only[EV,ah,aa];have h1:den (bx D) 1 Jt [] [sl bV l,.i64 (l.length:Int),.bool (decide ((l.length:Int)=0))]=some [sl bV l]:=by
  unfold Jt;simp[EV,iZ (l:=l) (f:=bV) (bytes:=40) (z:=5) (by omega) j8,bI]
 by_cases h:(l.length:Int)=0
 .have:l=[]:=bS (by omega);subst this;rw[ad h];exact o7 rfl h1
 .grind
def ZP {l:List Int}(hl:l.length<=1000):Ans D 449 [sl I1 l] [sl I1 l]:=by
 refine am ?_;unfold ae4;simp only[EV,ah,aa];have h1:den (bx D) 1 JO [] [sl I1 l,.i64 (l.length:Int),.bool (decide ((l.length:Int)=0))]=some [sl I1 l]:=by
  unfold JO;simp[EV,iZ (l:=l) (f:=I1) (bytes:=8) (z:=1) (by omega) ct,bI]
 by_cases h:(l.length:Int)=0
 .have:l=[]:=bS (by omega);subst this;rw[ad h];exact o7 rfl h1
 .grind
structure SSm (s:Slots):Prop where
 u:s.u.length<=1000
 v:s.v.length<=1000
 f:s.f.length<=1000
structure ASm (a:Agenda):Prop where
 s:SSm a.s
 heap:a.heap.length<=1000
 w:a.w.length<=1000
structure CSm (c:Clock):Prop where
 p:c.p.length<=1000
 q:c.q.l.length<=1000
 a:ASm c.a
 d:c.d.length<=1000
def Um (l:List Pt):RF.ev .agg [sl row l]=some (F l):=rfl
def ZQ {l:List Pt}(hl:l.length<=1000):Ans D 287 [F l] [F l]:=by
 refine am ?_;unfold ada;simp[aY,cv,iZ (l:=l) (f:=row) (bytes:=24) (z:=3) (by omega) b6,EV,bI,Um]
def Nq (c:Certs):RF.ev .agg [.i64 c.next,sl hrow c.l]=some (CS c):=rfl
def ZR {c:Certs}(hl:c.l.length<=1000):Ans D 377 [CS c] [CS c]:=by
 refine am ?_;unfold aeq;simp[ji,nN,fM,iZ (l:=c.l) (f:=hrow) (bytes:=24) (z:=3) (by omega) fL,EV,bI,Nq]
def Fv (s:Slots):RF.ev .agg [sl I1 s.u,sl B1 s.v,sl I1 s.f]=some (SL s):=rfl
def Un {s:Slots}(h:SSm s):Ans D 428 [SL s] [SL s]:=by
 obtain⟨h1,h2,h3⟩:=h;refine am ?_;unfold aeV;simp[jy,kZ,oo,lV,iZ (l:=s.u) (f:=I1) (bytes:=8) (z:=1) (by omega) ct,iZ (l:=s.f) (f:=I1) (bytes:=8) (z:=1) (by omega) ct,iZ (l:=s.v) (f:=B1) (bytes:=1) (z:=1) (by omega) wF,EV,bI,Fv]
def ZS {s:Slots}(h:SSm s):Ans D 440 [SL s] [SL s]:=by
 obtain⟨h1,h2,h3⟩:=h;refine am ?_;unfold ae1;simp[jy,kZ,oo,lV,phi (rG h1),phi (Na h2),EV,bI,Fv]
def Wn (a:Agenda):RF.ev .agg [sl I1 a.s.u,sl B1 a.s.v,sl I1 a.s.f,sl bV a.heap,sl I1 a.w]=some (AG a):=rfl
def ai9 (a:Agenda):RF.ev (.part 0 3) [AG a]=some (SL a.s):=rfl
def cAG0 (a:Agenda):RF.ev (.cell 0) [AG a]=some (sl I1 a.s.u):=rfl
def cAG1 (a:Agenda):RF.ev (.cell 1) [AG a]=some (sl B1 a.s.v):=rfl
def cAG2 (a:Agenda):RF.ev (.cell 2) [AG a]=some (sl I1 a.s.f):=rfl
def Uo {a:Agenda}(h:ASm a):Ans D 378 [AG a] [AG a]:=by
 obtain⟨h1,h2,h3⟩:=h;refine am ?_;unfold aer;simp[jk,ai9,phi (Un h1),jy,kZ,oo,lV,fV,lX,iZ (l:=a.heap) (f:=bV) (bytes:=40) (z:=5) (by omega) j8,iZ (l:=a.w) (f:=I1) (bytes:=8) (z:=1) (by omega) ct,EV,bI,Wn]
def ZT {a:Agenda}(h:ASm a):Ans D 404 [AG a] [AG a]:=by
 obtain⟨h1,h2,h3⟩:=h;refine am ?_;unfold aeP;simp[jk,cAG0,cAG1,cAG2,fV,lX,phi (Ul h2),phi (rG h3),EV,bI,Wn]
section
variable (c:Clock)
def mN:RF.ev (.cell 0) [CL c]=some (.i64 c.n.num):=rfl
def mO:RF.ev (.cell 1) [CL c]=some (.i64 c.n.den):=rfl
def py:RF.ev (.cell 3) [CL c]=some (.i64 c.q.next):=rfl
def lY:RF.ev (.cell 5) [CL c]=some (sl I1 c.a.s.u):=rfl
def lZ:RF.ev (.cell 6) [CL c]=some (sl B1 c.a.s.v):=rfl
def l5:RF.ev (.cell 7) [CL c]=some (sl I1 c.a.s.f):=rfl
def dE:RF.ev .agg [.i64 c.n.num,.i64 c.n.den,sl row c.p,.i64 c.q.next,sl hrow c.q.l,sl I1 c.a.s.u,sl B1 c.a.s.v,sl I1 c.a.s.f,sl bV c.a.heap,sl I1 c.a.w,sl cp c.d]=some (CL c):=rfl
def ZU:RF.ev .agg [R c.n,sl row c.p,.i64 c.q.next,sl hrow c.q.l,sl I1 c.a.s.u,sl B1 c.a.s.v,sl I1 c.a.s.f,sl bV c.a.heap,sl I1 c.a.w,sl cp c.d]=some (CL c):=rfl
def cR0 (r:Rt):RF.ev (.cell 0) [R r]=some (.i64 r.num):=rfl
def cR1 (r:Rt):RF.ev (.cell 1) [R r]=some (.i64 r.den):=rfl
end
def wQ {c:Clock}(h:CSm c):Ans D 291 [CL c] [CL c]:=by
 obtain⟨h1,h2,h3,h4⟩:=h;refine am ?_;unfold adf;simp[bX,eZ,fN,oq,sP,dT,phi (ZQ h1),phi (ZR h2),phi (Uo h3),aY,ba,cv,cR0,cR1,ji,nN,fM,jk,cAG0,cAG1,cAG2,fV,lX,iZ (l:=c.d) (f:=cp) (bytes:=24) (z:=3) (by omega) po,EV,bI,dE]
def GF {c:Clock}(h:CSm c):Ans D 283 [CL c] [CL c]:=by
 obtain⟨h1,h2,⟨⟨h5,h6,h7⟩,h8,h9⟩,h4⟩:=h;refine am ?_;unfold ac6;simp[bX,mN,mO,k8,py,fO,lY,lZ,l5,iK,kf,dT,phi (d67 h1),phi (Np h2),phi (ZO h4),phi (Ul h8),phi (rG h9),phi (rG h5),phi (rG h7),phi (Na h6),EV,bI,dE]
def Up {c:Clock}(h:CSm c):Ans D 353 [CL c] [CL c]:=by
 obtain⟨h1,h2,⟨⟨h5,h6,h7⟩,h8,h9⟩,h4⟩:=h;refine am ?_;unfold ad8;simp[bX,eZ,k8,py,fO,lY,lZ,l5,iK,kf,dT,phi (d67 h1),phi (Np h2),phi (ZO h4),phi (Ul h8),phi (rG h9),phi (rG h5),phi (rG h7),phi (Na h6),EV,bI,ZU]
def sa {x y:Evt}:evLess x y=true↔crs x.time y.time<0\/(crs x.time y.time=0/\ x.n<y.n):=by
 unfold evLess sgn
 grind
def eJ (a b:Rt):crs b a= -crs a b:=by unfold crs;omega
def vr {a b c:Rt}(ha:0<a.den)(hb:0<b.den)(hc:0<c.den)(h1:crs a b<=0)(h2:crs b c<=0):crs a c<=0/\(crs a c=0->crs a b=0/\ crs b c=0):=by
 have e:crs a c*b.den=crs a b*c.den+crs b c*a.den:=by
  unfold crs
  grind
 have m1:crs a b*c.den<=0:=er h1 (by omega);have m2:crs b c*a.den<=0:=er h2 (by omega);constructor
 .apply sA.1;intro h;have:=AH h hb;omega
 .intro h;rw[h,p9] at e;have z1:crs a b*c.den=0:=by omega
  have z2:crs b c*a.den=0:=by omega
  exact⟨(uF.1 z1).resolve_right (by omega),(uF.1 z2).resolve_right (by omega)⟩
def mP {x y:Evt}(h:evLess x y=true):evLess y x=false:=by
 cases e:evLess y x with
 |false=>rfl
 |true=>
  rw[sa] at h e;rw[eJ x.time y.time] at e;omega
def GG {x y z:Evt}(hx:rok x.time=true)(hy:rok y.time=true)(hz:rok z.time=true)(h:evLess x y=true)(k:evLess y z=true):evLess x z=true:=by
 rw[sa] at*;have:=vr (a:=x.time) (b:=y.time) (c:=z.time) (by have:=eT hx;omega) (by have:=eT hy;omega) (by have:=eT hz;omega) (by omega) (by omega);omega
def sc {x y z:Evt}(hx:rok x.time=true)(hy:rok y.time=true)(hz:rok z.time=true)(h:evLess x y=false)(k:evLess y z=false):evLess x z=false:=by
 cases e:evLess x z with
 |false=>rfl
 |true=>
  have h':¬(evLess x y=true):=by simp[h]
  have k':¬(evLess y z=true):=by simp[k]
  rw[sa] at*;rw[eJ z.time x.time] at e;have:=vr (a:=z.time) (b:=y.time) (c:=x.time) (by have:=eT hz;omega) (by have:=eT hy;omega) (by have:=eT hx;omega) (by have:=eJ y.time z.time;omega) (by have:=eJ x.time y.time;omega);have e1:=eJ y.time z.time;have e2:=eJ x.time y.time;omega
def ED {x p s:Evt}(hx:rok x.time=true)(hp:rok p.time=true)(hs:rok s.time=true)(h:evLess x p=true)(k:evLess s p=false):evLess s x=false:=by
 cases e:evLess s x with
 |false=>rfl
 |true=>rw[GG hs hx hp e h] at k;cases k
structure SFine (s:Slots):Prop where
 n1:1<=s.u.length
 n2:s.u.length<=200
 len:s.v.length=s.u.length
 nd:s.f.Nodup
 rng:∀x∈s.f,0<=x/\ x<(s.u.length:Int)
 v:∀i:Nat,i<s.u.length->s.v[i]?=some (!decide ((i:Int)∈s.f))
 u:∀(i:Nat) (u:Int),s.u[i]?=some u->0<=u/\ u<=1000000/\(s.v[i]?=some true->1<=u)
def dN {s:Slots}:s.okR↔SFine s:=by
 unfold Slots.okR;constructor
 .rintro⟨h1,h2,h3,_,l,h5,h6⟩;obtain⟨m1,m2,m3,m4⟩:=nf.1 h5;rw[aQ] at m3 m4;have hl:∀i:Nat,i<s.u.length->l[i]?=some (decide ((i:Int)∈s.f)):=λi hi=>by
   grind
  have fact:∀(i:Nat) (u:Int),s.u[i]?=some u->0<=u/\ u<=1000000/\ s.v[i]?=some (!decide ((i:Int)∈s.f))/\(s.v[i]?=some true->1<=u):=λi u hu=>by
   have hi:=(aC.1 hu).1;obtain⟨b,hb⟩:∃b,s.v[i]?=some b:=⟨s.v[i]'(by omega),ai _⟩;obtain⟨q1,q2,q3,q4⟩:=h6 i u b _ hu hb (hl i hi);refine⟨q1,q2,?_,λh=>?_⟩
   .rw[hb];cases b<;>cases h:decide ((i:Int)∈s.f)<;>simp_all
   .rw[hb] at h;cases h;exact sA.1 λhlt=>q4 ⟨rfl,by omega⟩
  refine⟨h1,h2,h3,m2,λx hx=>?_,λi hi=>?_,λi u hu=>?_⟩
  .obtain⟨g1,g2,_⟩:=m1 x hx;rw[aQ] at g2;exact⟨g1,g2⟩
  .exact(fact i _ (ai hi)).2.2.1
  .obtain⟨q1,q2,_,q4⟩:=fact i u hu;exact⟨q1,q2,q4⟩
 .rintro⟨n1,n2,len,nd,rng,used,uses⟩;refine⟨n1,n2,len,ik nd rng,(List.range s.u.length).map λi:Nat=>decide ((i:Int)∈s.f),?_,λi u b c hu hb hc=>?_⟩
  .rw[nf];refine⟨λx hx=>?_,nd,by simp,λi hi=>?_⟩
   .obtain⟨g1,g2⟩:=rng x hx;rw[aQ];exact⟨g1,g2,by rw[eM,ad (by omega)]⟩
   .rw[aQ] at hi;rw[a8,jw hi,eM,ad hi];by_cases e:(i:Int)∈s.f<;>simp[e]
  .have hi:=(aC.1 hu).1;rw[a8,jw hi] at hc;simp only[cD,bZ] at hc;have hu':=used i hi;rw[hb] at hu';simp only[bZ] at hu';obtain⟨q1,q2,q3⟩:=uses i u hu;refine⟨q1,q2,?_,λ⟨h1,h2⟩=>?_⟩
   .rw[<-hc,hu'];cases decide ((i:Int)∈s.f)<;>simp
   .subst h1;have:=q3 hb;omega
def nD (s:Slots)(fr:List Int)(i:Nat)(u:Int):Slots:=⟨s.u.set i (u+1),s.v.set i true,fr⟩
def PK {s:Slots}(h:SFine s){fr:List Int}{i:Nat}{u:Int}(hf:s.f=fr++[(i:Int)])(hu:s.u[i]?=some u)(hm:u<1000000):SFine (nD s fr i u):=by
 obtain⟨n1,n2,len,nd,rng,used,uses⟩:=h;have hi:=(aC.1 hu).1;rw[hf,eY] at nd;obtain⟨nd1,_,nd2⟩:=nd;have hni:(i:Int)∉fr:=λhm'=>nd2 _ hm' _ (by simp) rfl;unfold nD;refine⟨by simpa using n1,by simpa using n2,by simpa using len,nd1,λx hx=>?_,λj hj=>?_,λj v hv=>?_⟩
 .simp only[aP];exact rng x (by rw[hf];simp[hx])
 .simp only[aP] at hj|-;by_cases e:i=j
  .subst e;rw[bv (by omega)];simp[hni]
  .rw[bB e,used j hj,hf];have:((j:Int)∈fr++[(i:Int)])↔(j:Int)∈fr:=by
    simp only[b9,cJ];exact⟨λh=>h.resolve_right (by omega),.inl⟩
   simp only[this]
 .simp only at hv|-;by_cases e:i=j
  .subst e;rw[bv hi] at hv;cases hv;obtain⟨q1,q2,_⟩:=uses i u hu;exact⟨by omega,by omega,λ_=>by omega⟩
  .rw[bB e] at hv|-;exact uses j v hv
def agp {fr k:List Int}:RF.ev (.tsub 1) [sl I1 (fr++k),.v (.int .i64 0),.v (.int .i64 (fr.length:Int))]=some (sl I1 fr):=by
 have he:d8 1 ((fr++k).map I1)=true:=by
  cases h:fr++k with
  |nil=>rfl
  |cons a l=>simp[d8,ct]
 rw[zn,ad ⟨by omega,by omega,by simp;omega,he,by decide⟩];simp
def wR {n:Nat}(h:n<1000000000):IntKind.i64.wrap (((n+1:Nat):Int)-1)=(n:Int):=tS h
def ZV {fr:List Int}{i:Int}(hl:fr.length<=900):Ans D 439 [sl I1 (fr++[i])] [sl I1 fr,.i64 i]:=by
 have bn:RF.ev .bnd [.v (.int .i64 (fr.length:Int)),.v (.int .i64 ((fr.length+1:Nat):Int))]=some (.i64 (fr.length:Int)):=by rw[kq,ad ⟨by omega,by omega⟩]
 have hx:(fr++[i])[fr.length]?=some i:=by simp
 refine am ?_;unfold ae0;simp only[EV,ah,aD,aN,wR (show fr.length<1000000000 by omega),bn,agp,phi (ZP (l:=fr) (by omega)),aT hx (ct _),aM hx,cZ,bI]
def mn (s:Slots):Bool:=match s.f.getLast? with
 |some x=>match s.u[x.toNat]? with
  |some u=>decide (u<1000000)
  |none=>false
 |none=>false
def free_last {s:Slots}(h:SFine s):s.f=[]\/∃(fr:List Int) (i:Nat) (u:Int),s.f=fr++[(i:Int)]/\ s.u[i]?=some u/\ fr.length<200/\ i<s.u.length:=by
 rcases kU s.f with e|⟨fr,x,e⟩
 .exact .inl e
 .right
  rw[List.concat_eq_append] at e;have hx:=h.rng x (by rw[e];simp);have hb:=ik h.nd h.rng;rw[e,aD,aN] at hb;have:=h.n2;exact⟨fr,x.toNat,s.u[x.toNat]'(by omega),by rw[e];congr 2;omega,ai _,by omega,by omega⟩
def wS {s:Slots}{fr:List Int}{i:Nat}{u:Int}(h:s.f=fr++[(i:Int)])(hu:s.u[i]?=some u):mn s=decide (u<1000000):=by
 unfold mn
 grind
def ZW {s:Slots}(h:SFine s):Ans D 380 [SL s] [.bool (mn s)]:=by
 refine am ?_;unfold aeB;rcases free_last h with e|⟨fr,i,u,e,hu,h1,h2⟩
 .have:mn s=false:=by unfold mn;rw[e];rfl
  simp only[jy,lV,e,EV,this];rw[ac (by decide)];unfold JE;simp[EV]
 .have hx:(fr++[(i:Int)])[fr.length]?=some (i:Int):=by simp
  simp only[jy,lV,kZ,e,EV,ah,aD,aN,wR (show fr.length<1000000000 by omega),aT hx (ct _),aM hx,aT hu (ct _),aM hu,cZ,wS e hu]
  rw[ad (aq (by omega))];unfold JE;simp only[EV]
def Fw:PV:= .agg [.sl [],.sl [],.sl []]
def By {s:Slots}(h:SFine s):SSm s:=⟨by have:=h.n2;omega,by have:=h.n2;have:=h.len;omega,by have:=ik h.nd h.rng;have:=h.n2;omega⟩
def aja {s:Slots}(h:SFine s){fr:List Int}{i:Nat}{u:Int}(e:s.f=fr++[(i:Int)])(hu:s.u[i]?=some u)(hm:u<1000000):Ans D 429 [SL s] [SL (nD s fr i u),HD ⟨i,u+1⟩]:=by
 have hi:=aO hu;have hb:=ik h.nd h.rng;have n2:=h.n2;rw[e,aD,aN] at hb;have hx:(fr++[(i:Int)])[fr.length]?=some (i:Int):=by simp
 have bn:RF.ev .bnd [.v (.int .i64 (fr.length:Int)),.v (.int .i64 ((fr.length+1:Nat):Int))]=some (.i64 (fr.length:Int)):=by rw[kq,ad ⟨by omega,by omega⟩]
 have wu:IntKind.i64.wrap (u+1)=u+1:=cU (by have:=(h.u i u hu).1;omega) (by omega);have hu':(s.u.set i (u+1))[i]?=some (u+1):=by rw[bv hi]
 have sb:RF.ev .sub [sl I1 (fr++[(i:Int)]),.v (.int .i64 0),.v (.int .i64 (fr.length:Int))]=some (sl I1 fr):=by
  rw[xG,ad (by simp;omega)];simp
 have s1:=bI (f:=I1) (l:=s.u.set i (u+1));rw[aP] at s1;have s2:=bI (f:=B1) (l:=s.v.set i true);rw[aP] at s2;refine am ?_;unfold aeW;simp only[ay,jy,phi (Un (By h)),kZ,oo,lV,e,EV,ah,aD,aN,wR (show fr.length<1000000000 by omega),ixM (show fr.length<fr.length+1 by omega),aM hx,cZ,bn,ixM hi,aM hu,wu,fy hi,ixM (show i<s.v.length by rw[h.len];exact hi),M6 (show i<s.v.length by rw[h.len];exact hi),aM hu',s1,s2,sb]
 rfl
def H0:PV:= .agg [.i64 0,.i64 0]
def Wo:RF.ev .agg [.sl [],.sl [],.sl []]=some Fw:=rfl
def Nr:RF.ev .agg [.v (.int .i64 0),.v (.int .i64 0)]=some H0:=rfl
def wT {s:Slots}(h:SFine s):gSl s=false:=by
 have:=h.n2;have:=h.len;have:=ik h.nd h.rng;unfold gSl
 grind
open Classical in
def ajb {s:Slots}(h:SFine s){fr:List Int}{i:Nat}{u:Int}(e:s.f=fr++[(i:Int)])(hu:s.u[i]?=some u)(hm:u<1000000):Ans D 408 [SL s] [SL (nD s fr i u),HD ⟨i,u+1⟩,.i64 0]:=by
 have hi:=aO hu;have hb:=ik h.nd h.rng;have n2:=h.n2;rw[e,aD,aN] at hb;have hc:=phi (Nb (wT h));rw[aq (dN.2 h)] at hc;have e0:okE true=0:=rfl;rw[e0] at hc;have wu:IntKind.i64.wrap (u+1)=u+1:=cU (by have:=(h.u i u hu).1;omega) (by omega);have hu':(s.u.set i (u+1))[i]?=some (u+1):=by rw[bv hi]
 have s1:=bI (f:=I1) (l:=s.u.set i (u+1));rw[aP] at s1;have s2:=bI (f:=B1) (l:=s.v.set i true);rw[aP] at s2;refine am ?_;unfold UT;simp only[ay,jy,hc,lV,EV,ah,aA,aF,au,aw];have hne:¬((s.f.length:Nat):Int)=0:=by rw[e];simp;omega
 have c4:=phi (ZV (fr:=fr) (i:=(i:Int)) (by omega));rw[<-e] at c4;simp only[hne,be,au,aw,ay,c4,kZ,aT hu (ct _),aM hu,cZ,EV,aa];rw[ac (by omega)];simp only[ay,jy,phi (ZS (By h)),kZ,oo,EV,ah,ixM (show i<s.v.length by rw[h.len];exact hi),M6 (show i<s.v.length by rw[h.len];exact hi),ixM hi,aM hu,cZ,wu,fy hi,aM hu',s1,s2]
 rfl
def nfree (n:Nat):List Int:=(List.range n).map λi:Nat=>((n-1-i:Nat):Int)
def qq (n:Nat):Slots:=⟨List.replicate n 0,List.replicate n false,nfree n⟩
def tY {n i:Nat}(h:i<n):(nfree n)[i]?=some ((n-1-i:Nat):Int):=by
 unfold nfree
 grind
def gk (n:Nat):(nfree n).length=n:=by simp[nfree]
def EE {n:Nat}(h1:1<=n)(h2:n<=200):SFine (qq n):=by
 unfold qq;have hm:∀i:Nat,i<n->(i:Int)∈nfree n:=λi hi=>bk.2 ⟨n-1-i,dc.2 (by omega),by omega⟩;refine⟨by simpa using h1,by simpa using h2,by simp,?_,λx hx=>?_,λi hi=>?_,λi u hu=>?_⟩
 .rw[List.Nodup,dR];intro i j hi hj hij e;have a:=tY (n:=n) (i:=i) (by rw[gk] at hi;exact hi);have b:=tY (n:=n) (i:=j) (by rw[gk] at hj;exact hj);rw[gk] at hi hj
  grind
 .obtain⟨k,hk,rfl⟩:=bk.1 hx
  grind
 .grind
 .grind
def Ns {n i:Nat}(h:¬i<n):(nfree n)[i]?=none:=bD (by rw[gk];omega)
def Uq (n i:Nat):(nfree n)[i]?=if i<n then some ((n-1-i:Nat):Int) else none:=by
 by_cases h:i<n
 .rw[ad h,tY h]
 .rw[ac h,Ns h]
def agq {n i:Nat}(h:i<n):((nfree n).take i++List.replicate (n-i) 0).set i ((n-1-i:Nat):Int)=(nfree n).take (i+1)++List.replicate (n-(i+1)) 0:=by
 refine c8 λk=>?_;simp only[nT,ja,eM,iv,aD,aQ,aR,gk,Uq,bM (show i<=n by omega),bM (show i+1<=n by omega)]
 repeat' split
 all_goals first|rfl|omega|(congr 1;omega)
def ZX {n:Nat}(h:n<=1000):RF.ev (.rep [(.v (.bool false))] 1) [.v (.int .i64 (n:Int)),.v (.int .i64 (n:Int))]=some (sl B1 (List.replicate n false)):=by
 rw[Pi,ad ⟨by omega,by omega,by omega,by omega⟩,aG];unfold sl;rw[rA];rfl
def ajc {n:Nat}(h1:1<=n)(h2:n<=200):Ans D 346 [.i64 (n:Int)] [SL (qq n),.i64 0]:=by
 refine an ⟨1001,?_⟩;unfold adX;simp only[EV,aa];rw[ac (by omega),ac (by omega)];have r1:=yj (n:=n) (by omega);have r2:=ZX (n:=n) (by omega);simp only[r1,r2,ay,EV,ah,aQ];have e0:([sl I1 (List.replicate n 0),PV.v (.int .i64 0)]:List PV)=[sl I1 ((nfree n).take 0++List.replicate (n-0) 0),.i64 ((0:Nat):Int)]:=by simp
 rw[e0];refine(eG (m:=1001) (n:=n) (st:=λi=>[sl I1 ((nfree n).take i++List.replicate (n-i) 0),.i64 (i:Int)]) (fin:=some [SL (qq n),.i64 0]) (λi self hi=>?_) (λself=>?_) (by omega))
 .have hlen:((nfree n).take i++List.replicate (n-i) 0).length=n:=by simp[gk];omega
  have w1:IntKind.i64.wrap ((n:Int)-1)=((n-1:Nat):Int):=by rw[cU (by omega) (by omega)];omega
  have w2:IntKind.i64.wrap (((n-1:Nat):Int)-(i:Int))=((n-1-i:Nat):Int):=by rw[cU (by omega) (by omega)];omega
  have st:=fy (l:=(nfree n).take i++List.replicate (n-i) 0) (i:=i) (by rw[hlen];exact hi) ((n-1-i:Nat):Int);rw[agq hi] at st;unfold Ji;simp only[EV,aa,bj hi,w1,w2,ixM hi,st,up1 (show i<1000000000 by omega)]
 .have e1:(nfree n).take n++List.replicate (n-n) 0=nfree n:=by rw[bi (by rw[gk];omega)];simp
  have s0:=bI (f:=I1) (l:=List.replicate n (0:Int));have s1:=bI (f:=B1) (l:=List.replicate n false);have s2:=bI (f:=I1) (l:=nfree n);rw[aQ] at s0 s1;rw[gk] at s2;unfold Ji;simp only[EV,aa,bK,Sb,e1,s0,s1,s2];rfl
def ajd {n:Nat}(h1:1<=n)(h2:n<=200):Ans D 373 [.i64 (n:Int)] [SL (qq n)]:=by
 refine an ⟨1001,?_⟩;unfold ael;have r1:=yj (n:=n) (by omega);have r2:=ZX (n:=n) (by omega);have w1:IntKind.i64.wrap ((n:Int)-1)=(n:Int)-1:=cU (by omega) (by omega);simp only[r1,r2,ay,EV,ah,aQ,w1];have e0:([PV.sl [],PV.v (.int .i64 0),PV.v (.int .i64 ((n:Int)-1))]:List PV)=[sl I1 ((nfree n).take 0),.i64 ((0:Nat):Int),.i64 ((n:Int)-1-((0:Nat):Int))]:=by simp
 rw[e0];refine(eG (m:=1001) (n:=n) (st:=λk=>[sl I1 ((nfree n).take k),.i64 (k:Int),.i64 ((n:Int)-1-(k:Int))]) (fin:=some [SL (qq n)]) (λk self hk=>?_) (λself=>?_) (by omega))
 .have hlen:((nfree n).take k).length=k:=by rw[aR,gk];omega
  have ap:RF.ev (.app 8 1) [sl I1 ((nfree n).take k),.v (.int .i64 (k:Int)),sl I1 [(n:Int)-1-(k:Int)]]=some (sl I1 ((nfree n).take (k+1))):=by
   have:=eF (f:=I1) (l:=(nfree n).take k) (k:=[(n:Int)-1-(k:Int)]) (bytes:=8) (z:=1) (by rw[hlen];simp;omega) ct;rw[hlen] at this;rw[this,cA,tY hk];have:((n-1-k:Nat):Int)=(n:Int)-1-(k:Int):=by omega
   rw[this];rfl
  have hlen':((nfree n).take (k+1)).length=k+1:=by rw[aR,gk];omega
  have hdn:IntKind.i64.wrap ((n:Int)-1-(k:Int)-1)=(n:Int)-1-((k+1:Nat):Int):=by rw[cU (by omega) (by omega)];omega
  unfold Jw;simp only[EV,aa,ad (show(0:Int)<=(n:Int)-1-(k:Int) by omega),bsI,nB,ap,ah,hlen',hdn]
 .have e1:(nfree n).take n=nfree n:=bi (by rw[gk];omega);have s0:=bI (f:=I1) (l:=List.replicate n (0:Int));have s1:=bI (f:=B1) (l:=List.replicate n false);have s2:=bI (f:=I1) (l:=nfree n);rw[aQ] at s0 s1;rw[gk] at s2;unfold Jw;simp only[EV,aa,ac (show¬(0:Int)<=(n:Int)-1-(n:Int) by omega),Sg,e1,s0,s1,s2]
  rfl
def pA (n:Nat):Agenda:=⟨qq n,[],List.replicate n (-1)⟩
def aje {n:Nat}(h1:1<=n)(h2:n<=200):Ans D 288 [.i64 (n:Int)] [AG (pA n)]:=by
 refine an ⟨1001,?_⟩;unfold adb;simp only[phi (ajd h1 h2),ay,jy,EV];have e0:([PV.sl [],PV.v (.int .i64 0),PV.v (.int .i64 0)]:List PV)=[sl I1 (List.replicate 0 (-1)),.i64 ((0:Nat):Int),.i64 ((0:Nat):Int)]:=by simp
 rw[e0];refine(eG (m:=1001) (n:=n) (st:=λk=>[sl I1 (List.replicate k (-1)),.i64 (k:Int),.i64 (k:Int)]) (fin:=some [AG (pA n)]) (λk self hk=>?_) (λself=>?_) (by omega))
 .have ap:RF.ev (.app 8 1) [sl I1 (List.replicate k (-1)),.v (.int .i64 (k:Int)),sl I1 [-1]]=some (sl I1 (List.replicate (k+1) (-1))):=by
   have:=eF (f:=I1) (l:=List.replicate k (-1)) (k:=[-1]) (bytes:=8) (z:=1) (by simp;omega) ct;rw[aQ] at this;rw[this,xZ]
  unfold I5;simp only[EV,aa,bj hk,bsI,nB,ap,ah,aQ,up1 (show k<1000000000 by omega)]
 .have s0:=bI (f:=I1) (l:=List.replicate n (-1:Int));rw[aQ] at s0;have pS:RF.ev (.part 0 3) [SL (qq n)]=some (SL (qq n)):=rfl;unfold I5;simp only[EV,aa,bK,RP,s0,pS];rfl
def rpt (n k:Nat):List Int:=List.replicate k (-1)++List.replicate (n-k) 0
def XW {n k:Nat}(h:k<=n):(rpt n k).length=n:=by unfold rpt;simp;omega
def Ur {n k m:Nat}(h:k+m<=n):(rpt n k).take k++List.replicate m (-1)++(rpt n k).drop (k+m)=rpt n (k+m):=by
 unfold rpt;rw[iG (by simp),oI,da (l:=List.replicate k (-1)) (by simp)];simp only[aQ,aI,List.drop_replicate,bg];rw[<-bg,pe]
 congr 2
 omega
def Us {L S:List Int}{k:Nat}(h:k<=L.length):RF.ev (.appK 0 1) [sl I1 L,.v (.int .i64 (k:Int)),sl I1 S]=some (sl I1 (L.take k++S++L.drop (k+S.length))):=by
 have he:d8 1 (S.map I1)=true:=by
  cases S with
  |nil=>rfl
  |cons a k=>simp[d8,ct]
 show(if(0:Int)<=k/\(k:Int)<=((L.map I1).length:Nat)/\((k:Int).toNat+(S.map I1).length)*0<=140737488355328/\ d8 1 (S.map I1)=true then some (PV.sl ((L.map I1).take (k:Int).toNat++S.map I1++(L.map I1).drop ((k:Int).toNat+(S.map I1).length))) else none)=_
 simp_all
def ZY {L:List Int}{k:Nat}(h:k<=L.length):RF.ev .sub [sl I1 L,.v (.int .i64 0),.v (.int .i64 (k:Int))]=some (sl I1 (L.take k)):=by
 rw[xG,ad (by simp;omega)];simp
def GH {N n:Nat}(hn:n<=1000){f0:JT}{e0 e1 e2 e3 e4 e5 e6 e7 e8 e9 e10 e12 e13 e14 e15 e16:PV}:∀(r k m:Nat),n-k<=r->r<m->1<=k->k<=n->
  dl (bx D) N vG [f0] [e0,e1,e2,e3,e4,e5,e6,e7,e8,e9,e10,.i64 (n:Int),e12,e13,e14,e15,e16] m [sl I1 (rpt n k),.i64 (k:Int)]=f0 [sl I1 (rpt n n)]
 |0,k,m,h,hm,h1,h2=>by
  obtain⟨m,rfl⟩:∃m',m=m'+1:=⟨m-1,by omega⟩;have:k=n:=by omega
  subst this;rw[bu];unfold vG;simp[EV]
 |r+1,k,m,h,hm,h1,h2=>by
  obtain⟨m,rfl⟩:∃m',m=m'+1:=⟨m-1,by omega⟩;by_cases hk:k=n
  .subst hk;rw[bu];unfold vG;simp[EV]
  .have ih:=GH (N:=N) hn (f0:=f0) (e0:=e0) (e1:=e1) (e2:=e2) (e3:=e3) (e4:=e4) (e5:=e5) (e6:=e6) (e7:=e7) (e8:=e8) (e9:=e9) (e10:=e10) (e12:=e12) (e13:=e13) (e14:=e14) (e15:=e15) (e16:=e16) r (k+min (n-k) k) m (by omega) (by omega) (by omega) (by omega);have bn:RF.ev .bnd [.v (.int .i64 (k:Int)),.v (.int .i64 (n:Int))]=some (.i64 (k:Int)):=by rw[kq,ad ⟨by omega,by omega⟩]
   have dd:(n:Int)-(k:Int)=((n-k:Nat):Int):=by omega
   have hl:=XW (n:=n) h2;have tk:(rpt n k).take k=List.replicate k (-1):=by unfold rpt;exact iG (by simp)
   have s1:=ZY (L:=rpt n k) (k:=k) (by omega);rw[tk] at s1;have a1:RF.ev (.appK 0 1) [.sl [],.v (.int .i64 0),sl I1 (List.replicate k (-1))]=some (sl I1 (List.replicate k (-1))):=by
    have:=Us (L:=[]) (S:=List.replicate k (-1)) (k:=0) (by simp);simp at this;exact this
   have mm:RF.ev (.mm false) [.v (.int .i64 ((n-k:Nat):Int)),.v (.int .i64 (k:Int))]=some (.i64 ((min (n-k) k:Nat):Int)):=by
    rw[mmN];congr 3;omega
   have s2:=ZY (L:=List.replicate k (-1)) (k:=min (n-k) k) (by simp;omega);rw[List.take_replicate,show min (min (n-k) k) k=min (n-k) k by omega] at s2
   have a2:=Us (L:=rpt n k) (S:=List.replicate (min (n-k) k) (-1)) (k:=k) (by omega);rw[aQ,Ur (by omega)] at a2;have wk:IntKind.i64.wrap ((k:Int)+((min (n-k) k:Nat):Int))=((k+min (n-k) k:Nat):Int):=by rw[cU (by omega) (by omega)];omega
   rw[bu];generalize hkk:vG=kk at ih;subst hkk;unfold vG;simp only[EV,aa];rw[ad (by omega)];simp[EV,bn,dd,s1,a1,mm,s2,a2,wk];exact ih
def ajf {x y:Nat}(hx:x<18446744073709551616)(hy:y<18446744073709551616):Ans D 273 [U x,U y] [U (x*y/18446744073709551616),U (x*y% 18446744073709551616)]:=by
 refine am ?_;unfold acZ;simp[EV,phi (TT hx hy)]
def ZZ {n:Nat}(h1:1<=n)(h2:n<=1000):Ans D 179 [sl I1 [-1],.i64 (n:Int)] [sl I1 (List.replicate n (-1))]:=by
 have m1:=phi (ajf (x:=1) (y:=n) (by omega) (by omega));rw[vb,Nat.div_eq_of_lt (by omega),Nat.mod_eq_of_lt (by omega)] at m1;have cu:IntKind.u64.wrap (n:Int)=(n:Int):=wu (by omega);have cu1:IntKind.u64.wrap ((1:Nat):Int)=((1:Nat):Int):=wu (by omega);have ci:IntKind.i64.wrap (n:Int)=(n:Int):=cU (by omega) (by omega);have r1:=yj (n:=n) h2;have a1:RF.ev (.appK 0 1) [.sl [],.v (.int .i64 0),sl I1 [-1]]=some (sl I1 [-1]):=rfl;have mm:RF.ev (.mm false) [.v (.int .i64 (n:Int)),.v (.int .i64 ((1:Nat):Int))]=some (.i64 ((1:Nat):Int)):=by
  rw[mmN];congr 3;omega
 have s2:RF.ev .sub [sl I1 [-1],.v (.int .i64 0),.v (.int .i64 ((1:Nat):Int))]=some (sl I1 [-1]):=rfl;have a2:=Us (L:=List.replicate n 0) (S:=[-1]) (k:=0) (by simp);have e2:(List.replicate n (0:Int)).take 0++[-1]++(List.replicate n (0:Int)).drop (0+[(-1:Int)].length)=rpt n 1:=by
  unfold rpt;simp
 rw[e2] at a2;have a2:RF.ev (.appK 0 1) [sl I1 (List.replicate n 0),.v (.int .i64 0),sl I1 [-1]]=some (sl I1 (rpt n 1)):=a2;refine an ⟨1001,?_⟩;unfold ab5;simp only[EV,aa];rw[ac (by omega)];have cu1':IntKind.u64.wrap (([[PV.i64 (-1)]].length:Nat):Int)=((1:Nat):Int):=cu1;simp only[ah,aN,cu,cu1];have m1:bx D 273 [.v (.int .u64 ((1:Nat):Int)),.v (.int .u64 (n:Int))]=some [U 0,U n]:=m1;simp only[m1,ay,EV,U,aa];rw[ac (by decide)];unfold Q3;simp only[EV];have g0:decide ((n:Int)>9223372036854775807)=false:=ak (by omega);simp only[g0,au,aw,EV,ci,r1,ah,aQ,a1,aN,mm,s2,a2];refine(GH (N:=1001) (n:=n) h2 n 1 1001 (by omega) (by omega) (by omega) h1).trans ?_;have e3:rpt n n=List.replicate n (-1):=by unfold rpt;simp
 have s3:=bI (f:=I1) (l:=List.replicate n (-1:Int));rw[aQ] at s3;unfold Q2;simp only[EV,e3,s3]
def Wp (l:List Int):RF.ev .flatL [sl I1 l]=some (sl I1 l):=by
 have:(l.map I1).flatten.all isV=true:=by
  induction l with
  |nil=>rfl
  |cons a l ih=>simp[I1,isV]
 show(if _ then _ else _)=_
 grind
def pSL (s:Slots):RF.ev (.part 0 3) [SL s]=some (SL s):=rfl
def ajg {n:Nat}(h1:1<=n)(h2:n<=200):Ans D 258 [.i64 (n:Int)] [AG (pA n),.i64 0]:=by
 have s3:=bI (f:=I1) (l:=List.replicate n (-1:Int));rw[aQ] at s3;refine am ?_;unfold acM;simp only[phi (ajc h1 h2),jy,EV,bsI,nB,phi (ZZ (n:=n) h1 (by omega)),ah,aQ,pSL,Wp,s3];rfl
def nQ (c:Certs)(x:Crt):Certs:=⟨c.next+1,c.l++[⟨c.next,x⟩]⟩
def PL {c:Certs}{x:Crt}(h:dp c)(hx:x.ok)(hn:∀g∈c.l,g.c≠x)(h1:c.l.length<200)(h2:c.next<1000000):dp (nQ c x):=by
 obtain⟨a1,a2,a3,a4⟩:=h;unfold nQ;refine⟨by simp;omega,by simp only;omega,by simp only;omega,λi g hg=>?_⟩;simp only at hg|-;by_cases e:i<c.l.length
 .rw[aH e] at hg;obtain⟨q1,q2,q3,q4,q5⟩:=a4 i g hg;refine⟨q1,q2,by omega,λg' h0 hg'=>?_,λk hk g' hg'=>?_⟩
  .rw[aH (by omega)] at hg';exact q4 g' h0 hg'
  .rw[aH (by omega)] at hg';exact q5 k hk g' hg'
 .have hi:i=c.l.length:=by
   have:=aO hg;simp at this;omega
  subst hi;rw[bP (aB _),js] at hg;simp only[jE,bZ] at hg;subst hg;refine⟨hx,a2,by simp only;omega,λg' h0 hg'=>?_,λk hk g' hg'=>?_⟩
  .rw[aH (by omega)] at hg';exact(a4 _ g' hg').2.2.1
  .rw[aH hk] at hg';exact hn g' (ax hg')
def Wq (n:Int)(x:Crt):RF.ev .agg [.i64 n,CP x]=some (HP ⟨n,x⟩):=rfl
def bsH (h:Held):RF.ev (.bs 1 [KP.z,KP.z,KP.z] [0]) [HP h]=some (sl hrow [h]):=rfl
def Wr (h:Held):RF.ev .sub [sl hrow [h],.v (.int .i64 0),.v (.int .i64 1)]=some (sl hrow [h]):=rfl
def PM (n:Int)(l:List Held):RF.ev .agg [.i64 n,sl hrow l]=some (CS ⟨n,l⟩):=rfl
def pCP (x:Crt):RF.ev (.part 0 2) [CP x]=some (CP x):=rfl
def Z0 {c:Certs}{x:Crt}(h:c.l.length<200):RF.ev (.app 24 3) [sl hrow c.l,.v (.int .i64 (c.l.length:Int)),sl hrow [⟨c.next,x⟩]]=some (sl hrow (c.l++[⟨c.next,x⟩])):=
 eF (f:=hrow) (l:=c.l) (k:=[⟨c.next,x⟩]) (bytes:=24) (z:=3) (by simp;omega) fL
open Classical in
def Z1 {c:Certs}{x:Crt}(h:dp c)(hx:x.ok)(hn:∀g∈c.l,g.c≠x)(h1:c.l.length<200)(h2:c.next<1000000):Ans D 382 [CS c,CP x] [CS (nQ c x),.i64 c.next,.i64 0]:=by
 have e0:okE true=0:=rfl;have m1:=phi (T3 c);rw[aq h,e0] at m1;have m2:=phi (TZ x);rw[aq hx] at m2;have m3:=phi (Gg (c:=c) (x:=x) (by omega));rw[show(c.l.any λh=>decide (h.c=x))=false from by rw[dZ];intro g hg;simpa using hn g hg] at m3
 have w:IntKind.i64.wrap (c.next+1)=c.next+1:=cU (by have:=h.2.1;omega) (by omega);have s1:=bI (f:=hrow) (l:=c.l++[⟨c.next,x⟩]);refine am ?_;unfold UR;simp[ji,j9,m1,m2,m3,nN,fM,EV];rw[ac (by omega),ac (by omega)];simp only[phi (ZR (c:=c) (by omega)),ji,nN,fM,pCP,Wq,bsH,Wr,EV,ah,Z0 h1,w,s1,PM];rfl
open Classical in
def Z2 {c:Certs}{x:Crt}(h:dp c)(hx:x.ok)(hn:∀g∈c.l,g.c≠x)(h1:c.l.length<200)(h2:c.next<1000000):Ans D 352 [CS c,CP x] [CS (nQ c x),.i64 c.next,.i64 0]:=by
 have e0:okE true=0:=rfl;have m1:=phi (Nc (c:=c) (by omega));rw[aq h,e0] at m1;have m2:=phi (T2 x);rw[aq hx] at m2;have w:IntKind.i64.wrap (c.next+1)=c.next+1:=cU (by have:=h.2.1;omega) (by omega);have s1:=bI (f:=hrow) (l:=c.l++[⟨c.next,x⟩]);refine an ⟨1001,?_⟩;unfold UP;simp only[ay,ji,j9,m1,m2,fM,EV,ah,aA,aF,au,aw];refine(cL (m:=1001) (l:=c.l) (p:=λg=>!decide (g.c=x)) (st:=λi=>[.i64 (i:Int)]) (r:=none) (fin:=some [CS (nQ c x),.i64 c.next,.i64 0]) (λi g self hg _=>?_) (λhall self=>?_) (by omega)).trans ?_
 .unfold yM;simp only[ay,fM,aT hg (fL _),aM hg,kY,pHP,wH,EV,aa,bj (aO hg),up1 (show i<1000000000 by have:=aO hg;omega)]
  grind
 .unfold yM Jp;simp only[ay,nN,fM,EV,ah,aa,bK];rw[ac (by decide),ac (by omega),ac (by omega)];simp only[ay,phi (Np (l:=c.l) (by omega)),nN,pCP,Wq,bsH,Wr,EV,ah,Z0 h1,w,s1,PM];rfl
 .grind
structure Plc (s:Slots)(hp:List Evt)(wh:List Int):Prop where
 len:wh.length=s.u.length
 at_:∀(k:Nat) (e:Evt),hp[k]?=some e->∃(j:Nat) (u:Int),e.h=⟨(j:Int),u⟩/\ s.v[j]?=some true/\ s.u[j]?=some u/\ wh[j]?=some (k:Int)
 of_:∀j:Nat,s.v[j]?=some true->∃(k:Nat) (e:Evt) (u:Int),wh[j]?=some (k:Int)/\ hp[k]?=some e/\ s.u[j]?=some u/\ e.h=⟨(j:Int),u⟩
 off:∀j:Nat,s.v[j]?=some false->wh[j]?=some (-1)
def bo {α:Type}{l:List α}{i:Nat}{a:α}(h:l[i]?=some a):i<l.length:=(aC.1 h).1
def wW {s:Slots}{hp:List Evt}{wh:List Int}(h:Plc s hp wh){i k:Nat}{e f:Evt}(hi:hp[i]?=some e)(hk:hp[k]?=some f)(hne:i≠k):
  Plc s ((hp.set i f).set k e) ((wh.set f.h.i.toNat (i:Int)).set e.h.i.toNat (k:Int)):=by
 obtain⟨je,ue,e1,e2,e3,e4⟩:=h.at_ i e hi;obtain⟨jf,uf,f1,f2,f3,f4⟩:=h.at_ k f hk;have hi':=bo hi;have hk':=bo hk;have we:=bo e4;have wf:=bo f4;have hj:je≠jf:=λq=>by
  grind
 rw[e1,f1];simp only[aG];have W:∀j:Nat,((wh.set jf (i:Int)).set je (k:Int))[j]?=if j=je then some (k:Int) else if j=jf then some (i:Int) else wh[j]?:=λj=>by
  grind
 have P:∀m:Nat,((hp.set i f).set k e)[m]?=if m=k then some e else if m=i then some f else hp[m]?:=λm=>by
  grind
 refine⟨by simpa using h.len,λm g hg=>?_,λj hu=>?_,λj hu=>?_⟩
 .rw[P] at hg;by_cases a:m=k
  .subst a;rw[ad rfl] at hg;cases hg;exact⟨je,ue,e1,e2,e3,by rw[W,ad rfl]⟩
  .rw[ac a] at hg;by_cases b:m=i
   .subst b;rw[ad rfl] at hg;cases hg;exact⟨jf,uf,f1,f2,f3,by rw[W,ac (λq=>hj q.symm),ad rfl]⟩
   .rw[ac b] at hg;obtain⟨j,u,g1,g2,g3,g4⟩:=h.at_ m g hg;refine⟨j,u,g1,g2,g3,?_⟩;rw[W,ac,ac,g4]
    .rintro rfl;rw[f4] at g4;simp only[bZ] at g4;omega
    .rintro rfl;rw[e4] at g4;simp only[bZ] at g4;omega
 .by_cases a:j=je
  .subst a;exact⟨k,e,ue,by rw[W,ad rfl],by rw[P,ad rfl],e3,e1⟩
  .by_cases b:j=jf
   .subst b;exact⟨i,f,uf,by rw[W,ac a,ad rfl],by rw[P,ac hne,ad rfl],f3,f1⟩
   .obtain⟨m,g,u,g1,g2,g3,g4⟩:=h.of_ j hu;refine⟨m,g,u,by rw[W,ac a,ac b,g1],?_,g3,g4⟩;rw[P,ac,ac,g2]
    .rintro rfl;rw[hi] at g2;cases g2;rw[e1] at g4;simp only[Hnd.mk.injEq] at g4;omega
    .rintro rfl;rw[hk] at g2;cases g2;rw[f1] at g4;simp only[Hnd.mk.injEq] at g4;omega
 .have a:j≠je:=λq=>by subst q;rw[e2] at hu;cases hu
  have b:j≠jf:=λq=>by subst q;rw[f2] at hu;cases hu
  rw[W,ac a,ac b];exact h.off j hu
def AP {s:Slots}(hs:SFine s){hp:List Evt}{wh:List Int}(h:Plc s hp wh){fr:List Int}{i:Nat}{u:Int}{x:Evt}(e:s.f=fr++[(i:Int)])(hu:s.u[i]?=some u)(hx:x.h=⟨(i:Int),u+1⟩):
  Plc (nD s fr i u) (hp++[x]) (wh.set i (hp.length:Int)):=by
 have hi:=bo hu;have hui:s.v[i]?=some false:=by rw[hs.v i hi,e];simp
 have hul:=bo hui;have hw:i<wh.length:=by rw[h.len];exact hi
 have U:∀j:Nat,(s.v.set i true)[j]?=if j=i then some true else s.v[j]?:=λj=>by
  grind
 have V:∀j:Nat,(s.u.set i (u+1))[j]?=if j=i then some (u+1) else s.u[j]?:=λj=>by
  grind
 have W:∀j:Nat,(wh.set i (hp.length:Int))[j]?=if j=i then some (hp.length:Int) else wh[j]?:=λj=>by
  grind
 unfold nD;refine⟨by simpa using h.len,λm g hg=>?_,λj hj=>?_,λj hj=>?_⟩
 .by_cases a:m<hp.length
  .rw[aH a] at hg;obtain⟨j,v,g1,g2,g3,g4⟩:=h.at_ m g hg;have b:j≠i:=λq=>by subst q;rw[hui] at g2;cases g2
   exact⟨j,v,g1,by simp only[U,ac b,g2],by simp only[V,ac b,g3],by simp only[W,ac b,g4]⟩
  .have hm:=bo hg;rw[aD,aN] at hm;have:m=hp.length:=by omega
   subst this;rw[bP (aB _),js] at hg;simp only[jE,bZ] at hg;subst hg;exact⟨i,u+1,hx,by simp only[U,az],by simp only[V,az],by simp only[W,az]⟩
 .simp only[U] at hj;by_cases a:j=i
  .subst a;exact⟨hp.length,x,u+1,by simp only[W,az],by simp,by simp only[V,az],hx⟩
  .rw[ac a] at hj;obtain⟨k,g,v,g1,g2,g3,g4⟩:=h.of_ j hj;exact⟨k,g,v,by simp only[W,ac a,g1],by rw[aH (bo g2)];exact g2,by simp only[V,ac a,g3],g4⟩
 .simp only[U] at hj;by_cases a:j=i
  .subst a;rw[ad rfl] at hj;cases hj
  .rw[ac a] at hj;simp only[W,ac a];exact h.off j hj
def fF (hp:List Evt)(i k:Nat)(e f:Evt):List Evt:=(hp.set i f).set k e
def iL (wh:List Int)(i k:Nat)(e f:Evt):List Int:=(wh.set f.h.i.toNat (i:Int)).set e.h.i.toNat (k:Int)
def upS:Nat->List Evt->List Int->Nat->List Evt×List Int×Nat
 |0,hp,wh,i=>(hp,wh,i)
 |n+1,hp,wh,i=>match hp[i]?,hp[(i-1)/2]? with
  |some e,some p=>if 0<i/\ evLess e p=true then upS n (fF hp i ((i-1)/2) e p) (iL wh i ((i-1)/2) e p) ((i-1)/2) else(hp,wh,i)
  |_,_=>(hp,wh,i)
def Fx (hp:List Evt)(i:Nat):Prop:=
 (∀(c:Nat) (e p:Evt),0<c->c≠i->hp[c]?=some e->hp[(c-1)/2]?=some p->evLess e p=false)/\
 ∀(c:Nat) (e p:Evt),0<i->0<c->(c-1)/2=i->hp[c]?=some e->hp[(i-1)/2]?=some p->evLess e p=false
def Ord (hp:List Evt):Prop:=∀(c:Nat) (e p:Evt),0<c->hp[c]?=some e->hp[(c-1)/2]?=some p->evLess e p=false
def swp_get {hp:List Evt}{i k:Nat}{e f:Evt}(hi:hp[i]?=some e)(hk:hp[k]?=some f)(m:Nat):(fF hp i k e f)[m]?=if m=k then some e else if m=i then some f else hp[m]?:=by
 unfold fF
 grind
def qr {hp:List Evt}{i k:Nat}{e f:Evt}(hi:hp[i]?=some e)(hk:hp[k]?=some f):(fF hp i k e f).Perm hp:=by
 unfold fF
 grind
def Ut {hp:List Evt}{i:Nat}{e p:Evt}(hr:∀x∈hp,rok x.time=true)(ho:Fx hp i)(h0:0<i)(hi:hp[i]?=some e)(hp':hp[(i-1)/2]?=some p)(hl:evLess e p=true):Fx (fF hp i ((i-1)/2) e p) ((i-1)/2):=by
 obtain⟨o1,o2⟩:=ho;have re:=hr e (ax hi);have rp:=hr p (ax hp');have G:=swp_get hi hp';refine⟨λc x q c0 cn hx hq=>?_,λc x q k0 c0 hc hx hq=>?_⟩
 .rw[G] at hx hq;rw[ac cn] at hx;by_cases a:c=i
  .subst a;rw[ad rfl] at hx hq;cases hx;cases hq;exact mP hl
  .rw[ac a] at hx;by_cases b:(c-1)/2=(i-1)/2
   .rw[ad b] at hq;cases hq;have:=o1 c x p c0 a hx (by rw[b];exact hp');exact ED re rp (hr x (ax hx)) hl this
   .rw[ac b] at hq;by_cases d:(c-1)/2=i
    .rw[ad d] at hq;cases hq;exact o2 c x p h0 c0 d hx hp'
    .rw[ac d] at hq;exact o1 c x q c0 a hx hq
 .rw[G] at hx hq;rw[ac (by omega)] at hx;rw[ac (by omega),ac (by omega)] at hq;have up:=o1 ((i-1)/2) p q k0 (by omega) hp' hq;by_cases a:c=i
  .subst a;rw[ad rfl] at hx;cases hx;exact up
  .rw[ac a] at hx;have:=o1 c x p c0 a hx (by rw[hc];exact hp');exact sc (hr x (ax hx)) rp (hr q (ax hq)) this up
def Bz {s:Slots}:∀(n:Nat) (hp:List Evt) (wh:List Int) (i:Nat),i<=n->i<hp.length->(∀x∈hp,rok x.time=true)->Fx hp i->Plc s hp wh->
  Ord (upS n hp wh i).1/\(upS n hp wh i).1.Perm hp/\ Plc s (upS n hp wh i).1 (upS n hp wh i).2.1/\(upS n hp wh i).1[(upS n hp wh i).2.2]?=hp[i]?/\(upS n hp wh i).2.2<=i
 |0,hp,wh,i,hn,hi,hr,ho,hP=>by
  have:i=0:=by omega
  subst this;exact⟨λc e p c0 he hp'=>ho.1 c e p c0 (by omega) he hp',.refl _,hP,rfl,aB _⟩
 |n+1,hp,wh,i,hn,hi,hr,ho,hP=>by
  obtain⟨e,he⟩:∃e,hp[i]?=some e:=⟨hp[i],ai _⟩;obtain⟨p,hp'⟩:∃p,hp[(i-1)/2]?=some p:=⟨hp[(i-1)/2]'(by omega),ai _⟩;unfold upS;rw[he,hp'];simp only;by_cases hc:0<i/\ evLess e p=true
  .rw[ad hc];obtain⟨h0,hl⟩:=hc;have pm:=qr he hp';obtain⟨q1,q2,q3,q4,q5⟩:=Bz n (fF hp i ((i-1)/2) e p) (iL wh i ((i-1)/2) e p) ((i-1)/2) (by omega) (by rw[pm.length_eq];omega) (λx hx=>hr x (pm.mem_iff.1 hx)) (Ut hr ho h0 he hp' hl) (wW hP he hp' (by omega));refine⟨q1,q2.trans pm,q3,?_,by omega⟩;rw[q4,swp_get he hp',ad rfl]
  .rw[ac hc];refine⟨λc x q c0 hx hq=>?_,.refl _,hP,he,aB _⟩;by_cases a:c=i
   .subst a;rw[he] at hx;cases hx;rw[hp'] at hq;cases hq;cases hl:evLess e p with
    |false=>rfl
    |true=>exact absurd ⟨c0,hl⟩ hc
   .exact ho.1 c x q c0 a hx hq
def sS {α:Type}(p:α->Bool):∀l:List α,l.length=(l.filter p).length+(l.filter λx=>!p x).length
 |[]=>rfl
 |a::l=>by
  have:=sS p l;rw[cS,cS];cases p a<;>simp<;>omega
def pB {a:Agenda}(hs:SFine a.s)(hp:qT a):Plc a.s a.heap a.w:=by
 obtain⟨p1,p2,p3⟩:=hp;have hlen:=hs.len;have get:∀j:Nat,j<a.s.u.length->∃b w u,a.s.v[j]?=some b/\ a.w[j]?=some w/\ a.s.u[j]?=some u:=λj hj=>
  ⟨_,_,_,ai (by omega),ai (by omega),ai hj⟩
 have of_:∀j:Nat,a.s.v[j]?=some true->∃(k:Nat) (e:Evt) (u:Int),a.w[j]?=some (k:Int)/\ a.heap[k]?=some e/\ a.s.u[j]?=some u/\ e.h=⟨(j:Int),u⟩:=λj hj=>by
  grind
 refine⟨p1,λk e hk=>?_,of_,λj hj=>?_⟩
 ·
  let W:Nat->Nat:=λj=>((a.w[j]?).getD 0).toNat
  let U:Nat->Bool:=λj=>decide (a.s.v[j]?=some true)
  have hnd:(((List.range a.s.u.length).filter U).map W).Nodup:=by
   rw[List.Nodup,iY];refine List.Pairwise.imp_of_mem (R:=λx y=>x≠y) (λ{x y} hx hy hne=>?_) (List.nodup_range.filter _);intro h;obtain⟨k1,e1,u1,g1,g2,_,g4⟩:=of_ x (by have:=(bF.1 hx).2;exact aX this);obtain⟨k2,e2,u2,f1,f2,_,f4⟩:=of_ y (by have:=(bF.1 hy).2;exact aX this);simp only[W,g1,f1,cC,aG] at h;subst h;rw[g2] at f2;cases f2;rw[g4] at f4;simp only[Hnd.mk.injEq] at f4;omega
  have hsub:∀x∈((List.range a.s.u.length).filter U).map W,x∈List.range a.heap.length:=λx hx=>by
   obtain⟨j,hj,rfl⟩:=bk.1 hx;obtain⟨k1,e1,u1,g1,g2,_,g4⟩:=of_ j (by have:=(bF.1 hj).2;exact aX this);simp only[W,g1,cC,aG,dc];exact bo g2
  have hfree:((List.range a.s.u.length).filter λj=>!U j).length<=a.s.f.length:=by
   have:=vC (l:=((List.range a.s.u.length).filter λj=>!U j).map λj:Nat=>(j:Int)) (k:=a.s.f) (by
    rw[List.Nodup,iY];exact(List.nodup_range.filter _).imp λh e=>h (by omega)) (λx hx=>by
     obtain⟨j,hj,rfl⟩:=bk.1 hx;obtain⟨h1,h2⟩:=bF.1 hj;rw[dc] at h1;have hu:=hs.v j h1;simp only[U,aE,aj] at h2;by_cases hm:(j:Int)∈a.s.f
     .exact hm
     .exact absurd (by rw[hu];simp[hm]) h2)
   simpa using this
  have hsplit:=sS U (List.range a.s.u.length);rw[nU] at hsplit;have hperm:=m8 hnd hsub (by rw[nU,ah];omega);have hk':k∈((List.range a.s.u.length).filter U).map W:=hperm.mem_iff.2 (dc.2 (bo hk));obtain⟨j,hj,hjk⟩:=bk.1 hk';have hju:a.s.v[j]?=some true:=by have:=(bF.1 hj).2;exact aX this
  obtain⟨k1,e1,u1,g1,g2,g3,g4⟩:=of_ j hju;simp only[W,g1,cC,aG] at hjk;subst hjk;rw[hk] at g2;cases g2;exact⟨j,u1,g4,hju,g3,g1⟩
 .obtain⟨b,w,u,h1,h2,h3⟩:=get j (by have:=bo hj;omega);have:=p3 j false w u hj h2 h3;rw[ac (by simp)] at this;rw[h2,this]
def PN {a:Agenda}(h:Plc a.s a.heap a.w)(hl:a.heap.length+a.s.f.length=a.s.u.length):qT a:=by
 refine⟨h.len,hl,λj b w u hb hw hu=>?_⟩;cases b with
 |true=>
  obtain⟨k,e,v,g1,g2,g3,g4⟩:=h.of_ j hb
  grind
 |false=>
  have:=h.off j hb
  grind
def iA (a:Agenda)(fr:List Int)(i:Nat)(u:Int)(t:Rt)(n:Int):Agenda:=
 let r:=upS (a.heap.length+1) (a.heap++[⟨t,n,⟨i,u+1⟩⟩]) (a.w.set i (a.heap.length:Int)) a.heap.length
 ⟨nD a.s fr i u,r.1,r.2.1⟩
def ym {a:Agenda}(h:eR a):Ord a.heap:=λc e p c0 he hp=>by
 have:=h.2.2.2.2 (c-1) e p (by rw[show c-1+1=c by omega];exact he) hp
 exact this
def zP {a:Agenda}(h:eR a){fr:List Int}{i:Nat}{u:Int}(hf:a.s.f=fr++[(i:Int)])(hu:a.s.u[i]?=some u)(hm:u<1000000){t:Rt}{n:Int}(hx:rok t=true/\ 0<=n/\ n<=1000000)(hn:n∉a.heap.map (·.n)):
  eR (iA a fr i u t n)/\(iA a fr i u t n).heap.Perm (a.heap++[⟨t,n,⟨i,u+1⟩⟩])/\(iA a fr i u t n).w.length=a.w.length:=by
 have hs:=dN.1 h.1;have hP:=pB hs h.2.1;have hP':=AP hs hP hf hu (x:=⟨t,n,⟨i,u+1⟩⟩) rfl;have hs':=PK hs hf hu hm;have hl:=h.2.1.2.1;have hr:∀x∈a.heap++[(⟨t,n,⟨i,u+1⟩⟩:Evt)],qo x:=λx hx'=>by
  rcases b9.1 hx' with h1|h1
  .exact h.2.2.1 x h1
  .rw[cJ] at h1;subst h1;exact hx
 have hex:Fx (a.heap++[⟨t,n,⟨i,u+1⟩⟩]) a.heap.length:=by
  refine⟨λc e p c0 cn he hp=>?_,λc e p _ c0 hc he _=>?_⟩
  .have h1:=bo he;rw[aD,aN] at h1;rw[aH (by omega)] at he hp;exact ym h c e p c0 he hp
  .grind
 obtain⟨q1,q2,q3,_,_⟩:=Bz (s:=nD a.s fr i u) (a.heap.length+1) (a.heap++[⟨t,n,⟨i,u+1⟩⟩]) (a.w.set i (a.heap.length:Int)) a.heap.length (by omega) (by simp) (λx hx'=>(hr x hx').1) hex hP';unfold iA;refine⟨⟨dN.2 hs',PN q3 ?_,λe he=>hr e (q2.mem_iff.1 he),?_,λc e p he hp=>?_⟩,q2,?_⟩
 .simp only;rw[q2.length_eq];unfold nD;rw[hf] at hl;simp only[aD,aN,aP] at hl|-;omega
 .have pm:((upS (a.heap.length+1) (a.heap++[(⟨t,n,⟨i,u+1⟩⟩:Evt)]) (a.w.set i (a.heap.length:Int)) a.heap.length).1.map (·.n)).Perm ((a.heap++[(⟨t,n,⟨i,u+1⟩⟩:Evt)]).map (·.n)):=q2.map _;refine pm.nodup_iff.2 ?_;rw[dU,eY];refine⟨h.2.2.2.1,by simp,λx hx1 y hy e=>?_⟩;simp only[bY,tI,cJ] at hy;subst hy;subst e;exact hn hx1
 .exact q1 (c+1) e p (by omega) he (by simpa using hp)
 .have l1:=q3.len;have l2:=hP.len;simp only;rw[l1,l2];unfold nD;simp
def zQ {l:List Evt}{i:Nat}(h:i<l.length)(f:Evt):RF.ev (.set 0) [sl bV l,.v (.int .i64 (i:Int)),EP f]=some (sl bV (l.set i f)):=by
 obtain⟨e,he⟩:∃e,l[i]?=some e:=⟨l[i],ai h⟩;have hs:nY (bV e) 0 (bV f)=bV f:=rfl;rw[xH,ad (by omega),aG,a8,he];simp only[cD,show(EP f).cells=bV f from rfl,show(bV f).length=5 from rfl,show(bV e).length=5 from rfl]
 simp_all
def BA (t:Rt)(n:Int)(h:Hnd):RF.ev .agg [R t,.i64 n,HD h]=some (EP ⟨t,n,h⟩):=rfl
def bsE (e:Evt):RF.ev (.bs 1 [KP.z,KP.z,KP.z,KP.z,KP.z] [0]) [EP e]=some (sl bV [e]):=rfl
def Ws (e:Evt):RF.ev .sub [sl bV [e],.v (.int .i64 0),.v (.int .i64 1)]=some (sl bV [e]):=rfl
def DC {i:Nat}(h0:0<i)(h:i<1000000):dC .quo .i64 (IntKind.i64.wrap ((i:Int)-1)) .i64 2=some (.v (.int .i64 (((i-1)/2:Nat):Int))):=by
 obtain⟨k,rfl⟩:∃k,i=k+1:=⟨i-1,by omega⟩;exact M7 (by omega)
def Au {s:Slots}{N:Nat}{f0:JT}{e0 e1 e2 e3 e4 e5 e6 e7 e8 e9 e10 e11 e12 e13 e14 e15 e17 e18 e19 e20 e21 e22 e23 e24 e25 e26 e27 e28 e29 e30 e32 e33 e34 e35 e36:PV}{H W:Nat}(hH:H<=1000):∀(r i m:Nat) (hp:List Evt) (wh:List Int),i<=r->r<m->i<H->hp.length=H->wh.length=W->(∀x∈hp,aS x.time)->Plc s hp wh->
  dl (bx D) N vM [f0] [e0,e1,e2,e3,e4,e5,e6,e7,e8,e9,e10,e11,e12,e13,e14,e15,.i64 (W:Int),e17,e18,e19,e20,e21,e22,e23,e24,e25,e26,e27,e28,e29,e30,.i64 (H:Int),e32,e33,e34,e35,e36] m [.i64 (i:Int),sl bV hp,sl I1 wh]=f0 [.i64 ((upS r hp wh i).2.2:Int),sl I1 (upS r hp wh i).2.1,sl bV (upS r hp wh i).1]
 |0,i,m,hp,wh,hi,hm,hiH,hl,hw,h64,hP=>by
  obtain⟨m,rfl⟩:∃m',m=m'+1:=⟨m-1,by omega⟩;have:i=0:=by omega
  subst this;rw[bu];unfold vM upS;simp only[EV,aa];rw[ac (by omega)]
 |r+1,i,m,hp,wh,hi,hm,hiH,hl,hw,h64,hP=>by
  obtain⟨m,rfl⟩:∃m',m=m'+1:=⟨m-1,by omega⟩;obtain⟨e,he⟩:∃e,hp[i]?=some e:=⟨hp[i],ai _⟩;obtain⟨p,hp'⟩:∃p,hp[(i-1)/2]?=some p:=⟨hp[(i-1)/2]'(by omega),ai _⟩;have E:upS (r+1) hp wh i=if 0<i/\ evLess e p=true then upS r (fF hp i ((i-1)/2) e p) (iL wh i ((i-1)/2) e p) ((i-1)/2) else(hp,wh,i):=by rw[upS,he,hp']
  rw[E,bu];by_cases h0:0<i
  rotate_left
  .rw[ac (λh=>h0 h.1)];unfold vM;simp only[EV,aa];rw[ac (by omega)]
  .have pm:=qr he hp';have ih:=Au (s:=s) (N:=N) (f0:=f0) (e0:=e0) (e1:=e1) (e2:=e2) (e3:=e3) (e4:=e4) (e5:=e5) (e6:=e6) (e7:=e7) (e8:=e8) (e9:=e9) (e10:=e10) (e11:=e11) (e12:=e12) (e13:=e13) (e14:=e14) (e15:=e15) (e17:=e17) (e18:=e18) (e19:=e19) (e20:=e20) (e21:=e21) (e22:=e22) (e23:=e23) (e24:=e24) (e25:=e25) (e26:=e26) (e27:=e27) (e28:=e28) (e29:=e29) (e30:=e30) (e32:=e32) (e33:=e33) (e34:=e34) (e35:=e35) (e36:=e36) (H:=H) (W:=W) hH r ((i-1)/2) m (fF hp i ((i-1)/2) e p) (iL wh i ((i-1)/2) e p) (by omega) (by omega) (by omega) (by rw[pm.length_eq];exact hl) (by unfold iL;simpa using hw) (λx hx=>h64 x (pm.mem_iff.1 hx)) (wW hP he hp' (by omega))
   have cm:=phi (Gf (h64 e (ax he)) (h64 p (ax hp')));obtain⟨je,ue,g1,_,_,g4⟩:=hP.at_ i e he;obtain⟨jp,up,k1,_,_,k4⟩:=hP.at_ _ p hp';have wje:je<W:=by rw[<-hw];exact bo g4
   have wjp:jp<W:=by rw[<-hw];exact bo k4
   have q2:=DC h0 (by omega);have ge:(fF hp i ((i-1)/2) e p)[(i-1)/2]?=some e:=by rw[swp_get he hp',ad rfl]
   have gp:(fF hp i ((i-1)/2) e p)[i]?=some p:=by rw[swp_get he hp',ac (by omega),ad rfl]
   have s1:=zQ (l:=hp) (i:=i) (by omega) p;have s2:RF.ev (.set 0) [sl bV (hp.set i p),.v (.int .i64 (((i-1)/2:Nat):Int)),EP e]=some (sl bV (fF hp i ((i-1)/2) e p)):=zQ (by rw[aP];omega) e;have ie:e.h.i=(je:Int):=by rw[g1]
   have ip:p.h.i=(jp:Int):=by rw[k1]
   have s3:=fy (l:=wh) (i:=jp) (by omega) (i:Int);have s4:RF.ev (.set 0) [sl I1 (wh.set jp (i:Int)),.v (.int .i64 (je:Int)),.v (.int .i64 (((i-1)/2:Nat):Int))]=some (sl I1 (iL wh i ((i-1)/2) e p)):=by
    unfold iL;rw[ie,ip,aG,aG];exact fy (by rw[aP];omega) _
   generalize hkk:vM=kk at ih;subst hkk;unfold vM;simp only[EV,aa];rw[ad (by omega)];simp only[EV,ixM hiH,aM he,gS,q2,ixM (show(i-1)/2<H by omega),aM hp',cm]
   cases hc:evLess e p with
   |false=>
    rw[ac (by simp)];simp
   |true=>
    simp only[h0,ic,az,EV,q2,ixM hiH,ixM (show(i-1)/2<H by omega),fx,s1,s2,aM ge,aM gp,Bp,ie,ip,ixM wje,ixM wjp,s3,s4]
    exact ih
def vt (s:Slots)(hp:List Evt)(wh:List Int):RF.ev .agg [SL s,sl bV hp,sl I1 wh]=some (AG ⟨s,hp,wh⟩):=rfl
def pHD (h:Hnd):RF.ev (.part 0 2) [HD h]=some (HD h):=rfl
def pR (r:Rt):RF.ev (.part 0 2) [R r]=some (R r):=rfl
def BB {a:Agenda}(h:eR a):ASm a:=by
 have hs:=dN.1 h.1;have:=hs.n2;exact⟨By hs,by have:=h.2.1.2.1;omega,by have:=h.2.1.1;omega⟩
def ajh {a:Agenda}(h:eR a){fr:List Int}{i:Nat}{u:Int}(hf:a.s.f=fr++[(i:Int)])(hu:a.s.u[i]?=some u)(hm:u<1000000){t:Rt}{n:Int}(hx:rok t=true/\ 0<=n/\ n<=1000000)(hn:n∉a.heap.map (·.n))(ht:aS t)(h64:∀e∈a.heap,aS e.time):
  Ans D 381 [AG a,R t,.i64 n] [AG (iA a fr i u t n),HD ⟨i,u+1⟩]:=by
 have hs:=dN.1 h.1;have hP:=pB hs h.2.1;have hsm:=BB h;have n2:=hs.n2;have hl:=h.2.1.2.1;have hw:=h.2.1.1;have hi:=bo hu;have hP':=AP hs hP hf hu (x:=⟨t,n,⟨i,u+1⟩⟩) rfl;obtain⟨_,q2,q3⟩:=zP h hf hu hm hx hn;have ap:=eF (f:=bV) (l:=a.heap) (k:=[⟨t,n,⟨i,u+1⟩⟩]) (bytes:=40) (z:=5) (by simp;omega) j8;have dn:=wR (n:=a.heap.length) (by omega);have s3:=fy (l:=a.w) (i:=i) (by omega) (a.heap.length:Int);have s4:=bI (f:=bV) (l:=(iA a fr i u t n).heap);rw[q2.length_eq,aD,aN] at s4;have s5:=bI (f:=I1) (l:=(iA a fr i u t n).w);rw[q3] at s5;refine an ⟨1001,?_⟩;unfold aeC;simp only[ay,jk,ba,phi (Uo hsm),cAG0,cAG1,cAG2,fV,lX,EV,ah,bI,Fv,phi (aja hs hf hu hm),jy,qn,pR,pHD,BA,bsE,Ws,ap,aD,aN,dn,pw,ixM (show i<a.w.length by omega),s3]
 refine(Au (s:=nD a.s fr i u) (N:=1001) (H:=a.heap.length+1) (W:=a.w.length) (by omega) (a.heap.length+1) a.heap.length 1001 _ _ (by omega) (by omega) (by omega) (by simp) (by simp) (λe he=>?_) hP').trans ?_
 .grind
 .unfold Sn;have s4':RF.ev .sub [sl bV (upS (a.heap.length+1) (a.heap++[⟨t,n,⟨i,u+1⟩⟩]) (a.w.set i (a.heap.length:Int)) a.heap.length).1,.v (.int .i64 0),.v (.int .i64 ((a.heap.length+1:Nat):Int))]=some (sl bV (iA a fr i u t n).heap):=s4;have s5':RF.ev .sub [sl I1 (upS (a.heap.length+1) (a.heap++[⟨t,n,⟨i,u+1⟩⟩]) (a.w.set i (a.heap.length:Int)) a.heap.length).2.1,.v (.int .i64 0),.v (.int .i64 (a.w.length:Int))]=some (sl I1 (iA a fr i u t n).w):=s5;simp only[EV,pSL,s4',s5',vt];rfl
def fe (x:Evt):Nat->List Evt->List Int->Nat->List Evt×List Int×Nat
 |0,hp,wh,i=>(hp,wh,i)
 |n+1,hp,wh,i=>match hp[(i-1)/2]? with
  |some p=>if 0<i/\ evLess x p=true then fe x n (hp.set i p) (wh.set p.h.i.toNat (i:Int)) ((i-1)/2) else(hp,wh,i)
  |none=>(hp,wh,i)
def DD {x:Evt}:∀(n:Nat) (hp:List Evt) (wh:List Int) (i:Nat),i<hp.length->
  upS n (hp.set i x) (wh.set x.h.i.toNat (i:Int)) i=((fe x n hp wh i).1.set (fe x n hp wh i).2.2 x,(fe x n hp wh i).2.1.set x.h.i.toNat ((fe x n hp wh i).2.2:Int),(fe x n hp wh i).2.2)
 |0,hp,wh,i,_=>rfl
 |n+1,hp,wh,i,hi=>by
  have hx:(hp.set i x)[i]?=some x:=bv hi;by_cases h0:0<i
  .obtain⟨p,hp'⟩:∃p,hp[(i-1)/2]?=some p:=⟨hp[(i-1)/2]'(by omega),ai _⟩;have hq:(hp.set i x)[(i-1)/2]?=some p:=by rw[bB (by omega)];exact hp'
   unfold upS fe;rw[hx,hq,hp'];simp only;by_cases hc:0<i/\ evLess x p=true
   .rw[ad hc,ad hc];have e1:fF (hp.set i x) i ((i-1)/2) x p=(hp.set i p).set ((i-1)/2) x:=by unfold fF;rw[kV]
    have e2:iL (wh.set x.h.i.toNat (i:Int)) i ((i-1)/2) x p=(wh.set p.h.i.toNat (i:Int)).set x.h.i.toNat (((i-1)/2:Nat):Int):=by
     unfold iL;by_cases e:x.h.i.toNat=p.h.i.toNat
     .simp[e]
     .rw[lM _ _ e,kV]
    rw[e1,e2];exact DD n (hp.set i p) (wh.set p.h.i.toNat (i:Int)) ((i-1)/2) (by rw[aP];omega)
   .rw[ac hc,ac hc]
  .have:i=0:=by omega
   subst this;obtain⟨p,hp'⟩:∃p,hp[(0-1)/2]?=some p:=⟨hp[0]'hi,ai hi⟩;unfold upS fe;rw[show(0-1)/2=0 from rfl] at hp'|-
   rw[hx,hp'];simp
def GI {n d:Int}(hn:Sm n)(hd:Sm d)(h0:d≠0):rok (mkR n d)=true/\ aS (mkR n d):=by
 obtain⟨n1,n2⟩:=hn;obtain⟨d1,d2⟩:=hd;have hg:0<Nat.gcd n.natAbs d.natAbs:=gD _ (by omega);have l1:n.natAbs/Nat.gcd n.natAbs d.natAbs<=n.natAbs:=iI ..;have l2:d.natAbs/Nat.gcd n.natAbs d.natAbs<=d.natAbs:=iI ..;have l3:=Nat.div_pos (Nat.le_of_dvd (by omega) (Nat.gcd_dvd_right ..)) hg;have co:=Nat.coprime_div_gcd_div_gcd hg;have key:∀z:Int,z.natAbs=n.natAbs/Nat.gcd n.natAbs d.natAbs->rok ⟨z,((d.natAbs/Nat.gcd n.natAbs d.natAbs:Nat):Int)⟩=true/\ aS ⟨z,((d.natAbs/Nat.gcd n.natAbs d.natAbs:Nat):Int)⟩:=λz hz=>by
  refine⟨?_,⟨by simp only;omega,by simp only;omega⟩,by simp only;omega,by simp only;omega⟩;unfold rok
  grind
 unfold mkR
 grind
def sD {l:List Pt}{t:Rt}{x:Crt}(h:okF l)(ht:aS t)(hr:rok t=true)(h1:inF l x.j=true)(h2:inF l x.h=true)(hf:(cT t (bh l x.h) (bh l x.j)).2=true):
  rok (cT t (bh l x.h) (bh l x.j)).1=true/\ aS (cT t (bh l x.h) (bh l x.j)).1:=by
 obtain⟨i,p,a1,a2,a3,a4⟩:=d6 h h1;obtain⟨j,q,b1,b2,b3,b4⟩:=d6 h h2;have bp:=Pt.bnd (dr h a1);have bq:=Pt.bnd (dr h b1);rw[a4,b4] at hf|-;unfold cT at hf|-;split
 .grind
 .rename_i h3;split
  .exact GI ⟨by omega,by omega⟩ ⟨by omega,by omega⟩ (by omega)
  .grind
def sE {a:Agenda}(h:eR a){d:Due}{n:Int}{t:Rt}:qI a d n t↔d.n=n/\(⟨t,n,d.h⟩:Evt)∈a.heap:=by
 constructor
 .rintro⟨h1,h2,h3⟩;obtain⟨i,w,k,e,e1,e2,e3,e4,e5⟩:=Gh h h2;rw[e3] at e2;obtain⟨q1,q2⟩:=h3 i k e e1 e2 e4;refine⟨h1,?_⟩;obtain⟨et,en,eh⟩:=e;simp only at q1 q2 e5;rw[<-q1,<-q2,<-e5];exact ax e4
 .rintro⟨h1,h2⟩;obtain⟨k,hk⟩:=aK.1 h2;obtain⟨j,u,e1,e2,e3,e4⟩:=(pB (dN.1 h.1) h.2.1).at_ k _ hk;simp only at e1;refine⟨h1,⟨by rw[e1];simp only;omega,by rw[e1,aG];exact e2,by rw[e1,aG];exact e3⟩,λi m e g1 g2 g3=>?_⟩;rw[e1] at g1;simp only at g1;have:j=i:=by omega
  subst this;rw[e4] at g2;simp only[bZ] at g2;have:k=m:=by omega
  subst this;rw[hk] at g3;cases g3;exact⟨rfl,rfl⟩
def AQ {c c':Clock}(hn:c'.n=c.n)(hp:c'.p=c.p)(hD:∀d n t,qI c.a d n t->qI c'.a d n t){s:List Due}:∀(l:List Held) (left out:List Due),ez (ec c) left l=some out->ez (ec c') (left++s) l=some (out++s)
 |[],left,out,h=>by
  unfold ez at h|-;cases h;rfl
 |x::l,left,out,h=>by
  unfold ez at h|-;cases e:ec c left x with
  |none=>rw[e] at h;cases h
  |some y=>
   rw[e] at h;have:ec c' (left++s) x=some (y++s):=by
    unfold ec at e|-;rw[hn,hp];by_cases h1:d7 c.p x=true
    .rw[ad h1] at e|-;by_cases h2:(cT c.n (bh c.p x.c.h) (bh c.p x.c.j)).2=true
     .rw[ad h2] at e|-;cases left with
      |nil=>cases e
      |cons d rest=>
       simp only[aL] at e|-;by_cases h3:qI c.a d x.n (cT c.n (bh c.p x.c.h) (bh c.p x.c.j)).1
       .rw[ad h3] at e;rw[ad (hD _ _ _ h3)];cases e;rfl
       .rw[ac h3] at e;cases e
     .rw[ac h2] at e|-;cases e;rfl
    .rw[ac h1] at e;cases e
   rw[this];exact AQ hn hp hD l y out h
def AR {α β:Type}{g:β->α->Option β}:∀{l k:List α} {x y:β},ez g x l=some y->ez g x (l++k)=ez g y k
 |[],k,x,y,h=>by unfold ez at h;cases h;rfl
 |a::l,k,x,y,h=>by
  have h:(match g x a with|some y=>ez g y l|none=>none)=some y:=h
  show(match g x a with|some y=>ez g y (l++k)|none=>none)=_
  cases e:g x a with
  |none=>rw[e] at h;cases h
  |some z=>rw[e] at h;exact AR h
def AS {c:Clock}(ha:eR c.a):∀(l:List Held) (left:List Due),ez (ec c) left l=some []->(left.map (·.n)).Sublist (l.map (·.n))/\∀d∈left,∃t,(⟨t,d.n,d.h⟩:Evt)∈c.a.heap
 |[],left,h=>by unfold ez at h;cases h;exact⟨.slnil,by simp⟩
 |x::l,left,h=>by
  unfold ez at h;cases e:ec c left x with
  |none=>rw[e] at h;cases h
  |some y=>
   rw[e] at h;obtain⟨r1,r2⟩:=AS ha l y h;unfold ec at e;by_cases h1:d7 c.p x=true
   .rw[ad h1] at e;by_cases h2:(cT c.n (bh c.p x.c.h) (bh c.p x.c.j)).2=true
    .rw[ad h2] at e;cases left with
     |nil=>cases e
     |cons d rest=>
      simp only at e;by_cases h3:qI c.a d x.n (cT c.n (bh c.p x.c.h) (bh c.p x.c.j)).1
      .rw[ad h3] at e;cases e;have h3:=(sE ha).1 h3;refine⟨?_,λd' hd=>?_⟩
       .rw[bY,bY,h3.1];exact .cons_cons _ r1
       .rcases bz.1 hd with rfl|hd
        .exact⟨_,by rw[h3.1];exact h3.2⟩
        .exact r2 d' hd
      .rw[ac h3] at e;cases e
    .rw[ac h2] at e;cases e;exact⟨.cons _ r1,r2⟩
   .rw[ac h1] at e;cases e
def DE {c:Certs}(h:dp c):∀(j i:Nat) (x y:Held),i<j->c.l[i]?=some x->c.l[j]?=some y->x.n<y.n
 |0,i,x,y,hij,hx,hy=>by omega
 |j+1,i,x,y,hij,hx,hy=>by
  have q:=(h.2.2.2 (j+1) y hy).2.2.2.1;have hj:=bo hy;obtain⟨z,hz⟩:∃z,c.l[j]?=some z:=⟨c.l[j]'(by omega),ai _⟩;have q:=q z (by omega) (by simpa using hz)
  by_cases e:i=j
  .subst e;rw[hx] at hz;cases hz;exact q
  .have:=DE h j i x z (by omega) hx hz;omega
def BC {c:Certs}(h:dp c):(c.l.map (·.n)).Nodup:=by
 rw[List.Nodup,iY,dR];intro i j hi hj hij e;have:=DE h j i _ _ hij (ai hi) (ai hj);omega
def tZ {c:Clock}(h:bJ c):(c.d.map (·.n)).Perm (c.a.heap.map (·.n))/\(c.d.map (·.n)).Sublist (c.q.l.map (·.n)):=by
 obtain⟨_,_,h3,h4,_,h6,h7⟩:=h;obtain⟨r1,r2⟩:=AS h4 _ _ h7;refine⟨m8 (r1.nodup (BC h3)) (λn hn=>?_) (by simp;omega),r1⟩
 grind
def sT {c:Clock}(h:bJ c):c.q.next∉c.a.heap.map (·.n):=λhm=>by
 obtain⟨p,s⟩:=tZ h;have:=s.subset (p.mem_iff.2 hm);obtain⟨x,hx,hn⟩:=bk.1 this;obtain⟨i,hi⟩:=aK.1 hx;have:=(h.2.2.1.2.2.2 i x hi).2.2.1;omega
def fT (c:Clock)(x:Crt):Rt×Bool:=cT c.n (bh c.p x.h) (bh c.p x.j)
def pC (c:Clock)(x:Crt):Clock:=⟨c.n,c.p,nQ c.q x,c.a,c.d⟩
def oa (c:Clock)(x:Crt)(fr:List Int)(i:Nat)(u:Int):Clock:=⟨c.n,c.p,nQ c.q x,iA c.a fr i u (fT c x).1 c.q.next,c.d++[⟨c.q.next,⟨i,u+1⟩⟩]⟩
structure CAdd (c:Clock)(x:Crt):Prop where
 ok:bJ c
 cok:x.ok
 new:∀g∈c.q.l,g.c≠x
 room:c.q.l.length<200
 next:c.q.next<1000000
 j:inF c.p x.j=true
 h:inF c.p x.h=true
def GJ {c:Clock}{x:Crt}(h:CAdd c x)(hf:(fT c x).2=false):bJ (pC c x):=by
 obtain⟨⟨h1,h2,h3,h4,h5,h6,h7⟩,hx,hn,hr,hl,k1,k2⟩:=h;refine⟨h1,h2,PL h3 hx hn hr hl,h4,h5,h6,?_⟩;have:=AQ (c:=c) (c':=pC c x) rfl rfl (λ_ _ _ h=>h) (s:=[]) _ _ _ h7;rw[bc] at this;refine(AR this).trans ?_;have:ec (pC c x) ([]++[]) ⟨c.q.next,x⟩=some []:=by
  unfold ec;have hk:d7 (pC c x).p ⟨c.q.next,x⟩=true:=by unfold d7 pC;simp only;rw[k1,k2];rfl
  rw[ad hk,ac (by unfold fT at hf;exact rP.1 hf)];rfl
 unfold ez;rw[this];rfl
def GK {c:Clock}{x:Crt}(h:CAdd c x)(h64:aS c.n){fr:List Int}{i:Nat}{u:Int}(he:c.a.s.f=fr++[(i:Int)])(hu:c.a.s.u[i]?=some u)(hm:u<1000000)(hf:(fT c x).2=true):bJ (oa c x fr i u):=by
 have hnew:=sT h.ok;obtain⟨⟨h1,h2,h3,h4,h5,h6,h7⟩,hx,hn,hr,hl,k1,k2⟩:=h;obtain⟨f1,f2⟩:=sD h2 h64 h1 k1 k2 hf;have n0:=h3.2.1;obtain⟨p1,p2,p3⟩:=zP h4 he hu hm (t:=(fT c x).1) (n:=c.q.next) ⟨f1,n0,by omega⟩ hnew;refine⟨h1,h2,PL h3 hx hn hr hl,p1,p3.trans h5,?_,?_⟩
 .have:=p2.length_eq;rw[aD,aN] at this;unfold oa
  grind
 .have:=AQ (c:=c) (c':=oa c x fr i u) rfl rfl (λd n t hd=>by
   refine(sE p1).2 ?_;obtain⟨d1,d2⟩:=(sE h4).1 hd;exact⟨d1,p2.mem_iff.2 (dP _ d2)⟩) (s:=[⟨c.q.next,⟨i,u+1⟩⟩]) _ _ _ h7
  refine(AR this).trans ?_;have:ec (oa c x fr i u) ([]++[⟨c.q.next,⟨i,u+1⟩⟩]) ⟨c.q.next,x⟩=some []:=by
   unfold ec;have hk:d7 (oa c x fr i u).p ⟨c.q.next,x⟩=true:=by unfold d7 oa;simp only;rw[k1,k2];rfl
   rw[ad hk,ad (by unfold fT at hf;exact hf)];simp only[aI];rw[ad];refine(sE p1).2 ⟨rfl,p2.mem_iff.2 ?_⟩;simp only[b9,cJ];exact .inr rfl
  unfold ez;rw[this];rfl
def newC (l:List Pt)(t:Rt):Clock:=⟨t,l,⟨0,[]⟩,pA 200,[]⟩
def Uu (a:Agenda):RF.ev (.part 0 5) [AG a]=some (AG a):=rfl
def PO (l:List Pt)(t:Rt):RF.ev .agg [R t,sl row l,.v (.int .i64 0),.sl [],AG (pA 200),.sl []]=some (CL (newC l t)):=rfl
def Nt {l:List Pt}{t:Rt}(hl:l.length<=1000):Ans D 199 [F l,R t] [CL (newC l t)]:=by
 have c2:=phi (aje (n:=200) (by omega) (by omega));have c2:bx D 288 [.v (.int .i64 200)]=some [AG (pA 200)]:=c2;refine am ?_;unfold aca;simp[aY,ba,phi (ZQ hl),cv,EV,c2,jk,pR,Uu,bI,PO]
def Nu {l:List Pt}{t:Rt}(h:okF l)(ht:aS t)(hr:rok t=true):Ans D 167 [F l,R t] [CL (newC l t),.i64 0]:=by
 have h1:=phi (uG l);rw[eH.2 h] at h1;have h2:=phi (c43 ht);rw[hr] at h2;have e0:okE true=0:=rfl;rw[e0] at h2;have c2:=phi (ajg (n:=200) (by omega) (by omega));have c2:bx D 258 [.v (.int .i64 200)]=some [AG (pA 200),.i64 0]:=c2;refine am ?_;unfold UI;simp[aY,ba,h1,h2,EV,c2,jk,cv,phi (d67 (l:=l) (by have:=h.1;omega)),pR,Uu,bI,PO]
def ii {c:Clock}(h:bJ c):CSm c:=by
 obtain⟨_,h2,h3,h4,_,h6,_⟩:=h;have ha:=BB h4;exact⟨by have:=h2.1;omega,by have:=h3.1;omega,ha,by have:=ha.heap;omega⟩
def vu {a:Agenda}(h:eR a):gAg a=false:=by
 have hs:=dN.1 h.1;have:=hs.n2;have:=h.2.1.2.1;have:=h.2.1.1;unfold gAg;rw[wT hs]
 grind
structure Fresh (c:Clock):Prop where
 ok:bJ c
 now64:aS c.n
 ev64:∀e∈c.a.heap,aS e.time
 heap:c.a.heap.length<=c.q.l.length
 next:c.q.next=c.q.l.length
 u:∀i:Nat,(i:Int)∈c.a.s.f->c.a.s.u[i]?=some 0
def frL (c:Clock):List Int:=c.a.s.f.dropLast
def frI (c:Clock):Nat:=((c.a.s.f.getLast?).getD 0).toNat
def gz (c:Clock)(x:Crt):Clock:=if(fT c x).2=true then oa c x (frL c) (frI c) 0 else pC c x
def wX {c:Clock}(h:Fresh c)(hr:c.q.l.length<200):c.a.s.f=frL c++[(frI c:Int)]/\ c.a.s.u[frI c]?=some 0:=by
 have hs:=dN.1 h.ok.2.2.2.1.1;have hl:=h.ok.2.2.2.1.2.1.2.1;have hw:=h.ok.2.2.2.1.2.1.1;have hw':=h.ok.2.2.2.2.1;have hh:=h.heap;rcases free_last hs with e|⟨fr,i,u,e,hu,h1,h2⟩
 .grind
 .have e1:frL c=fr:=by unfold frL;rw[e];simp
  have e2:frI c=i:=by unfold frI;rw[e];simp
  rw[e1,e2];exact⟨e,h.u i (by rw[e];simp)⟩
def Nv {c:Clock}{x:Crt}(h:Fresh c)(ha:CAdd c x):Fresh (gz c x)/\(gz c x).q=nQ c.q x/\(gz c x).p=c.p/\(gz c x).n=c.n:=by
 obtain⟨e1,e2⟩:=wX h ha.room;have hnx:=h.next;unfold gz;split
 .rename_i hf;have hrk:=ha.ok.1;have hok:=GK ha h.now64 e1 e2 (by omega) hf;obtain⟨f1,f2⟩:=sD ha.ok.2.1 h.now64 hrk ha.j ha.h hf;obtain⟨p1,p2,p3⟩:=zP ha.ok.2.2.2.1 e1 e2 (by omega) (t:=(fT c x).1) (n:=c.q.next) ⟨f1,ha.ok.2.2.1.2.1,by have:=ha.next;omega⟩ (sT ha.ok);refine⟨⟨hok,h.now64,λe he=>?_,?_,?_,λj hj=>?_⟩,rfl,rfl,rfl⟩
  .rcases b9.1 (p2.mem_iff.1 he) with h1|h1
   .exact h.ev64 e h1
   .rw[cJ] at h1;subst h1;exact f2
  .have q:=p2.length_eq;rw[aD,aN] at q;have:=h.heap;unfold oa nQ
   grind
  .unfold oa nQ
   grind
  .have hj':(j:Int)∈frL c:=hj;have hnd:=(dN.1 ha.ok.2.2.2.1.1).nd;rw[e1,eY] at hnd;have hne:frI c≠j:=λq=>hnd.2.2 _ hj' (frI c:Int) (by simp) (by omega);show(c.a.s.u.set (frI c) (0+1))[j]?=some 0
   rw[bB hne];exact h.u j (by rw[e1];simp[hj'])
 .rename_i hf;have hf:=rP.2 hf;refine⟨⟨GJ ha hf,h.now64,h.ev64,?_,?_,h.u⟩,rfl,rfl,rfl⟩
  .have:=h.heap;unfold pC nQ;simp only[aD,aN];omega
  .unfold pC nQ;simp only[aD,aN];omega
def newA_ok {n:Nat}(h1:1<=n)(h2:n<=200):eR (pA n):=by
 have hs:=EE (n:=n) h1 h2;refine⟨dN.2 hs,⟨by unfold pA qq;simp,by unfold pA qq;simp[gk],λi b w u hb hw hu=>?_⟩,by simp[pA],by simp[pA],λi e p he=>?_⟩
 .unfold pA qq at hb hw
  grind
 .unfold pA at he;simp at he
def wY {l:List Pt}{t:Rt}(hl:okF l)(ht:aS t)(hr:rok t=true):Fresh (newC l t):=by
 refine⟨⟨hr,hl,⟨b8 _,AF _,(by decide:(0:Int)<=1000000),λi h hi=>by cases i<;>cases hi⟩,newA_ok (n:=200) (by omega) (by omega),aQ,rfl,rfl⟩,ht,(λe he=>by cases he),aB _,rfl,λi hi=>?_⟩;have:=(EE (n:=200) (by omega) (by omega)).rng _ hi;simp only[qq] at this;show(List.replicate 200 (0:Int))[i]?=some 0
 grind
structure EdgOk (l:List Pt)(es:List Crt):Prop where
 nd:es.Nodup
 len:es.length<200
 ok:∀x∈es,x.ok
 j:∀x∈es,inF l x.j=true
 h:∀x∈es,inF l x.h=true
def certAll (c:Clock)(es:List Crt):Clock:=es.foldl gz c
structure AtK (l:List Pt)(t:Rt)(es:List Crt)(k:Nat)(c:Clock):Prop where
 fresh:Fresh c
 q:c.q.l.map (·.c)=es.take k
 p:c.p=l
 n:c.n=t
def DF {l:List Pt}{t:Rt}{es:List Crt}(hE:EdgOk l es){k:Nat}{c:Clock}(h:AtK l t es k c){x:Crt}(hx:es[k]?=some x):CAdd c x/\(∀g∈c.q.l,g.c≠x):=by
 have hm:=ax hx;have hk:=bo hx;have hlen:c.q.l.length=k:=by
  have:=aW List.length h.q
  grind
 have hE':=hE.len;have hnew:∀g∈c.q.l,g.c≠x:=λg hg e=>by
  have h1:g.c∈es.take k:=by rw[<-h.q];exact bk.2 ⟨g,hg,rfl⟩
  rw[e] at h1;obtain⟨i,hi⟩:=aK.1 h1;have hik:i<k:=by have:=bo hi;rw[aR] at this;omega
  rw[db hik] at hi;have:=dL.1 hE.nd i k x hi hx;omega
 refine⟨⟨h.fresh.ok,hE.ok x hm,hnew,by omega,by have:=h.fresh.next;omega,by rw[h.p];exact hE.j x hm,by rw[h.p];exact hE.h x hm⟩,hnew⟩
def Uv {l:List Pt}{t:Rt}{es:List Crt}(hE:EdgOk l es){k:Nat}{c:Clock}(h:AtK l t es k c){x:Crt}(hx:es[k]?=some x):AtK l t es (k+1) (gz c x):=by
 obtain⟨f1,f2,f3,f4⟩:=Nv h.fresh (DF hE h hx).1;refine⟨f1,?_,f3.trans h.p,f4.trans h.n⟩;rw[f2];unfold nQ;rw[dU,h.q,cA,hx];rfl
def vw {l:List Pt}{t:Rt}{es:List Crt}(hE:EdgOk l es)(hl:okF l)(ht:aS t)(hr:rok t=true):∀k,k<=es.length->AtK l t es k (certAll (newC l t) (es.take k))
 |0,_=>⟨wY hl ht hr,rfl,rfl,rfl⟩
 |k+1,hk=>by
  have hx:es[k]?=some es[k]:=ai _;have:=Uv hE (vw hE hl ht hr k (by omega)) hx;have e:es.take (k+1)=es.take k++[es[k]]:=by rw[cA,hx];rfl
  unfold certAll at this|-;rw[e,rQ];exact this
def GL (e:Evt):RF.ev (.cell 3) [EP e]=some (.i64 e.h.i):=rfl
structure GoodE (W:Nat)(e:Evt):Prop where
 t64:aS e.time
 rok:rok e.time=true
 ix:∃j:Nat,e.h.i=(j:Int)/\ j<W
def EF {N:Nat}{f0:JT}{t:Rt}{n:Int}{h:Hnd}{e0 e1 e3 e5 e6 e7 e8 e9 e10 e11 e12 e13 e14 e15 e16 e17 e18 e20 e21 e22 e23 e24 e25 e27 e28 e29 e30 e31 e32 e34:PV}{H W:Nat}(hH:H<=1000)(ht:aS t)(rt:rok t=true):∀(r i m:Nat) (hp:List Evt) (wh:List Int),i<=r->r<m->i<H->hp.length=H->wh.length=W->(∀x∈hp,GoodE W x)->
  dl (bx D) N vJ [f0] [e0,e1,.i64 n,e3,R t,e5,e6,e7,e8,e9,e10,e11,e12,e13,e14,e15,e16,e17,e18,HD h,e20,e21,e22,e23,e24,e25,.i64 (W:Int),e27,e28,e29,e30,e31,e32,.i64 (H:Int),e34] m [.i64 (i:Int),sl bV hp,sl I1 wh]=f0 [sl bV (fe ⟨t,n,h⟩ r hp wh i).1,sl I1 (fe ⟨t,n,h⟩ r hp wh i).2.1,.i64 ((fe ⟨t,n,h⟩ r hp wh i).2.2:Int)]
 |0,i,m,hp,wh,hi,hm,hiH,hl,hw,hg=>by
  obtain⟨m,rfl⟩:∃m',m=m'+1:=⟨m-1,by omega⟩;have:i=0:=by omega
  subst this;rw[bu];unfold vJ fe;simp only[EV,aa];rw[ac (by omega)]
 |r+1,i,m,hp,wh,hi,hm,hiH,hl,hw,hg=>by
  obtain⟨m,rfl⟩:∃m',m=m'+1:=⟨m-1,by omega⟩;obtain⟨p,hp'⟩:∃p,hp[(i-1)/2]?=some p:=⟨hp[(i-1)/2]'(by omega),ai _⟩;have E:fe ⟨t,n,h⟩ (r+1) hp wh i=if 0<i/\ evLess ⟨t,n,h⟩ p=true then fe ⟨t,n,h⟩ r (hp.set i p) (wh.set p.h.i.toNat (i:Int)) ((i-1)/2) else(hp,wh,i):=by rw[fe,hp']
  rw[E,bu];by_cases h0:0<i
  rotate_left
  .rw[ac (λh=>h0 h.1)];unfold vJ;simp only[EV,aa];rw[ac (by omega)]
  .obtain⟨p64,prk,jp,pj,pW⟩:=hg p (ax hp');have ih:=EF (N:=N) (f0:=f0) (t:=t) (n:=n) (h:=h) (e0:=e0) (e1:=e1) (e3:=e3) (e5:=e5) (e6:=e6) (e7:=e7) (e8:=e8) (e9:=e9) (e10:=e10) (e11:=e11) (e12:=e12) (e13:=e13) (e14:=e14) (e15:=e15) (e16:=e16) (e17:=e17) (e18:=e18) (e20:=e20) (e21:=e21) (e22:=e22) (e23:=e23) (e24:=e24) (e25:=e25) (e27:=e27) (e28:=e28) (e29:=e29) (e30:=e30) (e31:=e31) (e32:=e32) (e34:=e34) (H:=H) (W:=W) hH ht rt r ((i-1)/2) m (hp.set i p) (wh.set p.h.i.toNat (i:Int)) (by omega) (by omega) (by omega) (by rw[aP];exact hl) (by rw[aP];exact hw) (λx hx=>by
    rcases dQ hx with h1|h1
    .exact hg x h1
    .rw[h1];exact⟨p64,prk,jp,pj,pW⟩)
   have cm:=phi (AN (x:=⟨t,n,h⟩) (y:=p) ht p64 rt prk);have q2:=DC h0 (by omega);have s1:=zQ (l:=hp) (i:=i) (by omega) p;have s3:=fy (l:=wh) (i:=jp) (by omega) (i:Int);generalize hkk:vJ=kk at ih;subst hkk;unfold vJ;simp[EV];rw[ad (by omega)];simp only[EV,q2,ixM (show(i-1)/2<H by omega),aM hp',gS,pR,pHD,BA,cm,aa,qp]
   by_cases hc:evLess ⟨t,n,h⟩ p=true
   .rw[ad hc,ad ⟨h0,hc⟩];simp only[EV,q2,ixM hiH,fx,s1,GL,pj,ixM pW,s3];rw[pj,aG] at ih;exact ih
   .rw[ac hc,ac (λq=>hc q.2)]
def LR {x y:Evt}(h:evLess x y=false):¬AM x y<0:=λc=>by
 rw[(qp x y).1 c] at h;cases h
def PQ {N:Nat}{f0:JT}{t:Rt}{n:Int}{h:Hnd}{e0 e1 e3 e5 e6 e7 e8 e9 e10 e11 e12 e13 e14 e15 e16 e17 e18 e20 e21 e22 e23 e24 e25 e27 e28 e29 e30 e31 e32 e34 e35 e36 e37 e38 e39 e26:PV}{H i m:Nat}{hp:List Evt}{w:PV}(hH:H<=1000)(ht:aS t)(rt:rok t=true)(hm:0<m)(hi:i<H)(hl:hp.length=H)
  (hg:∀k e,k≠i->hp[k]?=some e->aS e.time/\ rok e.time=true) (ho:∀k e,(k=2*i+1\/k=2*i+2)->hp[k]?=some e->evLess e ⟨t,n,h⟩=false):
  dl (bx D) N Jn [f0] [e0,e1,.i64 n,e3,R t,e5,e6,e7,e8,e9,e10,e11,e12,e13,e14,e15,e16,e17,e18,HD h,e20,e21,e22,e23,e24,e25,e26,e27,e28,e29,e30,e31,e32,.i64 (H:Int),e34,e35,e36,e37,e38,e39] m [.i64 (i:Int),sl bV hp,w,.i64 ((2*i+1:Nat):Int)]=f0 [sl bV hp,w,.i64 (i:Int)]:=by
 obtain⟨m,rfl⟩:∃m',m=m'+1:=⟨m-1,by omega⟩;rw[bu];have sh:∀e:Evt,RF.ev (.shape 5) [EP e]=some (EP e):=λ_=>rfl;have fin:∀(k:Nat) (self:JT) (a b c d d':PV),(k=2*i+1\/k=2*i+2)->k<H->den (bx D) N Jl [f0,self] [e0,e1,.i64 n,e3,R t,e5,e6,e7,e8,e9,e10,e11,e12,e13,e14,e15,e16,e17,e18,HD h,e20,e21,e22,e23,e24,e25,e26,e27,e28,e29,e30,e31,e32,.i64 (H:Int),e34,e35,e36,e37,e38,e39,.i64 (i:Int),sl bV hp,w,a,b,c,d,d',.i64 (k:Int)]=f0 [sl bV hp,w,.i64 (i:Int)]:=λk self a b c d d' hk hkH=>by
  obtain⟨e,he⟩:∃e,hp[k]?=some e:=⟨hp[k]'(by omega),ai _⟩;obtain⟨g1,g2⟩:=hg k e (by omega) he;have cm:=phi (AN (x:=e) (y:=⟨t,n,h⟩) g1 ht g2 rt);unfold Jl;simp only[EV,ixM hkH,aM he,gS,pR,pHD,BA,cm,aa];rw[ad (by have:=LR (ho k e hk he);omega)]
 unfold Jn;simp only[EV,aa];by_cases h1:2*i+1<H
 .rw[ad (by omega)];simp only[up1 (show 2*i+1<1000000000 by omega)]
  by_cases h2:2*i+2<H
  .rw[ad (by omega)];obtain⟨e,he⟩:∃e,hp[2*i+1]?=some e:=⟨hp[2*i+1]'(by omega),ai _⟩;obtain⟨g,hg'⟩:∃e,hp[2*i+1+1]?=some e:=⟨hp[2*i+1+1]'(by omega),ai _⟩;obtain⟨a1,a2⟩:=hg _ e (by omega) he;obtain⟨b1,b2⟩:=hg _ g (by omega) hg';have cm:=phi (AN (x:=g) (y:=e) b1 a1 b2 a2);simp only[EV,ixM h1,ixM (show 2*i+1+1<H by omega),aM he,aM hg',gS,cm]
   unfold Jm;simp only[EV,aa,up1 (show 2*i+1<1000000000 by omega)]
   by_cases hc:AM g e<0
   .rw[ad hc];exact fin _ _ _ _ _ _ _ (.inr rfl) (by omega)
   .rw[ac hc];exact fin _ _ _ _ _ _ _ (.inl rfl) (by omega)
  .rw[ac (by omega)];unfold Jm;simp only[EV,au,aw];exact fin _ _ _ _ _ _ _ (.inl rfl) (by omega)
 .rw[ac (by omega)]
def aji {a:Agenda}(h:eR a){fr:List Int}{i:Nat}{u:Int}(hf:a.s.f=fr++[(i:Int)])(hu:a.s.u[i]?=some u)(hm:u<1000000){t:Rt}{n:Int}(hx:rok t=true/\ 0<=n/\ n<=1000000)(hn:n∉a.heap.map (·.n))(ht:aS t)(h64:∀e∈a.heap,aS e.time):
  Ans D 349 [AG a,R t,.i64 n] [AG (iA a fr i u t n),HD ⟨i,u+1⟩,.i64 0]:=by
 classical
 have hs:=dN.1 h.1;have hP:=pB hs h.2.1;have hsm:=BB h;have n2:=hs.n2;have hl:=h.2.1.2.1;have hw:=h.2.1.1;have hi:=bo hu;obtain⟨hOk,q2,q3⟩:=zP h hf hu hm hx hn;have hOrd:=ym hOk;have m1:=phi (Gl (vu h) h64);rw[aq h] at m1;have m2:=phi (c43 ht);rw[hx.1] at m2;have e0:okE true=0:=rfl;rw[e0] at m1 m2;have mm:RF.ev (.mm true) [.v (.int .i64 0),.v (.int .i64 0)]=some (.v (.int .i64 0)):=rfl;have ap:=eF (f:=bV) (l:=a.heap) (k:=[⟨t,n,⟨i,u+1⟩⟩]) (bytes:=40) (z:=5) (by simp;omega) j8;have dn:=wR (n:=a.heap.length) (by omega);have good:∀x∈a.heap++[(⟨t,n,⟨i,u+1⟩⟩:Evt)],GoodE a.w.length x:=λx hx'=>by
  rcases b9.1 hx' with h1|h1
  .obtain⟨k,hk⟩:=aK.1 h1;obtain⟨j,v,g1,_,_,g4⟩:=hP.at_ k x hk;exact⟨h64 x h1,(h.2.2.1 x h1).1,j,by rw[g1],bo g4⟩
  .rw[cJ] at h1;subst h1;exact⟨ht,hx.1,i,rfl,by omega⟩
 have up:=DD (x:=⟨t,n,⟨i,u+1⟩⟩) (a.heap.length+1) (a.heap++[⟨t,n,⟨i,u+1⟩⟩]) a.w a.heap.length (by simp);have e1:(a.heap++[(⟨t,n,⟨i,u+1⟩⟩:Evt)]).set a.heap.length ⟨t,n,⟨i,u+1⟩⟩=a.heap++[⟨t,n,⟨i,u+1⟩⟩]:=by simp
 rw[e1] at up;simp only[aG] at up;obtain⟨hpF,whF,jF,hF⟩:∃hpF whF jF,fe ⟨t,n,⟨i,u+1⟩⟩ (a.heap.length+1) (a.heap++[⟨t,n,⟨i,u+1⟩⟩]) a.w a.heap.length=(hpF,whF,jF):=⟨_,_,_,rfl⟩;rw[hF] at up;simp only at up;have pH:(iA a fr i u t n).heap=hpF.set jF ⟨t,n,⟨i,u+1⟩⟩:=by unfold iA;rw[up]
 have pW:(iA a fr i u t n).w=whF.set i (jF:Int):=by unfold iA;rw[up]
 have pS:(iA a fr i u t n).s=nD a.s fr i u:=rfl;have lH:hpF.length=a.heap.length+1:=by
  have:=q2.length_eq;rw[pH,aP,aD,aN] at this;exact this
 have lW:whF.length=a.w.length:=by rw[pW,aP] at q3;exact q3
 have hjF:jF<=a.heap.length:=by
  have q:=(Bz (s:=nD a.s fr i u) (a.heap.length+1) (a.heap++[⟨t,n,⟨i,u+1⟩⟩]) (a.w.set i (a.heap.length:Int)) a.heap.length (by omega) (by simp) (λx hx'=>(good x hx').rok) ⟨λc e p c0 cn he hp=>by
   have h1:=bo he;rw[aD,aN] at h1;rw[aH (by omega)] at he hp;exact ym h c e p c0 he hp,λc e p _ c0 hc he _=>by
   have h1:=bo he;rw[aD,aN] at h1;omega⟩ (AP hs hP hf hu rfl)).2.2.2.2
  rw[up] at q;exact q
 have child:∀k e,k≠jF->hpF[k]?=some e->(iA a fr i u t n).heap[k]?=some e:=λk e hk he=>by rw[pH,bB (λq=>hk q.symm)];exact he
 have s4:=bI (f:=bV) (l:=(iA a fr i u t n).heap);rw[q2.length_eq,aD,aN] at s4;have s5:=bI (f:=I1) (l:=(iA a fr i u t n).w);rw[q3] at s5;have s1:=zQ (l:=hpF) (i:=jF) (by omega) ⟨t,n,⟨i,u+1⟩⟩;rw[<-pH] at s1;have s3:=fy (l:=whF) (i:=i) (by omega) (jF:Int);rw[<-pW] at s3;refine an ⟨1001,?_⟩;unfold UO;simp only[ay,jk,ba,m1,m2,mm,fV,EV,ah,aA,aF,au,aw,aa];rw[ac (by omega),ac (by omega)];refine(cL (m:=1001) (l:=a.heap) (p:=λg=>!decide (g.n=n)) (st:=λi=>[.i64 (i:Int)]) (r:=none) (fin:=some [AG (iA a fr i u t n),HD ⟨i,u+1⟩,.i64 0]) (λk g self hg hall=>?_) (λhall self=>?_) (by omega)).trans ?_
 .have hne:¬g.n=n:=λe=>hn (bk.2 ⟨g,ax hg,e⟩);unfold vK;simp only[ay,fV,aT hg (j8 _),aM hg,gS,yg,EV,aa,bj (aO hg),up1 (show k<1000000000 by have:=aO hg;omega),hne,be,bA,au,az,aw]
 .unfold vK;simp only[EV,aa,bK];unfold Jo;have g0:decide ((-1:Int)>=0)=false:=rfl;simp only[EV,g0,au,aw,pAG,phi (ajb hs hf hu hm),jy,qn,aA,aF,phi (ZT hsm),jk,fV,lX,pR,pHD,BA,bsE,Ws,ah,ap,aD,aN,dn];refine(EF (N:=1001) (n:=n) (h:=⟨i,u+1⟩) (H:=a.heap.length+1) (W:=a.w.length) (by omega) ht hx.1 (a.heap.length+1) a.heap.length 1001 _ _ (by omega) (by omega) (by omega) (by simp) rfl good).trans ?_;rw[hF];unfold Se;have w1:IntKind.i64.wrap (2*(jF:Int))=((2*jF:Nat):Int):=by rw[cU (by omega) (by omega)];omega
  simp only[EV,w1,up1 (show 2*jF<1000000000 by omega)]
  refine(PQ (N:=1001) (H:=a.heap.length+1) (by omega) ht hx.1 (by omega) (by omega) lH (λk e hk he=>?_) (λk e hk he=>?_)).trans ?_
  .have he':=child k e hk he;have:=good e (q2.mem_iff.1 (ax he'));exact⟨this.t64,this.rok⟩
  .have he':=child k e (by omega) he;refine hOrd k e _ (by omega) he' ?_;rw[pH,show(k-1)/2=jF by omega,bv (by omega)]
  .unfold Sd;simp only[EV,ixM (show jF<a.heap.length+1 by omega),pR,pHD,BA,s1,pw,ixM (show i<a.w.length by omega),s3,pSL,s4,s5,vt]
   rfl
 .rw[ad (by rw[aV];intro g hg;simpa usingλe=>hn (bk.2 ⟨g,hg,e⟩))]
def qL {c:Clock}(h:bJ c):gW c:=by
 have hc:=ii h;exact⟨hc.q,hc.d,hc.p,vu h.2.2.2.1⟩
def Wt (n:Int)(h:Hnd):RF.ev .agg [.i64 n,HD h]=some (DP ⟨n,h⟩):=rfl
def Z3 (d:Due):RF.ev (.bs 1 [KP.z,KP.z,KP.z] [0]) [DP d]=some (sl cp [d]):=rfl
def Wu (d:Due):RF.ev .sub [sl cp [d],.v (.int .i64 0),.v (.int .i64 1)]=some (sl cp [d]):=rfl
def Wv {c:Clock}{d:Due}(h:c.d.length<=1000):RF.ev (.app 24 3) [sl cp c.d,.v (.int .i64 (c.d.length:Int)),sl cp [d]]=some (sl cp (c.d++[d])):=
 eF (f:=cp) (l:=c.d) (k:=[d]) (bytes:=24) (z:=3) (by simp;omega) po
def PR (c:Clock)(d:Due):RF.ev .sub [sl cp (c.d++[d]),.v (.int .i64 0),.v (.int .i64 ((c.d++[d]).length:Int))]=some (sl cp (c.d++[d])):=bI
def Nw (c:Clock):RF.ev (.part 0 3) [CL c]=some (.agg [.i64 c.n.num,.i64 c.n.den,sl row c.p]):=rfl
def Z4 (c:Certs):RF.ev (.part 0 2) [CS c]=some (CS c):=rfl
def Ww (c:Clock):RF.ev (.part 5 3) [CL c]=some (SL c.a.s):=rfl
def Fy (r:Rt)(p:List Pt)(cs:Certs)(s:Slots)(h:List Evt)(w:List Int)(d:List Due):RF.ev .agg [.agg [.i64 r.num,.i64 r.den,sl row p],CS cs,sl I1 s.u,sl B1 s.v,sl I1 s.f,sl bV h,sl I1 w,sl cp d]=some (CL ⟨r,p,cs,⟨s,h,w⟩,d⟩):=rfl
def BD (r:Rt)(p:List Pt)(cs:Certs)(s:Slots)(h:List Evt)(w:List Int)(d:List Due):RF.ev .agg [.i64 r.num,.i64 r.den,sl row p,.i64 cs.next,sl hrow cs.l,sl I1 s.u,sl B1 s.v,sl I1 s.f,sl bV h,sl I1 w,sl cp d]=some (CL ⟨r,p,cs,⟨s,h,w⟩,d⟩):=rfl
def LS {l:List Pt}{t:Rt}(h:okF l)(hr:rok t=true){x:Crt}(hx:x.ok)(h1:inF l x.j=true)(h2:inF l x.h=true):lU (bh l x.h) (bh l x.j) t=0:=
 (Bt (c:=⟨t,l,⟨0,[]⟩,⟨⟨[],[],[]⟩,[],[]⟩,[]⟩) h hr (x:=⟨0,x⟩) hx).2 (by unfold d7;simp only;rw[h1,h2];rfl)
def wZ {l:List Pt}(h:okF l){id:Int}(hi:inF l id=true):¬(bh l id).id<0:=by
 obtain⟨i,p,h1,h2,h3,h4⟩:=d6 h hi;rw[h4];have:=nC h p (ax h1);omega
def DG (p:Pt):RF.ev (.cell 0) [PP p]=some (.i64 p.id):=rfl
open Classical in
def Z5 {c:Clock}{x:Crt}(h:CAdd c x)(h64:fb c):((fT c x).2=false->Ans D 263 [CL c,CP x] [CL (pC c x),.i64 c.q.next,.i64 0])/\
  ∀{fr:List Int} {i:Nat} {u:Int},(fT c x).2=true->c.a.s.f=fr++[(i:Int)]->c.a.s.u[i]?=some u->u<1000000->Ans D 263 [CL c,CP x] [CL (oa c x fr i u),.i64 c.q.next,.i64 0]:=by
 have hc:=ii h.ok;have m1:=phi (wK h64 (qL h.ok));rw[aq h.ok,show okE true=0 from rfl] at m1
 have hF:=h.ok.2.1;have m2:=phi (Z2 h.ok.2.2.1 h.cok h.new h.room h.next);have m3:=phi (T5 (x:=x) hF h64.1);rw[ad (LS hF h.ok.1 h.cok h.j h.h)] at m3;have n8:decide ((0:Int)=8)=false:=rfl;have s0:=bI (f:=cp) (l:=c.d);have p1:=wZ hF h.j;have p2:=wZ hF h.h;constructor
 .intro hf;have hf':(cT c.n (bh c.p x.h) (bh c.p x.j)).2=false:=hf;rw[hf'] at m3;refine am ?_;unfold Oz;simp only[ay,bX,j9,ba,oq,fN,eZ,m1,m2,ji,kb,ke,phi (Du hF _),DG,EV,aA,aF,au,aw,n8,ak p1,ak p2,phi (GF hc),dT,ah,m3,lY,lZ,l5,iK,kf];unfold IY;simp only[EV,Nw,Z4,s0,Fy];rfl
 .intro fr i u hf he hu hm;have hf':(cT c.n (bh c.p x.h) (bh c.p x.j)).2=true:=hf;rw[hf'] at m3;obtain⟨f1,f2⟩:=sD hF h64.1 h.ok.1 h.j h.h hf';have m4:=phi (aji h.ok.2.2.2.1 he hu hm (t:=(fT c x).1) (n:=c.q.next) ⟨f1,h.ok.2.2.1.2.1,by have:=h.next;omega⟩ (sT h.ok) f2 h64.2);have m4:bx D 349 [AG c.a,R (cT c.n (bh c.p x.h) (bh c.p x.j)).1,.v (.int .i64 c.q.next)]=_:=m4;refine am ?_;unfold Oz;simp only[ay,bX,j9,ba,oq,fN,eZ,sP,m1,m2,ji,kb,ke,phi (Du hF _),DG,EV,aA,aF,au,aw,n8,ak p1,ak p2,phi (GF hc),dT,ah,m3,m4,jk,qn,pHD,Wt,Z3,Wu,Wv hc.d,cAG0,cAG1,cAG2,fV,lX,az];unfold IY;simp only[EV,Nw,Z4,PR,Fy];rfl
def Z6 {c:Clock}{x:Crt}(h:CAdd c x)(h64:fb c):((fT c x).2=false->Ans D 294 [CL c,CP x] [CL (pC c x),.i64 c.q.next,.i64 0])/\
  ∀{fr:List Int} {i:Nat} {u:Int},(fT c x).2=true->c.a.s.f=fr++[(i:Int)]->c.a.s.u[i]?=some u->u<1000000->Ans D 294 [CL c,CP x] [CL (oa c x fr i u),.i64 c.q.next,.i64 0]:=by
 have hc:=ii h.ok;have hF:=h.ok.2.1;have m2:=phi (Z1 h.ok.2.2.1 h.cok h.new h.room h.next);have m3:=phi (T4 (x:=x) hF h64.1 h.j h.h);have s0:=bI (f:=cp) (l:=c.d);constructor
 .intro hf;have hf':(cT c.n (bh c.p x.h) (bh c.p x.j)).2=false:=hf;rw[hf'] at m3;refine am ?_;unfold OD;simp only[ay,bX,j9,ba,oq,fN,eZ,m2,ji,EV,aA,aF,bA,au,aw,az,phi (wQ hc),dT,ah,m3,mN,mO,k8,lY,lZ,l5,iK,kf,nN,fM,s0,BD];rfl
 .intro fr i u hf he hu hm;have hf':(cT c.n (bh c.p x.h) (bh c.p x.j)).2=true:=hf;rw[hf'] at m3;obtain⟨f1,f2⟩:=sD hF h64.1 h.ok.1 h.j h.h hf';have m4:=phi (ajh h.ok.2.2.2.1 he hu hm (t:=(fT c x).1) (n:=c.q.next) ⟨f1,h.ok.2.2.1.2.1,by have:=h.next;omega⟩ (sT h.ok) f2 h64.2);have m4:bx D 381 [AG c.a,R (cT c.n (bh c.p x.h) (bh c.p x.j)).1,.v (.int .i64 c.q.next)]=_:=m4;have m5:=phi (ZW (dN.1 h.ok.2.2.2.1.1));rw[wS he hu,aq hm] at m5;refine am ?_;unfold OD;simp only[ay,bX,j9,ba,oq,fN,eZ,sP,Ww,m2,ji,EV,aA,aF,au,aw,phi (wQ hc),dT,ah,m3,m4,m5,jk,qn,pHD,Wt,Z3,Wu,Wv hc.d,mN,mO,k8,nN,fM,cAG0,cAG1,cAG2,fV,lX,PR,BD];rfl
def Z7 {l k:List Pt}(hl:l.length<=1000):Ans D 260 [sl row l,sl row k] [.bool (decide (l=k))]:=by
 refine an ⟨1001,?_⟩;unfold acO;simp only[EV,ah,aE,aj];by_cases h:l.length=k.length
 .rw[ac (by omega)];refine zN h (cL (l:=l.zip k) (st:=λi=>[.i64 (i:Int)]) (λi x self hx _=>?_) (λ_ self=>?_) (by rw[iz h];omega))
  .obtain⟨hp,hq⟩:=lO hx;unfold IX;simp[aT hp (b6 _),aM hp,aT hq (b6 _),aM hq,gu,Zx,EV,bj (aO hp),up1 (show i<1000000000 by have:=aO hp;omega)]
   grind
  .rw[iz h];unfold IX;simp only[EV,aa,bK,RL]
 .rw[ad (by omega),ak (λe=>h (by rw[e]))]
def zR {c:Clock}(h:Fresh c):fb c:=⟨h.now64,h.ev64⟩
def agr {c:Clock}{x:Crt}(h:Fresh c)(ha:CAdd c x):Ans D 263 [CL c,CP x] [CL (gz c x),.i64 c.q.next,.i64 0]:=by
 obtain⟨h1,h2⟩:=Z5 ha (zR h);obtain⟨e1,e2⟩:=wX h ha.room;unfold gz
 grind
def ags {c:Clock}{x:Crt}(h:Fresh c)(ha:CAdd c x):Ans D 294 [CL c,CP x] [CL (gz c x),.i64 c.q.next,.i64 0]:=by
 obtain⟨h1,h2⟩:=Z6 ha (zR h);obtain⟨e1,e2⟩:=wX h ha.room;unfold gz
 grind
def yn {c:Clock}{es:List Crt}{k:Nat}{x:Crt}(hx:es[k]?=some x):certAll c (es.take (k+1))=gz (certAll c (es.take k)) x:=by
 unfold certAll;rw[cA,hx,rQ];rfl
def Z8 {l:List Pt}{t:Rt}{es:List Crt}(hl:okF l)(ht:aS t)(hr:rok t=true)(hE:EdgOk l es):Ans D 169 [CL (newC l t),F l,sl crow es] [CL (certAll (newC l t) es),.i64 0]:=by
 have hlen:=hE.len;have h64:=hl.1;have z:(newC l t).q.l.length=0:=rfl;have d0:decide (((0:Nat):Int)<((0:Nat):Int))=false:=rfl;have d0':decide ((0:Int)<((0:Nat):Int))=false:=rfl;have e234:=phi (Z7 (l:=l) (k:=l) (by omega));rw[aq rfl] at e234;have pts:(newC l t).p=l:=rfl;refine an ⟨1001,?_⟩;unfold Oh;simp only[ay,bX,aY,mN,mO,k8,py,fO,lY,lZ,l5,iK,kf,dT,EV,ah,z,pts];rw[bu];unfold yG;simp only[EV,d0,d0',au,aw];unfold Ia;simp only[EV,ay,cv,e234,aF,au,aw];unfold H9;simp only[EV,ah]
 let st:Nat->List PV:=λk=>[.i64 0,.i64 (certAll (newC l t) (es.take k)).n.num,.i64 (certAll (newC l t) (es.take k)).n.den,sl row (certAll (newC l t) (es.take k)).p,.i64 (certAll (newC l t) (es.take k)).q.next,sl hrow (certAll (newC l t) (es.take k)).q.l,sl I1 (certAll (newC l t) (es.take k)).a.s.u,sl B1 (certAll (newC l t) (es.take k)).a.s.v,sl I1 (certAll (newC l t) (es.take k)).a.s.f,sl bV (certAll (newC l t) (es.take k)).a.heap,sl I1 (certAll (newC l t) (es.take k)).a.w,sl cp (certAll (newC l t) (es.take k)).d,.i64 (k:Int)]
 refine(eG (m:=1001) (n:=es.length) (st:=st) (fin:=some [CL (certAll (newC l t) es),.i64 0]) (λk self hk=>?_) (λself=>?_) (by omega))
 .have hx:es[k]?=some es[k]:=ai _;have A:=vw hE hl ht hr k (by omega);obtain⟨ha,hnew⟩:=DF hE A hx;have hroom:=ha.room;show den (bx D) 1001 qY _ _=self [.i64 0,.i64 (certAll (newC l t) (es.take (k+1))).n.num,.i64 (certAll (newC l t) (es.take (k+1))).n.den,sl row (certAll (newC l t) (es.take (k+1))).p,.i64 (certAll (newC l t) (es.take (k+1))).q.next,sl hrow (certAll (newC l t) (es.take (k+1))).q.l,sl I1 (certAll (newC l t) (es.take (k+1))).a.s.u,sl B1 (certAll (newC l t) (es.take (k+1))).a.s.v,sl I1 (certAll (newC l t) (es.take (k+1))).a.s.f,sl bV (certAll (newC l t) (es.take (k+1))).a.heap,sl I1 (certAll (newC l t) (es.take (k+1))).a.w,sl cp (certAll (newC l t) (es.take (k+1))).d,.i64 ((k+1:Nat):Int)]
  rw[yn hx];simp only[st];generalize certAll (newC l t) (es.take k)=c at A ha hnew hroom|-;generalize es[k]=x at hx ha hnew|-;have m:=phi (agr A.fresh ha);unfold qY;simp only[EV,aa,bj hk,ay,aT hx (gb _),aM hx,oj,ah];refine(cL (m:=1001) (l:=c.q.l) (p:=λg=>!decide (g.c=x)) (st:=λi=>[.i64 (i:Int)]) (r:=none) (fin:=self [.i64 0,.i64 (gz c x).n.num,.i64 (gz c x).n.den,sl row (gz c x).p,.i64 (gz c x).q.next,sl hrow (gz c x).q.l,sl I1 (gz c x).a.s.u,sl B1 (gz c x).a.s.v,sl I1 (gz c x).a.s.f,sl bV (gz c x).a.heap,sl I1 (gz c x).a.w,sl cp (gz c x).d,.i64 ((k+1:Nat):Int)]) (λi g self' hg _=>?_) (λhall self'=>?_) (by omega)).trans ?_
  .have hne:=hnew g (ax hg);unfold yF;simp only[ay,aT hg (fL _),aM hg,kY,pHP,wH,EV,aa,bj (aO hg),up1 (show i<1000000000 by have:=aO hg;omega),hne,be,bA,au,az,aw]
  .have g0:decide (-1>=(0:Int))=false:=rfl;have g1:decide ((0:Int)<= -1)=false:=rfl;unfold yF;simp only[EV,aa,bK];unfold H8;simp only[EV,g0,g1,au,aw,ay,dE,m,bX,aA,aF,mN,mO,k8,py,fO,lY,lZ,l5,iK,kf,dT,kb,ke];unfold Ch;simp only[EV,up1 (show k<1000000000 by omega)]
  .rw[ad (by rw[aV];intro g hg;simpa using hnew g hg)]
 .have e:es.take es.length=es:=dX;simp only[st,e];unfold qY;simp only[EV,aa,bK];unfold H7;simp only[EV,ay,dE]
def Ny {l:List Pt}{t:Rt}{es:List Crt}(hl:okF l)(ht:aS t)(hr:rok t=true)(hE:EdgOk l es):Ans D 206 [CL (newC l t),F l,sl crow es] [CL (certAll (newC l t) es),.i64 0]:=by
 have hlen:=hE.len;have h64:=hl.1;have z:(newC l t).q.l.length=0:=rfl;have d0:decide (((0:Nat):Int)<((0:Nat):Int))=false:=rfl;have d0':decide ((0:Int)<((0:Nat):Int))=false:=rfl;have e28:=phi (c28 (l:=l) (k:=l) (by omega));rw[aq rfl] at e28;have pts:(newC l t).p=l:=rfl;have hc:=ii (wY hl ht hr).ok;refine an ⟨1001,?_⟩;unfold Ot;simp only[ay,bX,aY,phi (wQ hc),mN,mO,k8,py,fO,lY,lZ,l5,iK,kf,dT,EV,ah,pts];rw[bu];unfold yH;simp only[ay,fO,EV,ah,z,d0,d0',au,aw];unfold Io;simp only[EV,ay,Um,e28,aF,au,aw];unfold In;simp only[EV]
 let st:Nat->List PV:=λk=>[.i64 (certAll (newC l t) (es.take k)).n.num,.i64 (certAll (newC l t) (es.take k)).n.den,sl row (certAll (newC l t) (es.take k)).p,.i64 (certAll (newC l t) (es.take k)).q.next,sl hrow (certAll (newC l t) (es.take k)).q.l,sl I1 (certAll (newC l t) (es.take k)).a.s.u,sl B1 (certAll (newC l t) (es.take k)).a.s.v,sl I1 (certAll (newC l t) (es.take k)).a.s.f,sl bV (certAll (newC l t) (es.take k)).a.heap,sl I1 (certAll (newC l t) (es.take k)).a.w,sl cp (certAll (newC l t) (es.take k)).d,.i64 ((certAll (newC l t) (es.take k)).d.length:Int),.i64 (k:Int)]
 refine(eG (m:=1001) (n:=es.length) (st:=st) (fin:=some [CL (certAll (newC l t) es),.i64 0]) (λk self hk=>?_) (λself=>?_) (by omega))
 .have hx:es[k]?=some es[k]:=ai _;have A:=vw hE hl ht hr k (by omega);obtain⟨ha,hnew⟩:=DF hE A hx;have hroom:=ha.room;show den (bx D) 1001 qZ _ _=self [.i64 (certAll (newC l t) (es.take (k+1))).n.num,.i64 (certAll (newC l t) (es.take (k+1))).n.den,sl row (certAll (newC l t) (es.take (k+1))).p,.i64 (certAll (newC l t) (es.take (k+1))).q.next,sl hrow (certAll (newC l t) (es.take (k+1))).q.l,sl I1 (certAll (newC l t) (es.take (k+1))).a.s.u,sl B1 (certAll (newC l t) (es.take (k+1))).a.s.v,sl I1 (certAll (newC l t) (es.take (k+1))).a.s.f,sl bV (certAll (newC l t) (es.take (k+1))).a.heap,sl I1 (certAll (newC l t) (es.take (k+1))).a.w,sl cp (certAll (newC l t) (es.take (k+1))).d,.i64 ((certAll (newC l t) (es.take (k+1))).d.length:Int),.i64 ((k+1:Nat):Int)]
  rw[yn hx];simp only[st];generalize certAll (newC l t) (es.take k)=c at A ha hnew hroom|-;generalize es[k]=x at hx ha hnew|-;have m:=phi (ags A.fresh ha);have m2:=phi (Gg (c:=c.q) (x:=x) (by omega));rw[show(c.q.l.any λh=>decide (h.c=x))=false from by rw[dZ];intro g hg;simpa using hnew g hg] at m2
  have s0:=bI (f:=cp) (l:=c.d);unfold qZ;simp only[EV,aa,bj hk,ay,aT hx (gb _),aM hx,oj,ah,Nq,m2,au,aw,s0,dE,m,bX,aA,aF,mN,mO,k8,py,fO,lY,lZ,l5,iK,kf,dT];unfold Cj;simp only[EV,up1 (show k<1000000000 by omega)]
 .have e:es.take es.length=es:=dX;simp only[st,e];have s0:=bI (f:=cp) (l:=(certAll (newC l t) es).d);unfold qZ;simp only[EV,ah,aa,bK];unfold Im;simp only[EV,ay,s0,dE]
def i6 (t:Rt)(l:List Pt):Nat->List Int->Nat->List Int
 |0,h,_=>h
 |n+1,h,i=>match h[i]?,h[(i-1)/2]? with
  |some a,some b=>if 0<i/\ leads t (bh l a) (bh l b)=true then i6 t l n ((h.set i b).set ((i-1)/2) a) ((i-1)/2) else h
  |_,_=>h
def t6 {t:Rt}{l:List Pt}:∀(n:Nat) (h:List Int) (i:Nat),(i6 t l n h i).Perm h
 |0,h,i=> .refl _
 |n+1,h,i=>by
  unfold i6;split
  .rename_i a b ha hb;split
   .refine(t6 n _ _).trans ?_;obtain⟨h1,h2⟩:=aC.1 ha;obtain⟨h3,h4⟩:=aC.1 hb;rw[<-h2,<-h4];exact kz h1 h3
   .exact .refl _
  .exact .refl _
def Uw (l:List Pt)(k:Nat):Int:=((l[k]?).map Pt.id).getD 0
def eg (t:Rt)(l:List Pt):Nat->List Int
 |0=>[]
 |k+1=>i6 t l (k+1) (eg t l k++[Uw l k]) k
def nE {t:Rt}{l:List Pt}:∀k,k<=l.length->(eg t l k).Perm ((l.take k).map Pt.id)
 |0,_=>by simp[eg]
 |k+1,h=>by
  have hk:l[k]?=some l[k]:=ai _;refine(t6 _ _ _).trans ?_;rw[cA,hk,dU];unfold Uw;rw[hk];exact(nE k (by omega)).append_right _
def jQ {t:Rt}{l:List Pt}{k:Nat}(h:k<=l.length):(eg t l k).length=k:=by
 rw[(nE k h).length_eq,ah,aR];omega
def oT {t:Rt}{l:List Pt}:(eg t l l.length).Perm (l.map Pt.id):=by
 have:=nE (t:=t) (l:=l) l.length (aB _)
 grind
def Fz {l:List Pt}(h:okF l){x:Int}(hx:x∈l.map Pt.id):0<=x/\ x<=65535:=by
 obtain⟨p,hp,rfl⟩:=bk.1 hx;exact nC h p hp
def qt {l:List Pt}(h:okF l){hp:List Int}(pm:hp.Perm (l.map Pt.id)):EdgOk l (cW hp):=by
 have hnd:=pm.nodup_iff.2 (c9 h.2.2);have hlen:=pm.length_eq;rw[ah] at hlen;have h64:=h.1;refine⟨uK hnd,by unfold cW;rw[kg];omega,λx hx=>?_,λx hx=>gO.2 (pm.mem_iff.1 (oQ hx).1),λx hx=>gO.2 (pm.mem_iff.1 (oQ hx).2)⟩;obtain⟨m1,m2⟩:=oQ hx;have b1:=Fz h (pm.mem_iff.1 m1);have b2:=Fz h (pm.mem_iff.1 m2);refine⟨b1.1,b1.2,b2.1,b2.2,?_⟩;obtain⟨i,hi,rfl⟩:=bk.1 hx;rw[dc] at hi;simp only;intro e;have:=dL.1 hnd (i+1) (i/2) _ (eX (by omega)) (by rw[e];exact eX (by omega));omega
def DH {t:Rt}{l:List Pt}(h:okF l){x:Crt}(h1:inF l x.j=true)(h2:inF l x.h=true)(hl:leads t (bh l x.h) (bh l x.j)=true):x.ok:=by
 have b1:=Fz h (gO.1 h1);have b2:=Fz h (gO.1 h2);refine⟨b1.1,b1.2,b2.1,b2.2,λe=>?_⟩;rw[e,uB] at hl;cases hl
def lh {t:Rt}{l:List Pt}(h:okF l):EdgOk l (cG l (cF t l)):=by
 refine⟨px (c9 h.2.2),?_,λx hx=>?_,λx hx=>(fX h hx).1,λx hx=>(fX h hx).2.1⟩
 .have h64:=h.1;have:(cG l (cF t l)).length<=l.length:=by
   unfold cG
   grind
  omega
 .obtain⟨a,b,c⟩:=fX h hx;exact DH h a b c
def ln {t:Rt}{l:List Pt}(h:okF l):EdgOk l (edgsT (cart t l).n l.length):=by
 refine⟨rY h _ (aB _),?_,λx hx=>?_,λx hx=>(ig h hx).1,λx hx=>(ig h hx).2.1⟩
 .have h64:=h.1;have:=mK (cart t l).n l.length;omega
 .obtain⟨a,b,c⟩:=ig h hx;exact DH h a b c
def iB (c:Clock):RF.ev (.part 0 11) [CL c]=some (CL c):=rfl
def Wx {es:List Crt}{i:Nat}(h:i<=es.length):RF.ev (.tsub 2) [sl crow es,.v (.int .i64 0),.v (.int .i64 (i:Int))]=some (sl crow (es.take i)):=by
 have he:d8 2 (es.map crow)=true:=by
  cases es with
  |nil=>rfl
  |cons a l=>simp[d8,gb]
 rw[zn,ad ⟨by omega,by omega,by simp;omega,he,by decide⟩];simp
def Z9 {i n:Nat}(h:i<=n):RF.ev .bnd [.v (.int .i64 (i:Int)),.v (.int .i64 (n:Int))]=some (.i64 (i:Int)):=by rw[kq,ad ⟨by omega,by omega⟩]
def aaa (p:Pt):RF.ev (.shape 3) [PP p]=some (PP p):=rfl
def zS {l:List Pt}(h:okF l){x:Int}(hx:inF l x=true):∃(i:Nat) (p:Pt),l[i]?=some p/\ p.id=x/\ bh l x=p:=by
 obtain⟨i,p,h1,h2,_,h4⟩:=d6 h hx
 grind
open Classical in
def Ux {l:List Pt}{t:Rt}{es:List Crt}(hl:okF l)(ht:aS t)(hr:rok t=true)(hE:EdgOk l es):Ans D 264 [CL (newC l t),F l,sl crow es] [CL (certAll (newC l t) es),.i64 0]:=by
 have hlen:=hE.len;have hfr:=wY hl ht hr;have m1:=phi (wK (zR hfr) (qL hfr.ok));rw[aq hfr.ok,show okE true=0 from rfl] at m1
 have m2:=phi (uG l);rw[eH.2 hl] at m2;refine an ⟨1001,?_⟩;unfold OA;simp only[ay,bX,aY,m1,m2,EV,aA,aF,au,aw,ah];refine(cL (m:=1001) (l:=es) (p:=λ_=>true) (st:=λi=>[.i64 (i:Int)]) (r:=none) (fin:=some [CL (certAll (newC l t) es),.i64 0]) (λi x self hx _=>?_) (λ_ self=>?_) (by omega)).trans (ad (by simp))
 .obtain⟨o1,o2,o3,o4,o5⟩:=hE.ok x (ax hx);unfold yL;simp only[ay,aT hx (gb _),aM hx,oj,kb,ke,EV,aa,bj (aO hx),iy,up1 (show i<1000000000 by have:=aO hx;omega)]
  grind
 .unfold yL;simp only[EV,aa,bK];unfold I2;simp only[EV,ah];refine(cL (m:=1001) (l:=es) (p:=λ_=>true) (st:=λi=>[.i64 (i:Int)]) (r:=none) (fin:=some [CL (certAll (newC l t) es),.i64 0]) (λi x self hx _=>?_) (λ_ self=>?_) (by omega)).trans (ad (by simp))
  .have hn:x∉es.take i:=λhm=>by
    obtain⟨j,hj⟩:=aK.1 hm;have hji:j<i:=by have:=aO hj;rw[aR] at this;omega
    rw[db hji] at hj;have:=dL.1 hE.nd j i x hj hx;omega
   have m3:=phi (yh (l:=es.take i) x (by rw[aR];omega));rw[ak hn] at m3;have hi:=aO hx;unfold yK;simp only[ay,aT hx (gb _),aM hx,oj,Z9 (show i<=es.length by omega),Wx (show i<=es.length by omega),m3,EV,ah,aa,bj hi,au,aw,az,up1 (show i<1000000000 by omega)]
  .unfold yK;simp only[EV,aa,bK];unfold I0;simp only[EV,ah];refine(cL (m:=1001) (l:=es) (p:=λ_=>true) (st:=λi=>[.i64 (i:Int)]) (r:=none) (fin:=some [CL (certAll (newC l t) es),.i64 0]) (λi x self hx _=>?_) (λ_ self=>?_) (by omega)).trans (ad (by simp))
   .obtain⟨a,p,a1,a2,_⟩:=zS hl (hE.j x (ax hx));obtain⟨b,q,b1,b2,_⟩:=zS hl (hE.h x (ax hx));have n1:=phi (Ds hl a1);have n2:=phi (Ds hl b1);rw[a2] at n1;rw[b2] at n2;unfold yJ;simp only[ay,aT hx (gb _),aM hx,oj,kb,ke,n1,n2,aaa,EV,ah,aa,bj (aO hx),aA,aF,au,aw,az,up1 (show i<1000000000 by have:=aO hx;omega)]
   .unfold yJ;simp only[EV,aa,bK];unfold IZ;simp only[EV,ay,phi (Up (ii hfr.ok)),phi (Z8 hl ht hr hE),bX,iB]
def ajj {l:List Pt}{t:Rt}(h:okF l)(ht:aS t){a b:Int}(ha:inF l a=true)(hb:inF l b=true):Ans D 371 [F l,R t,.i64 a,.i64 b] [.bool (leads t (bh l a) (bh l b))]:=by
 obtain⟨i,p,a1,a2,a3,a4⟩:=d6 h ha;obtain⟨j,q,b1,b2,b3,b4⟩:=d6 h hb;have q1:=phi (rF (l:=l) (by have:=h.1;omega) a);have q2:=phi (rF (l:=l) (by have:=h.1;omega) b);rw[a3] at q1;rw[b3] at q2;refine am ?_;unfold aej;simp[aY,ba,cv,q1,q2,aT a1 (b6 _),aM a1,aT b1 (b6 _),aM b1,gu,EV,phi (Dq (dr h a1) (dr h b1) ht),a4,b4]
def agt {l:List Pt}{t:Rt}(h:okF l)(ht:aS t)(hr:rok t=true){a b:Int}(ha:inF l a=true)(hb:inF l b=true)(hne:a≠b):Ans D 151 [F l,R t,.i64 a,.i64 b] [.bool (leads t (bh l a) (bh l b))]:=by
 obtain⟨i,p,a1,a2,a4⟩:=zS h ha;obtain⟨j,q,b1,b2,b4⟩:=zS h hb;have:=Zy h ht hr a1 b1 (by rw[a2,b2];exact hne)
 grind
def EG {l:List Pt}{t:Rt}(h:okF l)(ht:aS t)(hr:rok t=true){N:Nat}{f0 f1 f2:JT}{e0 e1 e4 e5 e6 e7 e8 e9 e10 e11 e12 e13 e14 e15 e16 e17 e18 e19 e20:PV}{H:Nat}(hH:H<=1000):∀(r i m:Nat) (hp:List Int),i<=r->r<m->i<H->hp.length=H->(∀x∈hp,inF l x=true)->hp.Nodup->
  dl (bx D) N z7 [f0,f1,f2] [e0,e1,F l,R t,e4,e5,e6,e7,e8,e9,e10,e11,e12,e13,e14,e15,e16,e17,e18,e19,e20,.i64 (H:Int)] m [.i64 (i:Int),sl I1 hp]=f2 [sl I1 (i6 t l r hp i)]
 |0,i,m,hp,hi,hm,hiH,hl,hin,hnd=>by
  obtain⟨m,rfl⟩:∃m',m=m'+1:=⟨m-1,by omega⟩;have:i=0:=by omega
  subst this;rw[bu];unfold z7 i6;simp only[EV,aa];rw[ac (by omega)]
 |r+1,i,m,hp,hi,hm,hiH,hl,hin,hnd=>by
  obtain⟨m,rfl⟩:∃m',m=m'+1:=⟨m-1,by omega⟩;obtain⟨a,ha⟩:∃a,hp[i]?=some a:=⟨hp[i],ai _⟩;obtain⟨b,hb⟩:∃b,hp[(i-1)/2]?=some b:=⟨hp[(i-1)/2]'(by omega),ai _⟩;have E:i6 t l (r+1) hp i=if 0<i/\ leads t (bh l a) (bh l b)=true then i6 t l r ((hp.set i b).set ((i-1)/2) a) ((i-1)/2) else hp:=by rw[i6,ha,hb]
  rw[E,bu];by_cases h0:0<i
  rotate_left
  .rw[ac (λh=>h0 h.1)];unfold z7;simp only[EV,aa];rw[ac (by omega)]
  .have pm:((hp.set i b).set ((i-1)/2) a).Perm hp:=by
    obtain⟨h1,h2⟩:=aC.1 ha;obtain⟨h3,h4⟩:=aC.1 hb;rw[<-h2,<-h4];exact kz h1 h3
   have hne:a≠b:=λe=>by
    have:=dL.1 hnd i ((i-1)/2) a ha (by rw[e];exact hb);omega
   have ih:=EG (l:=l) (t:=t) h ht hr (N:=N) (f0:=f0) (f1:=f1) (f2:=f2) (e0:=e0) (e1:=e1) (e4:=e4) (e5:=e5) (e6:=e6) (e7:=e7) (e8:=e8) (e9:=e9) (e10:=e10) (e11:=e11) (e12:=e12) (e13:=e13) (e14:=e14) (e15:=e15) (e16:=e16) (e17:=e17) (e18:=e18) (e19:=e19) (e20:=e20) (H:=H) hH r ((i-1)/2) m ((hp.set i b).set ((i-1)/2) a) (by omega) (by omega) (by omega) (by rw[pm.length_eq];exact hl) (λx hx=>hin x (pm.mem_iff.1 hx)) (pm.nodup_iff.2 hnd);have cm:=phi (agt h ht hr (hin a (ax ha)) (hin b (ax hb)) hne);have q2:=DC h0 (by omega);have s1:=fy (l:=hp) (i:=i) (by omega) b;have s2:RF.ev (.set 0) [sl I1 (hp.set i b),.v (.int .i64 (((i-1)/2:Nat):Int)),.v (.int .i64 a)]=some (sl I1 ((hp.set i b).set ((i-1)/2) a)):=fy (by rw[aP];omega) a;generalize hkk:z7=kk at ih;subst hkk;unfold z7;simp[EV];rw[ad (by omega)];simp only[EV,q2,ixM hiH,ixM (show(i-1)/2<H by omega),aM ha,aM hb,cZ,cm]
   cases hc:leads t (bh l a) (bh l b) with
   |false=>
    simp only[au,aw,iw]
   |true=>
    simp only[h0,jt,az,EV,oe,q2,ixM hiH,ixM (show(i-1)/2<H by omega),aM ha,aM hb,cZ,ay,s1,s2]
    exact ih
def BE {l:List Pt}{t:Rt}(h:okF l)(ht:aS t){N:Nat}{f0:JT}{e0 e1 e2 e3 e6:PV}{H:Nat}(hH:H<=1000):∀(r i m:Nat) (hp:List Int),i<=r->r<m->i<H->hp.length=H->(∀x∈hp,inF l x=true)->
  dl (bx D) N vI [f0] [e0,e1,e2,e3,F l,R t,e6,.i64 (H:Int)] m [.i64 (i:Int),sl I1 hp]=f0 [sl I1 (i6 t l r hp i)]
 |0,i,m,hp,hi,hm,hiH,hl,hin=>by
  obtain⟨m,rfl⟩:∃m',m=m'+1:=⟨m-1,by omega⟩;have:i=0:=by omega
  subst this;rw[bu];unfold vI i6;simp only[EV,aa];rw[ac (by omega)]
 |r+1,i,m,hp,hi,hm,hiH,hl,hin=>by
  obtain⟨m,rfl⟩:∃m',m=m'+1:=⟨m-1,by omega⟩;obtain⟨a,ha⟩:∃a,hp[i]?=some a:=⟨hp[i],ai _⟩;obtain⟨b,hb⟩:∃b,hp[(i-1)/2]?=some b:=⟨hp[(i-1)/2]'(by omega),ai _⟩;have E:i6 t l (r+1) hp i=if 0<i/\ leads t (bh l a) (bh l b)=true then i6 t l r ((hp.set i b).set ((i-1)/2) a) ((i-1)/2) else hp:=by rw[i6,ha,hb]
  rw[E,bu];by_cases h0:0<i
  rotate_left
  .rw[ac (λh=>h0 h.1)];unfold vI;simp only[EV,aa];rw[ac (by omega)]
  .have pm:((hp.set i b).set ((i-1)/2) a).Perm hp:=by
    obtain⟨h1,h2⟩:=aC.1 ha;obtain⟨h3,h4⟩:=aC.1 hb;rw[<-h2,<-h4];exact kz h1 h3
   have ih:=BE (l:=l) (t:=t) h ht (N:=N) (f0:=f0) (e0:=e0) (e1:=e1) (e2:=e2) (e3:=e3) (e6:=e6) (H:=H) hH r ((i-1)/2) m ((hp.set i b).set ((i-1)/2) a) (by omega) (by omega) (by omega) (by rw[pm.length_eq];exact hl) (λx hx=>hin x (pm.mem_iff.1 hx));have cm:=phi (ajj h ht (hin a (ax ha)) (hin b (ax hb)));have q2:=DC h0 (by omega);have s1:=fy (l:=hp) (i:=i) (by omega) b;have s2:RF.ev (.set 0) [sl I1 (hp.set i b),.v (.int .i64 (((i-1)/2:Nat):Int)),.v (.int .i64 a)]=some (sl I1 ((hp.set i b).set ((i-1)/2) a)):=fy (by rw[aP];omega) a;generalize hkk:vI=kk at ih;subst hkk;unfold vI;simp[EV];rw[ad (by omega)];simp only[EV,q2,ixM hiH,ixM (show(i-1)/2<H by omega),aM ha,aM hb,cZ,cm]
   cases hc:leads t (bh l a) (bh l b) with
   |false=>
    simp
   |true=>
    simp only[h0,jt,az,EV,oe,q2,ixM hiH,ixM (show(i-1)/2<H by omega),aM ha,aM hb,cZ,ay,s1,s2]
    exact ih
def ajk {l:List Pt}{t:Rt}(h:okF l)(ht:aS t){hp:List Int}{i:Nat}(hi:i<hp.length)(hH:hp.length<=900)(hin:∀x∈hp,inF l x=true):Ans D 285 [F l,R t,sl I1 hp,.i64 (i:Int)] [sl I1 (i6 t l (i+1) hp i)]:=by
 have s0:=bI (f:=I1) (l:=i6 t l (i+1) hp i);rw[(t6 (t:=t) (l:=l) (i+1) hp i).length_eq] at s0;refine an ⟨1001,?_⟩;unfold ac8;simp[aY,ba,iZ (l:=hp) (f:=I1) (bytes:=8) (z:=1) (by omega) ct,EV];refine(BE h ht (N:=1001) (H:=hp.length) (by omega) (i+1) i 1001 hp (by omega) (by omega) hi rfl hin).trans ?_;unfold RN;simp[EV,s0]
def lr (t:Rt)(l:List Pt):KHeap:=⟨certAll (newC l t) (cW (eg t l l.length)),eg t l l.length⟩
def FA (c:Clock)(h:List Int):RF.ev .agg [CL c,sl I1 h]=some (KH ⟨c,h⟩):=rfl
def GM {l:List Pt}{t:Rt}{k:Nat}(hk:k<=l.length):∀x∈eg t l k,inF l x=true:=λx hx=>by
 have:=(nE (t:=t) k hk).mem_iff.1 hx;obtain⟨p,hp,e⟩:=bk.1 this;exact gO.2 (bk.2 ⟨p,jb hp,e⟩)
def GN {l:List Pt}{t:Rt}(h:okF l){k:Nat}(hk:k<=l.length):(eg t l k).Nodup:=by
 refine(nE (t:=t) k hk).nodup_iff.2 ?_;have:=c9 h.2.2;unfold Ids at this
 grind
def t7 {l:List Pt}{t:Rt}{k:Nat}{p:Pt}(hp:l[k]?=some p):eg t l (k+1)=i6 t l (k+1) (eg t l k++[p.id]) k:=by
 rw[eg];unfold Uw;rw[hp];rfl
def LU {l:List Pt}{t:Rt}{k:Nat}{p:Pt}(hp:l[k]?=some p):∀x∈eg t l k++[p.id],inF l x=true:=λx hx=>by
 rcases b9.1 hx with h|h
 .exact GM (by have:=aO hp;omega) x h
 .rw[cJ] at h;subst h;exact gO.2 (bk.2 ⟨p,ax hp,rfl⟩)
def XX {l:List Pt}{t:Rt}(h:okF l){k:Nat}{p:Pt}(hp:l[k]?=some p):(eg t l k++[p.id]).Nodup:=by
 have:=GN (t:=t) h (k:=k+1) (aO hp);rw[t7 hp] at this;exact(t6 _ _ _).nodup_iff.1 this
def ajl {l:List Pt}{t:Rt}(hl:okF l)(ht:aS t)(hr:rok t=true):Ans D 197 [F l,R t] [KH (lr t l)]:=by
 have h64:=hl.1;have hE:=qt hl (oT (t:=t) (l:=l));refine an ⟨1001,?_⟩;unfold ab9;simp only[ay,aY,ba,EV];refine(eG (m:=1001) (n:=l.length) (st:=λk=>[sl I1 (eg t l k),.i64 (k:Int)]) (fin:=some [KH (lr t l)]) (λk self hk=>?_) (λself=>?_) (by omega))
 .obtain⟨p,hp⟩:∃p,l[k]?=some p:=⟨l[k],ai _⟩;have hbl:=jQ (t:=t) (l:=l) (k:=k) (by omega);have ap:=eF (f:=I1) (l:=eg t l k) (k:=[p.id]) (bytes:=8) (z:=1) (by simp;omega) ct;have s0:=bI (f:=I1) (l:=eg t l k++[p.id]);have c1:=phi (ajk (t:=t) hl ht (hp:=eg t l k++[p.id]) (i:=k) (by simp;omega) (by simp;omega) (LU hp));rw[<-t7 hp] at c1;unfold Ih;simp only[ay,cv,EV,ah,aa,bj hk,iZ (l:=eg t l k) (f:=I1) (bytes:=8) (z:=1) (by omega) ct,aT hp (b6 _),aM hp,rT,bsI,nB,ap,s0,c1,up1 (show k<1000000000 by omega)]
 .unfold Ih;simp only[ay,cv,EV,ah,aa,bK];unfold Q8;simp only[EV,ay,phi (Nt (l:=l) (t:=t) (by omega)),phi (Ua (l:=eg t l l.length) (by rw[jQ (aB _)];omega)),ah,bI,phi (Ny hl ht hr hE),bX,iB,FA];rfl
def c55 {l:List Pt}{t:Rt}(hl:okF l)(ht:aS t)(hr:rok t=true):Ans D 76 [F l,R t] [KH (lr t l),.i64 0]:=by
 have h64:=hl.1;have hE:=qt hl (oT (t:=t) (l:=l));have s9:=bI (f:=I1) (l:=eg t l l.length);refine an ⟨1001,?_⟩;unfold k55;simp only[ay,aY,ba,phi (Nu hl ht hr),bX,cv,EV,aA,aF,au,aw,ah];refine(eG (m:=1001) (n:=l.length) (st:=λk=>[sl I1 (eg t l k),.i64 ((eg t l k).length:Int),.i64 (k:Int)]) (fin:=some [KH (lr t l),.i64 0]) (λk self hk=>?_) (λself=>?_) (by omega))
 .obtain⟨p,hp⟩:∃p,l[k]?=some p:=⟨l[k],ai _⟩;have hbl:=jQ (t:=t) (l:=l) (k:=k) (by omega);have hbl':=jQ (t:=t) (l:=l) (k:=k+1) (by omega);have ap:=eF (f:=I1) (l:=eg t l k) (k:=[p.id]) (bytes:=8) (z:=1) (by simp;omega) ct;unfold Of;simp only[ay,cv,EV,aa,bj hk,aT hp (b6 _),aM hp,gu,DG,bsI,nB,ap,ah];refine(EG hl ht hr (N:=1001) (H:=(eg t l k++[p.id]).length) (by simp;omega) (k+1) k 1001 _ (by omega) (by omega) (by simp;omega) rfl (LU hp) (XX hl hp)).trans ?_;unfold Xe;have e:(eg t l k++[p.id]).length=(eg t l (k+1)).length:=by rw[hbl',aD,hbl];rfl
  rw[<-t7 hp];simp only[EV,up1 (show k<1000000000 by omega),e]
 .unfold Of;simp only[EV,aa,bK];unfold Xd;simp only[EV,ay,s9,phi (T9 (l:=eg t l l.length) (by rw[jQ (aB _)];omega)),phi (Z8 hl ht hr hE),bX,iB,FA];rfl
def c60 {l:List Pt}{t:Rt}(hl:okF l)(ht:aS t)(hr:rok t=true):Ans D 100 [F l,R t] [KH (lr t l),.i64 0]:=by
 have m1:=phi (qm l);rw[eH.2 hl] at m1;have m2:=phi (ql ht);rw[hr,show okE true=0 from rfl] at m2
 refine am ?_;unfold k60;simp[aY,ba,m1,m2,EV,phi (ajl hl ht hr),gc]
def twice:Nat->Nat->Nat->Nat
 |0,n,_=>n
 |f+1,n,m=>if n<m then twice f (2*n) m else n
def AT:∀m:Nat,m<65->1<=twice 7 1 m/\ m<=twice 7 1 m/\ twice 7 1 m<=64:=by decide
def b5 (l:List Pt):List Int:=l.map Pt.id++List.replicate (twice 7 1 l.length-l.length) (-1)
def lu {l:List Pt}(h:okF l):(b5 l).length=twice 7 1 l.length/\ 1<=(b5 l).length/\(b5 l).length<=64:=by
 have h1:=h.1;obtain⟨a,b,c⟩:=AT l.length (by omega);unfold b5
 grind
def dY {l:List Pt}:∀x∈b5 l,dV l x:=λx hx=>by
 unfold b5 at hx;rcases b9.1 hx with h|h
 .exact .inr (gO.2 h)
 .exact .inl (fD.1 h).2
def fE {l:List Pt}(h:okF l):gK (b5 l):=by
 rw[zx];have hI:=c9 h.2.2;have key:∀(i:Nat) (x:Int),0<=x->(b5 l)[i]?=some x->(l.map Pt.id)[i]?=some x:=λi x h0 hi=>by
  unfold b5 at hi
  grind
 intro i j x h0 hi hj;exact dL.1 hI i j x (key i x h0 hi) (key j x h0 hj)
def Lu {t:Rt}{l:List Pt}{wins places:List Int}(hb:sL wins places)(hf:mD (wonI t l) wins places):l7 wins places:=by
 refine⟨hb,λi hi=>?_⟩;have:=hf i hi;unfold pY;rw[this];unfold wonI
 grind
def bracketOf (t:Rt)(l:List Pt)(places:List Int):Brk:=⟨places,playD (wonI t l) places (places.length-1) (places.length-1)⟩
def gA {t:Rt}{l:List Pt}{places:List Int}(h:okF l)(h1:1<=places.length)(h2:places.length<=64)(hv:∀x∈places,dV l x)(ho:gK places):
  (bracketOf t l places).w.length=places.length-1/\ l7 (bracketOf t l places).w places/\ mD (wonI t l) (bracketOf t l places).w places:=by
 have hlen:(bracketOf t l places).w.length=places.length-1:=by unfold bracketOf;simp only;exact it _
 have hf:=(uD hlen).1 rfl;refine⟨hlen,Lu ⟨⟨h1,h2,by omega⟩,ho,λx hx=>?_⟩ hf,hf⟩;exact ov h (hv x hx)
def jR {t:Rt}{l:List Pt}{places:List Int}(h:okF l)(h1:1<=places.length)(h2:places.length<=64)(hv:∀x∈places,dV l x)(ho:gK places):
  EdgOk l (edsB (bracketOf t l places).w places (bracketOf t l places).w.length):=by
 obtain⟨hlen,hb,hf⟩:=gA (t:=t) h h1 h2 hv ho;have facts:=λe=>jP (b:=bracketOf t l places) (e:=e) h hb hv hf;refine⟨rZ (b:=bracketOf t l places) h hb hv hf _ (aB _),?_,λx hx=>?_,λx hx=>(facts x hx).1,λx hx=>(facts x hx).2.1⟩
 .have:=mM (bracketOf t l places).w places (bracketOf t l places).w.length;omega
 .obtain⟨a,b,c⟩:=facts x hx;exact DH h a b c
def ajm {l:List Pt}{t:Rt}{pl:List Int}(h:okF l)(ht:aS t)(h1:1<=pl.length)(h2:pl.length<=64)(hv:∀x∈pl,dV l x):Ans D 372 [F l,R t,sl I1 pl] [BR (bracketOf t l pl)]:=by
 have wp:IntKind.i64.wrap ((pl.length:Int)-1)=((pl.length-1:Nat):Int):=by rw[cU (by omega) (by omega)];omega
 have rp:=yj (n:=pl.length-1) (by omega);have agB:∀w:List Int,RF.ev .agg [sl I1 pl,sl I1 w]=some (BR ⟨pl,w⟩):=λw=>rfl;refine an ⟨1001,?_⟩;unfold aek bracketOf;simp only[ay,aY,ba,EV,ah,iZ (l:=pl) (f:=I1) (bytes:=8) (z:=1) (by omega) ct,wp,rp,aQ];generalize hm:pl.length-1=m at*;have w1:IntKind.i64.wrap ((m:Int)-1)=(m:Int)-1:=cU (by omega) (by omega);rw[w1];have e0:([sl I1 (List.replicate m 0),PV.v (.int .i64 ((m:Int)-1))]:List PV)=[sl I1 (playD (wonI t l) pl m 0),.i64 ((m:Int)-1-((0:Nat):Int))]:=by
  simp[playD]
 rw[e0];refine(eG (m:=1001) (n:=m) (st:=λk=>[sl I1 (playD (wonI t l) pl m k),.i64 ((m:Int)-1-(k:Int))]) (λk self hk=>?_) (λself=>?_) (by omega))
 .obtain⟨i,hi⟩:∃i:Nat,m-1-k=i:=⟨_,rfl⟩;have hii:(m:Int)-1-(k:Int)=(i:Int):=by omega
  have hdn:IntKind.i64.wrap ((i:Int)-1)=(m:Int)-1-((k+1:Nat):Int):=by rw[cU (by omega) (by omega)];omega
  have hP:=Ap (P:=dV l) (.inl rfl) (won:=wonI t l) (λa b=>AO a b) hv k (by omega:k<=m);have hlen:=it (won:=wonI t l) (places:=pl) (m:=m) k;have hnx:playD (wonI t l) pl m (k+1)=(playD (wonI t l) pl m k).set i (wonI t l (nodeV (playD (wonI t l) pl m k) pl (2*i+1)) (nodeV (playD (wonI t l) pl m k) pl (2*i+2))):=by rw[<-hi];rfl
  rw[hnx];generalize playD (wonI t l) pl m k=w at hP hlen;have su:RF.ev .sub [sl I1 w,.v (.int .i64 0),.v (.int .i64 (m:Int))]=some (sl I1 w):=by rw[<-hlen];exact bI
  unfold Jv;simp only[EV,hii,aa,ge_iff_le,ad (show(0:Int)<=(i:Int) by omega),dbl (show i<100000000 by omega),up1 (show 2*i<1000000000 by omega),up2 (show 2*i<1000000000 by omega),bI,su,agB,ay,phi (yl (b:=⟨pl,w⟩) (i:=2*i+1) (by simp only;omega) (by simp only;omega)),phi (yl (b:=⟨pl,w⟩) (i:=2*i+2) (by simp only;omega) (by simp only;omega)),phi (ZL h ht (hP (2*i+1) (by omega)) (hP (2*i+2) (by omega))),ixM (show i<m by omega),fy (l:=w) (i:=i) (by omega),hdn]
 .have hlen:=it (won:=wonI t l) (places:=pl) (m:=m) m;generalize playD (wonI t l) pl m m=w at hlen;have su:RF.ev .sub [sl I1 w,.v (.int .i64 0),.v (.int .i64 (m:Int))]=some (sl I1 w):=by rw[<-hlen];exact bI
  unfold Jv;simp only[EV,aa,ge_iff_le,ac (show¬(0:Int)<=(m:Int)-1-(m:Int) by omega),Sf,bI,su,agB,ay]
def Uy {l:List Pt}{t:Rt}{pl:List Int}(h:okF l)(ht:aS t)(h1:1<=pl.length)(h2:pl.length<=64)(hv:∀x∈pl,dV l x):Ans D 286 [F l,R t,sl I1 pl] [BR (bracketOf t l pl)]:=by
 refine am ?_;unfold ac9;simp[aY,ba,EV,phi (ajm h ht h1 h2 hv),kD]
def xa {N:Nat}{f0:JT}{e0:PV}{l:List Pt}(hl:l.length<=64):∀(f n M:Nat),l.length<=n*2^ f->1<=n->f<M->dl (bx D) N sW [f0] [e0,F l] M [.i64 (n:Int)]=f0 [.i64 (twice f n l.length:Nat)]
 |0,n,M,h,h1,hM=>by
  obtain⟨M,rfl⟩:∃m',M=m'+1:=⟨M-1,by omega⟩;rw[bu];unfold sW twice;simp only[cv,EV,ah,aa];rw[ac (by omega)]
 |f+1,n,M,h,h1,hM=>by
  obtain⟨M,rfl⟩:∃m',M=m'+1:=⟨M-1,by omega⟩;rw[bu,twice];by_cases c:n<l.length
  .have ih:=xa (N:=N) (f0:=f0) (e0:=e0) hl f (2*n) M (by rw[Nat.pow_succ] at h;rw[tL 2 n,Nat.mul_assoc,tL 2];exact h) (by omega) (by omega);have w:IntKind.i64.wrap ((n:Int)*2)=((2*n:Nat):Int):=by rw[cU (by omega) (by omega)];omega
   rw[ad c];generalize hkk:sW=kk at ih;subst hkk;unfold sW;simp[cv,EV];rw[ad (by omega),w];exact ih
  .rw[ac c];unfold sW;simp only[cv,EV,ah,aa];rw[ac (by omega)]
def Lv {l:List Pt}{n k:Nat}{p:Pt}(hp:l[k]?=some p)(hn:l.length<=n):((l.take k).map Pt.id++List.replicate (n-k) (-1)).set k p.id=(l.take (k+1)).map Pt.id++List.replicate (n-(k+1)) (-1):=by
 have hk:=aO hp;have hlen:((l.take k).map Pt.id).length=k:=by rw[ah,aR];omega
 have e:n-k=n-(k+1)+1:=by omega
 rw[pa _ _ (by omega),hlen,js,e,mj,List.set_cons_zero,cA,hp,dU,bg];rfl
def ajn {l:List Pt}(h:okF l):Ans D 171 [F l] [sl I1 (b5 l)]:=by
 have hl:=h.1;obtain⟨t1,t2,t3⟩:=AT l.length (by omega);refine an ⟨1001,?_⟩;unfold ab3;simp only[ay,aY,EV];refine(xa (N:=1001) (l:=l) hl 7 1 1001 (by omega) (by omega) (by omega)).trans ?_;unfold b5;generalize twice 7 1 l.length=n at t1 t2 t3;unfold Q0;simp only[EV,bsI,nB,Wp,phi (ZZ (n:=n) t1 (by omega)),ah,aQ,ay,cv];have e0:([sl I1 (List.replicate n (-1)),PV.v (.int .i64 0)]:List PV)=[sl I1 ((l.take 0).map Pt.id++List.replicate (n-0) (-1)),.i64 ((0:Nat):Int)]:=by simp
 rw[e0];refine(eG (m:=1001) (n:=l.length) (st:=λk=>[sl I1 ((l.take k).map Pt.id++List.replicate (n-k) (-1)),.i64 (k:Int)]) (λk self hk=>?_) (λself=>?_) (by omega))
 .obtain⟨p,hp⟩:∃p,l[k]?=some p:=⟨l[k],ai _⟩;have hlen:((l.take k).map Pt.id++List.replicate (n-k) (-1:Int)).length=n:=by simp;omega
  have st:=fy (l:=(l.take k).map Pt.id++List.replicate (n-k) (-1)) (i:=k) (by rw[hlen];omega) p.id;rw[Lv hp t2] at st;unfold Ic;simp only[ay,cv,EV,aa,bj hk,aT hp (b6 _),aM hp,gu,DG,ixM (show k<n by omega),st,up1 (show k<1000000000 by omega)]
 .have hlen:(l.map Pt.id++List.replicate (n-l.length) (-1:Int)).length=n:=by simp;omega
  have su:=bI (f:=I1) (l:=l.map Pt.id++List.replicate (n-l.length) (-1:Int));rw[hlen] at su;unfold Ic;simp only[EV,aa,bK,dX];unfold QZ;simp only[EV,su]
def ajo {l:List Pt}(h:okF l):Ans D 200 [F l] [sl I1 (b5 l)]:=by
 have hl:=h.1;obtain⟨t1,t2,t3⟩:=AT l.length (by omega);have same:Rb=sW:=rfl;have hget:∀k,(k<l.length->∀p,l[k]?=some p->(b5 l)[k]?=some p.id)/\(¬k<l.length->k<twice 7 1 l.length->(b5 l)[k]?=some (-1)):=λk=>by
  unfold b5
  grind
 have hlen:(b5 l).length=twice 7 1 l.length:=(lu h).1;refine an ⟨1001,?_⟩;unfold acb;simp only[ay,aY,EV,same];refine(xa (N:=1001) (l:=l) hl 7 1 1001 (by omega) (by omega) (by omega)).trans ?_;generalize twice 7 1 l.length=n at t1 t2 t3 hget hlen;unfold Ra;simp only[EV];refine(eG (m:=1001) (n:=n) (st:=λk=>[sl I1 ((b5 l).take k),.i64 (((b5 l).take k).length:Int),.i64 (k:Int)]) (λk self hk=>?_) (λself=>?_) (by omega))
 .have hlk:((b5 l).take k).length=k:=by rw[aR];omega
  have hlk':((b5 l).take (k+1)).length=k+1:=by rw[aR];omega
  have ap:∀x:Int,(b5 l)[k]?=some x->RF.ev (.app 8 1) [sl I1 ((b5 l).take k),.v (.int .i64 (((b5 l).take k).length:Int)),sl I1 [x]]=some (sl I1 ((b5 l).take (k+1))):=λx hx=>by
   have:=eF (f:=I1) (l:=(b5 l).take k) (k:=[x]) (bytes:=8) (z:=1) (by simp;omega) ct;rw[this,cA,hx];rfl
  unfold Ij;simp only[ay,cv,EV,aa,bj hk,ah];by_cases c:k<l.length
  .obtain⟨p,hp⟩:∃p,l[k]?=some p:=⟨l[k],ai _⟩;rw[ad (by omega)];simp only[EV,aT hp (b6 _),aM hp,rT,bsI,nB,ap _ ((hget k).1 c p hp),ah];unfold Ii;simp only[EV,up1 (show k<1000000000 by omega)]
  .rw[ac (by omega)];simp only[EV,bsI,nB,ap _ ((hget k).2 c hk),ah];unfold Ii;simp only[EV,up1 (show k<1000000000 by omega)]
 .have su:=bI (f:=I1) (l:=b5 l);unfold Ij;simp only[EV,aa,bK];unfold Q9;rw[show(b5 l).take n=b5 l from bi (by omega)]
  simp only[EV,su]
section
variable (t:Rt)(l:List Pt)
def iS:KTourn:=⟨certAll (newC l t) (edsB (bracketOf t l (b5 l)).w (b5 l) (bracketOf t l (b5 l)).w.length),bracketOf t l (b5 l)⟩
def mo:Heater:=⟨certAll (newC l t) (edgsT (cart t l).n l.length),cart t l⟩
def mq:KHeap:=⟨certAll (newC l t) (cG l (cF t l)),cF t l⟩
end
def FB (c:Clock)(b:Brk):RF.ev .agg [CL c,BR b]=some (KT ⟨c,b⟩):=rfl
def FC (c:Clock)(b:Tree):RF.ev .agg [CL c,TR b]=some (HT ⟨c,b⟩):=rfl
def GO (b:Brk):RF.ev (.part 0 2) [BR b]=some (BR b):=rfl
def GP (b:Tree):RF.ev (.part 0 2) [TR b]=some (TR b):=rfl
def Wy (k:KTourn):RF.ev (.part 0 13) [KT k]=some (KT k):=rfl
def agu (k:Heater):RF.ev (.part 0 13) [HT k]=some (HT k):=rfl
def agv (k:KHeap):RF.ev (.part 0 12) [KH k]=some (KH k):=rfl
section
variable {l:List Pt}{t:Rt}(hl:okF l)(ht:aS t)(hr:rok t=true)
include hl ht hr
theorem ajp:Ans D 170 [CL (newC l t),F l,sl I1 (b5 l)] [KT (iS t l),.i64 0]:=by
 obtain⟨_,h1,h2⟩:=lu hl;have hE:=jR (t:=t) hl h1 h2 dY (fE hl);have nw:(newC l t).n=t:=rfl;have m1:bx D 159 [F l,R t,sl I1 (b5 l)]=some [BR (bracketOf t l (b5 l)),sl crow (edsB (bracketOf t l (b5 l)).w (b5 l) (bracketOf t l (b5 l)).w.length)]:=phi (No hl ht hr h1 h2 dY (fE hl) rfl);refine am ?_;unfold Oi;simp[bX,aY,eZ,nw,m1,kD,phi (Ux hl ht hr hE),EV];rfl
theorem c56:Ans D 77 [F l,R t] [KT (iS t l),.i64 0]:=by
 refine am ?_;unfold k56;simp[aY,ba,phi (Nu hl ht hr),bX,EV,phi (ajn hl),phi (ajp hl ht hr),mI,Wy]
theorem ajq:Ans D 198 [CL (newC l t),F l,sl I1 (b5 l)] [KT (iS t l),.i64 0]:=by
 obtain⟨_,h1,h2⟩:=lu hl;have hE:=jR (t:=t) hl h1 h2 dY (fE hl);have nw:(newC l t).n=t:=rfl;obtain⟨b1,b2,b3⟩:=gA (t:=t) hl h1 h2 dY (fE hl);have m2:=phi (Uj (b:=bracketOf t l (b5 l)) (by rw[b1];show(b5 l).length=_;omega) (by show(b5 l).length<=70;omega) (λi hi=>(b2.2 i hi).1) (λj=>ov hl (brk_val (b:=bracketOf t l (b5 l)) b2 dY j)))
 have m2:bx D 142 [BR (bracketOf t l (b5 l))]=some [sl crow (edsB (bracketOf t l (b5 l)).w (b5 l) (bracketOf t l (b5 l)).w.length)]:=m2;refine am ?_;unfold Om;simp[bX,aY,eZ,nw,phi (Uy hl ht h1 h2 dY),kD,m2,phi (Ny hl ht hr hE),EV];rfl
theorem c61:Ans D 101 [F l,R t] [KT (iS t l),.i64 0]:=by
 have m1:=phi (qm l);rw[eH.2 hl] at m1;have m2:=phi (ql ht);rw[hr,show okE true=0 from rfl] at m2
 refine am ?_;unfold k61;simp[aY,ba,m1,m2,EV,phi (Nt (l:=l) (t:=t) (by have:=hl.1;omega)),phi (ajo hl),phi (ajq hl ht hr),mI,Wy]
theorem ajr:Ans D 172 [CL (newC l t),F l] [HT (mo t l),.i64 0]:=by
 have hE:=ln (t:=t) hl;have nw:(newC l t).n=t:=rfl;refine am ?_;unfold Oj;simp[bX,aY,eZ,nw,phi (Gu hl ht hr (mL hl) (vp hl)),pq,phi (Ux hl ht hr hE),EV];rfl
theorem c57:Ans D 78 [F l,R t] [HT (mo t l),.i64 0]:=by
 refine am ?_;unfold k57;simp[aY,ba,phi (Nu hl ht hr),bX,EV,phi (ajr hl ht hr),mJ]
theorem ajs:Ans D 201 [CL (newC l t),F l] [HT (mo t l),.i64 0]:=by
 have hE:=ln (t:=t) hl;have nw:(newC l t).n=t:=rfl;have m2:=phi (Ue (x:=cart t l) (mL hl) (by rw[jl hl];have:=hl.1;omega));rw[jl hl] at m2;refine am ?_;unfold On;simp[bX,aY,eZ,nw,phi (Nl hl ht),pq,m2,phi (Ny hl ht hr hE),EV];rfl
theorem c62:Ans D 102 [F l,R t] [HT (mo t l),.i64 0]:=by
 have m1:=phi (qm l);rw[eH.2 hl] at m1;have m2:=phi (ql ht);rw[hr,show okE true=0 from rfl] at m2
 refine am ?_;unfold k62;simp[aY,ba,m1,m2,EV,phi (Nt (l:=l) (t:=t) (by have:=hl.1;omega)),phi (ajs hl ht hr),mJ,agu]
theorem ajt:Ans D 173 [CL (newC l t),F l] [KH (mq t l),.i64 0]:=by
 have hE:=lh (t:=t) hl;have nw:(newC l t).n=t:=rfl;refine am ?_;unfold Ok;simp[bX,aY,eZ,nw,phi (Gs hl ht hr),phi (Ux hl ht hr hE),EV];rfl
theorem c58:Ans D 79 [F l,R t] [KH (mq t l),.i64 0]:=by
 refine am ?_;unfold k58;simp[aY,ba,phi (Nu hl ht hr),bX,EV,phi (ajt hl ht hr),gc]
theorem aju:Ans D 202 [CL (newC l t),F l] [KH (mq t l),.i64 0]:=by
 have hE:=lh (t:=t) hl;have nw:(newC l t).n=t:=rfl;refine am ?_;unfold Oq;simp[bX,aY,eZ,nw,phi (Nh hl ht),phi (Ni (l:=l) (up:=cF t l) (oR t l).symm (by have:=hl.1;omega)),phi (Ny hl ht hr hE),EV];rfl
theorem c63:Ans D 103 [F l,R t] [KH (mq t l),.i64 0]:=by
 have m1:=phi (qm l);rw[eH.2 hl] at m1;have m2:=phi (ql ht);rw[hr,show okE true=0 from rfl] at m2
 refine am ?_;unfold k63;simp[aY,ba,m1,m2,EV,phi (Nt (l:=l) (t:=t) (by have:=hl.1;omega)),phi (aju hl ht hr),gc,agv]
end
set_option linter.unusedSimpArgs false
def kh0 (k:KHeap):RF.ev (.cell 0) [KH k]=some (.i64 k.c.n.num):=rfl
def kh1 (k:KHeap):RF.ev (.cell 1) [KH k]=some (.i64 k.c.n.den):=rfl
def kh2 (k:KHeap):RF.ev (.cell 2) [KH k]=some (sl row k.c.p):=rfl
def kh3 (k:KHeap):RF.ev (.cell 3) [KH k]=some (.i64 k.c.q.next):=rfl
def kh4 (k:KHeap):RF.ev (.cell 4) [KH k]=some (sl hrow k.c.q.l):=rfl
def kh5 (k:KHeap):RF.ev (.cell 5) [KH k]=some (sl I1 k.c.a.s.u):=rfl
def kh6 (k:KHeap):RF.ev (.cell 6) [KH k]=some (sl B1 k.c.a.s.v):=rfl
def kh7 (k:KHeap):RF.ev (.cell 7) [KH k]=some (sl I1 k.c.a.s.f):=rfl
def kh8 (k:KHeap):RF.ev (.cell 8) [KH k]=some (sl bV k.c.a.heap):=rfl
def kh9 (k:KHeap):RF.ev (.cell 9) [KH k]=some (sl I1 k.c.a.w):=rfl
def Nz (k:KHeap):RF.ev (.cell 10) [KH k]=some (sl cp k.c.d):=rfl
def NA (k:KHeap):RF.ev (.cell 11) [KH k]=some (sl I1 k.heap):=rfl
def kt0 (k:KTourn):RF.ev (.cell 0) [KT k]=some (.i64 k.c.n.num):=rfl
def kt1 (k:KTourn):RF.ev (.cell 1) [KT k]=some (.i64 k.c.n.den):=rfl
def kt2 (k:KTourn):RF.ev (.cell 2) [KT k]=some (sl row k.c.p):=rfl
def kt3 (k:KTourn):RF.ev (.cell 3) [KT k]=some (.i64 k.c.q.next):=rfl
def kt4 (k:KTourn):RF.ev (.cell 4) [KT k]=some (sl hrow k.c.q.l):=rfl
def kt5 (k:KTourn):RF.ev (.cell 5) [KT k]=some (sl I1 k.c.a.s.u):=rfl
def kt6 (k:KTourn):RF.ev (.cell 6) [KT k]=some (sl B1 k.c.a.s.v):=rfl
def kt7 (k:KTourn):RF.ev (.cell 7) [KT k]=some (sl I1 k.c.a.s.f):=rfl
def kt8 (k:KTourn):RF.ev (.cell 8) [KT k]=some (sl bV k.c.a.heap):=rfl
def kt9 (k:KTourn):RF.ev (.cell 9) [KT k]=some (sl I1 k.c.a.w):=rfl
def aab (k:KTourn):RF.ev (.cell 10) [KT k]=some (sl cp k.c.d):=rfl
def aac (k:KTourn):RF.ev (.cell 11) [KT k]=some (sl I1 k.b.p):=rfl
def aad (k:KTourn):RF.ev (.cell 12) [KT k]=some (sl I1 k.b.w):=rfl
def ht0 (k:Heater):RF.ev (.cell 0) [HT k]=some (.i64 k.c.n.num):=rfl
def ht1 (k:Heater):RF.ev (.cell 1) [HT k]=some (.i64 k.c.n.den):=rfl
def ht2 (k:Heater):RF.ev (.cell 2) [HT k]=some (sl row k.c.p):=rfl
def ht3 (k:Heater):RF.ev (.cell 3) [HT k]=some (.i64 k.c.q.next):=rfl
def ht4 (k:Heater):RF.ev (.cell 4) [HT k]=some (sl hrow k.c.q.l):=rfl
def ht5 (k:Heater):RF.ev (.cell 5) [HT k]=some (sl I1 k.c.a.s.u):=rfl
def ht6 (k:Heater):RF.ev (.cell 6) [HT k]=some (sl B1 k.c.a.s.v):=rfl
def ht7 (k:Heater):RF.ev (.cell 7) [HT k]=some (sl I1 k.c.a.s.f):=rfl
def ht8 (k:Heater):RF.ev (.cell 8) [HT k]=some (sl bV k.c.a.heap):=rfl
def ht9 (k:Heater):RF.ev (.cell 9) [HT k]=some (sl I1 k.c.a.w):=rfl
def aae (k:Heater):RF.ev (.cell 10) [HT k]=some (sl cp k.c.d):=rfl
def aaf (k:Heater):RF.ev (.cell 11) [HT k]=some (.i64 k.t.root):=rfl
def aag (k:Heater):RF.ev (.cell 12) [HT k]=some (sl dB k.t.n):=rfl
def GQ (g:Int)(k:KHeap):RF.ev .agg [.v (.int .u8 g),.i64 k.c.n.num,.i64 k.c.n.den,sl row k.c.p,.i64 k.c.q.next,sl hrow k.c.q.l,sl I1 k.c.a.s.u,sl B1 k.c.a.s.v,sl I1 k.c.a.s.f,sl bV k.c.a.heap,sl I1 k.c.a.w,sl cp k.c.d,sl I1 k.heap,.v (.int .i64 0),.v (.int .i64 0),.sl [],.v (.int .i64 0),.sl [],.sl [],.sl [],.sl [],.sl [],.sl [],.sl [],.sl [],.sl [],.v (.int .i64 0),.v (.int .i64 0),.sl [],.v (.int .i64 0),.sl [],.sl [],.sl [],.sl [],.sl [],.sl [],.sl [],.v (.int .i64 0),.sl [],.v (.int .i64 0),.v (.int .i64 0),.sl [],.v (.int .i64 0),.sl [],.sl [],.sl [],.sl [],.sl [],.sl [],.sl [],.sl []]=some (CHO ⟨g,k,zKT,zHT,zKH⟩):=rfl
def GR (g:Int)(k:KTourn):RF.ev .agg [.v (.int .u8 g),.v (.int .i64 0),.v (.int .i64 0),.sl [],.v (.int .i64 0),.sl [],.sl [],.sl [],.sl [],.sl [],.sl [],.sl [],.sl [],.i64 k.c.n.num,.i64 k.c.n.den,sl row k.c.p,.i64 k.c.q.next,sl hrow k.c.q.l,sl I1 k.c.a.s.u,sl B1 k.c.a.s.v,sl I1 k.c.a.s.f,sl bV k.c.a.heap,sl I1 k.c.a.w,sl cp k.c.d,sl I1 k.b.p,sl I1 k.b.w,.v (.int .i64 0),.v (.int .i64 0),.sl [],.v (.int .i64 0),.sl [],.sl [],.sl [],.sl [],.sl [],.sl [],.sl [],.v (.int .i64 0),.sl [],.v (.int .i64 0),.v (.int .i64 0),.sl [],.v (.int .i64 0),.sl [],.sl [],.sl [],.sl [],.sl [],.sl [],.sl [],.sl []]=some (CHO ⟨g,zKH,k,zHT,zKH⟩):=rfl
def GS (g:Int)(k:Heater):RF.ev .agg [.v (.int .u8 g),.v (.int .i64 0),.v (.int .i64 0),.sl [],.v (.int .i64 0),.sl [],.sl [],.sl [],.sl [],.sl [],.sl [],.sl [],.sl [],.v (.int .i64 0),.v (.int .i64 0),.sl [],.v (.int .i64 0),.sl [],.sl [],.sl [],.sl [],.sl [],.sl [],.sl [],.sl [],.sl [],.i64 k.c.n.num,.i64 k.c.n.den,sl row k.c.p,.i64 k.c.q.next,sl hrow k.c.q.l,sl I1 k.c.a.s.u,sl B1 k.c.a.s.v,sl I1 k.c.a.s.f,sl bV k.c.a.heap,sl I1 k.c.a.w,sl cp k.c.d,.i64 k.t.root,sl dB k.t.n,.v (.int .i64 0),.v (.int .i64 0),.sl [],.v (.int .i64 0),.sl [],.sl [],.sl [],.sl [],.sl [],.sl [],.sl [],.sl []]=some (CHO ⟨g,zKH,zKT,k,zKH⟩):=rfl
def GT (g:Int)(k:KHeap):RF.ev .agg [.v (.int .u8 g),.v (.int .i64 0),.v (.int .i64 0),.sl [],.v (.int .i64 0),.sl [],.sl [],.sl [],.sl [],.sl [],.sl [],.sl [],.sl [],.v (.int .i64 0),.v (.int .i64 0),.sl [],.v (.int .i64 0),.sl [],.sl [],.sl [],.sl [],.sl [],.sl [],.sl [],.sl [],.sl [],.v (.int .i64 0),.v (.int .i64 0),.sl [],.v (.int .i64 0),.sl [],.sl [],.sl [],.sl [],.sl [],.sl [],.sl [],.v (.int .i64 0),.sl [],.i64 k.c.n.num,.i64 k.c.n.den,sl row k.c.p,.i64 k.c.q.next,sl hrow k.c.q.l,sl I1 k.c.a.s.u,sl B1 k.c.a.s.v,sl I1 k.c.a.s.f,sl bV k.c.a.heap,sl I1 k.c.a.w,sl cp k.c.d,sl I1 k.heap]=some (CHO ⟨g,zKH,zKT,zHT,k⟩):=rfl
def zCH:Choice:=⟨0,zKH,zKT,zHT,zKH⟩
def rH (g:Int):RF.ev .agg [.v (.int .u8 g),.v (.int .i64 0),.v (.int .i64 0),.sl [],.v (.int .i64 0),.sl [],.sl [],.sl [],.sl [],.sl [],.sl [],.sl [],.sl [],.v (.int .i64 0),.v (.int .i64 0),.sl [],.v (.int .i64 0),.sl [],.sl [],.sl [],.sl [],.sl [],.sl [],.sl [],.sl [],.sl [],.v (.int .i64 0),.v (.int .i64 0),.sl [],.v (.int .i64 0),.sl [],.sl [],.sl [],.sl [],.sl [],.sl [],.sl [],.v (.int .i64 0),.sl [],.v (.int .i64 0),.v (.int .i64 0),.sl [],.v (.int .i64 0),.sl [],.sl [],.sl [],.sl [],.sl [],.sl [],.sl [],.sl []]=some (CHO ⟨g,zKH,zKT,zHT,zKH⟩):=rfl
def zT:RF.ev .agg [.v (.int .i64 0),.v (.int .i64 0),.sl [],.v (.int .i64 0),.sl [],.sl [],.sl [],.sl [],.sl [],.sl [],.sl [],.sl []]=some (KH zKH):=rfl
def NB:RF.ev .agg [.v (.int .i64 0),.v (.int .i64 0),.sl [],.v (.int .i64 0),.sl [],.sl [],.sl [],.sl [],.sl [],.sl [],.sl [],.sl [],.sl []]=some (KT zKT):=rfl
def NC:RF.ev .agg [.v (.int .i64 0),.v (.int .i64 0),.sl [],.v (.int .i64 0),.sl [],.sl [],.sl [],.sl [],.sl [],.sl [],.sl [],.v (.int .i64 0),.sl []]=some (HT zHT):=rfl
def Wz:RF.ev .agg [.v (.int .i64 0),.v (.int .i64 0),.sl [],.v (.int .i64 0),.sl [],.sl [],.sl [],.sl [],.sl [],.sl [],.sl []]=some (CL zC):=rfl
def bE (l:List Pt)(t:Rt):Int:=if eQ l=0 then okE (rok t) else eQ l
def bE_ok {l:List Pt}{t:Rt}(h:bE l t=0):okF l/\ rok t=true:=by
 unfold bE at h;split at h
 .rename_i h1;exact⟨eH.1 h1,Ga.1 h⟩
 .grind
def FD {l:List Pt}{t:Rt}(ht:aS t)(h:bE l t≠0):Ans D 167 [F l,R t] [CL zC,.i64 (bE l t)]:=by
 refine am ?_;unfold UI;unfold bE at h|-;by_cases h1:eQ l=0
 .rw[ad h1] at h|-;simp[aY,ba,phi (uG l),phi (c43 ht),h1,EV,h,Wz]
 .rw[ac h1] at h|-;simp[aY,ba,phi (uG l),EV,h,Wz]
section
variable (t:Rt)(l:List Pt)
def t8:KHeap:=if bE l t=0 then lr t l else zKH
def qV:KTourn:=if bE l t=0 then iS t l else zKT
def uh:Heater:=if bE l t=0 then mo t l else zHT
def ui:KHeap:=if bE l t=0 then mq t l else zKH
end
section
variable {l:List Pt}{t:Rt}(ht:aS t)
include ht
theorem ajv:Ans D 76 [F l,R t] [KH (t8 t l),.i64 (bE l t)]:=by
 unfold t8;by_cases h:bE l t=0
 .obtain⟨h1,h2⟩:=bE_ok h;rw[ad h,h];exact c55 h1 ht h2
 .rw[ac h];refine am ?_;unfold k55;simp[aY,ba,phi (FD ht h),bX,EV,h,zT]
theorem ajw:Ans D 77 [F l,R t] [KT (qV t l),.i64 (bE l t)]:=by
 unfold qV;by_cases h:bE l t=0
 .obtain⟨h1,h2⟩:=bE_ok h;rw[ad h,h];exact c56 h1 ht h2
 .rw[ac h];refine am ?_;unfold k56;simp[aY,ba,phi (FD ht h),bX,EV,h,NB]
theorem ajx:Ans D 78 [F l,R t] [HT (uh t l),.i64 (bE l t)]:=by
 unfold uh;by_cases h:bE l t=0
 .obtain⟨h1,h2⟩:=bE_ok h;rw[ad h,h];exact c57 h1 ht h2
 .rw[ac h];refine am ?_;unfold k57;simp[aY,ba,phi (FD ht h),bX,EV,h,NC]
theorem ajy:Ans D 79 [F l,R t] [KH (ui t l),.i64 (bE l t)]:=by
 unfold ui;by_cases h:bE l t=0
 .obtain⟨h1,h2⟩:=bE_ok h;rw[ad h,h];exact c58 h1 ht h2
 .rw[ac h];refine am ?_;unfold k58;simp[aY,ba,phi (FD ht h),bX,EV,h,zT]
theorem ajz:Ans D 100 [F l,R t] [KH (t8 t l),.i64 (bE l t)]:=by
 unfold t8;by_cases h:bE l t=0
 .obtain⟨h1,h2⟩:=bE_ok h;rw[ad h,h];exact c60 h1 ht h2
 .rw[ac h];refine am ?_;unfold k60;unfold bE at h|-;by_cases h1:eQ l=0
  .rw[ad h1] at h|-;have h2:rok t=false:=by
    cases e:rok t with
    |true=>rw[e] at h;exact absurd rfl h
    |false=>rfl
   have m:=phi (ql ht);rw[h2] at m|-;have e8:okE false=8:=rfl;rw[e8] at m|-;have n8:decide ((8:Int)=0)=false:=rfl;simp[aY,ba,phi (qm l),h1,m,EV,zT]
  .rw[ac h1];simp[aY,ba,phi (qm l),EV,h1,zT]
theorem ajA:Ans D 101 [F l,R t] [KT (qV t l),.i64 (bE l t)]:=by
 unfold qV;by_cases h:bE l t=0
 .obtain⟨h1,h2⟩:=bE_ok h;rw[ad h,h];exact c61 h1 ht h2
 .rw[ac h];refine am ?_;unfold k61;unfold bE at h|-;by_cases h1:eQ l=0
  .rw[ad h1] at h|-;have h2:rok t=false:=by
    cases e:rok t with
    |true=>rw[e] at h;exact absurd rfl h
    |false=>rfl
   have m:=phi (ql ht);rw[h2] at m|-;have e8:okE false=8:=rfl;rw[e8] at m|-;have n8:decide ((8:Int)=0)=false:=rfl;simp[aY,ba,phi (qm l),h1,m,EV,NB]
  .rw[ac h1];simp only[ay,aY,ba,phi (qm l),EV,h1,be,bA,az,NB]
theorem ajB:Ans D 102 [F l,R t] [HT (uh t l),.i64 (bE l t)]:=by
 unfold uh;by_cases h:bE l t=0
 .obtain⟨h1,h2⟩:=bE_ok h;rw[ad h,h];exact c62 h1 ht h2
 .rw[ac h];refine am ?_;unfold k62;unfold bE at h|-;by_cases h1:eQ l=0
  .rw[ad h1] at h|-;have h2:rok t=false:=by
    cases e:rok t with
    |true=>rw[e] at h;exact absurd rfl h
    |false=>rfl
   have m:=phi (ql ht);rw[h2] at m|-;have e8:okE false=8:=rfl;rw[e8] at m|-;have n8:decide ((8:Int)=0)=false:=rfl;simp[aY,ba,phi (qm l),h1,m,EV,NC]
  .rw[ac h1];simp[aY,ba,phi (qm l),EV,h1,NC]
theorem ajC:Ans D 103 [F l,R t] [KH (ui t l),.i64 (bE l t)]:=by
 unfold ui;by_cases h:bE l t=0
 .obtain⟨h1,h2⟩:=bE_ok h;rw[ad h,h];exact c63 h1 ht h2
 .rw[ac h];refine am ?_;unfold k63;unfold bE at h|-;by_cases h1:eQ l=0
  .rw[ad h1] at h|-;have h2:rok t=false:=by
    cases e:rok t with
    |true=>rw[e] at h;exact absurd rfl h
    |false=>rfl
   have m:=phi (ql ht);rw[h2] at m|-;have e8:okE false=8:=rfl;rw[e8] at m|-;have n8:decide ((8:Int)=0)=false:=rfl;simp[aY,ba,phi (qm l),h1,m,EV,zT]
  .rw[ac h1];simp[aY,ba,phi (qm l),EV,h1,zT]
end
def fq (c:Choice)(e:Int):Choice:=if e=0 then c else zCH
def c59 (c:Choice)(e:Int):Ans D 80 [CHO c,.i64 e] [CHO (fq c e),.i64 e]:=by
 refine am ?_;unfold k59 fq;simp[dt,EV];by_cases h:e=0
 .subst h;rfl
 .simp[h];rfl
def c65 (c:Choice)(e:Int):Ans D 104 [CHO c,.i64 e] [CHO (fq c e),.i64 e]:=by
 refine am ?_;unfold k65 fq;simp[dt,EV];by_cases h:e=0
 .subst h;rfl
 .simp[h];rfl
def cI (tag:Int)(l:List Pt)(t:Rt):Choice:=if tag=1 then⟨1,t8 t l,zKT,zHT,zKH⟩ else if tag=2 then⟨2,zKH,qV t l,zHT,zKH⟩ else if tag=3 then⟨3,zKH,zKT,uh t l,zKH⟩ else⟨4,zKH,zKT,zHT,ui t l⟩
def cV (l:List Pt)(t:Rt):Int:=if bE l t=0 then cH t else bE l t
def gB (tag:Int)(l:List Pt)(t:Rt):List PV:=if tag=1\/tag=2\/tag=3\/tag=4 then [CHO (fq (cI tag l t) (cV l t)),.i64 (cV l t)] else [CHO zCH,.i64 2]
def GU {tag:Int}{l:List Pt}{t:Rt}:(gB tag l t).length=2:=by unfold gB;split<;>rfl
def c20 (tag:Int){l:List Pt}{t:Rt}(ht:aS t):Ans D 31 [.v (.int .u8 tag),F l,R t] (gB tag l t):=by
 have hk:=λ(c:Choice) (e:Int)=>phi (c59 c e);refine an (hl:=GU) ⟨1,?_⟩;unfold k20;simp only[ay,aY,ba,u8E,EV,aa];by_cases t1:tag=1
 .subst t1;rw[ad rfl];simp only[ay,EV,phi (ajv (l:=l) ht),gc,kh0,kh1,kh2,kh3,kh4,kh5,kh6,kh7,kh8,kh9,Nz,NA];unfold BP;simp only[EV,aa];by_cases hb:bE l t=0
  .rw[ad hb];have hE:cV l t=cH t:=ad hb;simp only[ay,EV,phi (c44 ht)];unfold se;simp only[ay,EV,GQ,hk,dt];rw[show gB 1 l t=[CHO (fq (cI 1 l t) (cV l t)),.i64 (cV l t)] from rfl,hE];rfl
  .rw[ac hb];have hE:cV l t=bE l t:=ac hb;unfold se;simp only[ay,EV,GQ,hk,dt];rw[show gB 1 l t=[CHO (fq (cI 1 l t) (cV l t)),.i64 (cV l t)] from rfl,hE];rfl
 by_cases t2:tag=2
 .subst t2;rw[ac (by decide),ad rfl];simp only[ay,EV,phi (ajw (l:=l) ht),mI,kt0,kt1,kt2,kt3,kt4,kt5,kt6,kt7,kt8,kt9,aab,aac,aad,FK];unfold BP;simp only[EV,aa];by_cases hb:bE l t=0
  .rw[ad hb];have hE:cV l t=cH t:=ad hb;simp only[ay,EV,phi (c44 ht)];unfold se;simp only[ay,EV,GR,hk,dt];rw[show gB 2 l t=[CHO (fq (cI 2 l t) (cV l t)),.i64 (cV l t)] from rfl,hE];rfl
  .rw[ac hb];have hE:cV l t=bE l t:=ac hb;unfold se;simp only[ay,EV,GR,hk,dt];rw[show gB 2 l t=[CHO (fq (cI 2 l t) (cV l t)),.i64 (cV l t)] from rfl,hE];rfl
 by_cases t3:tag=3
 .subst t3;rw[ac (by decide),ac (by decide),ad rfl];simp only[ay,EV,phi (ajx (l:=l) ht),mJ,ht0,ht1,ht2,ht3,ht4,ht5,ht6,ht7,ht8,ht9,aae,aaf,aag,N4,FK];unfold BP;simp only[EV,aa];by_cases hb:bE l t=0
  .rw[ad hb];have hE:cV l t=cH t:=ad hb;simp only[ay,EV,phi (c44 ht)];unfold se;simp only[ay,EV,GS,hk,dt];rw[show gB 3 l t=[CHO (fq (cI 3 l t) (cV l t)),.i64 (cV l t)] from rfl,hE];rfl
  .rw[ac hb];have hE:cV l t=bE l t:=ac hb;unfold se;simp only[ay,EV,GS,hk,dt];rw[show gB 3 l t=[CHO (fq (cI 3 l t) (cV l t)),.i64 (cV l t)] from rfl,hE];rfl
 by_cases t4:tag=4
 .subst t4;rw[ac (by decide),ac (by decide),ac (by decide),ad rfl];simp only[ay,EV,phi (ajy (l:=l) ht),gc,kh0,kh1,kh2,kh3,kh4,kh5,kh6,kh7,kh8,kh9,Nz,NA,N4,FK];unfold BP;simp only[EV,aa];by_cases hb:bE l t=0
  .rw[ad hb];have hE:cV l t=cH t:=ad hb;simp only[ay,EV,phi (c44 ht)];unfold se;simp only[ay,EV,GT,hk,dt];rw[show gB 4 l t=[CHO (fq (cI 4 l t) (cV l t)),.i64 (cV l t)] from rfl,hE];rfl
  .rw[ac hb];have hE:cV l t=bE l t:=ac hb;unfold se;simp only[ay,EV,GT,hk,dt];rw[show gB 4 l t=[CHO (fq (cI 4 l t) (cV l t)),.i64 (cV l t)] from rfl,hE];rfl
 rw[ac t1,ac t2,ac t3,ac t4];simp only[EV,rH];unfold gB;rw[ac (by omega)];rfl
def asked_two {t:Rt}(h:rok t=true):cH t=0\/cH t=2:=by
 unfold cH
 grind
def c21 (tag:Int){l:List Pt}{t:Rt}(ht:aS t):Ans D 38 [.v (.int .u8 tag),F l,R t] (gB tag l t):=by
 have hk:=λ(c:Choice) (e:Int)=>phi (c65 c e);have n2:decide ((2:Int)=0)=false:=rfl;refine an (hl:=GU) ⟨1,?_⟩;unfold k21;simp only[ay,aY,ba,u8E,EV,aa];by_cases t1:tag=1
 .subst t1;rw[ad rfl];simp only[ay,EV,phi (ajz (l:=l) ht),gc,kh0,kh1,kh2,kh3,kh4,kh5,kh6,kh7,kh8,kh9,Nz,NA];unfold z6;simp only[EV,aa];by_cases hb:bE l t=0
  .rw[ad hb];have hE:cV l t=cH t:=ad hb;simp only[ay,EV,phi (c64 ht)];unfold qM;simp only[EV];rcases asked_two (bE_ok hb).2 with h|h
   .simp only[h,aA,aF,au,aw];unfold mu;simp only[ay,EV,GQ,hk,dt,hb];rw[h] at hE;rw[show gB 1 l t=[CHO (fq (cI 1 l t) (cV l t)),.i64 (cV l t)] from rfl,hE];rfl
   .simp only[h,n2,bA,az];unfold mu;simp only[ay,EV,GQ,hk,dt];rw[h] at hE;rw[show gB 1 l t=[CHO (fq (cI 1 l t) (cV l t)),.i64 (cV l t)] from rfl,hE];rfl
  .rw[ac hb];have hE:cV l t=bE l t:=ac hb;unfold qM;simp only[EV,au,aw];unfold mu;simp only[ay,EV,GQ,hk,dt];rw[show gB 1 l t=[CHO (fq (cI 1 l t) (cV l t)),.i64 (cV l t)] from rfl,hE];rfl
 by_cases t2:tag=2
 .subst t2;rw[ac (by decide),ad rfl];simp only[ay,EV,phi (ajA (l:=l) ht),mI,kt0,kt1,kt2,kt3,kt4,kt5,kt6,kt7,kt8,kt9,aab,aac,aad,BS];unfold z6;simp only[EV,aa];by_cases hb:bE l t=0
  .rw[ad hb];have hE:cV l t=cH t:=ad hb;simp only[ay,EV,phi (c64 ht)];unfold qM;simp only[EV];rcases asked_two (bE_ok hb).2 with h|h
   .simp only[h,aA,aF,au,aw];unfold mu;simp only[ay,EV,GR,hk,dt,hb];rw[h] at hE;rw[show gB 2 l t=[CHO (fq (cI 2 l t) (cV l t)),.i64 (cV l t)] from rfl,hE];rfl
   .simp only[h,n2,bA,az];unfold mu;simp only[ay,EV,GR,hk,dt];rw[h] at hE;rw[show gB 2 l t=[CHO (fq (cI 2 l t) (cV l t)),.i64 (cV l t)] from rfl,hE];rfl
  .rw[ac hb];have hE:cV l t=bE l t:=ac hb;unfold qM;simp only[EV,au,aw];unfold mu;simp only[ay,EV,GR,hk,dt];rw[show gB 2 l t=[CHO (fq (cI 2 l t) (cV l t)),.i64 (cV l t)] from rfl,hE];rfl
 by_cases t3:tag=3
 .subst t3;rw[ac (by decide),ac (by decide),ad rfl];simp only[ay,EV,phi (ajB (l:=l) ht),mJ,ht0,ht1,ht2,ht3,ht4,ht5,ht6,ht7,ht8,ht9,aae,aaf,aag,FL,BS];unfold z6;simp only[EV,aa];by_cases hb:bE l t=0
  .rw[ad hb];have hE:cV l t=cH t:=ad hb;simp only[ay,EV,phi (c64 ht)];unfold qM;simp only[EV];rcases asked_two (bE_ok hb).2 with h|h
   .simp only[h,aA,aF,au,aw];unfold mu;simp only[ay,EV,GS,hk,dt,hb];rw[h] at hE;rw[show gB 3 l t=[CHO (fq (cI 3 l t) (cV l t)),.i64 (cV l t)] from rfl,hE];rfl
   .simp only[h,n2,bA,az];unfold mu;simp only[ay,EV,GS,hk,dt];rw[h] at hE;rw[show gB 3 l t=[CHO (fq (cI 3 l t) (cV l t)),.i64 (cV l t)] from rfl,hE];rfl
  .rw[ac hb];have hE:cV l t=bE l t:=ac hb;unfold qM;simp only[EV,au,aw];unfold mu;simp only[ay,EV,GS,hk,dt];rw[show gB 3 l t=[CHO (fq (cI 3 l t) (cV l t)),.i64 (cV l t)] from rfl,hE];rfl
 by_cases t4:tag=4
 .subst t4;rw[ac (by decide),ac (by decide),ac (by decide),ad rfl];simp only[ay,EV,phi (ajC (l:=l) ht),gc,kh0,kh1,kh2,kh3,kh4,kh5,kh6,kh7,kh8,kh9,Nz,NA,N5,FL,BS];unfold z6;simp only[EV,aa];by_cases hb:bE l t=0
  .rw[ad hb];have hE:cV l t=cH t:=ad hb;simp only[ay,EV,phi (c64 ht)];unfold qM;simp only[EV];rcases asked_two (bE_ok hb).2 with h|h
   .simp only[h,aA,aF,au,aw];unfold mu;simp only[ay,EV,GT,hk,dt,hb];rw[h] at hE;rw[show gB 4 l t=[CHO (fq (cI 4 l t) (cV l t)),.i64 (cV l t)] from rfl,hE];rfl
   .simp only[h,n2,bA,az];unfold mu;simp only[ay,EV,GT,hk,dt];rw[h] at hE;rw[show gB 4 l t=[CHO (fq (cI 4 l t) (cV l t)),.i64 (cV l t)] from rfl,hE];rfl
  .rw[ac hb];have hE:cV l t=bE l t:=ac hb;unfold qM;simp only[EV,au,aw];unfold mu;simp only[ay,EV,GT,hk,dt];rw[show gB 4 l t=[CHO (fq (cI 4 l t) (cV l t)),.i64 (cV l t)] from rfl,hE];rfl
 rw[ac t1,ac t2,ac t3,ac t4];simp only[EV,N5,FL,BS];unfold z6;simp only[EV,n2,au,aw];unfold qM;simp only[EV,au,aw];unfold mu;simp only[ay,EV,rH,hk,dt];unfold gB;rw[ac (by omega)];rfl
def aah:okE true=0:=rfl
structure ChW (c:Choice):Prop where
 h1:gW c.heap.c/\ c.heap.heap.length<=1000
 h2:gW c.o.c/\ c.o.b.p.length<=1000/\ c.o.b.w.length<=1000
 h3:gW c.x.c/\ c.x.t.n.length<=1000
 h4:gW c.g.c/\ c.g.heap.length<=1000
def yp:gW zC:=⟨by decide,by decide,by decide,rfl⟩
def agw:ChW zCH:=⟨⟨yp,by decide⟩,⟨yp,by decide,by decide⟩,⟨yp,by decide⟩,⟨yp,by decide⟩⟩
end Go.Proofs.YtoeigdpfcnaaeaaGreat
