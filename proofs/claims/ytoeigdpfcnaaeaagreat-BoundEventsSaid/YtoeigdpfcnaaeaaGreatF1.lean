import Derived.Test.YtoeigdpfcnaaeaaGreatE1
import Derived.Test.YtoeigdpfcnaaeaaGreatR1
import Derived.Test.YtoeigdpfcnaaeaaGreatN1
set_option linter.unusedVariables false
set_option linter.unusedSimpArgs false
set_option linter.defProp false
noncomputable section
namespace Go.Proofs.YtoeigdpfcnaaeaaGreat
open Go.Sym Bnd
set_option maxRecDepth 100000
section
variable {ld:Int->Int->Bool}
def PS (ld:Int->Int->Bool)(h:List Int)(j:Nat):Prop:=∀a b,h[j]?=some a->h[(j-1)/2]?=some b->ld b a=true
def HO (ld:Int->Int->Bool)(h:List Int):Prop:=∀j,0<j->PS ld h j
def HOx (ld:Int->Int->Bool)(h:List Int)(i:Nat):Prop:=(∀j,0<j->j≠i->PS ld h j)/\∀j,0<j->(j-1)/2=i->0<i->∀a b,h[j]?=some a->h[(i-1)/2]?=some b->ld b a=true
def XY (tr:∀a b c,ld a b=true->ld b c=true->ld a c=true){h:List Int}{i:Nat}{a b:Int}(hi:0<i)(ha:h[i]?=some a)(hb:h[(i-1)/2]?=some b)(hab:ld a b=true)(H:HOx ld h i):HOx ld ((h.set i b).set ((i-1)/2) a) ((i-1)/2):=by
 obtain⟨H1,H2⟩:=H;have li:=aO ha;have g:∀k,((h.set i b).set ((i-1)/2) a)[k]?=if k=(i-1)/2 then some a else if k=i then some b else h[k]?:=λk=>by
  rw[nT,aP,nT]
  grind
 refine⟨λj hj hne x y hx hy=>?_,λj hj hq hp x y hx hy=>?_⟩
 .rw[g] at hx hy;rw[ac hne] at hx;by_cases e1:j=i
  .subst e1;rw[ad rfl] at hx hy;cases hx;cases hy;exact hab
  .rw[ac e1] at hx;by_cases e2:(j-1)/2=(i-1)/2
   .rw[ad e2] at hy;cases hy;exact tr _ _ _ hab (H1 j hj e1 x b hx (by rw[e2];exact hb))
   .rw[ac e2] at hy;by_cases e3:(j-1)/2=i
    .rw[ad e3] at hy;cases hy;exact H2 j hj e3 hi x b hx hb
    .rw[ac e3] at hy;exact H1 j hj e1 x y hx hy
 .rw[g] at hx hy;rw[ac (by omega),ac (by omega)] at hy;have hby:=H1 ((i-1)/2) hp (by omega) b y hb hy;rw[ac (by omega)] at hx;by_cases e1:j=i
  .rw[ad e1] at hx;cases hx;exact hby
  .rw[ac e1] at hx;exact tr _ _ _ hby (H1 j hj e1 x b hx (by rw[hq];exact hb))
end
def ldI (t:Rt)(l:List Pt)(a b:Int):Bool:=leads t (bh l a) (bh l b)
def LV {t:Rt}{l:List Pt}:∀(n:Nat) (h:List Int) (i:Nat),i<n->i<h.length->(∀a∈h,∀b∈h,a≠b->ldI t l a b=true\/ldI t l b a=true)->h.Nodup->HOx (ldI t l) h i->HO (ldI t l) (i6 t l n h i)
 |0,h,i,hn,_,_,_,_=>by omega
 |n+1,h,i,hn,hi,tot,nd,H=>by
  obtain⟨a,ha⟩:∃a,h[i]?=some a:=⟨h[i],ai _⟩;obtain⟨b,hb⟩:∃b,h[(i-1)/2]?=some b:=⟨h[(i-1)/2]'(by omega),ai _⟩;unfold i6;rw[ha,hb];simp only;by_cases c:0<i/\ leads t (bh l a) (bh l b)=true
  .rw[ad c];have sw:((h.set i b).set ((i-1)/2) a).Perm h:=by
    obtain⟨h1,h2⟩:=aC.1 ha;obtain⟨h3,h4⟩:=aC.1 hb;rw[<-h2,<-h4];exact kz h1 h3
   refine LV n _ _ (by omega) (by simp;omega) (λx hx y hy=>tot x (sw.mem_iff.1 hx) y (sw.mem_iff.1 hy)) (sw.nodup_iff.2 nd) ?_;exact XY (ld:=ldI t l) (λx y z h k=>lT h k) c.1 ha hb c.2 H
  .rw[ac c];intro j hj;by_cases e:j=i
   .subst e;intro x y hx hy;rw[ha] at hx;rw[hb] at hy;cases hx;cases hy;have hne:a≠b:=λe=>by
     subst e;have:=dL.1 nd j ((j-1)/2) a ha hb;omega
    rcases tot a (ax ha) b (ax hb) hne with q|q
    .exact absurd ⟨hj,q⟩ c
    .exact q
   .exact H.1 j hj e
def xb {l:List Pt}{t:Rt}(h:okF l):∀k,k<=l.length->HO (ldI t l) (eg t l k)
 |0,_=>λj _ a b ha _=>by simp[eg] at ha
 |k+1,hk=>by
  have ih:=xb h (t:=t) k (by omega);obtain⟨p,hp⟩:∃p,l[k]?=some p:=⟨l[k],ai _⟩;have hl:=jQ (t:=t) (l:=l) (k:=k) (by omega);have pm:(eg t l k++[p.id]).Perm ((l.take (k+1)).map Pt.id):=by
   have:=nE (t:=t) (l:=l) k (by omega);rw[cA,hp,dU];exact this.append_right _
  have hi:=c9 h.2.2;have sub:∀a∈eg t l k++[p.id],∃q∈l,q.id=a/\ bh l a=q:=λa ha=>by
   obtain⟨q,hq,rfl⟩:=bk.1 (pm.mem_iff.1 ha);have hq:=jb hq;obtain⟨i,hi⟩:=aK.1 hq;exact⟨q,hq,rfl,io h hi⟩
  rw[t7 hp];refine LV (k+1) _ k (by omega) (by simp;omega) (λa ha b hb hne=>?_) (pm.nodup_iff.2 ?_) ⟨λj hj hne a b ha hb=>?_,λj hj hq hp a b ha hb=>?_⟩
  .obtain⟨x,hx,e1,e2⟩:=sub a ha;obtain⟨y,hy,e3,e4⟩:=sub b hb;unfold ldI;rw[e2,e4];exact leads_total (by rw[e1,e3];exact hne)
  .exact wx ((List.take_sublist _ _).map Pt.id) hi
  .have lj:=aO ha;rw[aD,hl,aN] at lj;rw[aH (by omega)] at ha hb;exact ih j hj a b ha hb
  .have lj:=aO ha;rw[aD,hl,aN] at lj;omega
def uO {ld:Int->Int->Bool}{hp:List Int}(h:HO ld hp){e:Crt}(he:e∈cW hp):ld e.h e.j=true:=by
 obtain⟨i,hi,rfl⟩:=bk.1 he;rw[dc] at hi;exact h (i+1) (by omega) _ _ (eX (by omega)) (by rw[dD];exact eX (by omega))
def iM {l:List Pt}{t:Rt}{es:List Crt}(hE:EdgOk l es)(hl:okF l)(ht:aS t)(hr:rok t=true)(hd:∀e∈es,leads t (bh l e.h) (bh l e.j)=true):bJ (certAll (newC l t) es)/\(certAll (newC l t) es).p=l/\(certAll (newC l t) es).n=t/\ JustR (certAll (newC l t) es) es:=by
 have A:=vw hE hl ht hr es.length (aB _);rw[dX] at A;refine⟨A.fresh.ok,A.p,A.n,?_,λe he=>⟨?_,?_⟩⟩
 .have:=aW List.length A.q;rwa [ah,dX] at this
 .have:=A.q;rw[dX] at this;rw[<-this] at he;obtain⟨h,h1,h2⟩:=bk.1 he;exact⟨h,h1,h2⟩
 .rw[A.p,A.n];exact hd e he
def GV {l:List Pt}{t:Rt}(hl:okF l)(ht:aS t)(hr:rok t=true):iR (lr t l):=by
 have pm:=oT (t:=t) (l:=l);obtain⟨h1,h2,h3,h4⟩:=iM (qt hl pm) hl ht hr λe he=>uO (xb hl _ (aB _)) he;refine⟨h1,?_,λx hx=>?_,GN hl (aB _),h4⟩
 .show(eg t l l.length).length=_
  rw[jQ (aB _)];exact(aW List.length h2).symm
 .show inF (certAll _ _).p x=true
  rw[h2];exact GM (aB _) x hx
def GW {l:List Pt}{t:Rt}(hl:okF l)(ht:aS t)(hr:rok t=true):jN (mq t l):=by
 obtain⟨h1,h2,h3,h4⟩:=iM (lh (t:=t) hl) hl ht hr λe he=>(fX hl he).2.2;refine⟨h1,?_,?_⟩
 .show cF (certAll _ _).n (certAll _ _).p=cF t l
  rw[h2,h3]
 .show JustR _ (cG (certAll _ _).p (cF (certAll _ _).n (certAll _ _).p))
  rw[h2,h3];exact h4
def GX {l:List Pt}{t:Rt}(hl:okF l)(ht:aS t)(hr:rok t=true):jO (mo t l):=by
 obtain⟨h1,h2,h3,h4⟩:=iM (ln (t:=t) hl) hl ht hr λe he=>(ig hl he).2.2;refine⟨h1,?_,?_⟩
 .show cart (certAll _ _).n (certAll _ _).p=cart t l
  rw[h2,h3]
 .show JustR _ (edgsT (cart (certAll _ _).n (certAll _ _).p).n (certAll _ _).p.length)
  rw[h2,h3];exact h4
def PT:∀m:Nat,m<65->szd (twice 7 1 m)=true:=by decide
def ND {l:List Pt}(h:okF l):((b5 l).filter λx=>decide (0<=x)).length=l.length:=by
 unfold b5;rw[ru,aD];have h1:(l.map Pt.id).filter (λx=>decide (0<=x))=l.map Pt.id:=fd.2 λx hx=>by
  obtain⟨p,hp,rfl⟩:=bk.1 hx;have:=aV.1 h.2.1 p hp;unfold Pt.ok at this;simp only[aJ,aa] at this;exact aq this.1.1.1
 have h2:(List.replicate (twice 7 1 l.length-l.length) (-1:Int)).filter (λx=>decide (0<=x))=[]:=n7.2 λx hx=>by
  rw[(fD.1 hx).2];decide
 rw[h1,h2];simp
def EH {l:List Pt}{t:Rt}(hl:okF l)(ht:aS t)(hr:rok t=true):fk (iS t l):=by
 obtain⟨f0,f1,f2⟩:=lu hl;obtain⟨b1,b2,b3⟩:=gA (t:=t) hl f1 f2 dY (fE hl);have hE:=jR (t:=t) hl f1 f2 dY (fE hl);obtain⟨h1,h2,h3,h4⟩:=iM hE hl ht hr λe he=>(jP (b:=bracketOf t l (b5 l)) hl b2 dY b3 he).2.2;refine⟨h1,b2,?_,λx hx=>?_,?_,?_,h4⟩
 .show szd (b5 l).length=true
  rw[f0];exact PT _ (by have:=hl.1;omega)
 .show dV (certAll _ _).p x
  rw[h2];exact dY x hx
 .show((b5 l).filter _).length=(certAll _ _).p.length
  rw[h2];exact ND hl
 .show mD (wonI (certAll _ _).n (certAll _ _).p) _ _
  rw[h2,h3];exact b3
def DJ {tag:Int}{l:List Pt}{t:Rt}(hg:tag=1\/tag=2\/tag=3\/tag=4)(ht:aS t)(hb:bE l t=0)(ha:cH t=0):qK (cI tag l t)/\(jz (cI tag l t)).p=l/\(jz (cI tag l t)).n=t:=by
 obtain⟨hl,hr⟩:=bE_ok hb;obtain⟨f0,f1,f2⟩:=lu hl;obtain⟨b1,b2,b3⟩:=gA (t:=t) hl f1 f2 dY (fE hl);have e1:=iM (qt hl (oT (t:=t))) hl ht hr λe he=>uO (xb hl _ (aB _)) he;have e2:=iM (jR (t:=t) hl f1 f2 dY (fE hl)) hl ht hr λe he=>(jP (b:=bracketOf t l (b5 l)) hl b2 dY b3 he).2.2;have e3:=iM (ln (t:=t) hl) hl ht hr λe he=>(ig hl he).2.2;have e4:=iM (lh (t:=t) hl) hl ht hr λe he=>(fX hl he).2.2;rcases hg with rfl|rfl|rfl|rfl
 .have hm:cI 1 l t=⟨1,lr t l,zKT,zHT,zKH⟩:=by unfold cI t8;rw[ad rfl,ad hb]
  rw[hm];refine⟨⟨⟨λh=>absurd rfl h,λ_=>rfl,λ_=>rfl,λ_=>rfl⟩,GV hl ht hr,?_⟩,e1.2.1,e1.2.2.1⟩;show cH (certAll _ _).n=0
  rw[e1.2.2.1];exact ha
 .have hm:cI 2 l t=⟨2,zKH,iS t l,zHT,zKH⟩:=by unfold cI qV;rw[ac (by decide),ad rfl,ad hb]
  rw[hm];refine⟨⟨⟨λ_=>rfl,λh=>absurd rfl h,λ_=>rfl,λ_=>rfl⟩,EH hl ht hr,?_⟩,e2.2.1,e2.2.2.1⟩;show cH (certAll _ _).n=0
  rw[e2.2.2.1];exact ha
 .have hm:cI 3 l t=⟨3,zKH,zKT,mo t l,zKH⟩:=by unfold cI uh;rw[ac (by decide),ac (by decide),ad rfl,ad hb]
  rw[hm];refine⟨⟨⟨λ_=>rfl,λ_=>rfl,λh=>absurd rfl h,λ_=>rfl⟩,GX hl ht hr,?_⟩,e3.2.1,e3.2.2.1⟩;show cH (certAll _ _).n=0
  rw[e3.2.2.1];exact ha
 .have hm:cI 4 l t=⟨4,zKH,zKT,zHT,mq t l⟩:=by unfold cI ui;rw[ac (by decide),ac (by decide),ac (by decide),ad hb]
  rw[hm];refine⟨⟨⟨λ_=>rfl,λ_=>rfl,λ_=>rfl,λh=>absurd rfl h⟩,GW hl ht hr,?_⟩,e4.2.1,e4.2.2.1⟩;show cH (certAll _ _).n=0
  rw[e4.2.2.1];exact ha
def ob:fb zC:=⟨⟨⟨by decide,by decide⟩,⟨by decide,by decide⟩⟩,λe he=>by cases he⟩
def FE {l:List Pt}{t:Rt}{es:List Crt}(hE:EdgOk l es)(hl:okF l)(ht:aS t)(hr:rok t=true)(h10:l.length<=10)(hes:es.length<=40):gCl 16 (certAll (newC l t) es)=false/\ fb (certAll (newC l t) es):=by
 have A:=vw hE hl ht hr es.length (aB _);rw[dX] at A;have hc:=aW List.length A.q;rw[ah,dX] at hc;have h1:=A.fresh.heap;have h2:=A.fresh.ok.2.2.2.2.2.1;have h3:=vu A.fresh.ok.2.2.2.1;refine⟨?_,zR A.fresh⟩;unfold gCl gF;rw[A.p,h3];simp only[oh,eP,wq,aj];omega
def BF {tag:Int}{l:List Pt}{t:Rt}(hg:tag=1\/tag=2\/tag=3\/tag=4)(ht:aS t)(hb:bE l t=0)(h10:l.length<=10):gCh 16 (cI tag l t)=false/\ Cho64 (cI tag l t):=by
 obtain⟨hl,hr⟩:=bE_ok hb;obtain⟨f0,f1,f2⟩:=lu hl;obtain⟨b1,b2,b3⟩:=gA (t:=t) hl f1 f2 dY (fE hl);have gk0:gKh 16 zKH=false:=by decide
 have gt0:gKt 16 zKT=false:=by decide
 have gh0:gHt 16 zHT=false:=by decide
 have tw:∀m:Nat,m<11->twice 7 1 m<=16:=by decide
 have htw:=tw l.length (by omega);rcases hg with rfl|rfl|rfl|rfl
 .have hm:cI 1 l t=⟨1,lr t l,zKT,zHT,zKH⟩:=by unfold cI t8;rw[ad rfl,ad hb]
  have e1:=FE (qt hl (oT (t:=t))) hl ht hr h10 (by unfold cW;rw[kg,jQ (aB _)];omega);have g1:gKh 16 (lr t l)=false:=by
   unfold gKh;rw[show gCl 16 (lr t l).c=false from e1.1]
   have:(lr t l).heap.length=l.length:=jQ (aB _);simp;omega
  rw[hm];exact⟨by unfold gCh;simp only[g1,gk0,gt0,gh0,oh],⟨⟨show(0:Int)<=1 by decide,show(1:Int)<=255 by decide⟩,e1.2,ob,ob,ob⟩⟩
 .have hm:cI 2 l t=⟨2,zKH,iS t l,zHT,zKH⟩:=by unfold cI qV;rw[ac (by decide),ad rfl,ad hb]
  have hE:=jR (t:=t) hl f1 f2 dY (fE hl);have e1:=FE hE hl ht hr h10 (by
   have:=mM (bracketOf t l (b5 l)).w (b5 l) (bracketOf t l (b5 l)).w.length;omega)
  have g1:gKt 16 (iS t l)=false:=by
   unfold gKt;rw[show gCl 16 (iS t l).c=false from e1.1]
   have h1:(iS t l).b.p.length=(b5 l).length:=rfl;have h2:(iS t l).b.w.length=(b5 l).length-1:=b1;simp;omega
  rw[hm];exact⟨by unfold gCh;simp only[g1,gk0,gt0,gh0,oh,og],⟨⟨show(0:Int)<=2 by decide,show(2:Int)<=255 by decide⟩,ob,e1.2,ob,ob⟩⟩
 .have hm:cI 3 l t=⟨3,zKH,zKT,mo t l,zKH⟩:=by unfold cI uh;rw[ac (by decide),ac (by decide),ad rfl,ad hb]
  have e1:=FE (ln (t:=t) hl) hl ht hr h10 (by have:=mK (cart t l).n l.length;omega);have g1:gHt 16 (mo t l)=false:=by
   unfold gHt;rw[show gCl 16 (mo t l).c=false from e1.1]
   have:(mo t l).t.n.length=l.length:=jl hl;simp;omega
  rw[hm];exact⟨by unfold gCh;simp only[g1,gk0,gt0,gh0,oh,og],⟨⟨show(0:Int)<=3 by decide,show(3:Int)<=255 by decide⟩,ob,ob,e1.2,ob⟩⟩
 .have hm:cI 4 l t=⟨4,zKH,zKT,zHT,mq t l⟩:=by unfold cI ui;rw[ac (by decide),ac (by decide),ac (by decide),ad hb]
  have e1:=FE (lh (t:=t) hl) hl ht hr h10 (by
   have:(cG l (cF t l)).length<=l.length:=by
    unfold cG
    grind
   omega)
  have g1:gKh 16 (mq t l)=false:=by
   unfold gKh;rw[show gCl 16 (mq t l).c=false from e1.1]
   have:(mq t l).heap.length=l.length:=oR t l;simp;omega
  rw[hm];exact⟨by unfold gCh;simp only[g1,gk0,gt0,gh0,oh,og],⟨⟨show(0:Int)<=4 by decide,show(4:Int)<=255 by decide⟩,ob,ob,ob,e1.2⟩⟩
def WA {l:List Bool}{i:Nat}(h:i<l.length):RF.ev (.set 0) [sl B1 l,.v (.int .i64 (i:Int)),.v (.bool false)]=some (sl B1 (l.set i false)):=by
 rw[xH,ad (by omega),aG,a8,ai h];exact aW (λx=>some (PV.sl x)) (nq (f:=B1) (l:=l) (i:=i) (a:=false)).symm
def ajD {l:List Int}{x:Int}(hl:l.length<=999):Ans D 450 [sl I1 l,.i64 x] [sl I1 (l++[x])]:=by
 have ap:=eF (f:=I1) (l:=l) (k:=[x]) (bytes:=8) (z:=1) (by simp;omega) ct;have bs:RF.ev (.bs 1 [.v (.int .i64 0)] [0]) [.i64 x]=some (sl I1 [x]):=rfl;have su:RF.ev .sub [sl I1 [x],.v (.int .i64 0),.v (.int .i64 1)]=some (sl I1 [x]):=rfl;have s2:=bI (f:=I1) (l:=l++[x]);refine am ?_;unfold ae5;simp only[EV,phi (ZP (l:=l) (by omega)),ah,bs,su,ap,s2]
open Classical in
def aai {s:Slots}(h:SFine s){i:Nat}{u:Int}(hu:s.v[i]?=some true)(hv:s.u[i]?=some u):Ans D 436 [SL s,HD ⟨i,u⟩] [.bool true,.i64 0]:=by
 have hi:=aO hu;have hc:=phi (Nb (wT h));rw[aq (dN.2 h)] at hc;have e0:okE true=0:=rfl;rw[e0] at hc;refine am ?_;unfold aeZ;simp only[jy,qn,hc,oo,pw,EV,ah,aA,aF,au,aw,aa];rw[ad (by omega)];rw[ad (by omega)];simp[kZ,pw,ZD,EV,aT hu (wF _),aM hu,wE,aT hv (ct _),aM hv,cZ];rfl
open Classical in
def ajE {s:Slots}(h:SFine s){i:Nat}{u:Int}(hu:s.v[i]?=some true)(hv:s.u[i]?=some u):Ans D 441 [SL s,HD ⟨i,u⟩] [SL (i8 s i),.i64 0]:=by
 have hi:=aO hu;have n2:=h.n2;have hb:=ik h.nd h.rng;have s1:=bI (f:=I1) (l:=s.u);have s2:=bI (f:=B1) (l:=s.v.set i false);rw[aP] at s2;refine am ?_;unfold ae2;simp only[jy,qn,phi (aai h hu hv),phi (ZS (By h)),phi (ajD (l:=s.f) (x:=(i:Int)) (by omega)),kZ,oo,lV,pw,EV,ah,ixM hi,WA hi,s1,s2];rfl
def ajF {s:Slots}(h:SFine s){i:Nat}{u:Int}(hu:s.v[i]?=some true):Ans D 425 [SL s,HD ⟨i,u⟩] [SL (i8 s i)]:=by
 have hi:=aO hu;have n2:=h.n2;have hb:=ik h.nd h.rng;have s1:=bI (f:=I1) (l:=s.u);have s2:=bI (f:=B1) (l:=s.v.set i false);rw[aP] at s2;have ap:=eF (f:=I1) (l:=s.f) (k:=[(i:Int)]) (bytes:=8) (z:=1) (by simp;omega) ct;have bs:RF.ev (.bs 1 [.v (.int .i64 0)] [0]) [.i64 (i:Int)]=some (sl I1 [(i:Int)]):=rfl;have su:RF.ev .sub [sl I1 [(i:Int)],.v (.int .i64 0),.v (.int .i64 1)]=some (sl I1 [(i:Int)]):=rfl;have s3:=bI (f:=I1) (l:=s.f++[(i:Int)]);refine am ?_;unfold aeU;simp only[jy,qn,phi (Un (By h)),kZ,oo,lV,pw,EV,ah,ixM hi,WA hi,bs,su,ap,s1,s2,s3];rfl
def km {hp:List Evt}{z p:Evt}{i:Nat}(h:hp[i]?=some p):(hp++[z])[i]?=some p:=by rw[aH (bo h)];exact h
def uj {hp:List Evt}{z:Evt}{i:Nat}(h:i<hp.length)(p:Evt):RF.ev (.set 0) [sl bV (hp++[z]),.v (.int .i64 (i:Int)),EP p]=some (sl bV (hp.set i p++[z])):=by
 rw[zQ (by simp;omega),x0 _ _ h]
def LW {N:Nat}{f0 f1:JT}{f z:Evt}{e0 e1 e2 e3 e4 e5 e6 e7 e8 e9 e10 e11 e12 e13 e14 e15 e16 e18 e19 e22 e23 e24 e25:PV}{n W:Nat}(hn:n<=1000)(hf:GoodE W f):∀(r i m:Nat) (hp:List Evt) (wh:List Int),i<=r->r<m->i<n->hp.length=n->wh.length=W->(∀x∈hp,GoodE W x)->
  dl (bx D) N vN [f0,f1] [e0,e1,e2,e3,e4,e5,e6,e7,e8,e9,e10,e11,e12,e13,e14,e15,e16,.i64 (W:Int),e18,e19,EP f,.i64 (n:Int),e22,e23,e24,e25] m [.i64 (i:Int),sl bV (hp++[z]),sl I1 wh]=f1 [sl bV ((fe f r hp wh i).1++[z]),sl I1 (fe f r hp wh i).2.1,.i64 ((fe f r hp wh i).2.2:Int)]
 |0,i,m,hp,wh,hi,hm,hiH,hl,hw,hg=>by
  obtain⟨m,rfl⟩:∃m',m=m'+1:=⟨m-1,by omega⟩;have:i=0:=by omega
  subst this;rw[bu];unfold vN fe;simp only[EV,aa];rw[ac (by omega)]
 |r+1,i,m,hp,wh,hi,hm,hiH,hl,hw,hg=>by
  obtain⟨m,rfl⟩:∃m',m=m'+1:=⟨m-1,by omega⟩;obtain⟨p,hp'⟩:∃p,hp[(i-1)/2]?=some p:=⟨hp[(i-1)/2]'(by omega),ai _⟩;have E:fe f (r+1) hp wh i=if 0<i/\ evLess f p=true then fe f r (hp.set i p) (wh.set p.h.i.toNat (i:Int)) ((i-1)/2) else(hp,wh,i):=by rw[fe,hp']
  rw[E,bu];by_cases h0:0<i
  rotate_left
  .rw[ac (λh=>h0 h.1)];unfold vN;simp only[EV,aa];rw[ac (by omega)]
  .obtain⟨p64,prk,jp,pj,pW⟩:=hg p (ax hp');have ih:=LW (N:=N) (f0:=f0) (f1:=f1) (f:=f) (z:=z) (e0:=e0) (e1:=e1) (e2:=e2) (e3:=e3) (e4:=e4) (e5:=e5) (e6:=e6) (e7:=e7) (e8:=e8) (e9:=e9) (e10:=e10) (e11:=e11) (e12:=e12) (e13:=e13) (e14:=e14) (e15:=e15) (e16:=e16) (e18:=e18) (e19:=e19) (e22:=e22) (e23:=e23) (e24:=e24) (e25:=e25) (n:=n) (W:=W) hn hf r ((i-1)/2) m (hp.set i p) (wh.set p.h.i.toNat (i:Int)) (by omega) (by omega) (by omega) (by rw[aP];exact hl) (by rw[aP];exact hw) (λx hx=>by
    rcases dQ hx with h1|h1
    .exact hg x h1
    .rw[h1];exact⟨p64,prk,jp,pj,pW⟩)
   have cm:=phi (AN (x:=f) (y:=p) hf.t64 p64 hf.rok prk);have q2:=DC h0 (by omega);have s1:=uj (hp:=hp) (z:=z) (i:=i) (by omega) p;have s3:=fy (l:=wh) (i:=jp) (by omega) (i:Int);have g1:=km (z:=z) hp';generalize hkk:vN=kk at ih;subst hkk;unfold vN;simp[EV];rw[ad (by omega)];simp only[EV,q2,ixM (show(i-1)/2<n by omega),aM g1,gS,cm,aa,qp]
   by_cases hc:evLess f p=true
   .rw[ad hc,ad ⟨h0,hc⟩];simp[EV,oe,q2,ixM hiH,ixM (show(i-1)/2<n by omega),aM g1,gS,ay,fx,s1,GL,pj,ixM pW,s3]
    rw[pj,aG] at ih;exact ih
   .rw[ac hc,ac (λq=>hc q.2)]
def EI {N:Nat}{f0 f1:JT}{f z:Evt}{e0 e1 e2 e3 e4 e5 e6 e7 e8 e9 e10 e11 e12 e13 e14 e15 e16 e18 e19 e22 e23 e24 e25 e26 e27 e28 e29 e30:PV}{n W:Nat}(hn:n<=1000)(hf:GoodE W f):∀(r i m:Nat) (hp:List Evt) (wh:List Int),n<=r+i->r<m->i<n->hp.length=n->wh.length=W->(∀x∈hp,GoodE W x)->
  dl (bx D) N Cu [f0,f1] [e0,e1,e2,e3,e4,e5,e6,e7,e8,e9,e10,e11,e12,e13,e14,e15,e16,.i64 (W:Int),e18,e19,EP f,.i64 (n:Int),e22,e23,e24,e25,e26,e27,e28,e29,e30] m [.i64 (i:Int),sl bV (hp++[z]),sl I1 wh,.i64 ((2*i+1:Nat):Int)]=f1 [sl bV ((gL f r hp wh i).1++[z]),sl I1 (gL f r hp wh i).2.1,.i64 ((gL f r hp wh i).2.2:Int)]
 |0,i,m,hp,wh,hi,hm,hiH,hl,hw,hg=>by omega
 |r+1,i,m,hp,wh,hi,hm,hiH,hl,hw,hg=>by
  obtain⟨m,rfl⟩:∃m',m=m'+1:=⟨m-1,by omega⟩;have ih:=λ(k:Nat) (p:Evt) (hk:hp[k]?=some p) (hki:i<k)=>EI (N:=N) (f0:=f0) (f1:=f1) (f:=f) (z:=z) (e0:=e0) (e1:=e1) (e2:=e2) (e3:=e3) (e4:=e4) (e5:=e5) (e6:=e6) (e7:=e7) (e8:=e8) (e9:=e9) (e10:=e10) (e11:=e11) (e12:=e12) (e13:=e13) (e14:=e14) (e15:=e15) (e16:=e16) (e18:=e18) (e19:=e19) (e22:=e22) (e23:=e23) (e24:=e24) (e25:=e25) (e26:=e26) (e27:=e27) (e28:=e28) (e29:=e29) (e30:=e30) (n:=n) (W:=W) hn hf r k m (hp.set i p) (wh.set p.h.i.toNat (i:Int)) (by omega) (by omega) (by have:=bo hk;omega) (by rw[aP];exact hl) (by rw[aP];exact hw) (λx hx=>by
    rcases dQ hx with h1|h1
    .exact hg x h1
    .rw[h1];exact hg p (ax hk))
  rw[bu];have fin:∀(a b c d:PV) (kk:Nat),kid hp i=kk->kk<n->den (bx D) N JK [f0,f1,λvs=>dl (bx D) N Cu [f0,f1] [e0,e1,e2,e3,e4,e5,e6,e7,e8,e9,e10,e11,e12,e13,e14,e15,e16,.i64 (W:Int),e18,e19,EP f,.i64 (n:Int),e22,e23,e24,e25,e26,e27,e28,e29,e30] m vs] ([e0,e1,e2,e3,e4,e5,e6,e7,e8,e9,e10,e11,e12,e13,e14,e15,e16,.i64 (W:Int),e18,e19,EP f,.i64 (n:Int),e22,e23,e24,e25,e26,e27,e28,e29,e30]++[.i64 (i:Int),sl bV (hp++[z]),sl I1 wh,.i64 ((2*i+1:Nat):Int),a,b,c,d,.i64 (kk:Int)])=f1 [sl bV ((gL f (r+1) hp wh i).1++[z]),sl I1 (gL f (r+1) hp wh i).2.1,.i64 ((gL f (r+1) hp wh i).2.2:Int)]:=λa b c d kk hkk hk=>by
   subst hkk;have ko:=tA hp i;obtain⟨p,hp'⟩:∃p,hp[kid hp i]?=some p:=⟨hp[kid hp i]'(by omega),ai _⟩;obtain⟨p64,prk,jp,pj,pW⟩:=hg p (ax hp');have E:gL f (r+1) hp wh i=if evLess p f=true then gL f r (hp.set i p) (wh.set p.h.i.toNat (i:Int)) (kid hp i) else(hp,wh,i):=by rw[gL,hp']
   have ih':=ih _ p hp' (by omega);have cm:=phi (AN (x:=p) (y:=f) p64 hf.t64 prk hf.rok);have s1:=uj (hp:=hp) (z:=z) (i:=i) (by omega) p;have s3:=fy (l:=wh) (i:=jp) (by omega) (i:Int);have g1:=km (z:=z) hp';have w1:IntKind.i64.wrap (2*(kid hp i:Int))=((2*kid hp i:Nat):Int):=by rw[cU (by omega) (by omega)];omega
   rw[E];unfold JK;simp[EV,ixM hk,aM g1,gS,cm];by_cases hc:evLess p f=true
   .rw[ad hc,ac (by have:=(qp p f).2 hc;omega)];simp only[EV,ixM hiH,gS,ay,fx,s1,GL,pj,ixM pW,s3,w1,up1 (show 2*kid hp i<1000000000 by omega)]
    rw[pj,aG] at ih';exact ih'
   .rw[ac hc,ad (by have:=LR (show evLess p f=false by simpa using hc);omega)]
  simp only[aL,aI] at fin;unfold Cu;simp only[EV,aa];by_cases h1:2*i+1<n
  .rw[ad (by omega)];simp only[EV,aa,up1 (show 2*i+1<1000000000 by omega)]
   obtain⟨e,he⟩:∃e,hp[2*i+1]?=some e:=⟨hp[2*i+1]'(by omega),ai _⟩;by_cases h2:2*i+1+1<n
   .rw[ad (by omega)];obtain⟨g,hg'⟩:∃e,hp[2*i+1+1]?=some e:=⟨hp[2*i+1+1]'(by omega),ai _⟩;have a1:=hg e (ax he);have b1:=hg g (ax hg');have cm:=phi (AN (x:=g) (y:=e) b1.t64 a1.t64 b1.rok a1.rok);have kE:kid hp i=if evLess g e=true then 2*i+2 else 2*i+1:=by unfold kid;rw[he,show hp[2*i+2]?=some g from hg']
    simp only[EV,up1 (show 2*i+1<1000000000 by omega),ixM h1,ixM h2,aM (km (z:=z) he),aM (km (z:=z) hg'),gS,ay,cm]
    unfold JL;simp only[EV,aa,up1 (show 2*i+1<1000000000 by omega),qp]
    by_cases hc:evLess g e=true
    .rw[ad hc];rw[ad hc] at kE;exact fin _ _ _ _ (2*i+1+1) kE h2
    .rw[ac hc];rw[ac hc] at kE;exact fin _ _ _ _ (2*i+1) kE h1
   .rw[ac (by omega)];unfold JL;simp only[EV,au,aw];exact fin _ _ _ _ (2*i+1) (by unfold kid;rw[he,show hp[2*i+2]?=none from bD (by omega)]) h1
  .rw[ac (by omega)];have:gL f (r+1) hp wh i=(hp,wh,i):=by
    have ko:=tA hp i;rw[gL,bD (by omega)]
   rw[this]
def EJ {f:Evt}:∀(r:Nat) (hp:List Evt) (wh:List Int) (i:Nat),i<hp.length->(fe f r hp wh i).1.length=hp.length/\(fe f r hp wh i).2.1.length=wh.length/\(fe f r hp wh i).2.2<=i/\∀x∈(fe f r hp wh i).1,x∈hp
 |0,hp,wh,i,_=>⟨rfl,rfl,aB _,λ_ h=>h⟩
 |r+1,hp,wh,i,hi=>by
  unfold fe;split
  .rename_i p hp';split
   .obtain⟨q1,q2,q3,q4⟩:=EJ (f:=f) r (hp.set i p) (wh.set p.h.i.toNat (i:Int)) ((i-1)/2) (by rw[aP];omega);refine⟨by rw[q1,aP],by rw[q2,aP],by omega,λx hx=>?_⟩;rcases dQ (q4 x hx) with h|h
    .exact h
    .rw[h];exact ax hp'
   .exact⟨rfl,rfl,aB _,λ_ h=>h⟩
  .exact⟨rfl,rfl,aB _,λ_ h=>h⟩
def EK {f:Evt}:∀(r:Nat) (hp:List Evt) (wh:List Int) (i:Nat),i<hp.length->(gL f r hp wh i).1.length=hp.length/\(gL f r hp wh i).2.1.length=wh.length/\(gL f r hp wh i).2.2<hp.length
 |0,hp,wh,i,hi=>⟨rfl,rfl,hi⟩
 |r+1,hp,wh,i,hi=>by
  unfold gL;split
  .rename_i p hp';split
   .obtain⟨q1,q2,q3⟩:=EK (f:=f) r (hp.set i p) (wh.set p.h.i.toNat (i:Int)) (kid hp i) (by rw[aP];exact bo hp');rw[aP] at q1 q2 q3;exact⟨q1,q2,q3⟩
   .exact⟨rfl,rfl,hi⟩
  .exact⟨rfl,rfl,hi⟩
def NE {hp:List Evt}{z:Evt}:RF.ev .sub [sl bV (hp++[z]),.v (.int .i64 0),.v (.int .i64 (hp.length:Int))]=some (sl bV hp):=by
 rw[xG,ad (by simp;omega)];simp
def ajG (e:Evt):RF.ev (.part 3 2) [EP e]=some (HD e.h):=rfl
open Classical in
def ajH {a:Agenda}(h:eR a){i j:Nat}{u:Int}{e:Evt}(he:a.heap[i]?=some e)(hh:e.h=⟨(j:Int),u⟩)(h64:∀e∈a.heap,aS e.time):Ans D 409 [AG a,.i64 (i:Int)] [AG (pZ a i j),EP e,.i64 0]:=by
 have hs:=dN.1 h.1;have hP:=pB hs h.2.1;have hsm:=BB h;have n2:=hs.n2;have hl:=h.2.1.2.1;have hi:=bo he;obtain⟨j',u',e1,e2,e3,e4⟩:=hP.at_ i e he;rw[hh] at e1;simp only[Hnd.mk.injEq] at e1;have:j'=j:=by omega
 subst this;have hu:u=u':=e1.2;subst hu;have hw:=bo e4;obtain⟨hp,f,hq⟩:∃hp f,a.heap=hp++[f]:=by
  rcases kU a.heap with h|⟨hp,f,h⟩
  .grind
  .grind
 have hn:a.heap.length-1=hp.length:=by rw[hq];simp
 have hn':a.heap.length=hp.length+1:=by rw[hq];simp
 have hlast:a.heap[hp.length]?=some f:=by rw[hq];simp
 have good:∀x∈a.heap,GoodE a.w.length x:=λx hx'=>by
  obtain⟨k,hk⟩:=aK.1 hx';obtain⟨j,v,g1,_,_,g4⟩:=hP.at_ k x hk;exact⟨h64 x hx',(h.2.2.1 x hx').1,j,by rw[g1],bo g4⟩
 have hR:pZ a i j'=if i=hp.length then⟨i8 a.s j',hp,a.w.set j' (-1)⟩ else
   ⟨i8 a.s j',(eS hp.length (upS (i+1) (hp.set i f) ((a.w.set j' (-1)).set f.h.i.toNat (i:Int)) i).1 (upS (i+1) (hp.set i f) ((a.w.set j' (-1)).set f.h.i.toNat (i:Int)) i).2.1 (upS (i+1) (hp.set i f) ((a.w.set j' (-1)).set f.h.i.toNat (i:Int)) i).2.2).1,(eS hp.length (upS (i+1) (hp.set i f) ((a.w.set j' (-1)).set f.h.i.toNat (i:Int)) i).1 (upS (i+1) (hp.set i f) ((a.w.set j' (-1)).set f.h.i.toNat (i:Int)) i).2.1 (upS (i+1) (hp.set i f) ((a.w.set j' (-1)).set f.h.i.toNat (i:Int)) i).2.2).2⟩:=by
  unfold pZ;rw[hn,hlast];simp only;rw[show a.heap.take hp.length=hp by rw[hq];simp]
 have c4:=phi (ajE hs e2 e3);have bn:RF.ev .bnd [.v (.int .i64 (hp.length:Int)),.v (.int .i64 ((hp.length+1:Nat):Int))]=some (.i64 (hp.length:Int)):=by rw[kq,ad ⟨by omega,by omega⟩]
 have dn:=wR (n:=hp.length) (by omega);have s3:=fy (l:=a.w) (i:=j') hw (-1);have hls:∀(l:List Int),l.length=a.w.length->RF.ev .sub [sl I1 l,.v (.int .i64 0),.v (.int .i64 (a.w.length:Int))]=some (sl I1 l):=λl hl=>by
  have:=bI (f:=I1) (l:=l);rw[hl] at this;exact this
 refine an ⟨1001,?_⟩;unfold aeQ;simp only[ay,jk,fV,aT he (j8 _),aM he,gS,EV,pAG,ajG,hh,c4,jy,aA,aF,au,aw,phi (ZT hsm),lX,ah,hn',dn,ixM (show hp.length<hp.length+1 by omega),aM hlast,bn,GL,ixM hw,s3,aa]
 by_cases hil:i=hp.length
 .rw[ac (by omega)];rw[hR,ad hil];unfold JI;simp only[EV,ay,pSL,hq,NE,hls _ aP,vt]
 .have hil:i<hp.length:=by omega
  rw[ad (by omega)];have hgf:=good f (by rw[hq];simp);have hgp:∀x∈hp,GoodE a.w.length x:=λx hx=>good x (by rw[hq];simp[hx]);obtain⟨hU,wU,iU,hUe⟩:∃hU wU iU,fe f (i+1) hp (a.w.set j' (-1)) i=(hU,wU,iU):=⟨_,_,_,rfl⟩;obtain⟨hV,wV,iV,hVe⟩:∃hV wV iV,gL f hp.length hU wU iU=(hV,wV,iV):=⟨_,_,_,rfl⟩;obtain⟨u1,u2,u3,u4⟩:=EJ (f:=f) (i+1) hp (a.w.set j' (-1)) i hil;rw[hUe] at u1 u2 u3 u4;simp only at u1 u2 u3 u4;rw[aP] at u2;obtain⟨v1,v2,v3⟩:=EK (f:=f) hp.length hU wU iU (by omega);rw[hVe] at v1 v2 v3;simp only at v1 v2 v3;have up:=DD (x:=f) (i+1) hp (a.w.set j' (-1)) i hil;rw[hUe] at up;simp only at up;have dnn:=Fi (x:=f) hp.length hU wU iU (by omega);rw[hVe] at dnn;simp only at dnn;rw[hR,ac (by omega),up];simp only;rw[dnn];simp only;obtain⟨f64,frk,jf,fj,fW⟩:=hgf;have hgf:=good f (by rw[hq];simp);have hq':sl bV a.heap=sl bV (hp++[f]):=by rw[hq]
  rw[hq'];refine(LW (N:=1001) (f:=f) (z:=f) (n:=hp.length) (W:=a.w.length) (by omega) hgf (i+1) i 1001 hp (a.w.set j' (-1)) (by omega) (by omega) hil rfl aP hgp).trans ?_;rw[hUe];have w1:IntKind.i64.wrap (2*(iU:Int))=((2*iU:Nat):Int):=by rw[cU (by omega) (by omega)];omega
  unfold Ss;simp only[EV,w1,up1 (show 2*iU<1000000000 by omega)]
  refine(EI (N:=1001) (f:=f) (z:=f) (n:=hp.length) (W:=a.w.length) (by omega) hgf hp.length iU 1001 hU wU (by omega) (by omega) (by omega) u1 u2 (λx hx=>hgp x (u4 x hx))).trans ?_;rw[hVe];have s1:=uj (hp:=hV) (z:=f) (i:=iV) (by omega) f;have s4:=fy (l:=wV) (i:=jf) (by omega) (iV:Int);have s5:=NE (hp:=hV.set iV f) (z:=f);rw[aP,v1,u1] at s5;unfold Sr;simp only[EV,ay,ixM (show iV<hp.length by omega),s1,GL,fj,ixM fW,s4]
  unfold JI;simp only[EV,ay,pSL,s5,hls _ (show(wV.set jf (iV:Int)).length=a.w.length by rw[aP];omega),vt,aG]
open Classical in
def ajI {a:Agenda}(h:eR a){i j:Nat}{u:Int}{e:Evt}(he:a.heap[i]?=some e)(hh:e.h=⟨(j:Int),u⟩)(h64:∀e∈a.heap,aS e.time):Ans D 403 [AG a,HD ⟨j,u⟩] [.i64 (i:Int),.i64 0]:=by
 have hs:=dN.1 h.1;have hP:=pB hs h.2.1;obtain⟨j',u',e1,e2,e3,e4⟩:=hP.at_ i e he;rw[hh] at e1;simp at e1;have:j'=j:=by omega
 subst this;have hu:=e1.2;subst hu;have m1:=phi (Gl (vu h) h64);rw[aq h] at m1;have e0:okE true=0:=rfl;rw[e0] at m1;refine am ?_;unfold aeO;simp only[ay,jk,qn,m1,pAG,phi (aai hs e2 e3),lX,pw,EV,aA,aF,au,aw,aT e4 (ct _),aM e4,cZ]
def ajJ {a:Agenda}(h:eR a){i j:Nat}{u:Int}{e:Evt}(he:a.heap[i]?=some e)(hh:e.h=⟨(j:Int),u⟩)(h64:∀e∈a.heap,aS e.time):Ans D 350 [AG a,HD ⟨j,u⟩] [AG (pZ a i j),EP e,.i64 0]:=by
 refine am ?_;unfold ad7;simp[jk,qn,phi (ajI h he hh h64),phi (ajH h he hh h64),fx,EV]
section
variable {α:Type}{f:α->List PV}{l:List α}{i n:Nat}
def dl1 (hi:i<l.length):RF.ev .sub [.sl (l.map f),.v (.int .i64 (0+((i+1:Nat):Int))),.v (.int .i64 ((l.length:Int)-((i+1:Nat):Int)))]=some (.sl ((l.drop (i+1)).map f)):=by
 rw[xG,ad (by rw[ah];omega),show(0+((i+1:Nat):Int)).toNat=i+1 by omega,show((l.length:Int)-((i+1:Nat):Int)).toNat=l.length-(i+1) by omega,<-x9,<-ya,bi (by rw[bQ];omega)]
def dl2 (hz:∀a,(f a).length=3)(hi:i<l.length)(hl:l.length<=1000):RF.ev (.appK 24 3) [.sl (l.map f),.v (.int .i64 (i:Int)),.sl ((l.drop (i+1)).map f)]=some (.sl ((l.eraseIdx i++l.drop (l.length-1)).map f)):=by
 have ok:d8 3 ((l.drop (i+1)).map f)=true:=by
  cases e:l.drop (i+1) with
  |nil=>rfl
  |cons a k=>simp[d8,hz]
 show(if _ then _ else _)=_
 rw[ad ⟨by omega,by rw[ah];omega,by rw[ah,bQ];omega,ok⟩];rw[aG,pd,ah,bQ,show i+(l.length-(i+1))=l.length-1 by omega]
 simp_all
def dl3 (z:List PV)(hi:i<l.length):RF.ev (.clr z) [.sl ((l.eraseIdx i++l.drop (l.length-1)).map f),.v (.int .i64 (0+((i:Int)+((l.length-(i+1):Nat):Int)))),.v (.int .i64 ((l.length:Int)-((i:Int)+((l.length-(i+1):Nat):Int))))]=some (.sl ((l.eraseIdx i).map f++[z])):=by
 have h1:=ga hi;have h2:(l.drop (l.length-1)).length=1:=by rw[bQ];omega
 show(if _ then _ else _)=_
 rw[ad (by rw[ah,aD,h1,h2];omega),show(0+((i:Int)+((l.length-(i+1):Nat):Int))).toNat=l.length-1 by omega,show((l.length:Int)-((i:Int)+((l.length-(i+1):Nat):Int))).toNat=1 by omega,dU]
 simp_all
def dl4 (z:List PV)(hi:i<l.length):RF.ev .sub [.sl ((l.eraseIdx i).map f++[z]),.v (.int .i64 0),.v (.int .i64 ((i:Int)+((l.length-(i+1):Nat):Int)))]=some (.sl ((l.eraseIdx i).map f)):=by
 have h1:=ga hi;rw[xG,ad (by rw[aD,ah,h1];simp;omega),show((i:Int)+((l.length-(i+1):Nat):Int)).toNat=l.length-1 by omega]
 grind
end
def uP {a b:Nat}(h:a<=b):RF.ev .bnd [.v (.int .i64 (a:Int)),.v (.int .i64 (b:Int))]=some (.i64 (a:Int)):=by rw[kq,ad ⟨by omega,by omega⟩]
def ajK {l:List Held}{i:Nat}(hi:i<l.length)(hl:l.length<=1000):Ans D 423 [.sl [],.i64 (i:Int),.i64 ((i+1:Nat):Int),sl hrow l] [sl hrow (l.eraseIdx i),.sl []]:=by
 have h1:=ga hi;have ne:decide ((i:Int)=((i+1:Nat):Int))=false:=ak (by omega);have ap:(l.eraseIdx i++l.drop (l.length-1)).length=l.length:=by rw[aD,h1,bQ];omega
 have bs:RF.ev .bnd [.v (.int .i64 ((i:Int)+((l.length-(i+1):Nat):Int))),.v (.int .i64 (l.length:Int))]=some (.i64 ((i:Int)+((l.length-(i+1):Nat):Int))):=by rw[kq,ad ⟨by omega,by omega⟩]
 refine am ?_;unfold aeT;simp only[EV,ah,uP (aB l.length),uP (show i+1<=l.length by omega),uP (show i<=i+1 by omega),uP (show i<=l.length by omega),ne,au,aw,dl1 (f:=hrow) hi,dl2 (f:=hrow) fL hi hl,ap,bQ,bs,dl3 (f:=hrow) [KP.z,KP.z,KP.z] hi,dl4 (f:=hrow) [KP.z,KP.z,KP.z] hi]
def ajL {l:List Due}{i:Nat}(hi:i<l.length)(hl:l.length<=1000):Ans D 370 [.sl [],.i64 (i:Int),.i64 ((i+1:Nat):Int),sl cp l] [sl cp (l.eraseIdx i),.sl []]:=by
 have h1:=ga hi;have ne:decide ((i:Int)=((i+1:Nat):Int))=false:=ak (by omega);have ap:(l.eraseIdx i++l.drop (l.length-1)).length=l.length:=by rw[aD,h1,bQ];omega
 have bs:RF.ev .bnd [.v (.int .i64 ((i:Int)+((l.length-(i+1):Nat):Int))),.v (.int .i64 (l.length:Int))]=some (.i64 ((i:Int)+((l.length-(i+1):Nat):Int))):=by rw[kq,ad ⟨by omega,by omega⟩]
 refine am ?_;unfold aei;simp only[EV,ah,uP (aB l.length),uP (show i+1<=l.length by omega),uP (show i<=i+1 by omega),uP (show i<=l.length by omega),ne,au,aw,dl1 (f:=cp) hi,dl2 (f:=cp) po hi hl,ap,bQ,bs,dl3 (f:=cp) [KP.z,KP.z,KP.z] hi,dl4 (f:=cp) [KP.z,KP.z,KP.z] hi]
section
variable {α:Type}{nu:α->Int}
def Asc (nu:α->Int)(l:List α):Prop:=l.Pairwise λa b=>nu a<nu b
def yq {l:List α}(h:Asc nu l){i j:Nat}{a b:α}(hij:i<j)(ha:l[i]?=some a)(hb:l[j]?=some b):nu a<nu b:=by
 unfold Asc at h;rw[dR] at h
 grind
def LBn (nu:α->Int)(l:List α)(id:Int)(m:Nat):Prop:=m<=l.length/\∀(k:Nat) (p:α),l[k]?=some p->(k<m->nu p<id)/\(m<=k->id<=nu p)
def zU {N:Nat}{f:JT}{K0:K}{e:List PV}{l:List α}{id:Int}(hs:Asc nu l)
  (key:∀(i j:Nat) (p:α) (self:JT),i<j->j<=l.length->l[(i+j)/2]?=some p->den (bx D) N K0 ([f]++[self]) (e++[.i64 (i:Int),.i64 (j:Int)])=if nu p<id then self [.i64 (((i+j)/2+1:Nat):Int),.i64 (j:Int)] else self [.i64 (i:Int),.i64 (((i+j)/2:Nat):Int)])
  (out:∀(i j:Nat) (self:JT),¬i<j->den (bx D) N K0 ([f]++[self]) (e++[.i64 (i:Int),.i64 (j:Int)])=f [.i64 (i:Int)]):∀(m i j:Nat),j-i<m->i<=j->j<=l.length->(∀(k:Nat) (p:α),l[k]?=some p->(k<i->nu p<id)/\(j<=k->id<=nu p))->
  ∃P,LBn nu l id P/\ dl (bx D) N K0 [f] e m [.i64 (i:Int),.i64 (j:Int)]=f [.i64 (P:Int)]
 |0,i,j,h,_,_,_=>by omega
 |m+1,i,j,h,hij,hj,hb=>by
  rw[bu];by_cases hlt:i<j
  .obtain⟨p,hp⟩:∃p,l[(i+j)/2]?=some p:=⟨l[(i+j)/2]'(by omega),ai _⟩;rw[key i j p _ hlt hj hp];by_cases c:nu p<id
   .rw[ad c];refine zU hs key out m _ j (by omega) (by omega) hj λk q hq=>⟨λhk=>?_,(hb k q hq).2⟩;by_cases e:k=(i+j)/2
    .subst e;rw[hp] at hq;cases hq;exact c
    .have:=yq hs (show k<(i+j)/2 by omega) hq hp;omega
   .rw[ac c];refine zU hs key out m i _ (by omega) (by omega) (by omega) λk q hq=>⟨(hb k q hq).1,λhk=>?_⟩;by_cases e:k=(i+j)/2
    .subst e;rw[hp] at hq;cases hq;omega
    .have:=yq hs (show(i+j)/2<k by omega) hp hq;omega
  .exact⟨i,⟨by omega,λk p hp=>⟨(hb k p hp).1,λh=>(hb k p hp).2 (by omega)⟩⟩,out i j _ hlt⟩
def PU {l:List α}{id:Int}{P i:Nat}{a:α}(h:LBn nu l id P)(hs:Asc nu l)(ha:l[i]?=some a)(e:nu a=id):P=i:=by
 obtain⟨h1,h2⟩:=h;by_cases c:i<P
 .grind
 .by_cases d:P<i
  .have hi:=bo ha;obtain⟨b,hb⟩:∃b,l[P]?=some b:=⟨l[P]'(by omega),ai _⟩;have:=(h2 P b hb).2 (aB _);have:=yq hs d hb ha;omega
  .omega
def sU {l:List α}(hs:Asc nu l):∀{i:Nat} {a:α},l[i]?=some a->l.eraseIdx i=l.filter λb=>dg (nu a) (nu b):=by
 induction l with
 |nil=>intro i a h;cases h
 |cons x l ih=>
  intro i a h;unfold Asc at hs;rw[gr] at hs;cases i with
  |zero=>
   simp at h;subst h;rw[tO (by simp[dg])];show l=_
   rw[fd.2];intro b hb;have:=hs.1 b hb;simp[dg];omega
  |succ i=>
   have:=hs.1 a (ax h);rw[tP (by simp[dg];omega)];show x::l.eraseIdx i=_
   rw[ih hs.2 h]
end
def ltS (a b:Int):(sgn (a-b)<0)=(a<b):=by
 unfold sgn
 grind
def eqS (a b:Int):(sgn (a-b)=0)=(a=b):=by
 unfold sgn
 grind
def aaj (d:Due):RF.ev (.cell 0) [DP d]=some (.i64 d.n):=rfl
def LX {l:List Due}{id:Int}(hs:Asc (·.n) l)(hl:l.length<=1000):∃P:Nat,LBn (·.n) l id P/\ Ans D 347 [sl cp l,.i64 id] [.i64 (P:Int),.bool (match l[P]? with|some d=>decide (d.n=id)|none=>false)]:=by
 obtain⟨P,h1,h2⟩:=zU (N:=1001) (f:=kJ (bx D) 1001 Jk [] [sl cp l,.i64 id,.i64 (l.length:Int)]) (K0:=Co) (e:=[sl cp l,.i64 id,.i64 (l.length:Int)]) (l:=l) (nu:=(·.n)) (id:=id) hs (λi j p self hij hj hp=>by
  unfold Co;simp only[aL,aI,EV,aa,bj hij,M5 (show i<1000000 by omega) (show j<1000000 by omega),cU (show-9223372036854775808<=(((i+j)/2:Nat):Int) by omega) (by omega),ay,aT hp (po p),aM hp,Zz,aaj,phi (wD _ _),Sc,up1 (show(i+j)/2<1000000000 by omega),ltS]) (λi j self hij=>by
  unfold Co;simp only[aL,aI,EV,aa];rw[ac (by omega)]) 1001 0 l.length (by omega) (by omega) (aB _) (λk p hp=>⟨λh=>by omega,λh=>by have:=bo hp;omega⟩)
 refine⟨P,h1,an ⟨1001,?_⟩⟩;unfold adY;simp only[EV,ah];refine h2.trans ?_;unfold Jk;simp only[EV,aa];by_cases hP:P<l.length
 .obtain⟨d,hd⟩:∃d,l[P]?=some d:=⟨l[P]'hP,ai _⟩;rw[ad (by omega),hd];simp only[EV,ay,aT hd (po d),aM hd,Zz,aaj,phi (wD _ _),Jj,eqS]
 .rw[ac (by omega),bD (by omega)];unfold Jj;rfl
def ajM {l:List Due}{i:Nat}{d:Due}(hs:Asc (·.n) l)(hl:l.length<=1000)(hd:l[i]?=some d):Ans D 347 [sl cp l,.i64 d.n] [.i64 (i:Int),.bool true]:=by
 obtain⟨P,h1,h2⟩:=LX (id:=d.n) hs hl;have:=PU h1 hs hd rfl
 grind
def agx {l:List Due}{n:Int}(hs:Asc (·.n) l)(hl:l.length<=1000)(hn:∀d∈l,d.n≠n):∃P:Nat,Ans D 347 [sl cp l,.i64 n] [.i64 (P:Int),.bool false]:=by
 obtain⟨P,h1,h2⟩:=LX (id:=n) hs hl
 grind
def qW {c:Certs}(h:dp c):Asc (·.n) c.l:=(o9.1 h).2.2.2.2.imp λh=>h.1
def LY {c:Clock}(h:bJ c):Asc (·.n) c.d:=by
 have h1:=(tZ h).2;have h2:=qW h.2.2.1;unfold Asc at h2|-;have:(c.q.l.map (·.n)).Pairwise (· <·):=iY.2 h2;exact iY.1 (this.sublist h1)
open Classical in
def ajN {c:Certs}{i:Nat}{x:Held}(h:dp c)(hx:c.l[i]?=some x):Ans D 422 [CS c,.i64 x.n] [.i64 (i:Int),.i64 0]:=by
 have hl:=h.1;have hs:=qW h;have m1:=phi (Nc (c:=c) (by omega));rw[aq h] at m1;have e0:okE true=0:=rfl;rw[e0] at m1;obtain⟨P,h1,h2⟩:=zU (N:=1001) (f:=kJ (bx D) 1001 JM [] [CS c,.i64 x.n,CS c,.i64 0,.bool false,sl hrow c.l,.i64 (c.l.length:Int)]) (K0:=Cv) (e:=[CS c,.i64 x.n,CS c,.i64 0,.bool false,sl hrow c.l,.i64 (c.l.length:Int)]) (l:=c.l) (nu:=(·.n)) (id:=x.n) hs (λi j p self hij hj hp=>by
  unfold Cv;simp only[aL,aI,EV,aa,bj hij,M5 (show i<1000000 by omega) (show j<1000000 by omega),cU (show-9223372036854775808<=(((i+j)/2:Nat):Int) by omega) (by omega),ay,fM,aT hp (fL p),aM hp,kY,om,phi (wD _ _),Sv,up1 (show(i+j)/2<1000000000 by omega),ltS]) (λi j self hij=>by
  unfold Cv;simp only[aL,aI,EV,aa];rw[ac (by omega)]) 1001 0 c.l.length (by omega) (by omega) (aB _) (λk p hp=>⟨λh=>by omega,λh=>by have:=bo hp;omega⟩)
 have:=PU h1 hs hx rfl;subst this;have hP:=bo hx;refine an ⟨1001,?_⟩;unfold aeS;simp only[ay,ji,m1,fM,EV,ah,aA,aF,au,aw];refine h2.trans ?_;unfold JM;simp only[EV,aa];rw[ad (by omega)];simp only[EV,ay,fM,aT hx (fL x),aM hx,kY,om,phi (wD _ _),Su,eqS,aA,aF,au,aw]
def ajO {c:Certs}{i:Nat}{x:Held}(h:dp c)(hx:c.l[i]?=some x):Ans D 369 [CS c,.i64 x.n] [CS ⟨c.next,c.l.filter λy=>dg x.n y.n⟩,CP x.c,.i64 0]:=by
 have hl:=h.1;have hi:=bo hx;have h1:(c.l.eraseIdx i).length=c.l.length-1:=ga hi;have e:c.l.eraseIdx i=c.l.filter λy=>dg x.n y.n:=sU (qW h) hx;have s1:RF.ev .sub [sl hrow (c.l.filter λy=>dg x.n y.n),.v (.int .i64 0),.v (.int .i64 ((c.l.filter λy=>dg x.n y.n).length:Int))]=some (sl hrow (c.l.filter λy=>dg x.n y.n)):=bI;have ag:RF.ev .agg [.i64 c.next,sl hrow (c.l.filter λy=>dg x.n y.n)]=some (CS ⟨c.next,c.l.filter λy=>dg x.n y.n⟩):=rfl;have sh:RF.ev (.shape 2) [CP x.c]=some (CP x.c):=rfl;have pr:RF.ev (.part 0 2) [CP x.c]=some (CP x.c):=rfl;refine am ?_;unfold aeh;simp only[ay,ji,phi (ajN h hx),nN,fM,phi (Np (l:=c.l) (by omega)),EV,ah,aA,aF,au,aw,up1 (show i<1000000000 by omega),phi (ajK hi (by omega)),aT hx (fL _),aM hx,Bo,sh,pr,s1,ag,e]
def aak (c:Certs):RF.ev (.part 0 2) [CS c]=some (CS c):=rfl
def FF (l:List Due):RF.ev .sub [sl cp l,.v (.int .i64 0),.v (.int .i64 (l.length:Int))]=some (sl cp l):=bI
def aal {c:Clock}(h:bJ c)(h64:fb c){i:Nat}{x:Held}(hx:c.q.l[i]?=some x):Ans D 284 [CL c,.i64 x.n] [CL (gJ c x.n),CP x.c,.i64 0]:=by
 have hs:=LY h;have hcs:=ii h;have h3:=h.2.2.1;have h4:=h.2.2.2.1;refine am ?_;unfold ac7;have sh:RF.ev (.shape 2) [CP x.c]=some (CP x.c):=rfl;simp only[ay,bX,oq,phi (ajO h3 hx),ji,sh,EV,aA,aF,au,aw,phi (GF hcs),dT,ah];cases hf:c.d.find? λd=>decide (d.n=x.n) with
 |none=>
  have hall:∀d∈c.d,d.n≠x.n:=λd hd=>by simpa using j5.1 hf d hd
  obtain⟨P,cP⟩:=agx (n:=x.n) hs hcs.d hall;have eA:ku c x.n=c.a:=by unfold ku;rw[hf]
  have eD:(c.d.filter λd=>dg x.n d.n)=c.d:=fd.2 λd hd=>by unfold dg;simp[hall d hd]
  simp only[phi cP,EV,au,aw,ay,lY,lZ,l5,iK,kf];unfold I4 gJ;rw[eA,eD];simp only[ay,Nw,aak,FF,EV,Fy]
 |some d=>
  have hd:=ed hf;have hdn:d.n=x.n:=by simpa using j6 hf
  obtain⟨k,hk⟩:=aK.1 hd;obtain⟨m,j,u,e,w1,w2,w3,w4,w5,_⟩:=Dg h hd;have cP:=ajM hs hcs.d hk;rw[hdn] at cP;have hkl:=bo hk;have hdl:=hcs.d;have eA:ku c x.n=pZ c.a m j:=by
   unfold ku;rw[hf];simp only;rw[w4];simp only[aG];rw[w1];simp only[cC,aG]
  have eD:c.d.eraseIdx k=c.d.filter λd=>dg x.n d.n:=by rw[<-hdn];exact sU hs hk
  have c5:=phi (ajJ h4 w2 w3 h64.2);rw[<-w4] at c5;simp only[phi cP,EV,az,ay,sP,dT,aT hk (po d),aM hk,Ft,c5,jk,fx,aA,aF,au,aw,Uu,up1 (show k<1000000000 by omega),phi (ajL hkl hdl),ah,cAG0,cAG1,cAG2,fV,lX]
  unfold I4 gJ;rw[eA,<-eD];simp only[ay,Nw,aak,FF,EV,Fy]
def LZ {α:Type}{nu:α->Int}{l:List α}(hs:Asc nu l){i:Nat}{a:α}(ha:l[i]?=some a):l.findIdx? (λb=>decide (nu b=nu a))=some i:=by
 obtain⟨h1,h2⟩:=aC.1 ha;rw[bL];refine⟨h1,by rw[h2];simp,λj hj h=>?_⟩;have:=yq hs hj (ai (tK hj h1)) ha
 grind
def ajP {c:Certs}{i:Nat}{x:Held}(h:dp c)(hx:c.l[i]?=some x):Ans D 289 [CS c,.i64 x.n] [.i64 (i:Int)]:=by
 have hl:=h.1;refine an ⟨1001,?_⟩;unfold adc;simp[ji,EV];refine(j7 (m:=1001) (l:=c.l) (p:=λb=>decide (b.n=x.n)) (st:=λi=>[.i64 (i:Int)]) (ret:=λi=>some [.i64 (i:Int)]) (fin:=some [.i64 (-1)]) (λk g self hg=>?_) (λself=>?_) (by omega)).trans ?_
 .unfold I6;simp only[fM,EV,ah,aa,bj (aO hg),aT hg (fL _),aM hg,Fr,up1 (show k<1000000000 by have:=aO hg;omega)]
 .unfold I6;simp[fM,EV,RQ]
 .rw[LZ (qW h) hx];rfl
def aam {c:Clock}(hl:c.d.length<=1000)(n:Int):∃N,den (bx D) N UQ [] [CL c,.i64 n]=(c.d.findIdx? λb=>decide (b.n=n)).elim (some [.i64 (-1)]) λi=>some [.i64 (i:Int)]:=by
 refine⟨1001,?_⟩;unfold UQ;simp[bX,EV];refine(j7 (m:=1001) (l:=c.d) (p:=λb=>decide (b.n=n)) (st:=λi=>[.i64 (i:Int)]) (ret:=λi=>some [.i64 (i:Int)]) (fin:=some [.i64 (-1)]) (λk g self hg=>?_) (λself=>?_) (by omega))
 .unfold JA;simp only[dT,EV,ah,aa,bj (aO hg),aT hg (po _),aM hg,M8,up1 (show k<1000000000 by have:=aO hg;omega)]
 .unfold JA;simp[dT,EV,Sj]
def ajQ {c:Clock}{i:Nat}{d:Due}(hs:Asc (·.n) c.d)(hl:c.d.length<=1000)(hd:c.d[i]?=some d):Ans D 375 [CL c,.i64 d.n] [.i64 (i:Int)]:=by
 obtain⟨N,h⟩:=aam (c:=c) hl d.n;rw[LZ hs hd] at h;exact an ⟨N,h⟩
def agy {c:Clock}{n:Int}(hl:c.d.length<=1000)(hn:∀d∈c.d,d.n≠n):Ans D 375 [CL c,.i64 n] [.i64 (-1)]:=by
 obtain⟨N,h⟩:=aam (c:=c) hl n;have:(c.d.findIdx? λb=>decide (b.n=n))=none:=by
  grind
 rw[this] at h;exact an ⟨N,h⟩
def ajR {c:Certs}(hl:c.l.length<=1000)(n:Int):Ans D 374 [CS c,.i64 n] [CS ⟨c.next,c.l.filter λx=>dg n x.n⟩]:=by
 have bs:∀x:Held,RF.ev (.bs 1 [KP.z,KP.z,KP.z] [0]) [HP x]=some (sl hrow [x]):=λ_=>rfl;have su:∀x:Held,RF.ev .sub [sl hrow [x],.v (.int .i64 0),.v (.int .i64 1)]=some (sl hrow [x]):=λ_=>rfl;have ag:∀l:List Held,RF.ev .agg [.i64 c.next,sl hrow l]=some (CS ⟨c.next,l⟩):=λ_=>rfl;refine an ⟨1001,?_⟩;unfold aem;simp only[ay,ji,EV];refine(gR (m:=1001) (l:=c.l) (g:=λacc a=>if dg n a.n=true then acc++[a] else acc) (I:=λi acc=>acc.length<=i) (S:=λacc i=>[sl hrow acc,.i64 (acc.length:Int),.i64 (i:Int)]) (fin:=λacc=>some [CS ⟨c.next,acc⟩]) (x:=[]) (aB _) (λi a acc _ hI=>?_) (λi a acc self ha hI=>?_) (λacc self hI=>?_) (by omega)).1.trans ?_
 .grind
 .have hi:=aO ha;have ap:=eF (f:=hrow) (l:=acc) (k:=[a]) (bytes:=24) (z:=3) (by simp;omega) fL;unfold Jz;simp only[ay,fM,EV,ah,aa,bj hi,aT ha (fL _),aM ha,Fr,kY];by_cases c1:a.n=n
  .have:dg n n=false:=by simp[dg]
   simp only[c1,this,aA,aF,au,aw,EV,Jy,up1 (show i<1000000000 by omega)]
  .have:dg n a.n=true:=by unfold dg;simp[c1]
   simp only[c1,this,be,bA,az,ay,fM,EV,aT ha (fL _),aM ha,kY,bs,su,ap,ah,Jy,up1 (show i<1000000000 by omega)]
 .unfold Jz;simp only[ay,fM,EV,ah,aa,bK,Si,nN,bI,ag]
 .simp only[uL,aI]
def GY {W:Nat}{hp:List Evt}{i k:Nat}{e p:Evt}(he:hp[i]?=some e)(hp':hp[k]?=some p)(hg:∀x∈hp,GoodE W x):∀x∈fF hp i k e p,GoodE W x:=λx hx=>hg x ((qr he hp').mem_iff.1 hx)
def vz {hp:List Evt}{i k:Nat}{e p:Evt}:(fF hp i k e p).length=hp.length:=by unfold fF;rw[aP,aP]
def xc {wh:List Int}{i k:Nat}{e p:Evt}:(iL wh i k e p).length=wh.length:=by unfold iL;rw[aP,aP]
def GZ {N:Nat}{f0 f1 f2:JT}{z:Evt}{e0 e1 e2 e3 e4 e5 e6 e7 e8 e9 e10 e11 e12 e13 e14 e16 e17 e18 e19 e20 e21 e22 e24 e25 e26 e27 e28 e29 e30 e31 e32 e33:PV}{n W:Nat}(hn:n<=1000):∀(r i m:Nat) (hp:List Evt) (wh:List Int),i<=r->r<m->i<n->hp.length=n->wh.length=W->(∀x∈hp,GoodE W x)->
  dl (bx D) N vL [f0,f1,f2] [e0,e1,e2,e3,e4,e5,e6,e7,e8,e9,e10,e11,e12,e13,e14,.i64 (W:Int),e16,e17,e18,e19,e20,e21,e22,.i64 (n:Int),e24,e25,e26,e27,e28,e29,e30,e31,e32,e33] m [.i64 (i:Int),sl bV (hp++[z]),sl I1 wh]=f2 [.i64 ((upS r hp wh i).2.2:Int),sl bV ((upS r hp wh i).1++[z]),sl I1 (upS r hp wh i).2.1]
 |0,i,m,hp,wh,hi,hm,hiH,hl,hw,hg=>by
  obtain⟨m,rfl⟩:∃m',m=m'+1:=⟨m-1,by omega⟩;have:i=0:=by omega
  subst this;rw[bu];unfold vL upS;simp only[EV,aa];rw[ac (by omega)]
 |r+1,i,m,hp,wh,hi,hm,hiH,hl,hw,hg=>by
  obtain⟨m,rfl⟩:∃m',m=m'+1:=⟨m-1,by omega⟩;obtain⟨e,he⟩:∃e,hp[i]?=some e:=⟨hp[i]'(by omega),ai _⟩;obtain⟨p,hp'⟩:∃p,hp[(i-1)/2]?=some p:=⟨hp[(i-1)/2]'(by omega),ai _⟩;have E:upS (r+1) hp wh i=if 0<i/\ evLess e p=true then upS r (fF hp i ((i-1)/2) e p) (iL wh i ((i-1)/2) e p) ((i-1)/2) else(hp,wh,i):=by rw[upS,he,hp']
  rw[E,bu];by_cases h0:0<i
  rotate_left
  .rw[ac (λh=>h0 h.1)];unfold vL;simp only[EV,aa,iy];rw[ac (by omega)]
  .obtain⟨p64,prk,jp,pj,pW⟩:=hg p (ax hp');obtain⟨e64,erk,je,ej,eW⟩:=hg e (ax he);have ih:=GZ (N:=N) (f0:=f0) (f1:=f1) (f2:=f2) (z:=z) (e0:=e0) (e1:=e1) (e2:=e2) (e3:=e3) (e4:=e4) (e5:=e5) (e6:=e6) (e7:=e7) (e8:=e8) (e9:=e9) (e10:=e10) (e11:=e11) (e12:=e12) (e13:=e13) (e14:=e14) (e16:=e16) (e17:=e17) (e18:=e18) (e19:=e19) (e20:=e20) (e21:=e21) (e22:=e22) (e24:=e24) (e25:=e25) (e26:=e26) (e27:=e27) (e28:=e28) (e29:=e29) (e30:=e30) (e31:=e31) (e32:=e32) (e33:=e33) (n:=n) (W:=W) hn r ((i-1)/2) m (fF hp i ((i-1)/2) e p) (iL wh i ((i-1)/2) e p) (by omega) (by omega) (by omega) (by rw[vz];exact hl) (by rw[xc];exact hw) (GY he hp' hg);have cm:=phi (Gf (x:=e) (y:=p) e64 p64);have q2:=DC h0 (by omega);have s1:=uj (hp:=hp) (z:=z) (i:=i) (by omega) p;have s2:=uj (hp:=hp.set i p) (z:=z) (i:=(i-1)/2) (by rw[aP];omega) e;have a1:(fF hp i ((i-1)/2) e p)[i]?=some p:=by rw[swp_get he hp',ac (by omega),ad rfl]
   have a2:(fF hp i ((i-1)/2) e p)[(i-1)/2]?=some e:=by rw[swp_get he hp',ad rfl]
   have s3:=fy (l:=wh) (i:=jp) (by omega) (i:Int);have s4:=fy (l:=wh.set jp (i:Int)) (i:=je) (by rw[aP];omega) (((i-1)/2:Nat):Int);have eW':iL wh i ((i-1)/2) e p=(wh.set jp (i:Int)).set je (((i-1)/2:Nat):Int):=by unfold iL;rw[pj,ej];rfl
   have g1:=km (z:=z) hp';have g2:=km (z:=z) he;have g3:=km (z:=z) a1;have g4:=km (z:=z) a2;have s2:RF.ev (.set 0) [sl bV (hp.set i p++[z]),.v (.int .i64 (((i-1)/2:Nat):Int)),EP e]=some (sl bV (fF hp i ((i-1)/2) e p++[z])):=s2;generalize hkk:vL=kk at ih;subst hkk;unfold vL;simp only[EV,aa,iy];rw[ad (by omega)];simp only[EV,oe,q2,ixM hiH,ixM (show(i-1)/2<n by omega),aM g1,aM g2,gS,ay,cm]
   by_cases hc:evLess e p=true
   .rw[ad hc,ad ⟨h0,hc⟩];simp only[EV,oe,q2,ixM hiH,ixM (show(i-1)/2<n by omega),aM g1,aM g2,gS,ay,fx,s1,s2,aM g3,aM g4,Bp,pj,ej,ixM pW,ixM eW,s3,s4]
    rw[eW'] at ih|-;exact ih
   .rw[ac hc,ac (λq=>hc q.2)]
def BG {N:Nat}{f0 f1:JT}{z:Evt}{e0 e1 e2 e3 e4 e5 e6 e7 e8 e9 e10 e11 e12 e13 e14 e16 e17 e18 e19 e20 e21 e22 e24 e25 e26 e27 e28 e29 e30 e31 e32 e33 e34 e35 e36:PV}{n W:Nat}(hn:n<=1000):∀(r i m:Nat) (hp:List Evt) (wh:List Int),n<=r+i->r<m->i<n->hp.length=n->wh.length=W->(∀x∈hp,GoodE W x)->
  dl (bx D) N Cp [f0,f1] [e0,e1,e2,e3,e4,e5,e6,e7,e8,e9,e10,e11,e12,e13,e14,.i64 (W:Int),e16,e17,e18,e19,e20,e21,e22,.i64 (n:Int),e24,e25,e26,e27,e28,e29,e30,e31,e32,e33,e34,e35,e36] m [.i64 (i:Int),sl bV (hp++[z]),sl I1 wh]=f1 [sl bV ((eS r hp wh i).1++[z]),sl I1 (eS r hp wh i).2]
 |0,i,m,hp,wh,hi,hm,hiH,hl,hw,hg=>by omega
 |r+1,i,m,hp,wh,hi,hm,hiH,hl,hw,hg=>by
  obtain⟨m,rfl⟩:∃m',m=m'+1:=⟨m-1,by omega⟩;obtain⟨e,he⟩:∃e,hp[i]?=some e:=⟨hp[i]'(by omega),ai _⟩;obtain⟨e64,erk,je,ej,eW⟩:=hg e (ax he);have ih:=λ(k:Nat) (p:Evt) (hk:hp[k]?=some p) (hki:i<k)=>BG (N:=N) (f0:=f0) (f1:=f1) (z:=z) (e0:=e0) (e1:=e1) (e2:=e2) (e3:=e3) (e4:=e4) (e5:=e5) (e6:=e6) (e7:=e7) (e8:=e8) (e9:=e9) (e10:=e10) (e11:=e11) (e12:=e12) (e13:=e13) (e14:=e14) (e16:=e16) (e17:=e17) (e18:=e18) (e19:=e19) (e20:=e20) (e21:=e21) (e22:=e22) (e24:=e24) (e25:=e25) (e26:=e26) (e27:=e27) (e28:=e28) (e29:=e29) (e30:=e30) (e31:=e31) (e32:=e32) (e33:=e33) (e34:=e34) (e35:=e35) (e36:=e36) (n:=n) (W:=W) hn r k m (fF hp i k e p) (iL wh i k e p) (by omega) (by omega) (by have:=bo hk;omega) (by rw[vz];exact hl) (by rw[xc];exact hw) (GY he hk hg);have ko:=tA hp i;rw[bu];have fin:∀(a b c d d' d'':PV) (kk:Nat),kid hp i=kk->kk<n->den (bx D) N JC [f0,f1,λvs=>dl (bx D) N Cp [f0,f1] [e0,e1,e2,e3,e4,e5,e6,e7,e8,e9,e10,e11,e12,e13,e14,.i64 (W:Int),e16,e17,e18,e19,e20,e21,e22,.i64 (n:Int),e24,e25,e26,e27,e28,e29,e30,e31,e32,e33,e34,e35,e36] m vs] ([e0,e1,e2,e3,e4,e5,e6,e7,e8,e9,e10,e11,e12,e13,e14,.i64 (W:Int),e16,e17,e18,e19,e20,e21,e22,.i64 (n:Int),e24,e25,e26,e27,e28,e29,e30,e31,e32,e33,e34,e35,e36]++[.i64 (i:Int),sl bV (hp++[z]),sl I1 wh,a,b,c,d,d',d'',.i64 (kk:Int)])=f1 [sl bV ((eS (r+1) hp wh i).1++[z]),sl I1 (eS (r+1) hp wh i).2]:=λa b c d d' d'' kk hkk hk=>by
   subst hkk;obtain⟨p,hp'⟩:∃p,hp[kid hp i]?=some p:=⟨hp[kid hp i]'(by omega),ai _⟩;obtain⟨p64,prk,jp,pj,pW⟩:=hg p (ax hp');have E:eS (r+1) hp wh i=if evLess p e=true then eS r (fF hp i (kid hp i) e p) (iL wh i (kid hp i) e p) (kid hp i) else(hp,wh):=by rw[eS,he,hp']
   have ih':=ih _ p hp' (by omega);have cm:=phi (Gf (x:=p) (y:=e) p64 e64);have s1:=uj (hp:=hp) (z:=z) (i:=i) (by omega) p;have s2:RF.ev (.set 0) [sl bV (hp.set i p++[z]),.v (.int .i64 (kid hp i:Int)),EP e]=some (sl bV (fF hp i (kid hp i) e p++[z])):=uj (hp:=hp.set i p) (z:=z) (i:=kid hp i) (by rw[aP];omega) e;have a1:(fF hp i (kid hp i) e p)[i]?=some p:=by rw[swp_get he hp',ac (by omega),ad rfl]
   have a2:(fF hp i (kid hp i) e p)[kid hp i]?=some e:=by rw[swp_get he hp',ad rfl]
   have s3:=fy (l:=wh) (i:=jp) (by omega) (i:Int);have s4:=fy (l:=wh.set jp (i:Int)) (i:=je) (by rw[aP];omega) (kid hp i:Int);have eW':iL wh i (kid hp i) e p=(wh.set jp (i:Int)).set je (kid hp i:Int):=by unfold iL;rw[pj,ej];rfl
   have g1:=km (z:=z) hp';have g2:=km (z:=z) he;have g3:=km (z:=z) a1;have g4:=km (z:=z) a2;rw[E];unfold JC;simp[EV,ixM hk,ixM hiH,aM g1,aM g2,gS,cm];by_cases hc:evLess p e=true
   .rw[ad hc];simp only[hc,aF,au,aw,EV,ixM hk,ixM hiH,aM g1,aM g2,gS,ay,fx,s1,s2,aM g3,aM g4,Bp,pj,ej,ixM pW,ixM eW,s3,s4];rw[eW'] at ih'|-;exact ih'
   .rw[ac hc];have hc:evLess p e=false:=by simpa using hc
    simp only[hc,bA,az,EV]
  simp only[aL,aI] at fin;have w1:IntKind.i64.wrap (2*(i:Int))=((2*i:Nat):Int):=by rw[cU (by omega) (by omega)];omega
  unfold Cp;simp only[EV,aa,w1,up1 (show 2*i<1000000000 by omega),up1 (show 2*i+1<1000000000 by omega),ge_iff_le]
  by_cases h1:2*i+1<n
  .rw[ac (by omega)];obtain⟨p,hp'⟩:∃e,hp[2*i+1]?=some e:=⟨hp[2*i+1]'(by omega),ai _⟩;by_cases h2:2*i+1+1<n
   .rw[ad (by omega)];obtain⟨g,hg'⟩:∃e,hp[2*i+1+1]?=some e:=⟨hp[2*i+1+1]'(by omega),ai _⟩;have p1:=hg p (ax hp');have b1:=hg g (ax hg');have cm:=phi (Gf (x:=g) (y:=p) b1.t64 p1.t64);have kE:kid hp i=if evLess g p=true then 2*i+2 else 2*i+1:=by unfold kid;rw[hp',show hp[2*i+2]?=some g from hg']
    simp only[EV,up1 (show 2*i+1<1000000000 by omega),ixM h1,ixM h2,aM (km (z:=z) hp'),aM (km (z:=z) hg'),gS,ay,cm]
    unfold JD;simp only[EV,aa,up1 (show 2*i+1<1000000000 by omega)]
    by_cases hc:evLess g p=true
    .rw[ad hc];rw[ad hc] at kE;exact fin _ _ _ _ _ _ (2*i+1+1) kE h2
    .rw[ac hc];rw[ac hc] at kE;exact fin _ _ _ _ _ _ (2*i+1) kE h1
   .rw[ac (by omega)];unfold JD;simp only[EV,au,aw];exact fin _ _ _ _ _ _ (2*i+1) (by unfold kid;rw[hp',show hp[2*i+2]?=none from bD (by omega)]) h1
  .rw[ad (by omega)];have:eS (r+1) hp wh i=(hp,wh):=by rw[eS,he,bD (by omega)]
   rw[this]
def agz {hp:List Evt}{z:Evt}(p:Evt):RF.ev (.set 0) [sl bV (hp++[z]),.v (.int .i64 (hp.length:Int)),EP p]=some (sl bV (hp++[p])):=by
 rw[zQ (by simp),pa _ _ (aB _)];simp
def G0:∀(r:Nat) (hp:List Evt) (wh:List Int) (i:Nat),i<hp.length->(upS r hp wh i).1.length=hp.length/\(upS r hp wh i).2.1.length=wh.length/\(upS r hp wh i).2.2<=i/\∀x∈(upS r hp wh i).1,x∈hp
 |0,hp,wh,i,_=>⟨rfl,rfl,aB _,λ_ h=>h⟩
 |r+1,hp,wh,i,hi=>by
  unfold upS;split
  .rename_i e p he hp';split
   .obtain⟨q1,q2,q3,q4⟩:=G0 r (fF hp i ((i-1)/2) e p) (iL wh i ((i-1)/2) e p) ((i-1)/2) (by rw[vz];omega);exact⟨by rw[q1,vz],by rw[q2,xc],by omega,λx hx=>(qr he hp').mem_iff.1 (q4 x hx)⟩
   .exact⟨rfl,rfl,aB _,λ_ h=>h⟩
  .exact⟨rfl,rfl,aB _,λ_ h=>h⟩
def EL:∀(r:Nat) (hp:List Evt) (wh:List Int) (i:Nat),(eS r hp wh i).1.length=hp.length/\(eS r hp wh i).2.length=wh.length
 |0,hp,wh,i=>⟨rfl,rfl⟩
 |r+1,hp,wh,i=>by
  unfold eS;split
  .rename_i e p he hp';split
   .obtain⟨q1,q2⟩:=EL r (fF hp i (kid hp i) e p) (iL wh i (kid hp i) e p) (kid hp i);exact⟨by rw[q1,vz],by rw[q2,xc]⟩
   .exact⟨rfl,rfl⟩
  .exact⟨rfl,rfl⟩
open Classical in
def ajS {a:Agenda}(h:eR a){i j:Nat}{u:Int}{e:Evt}(he:a.heap[i]?=some e)(hh:e.h=⟨(j:Int),u⟩)(h64:∀e∈a.heap,aS e.time):Ans D 376 [AG a,HD ⟨j,u⟩] [AG (pZ a i j)]:=by
 have hs:=dN.1 h.1;have hP:=pB hs h.2.1;have hsm:=BB h;have n2:=hs.n2;have hl:=h.2.1.2.1;have hi:=bo he;obtain⟨j',u',e1,e2,e3,e4⟩:=hP.at_ i e he;rw[hh] at e1;simp only[Hnd.mk.injEq] at e1;have:j'=j:=by omega
 subst this;have hw:=bo e4;obtain⟨hp,f,hq⟩:∃hp f,a.heap=hp++[f]:=by
  rcases kU a.heap with h|⟨hp,f,h⟩
  .grind
  .grind
 have hn:a.heap.length-1=hp.length:=by rw[hq];simp
 have hn':a.heap.length=hp.length+1:=by rw[hq];simp
 have hlast:a.heap[hp.length]?=some f:=by rw[hq];simp
 have good:∀x∈a.heap,GoodE a.w.length x:=λx hx'=>by
  obtain⟨k,hk⟩:=aK.1 hx';obtain⟨j,v,g1,_,_,g4⟩:=hP.at_ k x hk;exact⟨h64 x hx',(h.2.2.1 x hx').1,j,by rw[g1],bo g4⟩
 have hq':sl bV a.heap=sl bV (hp++[f]):=by rw[hq]
 have c4:=phi (ajF (u:=u) hs e2);have bn:RF.ev .bnd [.v (.int .i64 (hp.length:Int)),.v (.int .i64 ((hp.length+1:Nat):Int))]=some (.i64 (hp.length:Int)):=by rw[kq,ad ⟨by omega,by omega⟩]
 have dn:=wR (n:=hp.length) (by omega);have hls:∀(l:List Int),l.length=a.w.length->RF.ev .sub [sl I1 l,.v (.int .i64 0),.v (.int .i64 (a.w.length:Int))]=some (sl I1 l):=λl hl=>by
  have:=bI (f:=I1) (l:=l);rw[hl] at this;exact this
 have t1:=bI (f:=I1) (l:=a.s.u);have t2:=bI (f:=B1) (l:=a.s.v);have t3:=bI (f:=I1) (l:=a.s.f);have fin:∀(z:Evt) (h0:List Evt) (w0:List Int) (b:Bool) (A:Agenda),h0.length=hp.length->w0.length=a.w.length->(∀x∈h0,GoodE a.w.length x)->b=(!decide ((i:Int)=(hp.length:Int)))->
   A=(if i=hp.length then⟨i8 a.s j',h0,w0.set j' (-1)⟩ else⟨i8 a.s j',(eS hp.length (upS (i+1) h0 (w0.set j' (-1)) i).1 (upS (i+1) h0 (w0.set j' (-1)) i).2.1 (upS (i+1) h0 (w0.set j' (-1)) i).2.2).1,(eS hp.length (upS (i+1) h0 (w0.set j' (-1)) i).1 (upS (i+1) h0 (w0.set j' (-1)) i).2.1 (upS (i+1) h0 (w0.set j' (-1)) i).2.2).2⟩)->
   den (bx D) 1001 DR [] [AG a,HD ⟨j',u⟩,AG a,HD ⟨j',u⟩,AG a,AG a,sl I1 a.s.u,.i64 (a.s.u.length:Int),sl B1 a.s.v,.i64 (a.s.v.length:Int),sl I1 a.s.f,.i64 (a.s.f.length:Int),sl bV (hp++[f]),.i64 ((hp.length+1:Nat):Int),sl I1 a.w,.i64 (a.w.length:Int),.i64 (j':Int),.i64 (j':Int),.i64 (i:Int),.i64 (hp.length:Int),.bool b,sl bV (h0++[z]),sl I1 w0]=some [AG A]:=λz h0 w0 b A l0 lw hg hb hA=>by
  have s3:=fy (l:=w0) (i:=j') (by omega) (-1);unfold DR;simp only[EV,ay,bn,pw,ixM hw,s3,t1,t2,t3,Fv,c4,jy];by_cases hil:i=hp.length
  .rw[ad hil] at hA;have:(!decide ((i:Int)=(hp.length:Int)))=false:=by simp[hil]
   simp only[this,EV,au,aw];have s5:=NE (hp:=h0) (z:=z);rw[l0] at s5;unfold JB;simp only[EV,ay,pSL,s5,hls _ (show(w0.set j' (-1)).length=a.w.length by rw[aP];exact lw),vt,hA]
  .rw[ac hil] at hA;have hil':i<hp.length:=by omega
   have:(!decide ((i:Int)=(hp.length:Int)))=true:=by simp;omega
   simp only[this,EV,az];obtain⟨u1,u2,u3,u4⟩:=G0 (i+1) h0 (w0.set j' (-1)) i (by omega);rw[aP] at u2;obtain⟨hU,wU,iU,hUe⟩:∃hU wU iU,upS (i+1) h0 (w0.set j' (-1)) i=(hU,wU,iU):=⟨_,_,_,rfl⟩;rw[hUe] at u1 u2 u3 u4 hA;simp only at u1 u2 u3 u4 hA;obtain⟨hV,wV,hVe⟩:∃hV wV,eS hp.length hU wU iU=(hV,wV):=⟨_,_,rfl⟩;obtain⟨v1,v2⟩:=EL hp.length hU wU iU;rw[hVe] at v1 v2 hA;simp only at v1 v2 hA;have s5:=NE (hp:=hV) (z:=z);rw[v1,u1,l0] at s5;have main:∀(f0 f1:JT) (E:List PV),True:=λ_ _ _=>trivial;refine o7 ?_ ?_
   all_goals
    simp only[EV];refine(GZ (N:=1001) (z:=z) (n:=hp.length) (W:=a.w.length) (by omega) (i+1) i 1001 h0 (w0.set j' (-1)) (by omega) (by omega) hil' l0 (by rw[aP];exact lw) hg).trans ?_;rw[hUe]
    first|unfold Sl|unfold L6
    simp only[EV];refine(BG (N:=1001) (z:=z) (n:=hp.length) (W:=a.w.length) (by omega) hp.length iU 1001 hU wU (by omega) (by omega) (by omega) (u1.trans l0) (u2.trans lw) (λx hx=>hg x (u4 x hx))).trans ?_;rw[hVe];unfold Sk;simp only[EV];unfold JB;simp only[EV,ay,pSL,s5,hls _ (v2.trans (u2.trans lw)),vt,hA]
 have hR:pZ a i j'=if i=hp.length then⟨i8 a.s j',hp,a.w.set j' (-1)⟩ else
   ⟨i8 a.s j',(eS hp.length (upS (i+1) (hp.set i f) ((a.w.set j' (-1)).set f.h.i.toNat (i:Int)) i).1 (upS (i+1) (hp.set i f) ((a.w.set j' (-1)).set f.h.i.toNat (i:Int)) i).2.1 (upS (i+1) (hp.set i f) ((a.w.set j' (-1)).set f.h.i.toNat (i:Int)) i).2.2).1,(eS hp.length (upS (i+1) (hp.set i f) ((a.w.set j' (-1)).set f.h.i.toNat (i:Int)) i).1 (upS (i+1) (hp.set i f) ((a.w.set j' (-1)).set f.h.i.toNat (i:Int)) i).2.1 (upS (i+1) (hp.set i f) ((a.w.set j' (-1)).set f.h.i.toNat (i:Int)) i).2.2).2⟩:=by
  unfold pZ;rw[hn,hlast];simp only;rw[show a.heap.take hp.length=hp by rw[hq];simp]
 refine an ⟨1001,?_⟩;unfold aep;simp only[ay,jk,qn,phi (Uo hsm),cAG0,cAG1,cAG2,fV,lX,pw,EV,ah,hn',dn,ixM hw,aM e4,cZ];by_cases hil:i=hp.length
 .have:(!decide ((i:Int)=(hp.length:Int)))=false:=by simp[hil]
  simp only[this,EV,au,aw];rw[hq'];refine fin f hp a.w false _ rfl rfl (λx hx=>good x (by rw[hq];simp[hx])) this.symm ?_;rw[hR,ad hil,ad hil]
 .have hil':i<hp.length:=by omega
  have:(!decide ((i:Int)=(hp.length:Int)))=true:=by simp;omega
  obtain⟨f64,frk,jf,fj,fW⟩:=good f (by rw[hq];simp);have hjf:jf≠j':=λq=>by
   subst q;obtain⟨jg,ug,g1,_,_,g4⟩:=hP.at_ _ f hlast;rw[g1] at fj;simp only at fj;have:jg=jf:=by omega
   subst this;rw[g4] at e4;simp only[bZ] at e4;omega
  have hei:hp[i]?=some e:=by rw[hq,aH hil'] at he;exact he
  have he':=km (z:=f) hei;have hf':(hp++[f])[hp.length]?=some f:=by simp
  have s1:=uj (hp:=hp) (z:=f) hil' f;have s2:=agz (hp:=hp.set i f) (z:=f) e;rw[aP] at s2;have a1:(hp.set i f++[e])[i]?=some f:=km (bv hil');have a2:(hp.set i f++[e])[hp.length]?=some e:=by simp
  have s3:=fy (l:=a.w) (i:=jf) fW (i:Int);have s4:=fy (l:=a.w.set jf (i:Int)) (i:=j') (by rw[aP];exact hw) (hp.length:Int);simp only[this,az];rw[hq'];simp only[EV,ay,ixM (show hp.length<hp.length+1 by omega),ixM (show i<hp.length+1 by omega),aM hf',aM he',gS,fx,s1,s2,aM a1,aM a2,Bp,fj,hh,ixM fW,ixM hw,s3,s4]
  refine fin e (hp.set i f) _ true _ aP (by rw[aP,aP]) (λx hx=>?_) this.symm ?_
  .rcases dQ hx with h1|h1
   .exact good x (by rw[hq];simp[h1])
   .rw[h1];exact good f (by rw[hq];simp)
  .rw[hR,ac hil,ac hil,kV,fj,aG,lM _ _ hjf]
def WC {l:List Due}{a b:Nat}(h:a<=b)(hb:b<=l.length):RF.ev (.tsub 3) [sl cp l,.v (.int .i64 (a:Int)),.v (.int .i64 (b:Int))]=some (sl cp ((l.drop a).take (b-a))):=by
 have ok:d8 3 (l.map cp)=true:=by
  cases l with
  |nil=>rfl
  |cons a k=>simp[d8,po]
 show(if _ then _ else _)=_
 simp_all
def aan {c:Clock}(h:bJ c)(h64:fb c)(n:Int):Ans D 290 [CL c,.i64 n] [CL (gJ c n)]:=by
 have hs:=LY h;have hcs:=ii h;have h4:=h.2.2.2.1;have hdl:=hcs.d;refine am ?_;unfold ade;simp only[ay,bX,phi (wQ hcs),oq,phi (ajR (c:=c.q) hcs.q n),ji,EV,dT,ah];cases hf:c.d.find? λd=>decide (d.n=n) with
 |none=>
  have hall:∀d∈c.d,d.n≠n:=λd hd=>by simpa using j5.1 hf d hd
  have eA:ku c n=c.a:=by unfold ku;rw[hf]
  have eD:(c.d.filter λd=>dg n d.n)=c.d:=fd.2 λd hd=>by unfold dg;simp[hall d hd]
  have ng:decide ((-1:Int)>=0)=false:=rfl;simp only[phi (agy (c:=c) hdl hall),EV,ng,au,aw,ay,lY,lZ,l5,iK,kf];unfold I7 gJ;rw[eA,eD];have q0:∀x:Certs,RF.ev (.cell 0) [CS x]=some (.i64 x.next):=λ_=>rfl;have q1:∀x:Certs,RF.ev (.cell 1) [CS x]=some (sl hrow x.l):=λ_=>rfl;simp only[ay,mN,mO,k8,q0,q1,FF,EV,BD];rfl
 |some d=>
  have hd:=ed hf;have hdn:d.n=n:=by simpa using j6 hf
  obtain⟨k,hk⟩:=aK.1 hd;obtain⟨m,j,u,e,w1,w2,w3,w4,w5,_⟩:=Dg h hd;have cP:=ajQ hs hdl hk;rw[hdn] at cP;have hkl:=bo hk;have eA:ku c n=pZ c.a m j:=by
   unfold ku;rw[hf];simp only;rw[w4];simp only[aG];rw[w1];simp only[cC,aG]
  have eD:c.d.take k++c.d.drop (k+1)=c.d.filter λd=>dg n d.n:=by
   rw[<-hdn,<-sU (nu:=λd:Due=>d.n) hs hk,pd]
  have c5:=phi (ajS h4 w2 w3 h64.2);rw[<-w4] at c5;have gp:decide ((k:Int)>=0)=true:=aq (by omega);have b1:=uP (show k<=c.d.length by omega)
  have b2:=uP (show k+1<=c.d.length by omega)
  have t1:=WC (l:=c.d) (a:=0) (b:=k) (by omega) (by omega);have t2:=WC (l:=c.d) (a:=k+1) (b:=c.d.length) (by omega) (by omega);rw[dz,Nat.sub_zero] at t1;rw[bi (by rw[bQ];omega)] at t2;have a1:RF.ev (.app 24 3) [.sl [],.v (.int .i64 0),sl cp (c.d.take k)]=some (sl cp (c.d.take k)):=iZ (l:=c.d.take k) (f:=cp) (bytes:=24) (z:=3) (by rw[aR];omega) po;have a2:=eF (f:=cp) (l:=c.d.take k) (k:=c.d.drop (k+1)) (bytes:=24) (z:=3) (by rw[aR,bQ];omega) po;rw[eD] at a2;have z0:(((0:Nat):Int))=0:=rfl;rw[z0] at t1;simp only[phi cP,EV,gp,az,ay,sP,dT,aT hk (po d),aM hk,Ft,c5,jk,b1,b2,t1,t2,a1,a2,up1 (show k<1000000000 by omega),ah,cAG0,cAG1,cAG2,fV,lX]
  unfold I7 gJ;rw[eA];have q0:∀x:Certs,RF.ev (.cell 0) [CS x]=some (.i64 x.next):=λ_=>rfl;have q1:∀x:Certs,RF.ev (.cell 1) [CS x]=some (sl hrow x.l):=λ_=>rfl;simp only[ay,mN,mO,k8,q0,q1,FF,EV,BD];rfl
def WD (e:Evt):RF.ev (.cell 2) [EP e]=some (.i64 e.n):=rfl
def agA (e:Evt):cM 0 2 (bV e)=some (R e.time):=rfl
def aao (e:Evt):RF.ev (.part 0 2) [EP e]=some (R e.time):=rfl
def agD (c:Clock):RF.ev (.part 2 9) [CL c]=some (.agg ((clC c).drop 2)):=rfl
def NF (c:Clock):RF.ev (.part 2 8) [CL c]=some (.agg (((clC c).drop 2).take 8)):=rfl
def aap (c:Clock)(t:Rt):RF.ev .agg [R t,.agg ((clC c).drop 2)]=some (CL (atC c t)):=rfl
def G1 (c:Clock)(t:Rt):RF.ev .agg [R t,.agg (((clC c).drop 2).take 8),sl cp c.d]=some (CL (atC c t)):=rfl
def ea (t:Rt):RF.ev (.shape 2) [R t]=some (R t):=rfl
def pRt (t:Rt):RF.ev (.part 0 2) [R t]=some (R t):=rfl
def fU (x:Crt):RF.ev (.shape 2) [CP x]=some (CP x):=rfl
def ajT (x:Crt):RF.ev (.part 0 2) [CP x]=some (CP x):=rfl
def E0:Evt:=⟨⟨0,0⟩,0,⟨0,0⟩⟩
def C0:Crt:=⟨0,0⟩
def CLz:PV:= .agg [.i64 0,.i64 0,.sl [],.i64 0,.sl [],.sl [],.sl [],.sl [],.sl [],.sl [],.sl []]
def WE:RF.ev .agg [.i64 0,.i64 0,.i64 0,.i64 0,.i64 0]=some (EP E0):=rfl
def WG:RF.ev .agg [.i64 0,.i64 0]=some (CP C0):=rfl
def sV:RF.ev .agg [.i64 0,.i64 0,.sl [],.i64 0,.sl [],.sl [],.sl [],.sl [],.sl [],.sl [],.sl []]=some CLz:=rfl
open Classical in
def ajU {a:Agenda}(h:eR a)(h64:∀e∈a.heap,aS e.time):Ans D 364 [AG a] (match a.heap[0]? with|some e=>[EP e,.i64 0]|none=>[EP E0,.i64 42]):=by
 have m1:=phi (Gl (vu h) h64);rw[aq h] at m1;have e0:okE true=0:=rfl;rw[e0] at m1;refine am ?_;unfold aec;simp only[jk,m1,fV,EV,ah,aA,aF,au,aw,aa];cases hh:a.heap[0]? with
 |none=>
  have:a.heap.length=0:=by rw[fi] at hh;omega
  rw[ad (by omega)];simp[EV,WE]
 |some e=>
  have hl:=bo hh;rw[ac (by omega)];have z0:(.i64 0:PV)= .v (.int .i64 ((0:Nat):Int)):=rfl;simp[EV,fV,z0,aT hh (j8 e),aM hh,gS]
open Classical in
def Uz {c:Clock}(h:bJ c)(hn:aS c.n){t:Rt}(hr:rok t=true)(ht:aS t)(hp:crs c.n t<=0):Ans D 282 [CL c,R t] [.bool (gM c t),.i64 0]:=by
 have h4:=h.2.2.2.1;have h64:=nh h hn;have m1:=phi (wK h64 (qL h));rw[aq h] at m1;have m2:=phi (c43 ht);rw[hr] at m2;have e0:okE true=0:=rfl;rw[e0] at m1 m2;have mm:RF.ev (.mm true) [.v (.int .i64 0),.v (.int .i64 0)]=some (.v (.int .i64 0)):=rfl;have m3:=phi (rD ht hn);rw[hr,h.1] at m3;have ng:¬sgn (crs t c.n)<0:=by
  have:=eJ t c.n;unfold sgn
  grind
 have m4:=phi (ajU h4 h64.2);refine am ?_;unfold ac5;simp only[ay,bX,ea,m1,m2,mm,EV,aA,aF,au,aw,eZ,m3,gH,az,ng,be,sP,m4];cases hh:c.a.heap[0]? with
 |none=>
  unfold gM;rw[hh];simp only[EV,ay,fx];rfl
 |some e=>
  have hm:=ax hh;have m5:=phi (rD (h64.2 e hm) ht);rw[(h4.2.2.1 e hm).1,hr] at m5;have le:(sgn (crs e.time t)<=0)=(crs e.time t<=0):=by
   unfold sgn;refine propext ⟨λq=>?_,λq=>?_⟩
   .split at q
    .omega
    .split at q<;>omega
   .split
    .omega
    .rw[ac (by omega)];omega
  unfold gM;rw[hh];simp only[EV,ay,fx,aA,aF,au,aw,aao,m5,gH,az,le]
def AU {c:Clock}(h64:fb c){t:Rt}(ht:aS t):Ans D 203 [CL c,R t] [.bool (gM c t)]:=by
 refine am ?_;unfold acd;simp only[ay,bX,ea,iK,EV,ah,aa,iy];cases hh:c.a.heap[0]? with
 |none=>
  have:c.a.heap.length=0:=by rw[fi] at hh;omega
  rw[ac (by omega)];unfold gM Ik;rw[hh];rfl
 |some e=>
  have z0:(.i64 0:PV)= .v (.int .i64 ((0:Nat):Int)):=rfl;have le:(sgn (crs e.time t)<=0)=(crs e.time t<=0):=by
   unfold sgn
   grind
  unfold gM Ik;simp only[EV,ay,iK,z0,aT hh (j8 e),aM hh,agA,phi (Do (h64.2 e (ax hh)) ht)]
  grind
def ajV {c:Clock}(h:bJ c)(hn:aS c.n){i:Nat}{x:Held}(hx:c.q.l[i]?=some x):Ans D 259 [CL c,.i64 x.n] [CL (gJ c x.n),.i64 0]:=by
 classical
 have h64:=nh h hn;have m1:=phi (wK h64 (qL h));rw[aq h] at m1;have e0:okE true=0:=rfl;rw[e0] at m1;refine am ?_;unfold acN;simp[bX,m1,EV,phi (aal h h64 hx),fU]
def NG {c:Clock}(h:bJ c)(hn:aS c.n){t:Rt}(hr:rok t=true)(ht:aS t)(hp:crs c.n t<=0){e:Evt}(he:c.a.heap[0]?=some e)(hw:gM c t=true){i:Nat}{x:Held}(hx:c.q.l[i]?=some x)(hxe:x.n=e.n):Ans D 196 [CL c,R t] [CL (dw c e),EP e,CP x.c,.i64 0]:=by
 have h64:=nh h hn;have m1:=phi (Uz h hn hr ht hp);rw[hw] at m1;have m2:=phi (aal h h64 hx);rw[hxe] at m2;have t1:=aT (z:=5) he (j8 e);have t2:=aM (f:=bV) (o:=0) (n:=5) he;simp at t1 t2;refine am ?_;unfold UJ;simp only[ay,bX,ea,m1,EV,aA,aF,az];unfold Ig;unfold If;simp[EV,iK,t1,t2,gS,WD,m2,agD,aap];rfl
def FG {c:Clock}(h:bJ c)(hn:aS c.n){t:Rt}(hr:rok t=true)(ht:aS t)(hp:crs c.n t<=0)(hw:gM c t=false):Ans D 196 [CL c,R t] [CLz,EP E0,CP C0,.i64 6]:=by
 have m1:=phi (Uz h hn hr ht hp);rw[hw] at m1;refine am ?_;unfold UJ;simp[bX,ea,m1,EV];unfold Ig;unfold If;have g:(!decide ((6:Int)=0))=true:=rfl;simp[EV,sV,WE,WG]
def NH {c:Clock}(h:bJ c)(hn:aS c.n){e:Evt}(he:c.a.heap[0]?=some e){i:Nat}{x:Held}(hx:c.q.l[i]?=some x)(hxe:x.n=e.n):Ans D 204 [CL c] [CL (dw c e),EP e,CP x.c]:=by
 have h64:=nh h hn;have m1:=phi (ajP h.2.2.1 hx);rw[hxe] at m1;have t1:=aT (z:=5) he (j8 e);have t2:=aM (f:=bV) (o:=0) (n:=5) he;simp at t1 t2;have cE:∀c:Clock,RF.ev .sub [sl cp c.d,.v (.int .i64 0),.v (.int .i64 (c.d.length:Int))]=some (sl cp c.d):=λc=>bI;refine am ?_;unfold ace;simp only[ay,EV,bX,iK,t1,t2,gS,oq,WD,m1,fO,aT hx (fL x),aM hx,Bo,fU,phi (aan h h64 e.n),dT,ah,aao,ajT,pRt,NF,cE,G1];rfl
def NI {c:Clock}(h:bJ c)(hn:aS c.n){t:Rt}(hr:rok t=true)(ht:aS t)(hp:crs c.n t<=0)(hw:gM c t=false):Ans D 195 [CL c,R t] [CL (atC c t),.i64 0]:=by
 have m1:=phi (Uz h hn hr ht hp);rw[hw] at m1;have cE:∀c:Clock,RF.ev .sub [sl cp c.d,.v (.int .i64 0),.v (.int .i64 (c.d.length:Int))]=some (sl cp c.d):=λc=>bI;refine am ?_;unfold ab8;simp[bX,ea,m1,EV];unfold Q7;unfold Q6;simp[EV,phi (GF (ii h)),bX,dT,pRt,NF,cE,G1]
def NJ {c:Clock}(h:CSm c){t:Rt}:Ans D 207 [CL c,R t] [CL (atC c t)]:=by
 have cE:∀c:Clock,RF.ev .sub [sl cp c.d,.v (.int .i64 0),.v (.int .i64 (c.d.length:Int))]=some (sl cp c.d):=λc=>bI;refine am ?_;unfold acf;simp[EV,bX,ea,phi (wQ h),dT,pRt,NF,cE,G1]
def CSz:PV:= .agg [.i64 0,.sl []]
def AGz:PV:= .agg [.sl [],.sl [],.sl [],.sl [],.sl []]
def BH:RF.ev .agg [.i64 0,.sl []]=some CSz:=rfl
def aaq:RF.ev .agg [.sl [],.sl [],.sl [],.sl [],.sl []]=some AGz:=rfl
def WH:RF.ev (.shape 2) [CSz]=some CSz:=rfl
def agE:RF.ev (.shape 5) [AGz]=some AGz:=rfl
def agF:RF.ev (.shape 3) [Fw]=some Fw:=rfl
def aar:RF.ev (.shape 2) [H0]=some H0:=rfl
open Classical in
def agG {c:Certs}{x:Crt}(h:dp c)(hx:x.ok)(hn:∀g∈c.l,g.c≠x)(hf:c.l.length=200\/c.next=1000000):Ans D 382 [CS c,CP x] [CSz,.i64 0,.i64 18]:=by
 have e0:okE true=0:=rfl;have m1:=phi (T3 c);rw[aq h,e0] at m1;have m2:=phi (TZ x);rw[aq hx] at m2;have m3:=phi (Gg (c:=c) (x:=x) (by have:=h.1;omega));rw[show(c.l.any λh=>decide (h.c=x))=false from by rw[dZ];intro g hg;simpa using hn g hg] at m3
 refine am ?_;unfold UR;simp[ji,j9,m1,m2,m3,fM,EV];by_cases h1:(c.l.length:Int)=200
 .rw[ad h1];simp[EV,ay,BH]
 .rw[ac h1];have h2:c.next=1000000:=hf.resolve_left (by omega);simp only[EV,ay,nN,h2,BH,aA,az]
open Classical in
def agH {c:Certs}{x:Crt}(h:dp c)(hx:x.ok)(hn:∀g∈c.l,g.c≠x)(hf:c.l.length=200\/c.next=1000000):Ans D 352 [CS c,CP x] [CSz,.i64 0,.i64 18]:=by
 have hl:=h.1;have e0:okE true=0:=rfl;have m1:=phi (Nc (c:=c) (by omega));rw[aq h,e0] at m1;have m2:=phi (T2 x);rw[aq hx] at m2;refine an ⟨1001,?_⟩;unfold UP;simp only[ay,ji,j9,m1,m2,fM,EV,ah,aA,aF,au,aw];refine(cL (m:=1001) (l:=c.l) (p:=λg=>!decide (g.c=x)) (st:=λi=>[.i64 (i:Int)]) (r:=none) (fin:=some [CSz,.i64 0,.i64 18]) (λi g self hg _=>?_) (λhall self=>?_) (by omega)).trans ?_
 .have hne:¬g.c=x:=hn g (ax hg);unfold yM;simp only[ay,fM,aT hg (fL _),aM hg,kY,pHP,wH,EV,aa,bj (aO hg),up1 (show i<1000000000 by have:=aO hg;omega),hne,be,bA,au,az,aw]
 .unfold yM;simp only[EV,aa,bK];unfold Jp;have g0:decide ((-1:Int)>=0)=false:=rfl;simp only[EV,g0,au,aw,ay,fM,ah,aa];by_cases h1:(c.l.length:Int)=200
  .rw[ad h1];simp only[EV,ay,BH]
  .rw[ac h1];have h2:c.next=1000000:=hf.resolve_left (by omega);simp only[EV,ay,nN,h2,BH,aA,az]
 .rw[ad (by rw[aV];intro g hg;simpa using hn g hg)]
open Classical in
def agI {s:Slots}(h:SFine s)(ho:mn s=false):Ans D 408 [SL s] [Fw,H0,.i64 18]:=by
 have hc:=phi (Nb (wT h));rw[aq (dN.2 h)] at hc;have e0:okE true=0:=rfl;rw[e0] at hc;refine am ?_;unfold UT;rcases free_last h with e|⟨fr,i,u,e,hu,h1,h2⟩
 .simp only[jy,hc,lV,e,EV,aA,aF,au,aw,Wo,Nr];rfl
 .rw[wS e hu] at ho;have hm:=(h.u i u hu).2.1;have hu':u=1000000:=by simp only[aj] at ho;omega
  subst hu';have hne:¬((s.f.length:Nat):Int)=0:=by rw[e];simp;omega
  have c4:=phi (ZV (fr:=fr) (i:=(i:Int)) (by omega));rw[<-e] at c4;simp only[ay,jy,hc,kZ,oo,lV,EV,ah,aA,aF,au,aw,hne,be,c4,aT hu (ct _),aM hu,cZ,az,Wo,Nr]
def agJ {a:Agenda}(h:eR a)(ho:mn a.s=false){t:Rt}{n:Int}(hx:rok t=true/\ 0<=n/\ n<=1000000)(hn:n∉a.heap.map (·.n))(ht:aS t)(h64:∀e∈a.heap,aS e.time):Ans D 349 [AG a,R t,.i64 n] [AGz,H0,.i64 18]:=by
 classical
 have hs:=dN.1 h.1;have n2:=hs.n2;have hl:=h.2.1.2.1;have m1:=phi (Gl (vu h) h64);rw[aq h] at m1;have m2:=phi (c43 ht);rw[hx.1] at m2;have e0:okE true=0:=rfl;rw[e0] at m1 m2;have mm:RF.ev (.mm true) [.v (.int .i64 0),.v (.int .i64 0)]=some (.v (.int .i64 0)):=rfl;refine an ⟨1001,?_⟩;unfold UO;simp only[ay,jk,ba,m1,m2,mm,fV,EV,ah,aA,aF,au,aw,aa,iy];rw[ac (by omega),ac (by omega)];refine(cL (m:=1001) (l:=a.heap) (p:=λg=>!decide (g.n=n)) (st:=λi=>[.i64 (i:Int)]) (r:=none) (fin:=some [AGz,H0,.i64 18]) (λk g self hg hall=>?_) (λhall self=>?_) (by omega)).trans ?_
 .have hne:¬g.n=n:=λe=>hn (bk.2 ⟨g,ax hg,e⟩);unfold vK;simp only[ay,fV,aT hg (j8 _),aM hg,gS,yg,EV,aa,bj (aO hg),up1 (show k<1000000000 by have:=aO hg;omega),hne,be,bA,au,az,aw]
 .unfold vK;simp only[EV,aa,bK];unfold Jo;have g0:decide ((-1:Int)>=0)=false:=rfl;have g1:(!decide ((18:Int)=0))=true:=rfl;simp only[EV,g0,g1,au,aw,az,ay,pAG,phi (agI hs ho),agF,aar,aaq,Nr]
 .rw[ad (by rw[aV];intro g hg;simpa usingλe=>hn (bk.2 ⟨g,hg,e⟩))]
open Classical in
def agK {c:Clock}{x:Crt}(h:CAd c x)(hn:aS c.n)(hf:p6 c x):Ans D 263 [CL c,CP x] [CLz,.i64 0,.i64 18]:=by
 have hc:=ii h.ok;have h64:=nh h.ok hn;have m1:=phi (wK h64 (qL h.ok));rw[aq h.ok,show okE true=0 from rfl] at m1
 have hF:=h.ok.2.1;have n8:decide ((0:Int)=8)=false:=rfl;have n18:decide ((18:Int)=8)=false:=rfl;have g1:(!decide ((18:Int)=0))=true:=rfl;have p1:=wZ hF h.j;have p2:=wZ hF h.h;refine am ?_;unfold Oz;by_cases h1:c.q.l.length=200\/c.q.next=1000000
 .simp only[ay,bX,j9,oq,fN,m1,phi (agH h.ok.2.2.1 h.cok h.new h1),WH,kb,ke,phi (Du hF _),DG,EV,aA,aF,au,aw,n18,ak p1,ak p2,g1,az,sV]
 .obtain⟨hf,ho⟩:=hf.resolve_left h1;have hlen:=h.ok.2.2.1.1;have hnx:=h.ok.2.2.1.2.2.1;have m2:=phi (Z2 h.ok.2.2.1 h.cok h.new (by omega) (by omega));have m3:=phi (T5 (x:=x) hF h64.1);rw[ad (LS hF h.ok.1 h.cok h.j h.h)] at m3;have hf':(cT c.n (bh c.p x.h) (bh c.p x.j)).2=true:=hf;rw[hf'] at m3;obtain⟨f1,f2⟩:=sD hF h64.1 h.ok.1 h.j h.h hf';have m4:=phi (agJ h.ok.2.2.2.1 ho (t:=(fT c x).1) (n:=c.q.next) ⟨f1,h.ok.2.2.1.2.1,by omega⟩ (sT h.ok) f2 h64.2);have m4:bx D 349 [AG c.a,R (cT c.n (bh c.p x.h) (bh c.p x.j)).1,.v (.int .i64 c.q.next)]=_:=m4;simp only[ay,bX,j9,ba,oq,fN,eZ,sP,m1,m2,ji,kb,ke,phi (Du hF _),DG,EV,aA,aF,au,aw,n8,ak p1,ak p2,phi (GF hc),dT,ah,m3,m4,agE,aar,g1,az,sV]
def agL {c:Clock}{x:Crt}(h:CAd c x)(hn:aS c.n)(hf:p6 c x):Ans D 294 [CL c,CP x] [CLz,.i64 0,.i64 18]:=by
 have hc:=ii h.ok;have h64:=nh h.ok hn;have hF:=h.ok.2.1;have g1:(!decide ((18:Int)=0))=true:=rfl;refine am ?_;unfold OD;by_cases h1:c.q.l.length=200\/c.q.next=1000000
 .simp[ay,bX,j9,oq,phi (agG h.ok.2.2.1 h.cok h.new h1),WH,EV,g1,sV]
 .obtain⟨hf,ho⟩:=hf.resolve_left h1;have hlen:=h.ok.2.2.1.1;have hnx:=h.ok.2.2.1.2.2.1;have m2:=phi (Z1 h.ok.2.2.1 h.cok h.new (by omega) (by omega));have m3:=phi (T4 (x:=x) hF h64.1 h.j h.h);have hf':(cT c.n (bh c.p x.h) (bh c.p x.j)).2=true:=hf;rw[hf'] at m3;have m5:=phi (ZW (dN.1 h.ok.2.2.2.1.1));rw[ho] at m5;simp only[ay,bX,j9,ba,oq,fN,eZ,Ww,m2,ji,EV,aA,aF,bA,au,aw,az,phi (wQ hc),dT,ah,m3,m5,sV]
def L0 {c:Clock}{x:Crt}(h:CAd c x)(hn:aS c.n)(hf:¬p6 c x):Ans D 263 [CL c,CP x] [CL (kx c x),.i64 c.q.next,.i64 0]/\ Ans D 294 [CL c,CP x] [CL (kx c x),.i64 c.q.next,.i64 0]:=by
 have ha:=h.add hf;have h64:=nh h.ok hn;obtain⟨a1,a2⟩:=Z5 ha h64;obtain⟨b1,b2⟩:=Z6 ha h64;unfold kx;by_cases h1:(fT c x).2=true
 .rw[ad h1];have ho:mn c.a.s=true:=by
   cases q:mn c.a.s with
   |true=>rfl
   |false=>exact absurd (.inr ⟨h1,q⟩) hf
  obtain⟨fr,i,u,e,hu,hm⟩:=Fj (dN.1 h.ok.2.2.2.1.1) ho;have e1:frL c=fr:=by unfold frL;rw[e];simp
  have e2:frI c=i:=by unfold frI;rw[e];simp
  grind
 .grind
def BI {es:List Crt}{l:List Held}{c:Clock}{k:Nat}{x:Held}(hx:l[k]?=some x):dropL es (l.take (k+1)) c=if x.c∈es then dropL es (l.take k) c else gJ (dropL es (l.take k) c) x.n:=by
 unfold dropL;rw[cA,hx,rQ];rfl
def UA {es:List Crt}{c:Clock}(h:bJ c){k:Nat}{x:Held}(hx:c.q.l[k]?=some x):∃i:Nat,(dropL es (c.q.l.take k) c).q.l[i]?=some x:=by
 have:=(f8 es (c.q.l.take k) c h).2.2;refine aK.1 ?_;rw[this,bF];refine⟨ax hx,?_⟩;rw[aV];intro y hy;obtain⟨j,hj⟩:=aK.1 hy;have hjk:j<k:=by have:=bo hj;rw[aR] at this;omega
 rw[db hjk] at hj;have:=yq (qW h.2.2.1) hjk hj hx;simp[dg];omega
def stC (c:Clock):List PV:=[.i64 c.n.num,.i64 c.n.den,sl row c.p,.i64 c.q.next,sl hrow c.q.l,sl I1 c.a.s.u,sl B1 c.a.s.v,sl I1 c.a.s.f,sl bV c.a.heap,sl I1 c.a.w,sl cp c.d]
def ul {es:List Crt}{c:Clock}(h:bJ c)(hn:aS c.n)(l:List Held):aS (dropL es l c).n:=by rw[(f8 es l c h).1.n];exact hn
def XZ {N:Nat}{f:JT}{c:Clock}{es:List Crt}(h:bJ c)(hn:aS c.n)(hE:es.length<=1000){e0 e1 e4 e5:PV}:dl (bx D) N yG [f] [e0,e1,sl crow es,CL c,e4,e5,.i64 (c.q.l.length:Int)] 1001 (stC c++[.i64 ((0:Nat):Int)])=f (stC (dropL es c.q.l c)):=by
 have hl:=h.2.2.1.1;have e:stC c=stC (dropL es (c.q.l.take 0) c):=rfl;rw[e];refine(eG (m:=1001) (n:=c.q.l.length) (st:=λk=>stC (dropL es (c.q.l.take k) c)++[.i64 (k:Int)]) (fin:=f (stC (dropL es c.q.l c))) (λk self hk=>?_) (λself=>?_) (by omega))
 .have hx:c.q.l[k]?=some c.q.l[k]:=ai _;generalize c.q.l[k]=x at hx;obtain⟨i,hi⟩:=UA (es:=es) h hx;have A:=(f8 es (c.q.l.take k) c h).1;have m:=phi (ajV A.ok (ul h hn _) hi);rw[BI hx];generalize dropL es (c.q.l.take k) c=a at A m;clear hi;unfold yG;simp only[stC,aL,aI,EV,aa,bj hk,ay,fO,aT hx (fL _),aM hx,kY,pHP,phi (yh x.c hE)];by_cases hm:x.c∈es
  .simp only[hm,aA,aF,au,aw,az,EV,Ib,up1 (show k<1000000000 by omega)]
  .simp only[hm,be,bA,az,aw,ay,dE,om,m,bX,mN,mO,k8,py,fO,lY,lZ,l5,iK,kf,dT,EV,Ib,up1 (show k<1000000000 by omega)]
 .have e:c.q.l.take c.q.l.length=c.q.l:=dX;rw[e];unfold yG;simp only[stC,aL,aI,EV,aa,bK]
def lx:RF.ev (.shape 11) [CLz]=some CLz:=rfl
def G2 {α:Type}{p:α->Bool}{l:List α}:(l.any p=true->∃i,l.findIdx? p=some i)/\(l.any p=false->l.findIdx? p=none):=by
 constructor
 .intro h;cases e:l.findIdx? p with
  |some i=>exact⟨i,rfl⟩
  |none=>
   rw[fh] at e;rw[oF] at h;obtain⟨x,hx,hp⟩:=h;rw[e x hx] at hp;cases hp
 .intro h;rw[fh];rw[dZ] at h;intro x hx;simpa using h x hx
open Classical in
def BJ {N:Nat}{f:JT}{l:List Pt}{es:List Crt}{e0 e1 e3 e4 e5 e6 e7 e8 e9 e10 e11 e12 e13 e14 e15 e16 e17 e18 e19 e20 e21 e22 e23 e24 e25 e26 e27 e28 e29 e30 e31 e32:PV}(hE:EdgF l es)(hlen:es.length<=1000)(hN:1001<=N):∀(r k m:Nat) (a:Clock),k+r=es.length->r<m->bJ a->aS a.n->a.p=l->
  dl (bx D) N qY [f] [e0,e1,sl crow es,e3,e4,e5,e6,e7,e8,e9,e10,e11,e12,e13,e14,e15,e16,e17,e18,e19,e20,e21,e22,e23,e24,e25,e26,e27,e28,e29,e30,e31,e32,.i64 (es.length:Int)] m (.i64 0::(stC a++[.i64 (k:Int)]))=match addL (es.drop k) a with|some d=>f (stC d)|none=>some [CLz,.i64 18]
 |0,k,m,a,hk,hm,h,hn,hp=>by
  obtain⟨m,rfl⟩:∃m',m=m'+1:=⟨m-1,by omega⟩;rw[bu,da (by omega)];unfold qY addL;simp only[stC,aL,aI,EV,aa];rw[ac (by omega)]
 |r+1,k,m,a,hk,hm,h,hn,hp=>by
  obtain⟨m,rfl⟩:∃m',m=m'+1:=⟨m-1,by omega⟩;have hkl:k<es.length:=by omega
  obtain⟨x,hx⟩:∃x,es[k]?=some x:=⟨es[k],ai _⟩;have hxm:=ax hx;have hdr:es.drop k=x::es.drop (k+1):=by
   rw[cY hkl,(aC.1 hx).2]
  have ih:=λ(a:Clock) h hn hp=>BJ (N:=N) (f:=f) (l:=l) (es:=es) (e0:=e0) (e1:=e1) (e3:=e3) (e4:=e4) (e5:=e5) (e6:=e6) (e7:=e7) (e8:=e8) (e9:=e9) (e10:=e10) (e11:=e11) (e12:=e12) (e13:=e13) (e14:=e14) (e15:=e15) (e16:=e16) (e17:=e17) (e18:=e18) (e19:=e19) (e20:=e20) (e21:=e21) (e22:=e22) (e23:=e23) (e24:=e24) (e25:=e25) (e26:=e26) (e27:=e27) (e28:=e28) (e29:=e29) (e30:=e30) (e31:=e31) (e32:=e32) hE hlen hN r (k+1) m a (by omega) (by omega) h hn hp;have hal:=h.2.2.1.1;rw[bu,hdr];have g0:decide (-1>=(0:Int))=false:=rfl;have g18:(!decide ((18:Int)=0))=true:=rfl;have E:addL (x::es.drop (k+1)) a=if(a.q.l.any λh=>decide (h.c=x))=true then addL (es.drop (k+1)) a else if p6 a x then none else addL (es.drop (k+1)) (kx a x):=rfl
  rw[E];generalize hkk:qY=kk at ih;subst hkk;unfold qY;simp only[stC,aL,aI,EV,aa,bj hkl,ay,aT hx (gb _),aM hx,oj,ah];refine(cL (m:=N) (l:=a.q.l) (p:=λg=>!decide (g.c=x)) (st:=λi=>[.i64 (i:Int)]) (r:=match addL (es.drop (k+1)) a with|some d=>f (stC d)|none=>some [CLz,.i64 18]) (fin:=if p6 a x then some [CLz,.i64 18] else match addL (es.drop (k+1)) (kx a x) with|some d=>f (stC d)|none=>some [CLz,.i64 18]) (λi g self' hg _=>?_) (λhall self'=>?_) (by omega)).trans ?_
  .rw[<-ih a h hn hp];unfold yF;simp only[ay,aT hg (fL _),aM hg,kY,pHP,wH,EV,aa,bj (aO hg),up1 (show i<1000000000 by have:=aO hg;omega)]
   by_cases hc:g.c=x
   .rw[ad hc,ac (show¬((!decide (g.c=x))=true) by simp[hc])]
    simp only[EV,ay,kb,ke];unfold Ch;simp only[EV,up1 (show k<1000000000 by omega),stC,aL,aI]
    rw[ad (by omega)];rfl
   .rw[ac hc,ad (show(!decide (g.c=x))=true by simp[hc])]
  .have hany:(a.q.l.any λh=>decide (h.c=x))=false:=by
    rw[dZ];intro g hg;have:=aV.1 hall g hg;simpa using this
   have hcd:=zB hE h hp hxm hany;unfold yF;simp only[EV,aa,bK];unfold H8;by_cases hfl:p6 a x
   .rw[ad hfl];simp only[EV,g0,g18,au,aw,az,ay,dE,phi (agK hcd hn hfl),lx,sV]
   .rw[ac hfl];obtain⟨q1,q2,q3,q4⟩:=tB hcd hn hfl;rw[<-ih (kx a x) q1 (by rw[q4];exact hn) (q3.trans hp)];simp only[EV,g0,au,aw,ay,dE,phi (L0 hcd hn hfl).1,bX,aA,aF,mN,mO,k8,py,fO,lY,lZ,l5,iK,kf,dT,kb,ke];unfold Ch;simp only[EV,up1 (show k<1000000000 by omega),stC,aL,aI]
    rfl
  .by_cases hall:(a.q.l.all λg=>!decide (g.c=x))=true
   .have hany:(a.q.l.any λh=>decide (h.c=x))=false:=by
     rw[dZ];intro g hg;have:=aV.1 hall g hg;simpa using this
    rw[ad hall,hany,ac (show¬(false=true) by simp)]
    by_cases hfl:p6 a x
    .rw[ad hfl,ad hfl]
    .rw[ac hfl,ac hfl];rfl
   .rw[ac hall];have hany:(a.q.l.any λh=>decide (h.c=x))=true:=by
     cases q:a.q.l.any λh=>decide (h.c=x) with
     |true=>rfl
     |false=>
      rw[dZ] at q;exact absurd (aV.2 λg hg=>by simpa using q g hg) hall
    rw[hany,ad (show true=true from rfl)]
    rfl
def fA (es:List Crt)(c:Clock):List PV:=match dh es c with
 |some d=>[CL d,.i64 0]
 |none=>[CLz,.i64 18]
def WI {c:Clock}{es:List Crt}(h:bJ c)(hn:aS c.n)(hE:EdgF c.p es)(hl:es.length<=1000):Ans D 169 [CL c,F c.p,sl crow es] (fA es c):=by
 obtain⟨q1,_,_⟩:=f8 es c.q.l c h;have hp:=q1.p;have hpl:=(ii h).p;have e234:=phi (Z7 (l:=c.p) (k:=c.p) (by omega));rw[aq rfl] at e234;have key:den (bx D) 1001 Oh [] [CL c,F c.p,sl crow es]=some (fA es c):=by
  unfold Oh;simp only[ay,bX,aY,mN,mO,k8,py,fO,lY,lZ,l5,iK,kf,dT,EV,ah];refine(XZ (N:=1001) h hn hl).trans ?_;unfold Ia;simp only[stC,aL,aI,EV,ay,cv,hp,e234,aF,au,aw];unfold H9;simp only[EV,ah];have al:=λ(f:JT) (e0 e1 e3 e4 e5 e6 e7 e8 e9 e10 e11 e12 e13 e14 e15 e16 e17 e18 e19 e20 e21 e22 e23 e24 e25 e26 e27 e28 e29 e30 e31 e32:PV)=>BJ (N:=1001) (f:=f) (l:=c.p) (es:=es) (e0:=e0) (e1:=e1) (e3:=e3) (e4:=e4) (e5:=e5) (e6:=e6) (e7:=e7) (e8:=e8) (e9:=e9) (e10:=e10) (e11:=e11) (e12:=e12) (e13:=e13) (e14:=e14) (e15:=e15) (e16:=e16) (e17:=e17) (e18:=e18) (e19:=e19) (e20:=e20) (e21:=e21) (e22:=e22) (e23:=e23) (e24:=e24) (e25:=e25) (e26:=e26) (e27:=e27) (e28:=e28) (e29:=e29) (e30:=e30) (e31:=e31) (e32:=e32) hE hl (aB _) es.length 0 1001 (dropL es c.q.l c) (by omega) (by omega) q1.ok (ul h hn _) hp;simp only[stC,hp,aL,aI] at al;refine(al _ _ _ _ _ _ _ _ _ _ _ _ _ _ _ _ _ _ _ _ _ _ _ _ _ _ _ _ _ _ _ _ _).trans ?_;rw[dz];unfold fA dh;cases addL es (dropL es c.q.l c) with
  |none=>rfl
  |some d=>
   unfold H7;simp only[EV,ay,dE]
 unfold fA at key|-;cases hr:dh es c with
 |none=>rw[hr] at key;exact an ⟨1001,key⟩
 |some d=>rw[hr] at key;exact an ⟨1001,key⟩
def ajW {es:List Crt}(v:Crt)(hl:es.length<=1000):Ans D 292 [sl crow es,CP v] [.bool (decide (v∈es))]:=by
 have key:den (bx D) 1001 UN [] [sl crow es,CP v]=some [.bool (decide (v∈es))]:=by
  unfold UN;simp[fU,EV];refine(j7 (m:=1001) (l:=es) (p:=λg=>decide (g=v)) (st:=λi=>[.i64 (i:Int)]) (ret:=λ_=>some [.bool true]) (fin:=some [.bool false]) (λk g self hg=>?_) (λself=>?_) (by omega)).trans ?_
  .unfold I8;simp only[EV,ah,aa,bj (aO hg),aT hg (gb _),aM hg,oj,wH,up1 (show k<1000000000 by have:=aO hg;omega)]
  .unfold I8;simp[EV,RS]
  .by_cases hv:v∈es
   .obtain⟨i,hi⟩:=(G2 (p:=λg=>decide (g=v)) (l:=es)).1 (oF.2 ⟨v,hv,by simp⟩)
    grind
   .rw[G2.2 (by rw[dZ];intro x hx;have:x≠v:=λe=>hv (e▸hx);simp[this]),ak hv];rfl
 exact an ⟨1001,key⟩
def BK (c:Clock):RF.ev .sub [sl cp c.d,.v (.int .i64 0),.v (.int .i64 (c.d.length:Int))]=some (sl cp c.d):=bI
def X3 {N:Nat}{f:JT}{c:Clock}{es:List Crt}(h:bJ c)(hn:aS c.n)(hE:es.length<=1000){e0 e1 e4 e5 e6 e7 e8:PV}:dl (bx D) N yH [f] [e0,e1,sl crow es,CL c,e4,e5,e6,e7,e8] 1001 (stC c++[.i64 (c.d.length:Int),.i64 ((0:Nat):Int)])=f (stC (dropL es c.q.l c)++[.i64 ((dropL es c.q.l c).d.length:Int)]):=by
 have hl:=h.2.2.1.1;have e:stC c++[.i64 (c.d.length:Int),.i64 ((0:Nat):Int)]=stC (dropL es (c.q.l.take 0) c)++[.i64 ((dropL es (c.q.l.take 0) c).d.length:Int),.i64 ((0:Nat):Int)]:=rfl;rw[e];refine(eG (m:=1001) (n:=c.q.l.length) (st:=λk=>stC (dropL es (c.q.l.take k) c)++[.i64 ((dropL es (c.q.l.take k) c).d.length:Int),.i64 (k:Int)]) (fin:=f (stC (dropL es c.q.l c)++[.i64 ((dropL es c.q.l c).d.length:Int)])) (λk self hk=>?_) (λself=>?_) (by omega))
 .have hx:c.q.l[k]?=some c.q.l[k]:=ai _;generalize c.q.l[k]=x at hx;have A:=(f8 es (c.q.l.take k) c h).1;have m:=phi (aan A.ok (nh A.ok (ul h hn _)) x.n);rw[BI hx];generalize dropL es (c.q.l.take k) c=a at A m;have s0:=BK a;unfold yH;simp only[stC,aL,aI,EV,aa,ay,fO,ah,bj hk,aT hx (fL _),aM hx,Bo,phi (ajW x.c hE)];by_cases hm:x.c∈es
  .simp only[hm,aA,aF,au,aw,az,EV,Ip,up1 (show k<1000000000 by omega)]
  .simp only[hm,be,bA,az,aw,ay,fO,aT hx (fL _),aM hx,Fr,s0,dE,m,bX,mN,mO,k8,py,fO,lY,lZ,l5,iK,kf,dT,EV,ah,Ip,up1 (show k<1000000000 by omega)]
 .have e:c.q.l.take c.q.l.length=c.q.l:=dX;rw[e];unfold yH;simp only[stC,aL,aI,EV,ay,fO,ah,aa,bK]
open Classical in
def BL {N:Nat}{f:JT}{l:List Pt}{es:List Crt}{e0 e1 e3 e4 e5 e6 e7 e8 e9 e10 e11 e12 e13 e14 e15 e16 e17 e18 e19 e20 e21 e22 e23 e24 e25 e26 e27 e28 e29 e30 e31 e32 e33 e34 e35:PV}(hE:EdgF l es)(hlen:es.length<=1000):∀(r k m:Nat) (a:Clock),k+r=es.length->r<m->bJ a->aS a.n->a.p=l->
  dl (bx D) N qZ [f] [e0,e1,sl crow es,e3,e4,e5,e6,e7,e8,e9,e10,e11,e12,e13,e14,e15,e16,e17,e18,e19,e20,e21,e22,e23,e24,e25,e26,e27,e28,e29,e30,e31,e32,e33,e34,e35] m (stC a++[.i64 (a.d.length:Int),.i64 (k:Int)])=match addL (es.drop k) a with|some d=>f (stC d++[.i64 (d.d.length:Int)])|none=>some [CLz,.i64 18]
 |0,k,m,a,hk,hm,h,hn,hp=>by
  obtain⟨m,rfl⟩:∃m',m=m'+1:=⟨m-1,by omega⟩;rw[bu,da (by omega)];unfold qZ addL;simp only[stC,aL,aI,EV,ah,aa];rw[ac (by omega)]
 |r+1,k,m,a,hk,hm,h,hn,hp=>by
  obtain⟨m,rfl⟩:∃m',m=m'+1:=⟨m-1,by omega⟩;have hkl:k<es.length:=by omega
  obtain⟨x,hx⟩:∃x,es[k]?=some x:=⟨es[k],ai _⟩;have hxm:=ax hx;have hdr:es.drop k=x::es.drop (k+1):=by
   rw[cY hkl,(aC.1 hx).2]
  have ih:=λ(a:Clock) h hn hp=>BL (N:=N) (f:=f) (l:=l) (es:=es) (e0:=e0) (e1:=e1) (e3:=e3) (e4:=e4) (e5:=e5) (e6:=e6) (e7:=e7) (e8:=e8) (e9:=e9) (e10:=e10) (e11:=e11) (e12:=e12) (e13:=e13) (e14:=e14) (e15:=e15) (e16:=e16) (e17:=e17) (e18:=e18) (e19:=e19) (e20:=e20) (e21:=e21) (e22:=e22) (e23:=e23) (e24:=e24) (e25:=e25) (e26:=e26) (e27:=e27) (e28:=e28) (e29:=e29) (e30:=e30) (e31:=e31) (e32:=e32) (e33:=e33) (e34:=e34) (e35:=e35) hE hlen r (k+1) m a (by omega) (by omega) h hn hp;have hal:=h.2.2.1.1;have s0:=BK a;have m2:=phi (Gg (c:=a.q) (x:=x) (by omega));have g18:(!decide ((18:Int)=0))=true:=rfl;have cz:RF.ev (.cell 10) [CLz]=some (.sl []):=rfl;rw[bu,hdr];unfold addL;generalize hkk:qZ=kk at ih;subst hkk;unfold qZ;simp only[stC,aL,aI,EV,ah,aa,bj hkl,ay,aT hx (gb _),aM hx,oj,Nq,m2];cases hany:a.q.l.any λh=>decide (h.c=x) with
  |true=>
   have ih:=ih a h hn hp;simp only[stC,aL,aI] at ih;simp only[az,EV];refine bT ?_ ih;unfold Cj;simp only[EV,up1 (show k<1000000000 by omega)]
   rfl
  |false=>
   have hcd:=zB hE h hp hxm hany;by_cases hfl:p6 a x
   .have hb:(if p6 a x then(none:Option Clock) else addL (es.drop (k+1)) (kx a x))=none:=ad hfl
    simp only[au,aw,hb];simp only[EV,g18,cz,az,ay,aT hx (gb _),aM hx,oj,s0,dE,phi (agL hcd hn hfl),lx,sV,cw]
   .obtain⟨q1,q2,q3,q4⟩:=tB hcd hn hfl;have ih:=ih (kx a x) q1 (by rw[q4];exact hn) (q3.trans hp);have hb:(if p6 a x then(none:Option Clock) else addL (es.drop (k+1)) (kx a x))=addL (es.drop (k+1)) (kx a x):=ac hfl
    simp only[stC,aL,aI] at ih;simp only[au,aw,hb];refine bT ?_ ih;simp only[EV,ay,aT hx (gb _),aM hx,oj,s0,dE,phi (L0 hcd hn hfl).2,bX,aA,aF,au,aw,mN,mO,k8,py,fO,lY,lZ,l5,iK,kf,dT,ah];unfold Cj;simp only[EV,up1 (show k<1000000000 by omega)]
    rfl
def FH {c:Clock}{es:List Crt}(h:bJ c)(hn:aS c.n)(hE:EdgF c.p es)(hl:es.length<=1000):Ans D 206 [CL c,F c.p,sl crow es] (fA es c):=by
 obtain⟨q1,_,_⟩:=f8 es c.q.l c h;have hp:=q1.p;have hpl:=(ii h).p;have e28:=phi (c28 (l:=c.p) (k:=c.p) (by omega));rw[aq rfl] at e28;have key:den (bx D) 1001 Ot [] [CL c,F c.p,sl crow es]=some (fA es c):=by
  unfold Ot;simp only[ay,bX,aY,phi (wQ (ii h)),mN,mO,k8,py,fO,lY,lZ,l5,iK,kf,dT,EV,ah];refine(X3 (N:=1001) h hn hl).trans ?_;unfold Io;simp only[stC,aL,aI,EV,ay,Um,hp,e28,aF,au,aw];unfold In;simp only[EV,ah];have al:=λ(f:JT) (e0 e1 e3 e4 e5 e6 e7 e8 e9 e10 e11 e12 e13 e14 e15 e16 e17 e18 e19 e20 e21 e22 e23 e24 e25 e26 e27 e28 e29 e30 e31 e32 e33 e34 e35:PV)=>BL (N:=1001) (f:=f) (l:=c.p) (es:=es) (e0:=e0) (e1:=e1) (e3:=e3) (e4:=e4) (e5:=e5) (e6:=e6) (e7:=e7) (e8:=e8) (e9:=e9) (e10:=e10) (e11:=e11) (e12:=e12) (e13:=e13) (e14:=e14) (e15:=e15) (e16:=e16) (e17:=e17) (e18:=e18) (e19:=e19) (e20:=e20) (e21:=e21) (e22:=e22) (e23:=e23) (e24:=e24) (e25:=e25) (e26:=e26) (e27:=e27) (e28:=e28) (e29:=e29) (e30:=e30) (e31:=e31) (e32:=e32) (e33:=e33) (e34:=e34) (e35:=e35) hE hl es.length 0 1001 (dropL es c.q.l c) (by omega) (by omega) q1.ok (ul h hn _) hp;simp only[stC,hp,aL,aI] at al;refine(al _ _ _ _ _ _ _ _ _ _ _ _ _ _ _ _ _ _ _ _ _ _ _ _ _ _ _ _ _ _ _ _ _ _ _ _).trans ?_;rw[dz];unfold fA dh;cases addL es (dropL es c.q.l c) with
  |none=>rfl
  |some d=>
   have s0:=BK d;unfold Im;simp only[EV,ay,s0,dE]
 unfold fA at key|-;cases hr:dh es c with
 |none=>rw[hr] at key;exact an ⟨1001,key⟩
 |some d=>rw[hr] at key;exact an ⟨1001,key⟩
open Classical in
def aas {c:Clock}{es:List Crt}(h:bJ c)(hn0:aS c.n)(hE:EdgOk c.p es):den (bx D) 1001 OA [] [CL c,F c.p,sl crow es]=some (fA es c):=by
 have hl:=h.2.1;have hlen:=hE.len;have m1:=phi (wK (nh h hn0) (qL h));rw[aq h,show okE true=0 from rfl] at m1
 have m2:=phi (uG c.p);rw[eH.2 hl] at m2;unfold OA;simp only[ay,bX,aY,m1,m2,EV,aA,aF,au,aw,ah];refine(cL (m:=1001) (l:=es) (p:=λ_=>true) (st:=λi=>[.i64 (i:Int)]) (r:=none) (fin:=some (fA es c)) (λi x self hx _=>?_) (λ_ self=>?_) (by omega)).trans (ad (by simp))
 .obtain⟨o1,o2,o3,o4,o5⟩:=hE.ok x (ax hx);unfold yL;simp only[ay,aT hx (gb _),aM hx,oj,kb,ke,EV,aa,bj (aO hx),iy,up1 (show i<1000000000 by have:=aO hx;omega)]
  grind
 .unfold yL;simp only[EV,aa,bK];unfold I2;simp only[EV,ah];refine(cL (m:=1001) (l:=es) (p:=λ_=>true) (st:=λi=>[.i64 (i:Int)]) (r:=none) (fin:=some (fA es c)) (λi x self hx _=>?_) (λ_ self=>?_) (by omega)).trans (ad (by simp))
  .have hn:x∉es.take i:=λhm=>by
    obtain⟨j,hj⟩:=aK.1 hm;have hji:j<i:=by have:=aO hj;rw[aR] at this;omega
    rw[db hji] at hj;have:=dL.1 hE.nd j i x hj hx;omega
   have m3:=phi (yh (l:=es.take i) x (by rw[aR];omega));rw[ak hn] at m3;have hi:=aO hx;unfold yK;simp only[ay,aT hx (gb _),aM hx,oj,Z9 (show i<=es.length by omega),Wx (show i<=es.length by omega),m3,EV,ah,aa,bj hi,au,aw,az,up1 (show i<1000000000 by omega)]
  .unfold yK;simp only[EV,aa,bK];unfold I0;simp only[EV,ah];refine(cL (m:=1001) (l:=es) (p:=λ_=>true) (st:=λi=>[.i64 (i:Int)]) (r:=none) (fin:=some (fA es c)) (λi x self hx _=>?_) (λ_ self=>?_) (by omega)).trans (ad (by simp))
   .obtain⟨a,p,a1,a2,_⟩:=zS hl (hE.j x (ax hx));obtain⟨b,q,b1,b2,_⟩:=zS hl (hE.h x (ax hx));have n1:=phi (Ds hl a1);have n2:=phi (Ds hl b1);rw[a2] at n1;rw[b2] at n2;unfold yJ;simp only[ay,aT hx (gb _),aM hx,oj,kb,ke,n1,n2,aaa,EV,ah,aa,bj (aO hx),aA,aF,au,aw,az,up1 (show i<1000000000 by have:=aO hx;omega)]
   .unfold yJ;simp only[EV,aa,bK];unfold IZ;have m4:=phi (WI h hn0 ⟨hE.ok,hE.j,hE.h⟩ (by omega));have pz:RF.ev (.part 0 11) [CLz]=some CLz:=rfl;unfold fA at m4|-;cases hr:dh es c with
    |none=>
     rw[hr] at m4;simp only[EV,ay,phi (Up (ii h)),m4,lx,pz]
    |some d=>
     rw[hr] at m4;simp only[EV,ay,phi (Up (ii h)),m4,bX,iB]
def NK {c:Clock}{es:List Crt}(h:bJ c)(hn:aS c.n)(hE:EdgOk c.p es):Ans D 264 [CL c,F c.p,sl crow es] (fA es c):=by
 have key:=aas h hn hE;unfold fA at key|-;cases hr:dh es c with
 |none=>rw[hr] at key;exact an ⟨1001,key⟩
 |some d=>rw[hr] at key;exact an ⟨1001,key⟩
def KTz:PV:= .agg [.i64 0,.i64 0,.sl [],.i64 0,.sl [],.sl [],.sl [],.sl [],.sl [],.sl [],.sl [],.sl [],.sl []]
def HTz:PV:= .agg [.i64 0,.i64 0,.sl [],.i64 0,.sl [],.sl [],.sl [],.sl [],.sl [],.sl [],.sl [],.i64 0,.sl []]
def KHz:PV:= .agg [.i64 0,.i64 0,.sl [],.i64 0,.sl [],.sl [],.sl [],.sl [],.sl [],.sl [],.sl [],.sl []]
def yr:RF.ev .agg [.i64 0,.i64 0,.sl [],.i64 0,.sl [],.sl [],.sl [],.sl [],.sl [],.sl [],.sl [],.sl [],.sl []]=some KTz:=rfl
def yu:RF.ev .agg [.i64 0,.i64 0,.sl [],.i64 0,.sl [],.sl [],.sl [],.sl [],.sl [],.sl [],.sl [],.i64 0,.sl []]=some HTz:=rfl
def pD:RF.ev .agg [.i64 0,.i64 0,.sl [],.i64 0,.sl [],.sl [],.sl [],.sl [],.sl [],.sl [],.sl [],.sl []]=some KHz:=rfl
def zV (c:Clock)(pl:List Int):List PV:=match dh (edsB (bracketOf c.n c.p pl).w pl (bracketOf c.n c.p pl).w.length) c with
 |some d=>[KT ⟨d,bracketOf c.n c.p pl⟩,.i64 0]
 |none=>[KTz,.i64 18]
def zW (c:Clock):List PV:=match dh (edgsT (cart c.n c.p).n c.p.length) c with
 |some d=>[HT ⟨d,cart c.n c.p⟩,.i64 0]
 |none=>[HTz,.i64 18]
def zX (c:Clock):List PV:=match dh (cG c.p (cF c.n c.p)) c with
 |some d=>[KH ⟨d,cF c.n c.p⟩,.i64 0]
 |none=>[KHz,.i64 18]
def g18:(!decide ((18:Int)=0))=true:=rfl
section
variable {c:Clock}(h:bJ c)(hn:aS c.n)
include h hn
theorem agM {pl:List Int}(h1:1<=pl.length)(h2:pl.length<=64)(hv:∀x∈pl,dV c.p x)(ho:gK pl):Ans D 170 [CL c,F c.p,sl I1 pl] (zV c pl):=by
 have hl:=h.2.1;have hE:=jR (t:=c.n) hl h1 h2 hv ho;have m1:bx D 159 [F c.p,R c.n,sl I1 pl]=some [BR (bracketOf c.n c.p pl),sl crow (edsB (bracketOf c.n c.p pl).w pl (bracketOf c.n c.p pl).w.length)]:=phi (No hl hn h.1 h1 h2 hv ho rfl);have m2:=phi (NK h hn hE);unfold fA at m2;unfold zV;cases hr:dh (edsB (bracketOf c.n c.p pl).w pl (bracketOf c.n c.p pl).w.length) c with
 |none=>
  rw[hr] at m2;refine am ?_;unfold Oi;simp[bX,aY,eZ,m1,kD,m2,EV,lx,yr]
 |some d=>
  rw[hr] at m2;refine am ?_;unfold Oi;simp[bX,aY,eZ,m1,kD,m2,EV,iB,GO,FB]
theorem agN {pl:List Int}(h1:1<=pl.length)(h2:pl.length<=64)(hv:∀x∈pl,dV c.p x)(ho:gK pl):Ans D 198 [CL c,F c.p,sl I1 pl] (zV c pl):=by
 have hl:=h.2.1;have hE:=jR (t:=c.n) hl h1 h2 hv ho;obtain⟨b1,b2,b3⟩:=gA (t:=c.n) hl h1 h2 hv ho;have mb:=phi (Uj (b:=bracketOf c.n c.p pl) (by rw[b1];show pl.length=_;omega) (by show pl.length<=70;omega) (λi hi=>(b2.2 i hi).1) (λj=>ov hl (brk_val (b:=bracketOf c.n c.p pl) b2 hv j)))
 have mb:bx D 142 [BR (bracketOf c.n c.p pl)]=some [sl crow (edsB (bracketOf c.n c.p pl).w pl (bracketOf c.n c.p pl).w.length)]:=mb;have m2:=phi (FH h hn ⟨hE.ok,hE.j,hE.h⟩ (by have:=hE.len;omega));unfold fA at m2;unfold zV;cases hr:dh (edsB (bracketOf c.n c.p pl).w pl (bracketOf c.n c.p pl).w.length) c with
 |none=>
  rw[hr] at m2;refine am ?_;unfold Om;simp[bX,aY,eZ,phi (Uy hl hn h1 h2 hv),kD,mb,m2,EV,lx,g18,yr]
 |some d=>
  rw[hr] at m2;refine am ?_;unfold Om;simp only[ay,bX,aY,eZ,phi (Uy hl hn h1 h2 hv),kD,mb,m2,EV,aA,aF,au,aw,iB,GO,FB]
theorem agO:Ans D 172 [CL c,F c.p] (zW c):=by
 have hl:=h.2.1;have hE:=ln (t:=c.n) hl;have m2:=phi (NK h hn hE);unfold fA at m2;unfold zW;cases hr:dh (edgsT (cart c.n c.p).n c.p.length) c with
 |none=>
  rw[hr] at m2;refine am ?_;unfold Oj;simp[bX,aY,eZ,phi (Gu hl hn h.1 (mL hl) (vp hl)),pq,m2,EV,lx,yu]
 |some d=>
  rw[hr] at m2;refine am ?_;unfold Oj;simp[bX,aY,eZ,phi (Gu hl hn h.1 (mL hl) (vp hl)),pq,m2,EV,iB,GP,FC]
theorem agP:Ans D 201 [CL c,F c.p] (zW c):=by
 have hl:=h.2.1;have hE:=ln (t:=c.n) hl;have mb:=phi (Ue (x:=cart c.n c.p) (mL hl) (by rw[jl hl];have:=hl.1;omega));rw[jl hl] at mb;have m2:=phi (FH h hn ⟨hE.ok,hE.j,hE.h⟩ (by have:=hE.len;omega));unfold fA at m2;unfold zW;cases hr:dh (edgsT (cart c.n c.p).n c.p.length) c with
 |none=>
  rw[hr] at m2;refine am ?_;unfold On;simp[bX,aY,eZ,phi (Nl hl hn),pq,mb,m2,EV,lx,yu]
 |some d=>
  rw[hr] at m2;refine am ?_;unfold On;simp[bX,aY,eZ,phi (Nl hl hn),pq,mb,m2,EV,iB,GP,FC]
theorem agQ:Ans D 173 [CL c,F c.p] (zX c):=by
 have hl:=h.2.1;have hE:=lh (t:=c.n) hl;have m2:=phi (NK h hn hE);unfold fA at m2;unfold zX;cases hr:dh (cG c.p (cF c.n c.p)) c with
 |none=>
  rw[hr] at m2;refine am ?_;unfold Ok;simp[bX,aY,eZ,phi (Gs hl hn h.1),m2,EV,lx,pD]
 |some d=>
  rw[hr] at m2;refine am ?_;unfold Ok;simp[bX,aY,eZ,phi (Gs hl hn h.1),m2,EV,iB,FA]
theorem agR:Ans D 202 [CL c,F c.p] (zX c):=by
 have hl:=h.2.1;have hE:=lh (t:=c.n) hl;have m2:=phi (FH h hn ⟨hE.ok,hE.j,hE.h⟩ (by have:=hE.len;omega));unfold fA at m2;unfold zX;cases hr:dh (cG c.p (cF c.n c.p)) c with
 |none=>
  rw[hr] at m2;refine am ?_;unfold Oq;simp[bX,aY,eZ,phi (Nh hl hn),phi (Ni (l:=c.p) (up:=cF c.n c.p) (oR c.n c.p).symm (by have:=hl.1;omega)),m2,EV,lx,pD]
 |some d=>
  rw[hr] at m2;refine am ?_;unfold Oq;simp[bX,aY,eZ,phi (Nh hl hn),phi (Ni (l:=c.p) (up:=cF c.n c.p) (oR c.n c.p).symm (by have:=hl.1;omega)),m2,EV,iB,FA]
end
def vA {l:List Pt}(h:okF l):EdgH l λt=>cG l (cF t l):=⟨λt _ _=>let q:=lh (t:=t) h;⟨q.ok,q.j,q.h⟩,λt _ _ x hx=>(fX h hx).2.2⟩
def vB {l:List Pt}(h:okF l):EdgH l λt=>edgsT (cart t l).n l.length:=⟨λt _ _=>let q:=ln (t:=t) h;⟨q.ok,q.j,q.h⟩,λt _ _ x hx=>(ig h hx).2.2⟩
def sF {l:List Pt}{pl:List Int}(h:okF l)(h1:1<=pl.length)(h2:pl.length<=64)(hv:∀x∈pl,dV l x)(ho:gK pl):EdgH l λt=>edsB (bracketOf t l pl).w pl (bracketOf t l pl).w.length:=
 ⟨λt _ _=>let q:=jR (t:=t) h h1 h2 hv ho;⟨q.ok,q.j,q.h⟩,λt _ _ x hx=>let⟨_,b2,b3⟩:=gA (t:=t) h h1 h2 hv ho;(jP (b:=bracketOf t l pl) h b2 hv b3 hx).2.2⟩
def yw (c:Clock)(u:List Int):RF.ev .agg [CL c,sl I1 u]=some (KH ⟨c,u⟩):=rfl
def yx (x:Crt):RF.ev (.bs 1 [KP.z,KP.z] [0]) [CP x]=some (sl crow [x]):=rfl
def um (x:Crt):RF.ev .sub [sl crow [x],.v (.int .i64 0),.v (.int .i64 1)]=some (sl crow [x]):=rfl
def xd (k:KHeap):RF.ev (.cell 11) [KH k]=some (sl I1 k.heap):=rfl
section
variable (k:KHeap)
def cH0:RF.ev (.cell 0) [KH k]=some (.i64 k.c.n.num):=rfl
def cH1:RF.ev (.cell 1) [KH k]=some (.i64 k.c.n.den):=rfl
def cH2:RF.ev (.cell 2) [KH k]=some (sl row k.c.p):=rfl
def cH3:RF.ev (.cell 3) [KH k]=some (.i64 k.c.q.next):=rfl
def cH4:RF.ev (.cell 4) [KH k]=some (sl hrow k.c.q.l):=rfl
def cH5:RF.ev (.cell 5) [KH k]=some (sl I1 k.c.a.s.u):=rfl
def cH6:RF.ev (.cell 6) [KH k]=some (sl B1 k.c.a.s.v):=rfl
def cH7:RF.ev (.cell 7) [KH k]=some (sl I1 k.c.a.s.f):=rfl
def cH8:RF.ev (.cell 8) [KH k]=some (sl bV k.c.a.heap):=rfl
def cH9:RF.ev (.cell 9) [KH k]=some (sl I1 k.c.a.w):=rfl
def DK:RF.ev (.cell 10) [KH k]=some (sl cp k.c.d):=rfl
end
def NL:RF.ev (.shape 12) [KHz]=some KHz:=rfl
def PW {N:Nat}{f:JT}{l:List Pt}{t:Rt}(hl:okF l)(hr:rok t=true)(ht:aS t){e0 e1 e2 e4 e5 e6 e7 e8 e9 e10 e11:PV}:∀(n m:Nat) (c:Clock) (out:List Crt) (r:Option (Clock×List Crt)),n<=m->out.length+n<=1000000->Stl l c->crs c.n t<=0->adv (λt=>cG l (cF t l)) t n c out=some r->
  dl (bx D) N B6 [f] [e0,e1,e2,R t,e4,e5,e6,e7,e8,e9,e10,e11] m (stC c++[sl I1 (cF c.n l),sl crow out,.i64 (out.length:Int)])=match r with
   |some (d,out')=>f (sl crow out':: .i64 (out'.length:Int)::(stC d++[sl I1 (cF d.n l)]))
   |none=>some [KHz,.sl [],.i64 18]
 |0,m,c,out,r,hm,ho,h,hp,ha=>by cases ha
 |n+1,m,c,out,r,hm,ho,h,hp,ha=>by
  obtain⟨m,rfl⟩:∃m',m=m'+1:=⟨m-1,by omega⟩;rw[bu];unfold adv at ha;cases he:fu c t with
  |none=>
   rw[he] at ha;cases ha;have m1:=phi (FG h.ok h.n64 hr ht hp (il he));have g6:(!decide ((6:Int)=0))=true:=rfl;unfold B6;simp[stC,EV,dE,m1,lx,fx,fU,g6]
  |some e=>
   obtain⟨n1,n2,n3⟩:=d9 he;obtain⟨i,x,hi,hxe,hce,hf⟩:=jr h.ok n1;obtain⟨f1,f2⟩:=iN h.ok n1 h.n64;have hpt:(dw c e).p=l:=h.p;have hnow:(dw c e).n=e.time:=rfl;have m1:=phi (NG h.ok h.n64 hr ht hp n1 n3 hi hxe);have m2:=phi (agQ f1 f2);unfold zX at m2;rw[hpt,hnow] at m2;rw[he] at ha;simp only at ha;cases hd:dh (cG l (cF e.time l)) (dw c e) with
   |none=>
    rw[hd] at ha m2;cases ha;unfold B6;simp only[stC,aL,aI,EV,ay,dE,m1,bX,fx,fU,aA,aF,au,aw,fN,hpt,m2,NL,g18,az,pD]
   |some d=>
    rw[hd] at ha m2;simp only at ha m2;obtain⟨s1,s2,s3⟩:=lC (vA hl) h n1 hd;have ap:=eF (f:=crow) (l:=out) (k:=[eO c e]) (bytes:=16) (z:=2) (by simp;omega) gb;rw[hce] at ap ha;have ih:=PW (N:=N) (f:=f) (l:=l) (t:=t) hl hr ht (e0:=e0) (e1:=e1) (e2:=e2) (e4:=e4) (e5:=e5) (e6:=e6) (e7:=e7) (e8:=e8) (e9:=e9) (e10:=e10) (e11:=e11) n m d (out++[x.c]) r (by omega) (by rw[aD,aN];omega) s1 (by rw[s2];exact n2) ha;rw[s2] at ih;simp only[stC,aL,aI] at ih;refine bT ?_ ih;unfold B6;simp only[stC,aL,aI,EV,ay,dE,m1,bX,fx,fU,aA,aF,au,aw,fN,hpt,m2,gc,yx,um,ap,ah,cH0,cH1,cH2,cH3,cH4,cH5,cH6,cH7,cH8,cH9,DK,xd,s2]
def L1 {N:Nat}{f:JT}{l:List Pt}{t:Rt}(hl:okF l)(hr:rok t=true)(ht:aS t){e0 e1 e2:PV}:∀(n m:Nat) (c:Clock) (out:List Crt) (r:Option (Clock×List Crt)),n<=m->out.length+n<=1000000->Stl l c->crs c.n t<=0->adv (λt=>cG l (cF t l)) t n c out=some r->
  dl (bx D) N yD [f] [e0,e1,e2,R t] m (stC c++[sl I1 (cF c.n l),sl crow out,.i64 (out.length:Int)])=match r with
   |some (d,out')=>f (sl crow out':: .i64 (out'.length:Int)::(stC d++[sl I1 (cF d.n l)]))
   |none=>some [KHz,.sl [],.i64 18]
 |0,m,c,out,r,hm,ho,h,hp,ha=>by cases ha
 |n+1,m,c,out,r,hm,ho,h,hp,ha=>by
  obtain⟨m,rfl⟩:∃m',m=m'+1:=⟨m-1,by omega⟩;rw[bu];unfold adv at ha;cases he:fu c t with
  |none=>
   rw[he] at ha;cases ha;have m0:=phi (AU (c:=c) (nh h.ok h.n64) ht);rw[il he] at m0;unfold yD;simp[stC,EV,dE,m0]
  |some e=>
   obtain⟨n1,n2,n3⟩:=d9 he;obtain⟨i,x,hi,hxe,hce,hf⟩:=jr h.ok n1;obtain⟨f1,f2⟩:=iN h.ok n1 h.n64;have hpt:(dw c e).p=l:=h.p;have hnow:(dw c e).n=e.time:=rfl;have m0:=phi (AU (c:=c) (nh h.ok h.n64) ht);rw[n3] at m0;have m1:=phi (NH h.ok h.n64 n1 hi hxe);have m2:=phi (agR f1 f2);unfold zX at m2;rw[hpt,hnow] at m2;rw[he] at ha;simp only at ha;cases hd:dh (cG l (cF e.time l)) (dw c e) with
   |none=>
    rw[hd] at ha m2;cases ha;unfold yD;simp[stC,EV,dE,m0,m1,bX,fx,fU,fN,hpt,m2,NL,g18,pD]
   |some d=>
    rw[hd] at ha m2;simp only at ha m2;obtain⟨s1,s2,s3⟩:=lC (vA hl) h n1 hd;have ap:=eF (f:=crow) (l:=out) (k:=[eO c e]) (bytes:=16) (z:=2) (by simp;omega) gb;rw[hce] at ap ha;have ih:=L1 (N:=N) (f:=f) (l:=l) (t:=t) hl hr ht (e0:=e0) (e1:=e1) (e2:=e2) n m d (out++[x.c]) r (by omega) (by rw[aD,aN];omega) s1 (by rw[s2];exact n2) ha;rw[s2] at ih;simp only[stC,aL,aI] at ih;refine bT ?_ ih;unfold yD;simp only[stC,aL,aI,EV,ay,dE,m0,az,m1,bX,fx,fU,aA,aF,au,aw,fN,hpt,m2,gc,yx,um,ap,ah,cH0,cH1,cH2,cH3,cH4,cH5,cH6,cH7,cH8,cH9,DK,xd,s2]
section
variable (k:Heater)
def cQ0:RF.ev (.cell 0) [HT k]=some (.i64 k.c.n.num):=rfl
def cQ1:RF.ev (.cell 1) [HT k]=some (.i64 k.c.n.den):=rfl
def cQ2:RF.ev (.cell 2) [HT k]=some (sl row k.c.p):=rfl
def cQ3:RF.ev (.cell 3) [HT k]=some (.i64 k.c.q.next):=rfl
def cQ4:RF.ev (.cell 4) [HT k]=some (sl hrow k.c.q.l):=rfl
def cQ5:RF.ev (.cell 5) [HT k]=some (sl I1 k.c.a.s.u):=rfl
def cQ6:RF.ev (.cell 6) [HT k]=some (sl B1 k.c.a.s.v):=rfl
def cQ7:RF.ev (.cell 7) [HT k]=some (sl I1 k.c.a.s.f):=rfl
def cQ8:RF.ev (.cell 8) [HT k]=some (sl bV k.c.a.heap):=rfl
def cQ9:RF.ev (.cell 9) [HT k]=some (sl I1 k.c.a.w):=rfl
def NM:RF.ev (.cell 10) [HT k]=some (sl cp k.c.d):=rfl
def NN:RF.ev (.cell 11) [HT k]=some (.i64 k.t.root):=rfl
def NO:RF.ev (.cell 12) [HT k]=some (sl dB k.t.n):=rfl
end
section
variable (k:KTourn)
def cY0:RF.ev (.cell 0) [KT k]=some (.i64 k.c.n.num):=rfl
def cY1:RF.ev (.cell 1) [KT k]=some (.i64 k.c.n.den):=rfl
def cY2:RF.ev (.cell 2) [KT k]=some (sl row k.c.p):=rfl
def cY3:RF.ev (.cell 3) [KT k]=some (.i64 k.c.q.next):=rfl
def cY4:RF.ev (.cell 4) [KT k]=some (sl hrow k.c.q.l):=rfl
def cY5:RF.ev (.cell 5) [KT k]=some (sl I1 k.c.a.s.u):=rfl
def cY6:RF.ev (.cell 6) [KT k]=some (sl B1 k.c.a.s.v):=rfl
def cY7:RF.ev (.cell 7) [KT k]=some (sl I1 k.c.a.s.f):=rfl
def cY8:RF.ev (.cell 8) [KT k]=some (sl bV k.c.a.heap):=rfl
def cY9:RF.ev (.cell 9) [KT k]=some (sl I1 k.c.a.w):=rfl
def NQ:RF.ev (.cell 10) [KT k]=some (sl cp k.c.d):=rfl
def NR:RF.ev (.cell 11) [KT k]=some (sl I1 k.b.p):=rfl
def NS:RF.ev (.cell 12) [KT k]=some (sl I1 k.b.w):=rfl
end
def WJ:RF.ev (.shape 13) [HTz]=some HTz:=rfl
def WK:RF.ev (.shape 13) [KTz]=some KTz:=rfl
def PX {N:Nat}{f:JT}{l:List Pt}{t:Rt}(hl:okF l)(hr:rok t=true)(ht:aS t){e0 e1 e2 e4 e5 e6 e7 e8 e9 e10 e11:PV}:∀(n m:Nat) (c:Clock) (out:List Crt) (r:Option (Clock×List Crt)),n<=m->out.length+n<=1000000->Stl l c->crs c.n t<=0->adv (λt=>edgsT (cart t l).n l.length) t n c out=some r->
  dl (bx D) N B5 [f] [e0,e1,e2,R t,e4,e5,e6,e7,e8,e9,e10,e11] m (stC c++[.i64 (cart c.n l).root,sl dB (cart c.n l).n,sl crow out,.i64 (out.length:Int)])=match r with
   |some (d,out')=>f (sl crow out':: .i64 (out'.length:Int)::(stC d++[.i64 (cart d.n l).root,sl dB (cart d.n l).n]))
   |none=>some [HTz,.sl [],.i64 18]
 |0,m,c,out,r,hm,ho,h,hp,ha=>by cases ha
 |n+1,m,c,out,r,hm,ho,h,hp,ha=>by
  obtain⟨m,rfl⟩:∃m',m=m'+1:=⟨m-1,by omega⟩;rw[bu];unfold adv at ha;cases he:fu c t with
  |none=>
   rw[he] at ha;cases ha;have m1:=phi (FG h.ok h.n64 hr ht hp (il he));have g6:(!decide ((6:Int)=0))=true:=rfl;unfold B5;simp[stC,EV,dE,m1,lx,fx,fU,g6]
  |some e=>
   obtain⟨n1,n2,n3⟩:=d9 he;obtain⟨i,x,hi,hxe,hce,hf⟩:=jr h.ok n1;obtain⟨f1,f2⟩:=iN h.ok n1 h.n64;have hpt:(dw c e).p=l:=h.p;have hnow:(dw c e).n=e.time:=rfl;have m1:=phi (NG h.ok h.n64 hr ht hp n1 n3 hi hxe);have m2:=phi (agO f1 f2);unfold zW at m2;rw[hpt,hnow] at m2;rw[he] at ha;simp only at ha;cases hd:dh (edgsT (cart e.time l).n l.length) (dw c e) with
   |none=>
    rw[hd] at ha m2;cases ha;unfold B5;simp only[stC,aL,aI,EV,ay,dE,m1,bX,fx,fU,aA,aF,au,aw,fN,hpt,m2,WJ,g18,az,yu]
   |some d=>
    rw[hd] at ha m2;simp only at ha m2;obtain⟨s1,s2,s3⟩:=lC (vB hl) h n1 hd;have ap:=eF (f:=crow) (l:=out) (k:=[eO c e]) (bytes:=16) (z:=2) (by simp;omega) gb;rw[hce] at ap ha;have ih:=PX (N:=N) (f:=f) (l:=l) (t:=t) hl hr ht (e0:=e0) (e1:=e1) (e2:=e2) (e4:=e4) (e5:=e5) (e6:=e6) (e7:=e7) (e8:=e8) (e9:=e9) (e10:=e10) (e11:=e11) n m d (out++[x.c]) r (by omega) (by rw[aD,aN];omega) s1 (by rw[s2];exact n2) ha;rw[s2] at ih;simp only[stC,aL,aI] at ih;refine bT ?_ ih;unfold B5;simp only[stC,aL,aI,EV,ay,dE,m1,bX,fx,fU,aA,aF,au,aw,fN,hpt,m2,mJ,yx,um,ap,ah,cQ0,cQ1,cQ2,cQ3,cQ4,cQ5,cQ6,cQ7,cQ8,cQ9,NM,NN,NO,s2]
def L2 {N:Nat}{f:JT}{l:List Pt}{t:Rt}(hl:okF l)(hr:rok t=true)(ht:aS t){e0 e1 e2:PV}:∀(n m:Nat) (c:Clock) (out:List Crt) (r:Option (Clock×List Crt)),n<=m->out.length+n<=1000000->Stl l c->crs c.n t<=0->adv (λt=>edgsT (cart t l).n l.length) t n c out=some r->
  dl (bx D) N yC [f] [e0,e1,e2,R t] m (stC c++[.i64 (cart c.n l).root,sl dB (cart c.n l).n,sl crow out,.i64 (out.length:Int)])=match r with
   |some (d,out')=>f (sl crow out':: .i64 (out'.length:Int)::(stC d++[.i64 (cart d.n l).root,sl dB (cart d.n l).n]))
   |none=>some [HTz,.sl [],.i64 18]
 |0,m,c,out,r,hm,ho,h,hp,ha=>by cases ha
 |n+1,m,c,out,r,hm,ho,h,hp,ha=>by
  obtain⟨m,rfl⟩:∃m',m=m'+1:=⟨m-1,by omega⟩;rw[bu];unfold adv at ha;cases he:fu c t with
  |none=>
   rw[he] at ha;cases ha;have m0:=phi (AU (c:=c) (nh h.ok h.n64) ht);rw[il he] at m0;unfold yC;simp[stC,EV,dE,m0]
  |some e=>
   obtain⟨n1,n2,n3⟩:=d9 he;obtain⟨i,x,hi,hxe,hce,hf⟩:=jr h.ok n1;obtain⟨f1,f2⟩:=iN h.ok n1 h.n64;have hpt:(dw c e).p=l:=h.p;have hnow:(dw c e).n=e.time:=rfl;have m0:=phi (AU (c:=c) (nh h.ok h.n64) ht);rw[n3] at m0;have m1:=phi (NH h.ok h.n64 n1 hi hxe);have m2:=phi (agP f1 f2);unfold zW at m2;rw[hpt,hnow] at m2;rw[he] at ha;simp only at ha;cases hd:dh (edgsT (cart e.time l).n l.length) (dw c e) with
   |none=>
    rw[hd] at ha m2;cases ha;unfold yC;simp[stC,EV,dE,m0,m1,bX,fx,fU,fN,hpt,m2,WJ,g18,yu]
   |some d=>
    rw[hd] at ha m2;simp only at ha m2;obtain⟨s1,s2,s3⟩:=lC (vB hl) h n1 hd;have ap:=eF (f:=crow) (l:=out) (k:=[eO c e]) (bytes:=16) (z:=2) (by simp;omega) gb;rw[hce] at ap ha;have ih:=L2 (N:=N) (f:=f) (l:=l) (t:=t) hl hr ht (e0:=e0) (e1:=e1) (e2:=e2) n m d (out++[x.c]) r (by omega) (by rw[aD,aN];omega) s1 (by rw[s2];exact n2) ha;rw[s2] at ih;simp only[stC,aL,aI] at ih;refine bT ?_ ih;unfold yC;simp only[stC,aL,aI,EV,ay,dE,m0,az,m1,bX,fx,fU,aA,aF,au,aw,fN,hpt,m2,mJ,yx,um,ap,ah,cQ0,cQ1,cQ2,cQ3,cQ4,cQ5,cQ6,cQ7,cQ8,cQ9,NM,NN,NO,s2]
def PY {N:Nat}{f:JT}{l:List Pt}{t:Rt}(hl:okF l)(hr:rok t=true)(ht:aS t){pl:List Int}(h1:1<=pl.length)(h2:pl.length<=64)(hv:∀x∈pl,dV l x)(hoc:gK pl){e0 e1 e2 e4 e5 e6 e7 e8 e9 e10 e11:PV}:∀(n m:Nat) (c:Clock) (out:List Crt) (r:Option (Clock×List Crt)),n<=m->out.length+n<=1000000->Stl l c->crs c.n t<=0->adv (λt=>edsB (bracketOf t l pl).w pl (bracketOf t l pl).w.length) t n c out=some r->
  dl (bx D) N B4 [f] [e0,e1,e2,R t,e4,e5,e6,e7,e8,e9,e10,e11] m (stC c++[sl I1 pl,sl I1 (bracketOf c.n l pl).w,sl crow out,.i64 (out.length:Int)])=match r with
   |some (d,out')=>f (sl crow out':: .i64 (out'.length:Int)::(stC d++[sl I1 pl,sl I1 (bracketOf d.n l pl).w]))
   |none=>some [KTz,.sl [],.i64 18]
 |0,m,c,out,r,hm,ho,h,hp,ha=>by cases ha
 |n+1,m,c,out,r,hm,ho,h,hp,ha=>by
  obtain⟨m,rfl⟩:∃m',m=m'+1:=⟨m-1,by omega⟩;rw[bu];unfold adv at ha;cases he:fu c t with
  |none=>
   rw[he] at ha;cases ha;have m1:=phi (FG h.ok h.n64 hr ht hp (il he));have g6:(!decide ((6:Int)=0))=true:=rfl;unfold B4;simp[stC,EV,dE,m1,lx,fx,fU,g6]
  |some e=>
   obtain⟨n1,n2,n3⟩:=d9 he;obtain⟨i,x,hi,hxe,hce,hf⟩:=jr h.ok n1;obtain⟨f1,f2⟩:=iN h.ok n1 h.n64;have hpt:(dw c e).p=l:=h.p;have hnow:(dw c e).n=e.time:=rfl;have m1:=phi (NG h.ok h.n64 hr ht hp n1 n3 hi hxe);have m2:=phi (agM f1 f2 h1 h2 (λx hx=>by rw[hpt];exact hv x hx) hoc);unfold zV at m2;rw[hpt,hnow] at m2;rw[he] at ha;simp only at ha;cases hd:dh (edsB (bracketOf e.time l pl).w pl (bracketOf e.time l pl).w.length) (dw c e) with
   |none=>
    rw[hd] at ha m2;cases ha;unfold B4;simp only[stC,aL,aI,EV,ay,dE,m1,bX,fx,fU,aA,aF,au,aw,fN,hpt,m2,WK,g18,az,yr]
   |some d=>
    rw[hd] at ha m2;simp only at ha m2;obtain⟨s1,s2,s3⟩:=lC (sF hl h1 h2 hv hoc) h n1 hd;have ap:=eF (f:=crow) (l:=out) (k:=[eO c e]) (bytes:=16) (z:=2) (by simp;omega) gb;rw[hce] at ap ha;have ih:=PY (N:=N) (f:=f) (l:=l) (t:=t) hl hr ht h1 h2 hv hoc (e0:=e0) (e1:=e1) (e2:=e2) (e4:=e4) (e5:=e5) (e6:=e6) (e7:=e7) (e8:=e8) (e9:=e9) (e10:=e10) (e11:=e11) n m d (out++[x.c]) r (by omega) (by rw[aD,aN];omega) s1 (by rw[s2];exact n2) ha;rw[s2] at ih;simp only[stC,aL,aI] at ih;refine bT ?_ ih;unfold B4;simp only[stC,aL,aI,EV,ay,dE,m1,bX,fx,fU,aA,aF,au,aw,fN,hpt,m2,mI,yx,um,ap,ah,cY0,cY1,cY2,cY3,cY4,cY5,cY6,cY7,cY8,cY9,NQ,NR,NS,s2];rfl
def L3 {N:Nat}{f:JT}{l:List Pt}{t:Rt}(hl:okF l)(hr:rok t=true)(ht:aS t){pl:List Int}(h1:1<=pl.length)(h2:pl.length<=64)(hv:∀x∈pl,dV l x)(hoc:gK pl){e0 e1 e2:PV}:∀(n m:Nat) (c:Clock) (out:List Crt) (r:Option (Clock×List Crt)),n<=m->out.length+n<=1000000->Stl l c->crs c.n t<=0->adv (λt=>edsB (bracketOf t l pl).w pl (bracketOf t l pl).w.length) t n c out=some r->
  dl (bx D) N yB [f] [e0,e1,e2,R t] m (stC c++[sl I1 pl,sl I1 (bracketOf c.n l pl).w,sl crow out,.i64 (out.length:Int)])=match r with
   |some (d,out')=>f (sl crow out':: .i64 (out'.length:Int)::(stC d++[sl I1 pl,sl I1 (bracketOf d.n l pl).w]))
   |none=>some [KTz,.sl [],.i64 18]
 |0,m,c,out,r,hm,ho,h,hp,ha=>by cases ha
 |n+1,m,c,out,r,hm,ho,h,hp,ha=>by
  obtain⟨m,rfl⟩:∃m',m=m'+1:=⟨m-1,by omega⟩;rw[bu];unfold adv at ha;cases he:fu c t with
  |none=>
   rw[he] at ha;cases ha;have m0:=phi (AU (c:=c) (nh h.ok h.n64) ht);rw[il he] at m0;unfold yB;simp[stC,EV,dE,m0]
  |some e=>
   obtain⟨n1,n2,n3⟩:=d9 he;obtain⟨i,x,hi,hxe,hce,hf⟩:=jr h.ok n1;obtain⟨f1,f2⟩:=iN h.ok n1 h.n64;have hpt:(dw c e).p=l:=h.p;have hnow:(dw c e).n=e.time:=rfl;have m0:=phi (AU (c:=c) (nh h.ok h.n64) ht);rw[n3] at m0;have m1:=phi (NH h.ok h.n64 n1 hi hxe);have m2:=phi (agN f1 f2 h1 h2 (λx hx=>by rw[hpt];exact hv x hx) hoc);unfold zV at m2;rw[hpt,hnow] at m2;rw[he] at ha;simp only at ha;cases hd:dh (edsB (bracketOf e.time l pl).w pl (bracketOf e.time l pl).w.length) (dw c e) with
   |none=>
    rw[hd] at ha m2;cases ha;unfold yB;simp[stC,EV,dE,m0,m1,bX,fx,fU,fN,hpt,m2,WK,g18,yr]
   |some d=>
    rw[hd] at ha m2;simp only at ha m2;obtain⟨s1,s2,s3⟩:=lC (sF hl h1 h2 hv hoc) h n1 hd;have ap:=eF (f:=crow) (l:=out) (k:=[eO c e]) (bytes:=16) (z:=2) (by simp;omega) gb;rw[hce] at ap ha;have ih:=L3 (N:=N) (f:=f) (l:=l) (t:=t) hl hr ht h1 h2 hv hoc (e0:=e0) (e1:=e1) (e2:=e2) n m d (out++[x.c]) r (by omega) (by rw[aD,aN];omega) s1 (by rw[s2];exact n2) ha;rw[s2] at ih;simp only[stC,aL,aI] at ih;refine bT ?_ ih;unfold yB;simp only[stC,aL,aI,EV,ay,dE,m0,az,m1,bX,fx,fU,aA,aF,au,aw,fN,hpt,m2,mI,yx,um,ap,ah,cY0,cY1,cY2,cY3,cY4,cY5,cY6,cY7,cY8,cY9,NQ,NR,NS,s2];rfl
def aat (c:Clock):RF.ev (.part 0 10) [CL c]=some (.agg ((clC c).take 10)):=rfl
def aau (c:Clock)(b:Brk):RF.ev .agg [.agg ((clC c).take 10),sl cp c.d,BR b]=some (KT ⟨c,b⟩):=rfl
def aav (c:Clock)(b:Tree):RF.ev .agg [.agg ((clC c).take 10),sl cp c.d,TR b]=some (HT ⟨c,b⟩):=rfl
def ajX {b:Brk}(h1:b.p.length<=1000)(h2:b.w.length<=1000):Ans D 295 [BR b] [BR b]:=by
 refine am ?_;unfold adn;simp[kD,uH,k9,iZ (l:=b.p) (f:=I1) (bytes:=8) (z:=1) (by omega) ct,iZ (l:=b.w) (f:=I1) (bytes:=8) (z:=1) (by omega) ct,EV,bI];rfl
def ajY {x:Tree}(h:x.n.length<=1000):Ans D 296 [TR x] [TR x]:=by
 refine am ?_;unfold ado;simp[pq,TW,nO,iZ (l:=x.n) (f:=dB) (bytes:=24) (z:=3) (by omega) ol,EV,bI];rfl
def c40 {k:KTourn}(h:CSm k.c)(h1:k.b.p.length<=1000)(h2:k.b.w.length<=1000):Ans D 208 [KT k] [KT k]:=by
 have s0:=BK k.c;refine am ?_;unfold k40;simp[mI,pKT,phi (wQ h),bX,dT,Dv,phi (ajX h1 h2),kD,GO,EV,aat,s0,aau]
def c41 {k:Heater}(h:CSm k.c)(h1:k.t.n.length<=1000):Ans D 209 [HT k] [HT k]:=by
 have s0:=BK k.c;refine am ?_;unfold k41;simp[mJ,pHT,phi (wQ h),bX,dT,TX,phi (ajY h1),pq,GP,EV,aat,s0,aav]
def PZ (l k:List Pt):(l.flatMap λp=>k.map λq=>(p,q)).length=l.length*k.length:=by
 induction l with
 |nil=>simp
 |cons a l ih=>rw[dA,aD,ah,ih,aZ,cx];omega
def EN {l:List Pt}(h:okF l)(t:Rt):gt t l<5000:=by
 have h1:gt t l<=(xT l).length:=iD;have h2:(xT l).length=l.length*l.length:=PZ l l;have h3:=eV h.1 h.1;omega
def fG (E:Rt->List Crt)(t:Rt)(c:Clock):Option (Clock×List Crt):=(adv E t 5000 c []).getD none
def nF {l:List Pt}{E:Rt->List Crt}(hl:okF l)(hE:EdgH l E){t:Rt}{c:Clock}(h:Stl l c):adv E t 5000 c []=some (fG E t c):=by
 obtain⟨r,hr⟩:=K7 hE (t:=t) 5000 c [] h (EN hl _);unfold fG;rw[hr];rfl
def lR {l:List Pt}{E:Rt->List Crt}(hE:EdgH l E){t:Rt}:∀(n:Nat) (c:Clock) (out:List Crt) (d:Clock) (out':List Crt),Stl l c->crs c.n t<=0->adv E t n c out=some (some (d,out'))->Stl l d/\ crs d.n t<=0/\ gM d t=false/\(d=c\/∀y∈d.q.l,y.c∈E d.n)/\ out'.length<=out.length+n
 |0,c,out,d,out',_,_,h=>by cases h
 |n+1,c,out,d,out',h,hp,ha=>by
  unfold adv at ha;cases he:fu c t with
  |none=>
   rw[he] at ha;cases ha;exact⟨h,hp,il he,.inl rfl,by omega⟩
  |some e=>
   rw[he] at ha;simp only at ha;cases hd:dh (E e.time) (dw c e) with
   |none=>rw[hd] at ha;cases ha
   |some d0=>
    rw[hd] at ha;simp only at ha;obtain⟨n1,n2,_⟩:=d9 he;obtain⟨s1,s2,s3⟩:=lC hE h n1 hd;obtain⟨q1,q2,q3,q4,q5⟩:=lR hE n d0 _ d out' s1 (by rw[s2];exact n2) ha;refine⟨q1,q2,q3,.inr ?_,by rw[aD,aN] at q5;omega⟩;rcases q4 with q4|q4
    .subst q4;obtain⟨f1,f2⟩:=iN h.ok n1 h.n64;have hr:=(h.ok.2.2.2.1.2.2.1 e (ax n1)).1;have hpt:(dw c e).p=l:=h.p;rw[s2];exact zE (by rw[hpt];exact hE.ok _ hr f2) f1 f2 hd
    .exact q4
def goU (k:KHeap)(t:Rt):List PV:=match fG (λt=>cG k.c.p (cF t k.c.p)) t k.c with
 |some (d,out)=>[KH ⟨atC d t,cF t k.c.p⟩,sl crow out,.i64 0]
 |none=>[KHz,.sl [],.i64 18]
def c48 {k:KHeap}{t:Rt}(hchk:Ans D 71 [KH k] [.i64 0])(h:Stl k.c.p k.c)(hu:k.heap=cF k.c.n k.c.p)(hr:rok t=true)(ht:aS t)(hp:crs k.c.n t<=0):Ans D 99 [KH k,R t] (goU k t):=by
 have hl:=h.ok.2.1;have hE:=vA hl;have ha:=nF hl hE (t:=t) h;have m1:=phi hchk;have m2:=phi (c43 ht);rw[hr,show okE true=0 from rfl] at m2
 have m3:=phi (rD ht h.n64);rw[hr,h.ok.1] at m3;have ng:¬sgn (crs t k.c.n)<0:=by
  have:=eJ t k.c.n;unfold sgn
  grind
 have pR0:RF.ev (.part 0 2) [KH k]=some (R k.c.n):=rfl;have key:den (bx D) 5001 k48 [] [KH k,R t]=some (goU k t):=by
  unfold k48;simp only[ay,gc,ea,m1,m2,EV,aA,aF,au,aw,pR0,m3,gH,az,ng,be,cH0,cH1,cH2,cH3,cH4,cH5,cH6,cH7,cH8,cH9,DK,xd,hu];refine(PW (N:=5001) hl hr ht 5000 5001 k.c [] _ (by omega) (by simp) h hp ha).trans ?_;unfold goU;cases hg:fG (λt=>cG k.c.p (cF t k.c.p)) t k.c with
  |none=>rfl
  |some z=>
   obtain⟨d,out⟩:=z;rw[hg] at ha;obtain⟨q1,q2,q3,_,q5⟩:=lR hE 5000 k.c [] d out h hp ha;have m4:=phi (NI q1.ok q1.n64 hr ht q2 q3);have fp:(atC d t).p=k.c.p:=q1.p;have s0:=bI (f:=crow) (l:=out);unfold Xj;simp only[stC,aL,aI,EV,ay,dE,m4,bX,fN,fp,phi (Gs hl ht hr),iB,yw,s0]
 unfold goU at key|-;cases hg:fG (λt=>cG k.c.p (cF t k.c.p)) t k.c with
 |none=>rw[hg] at key;exact an ⟨5001,key⟩
 |some z=>rw[hg] at key;exact an ⟨5001,key⟩
def AV {l:List Pt}{es:List Crt}{d:Clock}{t:Rt}(h:Stl l d)(hr:rok t=true)(hp:crs d.n t<=0)(hw:gM d t=false)(ha:∀x∈es,∃y∈d.q.l,y.c=x):∀x∈es,leads t (bh l x.h) (bh l x.j)=true:=λx hx=>by
 obtain⟨y,hy,e⟩:=ha x hx;have:=V2 h.ok hr hp hw hy (h.holds y hy);rw[h.p,e] at this;exact this
def ajZ {k:KHeap}{t:Rt}(h:Stl k.c.p k.c)(hu:k.heap=cF k.c.n k.c.p)(hall:∀x∈cG k.c.p (cF k.c.n k.c.p),∃y∈k.c.q.l,y.c=x)(hr:rok t=true)(ht:aS t)(hp:crs k.c.n t<=0):Ans D 109 [KH k,R t] (goU k t):=by
 have hl:=h.ok.2.1;have hE:=vA hl;have ha:=nF hl hE (t:=t) h;have key:den (bx D) 5001 UE [] [KH k,R t]=some (goU k t):=by
  unfold UE;simp only[ay,gc,ea,EV,cH0,cH1,cH2,cH3,cH4,cH5,cH6,cH7,cH8,cH9,DK,xd,hu];refine(L1 (N:=5001) hl hr ht 5000 5001 k.c [] _ (by omega) (by simp) h hp ha).trans ?_;unfold goU;cases hg:fG (λt=>cG k.c.p (cF t k.c.p)) t k.c with
  |none=>rfl
  |some z=>
   obtain⟨d,out⟩:=z;rw[hg] at ha;obtain⟨q1,q2,q3,_,q5⟩:=lR hE 5000 k.c [] d out h hp ha;have hs:=Aq hE 5000 k.c [] d out h hall ha;have same:=V3 (t:=d.n) (t':=t) hl (AV q1 hr q2 q3 hs);have s0:=bI (f:=crow) (l:=out);have hul:(cF d.n k.c.p).length<=1000:=by unfold cF;rw[ah];have:=hl.1;omega
   have s1:=bI (f:=I1) (l:=cF d.n k.c.p);unfold Qi;simp only[stC,aL,aI,EV,ay,dE,phi (NJ (ii q1.ok) (t:=t)),bX,iB,iZ (l:=cF d.n k.c.p) (f:=I1) (bytes:=8) (z:=1) (by omega) ct,ah,s1,yw,s0,same]
 unfold goU at key|-;cases hg:fG (λt=>cG k.c.p (cF t k.c.p)) t k.c with
 |none=>rw[hg] at key;exact an ⟨5001,key⟩
 |some z=>rw[hg] at key;exact an ⟨5001,key⟩
def goH (k:Heater)(t:Rt):List PV:=match fG (λt=>edgsT (cart t k.c.p).n k.c.p.length) t k.c with
 |some (d,out)=>[HT ⟨atC d t,cart t k.c.p⟩,sl crow out,.i64 0]
 |none=>[HTz,.sl [],.i64 18]
def WL (x:Tree):RF.ev (.shape 2) [TR x]=some (TR x):=rfl
def c47 {k:Heater}{t:Rt}(hchk:Ans D 70 [HT k] [.i64 0])(h:Stl k.c.p k.c)(hu:k.t=cart k.c.n k.c.p)(hr:rok t=true)(ht:aS t)(hp:crs k.c.n t<=0):Ans D 98 [HT k,R t] (goH k t):=by
 have hl:=h.ok.2.1;have hE:=vB hl;have ha:=nF hl hE (t:=t) h;have m1:=phi hchk;have m2:=phi (c43 ht);rw[hr,show okE true=0 from rfl] at m2
 have m3:=phi (rD ht h.n64);rw[hr,h.ok.1] at m3;have ng:¬sgn (crs t k.c.n)<0:=by
  have:=eJ t k.c.n;unfold sgn
  grind
 have pR0:RF.ev (.part 0 2) [HT k]=some (R k.c.n):=rfl;have key:den (bx D) 5001 k47 [] [HT k,R t]=some (goH k t):=by
  unfold k47;simp only[ay,mJ,ea,m1,m2,EV,aA,aF,au,aw,pR0,m3,gH,az,ng,be,cQ0,cQ1,cQ2,cQ3,cQ4,cQ5,cQ6,cQ7,cQ8,cQ9,NM,NN,NO,hu];refine(PX (N:=5001) hl hr ht 5000 5001 k.c [] _ (by omega) (by simp) h hp ha).trans ?_;unfold goH;cases hg:fG (λt=>edgsT (cart t k.c.p).n k.c.p.length) t k.c with
  |none=>rfl
  |some z=>
   obtain⟨d,out⟩:=z;rw[hg] at ha;obtain⟨q1,q2,q3,_,q5⟩:=lR hE 5000 k.c [] d out h hp ha;have m4:=phi (NI q1.ok q1.n64 hr ht q2 q3);have fp:(atC d t).p=k.c.p:=q1.p;have s0:=bI (f:=crow) (l:=out);unfold Xi;simp only[stC,aL,aI,EV,ay,dE,m4,bX,fN,fp,phi (Gu hl ht hr (mL hl) (vp hl)),WL,GP,iB,FC,s0]
 unfold goH at key|-;cases hg:fG (λt=>edgsT (cart t k.c.p).n k.c.p.length) t k.c with
 |none=>rw[hg] at key;exact an ⟨5001,key⟩
 |some z=>rw[hg] at key;exact an ⟨5001,key⟩
def X4 (c:Clock)(x:Tree):RF.ev .agg [.i64 c.n.num,.i64 c.n.den,sl row c.p,.i64 c.q.next,sl hrow c.q.l,sl I1 c.a.s.u,sl B1 c.a.s.v,sl I1 c.a.s.f,sl bV c.a.heap,sl I1 c.a.w,sl cp c.d,.i64 x.root,sl dB x.n]=some (HT ⟨c,x⟩):=rfl
def X5 (c:Clock)(b:Brk):RF.ev .agg [.i64 c.n.num,.i64 c.n.den,sl row c.p,.i64 c.q.next,sl hrow c.q.l,sl I1 c.a.s.u,sl B1 c.a.s.v,sl I1 c.a.s.f,sl bV c.a.heap,sl I1 c.a.w,sl cp c.d,sl I1 b.p,sl I1 b.w]=some (KT ⟨c,b⟩):=rfl
def WM (x:Brk):RF.ev (.shape 2) [BR x]=some (BR x):=rfl
def aj0 {k:Heater}{t:Rt}(h:Stl k.c.p k.c)(hu:k.t=cart k.c.n k.c.p)(hall:∀x∈edgsT (cart k.c.n k.c.p).n k.c.p.length,∃y∈k.c.q.l,y.c=x)(hr:rok t=true)(ht:aS t)(hp:crs k.c.n t<=0):Ans D 108 [HT k,R t] (goH k t):=by
 have hl:=h.ok.2.1;have hE:=vB hl;have ha:=nF hl hE (t:=t) h;have key:den (bx D) 5001 UD [] [HT k,R t]=some (goH k t):=by
  unfold UD;simp only[ay,mJ,ea,EV,cQ0,cQ1,cQ2,cQ3,cQ4,cQ5,cQ6,cQ7,cQ8,cQ9,NM,NN,NO,hu];refine(L2 (N:=5001) hl hr ht 5000 5001 k.c [] _ (by omega) (by simp) h hp ha).trans ?_;unfold goH;cases hg:fG (λt=>edgsT (cart t k.c.p).n k.c.p.length) t k.c with
  |none=>rfl
  |some z=>
   obtain⟨d,out⟩:=z;rw[hg] at ha;obtain⟨q1,q2,q3,_,q5⟩:=lR hE 5000 k.c [] d out h hp ha;have hs:=Aq hE 5000 k.c [] d out h hall ha;have same:=Pr (t:=d.n) (t':=t) hl (AV q1 hr q2 q3 hs);have s0:=bI (f:=crow) (l:=out);have m5:=phi (c41 (k:=⟨d,cart d.n k.c.p⟩) (ii q1.ok) (by show(cart d.n k.c.p).n.length<=1000;rw[jl hl];have:=hl.1;omega))
   unfold Qh;simp only[stC,aL,aI,EV,ay,X4,m5,mJ,pHT,phi (NJ (ii q1.ok) (t:=t)),TX,bX,WL,iB,GP,FC,s0,same]
 unfold goH at key|-;cases hg:fG (λt=>edgsT (cart t k.c.p).n k.c.p.length) t k.c with
 |none=>rw[hg] at key;exact an ⟨5001,key⟩
 |some z=>rw[hg] at key;exact an ⟨5001,key⟩
def edT (l:List Pt)(pl:List Int)(t:Rt):List Crt:=edsB (bracketOf t l pl).w pl (bracketOf t l pl).w.length
def goT (k:KTourn)(t:Rt):List PV:=match fG (edT k.c.p k.b.p) t k.c with
 |some (d,out)=>[KT ⟨atC d t,bracketOf t k.c.p k.b.p⟩,sl crow out,.i64 0]
 |none=>[KTz,.sl [],.i64 18]
section
variable {k:KTourn}{t:Rt}(h:Stl k.c.p k.c)(hu:k.b=bracketOf k.c.n k.c.p k.b.p)(h1:1<=k.b.p.length)(h2:k.b.p.length<=64)(hv:∀x∈k.b.p,dV k.c.p x)(ho:gK k.b.p)(hr:rok t=true)(ht:aS t)(hp:crs k.c.n t<=0)
include h hu h1 h2 hv ho hr ht hp
theorem c46 (hchk:Ans D 69 [KT k] [.i64 0]):Ans D 97 [KT k,R t] (goT k t):=by
 have hl:=h.ok.2.1;have hE:=sF hl h1 h2 hv ho;have ha:=nF hl hE (t:=t) h;have m1:=phi hchk;have m2:=phi (c43 ht);rw[hr,show okE true=0 from rfl] at m2
 have m3:=phi (rD ht h.n64);rw[hr,h.ok.1] at m3;have ng:¬sgn (crs t k.c.n)<0:=by
  have:=eJ t k.c.n;unfold sgn
  grind
 have pR0:RF.ev (.part 0 2) [KT k]=some (R k.c.n):=rfl;have hw:k.b.w=(bracketOf k.c.n k.c.p k.b.p).w:=aW Brk.w hu;have key:den (bx D) 5001 k46 [] [KT k,R t]=some (goT k t):=by
  unfold k46;simp only[ay,mI,ea,m1,m2,EV,aA,aF,au,aw,pR0,m3,gH,az,ng,be,cY0,cY1,cY2,cY3,cY4,cY5,cY6,cY7,cY8,cY9,NQ,NR,NS];rw[hw];refine(PY (N:=5001) hl hr ht h1 h2 hv ho 5000 5001 k.c [] _ (by omega) (by simp) h hp ha).trans ?_;unfold goT;have e:edT k.c.p k.b.p=λt=>edsB (bracketOf t k.c.p k.b.p).w k.b.p (bracketOf t k.c.p k.b.p).w.length:=rfl;rw[e];cases hg:fG (λt=>edsB (bracketOf t k.c.p k.b.p).w k.b.p (bracketOf t k.c.p k.b.p).w.length) t k.c with
  |none=>rfl
  |some z=>
   obtain⟨d,out⟩:=z;rw[hg] at ha;obtain⟨q1,q2,q3,_,q5⟩:=lR hE 5000 k.c [] d out h hp ha;have m4:=phi (NI q1.ok q1.n64 hr ht q2 q3);have fp:(atC d t).p=k.c.p:=q1.p;have s0:=bI (f:=crow) (l:=out);have m6:bx D 159 [F k.c.p,R t,sl I1 k.b.p]=some [BR (bracketOf t k.c.p k.b.p),sl crow (edsB (bracketOf t k.c.p k.b.p).w k.b.p (bracketOf t k.c.p k.b.p).w.length)]:=phi (No hl ht hr h1 h2 hv ho rfl);unfold Xh;simp only[stC,aL,aI,EV,ay,dE,m4,bX,fN,fp,m6,WM,GO,iB,FB,s0]
 unfold goT at key|-;cases hg:fG (edT k.c.p k.b.p) t k.c with
 |none=>rw[hg] at key;exact an ⟨5001,key⟩
 |some z=>rw[hg] at key;exact an ⟨5001,key⟩
theorem aj1 (hall:∀x∈edT k.c.p k.b.p k.c.n,∃y∈k.c.q.l,y.c=x):Ans D 107 [KT k,R t] (goT k t):=by
 have hl:=h.ok.2.1;have hE:=sF hl h1 h2 hv ho;have ha:=nF hl hE (t:=t) h;have hw:k.b.w=(bracketOf k.c.n k.c.p k.b.p).w:=aW Brk.w hu;have key:den (bx D) 5001 UC [] [KT k,R t]=some (goT k t):=by
  unfold UC;simp only[ay,mI,ea,EV,cY0,cY1,cY2,cY3,cY4,cY5,cY6,cY7,cY8,cY9,NQ,NR,NS];rw[hw];refine(L3 (N:=5001) hl hr ht h1 h2 hv ho 5000 5001 k.c [] _ (by omega) (by simp) h hp ha).trans ?_;unfold goT;have e:edT k.c.p k.b.p=λt=>edsB (bracketOf t k.c.p k.b.p).w k.b.p (bracketOf t k.c.p k.b.p).w.length:=rfl;rw[e];cases hg:fG (λt=>edsB (bracketOf t k.c.p k.b.p).w k.b.p (bracketOf t k.c.p k.b.p).w.length) t k.c with
  |none=>rfl
  |some z=>
   obtain⟨d,out⟩:=z;rw[hg] at ha;obtain⟨q1,q2,q3,_,q5⟩:=lR hE 5000 k.c [] d out h hp ha;have hs:=Aq hE 5000 k.c [] d out h hall ha;have same:=K8 (t:=d.n) (t':=t) hl h1 h2 hv ho (AV q1 hr q2 q3 hs);have s0:=bI (f:=crow) (l:=out);have wl:=(gA (t:=d.n) hl h1 h2 hv ho).1;have m5:=phi (c40 (k:=⟨d,bracketOf d.n k.c.p k.b.p⟩) (ii q1.ok) (by show k.b.p.length<=1000;omega) (by show(bracketOf d.n k.c.p k.b.p).w.length<=1000;omega))
   have ag:=X5 d (bracketOf d.n k.c.p k.b.p);have bp:(bracketOf d.n k.c.p k.b.p).p=k.b.p:=rfl;rw[bp] at ag;unfold Qg;simp only[stC,aL,aI,EV,ay,ag,m5,mI,pKT,phi (NJ (ii q1.ok) (t:=t)),Dv,bX,WM,iB,GO,FB,s0,same]
 unfold goT at key|-;cases hg:fG (edT k.c.p k.b.p) t k.c with
 |none=>rw[hg] at key;exact an ⟨5001,key⟩
 |some z=>rw[hg] at key;exact an ⟨5001,key⟩
end
def WN {l:List Int}(hn:l.Nodup){m:Nat}{v:Int}(h:l[m]?=some v):rC (λy=>decide (v=y)) l=(m:Int):=by
 have:l.findIdx? (λy=>decide (v=y))=some m:=by
  obtain⟨h1,h2⟩:=aC.1 h;rw[bL];refine⟨h1,by rw[h2];simp,λj hj e=>?_⟩;simp at e;have:=dL.1 hn j m v (by rw[ai (tK hj h1),e]) h;omega
 unfold rC;rw[this];rfl
def aaw {l:List Int}(hn:l.Nodup)(hl:l.length<=1000){m:Nat}{v:Int}(h:l[m]?=some v):Ans D 205 [sl I1 l,.i64 v] [.i64 (m:Int)]:=by
 have key:den (bx D) 1001 UK [] [sl I1 l,.i64 v]=some [.i64 (m:Int)]:=by
  unfold UK;simp[EV];refine(j7 (m:=1001) (l:=l) (p:=λg=>decide (g=v)) (st:=λi=>[.i64 (i:Int)]) (ret:=λi=>some [.i64 (i:Int)]) (fin:=some [.i64 (-1)]) (λk g self hg=>?_) (λself=>?_) (by omega)).trans ?_
  .unfold Il;simp only[EV,ah,aa,bj (aO hg),aT hg (ct _),aM hg,cZ,up1 (show k<1000000000 by have:=aO hg;omega)]
  .unfold Il;simp only[ay,EV,ah,aa,bK,Rc]
  .have:l.findIdx? (λg=>decide (g=v))=some m:=by
    obtain⟨h1,h2⟩:=aC.1 h;rw[bL];refine⟨h1,by rw[h2];simp,λj hj e=>?_⟩;simp only[aa] at e;have:=dL.1 hn j m v (by rw[ai (tK hj h1),e]) h;omega
   rw[this];rfl
 exact an ⟨1001,key⟩
def agS {k:KHeap}{t:Rt}(h:bJ k.c)(hn:aS k.c.n)(hr:rok t=true)(ht:aS t)(hp:crs k.c.n t<=0)(hw:gM k.c t=false):Ans D 194 [KH k,R t] [KHz,CP C0,.i64 6]:=by
 have m1:=phi (FG h hn hr ht hp hw);have g6:(!decide ((6:Int)=0))=true:=rfl;refine am ?_;unfold Ol;simp[gc,ea,pKH,m1,lx,fx,fU,EV,pD,WG]
def KHe (u:List Int):PV:= .agg [.i64 0,.i64 0,.sl [],.i64 0,.sl [],.sl [],.sl [],.sl [],.sl [],.sl [],.sl [],sl I1 u]
def aax (u:List Int):RF.ev .agg [CLz,sl I1 u]=some (KHe u):=rfl
def evH (c:Clock)(e:Evt)(x:Crt)(hp:List Int):List PV:=match dh (cW hp) (dw c e) with
 |some d=>[KH ⟨d,hp⟩,CP x,.i64 0]
 |none=>[KHe hp,CP x,.i64 18]
def aj2 {k:KHeap}{t:Rt}(h:bJ k.c)(hn:aS k.c.n)(hr:rok t=true)(ht:aS t)(hp:crs k.c.n t<=0){e:Evt}(he:k.c.a.heap[0]?=some e)(hw:gM k.c t=true){i:Nat}{x:Held}(hx:k.c.q.l[i]?=some x)(hxe:x.n=e.n)
  (hnd:k.heap.Nodup) (hl:k.heap.length<=64) {n m:Nat} (hnm:n<m) (ha:k.heap[n]?=some x.c.h) (hb:k.heap[m]?=some x.c.j) (hE:EdgF k.c.p (cW (d5 k.heap n m x.c.h x.c.j))):Ans D 194 [KH k,R t] (evH k.c e x.c (d5 k.heap n m x.c.h x.c.j)):=by
 have m1:=phi (NG h hn hr ht hp he hw hx hxe);obtain⟨f1,f2⟩:=iN h he hn;have hlen:(d5 k.heap n m x.c.h x.c.j).length=k.heap.length:=by unfold d5;rw[aP,aP]
 have hle:(cW (d5 k.heap n m x.c.h x.c.j)).length<=1000:=by unfold cW;rw[kg];omega
 have m2:=phi (WI f1 f2 (es:=cW (d5 k.heap n m x.c.h x.c.j)) hE hle);have m3:=phi (T9 (l:=d5 k.heap n m x.c.h x.c.j) (by omega));have m4:=phi (rG (l:=k.heap) (by omega));have i1:=phi (T7 (l:=k.heap) x.c.j (by omega));have i2:=phi (T7 (l:=k.heap) x.c.h (by omega));rw[WN hnd hb] at i1;rw[WN hnd ha] at i2;have hnl:=bo ha;have hml:=bo hb;have s0:=bI (f:=I1) (l:=k.heap);have s1:=fy (l:=k.heap) hml x.c.h;have s2:=fy (l:=k.heap.set m x.c.h) (i:=n) (by rw[aP];exact hnl) x.c.j;have sw:(k.heap.set m x.c.h).set n x.c.j=d5 k.heap n m x.c.h x.c.j:=by unfold d5;rw[lM _ _ (by omega)]
 rw[sw] at s2;have s3:=bI (f:=I1) (l:=d5 k.heap n m x.c.h x.c.j);rw[hlen] at s3;have fp:(dw k.c e).p=k.c.p:=rfl;have pz:RF.ev (.part 0 11) [CLz]=some CLz:=rfl;unfold fA at m2;rw[fp] at m2;unfold evH;cases hq:dh (cW (d5 k.heap n m x.c.h x.c.j)) (dw k.c e) with
 |none=>
  rw[hq] at m2;refine am ?_;unfold Ol;simp only[ay,gc,ea,pKH,m1,bX,fx,fU,EV,aA,aF,au,aw,xd,m4,ah,s0,kb,ke,i1,i2,ixM hnl,ixM hml,aM ha,aM hb,cZ,s1,s2,fN,fp,s3,m3,m2,lx,pz,aax]
 |some d=>
  rw[hq] at m2;refine am ?_;unfold Ol;simp only[ay,gc,ea,pKH,m1,bX,fx,fU,EV,aA,aF,au,aw,xd,m4,ah,s0,kb,ke,i1,i2,ixM hnl,ixM hml,aM ha,aM hb,cZ,s1,s2,fN,fp,s3,m3,m2,iB,yw]
def WO (l:List Crt):RF.ev .flatL [sl crow l]=some (sl crow l):=by
 have:(l.map crow).flatten.all isV=true:=by
  induction l with
  |nil=>rfl
  |cons a l ih=>simp[crow,isV]
 show(if _ then _ else _)=_
 grind
def L4 {N:Nat}{f:JT}{l:List Pt}{t:Rt}(hl:okF l)(hr:rok t=true)(ht:aS t){L:Nat}{e0 e1 e2 e4 e5 e6 e8:PV}:∀(n m:Nat) (c:Clock) (hp:List Int) (out:List Crt) (r:Option (Clock×List Int×List Crt)),n<=m->out.length+n<=100000000->HStl l c hp->hp.length=L->crs c.n t<=0->p7 t n c hp out=some r->
  dl (bx D) N yA [f] [e0,e1,e2,R t,e4,e5,e6,.i64 (L:Int),e8] m (stC c++[sl I1 hp,sl crow out,.i64 (out.length:Int)])=match r with
   |some (d,hq,out')=>f (sl crow out':: .i64 (out'.length:Int)::sl I1 hq::stC d)
   |none=>some [KHz,.sl [],.i64 18]
 |0,m,c,hp,out,r,hm,ho,h,hL,hp0,ha=>by cases ha
 |n+1,m,c,hp,out,r,hm,ho,h,hL,hp0,ha=>by
  obtain⟨m,rfl⟩:∃m',m=m'+1:=⟨m-1,by omega⟩;rw[bu];unfold p7 at ha;have m0:=phi (AU (c:=c) (nh h.ok h.n64) ht);cases he:fu c t with
  |none=>
   rw[he] at ha;cases ha;rw[il he] at m0;unfold yA;simp only[stC,aL,aI,EV,ay,dE,m0,au,aw]
  |some e=>
   obtain⟨n1,n2,n3⟩:=d9 he;rw[n3] at m0;obtain⟨i,x,hi,hxe,hce,hf⟩:=jr h.ok n1;obtain⟨p,q,q1,q2,q3,q4⟩:=sq h n1;obtain⟨f1,f2⟩:=iN h.ok n1 h.n64;have hpt:(dw c e).p=l:=h.p;have m1:=phi (NH h.ok h.n64 n1 hi hxe);have h64:hp.length<=64:=by rw[h.len];exact hl.1
   rw[he] at ha;simp only at ha;rw[q4] at ha;rw[hce] at q2 q3 ha;have pm:=xV q2 q3;have nd:=pm.nodup_iff.2 h.nd;have hE:EdgF (dw c e).p (cW (d5 hp p q x.c.h x.c.j)):=by rw[hpt];exact Lf hl nd λy hy=>h.inl y (pm.mem_iff.1 hy)
   have hlen:(d5 hp p q x.c.h x.c.j).length=hp.length:=pm.length_eq;have hle:(cW (d5 hp p q x.c.h x.c.j)).length<=1000:=by unfold cW;rw[kg];omega
   have m2:=phi (FH f1 f2 hE hle);unfold fA at m2;rw[hpt] at m2;have i1:=phi (aaw h.nd (by omega) q3);have i2:=phi (aaw h.nd (by omega) q2);have hnl:=bo q2;have hml:=bo q3;have s0:=bI (f:=I1) (l:=hp);have s1:=fy (l:=hp) hml x.c.h;have s2:=fy (l:=hp.set q x.c.h) (i:=p) (by rw[aP];exact hnl) x.c.j;have sw:(hp.set q x.c.h).set p x.c.j=d5 hp p q x.c.h x.c.j:=by unfold d5;rw[lM _ _ (by omega)]
   rw[sw] at s2;have s3:=bI (f:=I1) (l:=d5 hp p q x.c.h x.c.j);rw[hlen,hL] at s3;rw[hL] at s0;have m3:=phi (Ua (l:=d5 hp p q x.c.h x.c.j) (by omega));have s4:=bI (f:=crow) (l:=cW (d5 hp p q x.c.h x.c.j));cases hd:dh (cW (d5 hp p q x.c.h x.c.j)) (dw c e) with
   |none=>
    rw[hd] at ha m2;cases ha;unfold yA;simp only[stC,aL,aI,EV,ay,dE,m0,az,m1,bX,fx,fU,s0,kb,ke,i1,i2,ixM (show p<L by omega),ixM (show q<L by omega),aM q2,aM q3,cZ,s1,s2,fN,hpt,s3,m3,WO,ah,s4,m2,lx,g18,pD]
   |some d=>
    rw[hd] at ha m2;simp only at ha m2;obtain⟨t1,t2,t3⟩:=uE hl h n1 q1 (by rw[hce];exact q2) (by rw[hce];exact q3) (by rw[hce];exact hd);rw[hce] at t1;have ap:=eF (f:=crow) (l:=out) (k:=[x.c]) (bytes:=16) (z:=2) (by simp;omega) gb;have ih:=L4 (N:=N) (f:=f) (l:=l) (t:=t) hl hr ht (L:=L) (e0:=e0) (e1:=e1) (e2:=e2) (e4:=e4) (e5:=e5) (e6:=e6) (e8:=e8) n m d (d5 hp p q x.c.h x.c.j) (out++[x.c]) r (by omega) (by rw[aD,aN];omega) t1 (hlen.trans hL) (by rw[t2];exact n2) ha;simp only[stC,aL,aI] at ih;refine bT ?_ ih;unfold yA;simp only[stC,aL,aI,EV,ay,dE,m0,az,m1,bX,fx,fU,s0,kb,ke,i1,i2,ixM (show p<L by omega),ixM (show q<L by omega),aM q2,aM q3,cZ,s1,s2,fN,hpt,s3,m3,WO,ah,s4,m2,aA,aF,au,aw,iB,yx,um,ap,mN,mO,k8,py,fO,lY,lZ,l5,iK,kf,dT]
def DL (c:Clock)(u:List Int):RF.ev .agg [.i64 c.n.num,.i64 c.n.den,sl row c.p,.i64 c.q.next,sl hrow c.q.l,sl I1 c.a.s.u,sl B1 c.a.s.v,sl I1 c.a.s.f,sl bV c.a.heap,sl I1 c.a.w,sl cp c.d,sl I1 u]=some (KH ⟨c,u⟩):=rfl
def agT (u:List Int):RF.ev (.shape 12) [KHe u]=some (KHe u):=rfl
def P0 {N:Nat}{f:JT}{l:List Pt}{t:Rt}(hl:okF l)(hr:rok t=true)(ht:aS t){e0 e1 e2 e4 e5 e6 e7 e8 e9 e10 e11:PV}:∀(n m:Nat) (c:Clock) (hp:List Int) (out:List Crt) (r:Option (Clock×List Int×List Crt)),n<=m->out.length+n<=100000000->HStl l c hp->crs c.n t<=0->p7 t n c hp out=some r->
  dl (bx D) N B3 [f] [e0,e1,e2,R t,e4,e5,e6,e7,e8,e9,e10,e11] m (stC c++[sl I1 hp,sl crow out,.i64 (out.length:Int)])=match r with
   |some (d,hq,out')=>f (sl crow out':: .i64 (out'.length:Int)::(stC d++[sl I1 hq]))
   |none=>some [KHz,.sl [],.i64 18]
 |0,m,c,hp,out,r,hm,ho,h,hp0,ha=>by cases ha
 |n+1,m,c,hp,out,r,hm,ho,h,hp0,ha=>by
  obtain⟨m,rfl⟩:∃m',m=m'+1:=⟨m-1,by omega⟩;rw[bu];unfold p7 at ha;have n6:decide ((0:Int)=6)=false:=rfl;have n18:decide ((18:Int)=6)=false:=rfl;have y6:decide ((6:Int)=6)=true:=rfl;cases he:fu c t with
  |none=>
   rw[he] at ha;cases ha;have m1:=phi (agS (k:=⟨c,hp⟩) h.ok h.n64 hr ht hp0 (il he));unfold B3;simp[stC,EV,DL,m1,NL,fU,y6]
  |some e=>
   obtain⟨n1,n2,n3⟩:=d9 he;obtain⟨i,x,hi,hxe,hce,hf⟩:=jr h.ok n1;obtain⟨p,q,q1,q2,q3,q4⟩:=sq h n1;have h64:hp.length<=64:=by rw[h.len];exact hl.1
   rw[he] at ha;simp only at ha;rw[q4] at ha;rw[hce] at q2 q3 ha;have pm:=xV q2 q3;have nd:=pm.nodup_iff.2 h.nd;have hE:EdgF c.p (cW (d5 hp p q x.c.h x.c.j)):=by rw[h.p];exact Lf hl nd λy hy=>h.inl y (pm.mem_iff.1 hy)
   have m1:=phi (aj2 (k:=⟨c,hp⟩) h.ok h.n64 hr ht hp0 n1 n3 hi hxe h.nd h64 q1 q2 q3 hE);unfold evH at m1;simp only at m1;cases hd:dh (cW (d5 hp p q x.c.h x.c.j)) (dw c e) with
   |none=>
    rw[hd] at ha m1;cases ha;simp only at m1;unfold B3;simp only[stC,aL,aI,EV,ay,DL,m1,agT,fU,n18,au,aw,g18,az,pD]
   |some d=>
    rw[hd] at ha m1;simp only at ha m1;obtain⟨t1,t2,t3⟩:=uE hl h n1 q1 (by rw[hce];exact q2) (by rw[hce];exact q3) (by rw[hce];exact hd);rw[hce] at t1;have ap:=eF (f:=crow) (l:=out) (k:=[x.c]) (bytes:=16) (z:=2) (by simp;omega) gb;have ih:=P0 (N:=N) (f:=f) (l:=l) (t:=t) hl hr ht (e0:=e0) (e1:=e1) (e2:=e2) (e4:=e4) (e5:=e5) (e6:=e6) (e7:=e7) (e8:=e8) (e9:=e9) (e10:=e10) (e11:=e11) n m d (d5 hp p q x.c.h x.c.j) (out++[x.c]) r (by omega) (by rw[aD,aN];omega) t1 (by rw[t2];exact n2) ha;simp only[stC,aL,aI] at ih;refine bT ?_ ih;unfold B3;simp only[stC,aL,aI,EV,ay,DL,m1,gc,fU,n6,aA,aF,au,aw,yx,um,ap,ah,cH0,cH1,cH2,cH3,cH4,cH5,cH6,cH7,cH8,cH9,DK,xd]
def pE (t:Rt)(c:Clock)(hp:List Int):Option (Clock×List Int×List Crt):=(p7 t 30000000 c hp []).getD none
def DM {l:List Pt}(hl:okF l){t:Rt}{c:Clock}{hp:List Int}(h:HStl l c hp):p7 t 30000000 c hp []=some (pE t c hp):=by
 obtain⟨r,hr⟩:=Fk hl (t:=t) 30000000 c hp [] h (TG hl h.len (EN hl _));unfold pE;rw[hr];rfl
def goK (k:KHeap)(t:Rt):List PV:=match pE t k.c k.heap with
 |some (d,hq,out)=>[KH ⟨atC d t,hq⟩,sl crow out,.i64 0]
 |none=>[KHz,.sl [],.i64 18]
def aj3 {k:KHeap}{t:Rt}(h:HStl k.c.p k.c k.heap)(hr:rok t=true)(ht:aS t)(hp:crs k.c.n t<=0):Ans D 106 [KH k,R t] (goK k t):=by
 have hl:=h.ok.2.1;have ha:=DM hl (t:=t) h;have h64:k.heap.length<=64:=by rw[h.len];exact hl.1
 have key:den (bx D) 30000001 UB [] [KH k,R t]=some (goK k t):=by
  unfold UB;simp only[ay,gc,ea,EV,pKH,xd,bX,iZ (l:=k.heap) (f:=I1) (bytes:=8) (z:=1) (by omega) ct,ah,mN,mO,k8,py,fO,lY,lZ,l5,iK,kf,dT];refine(L4 (N:=30000001) hl hr ht (L:=k.heap.length) 30000000 30000001 k.c k.heap [] _ (by omega) (by simp) h rfl hp ha).trans ?_;unfold goK;cases hg:pE t k.c k.heap with
  |none=>rfl
  |some z=>
   obtain⟨d,hq,out⟩:=z;rw[hg] at ha;obtain⟨q1,q2,q3,q5⟩:=xW hl 30000000 k.c k.heap [] d hq out h hp ha;have s0:=bI (f:=crow) (l:=out);have s1:=bI (f:=I1) (l:=hq);rw[q1.len,<-h.len] at s1;unfold Qf;simp only[stC,aL,aI,EV,ay,dE,phi (NJ (ii q1.ok) (t:=t)),bX,iB,s1,yw,s0]
 unfold goK at key|-;cases hg:pE t k.c k.heap with
 |none=>rw[hg] at key;exact an ⟨30000001,key⟩
 |some z=>rw[hg] at key;exact an ⟨30000001,key⟩
def c45 {k:KHeap}{t:Rt}(hchk:Ans D 68 [KH k] [.i64 0])(h:HStl k.c.p k.c k.heap)(hr:rok t=true)(ht:aS t)(hp:crs k.c.n t<=0):Ans D 96 [KH k,R t] (goK k t):=by
 have hl:=h.ok.2.1;have ha:=DM hl (t:=t) h;have m1:=phi hchk;have m2:=phi (c43 ht);rw[hr,show okE true=0 from rfl] at m2
 have m3:=phi (rD ht h.n64);rw[hr,h.ok.1] at m3;have ng:¬sgn (crs t k.c.n)<0:=by
  have:=eJ t k.c.n;unfold sgn
  grind
 have pR0:RF.ev (.part 0 2) [KH k]=some (R k.c.n):=rfl;have key:den (bx D) 30000001 k45 [] [KH k,R t]=some (goK k t):=by
  unfold k45;simp only[ay,gc,ea,m1,m2,EV,aA,aF,au,aw,pR0,m3,gH,az,ng,be,cH0,cH1,cH2,cH3,cH4,cH5,cH6,cH7,cH8,cH9,DK,xd];refine(P0 (N:=30000001) hl hr ht 30000000 30000001 k.c k.heap [] _ (by omega) (by simp) h hp ha).trans ?_;unfold goK;cases hg:pE t k.c k.heap with
  |none=>rfl
  |some z=>
   obtain⟨d,hq,out⟩:=z;rw[hg] at ha;obtain⟨q1,q2,q3,q5⟩:=xW hl 30000000 k.c k.heap [] d hq out h hp ha;have m4:=phi (NI q1.ok q1.n64 hr ht q2 q3);have m5:=phi (rG (l:=hq) (by rw[q1.len];have:=hl.1;omega));have s0:=bI (f:=crow) (l:=out);have s1:=bI (f:=I1) (l:=hq);unfold Xg;simp only[stC,aL,aI,EV,ay,dE,m4,bX,m5,ah,iB,s1,yw,s0]
 unfold goK at key|-;cases hg:pE t k.c k.heap with
 |none=>rw[hg] at key;exact an ⟨30000001,key⟩
 |some z=>rw[hg] at key;exact an ⟨30000001,key⟩
def vC {α:Type}[DecidableEq α]:∀{l k:List α},l.Nodup->(∀x∈l,x∈k)->l.length<=k.length
 |[],k,_,_=>b8 _
 |a::l,k,hn,hs=>by
  rw[cj] at hn;have ha:=hs a (cq ..);have:=vC (k:=k.erase a) hn.2 λx hx=>(lG (a:=x) (b:=a) λe=>hn.1 (by rw[<-e];exact hx)).2 (hs x (aU _ hx));rw[tH ha] at this;have:=List.length_pos_of_mem ha;rw[aZ];omega
structure Usd (k:Nat)(c:Clock):Prop where
 next:c.q.next<=k
 u:∀u∈c.a.s.u,u<=k
def Usd.le {k m:Nat}{c:Clock}(h:Usd k c)(hk:k<=m):Usd m c:=⟨by have:=h.next;omega,λu hu=>by have:=h.u u hu;omega⟩
structure Dst (l:List Pt)(a b:Rt):Prop where
 apart:∀p∈l,∀q∈l,p.a=q.a->p.b=q.b->p=q
 alone:∀p∈l,∀q∈l,∀u∈l,∀v∈l,∀s:Rt,rok s=true->crs a s<0->crs s b<=0->p.b<q.b->far s p q=0->u.b<v.b->far s u v=0->p=u/\ q=v
def zY (s:Rt)(p q r:Pt):far s p r=far s p q+far s q r:=by
 unfold far
 grind
structure HGood (l:List Pt)(c:Clock)(hp:List Int):Prop where
 st:HStl l c hp
 has:∀x∈cW hp,∃y∈c.q.l,y.c=x
 holds:∀y∈c.q.l,Holds c y.c
def G3 {a b c:Rt}(ha:rok a=true)(hb:rok b=true)(hc:rok c=true)(h1:crs a b<=0)(h2:crs b c<=0):crs a c<=0:=
 (vr (a:=a) (b:=b) (c:=c) (by have:=eT ha;omega) (by have:=eT hb;omega) (by have:=eT hc;omega) h1 h2).1
structure Alike (l:List Pt)(c c':Clock):Prop where
 st:Stl l c
 st':Stl l c'
 to:∀y∈c.q.l,∃y'∈c'.q.l,y'.c=y.c
 of:∀y'∈c'.q.l,∃y∈c.q.l,y.c=y'.c
 ft:∀y∈c.q.l,fT c' y.c=fT c y.c
def agV {c:Clock}(h:bJ c){y:Held}(hy:y∈c.q.l)(hf:(fT c y.c).2=true):∃e∈c.a.heap,e.time=(fT c y.c).1:=by
 have h8:=(jJ.1 h).2.2.2.2.2.2.2;have ev:∀{xs:List Due} {ys:List Held},F2 (xP c) xs ys->∀y∈ys,∃e∈c.a.heap,e.time=(fT c y.c).1:=by
  intro xs ys k;induction k with
  |nil=>intro y hy;cases hy
  |cons r t ih=>
   intro y hy;rcases bz.1 hy with e|hy
   .rw[e];exact⟨_,r.2,rfl⟩
   .exact ih y hy
 exact ev h8 y (bF.2 ⟨hy,hf⟩)
def G4 {c c':Clock}(h:bJ c)(h':bJ c')(to:∀y∈c.q.l,∃y'∈c'.q.l,y'.c=y.c)(ft:∀y∈c.q.l,fT c' y.c=fT c y.c){e:Evt}(he:c.a.heap[0]?=some e):∃e',c'.a.heap[0]?=some e'/\ crs e'.time e.time<=0:=by
 obtain⟨x,hx,_,hf⟩:=F1 h (ax he);obtain⟨x',hx',hc⟩:=to x hx;have f:=ft x hx;rw[hf,<-hc] at f;obtain⟨e',he',ht⟩:=agV h' hx' (by rw[f]);rw[f] at ht;obtain⟨i,hi⟩:=aK.1 he';have h0:c'.a.heap[0]?=some (c'.a.heap[0]'(by have:=bo hi;omega)):=ai _;have:=xR h'.2.2.2.1 h0 he';rw[ht] at this;exact⟨_,h0,this⟩
def Alike.symm {l:List Pt}{c c':Clock}(h:Alike l c c'):Alike l c' c:=⟨h.st',h.st,h.of,h.to,λy hy=>by
 obtain⟨x,hx,hc⟩:=h.of y hy;rw[<-hc];exact(h.ft x hx).symm⟩
def Alike.first {l:List Pt}{c c':Clock}(h:Alike l c c'){e:Evt}(he:c.a.heap[0]?=some e):∃e',c'.a.heap[0]?=some e'/\ e'.time=e.time:=by
 obtain⟨e',h1,h2⟩:=G4 h.st.ok h.st'.ok h.to h.ft he;obtain⟨e2,h3,h4⟩:=G4 h.st'.ok h.st.ok h.symm.to h.symm.ft h1;rw[he] at h3;cases h3;have r1:=(h.st.ok.2.2.2.1.2.2.1 e (ax he)).1;have r2:=(h.st'.ok.2.2.2.1.2.2.1 e' (ax h1)).1;have:=eJ e.time e'.time;exact⟨e',h1,Dh r2 r1 (by omega)⟩
def Alike.next {l:List Pt}{c c':Clock}(h:Alike l c c'){t:Rt}:(fu c t=none/\ fu c' t=none)\/∃e e',fu c t=some e/\ fu c' t=some e'/\ e'.time=e.time:=by
 have key:∀{c c':Clock},Alike l c c'->∀e,fu c t=some e->∃e',fu c' t=some e'/\ e'.time=e.time:=λ{c c'} h e he=>by
  obtain⟨n1,n2,_⟩:=d9 he;obtain⟨e',h1,h2⟩:=h.first n1;refine⟨e',?_,h2⟩;unfold fu;rw[h1];simp only;rw[h2,ad n2]
 cases he:fu c t with
 |some e=>obtain⟨e',h1,h2⟩:=key h e he;exact .inr ⟨e,e',rfl,h1,h2⟩
 |none=>
  cases he':fu c' t with
  |none=>exact .inl ⟨rfl,rfl⟩
  |some e'=>
   obtain⟨e,h1,_⟩:=key h.symm e' he';rw[he] at h1;cases h1
def zZ (t:Rt)(m:Mt):Bool:=decide (crs t m.time<0)
def NT {f:Pt×Pt->Bool}{p:Pt}{l:List Pt}:∀k:List Pt,(k.flatMap λa=>(p::l).map λq=>(a,q)).countP f=k.countP (λa=>f (a,p))+(k.flatMap λa=>l.map λq=>(a,q)).countP f
 |[]=>rfl
 |a::k=>by
  have ih:=NT (f:=f) (p:=p) (l:=l) k;rw[dA,dA,ro,ro,ih,bY,dy,dy];omega
def yy (a b:Rt)(m:Mt):Bool:=zZ a m&& decide (crs m.time b<=0)
def G5:∀{l:List Pt} {m:Mt},m∈rawM l->∃p∈l,∃q∈l,p.b≠q.b/\ m=gQ p q
 |[],m,h=>by cases h
 |p::l,m,h=>by
  unfold rawM at h;rcases b9.1 h with h|h
  .obtain⟨q,hq,rfl⟩:=bk.1 h;obtain⟨h1,h2⟩:=bF.1 hq;exact⟨p,cq ..,q,aU _ h1,by simpa using h2,rfl⟩
  .obtain⟨p',h1,q,h2,h3⟩:=G5 h;exact⟨p',aU _ h1,q,aU _ h2,h3⟩
def xe {l:List Pt}(h:okF l){m:Mt}(hm:m∈rawM l):rok m.time=true/\ aS m.time:=by
 obtain⟨p,hp,q,hq,hb,rfl⟩:=G5 hm;obtain⟨i,hi⟩:=aK.1 hp;obtain⟨j,hj⟩:=aK.1 hq;have b1:=Pt.bnd (dr h hi);have b2:=Pt.bnd (dr h hj);exact GI ⟨by omega,by omega⟩ ⟨by omega,by omega⟩ (by omega)
def AW:∀l:List Pt,2*(rawM l).length<=l.length*(l.length-1)
 |[]=>aB _
 |p::l=>by
  have ih:=AW l;unfold rawM;rw[aD,ah,aZ,dD];have h:=gn (λq:Pt=>decide (p.b≠q.b)) l;cases l with
  |nil=>simp[rawM]
  |cons q l=>
   rw[aZ] at ih h|-;rw[dD] at ih;have:(l.length+1+1)*(l.length+1)=(l.length+1)*l.length+2*(l.length+1):=by grind
   omega
def G6 {c:Clock}{es:List Crt}(hc:dp c.q)(hn:es.Nodup)(hJ:JustR c es):∀y∈c.q.l,y.c∈es:=
 ((tT hc hn λe he=>(hJ.2 e he).2).2 hJ).2
def G7 {c:Clock}{es:List Crt}(hk:bJ c)(h64:aS c.n)(hn:es.Nodup)(hJ:JustR c es):Stl c.p c/\∀x∈es,∃y∈c.q.l,y.c=x:=
 ⟨⟨hk,h64,rfl,λy hy=>(hJ.2 _ (G6 hk.2.2.1 hn hJ y hy)).2⟩,λx hx=>(hJ.2 x hx).1⟩
def G8 {k:KHeap}(h:jN k)(h64:fb k.c):Stl k.c.p k.c/\∀x∈cG k.c.p (cF k.c.n k.c.p),∃y∈k.c.q.l,y.c=x:=
 G7 h.1 h64.1 (px (c9 h.1.2.1.2.2)) h.2.2
def G9 {k:Heater}(h:jO k)(h64:fb k.c):Stl k.c.p k.c/\∀x∈edgsT (cart k.c.n k.c.p).n k.c.p.length,∃y∈k.c.q.l,y.c=x:=
 G7 h.1 h64.1 (rY h.1.2.1 _ (aB _)) h.2.2
def Ha {k:KHeap}(h:iR k)(h64:fb k.c):HStl k.c.p k.c k.heap:=
 ⟨h.1,h64.1,rfl,G6 h.1.2.2.1 (uK h.2.2.2.1) h.2.2.2.2,h.2.2.2.1,h.2.2.1,h.2.1⟩
def EO {k:KTourn}(h:fk k)(h64:fb k.c):Stl k.c.p k.c/\ k.b=bracketOf k.c.n k.c.p k.b.p/\(1<=k.b.p.length/\ k.b.p.length<=64/\ gK k.b.p)/\∀x∈edT k.c.p k.b.p k.c.n,∃y∈k.c.q.l,y.c=x:=by
 obtain⟨h1,h2,h3,h4,h5,h6,h7⟩:=h;have hm:k.b.w.length=k.b.p.length-1:=by have:=h2.1.1.2.2;omega
 have hw:=(uD hm).2 h6;have hb:k.b=bracketOf k.c.n k.c.p k.b.p:=by unfold bracketOf;rw[hw]
 obtain⟨s1,s2⟩:=G7 h1 h64.1 (rZ (b:=k.b) h1.2.1 h2 h4 h6 _ (aB _)) h7;refine⟨s1,hb,⟨h2.1.1.1,h2.1.1.2.1,h2.1.2.1⟩,?_⟩;unfold edT
 grind
end Go.Proofs.YtoeigdpfcnaaeaaGreat
