import Derived.Test.YtoeigdpfcnaaeaaGreatE1
import Derived.Test.YtoeigdpfcnaaeaaGreatR1
import Derived.Test.YtoeigdpfcnaaeaaGreatN1
import Derived.Test.YtoeigdpfcnaaeaaGreatC3
set_option linter.unusedVariables false
set_option linter.unusedSimpArgs false
set_option linter.defProp false
noncomputable section
namespace Go.Proofs.YtoeigdpfcnaaeaaGreat
open Go.Sym Bnd
set_option maxRecDepth 100000
section
variable {ld:Int->Int->Bool}
def NM (ld:Int->Int->Bool)(h:List Int)(j:Nat):Prop:=∀a b,h[j]?=some a->h[(j-1)/2]?=some b->ld b a=true
def HO (ld:Int->Int->Bool)(h:List Int):Prop:=∀j,0<j->NM ld h j
def HOx (ld:Int->Int->Bool)(h:List Int)(i:Nat):Prop:=(∀j,0<j->j≠i->NM ld h j)/\∀j,0<j->(j-1)/2=i->0<i->∀a b,h[j]?=some a->h[(i-1)/2]?=some b->ld b a=true
def VM (tr:∀a b c,ld a b=true->ld b c=true->ld a c=true){h:List Int}{i:Nat}{a b:Int}(hi:0<i)(ha:h[i]?=some a)(hb:h[(i-1)/2]?=some b)(hab:ld a b=true)(H:HOx ld h i):HOx ld ((h.set i b).set ((i-1)/2) a) ((i-1)/2):=by
 obtain⟨H1,H2⟩:=H;have li:=aL ha;have g:∀k,((h.set i b).set ((i-1)/2) a)[k]?=if k=(i-1)/2 then some a else if k=i then some b else h[k]?:=λk=>by
  rw[it,a8,it]
  grind
 refine⟨λj hj hne x y hx hy=>?_,λj hj hq hp x y hx hy=>?_⟩
 .rw[g] at hx hy;rw[ac hne] at hx;by_cases e1:j=i
  .subst e1;rw[ad rfl] at hx hy;cases hx;cases hy;exact hab
  .rw[ac e1] at hx;by_cases e2:(j-1)/2=(i-1)/2
   .rw[ad e2] at hy;cases hy;exact tr _ _ _ hab (H1 j hj e1 x b hx (by rw[e2];exact hb))
   .rw[ac e2] at hy;by_cases e3:(j-1)/2=i
    .rw[ad e3] at hy;cases hy;exact H2 j hj e3 hi x b hx hb
    .rw[ac e3] at hy;exact H1 j hj e1 x y hx hy
 .rw[g] at hx hy;rw[ac (by omega),ac (by omega)] at hy;have hby:=H1 ((i-1)/2) hp (by omega) b y hb hy;rw[ac (by omega)] at hx;by_cases e1:j=i
  .rw[ad e1] at hx;cases hx;exact hby
  .rw[ac e1] at hx;exact tr _ _ _ hby (H1 j hj e1 x b hx (by rw[hq];exact hb))
end
def ldI (t:Rt)(l:List Pt)(a b:Int):Bool:=leads t (ptOf l a) (ptOf l b)
def Kb {t:Rt}{l:List Pt}:∀(n:Nat) (h:List Int) (i:Nat),i<n->i<h.length->(∀a∈h,∀b∈h,a≠b->ldI t l a b=true\/ldI t l b a=true)->h.Nodup->HOx (ldI t l) h i->HO (ldI t l) (m9 t l n h i)
 |0,h,i,hn,_,_,_,_=>by omega
 |n+1,h,i,hn,hi,tot,nd,H=>by
  obtain⟨a,ha⟩:∃a,h[i]?=some a:=⟨h[i],ah _⟩;obtain⟨b,hb⟩:∃b,h[(i-1)/2]?=some b:=⟨h[(i-1)/2]'(by omega),ah _⟩;unfold m9;rw[ha,hb];simp only;by_cases c:0<i/\ leads t (ptOf l a) (ptOf l b)=true
  .rw[ad c];have sw:((h.set i b).set ((i-1)/2) a).Perm h:=by
    obtain⟨h1,h2⟩:=aC.1 ha;obtain⟨h3,h4⟩:=aC.1 hb;rw[<-h2,<-h4];exact qO h1 h3
   refine Kb n _ _ (by omega) (by simp;omega) (λx hx y hy=>tot x (sw.mem_iff.1 hx) y (sw.mem_iff.1 hy)) (sw.nodup_iff.2 nd) ?_;exact VM (ld:=ldI t l) (λx y z h k=>jH h k) c.1 ha hb c.2 H
  .rw[ac c];intro j hj;by_cases e:j=i
   .subst e;intro x y hx hy;rw[ha] at hx;rw[hb] at hy;cases hx;cases hy;have hne:a≠b:=λe=>by
     subst e;have:=dr.1 nd j ((j-1)/2) a ha hb;omega
    rcases tot a (au ha) b (au hb) hne with q|q
    .exact absurd ⟨hj,q⟩ c
    .exact q
   .exact H.1 j hj e
def sc {l:List Pt}{t:Rt}(h:okF l):∀k,k<=l.length->HO (ldI t l) (eK t l k)
 |0,_=>λj _ a b ha _=>by simp[eK] at ha
 |k+1,hk=>by
  have ih:=sc h (t:=t) k (by omega);obtain⟨p,hp⟩:∃p,l[k]?=some p:=⟨l[k],ah _⟩;have hl:=jk (t:=t) (l:=l) (k:=k) (by omega);have pm:(eK t l k++[p.id]).Perm ((l.take (k+1)).map Pt.id):=by
   have:=mf (t:=t) (l:=l) k (by omega);rw[cG,hp,dT];exact this.append_right _
  have hi:=cT h.2.2;have sub:∀a∈eK t l k++[p.id],∃q∈l,q.id=a/\ ptOf l a=q:=λa ha=>by
   obtain⟨q,hq,rfl⟩:=bb.1 (pm.mem_iff.1 ha);have hq:=iE hq;obtain⟨i,hi⟩:=aI.1 hq;exact⟨q,hq,rfl,gO h hi⟩
  rw[xA hp];refine Kb (k+1) _ k (by omega) (by simp;omega) (λa ha b hb hne=>?_) (pm.nodup_iff.2 ?_) ⟨λj hj hne a b ha hb=>?_,λj hj hq hp a b ha hb=>?_⟩
  .obtain⟨x,hx,e1,e2⟩:=sub a ha;obtain⟨y,hy,e3,e4⟩:=sub b hb;unfold ldI;rw[e2,e4];exact leads_total (by rw[e1,e3];exact hne)
  .exact vu ((List.take_sublist _ _).map Pt.id) hi
  .have lj:=aL ha;rw[aD,hl,aK] at lj;rw[aG (by omega)] at ha hb;exact ih j hj a b ha hb
  .have lj:=aL ha;rw[aD,hl,aK] at lj;omega
def mX {ld:Int->Int->Bool}{hp:List Int}(h:HO ld hp){e:Crt}(he:e∈b7 hp):ld e.high e.low=true:=by
 obtain⟨i,hi,rfl⟩:=bb.1 he;rw[cR] at hi;exact h (i+1) (by omega) _ _ (eT (by omega)) (by rw[di];exact eT (by omega))
def f8 {l:List Pt}{t:Rt}{es:List Crt}(hE:EdgOk l es)(hl:okF l)(ht:aS t)(hr:rok t=true)(hd:∀e∈es,leads t (ptOf l e.high) (ptOf l e.low)=true):bC (certAll (newC l t) es)/\(certAll (newC l t) es).pts=l/\(certAll (newC l t) es).now=t/\ JustR (certAll (newC l t) es) es:=by
 have A:=yK hE hl ht hr es.length (aB _);rw[eP] at A;refine⟨A.fresh.ok,A.pts,A.now,?_,λe he=>⟨?_,?_⟩⟩
 .have:=aW List.length A.certs;rwa [ai,eP] at this
 .have:=A.certs;rw[eP] at this;rw[<-this] at he;obtain⟨h,h1,h2⟩:=bb.1 he;exact⟨h,h1,h2⟩
 .rw[A.pts,A.now];exact hd e he
def FJ {l:List Pt}{t:Rt}(hl:okF l)(ht:aS t)(hr:rok t=true):iJ (fC t l):=by
 have pm:=nP (t:=t) (l:=l);obtain⟨h1,h2,h3,h4⟩:=f8 (po hl pm) hl ht hr λe he=>mX (sc hl _ (aB _)) he;refine⟨h1,?_,λx hx=>?_,zR hl (aB _),h4⟩
 .show(eK t l l.length).length=_
  rw[jk (aB _)];exact(aW List.length h2).symm
 .show inF (certAll _ _).pts x=true
  rw[h2];exact zQ (aB _) x hx
def FK {l:List Pt}{t:Rt}(hl:okF l)(ht:aS t)(hr:rok t=true):jQ (mj t l):=by
 obtain⟨h1,h2,h3,h4⟩:=f8 (lL (t:=t) hl) hl ht hr λe he=>(fg hl he).2.2;refine⟨h1,?_,?_⟩
 .show cX (certAll _ _).now (certAll _ _).pts=cX t l
  rw[h2,h3]
 .show JustR _ (cw (certAll _ _).pts (cX (certAll _ _).now (certAll _ _).pts))
  rw[h2,h3];exact h4
def FL {l:List Pt}{t:Rt}(hl:okF l)(ht:aS t)(hr:rok t=true):jR (mi t l):=by
 obtain⟨h1,h2,h3,h4⟩:=f8 (lM (t:=t) hl) hl ht hr λe he=>(fZ hl he).2.2;refine⟨h1,?_,?_⟩
 .show cart (certAll _ _).now (certAll _ _).pts=cart t l
  rw[h2,h3]
 .show JustR _ (edgsT (cart (certAll _ _).now (certAll _ _).pts).nodes (certAll _ _).pts.length)
  rw[h2,h3];exact h4
def NN:∀m:Nat,m<65->szd (twice 7 1 m)=true:=by decide
def LS {l:List Pt}(h:okF l):((cS l).filter λx=>decide (0<=x)).length=l.length:=by
 unfold cS;rw[qv,aD];have h1:(l.map Pt.id).filter (λx=>decide (0<=x))=l.map Pt.id:=fw.2 λx hx=>by
  obtain⟨p,hp,rfl⟩:=bb.1 hx;have:=aU.1 h.2.1 p hp;unfold Pt.ok at this;simp only[aH,aa] at this;exact aq this.1.1.1
 have h2:(List.replicate (twice 7 1 l.length-l.length) (-1:Int)).filter (λx=>decide (0<=x))=[]:=mZ.2 λx hx=>by
  rw[(fi.1 hx).2];decide
 rw[h1,h2];simp
def Dy {l:List Pt}{t:Rt}(hl:okF l)(ht:aS t)(hr:rok t=true):fk (iL t l):=by
 obtain⟨f0,f1,f2⟩:=mh hl;obtain⟨b1,b2,b3⟩:=iz (t:=t) hl f1 f2 dM (ez hl);have hE:=jY (t:=t) hl f1 f2 dM (ez hl);obtain⟨h1,h2,h3,h4⟩:=f8 hE hl ht hr λe he=>(iy (b:=bracketOf t l (cS l)) hl b2 dM b3 he).2.2;refine⟨h1,b2,?_,λx hx=>?_,?_,?_,h4⟩
 .show szd (cS l).length=true
  rw[f0];exact NN _ (by have:=hl.1;omega)
 .show d6 (certAll _ _).pts x
  rw[h2];exact dM x hx
 .show((cS l).filter _).length=(certAll _ _).pts.length
  rw[h2];exact LS hl
 .show lw (wonI (certAll _ _).now (certAll _ _).pts) _ _
  rw[h2,h3];exact b3
def Kc {tag:Int}{l:List Pt}{t:Rt}(hg:tag=1\/tag=2\/tag=3\/tag=4)(ht:aS t)(hb:bE l t=0)(ha:cU t=0):qX (dy tag l t)/\(kS (dy tag l t)).pts=l/\(kS (dy tag l t)).now=t:=by
 obtain⟨hl,hr⟩:=v6 hb;obtain⟨f0,f1,f2⟩:=mh hl;obtain⟨b1,b2,b3⟩:=iz (t:=t) hl f1 f2 dM (ez hl);have e1:=f8 (po hl (nP (t:=t))) hl ht hr λe he=>mX (sc hl _ (aB _)) he;have e2:=f8 (jY (t:=t) hl f1 f2 dM (ez hl)) hl ht hr λe he=>(iy (b:=bracketOf t l (cS l)) hl b2 dM b3 he).2.2;have e3:=f8 (lM (t:=t) hl) hl ht hr λe he=>(fZ hl he).2.2;have e4:=f8 (lL (t:=t) hl) hl ht hr λe he=>(fg hl he).2.2;rcases hg with rfl|rfl|rfl|rfl
 .have hm:dy 1 l t=⟨1,fC t l,zKT,zHT,zKH⟩:=by unfold dy yN;rw[ad rfl,ad hb]
  rw[hm];refine⟨⟨⟨λh=>absurd rfl h,λ_=>rfl,λ_=>rfl,λ_=>rfl⟩,FJ hl ht hr,?_⟩,e1.2.1,e1.2.2.1⟩;show cU (certAll _ _).now=0
  rw[e1.2.2.1];exact ha
 .have hm:dy 2 l t=⟨2,zKH,iL t l,zHT,zKH⟩:=by unfold dy uD;rw[ac (by decide),ad rfl,ad hb]
  rw[hm];refine⟨⟨⟨λ_=>rfl,λh=>absurd rfl h,λ_=>rfl,λ_=>rfl⟩,Dy hl ht hr,?_⟩,e2.2.1,e2.2.2.1⟩;show cU (certAll _ _).now=0
  rw[e2.2.2.1];exact ha
 .have hm:dy 3 l t=⟨3,zKH,zKT,mi t l,zKH⟩:=by unfold dy yO;rw[ac (by decide),ac (by decide),ad rfl,ad hb]
  rw[hm];refine⟨⟨⟨λ_=>rfl,λ_=>rfl,λh=>absurd rfl h,λ_=>rfl⟩,FL hl ht hr,?_⟩,e3.2.1,e3.2.2.1⟩;show cU (certAll _ _).now=0
  rw[e3.2.2.1];exact ha
 .have hm:dy 4 l t=⟨4,zKH,zKT,zHT,mj t l⟩:=by unfold dy yP;rw[ac (by decide),ac (by decide),ac (by decide),ad hb]
  rw[hm];refine⟨⟨⟨λ_=>rfl,λ_=>rfl,λ_=>rfl,λh=>absurd rfl h⟩,FK hl ht hr,?_⟩,e4.2.1,e4.2.2.1⟩;show cU (certAll _ _).now=0
  rw[e4.2.2.1];exact ha
def nc:fJ zC:=⟨⟨⟨by decide,by decide⟩,⟨by decide,by decide⟩⟩,λe he=>by cases he⟩
def Ew {l:List Pt}{t:Rt}{es:List Crt}(hE:EdgOk l es)(hl:okF l)(ht:aS t)(hr:rok t=true)(h10:l.length<=10)(hes:es.length<=40):gCl (certAll (newC l t) es)=false/\ fJ (certAll (newC l t) es):=by
 have A:=yK hE hl ht hr es.length (aB _);rw[eP] at A;have hc:=aW List.length A.certs;rw[ai,eP] at hc;have h1:=A.fresh.heap;have h2:=A.fresh.ok.2.2.2.2.2.1;have h3:=uC A.fresh.ok.2.2.2.1;refine⟨?_,Cy A.fresh⟩;unfold gCl gF;rw[A.pts,h3];simp only[np,eO,vq,aj];omega
def FM {tag:Int}{l:List Pt}{t:Rt}(hg:tag=1\/tag=2\/tag=3\/tag=4)(ht:aS t)(hb:bE l t=0)(h10:l.length<=10):gCh (dy tag l t)=false/\ Cho64 (dy tag l t):=by
 obtain⟨hl,hr⟩:=v6 hb;obtain⟨f0,f1,f2⟩:=mh hl;obtain⟨b1,b2,b3⟩:=iz (t:=t) hl f1 f2 dM (ez hl);have gk0:gKh zKH=false:=by decide
 have gt0:gKt zKT=false:=by decide
 have gh0:gHt zHT=false:=by decide
 have tw:∀m:Nat,m<11->twice 7 1 m<=16:=by decide
 have htw:=tw l.length (by omega);rcases hg with rfl|rfl|rfl|rfl
 .have hm:dy 1 l t=⟨1,fC t l,zKT,zHT,zKH⟩:=by unfold dy yN;rw[ad rfl,ad hb]
  have e1:=Ew (po hl (nP (t:=t))) hl ht hr h10 (by unfold b7;rw[jD,jk (aB _)];omega);have g1:gKh (fC t l)=false:=by
   unfold gKh;rw[show gCl (fC t l).clock=false from e1.1]
   have:(fC t l).heap.length=l.length:=jk (aB _);simp;omega
  rw[hm];exact⟨by unfold gCh;simp only[g1,gk0,gt0,gh0,np],⟨⟨show(0:Int)<=1 by decide,show(1:Int)<=255 by decide⟩,e1.2,nc,nc,nc⟩⟩
 .have hm:dy 2 l t=⟨2,zKH,iL t l,zHT,zKH⟩:=by unfold dy uD;rw[ac (by decide),ad rfl,ad hb]
  have hE:=jY (t:=t) hl f1 f2 dM (ez hl);have e1:=Ew hE hl ht hr h10 (by
   have:=ke (bracketOf t l (cS l)).wins (cS l) (bracketOf t l (cS l)).wins.length;omega)
  have g1:gKt (iL t l)=false:=by
   unfold gKt;rw[show gCl (iL t l).clock=false from e1.1]
   have h1:(iL t l).brk.places.length=(cS l).length:=rfl;have h2:(iL t l).brk.wins.length=(cS l).length-1:=b1;simp;omega
  rw[hm];exact⟨by unfold gCh;simp only[g1,gk0,gt0,gh0,np,nj],⟨⟨show(0:Int)<=2 by decide,show(2:Int)<=255 by decide⟩,nc,e1.2,nc,nc⟩⟩
 .have hm:dy 3 l t=⟨3,zKH,zKT,mi t l,zKH⟩:=by unfold dy yO;rw[ac (by decide),ac (by decide),ad rfl,ad hb]
  have e1:=Ew (lM (t:=t) hl) hl ht hr h10 (by have:=jX (cart t l).nodes l.length;omega);have g1:gHt (mi t l)=false:=by
   unfold gHt;rw[show gCl (mi t l).clock=false from e1.1]
   have:(mi t l).tree.nodes.length=l.length:=rU hl;simp;omega
  rw[hm];exact⟨by unfold gCh;simp only[g1,gk0,gt0,gh0,np,nj],⟨⟨show(0:Int)<=3 by decide,show(3:Int)<=255 by decide⟩,nc,nc,e1.2,nc⟩⟩
 .have hm:dy 4 l t=⟨4,zKH,zKT,zHT,mj t l⟩:=by unfold dy yP;rw[ac (by decide),ac (by decide),ac (by decide),ad hb]
  have e1:=Ew (lL (t:=t) hl) hl ht hr h10 (by
   have:(cw l (cX t l)).length<=l.length:=by
    unfold cw
    grind
   omega)
  have g1:gKh (mj t l)=false:=by
   unfold gKh;rw[show gCl (mj t l).clock=false from e1.1]
   have:(mj t l).heap.length=l.length:=yG t l;simp;omega
  rw[hm];exact⟨by unfold gCh;simp only[g1,gk0,gt0,gh0,np,nj],⟨⟨show(0:Int)<=4 by decide,show(4:Int)<=255 by decide⟩,nc,nc,nc,e1.2⟩⟩
def ad5 {l:List Bool}{i:Nat}(h:i<l.length):RF.ev (.set 0) [sl B1 l,.v (.int .i64 (i:Int)),.v (.bool false)]=some (sl B1 (l.set i false)):=by
 rw[ze,ad (by omega),aF,ba,ah h];exact aW (λx=>some (PV.sl x)) (oZ (f:=B1) (l:=l) (i:=i) (a:=false)).symm
def ahr {l:List Int}{x:Int}(hl:l.length<=999):Ans D 450 [sl I1 l,.i64 x] [sl I1 (l++[x])]:=by
 have ap:=gt (f:=I1) (l:=l) (k:=[x]) (bytes:=8) (z:=1) (by simp;omega) cF;have bs:RF.ev (.bs 1 [.v (.int .i64 0)] [0]) [.i64 x]=some (sl I1 [x]):=rfl;have su:RF.ev .sub [sl I1 [x],.v (.int .i64 0),.v (.int .i64 1)]=some (sl I1 [x]):=rfl;have s2:=ct (f:=I1) (l:=l++[x]);refine am ?_;unfold acC;simp only[EV,phi (XR (l:=l) (by omega)),ai,bs,su,ap,s2]
open Classical in
def Yo {s:Slots}(h:SFine s){i:Nat}{u:Int}(hu:s.used[i]?=some true)(hv:s.uses[i]?=some u):Ans D 436 [SL s,HD ⟨i,u⟩] [.bool true,.i64 0]:=by
 have hi:=aL hu;have hc:=phi (Ly (vV h));rw[aq (okR_fine.2 h)] at hc;have e0:okE true=0:=rfl;rw[e0] at hc;refine am ?_;unfold acw;simp only[j7,rR,hc,mJ,rS,EV,ai,aA,aJ,aw,ax,aa];rw[ad (by omega)];rw[ad (by omega)];simp[j8,rS,RG,EV,aX hu (vG _),aN hu,vF,aX hv (cF _),aN hv,cV];rfl
open Classical in
def ahs {s:Slots}(h:SFine s){i:Nat}{u:Int}(hu:s.used[i]?=some true)(hv:s.uses[i]?=some u):Ans D 441 [SL s,HD ⟨i,u⟩] [SL (lx s i),.i64 0]:=by
 have hi:=aL hu;have n2:=h.n2;have hb:=iG h.nd h.rng;have s1:=ct (f:=I1) (l:=s.uses);have s2:=ct (f:=B1) (l:=s.used.set i false);rw[a8] at s2;refine am ?_;unfold acz;simp only[j7,rR,phi (Yo h hu hv),phi (XU (Ep h)),phi (ahr (l:=s.free) (x:=(i:Int)) (by omega)),j8,mJ,j9,rS,EV,ai,ixM hi,ad5 hi,s1,s2];rfl
def Ex {hp:List Evt}{z p:Evt}{i:Nat}(h:hp[i]?=some p):(hp++[z])[i]?=some p:=by rw[aG (bo h)];exact h
def LU {hp:List Evt}{z:Evt}{i:Nat}(h:i<hp.length)(p:Evt):RF.ev (.set 0) [sl cv (hp++[z]),.v (.int .i64 (i:Int)),EP p]=some (sl cv (hp.set i p++[z])):=by
 rw[AJ (by simp;omega),xb _ _ h]
def Kd {N:Nat}{f0 f1:JT}{f z:Evt}{e0 e1 e2 e3 e4 e5 e6 e7 e8 e9 e10 e11 e12 e13 e14 e15 e16 e18 e19 e22 e23 e24 e25:PV}{n W:Nat}(hn:n<=1000)(hf:GoodE W f):∀(r i m:Nat) (hp:List Evt) (wh:List Int),i<=r->r<m->i<n->hp.length=n->wh.length=W->(∀x∈hp,GoodE W x)->
  dY (bK D) N uL [f0,f1] [e0,e1,e2,e3,e4,e5,e6,e7,e8,e9,e10,e11,e12,e13,e14,e15,e16,.i64 (W:Int),e18,e19,EP f,.i64 (n:Int),e22,e23,e24,e25] m [.i64 (i:Int),sl cv (hp++[z]),sl I1 wh]=f1 [sl cv ((eW f r hp wh i).1++[z]),sl I1 (eW f r hp wh i).2.1,.i64 ((eW f r hp wh i).2.2:Int)]
 |0,i,m,hp,wh,hi,hm,hiH,hl,hw,hg=>by
  obtain⟨m,rfl⟩:∃m',m=m'+1:=⟨m-1,by omega⟩;have:i=0:=by omega
  subst this;rw[bB];unfold uL eW;simp only[EV,aa];rw[ac (by omega)]
 |r+1,i,m,hp,wh,hi,hm,hiH,hl,hw,hg=>by
  obtain⟨m,rfl⟩:∃m',m=m'+1:=⟨m-1,by omega⟩;obtain⟨p,hp'⟩:∃p,hp[(i-1)/2]?=some p:=⟨hp[(i-1)/2]'(by omega),ah _⟩;have E:eW f (r+1) hp wh i=if 0<i/\ evLess f p=true then eW f r (hp.set i p) (wh.set p.hnd.index.toNat (i:Int)) ((i-1)/2) else(hp,wh,i):=by rw[eW,hp']
  rw[E,bB];by_cases h0:0<i
  rotate_left
  .rw[ac (λh=>h0 h.1)];unfold uL;simp only[EV,aa];rw[ac (by omega)]
  .obtain⟨p64,prk,jp,pj,pW⟩:=hg p (au hp');have ih:=Kd (N:=N) (f0:=f0) (f1:=f1) (f:=f) (z:=z) (e0:=e0) (e1:=e1) (e2:=e2) (e3:=e3) (e4:=e4) (e5:=e5) (e6:=e6) (e7:=e7) (e8:=e8) (e9:=e9) (e10:=e10) (e11:=e11) (e12:=e12) (e13:=e13) (e14:=e14) (e15:=e15) (e16:=e16) (e18:=e18) (e19:=e19) (e22:=e22) (e23:=e23) (e24:=e24) (e25:=e25) (n:=n) (W:=W) hn hf r ((i-1)/2) m (hp.set i p) (wh.set p.hnd.index.toNat (i:Int)) (by omega) (by omega) (by omega) (by rw[a8];exact hl) (by rw[a8];exact hw) (λx hx=>by
    rcases dw hx with h1|h1
    .exact hg x h1
    .rw[h1];exact⟨p64,prk,jp,pj,pW⟩)
   have cm:=phi (zK (x:=f) (y:=p) hf.t64 p64 hf.rok prk);have q2:=LO h0 (by omega);have s1:=LU (hp:=hp) (z:=z) (i:=i) (by omega) p;have s3:=iK (l:=wh) (i:=jp) (by omega) (i:Int);have g1:=Ex (z:=z) hp';generalize hkk:uL=kk at ih;subst hkk;unfold uL;simp[EV];rw[ad (by omega)];simp only[EV,q2,ixM (show(i-1)/2<n by omega),aN g1,iY,cm,aa,pf]
   by_cases hc:evLess f p=true
   .rw[ad hc,ad ⟨h0,hc⟩];simp[EV,mq,q2,ixM hiH,ixM (show(i-1)/2<n by omega),aN g1,iY,ay,iv,s1,FG,pj,ixM pW,s3]
    rw[pj,aF] at ih;exact ih
   .rw[ac hc,ac (λq=>hc q.2)]
def Dz {N:Nat}{f0 f1:JT}{f z:Evt}{e0 e1 e2 e3 e4 e5 e6 e7 e8 e9 e10 e11 e12 e13 e14 e15 e16 e18 e19 e22 e23 e24 e25 e26 e27 e28 e29 e30:PV}{n W:Nat}(hn:n<=1000)(hf:GoodE W f):∀(r i m:Nat) (hp:List Evt) (wh:List Int),n<=r+i->r<m->i<n->hp.length=n->wh.length=W->(∀x∈hp,GoodE W x)->
  dY (bK D) N Bl [f0,f1] [e0,e1,e2,e3,e4,e5,e6,e7,e8,e9,e10,e11,e12,e13,e14,e15,e16,.i64 (W:Int),e18,e19,EP f,.i64 (n:Int),e22,e23,e24,e25,e26,e27,e28,e29,e30] m [.i64 (i:Int),sl cv (hp++[z]),sl I1 wh,.i64 ((2*i+1:Nat):Int)]=f1 [sl cv ((gk f r hp wh i).1++[z]),sl I1 (gk f r hp wh i).2.1,.i64 ((gk f r hp wh i).2.2:Int)]
 |0,i,m,hp,wh,hi,hm,hiH,hl,hw,hg=>by omega
 |r+1,i,m,hp,wh,hi,hm,hiH,hl,hw,hg=>by
  obtain⟨m,rfl⟩:∃m',m=m'+1:=⟨m-1,by omega⟩;have ih:=λ(k:Nat) (p:Evt) (hk:hp[k]?=some p) (hki:i<k)=>Dz (N:=N) (f0:=f0) (f1:=f1) (f:=f) (z:=z) (e0:=e0) (e1:=e1) (e2:=e2) (e3:=e3) (e4:=e4) (e5:=e5) (e6:=e6) (e7:=e7) (e8:=e8) (e9:=e9) (e10:=e10) (e11:=e11) (e12:=e12) (e13:=e13) (e14:=e14) (e15:=e15) (e16:=e16) (e18:=e18) (e19:=e19) (e22:=e22) (e23:=e23) (e24:=e24) (e25:=e25) (e26:=e26) (e27:=e27) (e28:=e28) (e29:=e29) (e30:=e30) (n:=n) (W:=W) hn hf r k m (hp.set i p) (wh.set p.hnd.index.toNat (i:Int)) (by omega) (by omega) (by have:=bo hk;omega) (by rw[a8];exact hl) (by rw[a8];exact hw) (λx hx=>by
    rcases dw hx with h1|h1
    .exact hg x h1
    .rw[h1];exact hg p (au hk))
  rw[bB];have fin:∀(a b c d:PV) (kk:Nat),kid hp i=kk->kk<n->den (bK D) N Ia [f0,f1,λvs=>dY (bK D) N Bl [f0,f1] [e0,e1,e2,e3,e4,e5,e6,e7,e8,e9,e10,e11,e12,e13,e14,e15,e16,.i64 (W:Int),e18,e19,EP f,.i64 (n:Int),e22,e23,e24,e25,e26,e27,e28,e29,e30] m vs] ([e0,e1,e2,e3,e4,e5,e6,e7,e8,e9,e10,e11,e12,e13,e14,e15,e16,.i64 (W:Int),e18,e19,EP f,.i64 (n:Int),e22,e23,e24,e25,e26,e27,e28,e29,e30]++[.i64 (i:Int),sl cv (hp++[z]),sl I1 wh,.i64 ((2*i+1:Nat):Int),a,b,c,d,.i64 (kk:Int)])=f1 [sl cv ((gk f (r+1) hp wh i).1++[z]),sl I1 (gk f (r+1) hp wh i).2.1,.i64 ((gk f (r+1) hp wh i).2.2:Int)]:=λa b c d kk hkk hk=>by
   subst hkk;have ko:=vl hp i;obtain⟨p,hp'⟩:∃p,hp[kid hp i]?=some p:=⟨hp[kid hp i]'(by omega),ah _⟩;obtain⟨p64,prk,jp,pj,pW⟩:=hg p (au hp');have E:gk f (r+1) hp wh i=if evLess p f=true then gk f r (hp.set i p) (wh.set p.hnd.index.toNat (i:Int)) (kid hp i) else(hp,wh,i):=by rw[gk,hp']
   have ih':=ih _ p hp' (by omega);have cm:=phi (zK (x:=p) (y:=f) p64 hf.t64 prk hf.rok);have s1:=LU (hp:=hp) (z:=z) (i:=i) (by omega) p;have s3:=iK (l:=wh) (i:=jp) (by omega) (i:Int);have g1:=Ex (z:=z) hp';have w1:IntKind.i64.wrap (2*(kid hp i:Int))=((2*kid hp i:Nat):Int):=by rw[cM (by omega) (by omega)];omega
   rw[E];unfold Ia;simp[EV,ixM hk,aN g1,iY,cm];by_cases hc:evLess p f=true
   .rw[ad hc,ac (by have:=(pf p f).2 hc;omega)];simp only[EV,ixM hiH,iY,ay,iv,s1,FG,pj,ixM pW,s3,w1,up1 (show 2*kid hp i<1000000000 by omega)]
    rw[pj,aF] at ih';exact ih'
   .rw[ac hc,ad (by have:=J9 (show evLess p f=false by simpa using hc);omega)]
  simp only[aQ,aM] at fin;unfold Bl;simp only[EV,aa];by_cases h1:2*i+1<n
  .rw[ad (by omega)];simp only[EV,aa,up1 (show 2*i+1<1000000000 by omega)]
   obtain⟨e,he⟩:∃e,hp[2*i+1]?=some e:=⟨hp[2*i+1]'(by omega),ah _⟩;by_cases h2:2*i+1+1<n
   .rw[ad (by omega)];obtain⟨g,hg'⟩:∃e,hp[2*i+1+1]?=some e:=⟨hp[2*i+1+1]'(by omega),ah _⟩;have a1:=hg e (au he);have b1:=hg g (au hg');have cm:=phi (zK (x:=g) (y:=e) b1.t64 a1.t64 b1.rok a1.rok);have kE:kid hp i=if evLess g e=true then 2*i+2 else 2*i+1:=by unfold kid;rw[he,show hp[2*i+2]?=some g from hg']
    simp only[EV,up1 (show 2*i+1<1000000000 by omega),ixM h1,ixM h2,aN (Ex (z:=z) he),aN (Ex (z:=z) hg'),iY,ay,cm]
    unfold Ib;simp only[EV,aa,up1 (show 2*i+1<1000000000 by omega),pf]
    by_cases hc:evLess g e=true
    .rw[ad hc];rw[ad hc] at kE;exact fin _ _ _ _ (2*i+1+1) kE h2
    .rw[ac hc];rw[ac hc] at kE;exact fin _ _ _ _ (2*i+1) kE h1
   .rw[ac (by omega)];unfold Ib;simp only[EV,aw,ax];exact fin _ _ _ _ (2*i+1) (by unfold kid;rw[he,show hp[2*i+2]?=none from bD (by omega)]) h1
  .rw[ac (by omega)];have:gk f (r+1) hp wh i=(hp,wh,i):=by
    have ko:=vl hp i;rw[gk,bD (by omega)]
   rw[this]
def DA {f:Evt}:∀(r:Nat) (hp:List Evt) (wh:List Int) (i:Nat),i<hp.length->(eW f r hp wh i).1.length=hp.length/\(eW f r hp wh i).2.1.length=wh.length/\(eW f r hp wh i).2.2<=i/\∀x∈(eW f r hp wh i).1,x∈hp
 |0,hp,wh,i,_=>⟨rfl,rfl,aB _,λ_ h=>h⟩
 |r+1,hp,wh,i,hi=>by
  unfold eW;split
  .rename_i p hp';split
   .obtain⟨q1,q2,q3,q4⟩:=DA (f:=f) r (hp.set i p) (wh.set p.hnd.index.toNat (i:Int)) ((i-1)/2) (by rw[a8];omega);refine⟨by rw[q1,a8],by rw[q2,a8],by omega,λx hx=>?_⟩;rcases dw (q4 x hx) with h|h
    .exact h
    .rw[h];exact au hp'
   .exact⟨rfl,rfl,aB _,λ_ h=>h⟩
  .exact⟨rfl,rfl,aB _,λ_ h=>h⟩
def DB {f:Evt}:∀(r:Nat) (hp:List Evt) (wh:List Int) (i:Nat),i<hp.length->(gk f r hp wh i).1.length=hp.length/\(gk f r hp wh i).2.1.length=wh.length/\(gk f r hp wh i).2.2<hp.length
 |0,hp,wh,i,hi=>⟨rfl,rfl,hi⟩
 |r+1,hp,wh,i,hi=>by
  unfold gk;split
  .rename_i p hp';split
   .obtain⟨q1,q2,q3⟩:=DB (f:=f) r (hp.set i p) (wh.set p.hnd.index.toNat (i:Int)) (kid hp i) (by rw[a8];exact bo hp');rw[a8] at q1 q2 q3;exact⟨q1,q2,q3⟩
   .exact⟨rfl,rfl,hi⟩
  .exact⟨rfl,rfl,hi⟩
def Yp {hp:List Evt}{z:Evt}:RF.ev .sub [sl cv (hp++[z]),.v (.int .i64 0),.v (.int .i64 (hp.length:Int))]=some (sl cv hp):=by
 rw[wL,ad (by simp;omega)];simp
def aht (e:Evt):RF.ev (.part 3 2) [EP e]=some (HD e.hnd):=rfl
open Classical in
def ahu {a:Agenda}(h:eV a){i j:Nat}{u:Int}{e:Evt}(he:a.heap[i]?=some e)(hh:e.hnd=⟨(j:Int),u⟩)(h64:∀e∈a.heap,aS e.time):Ans D 409 [AG a,.i64 (i:Int)] [AG (qH a i j),EP e,.i64 0]:=by
 have hs:=okR_fine.1 h.1;have hP:=qf hs h.2.1;have hsm:=Es h;have n2:=hs.n2;have hl:=h.2.1.2.1;have hi:=bo he;obtain⟨j',u',e1,e2,e3,e4⟩:=hP.at_ i e he;rw[hh] at e1;simp only[Hnd.mk.injEq] at e1;have:j'=j:=by omega
 subst this;have hu:u=u':=e1.2;subst hu;have hw:=bo e4;obtain⟨hp,f,hq⟩:∃hp f,a.heap=hp++[f]:=by
  rcases nY a.heap with h|⟨hp,f,h⟩
  .grind
  .grind
 have hn:a.heap.length-1=hp.length:=by rw[hq];simp
 have hn':a.heap.length=hp.length+1:=by rw[hq];simp
 have hlast:a.heap[hp.length]?=some f:=by rw[hq];simp
 have good:∀x∈a.heap,GoodE a.wher.length x:=λx hx'=>by
  obtain⟨k,hk⟩:=aI.1 hx';obtain⟨j,v,g1,_,_,g4⟩:=hP.at_ k x hk;exact⟨h64 x hx',(h.2.2.1 x hx').1,j,by rw[g1],bo g4⟩
 have hR:qH a i j'=if i=hp.length then⟨lx a.slots j',hp,a.wher.set j' (-1)⟩ else
   ⟨lx a.slots j',(mw hp.length (upS (i+1) (hp.set i f) ((a.wher.set j' (-1)).set f.hnd.index.toNat (i:Int)) i).1 (upS (i+1) (hp.set i f) ((a.wher.set j' (-1)).set f.hnd.index.toNat (i:Int)) i).2.1 (upS (i+1) (hp.set i f) ((a.wher.set j' (-1)).set f.hnd.index.toNat (i:Int)) i).2.2).1,(mw hp.length (upS (i+1) (hp.set i f) ((a.wher.set j' (-1)).set f.hnd.index.toNat (i:Int)) i).1 (upS (i+1) (hp.set i f) ((a.wher.set j' (-1)).set f.hnd.index.toNat (i:Int)) i).2.1 (upS (i+1) (hp.set i f) ((a.wher.set j' (-1)).set f.hnd.index.toNat (i:Int)) i).2.2).2⟩:=by
  unfold qH;rw[hn,hlast];simp only;rw[show a.heap.take hp.length=hp by rw[hq];simp]
 have c4:=phi (ahs hs e2 e3);have bn:RF.ev .bnd [.v (.int .i64 (hp.length:Int)),.v (.int .i64 ((hp.length+1:Nat):Int))]=some (.i64 (hp.length:Int)):=by rw[kr,ad ⟨by omega,by omega⟩]
 have dn:=yI (n:=hp.length) (by omega);have s3:=iK (l:=a.wher) (i:=j') hw (-1);have hls:∀(l:List Int),l.length=a.wher.length->RF.ev .sub [sl I1 l,.v (.int .i64 0),.v (.int .i64 (a.wher.length:Int))]=some (sl I1 l):=λl hl=>by
  have:=ct (f:=I1) (l:=l);rw[hl] at this;exact this
 refine an ⟨1001,?_⟩;unfold aco;simp only[ay,jN,fI,aX he (j4 _),aN he,iY,EV,pAG,aht,hh,c4,j7,aA,aJ,aw,ax,phi (XW hsm),mK,ai,hn',dn,ixM (show hp.length<hp.length+1 by omega),aN hlast,bn,FG,ixM hw,s3,aa]
 by_cases hil:i=hp.length
 .rw[ac (by omega)];rw[hR,ad hil];unfold H9;simp only[EV,ay,pSL,hq,Yp,hls _ a8,AL]
 .have hil:i<hp.length:=by omega
  rw[ad (by omega)];have hgf:=good f (by rw[hq];simp);have hgp:∀x∈hp,GoodE a.wher.length x:=λx hx=>good x (by rw[hq];simp[hx]);obtain⟨hU,wU,iU,hUe⟩:∃hU wU iU,eW f (i+1) hp (a.wher.set j' (-1)) i=(hU,wU,iU):=⟨_,_,_,rfl⟩;obtain⟨hV,wV,iV,hVe⟩:∃hV wV iV,gk f hp.length hU wU iU=(hV,wV,iV):=⟨_,_,_,rfl⟩;obtain⟨u1,u2,u3,u4⟩:=DA (f:=f) (i+1) hp (a.wher.set j' (-1)) i hil;rw[hUe] at u1 u2 u3 u4;simp only at u1 u2 u3 u4;rw[a8] at u2;obtain⟨v1,v2,v3⟩:=DB (f:=f) hp.length hU wU iU (by omega);rw[hVe] at v1 v2 v3;simp only at v1 v2 v3;have up:=Cu (x:=f) (i+1) hp (a.wher.set j' (-1)) i hil;rw[hUe] at up;simp only at up;have dnn:=D9 (x:=f) hp.length hU wU iU (by omega);rw[hVe] at dnn;simp only at dnn;rw[hR,ac (by omega),up];simp only;rw[dnn];simp only;obtain⟨f64,frk,jf,fj,fW⟩:=hgf;have hgf:=good f (by rw[hq];simp);have hq':sl cv a.heap=sl cv (hp++[f]):=by rw[hq]
  rw[hq'];refine(Kd (N:=1001) (f:=f) (z:=f) (n:=hp.length) (W:=a.wher.length) (by omega) hgf (i+1) i 1001 hp (a.wher.set j' (-1)) (by omega) (by omega) hil rfl a8 hgp).trans ?_;rw[hUe];have w1:IntKind.i64.wrap (2*(iU:Int))=((2*iU:Nat):Int):=by rw[cM (by omega) (by omega)];omega
  unfold Qd;simp only[EV,w1,up1 (show 2*iU<1000000000 by omega)]
  refine(Dz (N:=1001) (f:=f) (z:=f) (n:=hp.length) (W:=a.wher.length) (by omega) hgf hp.length iU 1001 hU wU (by omega) (by omega) (by omega) u1 u2 (λx hx=>hgp x (u4 x hx))).trans ?_;rw[hVe];have s1:=LU (hp:=hV) (z:=f) (i:=iV) (by omega) f;have s4:=iK (l:=wV) (i:=jf) (by omega) (iV:Int);have s5:=Yp (hp:=hV.set iV f) (z:=f);rw[a8,v1,u1] at s5;unfold Qc;simp only[EV,ay,ixM (show iV<hp.length by omega),s1,FG,fj,ixM fW,s4]
  unfold H9;simp only[EV,ay,pSL,s5,hls _ (show(wV.set jf (iV:Int)).length=a.wher.length by rw[a8];omega),AL,aF]
open Classical in
def ahv {a:Agenda}(h:eV a){i j:Nat}{u:Int}{e:Evt}(he:a.heap[i]?=some e)(hh:e.hnd=⟨(j:Int),u⟩)(h64:∀e∈a.heap,aS e.time):Ans D 403 [AG a,HD ⟨j,u⟩] [.i64 (i:Int),.i64 0]:=by
 have hs:=okR_fine.1 h.1;have hP:=qf hs h.2.1;obtain⟨j',u',e1,e2,e3,e4⟩:=hP.at_ i e he;rw[hh] at e1;simp at e1;have:j'=j:=by omega
 subst this;have hu:=e1.2;subst hu;have m1:=phi (Fe (uC h) h64);rw[aq h] at m1;have e0:okE true=0:=rfl;rw[e0] at m1;refine am ?_;unfold acm;simp only[ay,jN,rR,m1,pAG,phi (Yo hs e2 e3),mK,rS,EV,aA,aJ,aw,ax,aX e4 (cF _),aN e4,cV]
def ahw {a:Agenda}(h:eV a){i j:Nat}{u:Int}{e:Evt}(he:a.heap[i]?=some e)(hh:e.hnd=⟨(j:Int),u⟩)(h64:∀e∈a.heap,aS e.time):Ans D 350 [AG a,HD ⟨j,u⟩] [AG (qH a i j),EP e,.i64 0]:=by
 refine am ?_;unfold abT;simp[jN,rR,phi (ahv h he hh h64),phi (ahu h he hh h64),iv,EV]
section
variable {α:Type}{f:α->List PV}{l:List α}{i n:Nat}
def dl1 (hi:i<l.length):RF.ev .sub [.sl (l.map f),.v (.int .i64 (0+((i+1:Nat):Int))),.v (.int .i64 ((l.length:Int)-((i+1:Nat):Int)))]=some (.sl ((l.drop (i+1)).map f)):=by
 rw[wL,ad (by rw[ai];omega),show(0+((i+1:Nat):Int)).toNat=i+1 by omega,show((l.length:Int)-((i+1:Nat):Int)).toNat=l.length-(i+1) by omega,<-xf,<-xg,bj (by rw[b6];omega)]
def dl2 (hz:∀a,(f a).length=3)(hi:i<l.length)(hl:l.length<=1000):RF.ev (.appK 24 3) [.sl (l.map f),.v (.int .i64 (i:Int)),.sl ((l.drop (i+1)).map f)]=some (.sl ((l.eraseIdx i++l.drop (l.length-1)).map f)):=by
 have ok:eg 3 ((l.drop (i+1)).map f)=true:=by
  cases e:l.drop (i+1) with
  |nil=>rfl
  |cons a k=>simp[eg,hz]
 show(if _ then _ else _)=_
 rw[ad ⟨by omega,by rw[ai];omega,by rw[ai,b6];omega,ok⟩];rw[aF,List.eraseIdx_eq_take_drop_succ,ai,b6,show i+(l.length-(i+1))=l.length-1 by omega]
 simp_all
def dl3 (z:List PV)(hi:i<l.length):RF.ev (.clr z) [.sl ((l.eraseIdx i++l.drop (l.length-1)).map f),.v (.int .i64 (0+((i:Int)+((l.length-(i+1):Nat):Int)))),.v (.int .i64 ((l.length:Int)-((i:Int)+((l.length-(i+1):Nat):Int))))]=some (.sl ((l.eraseIdx i).map f++[z])):=by
 have h1:=fH hi;have h2:(l.drop (l.length-1)).length=1:=by rw[b6];omega
 show(if _ then _ else _)=_
 rw[ad (by rw[ai,aD,h1,h2];omega),show(0+((i:Int)+((l.length-(i+1):Nat):Int))).toNat=l.length-1 by omega,show((l.length:Int)-((i:Int)+((l.length-(i+1):Nat):Int))).toNat=1 by omega,dT]
 simp_all
def dl4 (z:List PV)(hi:i<l.length):RF.ev .sub [.sl ((l.eraseIdx i).map f++[z]),.v (.int .i64 0),.v (.int .i64 ((i:Int)+((l.length-(i+1):Nat):Int)))]=some (.sl ((l.eraseIdx i).map f)):=by
 have h1:=fH hi;rw[wL,ad (by rw[aD,ai,h1];simp;omega),show((i:Int)+((l.length-(i+1):Nat):Int)).toNat=l.length-1 by omega]
 grind
end
def xB {a b:Nat}(h:a<=b):RF.ev .bnd [.v (.int .i64 (a:Int)),.v (.int .i64 (b:Int))]=some (.i64 (a:Int)):=by rw[kr,ad ⟨by omega,by omega⟩]
def ahx {l:List Held}{i:Nat}(hi:i<l.length)(hl:l.length<=1000):Ans D 423 [.sl [],.i64 (i:Int),.i64 ((i+1:Nat):Int),sl hrow l] [sl hrow (l.eraseIdx i),.sl []]:=by
 have h1:=fH hi;have ne:decide ((i:Int)=((i+1:Nat):Int))=false:=ak (by omega);have ap:(l.eraseIdx i++l.drop (l.length-1)).length=l.length:=by rw[aD,h1,b6];omega
 have bs:RF.ev .bnd [.v (.int .i64 ((i:Int)+((l.length-(i+1):Nat):Int))),.v (.int .i64 (l.length:Int))]=some (.i64 ((i:Int)+((l.length-(i+1):Nat):Int))):=by rw[kr,ad ⟨by omega,by omega⟩]
 refine am ?_;unfold acr;simp only[EV,ai,xB (aB l.length),xB (show i+1<=l.length by omega),xB (show i<=i+1 by omega),xB (show i<=l.length by omega),ne,aw,ax,dl1 (f:=hrow) hi,dl2 (f:=hrow) gP hi hl,ap,b6,bs,dl3 (f:=hrow) [KP.z,KP.z,KP.z] hi,dl4 (f:=hrow) [KP.z,KP.z,KP.z] hi]
def ahy {l:List Due}{i:Nat}(hi:i<l.length)(hl:l.length<=1000):Ans D 370 [.sl [],.i64 (i:Int),.i64 ((i+1:Nat):Int),sl cW l] [sl cW (l.eraseIdx i),.sl []]:=by
 have h1:=fH hi;have ne:decide ((i:Int)=((i+1:Nat):Int))=false:=ak (by omega);have ap:(l.eraseIdx i++l.drop (l.length-1)).length=l.length:=by rw[aD,h1,b6];omega
 have bs:RF.ev .bnd [.v (.int .i64 ((i:Int)+((l.length-(i+1):Nat):Int))),.v (.int .i64 (l.length:Int))]=some (.i64 ((i:Int)+((l.length-(i+1):Nat):Int))):=by rw[kr,ad ⟨by omega,by omega⟩]
 refine am ?_;unfold ab4;simp only[EV,ai,xB (aB l.length),xB (show i+1<=l.length by omega),xB (show i<=i+1 by omega),xB (show i<=l.length by omega),ne,aw,ax,dl1 (f:=cW) hi,dl2 (f:=cW) vI hi hl,ap,b6,bs,dl3 (f:=cW) [KP.z,KP.z,KP.z] hi,dl4 (f:=cW) [KP.z,KP.z,KP.z] hi]
section
variable {α:Type}{nu:α->Int}
def Asc (nu:α->Int)(l:List α):Prop:=l.Pairwise λa b=>nu a<nu b
def AQ {l:List α}(h:Asc nu l){i j:Nat}{a b:α}(hij:i<j)(ha:l[i]?=some a)(hb:l[j]?=some b):nu a<nu b:=by
 unfold Asc at h;rw[dP] at h
 grind
def LBn (nu:α->Int)(l:List α)(id:Int)(m:Nat):Prop:=m<=l.length/\∀(k:Nat) (p:α),l[k]?=some p->(k<m->nu p<id)/\(m<=k->id<=nu p)
def yQ {N:Nat}{f:JT}{K0:K}{e:List PV}{l:List α}{id:Int}(hs:Asc nu l)
  (key:∀(i j:Nat) (p:α) (self:JT),i<j->j<=l.length->l[(i+j)/2]?=some p->den (bK D) N K0 ([f]++[self]) (e++[.i64 (i:Int),.i64 (j:Int)])=if nu p<id then self [.i64 (((i+j)/2+1:Nat):Int),.i64 (j:Int)] else self [.i64 (i:Int),.i64 (((i+j)/2:Nat):Int)])
  (out:∀(i j:Nat) (self:JT),¬i<j->den (bK D) N K0 ([f]++[self]) (e++[.i64 (i:Int),.i64 (j:Int)])=f [.i64 (i:Int)]):∀(m i j:Nat),j-i<m->i<=j->j<=l.length->(∀(k:Nat) (p:α),l[k]?=some p->(k<i->nu p<id)/\(j<=k->id<=nu p))->
  ∃P,LBn nu l id P/\ dY (bK D) N K0 [f] e m [.i64 (i:Int),.i64 (j:Int)]=f [.i64 (P:Int)]
 |0,i,j,h,_,_,_=>by omega
 |m+1,i,j,h,hij,hj,hb=>by
  rw[bB];by_cases hlt:i<j
  .obtain⟨p,hp⟩:∃p,l[(i+j)/2]?=some p:=⟨l[(i+j)/2]'(by omega),ah _⟩;rw[key i j p _ hlt hj hp];by_cases c:nu p<id
   .rw[ad c];refine yQ hs key out m _ j (by omega) (by omega) hj λk q hq=>⟨λhk=>?_,(hb k q hq).2⟩;by_cases e:k=(i+j)/2
    .subst e;rw[hp] at hq;cases hq;exact c
    .have:=AQ hs (show k<(i+j)/2 by omega) hq hp;omega
   .rw[ac c];refine yQ hs key out m i _ (by omega) (by omega) (by omega) λk q hq=>⟨(hb k q hq).1,λhk=>?_⟩;by_cases e:k=(i+j)/2
    .subst e;rw[hp] at hq;cases hq;omega
    .have:=AQ hs (show(i+j)/2<k by omega) hp hq;omega
  .exact⟨i,⟨by omega,λk p hp=>⟨(hb k p hp).1,λh=>(hb k p hp).2 (by omega)⟩⟩,out i j _ hlt⟩
def NO {l:List α}{id:Int}{P i:Nat}{a:α}(h:LBn nu l id P)(hs:Asc nu l)(ha:l[i]?=some a)(e:nu a=id):P=i:=by
 obtain⟨h1,h2⟩:=h;by_cases c:i<P
 .grind
 .by_cases d:P<i
  .have hi:=bo ha;obtain⟨b,hb⟩:∃b,l[P]?=some b:=⟨l[P]'(by omega),ah _⟩;have:=(h2 P b hb).2 (aB _);have:=AQ hs d hb ha;omega
  .omega
def xC {l:List α}(hs:Asc nu l):∀{i:Nat} {a:α},l[i]?=some a->l.eraseIdx i=l.filter λb=>dV (nu a) (nu b):=by
 induction l with
 |nil=>intro i a h;cases h
 |cons x l ih=>
  intro i a h;unfold Asc at hs;rw[fV] at hs;cases i with
  |zero=>
   simp at h;subst h;rw[sZ (by simp[dV])];show l=_
   rw[fw.2];intro b hb;have:=hs.1 b hb;simp[dV];omega
  |succ i=>
   have:=hs.1 a (au h);rw[s7 (by simp[dV];omega)];show x::l.eraseIdx i=_
   rw[ih hs.2 h]
end
def ltS (a b:Int):(sgn (a-b)<0)=(a<b):=by
 unfold sgn
 grind
def eqS (a b:Int):(sgn (a-b)=0)=(a=b):=by
 unfold sgn
 grind
def Yq (d:Due):RF.ev (.cell 0) [DP d]=some (.i64 d.number):=rfl
def Ke {l:List Due}{id:Int}(hs:Asc (·.number) l)(hl:l.length<=1000):∃P:Nat,LBn (·.number) l id P/\ Ans D 347 [sl cW l,.i64 id] [.i64 (P:Int),.bool (match l[P]? with|some d=>decide (d.number=id)|none=>false)]:=by
 obtain⟨P,h1,h2⟩:=yQ (N:=1001) (f:=pC (bK D) 1001 HR [] [sl cW l,.i64 id,.i64 (l.length:Int)]) (K0:=Bi) (e:=[sl cW l,.i64 id,.i64 (l.length:Int)]) (l:=l) (nu:=(·.number)) (id:=id) hs (λi j p self hij hj hp=>by
  unfold Bi;simp only[aQ,aM,EV,aa,bh hij,Ll (show i<1000000 by omega) (show j<1000000 by omega),cM (show-9223372036854775808<=(((i+j)/2:Nat):Int) by omega) (by omega),ay,aX hp (vI p),aN hp,Xy,Yq,phi (vE _ _),P6,up1 (show(i+j)/2<1000000000 by omega),ltS]) (λi j self hij=>by
  unfold Bi;simp only[aQ,aM,EV,aa];rw[ac (by omega)]) 1001 0 l.length (by omega) (by omega) (aB _) (λk p hp=>⟨λh=>by omega,λh=>by have:=bo hp;omega⟩)
 refine⟨P,h1,an ⟨1001,?_⟩⟩;unfold abK;simp only[EV,ai];refine h2.trans ?_;unfold HR;simp only[EV,aa];by_cases hP:P<l.length
 .obtain⟨d,hd⟩:∃d,l[P]?=some d:=⟨l[P]'hP,ah _⟩;rw[ad (by omega),hd];simp only[EV,ay,aX hd (vI d),aN hd,Xy,Yq,phi (vE _ _),HQ,eqS]
 .rw[ac (by omega),bD (by omega)];unfold HQ;rfl
def ahz {l:List Due}{i:Nat}{d:Due}(hs:Asc (·.number) l)(hl:l.length<=1000)(hd:l[i]?=some d):Ans D 347 [sl cW l,.i64 d.number] [.i64 (i:Int),.bool true]:=by
 obtain⟨P,h1,h2⟩:=Ke (id:=d.number) hs hl;have:=NO h1 hs hd rfl
 grind
def ad6 {l:List Due}{n:Int}(hs:Asc (·.number) l)(hl:l.length<=1000)(hn:∀d∈l,d.number≠n):∃P:Nat,Ans D 347 [sl cW l,.i64 n] [.i64 (P:Int),.bool false]:=by
 obtain⟨P,h1,h2⟩:=Ke (id:=n) hs hl
 grind
def tv {c:Certs}(h:dB c):Asc (·.number) c.list:=(lZ.1 h).2.2.2.2.imp λh=>h.1
def VN {c:Clock}(h:bC c):Asc (·.number) c.due:=by
 have h1:=(tu h).2;have h2:=tv h.2.2.1;unfold Asc at h2|-;have:(c.certs.list.map (·.number)).Pairwise (· <·):=gh.2 h2;exact gh.1 (this.sublist h1)
open Classical in
def ahA {c:Certs}{i:Nat}{x:Held}(h:dB c)(hx:c.list[i]?=some x):Ans D 422 [CS c,.i64 x.number] [.i64 (i:Int),.i64 0]:=by
 have hl:=h.1;have hs:=tv h;have m1:=phi (Lz (c:=c) (by omega));rw[aq h] at m1;have e0:okE true=0:=rfl;rw[e0] at m1;obtain⟨P,h1,h2⟩:=yQ (N:=1001) (f:=pC (bK D) 1001 Ic [] [CS c,.i64 x.number,CS c,.i64 0,.bool false,sl hrow c.list,.i64 (c.list.length:Int)]) (K0:=Bn) (e:=[CS c,.i64 x.number,CS c,.i64 0,.bool false,sl hrow c.list,.i64 (c.list.length:Int)]) (l:=c.list) (nu:=(·.number)) (id:=x.number) hs (λi j p self hij hj hp=>by
  unfold Bn;simp only[aQ,aM,EV,aa,bh hij,Ll (show i<1000000 by omega) (show j<1000000 by omega),cM (show-9223372036854775808<=(((i+j)/2:Nat):Int) by omega) (by omega),ay,gj,aX hp (gP p),aN hp,lG,lI,phi (vE _ _),Qf,up1 (show(i+j)/2<1000000000 by omega),ltS]) (λi j self hij=>by
  unfold Bn;simp only[aQ,aM,EV,aa];rw[ac (by omega)]) 1001 0 c.list.length (by omega) (by omega) (aB _) (λk p hp=>⟨λh=>by omega,λh=>by have:=bo hp;omega⟩)
 have:=NO h1 hs hx rfl;subst this;have hP:=bo hx;refine an ⟨1001,?_⟩;unfold acq;simp only[ay,kQ,m1,gj,EV,ai,aA,aJ,aw,ax];refine h2.trans ?_;unfold Ic;simp only[EV,aa];rw[ad (by omega)];simp only[EV,ay,gj,aX hx (gP x),aN hx,lG,lI,phi (vE _ _),Qe,eqS,aA,aJ,aw,ax]
def ahB {c:Certs}{i:Nat}{x:Held}(h:dB c)(hx:c.list[i]?=some x):Ans D 369 [CS c,.i64 x.number] [CS ⟨c.next,c.list.filter λy=>dV x.number y.number⟩,CP x.cert,.i64 0]:=by
 have hl:=h.1;have hi:=bo hx;have h1:(c.list.eraseIdx i).length=c.list.length-1:=fH hi;have e:c.list.eraseIdx i=c.list.filter λy=>dV x.number y.number:=xC (tv h) hx;have s1:RF.ev .sub [sl hrow (c.list.filter λy=>dV x.number y.number),.v (.int .i64 0),.v (.int .i64 ((c.list.filter λy=>dV x.number y.number).length:Int))]=some (sl hrow (c.list.filter λy=>dV x.number y.number)):=ct;have ag:RF.ev .agg [.i64 c.next,sl hrow (c.list.filter λy=>dV x.number y.number)]=some (CS ⟨c.next,c.list.filter λy=>dV x.number y.number⟩):=rfl;have sh:RF.ev (.shape 2) [CP x.cert]=some (CP x.cert):=rfl;have pr:RF.ev (.part 0 2) [CP x.cert]=some (CP x.cert):=rfl;refine am ?_;unfold ab3;simp only[ay,kQ,phi (ahA h hx),od,gj,phi (LJ (l:=c.list) (by omega)),EV,ai,aA,aJ,aw,ax,up1 (show i<1000000000 by omega),phi (ahx hi (by omega)),aX hx (gP _),aN hx,Lm,sh,pr,s1,ag,e]
def Yr (c:Certs):RF.ev (.part 0 2) [CS c]=some (CS c):=rfl
def UB (l:List Due):RF.ev .sub [sl cW l,.v (.int .i64 0),.v (.int .i64 (l.length:Int))]=some (sl cW l):=ct
def Ys {c:Clock}(h:bC c)(h64:fJ c){i:Nat}{x:Held}(hx:c.certs.list[i]?=some x):Ans D 284 [CL c,.i64 x.number] [CL (gI c x.number),CP x.cert,.i64 0]:=by
 have hs:=VN h;have hcs:=pT h;have h3:=h.2.2.1;have h4:=h.2.2.2.1;refine am ?_;unfold aa9;have sh:RF.ev (.shape 2) [CP x.cert]=some (CP x.cert):=rfl;simp only[ay,c9,rQ,phi (ahB h3 hx),kQ,sh,EV,aA,aJ,aw,ax,phi (FA hcs),fB,ai];cases hf:c.due.find? λd=>decide (d.number=x.number) with
 |none=>
  have hall:∀d∈c.due,d.number≠x.number:=λd hd=>by simpa using l6.1 hf d hd
  obtain⟨P,cP⟩:=ad6 (n:=x.number) hs hcs.due hall;have eA:ly c x.number=c.agenda:=by unfold ly;rw[hf]
  have eD:(c.due.filter λd=>dV x.number d.number)=c.due:=fw.2 λd hd=>by unfold dV;simp[hall d hd]
  simp only[phi cP,EV,aw,ax,ay,t7,t8,ug,mL,og];unfold HB gI;rw[eA,eD];simp only[ay,LR,Yr,UB,EV,Et]
 |some d=>
  have hd:=eY hf;have hdn:d.number=x.number:=by simpa using lA hf
  obtain⟨k,hk⟩:=aI.1 hd;obtain⟨m,j,u,e,w1,w2,w3,w4,w5,_⟩:=Jp h hd;have cP:=ahz hs hcs.due hk;rw[hdn] at cP;have hkl:=bo hk;have hdl:=hcs.due;have eA:ly c x.number=qH c.agenda m j:=by
   unfold ly;rw[hf];simp only;rw[w4];simp only[aF];rw[w1];simp only[cA,aF]
  have eD:c.due.eraseIdx k=c.due.filter λd=>dV x.number d.number:=by rw[<-hdn];exact xC hs hk
  have c5:=phi (ahw h4 w2 w3 h64.2);rw[<-w4] at c5;simp only[phi cP,EV,az,ay,oe,fB,aX hk (vI d),aN hk,Lv,c5,jN,iv,aA,aJ,aw,ax,X7,up1 (show k<1000000000 by omega),phi (ahy hkl hdl),ai,cAG0,cAG1,cAG2,fI,mK]
  unfold HB gI;rw[eA,<-eD];simp only[ay,LR,Yr,UB,EV,Et]
def ad7 (e:Evt):RF.ev (.cell 2) [EP e]=some (.i64 e.number):=rfl
def ahC (e:Evt):RF.ev (.part 0 2) [EP e]=some (R e.time):=rfl
def ad8 (c:Clock):RF.ev (.part 2 9) [CL c]=some (.agg ((clC c).drop 2)):=rfl
def ad9 (c:Clock):RF.ev (.part 2 8) [CL c]=some (.agg (((clC c).drop 2).take 8)):=rfl
def Yt (c:Clock)(t:Rt):RF.ev .agg [R t,.agg ((clC c).drop 2)]=some (CL (atC c t)):=rfl
def Yu (c:Clock)(t:Rt):RF.ev .agg [R t,.agg (((clC c).drop 2).take 8),sl cW c.due]=some (CL (atC c t)):=rfl
def ij (t:Rt):RF.ev (.shape 2) [R t]=some (R t):=rfl
def pRt (t:Rt):RF.ev (.part 0 2) [R t]=some (R t):=rfl
def jJ (x:Crt):RF.ev (.shape 2) [CP x]=some (CP x):=rfl
def E0:Evt:=⟨⟨0,0⟩,0,⟨0,0⟩⟩
def C0:Crt:=⟨0,0⟩
def CLz:PV:= .agg [.i64 0,.i64 0,.sl [],.i64 0,.sl [],.sl [],.sl [],.sl [],.sl [],.sl [],.sl []]
def UC:RF.ev .agg [.i64 0,.i64 0,.i64 0,.i64 0,.i64 0]=some (EP E0):=rfl
def UD:RF.ev .agg [.i64 0,.i64 0]=some (CP C0):=rfl
def AR:RF.ev .agg [.i64 0,.i64 0,.sl [],.i64 0,.sl [],.sl [],.sl [],.sl [],.sl [],.sl [],.sl []]=some CLz:=rfl
open Classical in
def ahD {a:Agenda}(h:eV a)(h64:∀e∈a.heap,aS e.time):Ans D 364 [AG a] (match a.heap[0]? with|some e=>[EP e,.i64 0]|none=>[EP E0,.i64 42]):=by
 have m1:=phi (Fe (uC h) h64);rw[aq h] at m1;have e0:okE true=0:=rfl;rw[e0] at m1;refine am ?_;unfold abY;simp only[jN,m1,fI,EV,ai,aA,aJ,aw,ax,aa];cases hh:a.heap[0]? with
 |none=>
  have:a.heap.length=0:=by rw[iD] at hh;omega
  rw[ad (by omega)];simp[EV,UC]
 |some e=>
  have hl:=bo hh;rw[ac (by omega)];have z0:(.i64 0:PV)= .v (.int .i64 ((0:Nat):Int)):=rfl;simp[EV,fI,z0,aX hh (j4 e),aN hh,iY]
open Classical in
def Sa {c:Clock}(h:bC c)(hn:aS c.now){t:Rt}(hr:rok t=true)(ht:aS t)(hp:crs c.now t<=0):Ans D 282 [CL c,R t] [.bool (lz c t),.i64 0]:=by
 have h4:=h.2.2.2.1;have h64:=Ah h hn;have m1:=phi (vQ h64 (yL h));rw[aq h] at m1;have m2:=phi (c43 ht);rw[hr] at m2;have e0:okE true=0:=rfl;rw[e0] at m1 m2;have mm:RF.ev (.mm true) [.v (.int .i64 0),.v (.int .i64 0)]=some (.v (.int .i64 0)):=rfl;have m3:=phi (qB ht hn);rw[hr,h.1] at m3;have ng:¬sgn (crs t c.now)<0:=by
  have:=eR t c.now;unfold sgn
  grind
 have m4:=phi (ahD h4 h64.2);refine am ?_;unfold aa7;simp only[ay,c9,ij,m1,m2,mm,EV,aA,aJ,aw,ax,gQ,m3,fF,az,ng,aY,oe,m4];cases hh:c.agenda.heap[0]? with
 |none=>
  unfold lz;rw[hh];simp only[EV,ay,iv];rfl
 |some e=>
  have hm:=au hh;have m5:=phi (qB (h64.2 e hm) ht);rw[(h4.2.2.1 e hm).1,hr] at m5;have le:(sgn (crs e.time t)<=0)=(crs e.time t<=0):=by
   unfold sgn;refine propext ⟨λq=>?_,λq=>?_⟩
   .split at q
    .omega
    .split at q<;>omega
   .split
    .omega
    .rw[ac (by omega)];omega
  unfold lz;rw[hh];simp only[EV,ay,iv,aA,aJ,aw,ax,ahC,m5,fF,az,le]
def ahE {c:Clock}(h:bC c)(hn:aS c.now){i:Nat}{x:Held}(hx:c.certs.list[i]?=some x):Ans D 259 [CL c,.i64 x.number] [CL (gI c x.number),.i64 0]:=by
 classical
 have h64:=Ah h hn;have m1:=phi (vQ h64 (yL h));rw[aq h] at m1;have e0:okE true=0:=rfl;rw[e0] at m1;refine am ?_;unfold aaP;simp[c9,m1,EV,phi (Ys h h64 hx),jJ]
def LV {c:Clock}(h:bC c)(hn:aS c.now){t:Rt}(hr:rok t=true)(ht:aS t)(hp:crs c.now t<=0){e:Evt}(he:c.agenda.heap[0]?=some e)(hw:lz c t=true){i:Nat}{x:Held}(hx:c.certs.list[i]?=some x)(hxe:x.number=e.number):Ans D 196 [CL c,R t] [CL (dO c e),EP e,CP x.cert,.i64 0]:=by
 have h64:=Ah h hn;have m1:=phi (Sa h hn hr ht hp);rw[hw] at m1;have m2:=phi (Ys h h64 hx);rw[hxe] at m2;have t1:=aX (z:=5) he (j4 e);have t2:=aN (f:=cv) (o:=0) (n:=5) he;simp at t1 t2;refine am ?_;unfold Ss;simp only[ay,c9,ij,m1,EV,aA,aJ,az];unfold GY;unfold GX;simp[EV,mL,t1,t2,iY,ad7,m2,ad8,Yt];rfl
def Ey {c:Clock}(h:bC c)(hn:aS c.now){t:Rt}(hr:rok t=true)(ht:aS t)(hp:crs c.now t<=0)(hw:lz c t=false):Ans D 196 [CL c,R t] [CLz,EP E0,CP C0,.i64 6]:=by
 have m1:=phi (Sa h hn hr ht hp);rw[hw] at m1;refine am ?_;unfold Ss;simp[c9,ij,m1,EV];unfold GY;unfold GX;have g:(!decide ((6:Int)=0))=true:=rfl;simp[EV,AR,UC,UD]
def LW {c:Clock}(h:bC c)(hn:aS c.now){t:Rt}(hr:rok t=true)(ht:aS t)(hp:crs c.now t<=0)(hw:lz c t=false):Ans D 195 [CL c,R t] [CL (atC c t),.i64 0]:=by
 have m1:=phi (Sa h hn hr ht hp);rw[hw] at m1;have cE:∀c:Clock,RF.ev .sub [sl cW c.due,.v (.int .i64 0),.v (.int .i64 (c.due.length:Int))]=some (sl cW c.due):=λc=>ct;refine am ?_;unfold aai;simp[c9,ij,m1,EV];unfold Pg;unfold Pf;simp[EV,phi (FA (pT h)),c9,fB,pRt,ad9,cE,Yu]
def CSz:PV:= .agg [.i64 0,.sl []]
def AGz:PV:= .agg [.sl [],.sl [],.sl [],.sl [],.sl []]
def NQ:RF.ev .agg [.i64 0,.sl []]=some CSz:=rfl
def Yv:RF.ev .agg [.sl [],.sl [],.sl [],.sl [],.sl []]=some AGz:=rfl
def aea:RF.ev (.shape 2) [CSz]=some CSz:=rfl
def aeb:RF.ev (.shape 5) [AGz]=some AGz:=rfl
def aec:RF.ev (.shape 3) [Eo]=some Eo:=rfl
def Yw:RF.ev (.shape 2) [H0]=some H0:=rfl
open Classical in
def aed {c:Certs}{x:Crt}(h:dB c)(hx:x.ok)(hn:∀g∈c.list,g.cert≠x)(hf:c.list.length=200\/c.next=1000000):Ans D 352 [CS c,CP x] [CSz,.i64 0,.i64 18]:=by
 have hl:=h.1;have e0:okE true=0:=rfl;have m1:=phi (Lz (c:=c) (by omega));rw[aq h,e0] at m1;have m2:=phi (RJ x);rw[aq hx] at m2;refine an ⟨1001,?_⟩;unfold Sz;simp only[ay,kQ,kP,m1,m2,gj,EV,ai,aA,aJ,aw,ax];refine(cD (m:=1001) (l:=c.list) (p:=λg=>!decide (g.cert=x)) (st:=λi=>[.i64 (i:Int)]) (r:=none) (fin:=some [CSz,.i64 0,.i64 18]) (λi g self hg _=>?_) (λhall self=>?_) (by omega)).trans ?_
 .have hne:¬g.cert=x:=hn g (au hg);unfold xN;simp only[ay,gj,aX hg (gP _),aN hg,lG,pHP,xp,EV,aa,bh (aL hg),up1 (show i<1000000000 by have:=aL hg;omega),hne,aY,bY,aw,az,ax]
 .unfold xN;simp only[EV,aa,bP];unfold HX;have g0:decide ((-1:Int)>=0)=false:=rfl;simp only[EV,g0,aw,ax,ay,gj,ai,aa];by_cases h1:(c.list.length:Int)=200
  .rw[ad h1];simp only[EV,ay,NQ]
  .rw[ac h1];have h2:c.next=1000000:=hf.resolve_left (by omega);simp only[EV,ay,od,h2,NQ,aA,az]
 .rw[ad (by rw[aU];intro g hg;simpa using hn g hg)]
open Classical in
def aee {s:Slots}(h:SFine s)(ho:kf s=false):Ans D 408 [SL s] [Eo,H0,.i64 18]:=by
 have hc:=phi (Ly (vV h));rw[aq (okR_fine.2 h)] at hc;have e0:okE true=0:=rfl;rw[e0] at hc;refine am ?_;unfold SD;rcases free_last h with e|⟨fr,i,u,e,hu,h1,h2⟩
 .simp only[j7,hc,j9,e,EV,aA,aJ,aw,ax,Un,LM];rfl
 .rw[rX e hu] at ho;have hm:=(h.uses i u hu).2.1;have hu':u=1000000:=by simp only[aj] at ho;omega
  subst hu';have hne:¬((s.free.length:Nat):Int)=0:=by rw[e];simp;omega
  have c4:=phi (XZ (fr:=fr) (i:=(i:Int)) (by omega));rw[<-e] at c4;simp only[ay,j7,hc,j8,mJ,j9,EV,ai,aA,aJ,aw,ax,hne,aY,c4,aX hu (cF _),aN hu,cV,az,Un,LM]
def aef {a:Agenda}(h:eV a)(ho:kf a.slots=false){t:Rt}{n:Int}(hx:rok t=true/\ 0<=n/\ n<=1000000)(hn:n∉a.heap.map (·.number))(ht:aS t)(h64:∀e∈a.heap,aS e.time):Ans D 349 [AG a,R t,.i64 n] [AGz,H0,.i64 18]:=by
 classical
 have hs:=okR_fine.1 h.1;have n2:=hs.n2;have hl:=h.2.1.2.1;have m1:=phi (Fe (uC h) h64);rw[aq h] at m1;have m2:=phi (c43 ht);rw[hx.1] at m2;have e0:okE true=0:=rfl;rw[e0] at m1 m2;have mm:RF.ev (.mm true) [.v (.int .i64 0),.v (.int .i64 0)]=some (.v (.int .i64 0)):=rfl;refine an ⟨1001,?_⟩;unfold Sy;simp only[ay,jN,bm,m1,m2,mm,fI,EV,ai,aA,aJ,aw,ax,aa,cx];rw[ac (by omega),ac (by omega)];refine(cD (m:=1001) (l:=a.heap) (p:=λg=>!decide (g.number=n)) (st:=λi=>[.i64 (i:Int)]) (r:=none) (fin:=some [AGz,H0,.i64 18]) (λk g self hg hall=>?_) (λhall self=>?_) (by omega)).trans ?_
 .have hne:¬g.number=n:=λe=>hn (bb.2 ⟨g,au hg,e⟩);unfold uJ;simp only[ay,fI,aX hg (j4 _),aN hg,iY,vO,EV,aa,bh (aL hg),up1 (show k<1000000000 by have:=aL hg;omega),hne,aY,bY,aw,az,ax]
 .unfold uJ;simp only[EV,aa,bP];unfold HW;have g0:decide ((-1:Int)>=0)=false:=rfl;have g1:(!decide ((18:Int)=0))=true:=rfl;simp only[EV,g0,g1,aw,ax,az,ay,pAG,phi (aee hs ho),aec,Yw,Yv,LM]
 .rw[ad (by rw[aU];intro g hg;simpa usingλe=>hn (bb.2 ⟨g,hg,e⟩))]
open Classical in
def aeg {c:Clock}{x:Crt}(h:CAd c x)(hn:aS c.now)(hf:nG c x):Ans D 263 [CL c,CP x] [CLz,.i64 0,.i64 18]:=by
 have hc:=pT h.ok;have h64:=Ah h.ok hn;have m1:=phi (vQ h64 (yL h.ok));rw[aq h.ok,show okE true=0 from rfl] at m1
 have hF:=h.ok.2.1;have n8:decide ((0:Int)=8)=false:=rfl;have n18:decide ((18:Int)=8)=false:=rfl;have g1:(!decide ((18:Int)=0))=true:=rfl;have p1:=vZ hF h.low;have p2:=vZ hF h.high;refine am ?_;unfold Mw;by_cases h1:c.certs.list.length=200\/c.certs.next=1000000
 .simp only[ay,c9,kP,rQ,iu,m1,phi (aed h.ok.2.2.1 h.cok h.new h1),aea,j5,j6,phi (Ci hF _),Cw,EV,aA,aJ,aw,ax,n18,ak p1,ak p2,g1,az,AR]
 .obtain⟨hf,ho⟩:=hf.resolve_left h1;have hlen:=h.ok.2.2.1.1;have hnx:=h.ok.2.2.1.2.2.1;have m2:=phi (X6 h.ok.2.2.1 h.cok h.new (by omega) (by omega));have m3:=phi (RK (x:=x) hF h64.1);rw[ad (Ka hF h.ok.1 h.cok h.low h.high)] at m3;have hf':(cL c.now (ptOf c.pts x.high) (ptOf c.pts x.low)).2=true:=hf;rw[hf'] at m3;obtain⟨f1,f2⟩:=rC hF h64.1 h.ok.1 h.low h.high hf';have m4:=phi (aef h.ok.2.2.2.1 ho (t:=(fT c x).1) (n:=c.certs.next) ⟨f1,h.ok.2.2.1.2.1,by omega⟩ (sa h.ok) f2 h64.2);have m4:bK D 349 [AG c.agenda,R (cL c.now (ptOf c.pts x.high) (ptOf c.pts x.low)).1,.v (.int .i64 c.certs.next)]=_:=m4;simp only[ay,c9,kP,bm,rQ,iu,gQ,oe,m1,m2,kQ,j5,j6,phi (Ci hF _),Cw,EV,aA,aJ,aw,ax,n8,ak p1,ak p2,phi (FA hc),fB,ai,m3,m4,aeb,Yw,g1,az,AR]
def VO {c:Clock}{x:Crt}(h:CAd c x)(hn:aS c.now)(hf:¬nG c x):Ans D 263 [CL c,CP x] [CL (kw c x),.i64 c.certs.next,.i64 0]/\ Ans D 294 [CL c,CP x] [CL (kw c x),.i64 c.certs.next,.i64 0]:=by
 have ha:=h.add hf;have h64:=Ah h.ok hn;obtain⟨a1,a2⟩:=Yb ha h64;obtain⟨b1,b2⟩:=ahb ha h64;unfold kw;by_cases h1:(fT c x).2=true
 .rw[ad h1];have ho:kf c.agenda.slots=true:=by
   cases q:kf c.agenda.slots with
   |true=>rfl
   |false=>exact absurd (.inr ⟨h1,q⟩) hf
  obtain⟨fr,i,u,e,hu,hm⟩:=Ea (okR_fine.1 h.ok.2.2.2.1.1) ho;have e1:frL c=fr:=by unfold frL;rw[e];simp
  have e2:frI c=i:=by unfold frI;rw[e];simp
  grind
 .grind
def LX {es:List Crt}{l:List Held}{c:Clock}{k:Nat}{x:Held}(hx:l[k]?=some x):dropL es (l.take (k+1)) c=if x.cert∈es then dropL es (l.take k) c else gI (dropL es (l.take k) c) x.number:=by
 unfold dropL;rw[cG,hx,qN];rfl
def Sb {es:List Crt}{c:Clock}(h:bC c){k:Nat}{x:Held}(hx:c.certs.list[k]?=some x):∃i:Nat,(dropL es (c.certs.list.take k) c).certs.list[i]?=some x:=by
 have:=(f9 es (c.certs.list.take k) c h).2.2;refine aI.1 ?_;rw[this,bk];refine⟨au hx,?_⟩;rw[aU];intro y hy;obtain⟨j,hj⟩:=aI.1 hy;have hjk:j<k:=by have:=bo hj;rw[aP] at this;omega
 rw[cH hjk] at hj;have:=AQ (tv h.2.2.1) hjk hj hx;simp[dV];omega
def stC (c:Clock):List PV:=[.i64 c.now.num,.i64 c.now.den,sl row c.pts,.i64 c.certs.next,sl hrow c.certs.list,sl I1 c.agenda.slots.uses,sl B1 c.agenda.slots.used,sl I1 c.agenda.slots.free,sl cv c.agenda.heap,sl I1 c.agenda.wher,sl cW c.due]
def DC {es:List Crt}{c:Clock}(h:bC c)(hn:aS c.now)(l:List Held):aS (dropL es l c).now:=by rw[(f9 es l c h).1.now];exact hn
def VP {N:Nat}{f:JT}{c:Clock}{es:List Crt}(h:bC c)(hn:aS c.now)(hE:es.length<=1000){e0 e1 e4 e5:PV}:dY (bK D) N xI [f] [e0,e1,sl crow es,CL c,e4,e5,.i64 (c.certs.list.length:Int)] 1001 (stC c++[.i64 ((0:Nat):Int)])=f (stC (dropL es c.certs.list c)):=by
 have hl:=h.2.2.1.1;have e:stC c=stC (dropL es (c.certs.list.take 0) c):=rfl;rw[e];refine(gm (m:=1001) (n:=c.certs.list.length) (st:=λk=>stC (dropL es (c.certs.list.take k) c)++[.i64 (k:Int)]) (fin:=f (stC (dropL es c.certs.list c))) (λk self hk=>?_) (λself=>?_) (by omega))
 .have hx:c.certs.list[k]?=some c.certs.list[k]:=ah _;generalize c.certs.list[k]=x at hx;obtain⟨i,hi⟩:=Sb (es:=es) h hx;have A:=(f9 es (c.certs.list.take k) c h).1;have m:=phi (ahE A.ok (DC h hn _) hi);rw[LX hx];generalize dropL es (c.certs.list.take k) c=a at A m;clear hi;unfold xI;simp only[stC,aQ,aM,EV,aa,bh hk,ay,jC,aX hx (gP _),aN hx,lG,pHP,phi (xq x.cert hE)];by_cases hm:x.cert∈es
  .simp only[hm,aA,aJ,aw,ax,az,EV,GU,up1 (show k<1000000000 by omega)]
  .simp only[hm,aY,bY,az,ax,ay,gJ,lI,m,c9,xv,xw,tU,zL,jC,t7,t8,ug,mL,og,fB,EV,GU,up1 (show k<1000000000 by omega)]
 .have e:c.certs.list.take c.certs.list.length=c.certs.list:=eP;rw[e];unfold xI;simp only[stC,aQ,aM,EV,aa,bP]
def pU:RF.ev (.shape 11) [CLz]=some CLz:=rfl
open Classical in
def AS {N:Nat}{f:JT}{l:List Pt}{es:List Crt}{e0 e1 e3 e4 e5 e6 e7 e8 e9 e10 e11 e12 e13 e14 e15 e16 e17 e18 e19 e20 e21 e22 e23 e24 e25 e26 e27 e28 e29 e30 e31 e32:PV}(hE:EdgF l es)(hlen:es.length<=1000)(hN:1001<=N):∀(r k m:Nat) (a:Clock),k+r=es.length->r<m->bC a->aS a.now->a.pts=l->
  dY (bK D) N qg [f] [e0,e1,sl crow es,e3,e4,e5,e6,e7,e8,e9,e10,e11,e12,e13,e14,e15,e16,e17,e18,e19,e20,e21,e22,e23,e24,e25,e26,e27,e28,e29,e30,e31,e32,.i64 (es.length:Int)] m (.i64 0::(stC a++[.i64 (k:Int)]))=match addL (es.drop k) a with|some d=>f (stC d)|none=>some [CLz,.i64 18]
 |0,k,m,a,hk,hm,h,hn,hp=>by
  obtain⟨m,rfl⟩:∃m',m=m'+1:=⟨m-1,by omega⟩;rw[bB,dz (by omega)];unfold qg addL;simp only[stC,aQ,aM,EV,aa];rw[ac (by omega)]
 |r+1,k,m,a,hk,hm,h,hn,hp=>by
  obtain⟨m,rfl⟩:∃m',m=m'+1:=⟨m-1,by omega⟩;have hkl:k<es.length:=by omega
  obtain⟨x,hx⟩:∃x,es[k]?=some x:=⟨es[k],ah _⟩;have hxm:=au hx;have hdr:es.drop k=x::es.drop (k+1):=by
   rw[c7 hkl,(aC.1 hx).2]
  have ih:=λ(a:Clock) h hn hp=>AS (N:=N) (f:=f) (l:=l) (es:=es) (e0:=e0) (e1:=e1) (e3:=e3) (e4:=e4) (e5:=e5) (e6:=e6) (e7:=e7) (e8:=e8) (e9:=e9) (e10:=e10) (e11:=e11) (e12:=e12) (e13:=e13) (e14:=e14) (e15:=e15) (e16:=e16) (e17:=e17) (e18:=e18) (e19:=e19) (e20:=e20) (e21:=e21) (e22:=e22) (e23:=e23) (e24:=e24) (e25:=e25) (e26:=e26) (e27:=e27) (e28:=e28) (e29:=e29) (e30:=e30) (e31:=e31) (e32:=e32) hE hlen hN r (k+1) m a (by omega) (by omega) h hn hp;have hal:=h.2.2.1.1;rw[bB,hdr];have g0:decide (-1>=(0:Int))=false:=rfl;have g18:(!decide ((18:Int)=0))=true:=rfl;have E:addL (x::es.drop (k+1)) a=if(a.certs.list.any λh=>decide (h.cert=x))=true then addL (es.drop (k+1)) a else if nG a x then none else addL (es.drop (k+1)) (kw a x):=rfl
  rw[E];generalize hkk:qg=kk at ih;subst hkk;unfold qg;simp only[stC,aQ,aM,EV,aa,bh hkl,ay,aX hx (iZ _),aN hx,tT,ai];refine(cD (m:=N) (l:=a.certs.list) (p:=λg=>!decide (g.cert=x)) (st:=λi=>[.i64 (i:Int)]) (r:=match addL (es.drop (k+1)) a with|some d=>f (stC d)|none=>some [CLz,.i64 18]) (fin:=if nG a x then some [CLz,.i64 18] else match addL (es.drop (k+1)) (kw a x) with|some d=>f (stC d)|none=>some [CLz,.i64 18]) (λi g self' hg _=>?_) (λhall self'=>?_) (by omega)).trans ?_
  .rw[<-ih a h hn hp];unfold xH;simp only[ay,aX hg (gP _),aN hg,lG,pHP,xp,EV,aa,bh (aL hg),up1 (show i<1000000000 by have:=aL hg;omega)]
   by_cases hc:g.cert=x
   .rw[ad hc,ac (show¬((!decide (g.cert=x))=true) by simp[hc])]
    simp only[EV,ay,j5,j6];unfold Bc;simp only[EV,up1 (show k<1000000000 by omega),stC,aQ,aM]
    rw[ad (by omega)];rfl
   .rw[ac hc,ad (show(!decide (g.cert=x))=true by simp[hc])]
  .have hany:(a.certs.list.any λh=>decide (h.cert=x))=false:=by
    rw[gg];intro g hg;have:=aU.1 hall g hg;simpa using this
   have hcd:=yw hE h hp hxm hany;unfold xH;simp only[EV,aa,bP];unfold GR;by_cases hfl:nG a x
   .rw[ad hfl];simp only[EV,g0,g18,aw,ax,az,ay,gJ,phi (aeg hcd hn hfl),pU,AR]
   .rw[ac hfl];obtain⟨q1,q2,q3,q4⟩:=sK hcd hn hfl;rw[<-ih (kw a x) q1 (by rw[q4];exact hn) (q3.trans hp)];simp only[EV,g0,aw,ax,ay,gJ,phi (VO hcd hn hfl).1,c9,aA,aJ,xv,xw,tU,zL,jC,t7,t8,ug,mL,og,fB,j5,j6];unfold Bc;simp only[EV,up1 (show k<1000000000 by omega),stC,aQ,aM]
    rfl
  .by_cases hall:(a.certs.list.all λg=>!decide (g.cert=x))=true
   .have hany:(a.certs.list.any λh=>decide (h.cert=x))=false:=by
     rw[gg];intro g hg;have:=aU.1 hall g hg;simpa using this
    rw[ad hall,hany,ac (show¬(false=true) by simp)]
    by_cases hfl:nG a x
    .rw[ad hfl,ad hfl]
    .rw[ac hfl,ac hfl];rfl
   .rw[ac hall];have hany:(a.certs.list.any λh=>decide (h.cert=x))=true:=by
     cases q:a.certs.list.any λh=>decide (h.cert=x) with
     |true=>rfl
     |false=>
      rw[gg] at q;exact absurd (aU.2 λg hg=>by simpa using q g hg) hall
    rw[hany,ad (show true=true from rfl)]
    rfl
def iM (es:List Crt)(c:Clock):List PV:=match dK es c with
 |some d=>[CL d,.i64 0]
 |none=>[CLz,.i64 18]
def UE {c:Clock}{es:List Crt}(h:bC c)(hn:aS c.now)(hE:EdgF c.pts es)(hl:es.length<=1000):Ans D 169 [CL c,F c.pts,sl crow es] (iM es c):=by
 obtain⟨q1,_,_⟩:=f9 es c.certs.list c h;have hp:=q1.pts;have hpl:=(pT h).pts;have e234:=phi (Yc (l:=c.pts) (k:=c.pts) (by omega));rw[aq rfl] at e234;have key:den (bK D) 1001 Mm [] [CL c,F c.pts,sl crow es]=some (iM es c):=by
  unfold Mm;simp only[ay,c9,bv,xv,xw,tU,zL,jC,t7,t8,ug,mL,og,fB,EV,ai];refine(VP (N:=1001) h hn hl).trans ?_;unfold GT;simp only[stC,aQ,aM,EV,ay,cq,hp,e234,aJ,aw,ax];unfold GS;simp only[EV,ai];have al:=λ(f:JT) (e0 e1 e3 e4 e5 e6 e7 e8 e9 e10 e11 e12 e13 e14 e15 e16 e17 e18 e19 e20 e21 e22 e23 e24 e25 e26 e27 e28 e29 e30 e31 e32:PV)=>AS (N:=1001) (f:=f) (l:=c.pts) (es:=es) (e0:=e0) (e1:=e1) (e3:=e3) (e4:=e4) (e5:=e5) (e6:=e6) (e7:=e7) (e8:=e8) (e9:=e9) (e10:=e10) (e11:=e11) (e12:=e12) (e13:=e13) (e14:=e14) (e15:=e15) (e16:=e16) (e17:=e17) (e18:=e18) (e19:=e19) (e20:=e20) (e21:=e21) (e22:=e22) (e23:=e23) (e24:=e24) (e25:=e25) (e26:=e26) (e27:=e27) (e28:=e28) (e29:=e29) (e30:=e30) (e31:=e31) (e32:=e32) hE hl (aB _) es.length 0 1001 (dropL es c.certs.list c) (by omega) (by omega) q1.ok (DC h hn _) hp;simp only[stC,hp,aQ,aM] at al;refine(al _ _ _ _ _ _ _ _ _ _ _ _ _ _ _ _ _ _ _ _ _ _ _ _ _ _ _ _ _ _ _ _ _).trans ?_;rw[dR];unfold iM dK;cases addL es (dropL es c.certs.list c) with
  |none=>rfl
  |some d=>
   unfold GQ;simp only[EV,ay,gJ]
 unfold iM at key|-;cases hr:dK es c with
 |none=>rw[hr] at key;exact an ⟨1001,key⟩
 |some d=>rw[hr] at key;exact an ⟨1001,key⟩
open Classical in
def Yx {c:Clock}{es:List Crt}(h:bC c)(hn0:aS c.now)(hE:EdgOk c.pts es):den (bK D) 1001 Mx [] [CL c,F c.pts,sl crow es]=some (iM es c):=by
 have hl:=h.2.1;have hlen:=hE.len;have m1:=phi (vQ (Ah h hn0) (yL h));rw[aq h,show okE true=0 from rfl] at m1
 have m2:=phi (tR c.pts);rw[eE.2 hl] at m2;unfold Mx;simp only[ay,c9,bv,m1,m2,EV,aA,aJ,aw,ax,ai];refine(cD (m:=1001) (l:=es) (p:=λ_=>true) (st:=λi=>[.i64 (i:Int)]) (r:=none) (fin:=some (iM es c)) (λi x self hx _=>?_) (λ_ self=>?_) (by omega)).trans (ad (by simp))
 .obtain⟨o1,o2,o3,o4,o5⟩:=hE.ok x (au hx);unfold xM;simp only[ay,aX hx (iZ _),aN hx,tT,j5,j6,EV,aa,bh (aL hx),cx,up1 (show i<1000000000 by have:=aL hx;omega)]
  grind
 .unfold xM;simp only[EV,aa,bP];unfold Hz;simp only[EV,ai];refine(cD (m:=1001) (l:=es) (p:=λ_=>true) (st:=λi=>[.i64 (i:Int)]) (r:=none) (fin:=some (iM es c)) (λi x self hx _=>?_) (λ_ self=>?_) (by omega)).trans (ad (by simp))
  .have hn:x∉es.take i:=λhm=>by
    obtain⟨j,hj⟩:=aI.1 hm;have hji:j<i:=by have:=aL hj;rw[aP] at this;omega
    rw[cH hji] at hj;have:=dr.1 hE.nd j i x hj hx;omega
   have m3:=phi (xq (l:=es.take i) x (by rw[aP];omega));rw[ak hn] at m3;have hi:=aL hx;unfold xL;simp only[ay,aX hx (iZ _),aN hx,tT,Ye (show i<=es.length by omega),Uv (show i<=es.length by omega),m3,EV,ai,aa,bh hi,aw,ax,az,up1 (show i<1000000000 by omega)]
  .unfold xL;simp only[EV,aa,bP];unfold Hy;simp only[EV,ai];refine(cD (m:=1001) (l:=es) (p:=λ_=>true) (st:=λi=>[.i64 (i:Int)]) (r:=none) (fin:=some (iM es c)) (λi x self hx _=>?_) (λ_ self=>?_) (by omega)).trans (ad (by simp))
   .obtain⟨a,p,a1,a2,_⟩:=yM hl (hE.low x (au hx));obtain⟨b,q,b1,b2,_⟩:=yM hl (hE.high x (au hx));have n1:=phi (Ch hl a1);have n2:=phi (Ch hl b1);rw[a2] at n1;rw[b2] at n2;unfold xK;simp only[ay,aX hx (iZ _),aN hx,tT,j5,j6,n1,n2,Yf,EV,ai,aa,bh (aL hx),aA,aJ,aw,ax,az,up1 (show i<1000000000 by have:=aL hx;omega)]
   .unfold xK;simp only[EV,aa,bP];unfold Hx;have m4:=phi (UE h hn0 ⟨hE.ok,hE.low,hE.high⟩ (by omega));have pz:RF.ev (.part 0 11) [CLz]=some CLz:=rfl;unfold iM at m4|-;cases hr:dK es c with
    |none=>
     rw[hr] at m4;simp only[EV,ay,phi (R1 (pT h)),m4,pU,pz]
    |some d=>
     rw[hr] at m4;simp only[EV,ay,phi (R1 (pT h)),m4,c9,oq]
def LY {c:Clock}{es:List Crt}(h:bC c)(hn:aS c.now)(hE:EdgOk c.pts es):Ans D 264 [CL c,F c.pts,sl crow es] (iM es c):=by
 have key:=Yx h hn hE;unfold iM at key|-;cases hr:dK es c with
 |none=>rw[hr] at key;exact an ⟨1001,key⟩
 |some d=>rw[hr] at key;exact an ⟨1001,key⟩
def KTz:PV:= .agg [.i64 0,.i64 0,.sl [],.i64 0,.sl [],.sl [],.sl [],.sl [],.sl [],.sl [],.sl [],.sl [],.sl []]
def HTz:PV:= .agg [.i64 0,.i64 0,.sl [],.i64 0,.sl [],.sl [],.sl [],.sl [],.sl [],.sl [],.sl [],.i64 0,.sl []]
def KHz:PV:= .agg [.i64 0,.i64 0,.sl [],.i64 0,.sl [],.sl [],.sl [],.sl [],.sl [],.sl [],.sl [],.sl []]
def FN:RF.ev .agg [.i64 0,.i64 0,.sl [],.i64 0,.sl [],.sl [],.sl [],.sl [],.sl [],.sl [],.sl [],.sl [],.sl []]=some KTz:=rfl
def FO:RF.ev .agg [.i64 0,.i64 0,.sl [],.i64 0,.sl [],.sl [],.sl [],.sl [],.sl [],.sl [],.sl [],.i64 0,.sl []]=some HTz:=rfl
def uE:RF.ev .agg [.i64 0,.i64 0,.sl [],.i64 0,.sl [],.sl [],.sl [],.sl [],.sl [],.sl [],.sl [],.sl []]=some KHz:=rfl
def LZ (c:Clock)(pl:List Int):List PV:=match dK (edsB (bracketOf c.now c.pts pl).wins pl (bracketOf c.now c.pts pl).wins.length) c with
 |some d=>[KT ⟨d,bracketOf c.now c.pts pl⟩,.i64 0]
 |none=>[KTz,.i64 18]
def L0 (c:Clock):List PV:=match dK (edgsT (cart c.now c.pts).nodes c.pts.length) c with
 |some d=>[HT ⟨d,cart c.now c.pts⟩,.i64 0]
 |none=>[HTz,.i64 18]
def L1 (c:Clock):List PV:=match dK (cw c.pts (cX c.now c.pts)) c with
 |some d=>[KH ⟨d,cX c.now c.pts⟩,.i64 0]
 |none=>[KHz,.i64 18]
def g18:(!decide ((18:Int)=0))=true:=rfl
section
variable {c:Clock}(h:bC c)(hn:aS c.now)
include h hn
theorem aeh {pl:List Int}(h1:1<=pl.length)(h2:pl.length<=64)(hv:∀x∈pl,d6 c.pts x)(ho:g9 pl):Ans D 170 [CL c,F c.pts,sl I1 pl] (LZ c pl):=by
 have hl:=h.2.1;have hE:=jY (t:=c.now) hl h1 h2 hv ho;have m1:bK D 159 [F c.pts,R c.now,sl I1 pl]=some [BR (bracketOf c.now c.pts pl),sl crow (edsB (bracketOf c.now c.pts pl).wins pl (bracketOf c.now c.pts pl).wins.length)]:=phi (LI hl hn h.1 h1 h2 hv ho rfl);have m2:=phi (LY h hn hE);unfold iM at m2;unfold LZ;cases hr:dK (edsB (bracketOf c.now c.pts pl).wins pl (bracketOf c.now c.pts pl).wins.length) c with
 |none=>
  rw[hr] at m2;refine am ?_;unfold Mn;simp[c9,bv,gQ,m1,oh,m2,EV,pU,FN]
 |some d=>
  rw[hr] at m2;refine am ?_;unfold Mn;simp[c9,bv,gQ,m1,oh,m2,EV,oq,Yg,Ux]
theorem aei:Ans D 172 [CL c,F c.pts] (L0 c):=by
 have hl:=h.2.1;have hE:=lM (t:=c.now) hl;have m2:=phi (LY h hn hE);unfold iM at m2;unfold L0;cases hr:dK (edgsT (cart c.now c.pts).nodes c.pts.length) c with
 |none=>
  rw[hr] at m2;refine am ?_;unfold Mo;simp[c9,bv,gQ,phi (Fm hl hn h.1 (ph hl) (uB hl)),vK,m2,EV,pU,FO]
 |some d=>
  rw[hr] at m2;refine am ?_;unfold Mo;simp[c9,bv,gQ,phi (Fm hl hn h.1 (ph hl) (uB hl)),vK,m2,EV,oq,Yh,Uy]
theorem aej:Ans D 173 [CL c,F c.pts] (L1 c):=by
 have hl:=h.2.1;have hE:=lL (t:=c.now) hl;have m2:=phi (LY h hn hE);unfold iM at m2;unfold L1;cases hr:dK (cw c.pts (cX c.now c.pts)) c with
 |none=>
  rw[hr] at m2;refine am ?_;unfold Mp;simp[c9,bv,gQ,phi (Fk hl hn h.1),m2,EV,pU,uE]
 |some d=>
  rw[hr] at m2;refine am ?_;unfold Mp;simp[c9,bv,gQ,phi (Fk hl hn h.1),m2,EV,oq,Uw]
end
def NR {l:List Pt}(h:okF l):EdgH l λt=>cw l (cX t l):=⟨λt _ _=>let q:=lL (t:=t) h;⟨q.ok,q.low,q.high⟩,λt _ _ x hx=>(fg h hx).2.2⟩
def NS {l:List Pt}(h:okF l):EdgH l λt=>edgsT (cart t l).nodes l.length:=⟨λt _ _=>let q:=lM (t:=t) h;⟨q.ok,q.low,q.high⟩,λt _ _ x hx=>(fZ h hx).2.2⟩
def Kf {l:List Pt}{pl:List Int}(h:okF l)(h1:1<=pl.length)(h2:pl.length<=64)(hv:∀x∈pl,d6 l x)(ho:g9 pl):EdgH l λt=>edsB (bracketOf t l pl).wins pl (bracketOf t l pl).wins.length:=
 ⟨λt _ _=>let q:=jY (t:=t) h h1 h2 hv ho;⟨q.ok,q.low,q.high⟩,λt _ _ x hx=>let⟨_,b2,b3⟩:=iz (t:=t) h h1 h2 hv ho;(iy (b:=bracketOf t l pl) h b2 hv b3 hx).2.2⟩
def FQ (c:Clock)(u:List Int):RF.ev .agg [CL c,sl I1 u]=some (KH ⟨c,u⟩):=rfl
def L2 (x:Crt):RF.ev (.bs 1 [KP.z,KP.z] [0]) [CP x]=some (sl crow [x]):=rfl
def Ez (x:Crt):RF.ev .sub [sl crow [x],.v (.int .i64 0),.v (.int .i64 1)]=some (sl crow [x]):=rfl
def CA (k:KHeap):RF.ev (.cell 11) [KH k]=some (sl I1 k.heap):=rfl
section
variable (k:KHeap)
def cH0:RF.ev (.cell 0) [KH k]=some (.i64 k.clock.now.num):=rfl
def cH1:RF.ev (.cell 1) [KH k]=some (.i64 k.clock.now.den):=rfl
def cH2:RF.ev (.cell 2) [KH k]=some (sl row k.clock.pts):=rfl
def cH3:RF.ev (.cell 3) [KH k]=some (.i64 k.clock.certs.next):=rfl
def cH4:RF.ev (.cell 4) [KH k]=some (sl hrow k.clock.certs.list):=rfl
def cH5:RF.ev (.cell 5) [KH k]=some (sl I1 k.clock.agenda.slots.uses):=rfl
def cH6:RF.ev (.cell 6) [KH k]=some (sl B1 k.clock.agenda.slots.used):=rfl
def cH7:RF.ev (.cell 7) [KH k]=some (sl I1 k.clock.agenda.slots.free):=rfl
def cH8:RF.ev (.cell 8) [KH k]=some (sl cv k.clock.agenda.heap):=rfl
def cH9:RF.ev (.cell 9) [KH k]=some (sl I1 k.clock.agenda.wher):=rfl
def L3:RF.ev (.cell 10) [KH k]=some (sl cW k.clock.due):=rfl
end
def UF:RF.ev (.shape 12) [KHz]=some KHz:=rfl
def NT {N:Nat}{f:JT}{l:List Pt}{t:Rt}(hl:okF l)(hr:rok t=true)(ht:aS t){e0 e1 e2 e4 e5 e6 e7 e8 e9 e10 e11:PV}:∀(n m:Nat) (c:Clock) (out:List Crt) (r:Option (Clock×List Crt)),n<=m->out.length+n<=1000000->Stl l c->crs c.now t<=0->adv (λt=>cw l (cX t l)) t n c out=some r->
  dY (bK D) N A5 [f] [e0,e1,e2,R t,e4,e5,e6,e7,e8,e9,e10,e11] m (stC c++[sl I1 (cX c.now l),sl crow out,.i64 (out.length:Int)])=match r with
   |some (d,out')=>f (sl crow out':: .i64 (out'.length:Int)::(stC d++[sl I1 (cX d.now l)]))
   |none=>some [KHz,.sl [],.i64 18]
 |0,m,c,out,r,hm,ho,h,hp,ha=>by cases ha
 |n+1,m,c,out,r,hm,ho,h,hp,ha=>by
  obtain⟨m,rfl⟩:∃m',m=m'+1:=⟨m-1,by omega⟩;rw[bB];unfold adv at ha;cases he:fd c t with
  |none=>
   rw[he] at ha;cases ha;have m1:=phi (Ey h.ok h.n64 hr ht hp (my he));have g6:(!decide ((6:Int)=0))=true:=rfl;unfold A5;simp[stC,EV,gJ,m1,pU,iv,jJ,g6]
  |some e=>
   obtain⟨n1,n2,n3⟩:=eN he;obtain⟨i,x,hi,hxe,hce,hf⟩:=kx h.ok n1;obtain⟨f1,f2⟩:=jI h.ok n1 h.n64;have hpt:(dO c e).pts=l:=h.pts;have hnow:(dO c e).now=e.time:=rfl;have m1:=phi (LV h.ok h.n64 hr ht hp n1 n3 hi hxe);have m2:=phi (aej f1 f2);unfold L1 at m2;rw[hpt,hnow] at m2;rw[he] at ha;simp only at ha;cases hd:dK (cw l (cX e.time l)) (dO c e) with
   |none=>
    rw[hd] at ha m2;cases ha;unfold A5;simp only[stC,aQ,aM,EV,ay,gJ,m1,c9,iv,jJ,aA,aJ,aw,ax,iu,hpt,m2,UF,g18,az,uE]
   |some d=>
    rw[hd] at ha m2;simp only at ha m2;obtain⟨s1,s2,s3⟩:=pI (NR hl) h n1 hd;have ap:=gt (f:=crow) (l:=out) (k:=[dt c e]) (bytes:=16) (z:=2) (by simp;omega) iZ;rw[hce] at ap ha;have ih:=NT (N:=N) (f:=f) (l:=l) (t:=t) hl hr ht (e0:=e0) (e1:=e1) (e2:=e2) (e4:=e4) (e5:=e5) (e6:=e6) (e7:=e7) (e8:=e8) (e9:=e9) (e10:=e10) (e11:=e11) n m d (out++[x.cert]) r (by omega) (by rw[aD,aK];omega) s1 (by rw[s2];exact n2) ha;rw[s2] at ih;simp only[stC,aQ,aM] at ih;refine bS ?_ ih;unfold A5;simp only[stC,aQ,aM,EV,ay,gJ,m1,c9,iv,jJ,aA,aJ,aw,ax,iu,hpt,m2,jO,L2,Ez,ap,ai,cH0,cH1,cH2,cH3,cH4,cH5,cH6,cH7,cH8,cH9,L3,CA,s2]
section
variable (k:Heater)
def cQ0:RF.ev (.cell 0) [HT k]=some (.i64 k.clock.now.num):=rfl
def cQ1:RF.ev (.cell 1) [HT k]=some (.i64 k.clock.now.den):=rfl
def cQ2:RF.ev (.cell 2) [HT k]=some (sl row k.clock.pts):=rfl
def cQ3:RF.ev (.cell 3) [HT k]=some (.i64 k.clock.certs.next):=rfl
def cQ4:RF.ev (.cell 4) [HT k]=some (sl hrow k.clock.certs.list):=rfl
def cQ5:RF.ev (.cell 5) [HT k]=some (sl I1 k.clock.agenda.slots.uses):=rfl
def cQ6:RF.ev (.cell 6) [HT k]=some (sl B1 k.clock.agenda.slots.used):=rfl
def cQ7:RF.ev (.cell 7) [HT k]=some (sl I1 k.clock.agenda.slots.free):=rfl
def cQ8:RF.ev (.cell 8) [HT k]=some (sl cv k.clock.agenda.heap):=rfl
def cQ9:RF.ev (.cell 9) [HT k]=some (sl I1 k.clock.agenda.wher):=rfl
def Yy:RF.ev (.cell 10) [HT k]=some (sl cW k.clock.due):=rfl
def Yz:RF.ev (.cell 11) [HT k]=some (.i64 k.tree.root):=rfl
def YA:RF.ev (.cell 12) [HT k]=some (sl dG k.tree.nodes):=rfl
end
section
variable (k:KTourn)
def cY0:RF.ev (.cell 0) [KT k]=some (.i64 k.clock.now.num):=rfl
def cY1:RF.ev (.cell 1) [KT k]=some (.i64 k.clock.now.den):=rfl
def cY2:RF.ev (.cell 2) [KT k]=some (sl row k.clock.pts):=rfl
def cY3:RF.ev (.cell 3) [KT k]=some (.i64 k.clock.certs.next):=rfl
def cY4:RF.ev (.cell 4) [KT k]=some (sl hrow k.clock.certs.list):=rfl
def cY5:RF.ev (.cell 5) [KT k]=some (sl I1 k.clock.agenda.slots.uses):=rfl
def cY6:RF.ev (.cell 6) [KT k]=some (sl B1 k.clock.agenda.slots.used):=rfl
def cY7:RF.ev (.cell 7) [KT k]=some (sl I1 k.clock.agenda.slots.free):=rfl
def cY8:RF.ev (.cell 8) [KT k]=some (sl cv k.clock.agenda.heap):=rfl
def cY9:RF.ev (.cell 9) [KT k]=some (sl I1 k.clock.agenda.wher):=rfl
def YB:RF.ev (.cell 10) [KT k]=some (sl cW k.clock.due):=rfl
def YC:RF.ev (.cell 11) [KT k]=some (sl I1 k.brk.places):=rfl
def YD:RF.ev (.cell 12) [KT k]=some (sl I1 k.brk.wins):=rfl
end
def aek:RF.ev (.shape 13) [HTz]=some HTz:=rfl
def ael:RF.ev (.shape 13) [KTz]=some KTz:=rfl
def NU {N:Nat}{f:JT}{l:List Pt}{t:Rt}(hl:okF l)(hr:rok t=true)(ht:aS t){e0 e1 e2 e4 e5 e6 e7 e8 e9 e10 e11:PV}:∀(n m:Nat) (c:Clock) (out:List Crt) (r:Option (Clock×List Crt)),n<=m->out.length+n<=1000000->Stl l c->crs c.now t<=0->adv (λt=>edgsT (cart t l).nodes l.length) t n c out=some r->
  dY (bK D) N A4 [f] [e0,e1,e2,R t,e4,e5,e6,e7,e8,e9,e10,e11] m (stC c++[.i64 (cart c.now l).root,sl dG (cart c.now l).nodes,sl crow out,.i64 (out.length:Int)])=match r with
   |some (d,out')=>f (sl crow out':: .i64 (out'.length:Int)::(stC d++[.i64 (cart d.now l).root,sl dG (cart d.now l).nodes]))
   |none=>some [HTz,.sl [],.i64 18]
 |0,m,c,out,r,hm,ho,h,hp,ha=>by cases ha
 |n+1,m,c,out,r,hm,ho,h,hp,ha=>by
  obtain⟨m,rfl⟩:∃m',m=m'+1:=⟨m-1,by omega⟩;rw[bB];unfold adv at ha;cases he:fd c t with
  |none=>
   rw[he] at ha;cases ha;have m1:=phi (Ey h.ok h.n64 hr ht hp (my he));have g6:(!decide ((6:Int)=0))=true:=rfl;unfold A4;simp[stC,EV,gJ,m1,pU,iv,jJ,g6]
  |some e=>
   obtain⟨n1,n2,n3⟩:=eN he;obtain⟨i,x,hi,hxe,hce,hf⟩:=kx h.ok n1;obtain⟨f1,f2⟩:=jI h.ok n1 h.n64;have hpt:(dO c e).pts=l:=h.pts;have hnow:(dO c e).now=e.time:=rfl;have m1:=phi (LV h.ok h.n64 hr ht hp n1 n3 hi hxe);have m2:=phi (aei f1 f2);unfold L0 at m2;rw[hpt,hnow] at m2;rw[he] at ha;simp only at ha;cases hd:dK (edgsT (cart e.time l).nodes l.length) (dO c e) with
   |none=>
    rw[hd] at ha m2;cases ha;unfold A4;simp only[stC,aQ,aM,EV,ay,gJ,m1,c9,iv,jJ,aA,aJ,aw,ax,iu,hpt,m2,aek,g18,az,FO]
   |some d=>
    rw[hd] at ha m2;simp only at ha m2;obtain⟨s1,s2,s3⟩:=pI (NS hl) h n1 hd;have ap:=gt (f:=crow) (l:=out) (k:=[dt c e]) (bytes:=16) (z:=2) (by simp;omega) iZ;rw[hce] at ap ha;have ih:=NU (N:=N) (f:=f) (l:=l) (t:=t) hl hr ht (e0:=e0) (e1:=e1) (e2:=e2) (e4:=e4) (e5:=e5) (e6:=e6) (e7:=e7) (e8:=e8) (e9:=e9) (e10:=e10) (e11:=e11) n m d (out++[x.cert]) r (by omega) (by rw[aD,aK];omega) s1 (by rw[s2];exact n2) ha;rw[s2] at ih;simp only[stC,aQ,aM] at ih;refine bS ?_ ih;unfold A4;simp only[stC,aQ,aM,EV,ay,gJ,m1,c9,iv,jJ,aA,aJ,aw,ax,iu,hpt,m2,vM,L2,Ez,ap,ai,cQ0,cQ1,cQ2,cQ3,cQ4,cQ5,cQ6,cQ7,cQ8,cQ9,Yy,Yz,YA,s2]
def NV {N:Nat}{f:JT}{l:List Pt}{t:Rt}(hl:okF l)(hr:rok t=true)(ht:aS t){pl:List Int}(h1:1<=pl.length)(h2:pl.length<=64)(hv:∀x∈pl,d6 l x)(hoc:g9 pl){e0 e1 e2 e4 e5 e6 e7 e8 e9 e10 e11:PV}:∀(n m:Nat) (c:Clock) (out:List Crt) (r:Option (Clock×List Crt)),n<=m->out.length+n<=1000000->Stl l c->crs c.now t<=0->adv (λt=>edsB (bracketOf t l pl).wins pl (bracketOf t l pl).wins.length) t n c out=some r->
  dY (bK D) N A3 [f] [e0,e1,e2,R t,e4,e5,e6,e7,e8,e9,e10,e11] m (stC c++[sl I1 pl,sl I1 (bracketOf c.now l pl).wins,sl crow out,.i64 (out.length:Int)])=match r with
   |some (d,out')=>f (sl crow out':: .i64 (out'.length:Int)::(stC d++[sl I1 pl,sl I1 (bracketOf d.now l pl).wins]))
   |none=>some [KTz,.sl [],.i64 18]
 |0,m,c,out,r,hm,ho,h,hp,ha=>by cases ha
 |n+1,m,c,out,r,hm,ho,h,hp,ha=>by
  obtain⟨m,rfl⟩:∃m',m=m'+1:=⟨m-1,by omega⟩;rw[bB];unfold adv at ha;cases he:fd c t with
  |none=>
   rw[he] at ha;cases ha;have m1:=phi (Ey h.ok h.n64 hr ht hp (my he));have g6:(!decide ((6:Int)=0))=true:=rfl;unfold A3;simp[stC,EV,gJ,m1,pU,iv,jJ,g6]
  |some e=>
   obtain⟨n1,n2,n3⟩:=eN he;obtain⟨i,x,hi,hxe,hce,hf⟩:=kx h.ok n1;obtain⟨f1,f2⟩:=jI h.ok n1 h.n64;have hpt:(dO c e).pts=l:=h.pts;have hnow:(dO c e).now=e.time:=rfl;have m1:=phi (LV h.ok h.n64 hr ht hp n1 n3 hi hxe);have m2:=phi (aeh f1 f2 h1 h2 (λx hx=>by rw[hpt];exact hv x hx) hoc);unfold LZ at m2;rw[hpt,hnow] at m2;rw[he] at ha;simp only at ha;cases hd:dK (edsB (bracketOf e.time l pl).wins pl (bracketOf e.time l pl).wins.length) (dO c e) with
   |none=>
    rw[hd] at ha m2;cases ha;unfold A3;simp only[stC,aQ,aM,EV,ay,gJ,m1,c9,iv,jJ,aA,aJ,aw,ax,iu,hpt,m2,ael,g18,az,FN]
   |some d=>
    rw[hd] at ha m2;simp only at ha m2;obtain⟨s1,s2,s3⟩:=pI (Kf hl h1 h2 hv hoc) h n1 hd;have ap:=gt (f:=crow) (l:=out) (k:=[dt c e]) (bytes:=16) (z:=2) (by simp;omega) iZ;rw[hce] at ap ha;have ih:=NV (N:=N) (f:=f) (l:=l) (t:=t) hl hr ht h1 h2 hv hoc (e0:=e0) (e1:=e1) (e2:=e2) (e4:=e4) (e5:=e5) (e6:=e6) (e7:=e7) (e8:=e8) (e9:=e9) (e10:=e10) (e11:=e11) n m d (out++[x.cert]) r (by omega) (by rw[aD,aK];omega) s1 (by rw[s2];exact n2) ha;rw[s2] at ih;simp only[stC,aQ,aM] at ih;refine bS ?_ ih;unfold A3;simp only[stC,aQ,aM,EV,ay,gJ,m1,c9,iv,jJ,aA,aJ,aw,ax,iu,hpt,m2,vL,L2,Ez,ap,ai,cY0,cY1,cY2,cY3,cY4,cY5,cY6,cY7,cY8,cY9,YB,YC,YD,s2];rfl
def DD (l k:List Pt):(l.flatMap λp=>k.map λq=>(p,q)).length=l.length*k.length:=by
 induction l with
 |nil=>simp
 |cons a l ih=>rw[dc,aD,ai,ih,aV,b8];omega
def xD {l:List Pt}(h:okF l)(t:Rt):cY t l<5000:=by
 have h1:cY t l<=(p9 l).length:=eu;have h2:(p9 l).length=l.length*l.length:=DD l l;have h3:=dS h.1 h.1;omega
def fK (E:Rt->List Crt)(t:Rt)(c:Clock):Option (Clock×List Crt):=(adv E t 5000 c []).getD none
def yR {l:List Pt}{E:Rt->List Crt}(hl:okF l)(hE:EdgH l E){t:Rt}{c:Clock}(h:Stl l c):adv E t 5000 c []=some (fK E t c):=by
 obtain⟨r,hr⟩:=Jr hE (t:=t) 5000 c [] h (xD hl _);unfold fK;rw[hr];rfl
def yS {l:List Pt}{E:Rt->List Crt}(hE:EdgH l E){t:Rt}:∀(n:Nat) (c:Clock) (out:List Crt) (d:Clock) (out':List Crt),Stl l c->crs c.now t<=0->adv E t n c out=some (some (d,out'))->Stl l d/\ crs d.now t<=0/\ lz d t=false/\(d=c\/∀y∈d.certs.list,y.cert∈E d.now)/\ out'.length<=out.length+n
 |0,c,out,d,out',_,_,h=>by cases h
 |n+1,c,out,d,out',h,hp,ha=>by
  unfold adv at ha;cases he:fd c t with
  |none=>
   rw[he] at ha;cases ha;exact⟨h,hp,my he,.inl rfl,by omega⟩
  |some e=>
   rw[he] at ha;simp only at ha;cases hd:dK (E e.time) (dO c e) with
   |none=>rw[hd] at ha;cases ha
   |some d0=>
    rw[hd] at ha;simp only at ha;obtain⟨n1,n2,_⟩:=eN he;obtain⟨s1,s2,s3⟩:=pI hE h n1 hd;obtain⟨q1,q2,q3,q4,q5⟩:=yS hE n d0 _ d out' s1 (by rw[s2];exact n2) ha;refine⟨q1,q2,q3,.inr ?_,by rw[aD,aK] at q5;omega⟩;rcases q4 with q4|q4
    .subst q4;obtain⟨f1,f2⟩:=jI h.ok n1 h.n64;have hr:=(h.ok.2.2.2.1.2.2.1 e (au n1)).1;have hpt:(dO c e).pts=l:=h.pts;rw[s2];exact yy (by rw[hpt];exact hE.ok _ hr f2) f1 f2 hd
    .exact q4
def goU (k:KHeap)(t:Rt):List PV:=match fK (λt=>cw k.clock.pts (cX t k.clock.pts)) t k.clock with
 |some (d,out)=>[KH ⟨atC d t,cX t k.clock.pts⟩,sl crow out,.i64 0]
 |none=>[KHz,.sl [],.i64 18]
def c48 {k:KHeap}{t:Rt}(hchk:Ans D 71 [KH k] [.i64 0])(h:Stl k.clock.pts k.clock)(hu:k.heap=cX k.clock.now k.clock.pts)(hr:rok t=true)(ht:aS t)(hp:crs k.clock.now t<=0):Ans D 99 [KH k,R t] (goU k t):=by
 have hl:=h.ok.2.1;have hE:=NR hl;have ha:=yR hl hE (t:=t) h;have m1:=phi hchk;have m2:=phi (c43 ht);rw[hr,show okE true=0 from rfl] at m2
 have m3:=phi (qB ht h.n64);rw[hr,h.ok.1] at m3;have ng:¬sgn (crs t k.clock.now)<0:=by
  have:=eR t k.clock.now;unfold sgn
  grind
 have pR0:RF.ev (.part 0 2) [KH k]=some (R k.clock.now):=rfl;have key:den (bK D) 5001 k48 [] [KH k,R t]=some (goU k t):=by
  unfold k48;simp only[ay,jO,ij,m1,m2,EV,aA,aJ,aw,ax,pR0,m3,fF,az,ng,aY,cH0,cH1,cH2,cH3,cH4,cH5,cH6,cH7,cH8,cH9,L3,CA,hu];refine(NT (N:=5001) hl hr ht 5000 5001 k.clock [] _ (by omega) (by simp) h hp ha).trans ?_;unfold goU;cases hg:fK (λt=>cw k.clock.pts (cX t k.clock.pts)) t k.clock with
  |none=>rfl
  |some z=>
   obtain⟨d,out⟩:=z;rw[hg] at ha;obtain⟨q1,q2,q3,_,q5⟩:=yS hE 5000 k.clock [] d out h hp ha;have m4:=phi (LW q1.ok q1.n64 hr ht q2 q3);have fp:(atC d t).pts=k.clock.pts:=q1.pts;have s0:=ct (f:=crow) (l:=out);unfold U7;simp only[stC,aQ,aM,EV,ay,gJ,m4,c9,iu,fp,phi (Fk hl ht hr),oq,FQ,s0]
 unfold goU at key|-;cases hg:fK (λt=>cw k.clock.pts (cX t k.clock.pts)) t k.clock with
 |none=>rw[hg] at key;exact an ⟨5001,key⟩
 |some z=>rw[hg] at key;exact an ⟨5001,key⟩
def goH (k:Heater)(t:Rt):List PV:=match fK (λt=>edgsT (cart t k.clock.pts).nodes k.clock.pts.length) t k.clock with
 |some (d,out)=>[HT ⟨atC d t,cart t k.clock.pts⟩,sl crow out,.i64 0]
 |none=>[HTz,.sl [],.i64 18]
def aem (x:Tree):RF.ev (.shape 2) [TR x]=some (TR x):=rfl
def c47 {k:Heater}{t:Rt}(hchk:Ans D 70 [HT k] [.i64 0])(h:Stl k.clock.pts k.clock)(hu:k.tree=cart k.clock.now k.clock.pts)(hr:rok t=true)(ht:aS t)(hp:crs k.clock.now t<=0):Ans D 98 [HT k,R t] (goH k t):=by
 have hl:=h.ok.2.1;have hE:=NS hl;have ha:=yR hl hE (t:=t) h;have m1:=phi hchk;have m2:=phi (c43 ht);rw[hr,show okE true=0 from rfl] at m2
 have m3:=phi (qB ht h.n64);rw[hr,h.ok.1] at m3;have ng:¬sgn (crs t k.clock.now)<0:=by
  have:=eR t k.clock.now;unfold sgn
  grind
 have pR0:RF.ev (.part 0 2) [HT k]=some (R k.clock.now):=rfl;have key:den (bK D) 5001 k47 [] [HT k,R t]=some (goH k t):=by
  unfold k47;simp only[ay,vM,ij,m1,m2,EV,aA,aJ,aw,ax,pR0,m3,fF,az,ng,aY,cQ0,cQ1,cQ2,cQ3,cQ4,cQ5,cQ6,cQ7,cQ8,cQ9,Yy,Yz,YA,hu];refine(NU (N:=5001) hl hr ht 5000 5001 k.clock [] _ (by omega) (by simp) h hp ha).trans ?_;unfold goH;cases hg:fK (λt=>edgsT (cart t k.clock.pts).nodes k.clock.pts.length) t k.clock with
  |none=>rfl
  |some z=>
   obtain⟨d,out⟩:=z;rw[hg] at ha;obtain⟨q1,q2,q3,_,q5⟩:=yS hE 5000 k.clock [] d out h hp ha;have m4:=phi (LW q1.ok q1.n64 hr ht q2 q3);have fp:(atC d t).pts=k.clock.pts:=q1.pts;have s0:=ct (f:=crow) (l:=out);unfold U6;simp only[stC,aQ,aM,EV,ay,gJ,m4,c9,iu,fp,phi (Fm hl ht hr (ph hl) (uB hl)),aem,Yh,oq,Uy,s0]
 unfold goH at key|-;cases hg:fK (λt=>edgsT (cart t k.clock.pts).nodes k.clock.pts.length) t k.clock with
 |none=>rw[hg] at key;exact an ⟨5001,key⟩
 |some z=>rw[hg] at key;exact an ⟨5001,key⟩
def aen (x:Brk):RF.ev (.shape 2) [BR x]=some (BR x):=rfl
def edT (l:List Pt)(pl:List Int)(t:Rt):List Crt:=edsB (bracketOf t l pl).wins pl (bracketOf t l pl).wins.length
def goT (k:KTourn)(t:Rt):List PV:=match fK (edT k.clock.pts k.brk.places) t k.clock with
 |some (d,out)=>[KT ⟨atC d t,bracketOf t k.clock.pts k.brk.places⟩,sl crow out,.i64 0]
 |none=>[KTz,.sl [],.i64 18]
section
variable {k:KTourn}{t:Rt}(h:Stl k.clock.pts k.clock)(hu:k.brk=bracketOf k.clock.now k.clock.pts k.brk.places)(h1:1<=k.brk.places.length)(h2:k.brk.places.length<=64)(hv:∀x∈k.brk.places,d6 k.clock.pts x)(ho:g9 k.brk.places)(hr:rok t=true)(ht:aS t)(hp:crs k.clock.now t<=0)
include h hu h1 h2 hv ho hr ht hp
theorem c46 (hchk:Ans D 69 [KT k] [.i64 0]):Ans D 97 [KT k,R t] (goT k t):=by
 have hl:=h.ok.2.1;have hE:=Kf hl h1 h2 hv ho;have ha:=yR hl hE (t:=t) h;have m1:=phi hchk;have m2:=phi (c43 ht);rw[hr,show okE true=0 from rfl] at m2
 have m3:=phi (qB ht h.n64);rw[hr,h.ok.1] at m3;have ng:¬sgn (crs t k.clock.now)<0:=by
  have:=eR t k.clock.now;unfold sgn
  grind
 have pR0:RF.ev (.part 0 2) [KT k]=some (R k.clock.now):=rfl;have hw:k.brk.wins=(bracketOf k.clock.now k.clock.pts k.brk.places).wins:=aW Brk.wins hu;have key:den (bK D) 5001 k46 [] [KT k,R t]=some (goT k t):=by
  unfold k46;simp only[ay,vL,ij,m1,m2,EV,aA,aJ,aw,ax,pR0,m3,fF,az,ng,aY,cY0,cY1,cY2,cY3,cY4,cY5,cY6,cY7,cY8,cY9,YB,YC,YD];rw[hw];refine(NV (N:=5001) hl hr ht h1 h2 hv ho 5000 5001 k.clock [] _ (by omega) (by simp) h hp ha).trans ?_;unfold goT;have e:edT k.clock.pts k.brk.places=λt=>edsB (bracketOf t k.clock.pts k.brk.places).wins k.brk.places (bracketOf t k.clock.pts k.brk.places).wins.length:=rfl;rw[e];cases hg:fK (λt=>edsB (bracketOf t k.clock.pts k.brk.places).wins k.brk.places (bracketOf t k.clock.pts k.brk.places).wins.length) t k.clock with
  |none=>rfl
  |some z=>
   obtain⟨d,out⟩:=z;rw[hg] at ha;obtain⟨q1,q2,q3,_,q5⟩:=yS hE 5000 k.clock [] d out h hp ha;have m4:=phi (LW q1.ok q1.n64 hr ht q2 q3);have fp:(atC d t).pts=k.clock.pts:=q1.pts;have s0:=ct (f:=crow) (l:=out);have m6:bK D 159 [F k.clock.pts,R t,sl I1 k.brk.places]=some [BR (bracketOf t k.clock.pts k.brk.places),sl crow (edsB (bracketOf t k.clock.pts k.brk.places).wins k.brk.places (bracketOf t k.clock.pts k.brk.places).wins.length)]:=phi (LI hl ht hr h1 h2 hv ho rfl);unfold U5;simp only[stC,aQ,aM,EV,ay,gJ,m4,c9,iu,fp,m6,aen,Yg,oq,Ux,s0]
 unfold goT at key|-;cases hg:fK (edT k.clock.pts k.brk.places) t k.clock with
 |none=>rw[hg] at key;exact an ⟨5001,key⟩
 |some z=>rw[hg] at key;exact an ⟨5001,key⟩
end
def UG {l:List Int}(hn:l.Nodup){m:Nat}{v:Int}(h:l[m]?=some v):qA (λy=>decide (v=y)) l=(m:Int):=by
 have:l.findIdx? (λy=>decide (v=y))=some m:=by
  obtain⟨h1,h2⟩:=aC.1 h;rw[bU];refine⟨h1,by rw[h2];simp,λj hj e=>?_⟩;simp at e;have:=dr.1 hn j m v (by rw[ah (Nat.lt_trans hj h1),e]) h;omega
 unfold qA;rw[this];rfl
def aeo {k:KHeap}{t:Rt}(h:bC k.clock)(hn:aS k.clock.now)(hr:rok t=true)(ht:aS t)(hp:crs k.clock.now t<=0)(hw:lz k.clock t=false):Ans D 194 [KH k,R t] [KHz,CP C0,.i64 6]:=by
 have m1:=phi (Ey h hn hr ht hp hw);have g6:(!decide ((6:Int)=0))=true:=rfl;refine am ?_;unfold Mq;simp[jO,ij,pKH,m1,pU,iv,jJ,EV,uE,UD]
def KHe (u:List Int):PV:= .agg [.i64 0,.i64 0,.sl [],.i64 0,.sl [],.sl [],.sl [],.sl [],.sl [],.sl [],.sl [],sl I1 u]
def YE (u:List Int):RF.ev .agg [CLz,sl I1 u]=some (KHe u):=rfl
def evH (c:Clock)(e:Evt)(x:Crt)(hp:List Int):List PV:=match dK (b7 hp) (dO c e) with
 |some d=>[KH ⟨d,hp⟩,CP x,.i64 0]
 |none=>[KHe hp,CP x,.i64 18]
def ahF {k:KHeap}{t:Rt}(h:bC k.clock)(hn:aS k.clock.now)(hr:rok t=true)(ht:aS t)(hp:crs k.clock.now t<=0){e:Evt}(he:k.clock.agenda.heap[0]?=some e)(hw:lz k.clock t=true){i:Nat}{x:Held}(hx:k.clock.certs.list[i]?=some x)(hxe:x.number=e.number)
  (hnd:k.heap.Nodup) (hl:k.heap.length<=64) {n m:Nat} (hnm:n<m) (ha:k.heap[n]?=some x.cert.high) (hb:k.heap[m]?=some x.cert.low) (hE:EdgF k.clock.pts (b7 (ec k.heap n m x.cert.high x.cert.low))):Ans D 194 [KH k,R t] (evH k.clock e x.cert (ec k.heap n m x.cert.high x.cert.low)):=by
 have m1:=phi (LV h hn hr ht hp he hw hx hxe);obtain⟨f1,f2⟩:=jI h he hn;have hlen:(ec k.heap n m x.cert.high x.cert.low).length=k.heap.length:=by unfold ec;rw[a8,a8]
 have hle:(b7 (ec k.heap n m x.cert.high x.cert.low)).length<=1000:=by unfold b7;rw[jD];omega
 have m2:=phi (UE f1 f2 (es:=b7 (ec k.heap n m x.cert.high x.cert.low)) hE hle);have m3:=phi (RP (l:=ec k.heap n m x.cert.high x.cert.low) (by omega));have m4:=phi (qD (l:=k.heap) (by omega));have i1:=phi (RM (l:=k.heap) x.cert.low (by omega));have i2:=phi (RM (l:=k.heap) x.cert.high (by omega));rw[UG hnd hb] at i1;rw[UG hnd ha] at i2;have hnl:=bo ha;have hml:=bo hb;have s0:=ct (f:=I1) (l:=k.heap);have s1:=iK (l:=k.heap) hml x.cert.high;have s2:=iK (l:=k.heap.set m x.cert.high) (i:=n) (by rw[a8];exact hnl) x.cert.low;have sw:(k.heap.set m x.cert.high).set n x.cert.low=ec k.heap n m x.cert.high x.cert.low:=by unfold ec;rw[qK _ _ (by omega)]
 rw[sw] at s2;have s3:=ct (f:=I1) (l:=ec k.heap n m x.cert.high x.cert.low);rw[hlen] at s3;have fp:(dO k.clock e).pts=k.clock.pts:=rfl;have pz:RF.ev (.part 0 11) [CLz]=some CLz:=rfl;unfold iM at m2;rw[fp] at m2;unfold evH;cases hq:dK (b7 (ec k.heap n m x.cert.high x.cert.low)) (dO k.clock e) with
 |none=>
  rw[hq] at m2;refine am ?_;unfold Mq;simp only[ay,jO,ij,pKH,m1,c9,iv,jJ,EV,aA,aJ,aw,ax,CA,m4,ai,s0,j5,j6,i1,i2,ixM hnl,ixM hml,aN ha,aN hb,cV,s1,s2,iu,fp,s3,m3,m2,pU,pz,YE]
 |some d=>
  rw[hq] at m2;refine am ?_;unfold Mq;simp only[ay,jO,ij,pKH,m1,c9,iv,jJ,EV,aA,aJ,aw,ax,CA,m4,ai,s0,j5,j6,i1,i2,ixM hnl,ixM hml,aN ha,aN hb,cV,s1,s2,iu,fp,s3,m3,m2,oq,FQ]
def CB (c:Clock)(u:List Int):RF.ev .agg [.i64 c.now.num,.i64 c.now.den,sl row c.pts,.i64 c.certs.next,sl hrow c.certs.list,sl I1 c.agenda.slots.uses,sl B1 c.agenda.slots.used,sl I1 c.agenda.slots.free,sl cv c.agenda.heap,sl I1 c.agenda.wher,sl cW c.due,sl I1 u]=some (KH ⟨c,u⟩):=rfl
def aep (u:List Int):RF.ev (.shape 12) [KHe u]=some (KHe u):=rfl
def NW {N:Nat}{f:JT}{l:List Pt}{t:Rt}(hl:okF l)(hr:rok t=true)(ht:aS t){e0 e1 e2 e4 e5 e6 e7 e8 e9 e10 e11:PV}:∀(n m:Nat) (c:Clock) (hp:List Int) (out:List Crt) (r:Option (Clock×List Int×List Crt)),n<=m->out.length+n<=100000000->HStl l c hp->crs c.now t<=0->kV t n c hp out=some r->
  dY (bK D) N A2 [f] [e0,e1,e2,R t,e4,e5,e6,e7,e8,e9,e10,e11] m (stC c++[sl I1 hp,sl crow out,.i64 (out.length:Int)])=match r with
   |some (d,hq,out')=>f (sl crow out':: .i64 (out'.length:Int)::(stC d++[sl I1 hq]))
   |none=>some [KHz,.sl [],.i64 18]
 |0,m,c,hp,out,r,hm,ho,h,hp0,ha=>by cases ha
 |n+1,m,c,hp,out,r,hm,ho,h,hp0,ha=>by
  obtain⟨m,rfl⟩:∃m',m=m'+1:=⟨m-1,by omega⟩;rw[bB];unfold kV at ha;have n6:decide ((0:Int)=6)=false:=rfl;have n18:decide ((18:Int)=6)=false:=rfl;have y6:decide ((6:Int)=6)=true:=rfl;cases he:fd c t with
  |none=>
   rw[he] at ha;cases ha;have m1:=phi (aeo (k:=⟨c,hp⟩) h.ok h.n64 hr ht hp0 (my he));unfold A2;simp[stC,EV,CB,m1,UF,jJ,y6]
  |some e=>
   obtain⟨n1,n2,n3⟩:=eN he;obtain⟨i,x,hi,hxe,hce,hf⟩:=kx h.ok n1;obtain⟨p,q,q1,q2,q3,q4⟩:=oT h n1;have h64:hp.length<=64:=by rw[h.len];exact hl.1
   rw[he] at ha;simp only at ha;rw[q4] at ha;rw[hce] at q2 q3 ha;have pm:=rk q2 q3;have nd:=pm.nodup_iff.2 h.nd;have hE:EdgF c.pts (b7 (ec hp p q x.cert.high x.cert.low)):=by rw[h.pts];exact B8 hl nd λy hy=>h.inl y (pm.mem_iff.1 hy)
   have m1:=phi (ahF (k:=⟨c,hp⟩) h.ok h.n64 hr ht hp0 n1 n3 hi hxe h.nd h64 q1 q2 q3 hE);unfold evH at m1;simp only at m1;cases hd:dK (b7 (ec hp p q x.cert.high x.cert.low)) (dO c e) with
   |none=>
    rw[hd] at ha m1;cases ha;simp only at m1;unfold A2;simp only[stC,aQ,aM,EV,ay,CB,m1,aep,jJ,n18,aw,ax,g18,az,uE]
   |some d=>
    rw[hd] at ha m1;simp only at ha m1;obtain⟨t1,t2,t3⟩:=qp hl h n1 q1 (by rw[hce];exact q2) (by rw[hce];exact q3) (by rw[hce];exact hd);rw[hce] at t1;have ap:=gt (f:=crow) (l:=out) (k:=[x.cert]) (bytes:=16) (z:=2) (by simp;omega) iZ;have ih:=NW (N:=N) (f:=f) (l:=l) (t:=t) hl hr ht (e0:=e0) (e1:=e1) (e2:=e2) (e4:=e4) (e5:=e5) (e6:=e6) (e7:=e7) (e8:=e8) (e9:=e9) (e10:=e10) (e11:=e11) n m d (ec hp p q x.cert.high x.cert.low) (out++[x.cert]) r (by omega) (by rw[aD,aK];omega) t1 (by rw[t2];exact n2) ha;simp only[stC,aQ,aM] at ih;refine bS ?_ ih;unfold A2;simp only[stC,aQ,aM,EV,ay,CB,m1,jO,jJ,n6,aA,aJ,aw,ax,L2,Ez,ap,ai,cH0,cH1,cH2,cH3,cH4,cH5,cH6,cH7,cH8,cH9,L3,CA]
def pq (t:Rt)(c:Clock)(hp:List Int):Option (Clock×List Int×List Crt):=(kV t 30000000 c hp []).getD none
def Kg {l:List Pt}(hl:okF l){t:Rt}{c:Clock}{hp:List Int}(h:HStl l c hp):kV t 30000000 c hp []=some (pq t c hp):=by
 obtain⟨r,hr⟩:=Ec hl (t:=t) 30000000 c hp [] h (Re hl h.len (xD hl _));unfold pq;rw[hr];rfl
def goK (k:KHeap)(t:Rt):List PV:=match pq t k.clock k.heap with
 |some (d,hq,out)=>[KH ⟨atC d t,hq⟩,sl crow out,.i64 0]
 |none=>[KHz,.sl [],.i64 18]
def c45 {k:KHeap}{t:Rt}(hchk:Ans D 68 [KH k] [.i64 0])(h:HStl k.clock.pts k.clock k.heap)(hr:rok t=true)(ht:aS t)(hp:crs k.clock.now t<=0):Ans D 96 [KH k,R t] (goK k t):=by
 have hl:=h.ok.2.1;have ha:=Kg hl (t:=t) h;have m1:=phi hchk;have m2:=phi (c43 ht);rw[hr,show okE true=0 from rfl] at m2
 have m3:=phi (qB ht h.n64);rw[hr,h.ok.1] at m3;have ng:¬sgn (crs t k.clock.now)<0:=by
  have:=eR t k.clock.now;unfold sgn
  grind
 have pR0:RF.ev (.part 0 2) [KH k]=some (R k.clock.now):=rfl;have key:den (bK D) 30000001 k45 [] [KH k,R t]=some (goK k t):=by
  unfold k45;simp only[ay,jO,ij,m1,m2,EV,aA,aJ,aw,ax,pR0,m3,fF,az,ng,aY,cH0,cH1,cH2,cH3,cH4,cH5,cH6,cH7,cH8,cH9,L3,CA];refine(NW (N:=30000001) hl hr ht 30000000 30000001 k.clock k.heap [] _ (by omega) (by simp) h hp ha).trans ?_;unfold goK;cases hg:pq t k.clock k.heap with
  |none=>rfl
  |some z=>
   obtain⟨d,hq,out⟩:=z;rw[hg] at ha;obtain⟨q1,q2,q3,q5⟩:=Jy hl 30000000 k.clock k.heap [] d hq out h hp ha;have m4:=phi (LW q1.ok q1.n64 hr ht q2 q3);have m5:=phi (qD (l:=hq) (by rw[q1.len];have:=hl.1;omega));have s0:=ct (f:=crow) (l:=out);have s1:=ct (f:=I1) (l:=hq);unfold U4;simp only[stC,aQ,aM,EV,ay,gJ,m4,c9,m5,ai,oq,s1,FQ,s0]
 unfold goK at key|-;cases hg:pq t k.clock k.heap with
 |none=>rw[hg] at key;exact an ⟨30000001,key⟩
 |some z=>rw[hg] at key;exact an ⟨30000001,key⟩
def rE {α:Type}[DecidableEq α]:∀{l k:List α},l.Nodup->(∀x∈l,x∈k)->l.length<=k.length
 |[],k,_,_=>c6 _
 |a::l,k,hn,hs=>by
  rw[bZ] at hn;have ha:=hs a (bQ ..);have:=rE (k:=k.erase a) hn.2 λx hx=>(kC (a:=x) (b:=a) λe=>hn.1 (by rw[<-e];exact hx)).2 (hs x (aO _ hx));rw[sR ha] at this;have:=List.length_pos_of_mem ha;rw[aV];omega
def Sc {c:Clock}(h:bC c){es:List Crt}(hs:∀y∈c.certs.list,y.cert∈es):c.certs.list.length<=es.length:=by
 have hp:=(lZ.1 h.2.2.1).2.2.2.2;have:(c.certs.list.map (·.cert)).Nodup:=gh.2 (hp.imp λh=>h.2);have:=rE this (k:=es) (by grind);rwa [ai] at this
structure Usd (k:Nat)(c:Clock):Prop where
 next:c.certs.next<=k
 uses:∀u∈c.agenda.slots.uses,u<=k
def Usd.le {k m:Nat}{c:Clock}(h:Usd k c)(hk:k<=m):Usd m c:=⟨by have:=h.next;omega,λu hu=>by have:=h.uses u hu;omega⟩
def Sd {c:Clock}{k:Nat}{x:Crt}(h:bC c)(s:Usd k c)(hk:k<1000000)(hl:c.certs.list.length<200):¬nG c x:=by
 obtain⟨h1,h2,h3,h4,h5,h6,h7,h8⟩:=iI.1 h;have hd:=Q3 h8;have hf:=fU (λx=>(fT c x.cert).2) c.certs.list;have hp:=h4.2.1;have hp1:=hp.1;have hp2:=hp.2.1;have:=s.next;rintro((q|q)|⟨_,q⟩)
 .omega
 .omega
 .rcases free_last (okR_fine.1 h4.1) with e|⟨fr,i,u,e,hu,_⟩
  .rw[e] at hp2;simp at hp2;omega
  .rw[rX e hu] at q;have:=s.uses u (au hu);simp at q;omega
def YF {k:Nat}{l:List Int}{i:Nat}(h:∀u∈l,u<=(k:Int)):∀u∈l.set i ((l[i]?).getD 0+1),u<=((k+1:Nat):Int):=λu hu=>by
 rcases dw hu with q|rfl
 .have:=h u q;omega
 .cases e:l[i]? with
  |none=>simp;omega
  |some v=>have:=h v (au e);simp;omega
def ahG {k:Nat}{c:Clock}{x:Crt}(h:Usd k c):Usd (k+1) (kw c x):=by
 have hn:(c.certs.next+1:Int)<=((k+1:Nat):Int):=by have:=h.next;omega
 unfold kw;split
 .exact⟨hn,YF h.uses⟩
 .exact⟨hn,λu hu=>by have:=h.uses u hu;omega⟩
def ahH {k:Nat}{c:Clock}{x:Crt}(h:Usd k c):Usd (k+1) (f7 c x):=by
 have hn:(c.certs.next+1:Int)<=((k+1:Nat):Int):=by have:=h.next;omega
 unfold f7;split
 .refine⟨hn,λu hu=>?_⟩;rcases dw (show u∈c.agenda.slots.uses.set (frI c) (0+1) from hu) with q|rfl
  .have:=h.uses u q;omega
  .omega
 .exact⟨hn,λu hu=>by have:=h.uses u hu;omega⟩
def NX {l:List Pt}{t:Rt}:∀(es:List Crt) {c:Clock} {k:Nat},Usd k c->Usd (k+es.length) (certAll c es)
 |[],c,k,h=>h
 |x::xs,c,k,h=>by
  have:=NX (l:=l) (t:=t) xs (ahH (x:=x) h);rw[aV,show k+(xs.length+1)=k+1+xs.length by omega]
  exact this
def NY {l:List Pt}{t:Rt}(es:List Crt):Usd es.length (certAll (newC l t) es):=by
 have:Usd 0 (newC l t):=⟨qa _,λu hu=>by
  have hu:u∈List.replicate 200 (0:Int):=hu;rw[List.eq_of_mem_replicate hu];exact qa _⟩
 have:=NX (l:=l) (t:=t) es this;rwa [cp] at this
def NZ (a:Agenda)(i j:Nat):(qH a i j).slots.uses=a.slots.uses:=by
 unfold qH;split
 .split<;>rfl
 .rfl
def Kh {k:Nat}{c:Clock}(h:Usd k c)(n:Int):Usd k (gI c n):=by
 refine⟨h.next,λu hu=>h.uses u ?_⟩;have hu:u∈(ly c n).slots.uses:=hu;unfold ly at hu;split at hu
 .rw[NZ] at hu;exact hu
 .exact hu
def zT {k:Nat}{es:List Crt}:∀(l:List Held) {c:Clock},Usd k c->Usd k (dropL es l c)
 |[],c,h=>h
 |x::l,c,h=>by
  have e:dropL es (x::l) c=dropL es l (if x.cert∈es then c else gI c x.number):=rfl
  rw[e];split
  .exact zT l h
  .exact zT l (Kh h _)
def xE {l:List Pt}{fs:List Crt}(hf:fs.length<200):∀{es:List Crt} {c:Clock} {k:Nat},EdgF l es->(∀x∈es,x∈fs)->bC c->aS c.now->c.pts=l->(∀y∈c.certs.list,y.cert∈fs)->Usd k c->k+es.length<=1000000->∃d,addL es c=some d/\ Usd (k+es.length) d
 |[],c,k,_,_,_,_,_,_,s,_=>⟨c,rfl,s⟩
 |x::xs,c,k,hE,hs,h,hn,hp,hc,s,hk=>by
  have hE':EdgF l xs:=⟨λy hy=>hE.ok y (aO _ hy),λy hy=>hE.low y (aO _ hy),λy hy=>hE.high y (aO _ hy)⟩;have hs':=λy hy=>hs y (aO _ hy);rw[aV] at hk|-;unfold addL;by_cases h1:(c.certs.list.any λh=>decide (h.cert=x))=true
  .rw[ad h1];obtain⟨d,q1,q2⟩:=xE hf hE' hs' h hn hp hc s (by omega);exact⟨d,q1,q2.le (by omega)⟩
  .rw[ac h1];have h2:¬nG c x:=Sd h s (by omega) (by have:=Sc h hc;omega);rw[ac h2];obtain⟨g1,g2,g3,g4⟩:=sK (yw hE h hp (bQ ..) (by simpa using h1)) hn h2
   obtain⟨d,q1,q2⟩:=xE hf hE' hs' g1 (by rw[g4];exact hn) (g3.trans hp) (λy hy=>by
    rw[g2] at hy;unfold lK at hy;rcases bR.1 hy with q|q
    .exact hc y q
    .rw[cd] at q;subst q;exact hs x (bQ ..)) (ahG (x:=x) s) (by omega)
   exact⟨d,q1,q2.le (by omega)⟩
def AT {c:Clock}{es:List Crt}{k:Nat}(hE:EdgF c.pts es)(h:bC c)(hn:aS c.now)(s:Usd k c)(hf:es.length<200)(hk:k+es.length<=1000000):∃d,dK es c=some d/\ Usd (k+es.length) d:=by
 obtain⟨q1,_,_⟩:=f9 es c.certs.list c h;exact xE (l:=c.pts) hf hE (λ_ h=>h) q1.ok (by rw[q1.now];exact hn) q1.pts (Eb h) (zT _ s) hk
def Ki {k:Nat}{c:Clock}(h:Usd k c)(e:Evt):Usd k (dO c e):=by
 obtain⟨h1,h2⟩:=Kh h e.number;exact⟨h1,h2⟩
def FR {l:List Pt}{E:Rt->List Crt}(hE:EdgH l E)(hn:∀t,(E t).length<=64){t:Rt}(hr:rok t=true):∀(n:Nat) (c:Clock) (out:List Crt) (k:Nat),Stl l c->crs c.now t<=0->Usd k c->k+64*cY c.now l<=1000000->cY c.now l<n->
  ∃d out',adv E t n c out=some (some (d,out'))/\ out'.length+cY t l<=out.length+cY c.now l
 |0,c,out,k,_,_,_,_,h=>by omega
 |n+1,c,out,k,h,hp,s,hk,hf=>by
  unfold adv;cases he:fd c t with
  |none=>exact⟨c,out,rfl,by have:=Ak (l:=l) h.ok.1 hr hp;omega⟩
  |some e=>
   simp only;obtain⟨n1,n2,_⟩:=eN he;obtain⟨f1,f2⟩:=jI h.ok n1 h.n64;have hre:=(h.ok.2.2.2.1.2.2.1 e (au n1)).1;have hpt:(dO c e).pts=l:=h.pts;have hl:=hn e.time;obtain⟨i,x,hi,_,_,hfx⟩:=kx h.ok n1;have hlt:=Am h.ok (au n1) (au hi) hfx (h.holds x (au hi));rw[h.pts] at hlt;obtain⟨d,hd,sd⟩:=AT (es:=E e.time) (by rw[hpt];exact hE.ok _ hre f2) f1 f2 (Ki s e) (by omega) (by omega);rw[hd];obtain⟨s1,s2,s3⟩:=pI hE h n1 hd;rw[s2] at s3;obtain⟨d',out',q1,q2⟩:=FR hE hn hr n d (out++[dt c e]) (k+(E e.time).length) s1 (by rw[s2];exact n2) sd (by rw[s2];omega) (by rw[s2];omega);refine⟨d',out',q1,?_⟩;rw[aD,aK,s2] at q2;omega
structure Dst (l:List Pt)(a b:Rt):Prop where
 apart:∀p∈l,∀q∈l,p.a=q.a->p.b=q.b->p=q
 alone:∀p∈l,∀q∈l,∀u∈l,∀v∈l,∀s:Rt,rok s=true->crs a s<0->crs s b<=0->p.b<q.b->far s p q=0->u.b<v.b->far s u v=0->p=u/\ q=v
def rF (s:Rt)(p q r:Pt):far s p r=far s p q+far s q r:=by
 unfold far
 grind
def Kj {c:Clock}(h:bC c){e:Evt}(he:e∈c.agenda.heap){x:Held}(hx:x∈c.certs.list)(hf:fT c x.cert=(e.time,true))(hh:Holds c x.cert):
  (ptOf c.pts x.cert.high).b<(ptOf c.pts x.cert.low).b/\ far e.time (ptOf c.pts x.cert.high) (ptOf c.pts x.cert.low)=0/\ crs c.now e.time<0:=by
 have hh:leads c.now (ptOf c.pts x.cert.high) (ptOf c.pts x.cert.low)=true:=hh;unfold fT at hf;generalize ptOf c.pts x.cert.high=P at hh hf|-;generalize ptOf c.pts x.cert.low=Q at hh hf|-;have hq:gB c.now (P,Q)=true:=by unfold gB;simp[hh,hf]
 obtain⟨f1,f2⟩:=nH.1 hq;obtain⟨g,g0,hg⟩:=qn f2;have h3:¬leads c.now Q P=true:=by rw[fy hh];simp
 unfold cL at hf;rw[ac h3,ad f2] at hf;simp only[qM,gG] at hf;have a:=hg c.now;have b:=hg e.time;rw[hf] at a b;have z:crs e.time e.time=0:=by unfold crs;omega
 rw[z,iR] at b;refine⟨f2,by omega,?_⟩;apply ru.1;intro hle;have:=mF hle (show 0<=g by omega)
 omega
def Se {c:Clock}(h:bC c){e:Evt}(he:c.agenda.heap[0]?=some e){y:Held}(hy:y∈c.certs.list)(hf:fT c y.cert≠(e.time,true)):leads e.time (ptOf c.pts y.cert.high) (ptOf c.pts y.cert.low)=true:=by
 have hm:=au he;have hn:=vo h hm;obtain⟨h1,h2,h3,h4,h5,h6,h7,h8⟩:=iI.1 h;have hre:=(h4.2.2.1 e hm).1;have hc:=((lZ.1 h3).2.2.2.1 y hy).1;have hk:=h7 y hy;unfold dW at hk;rw[aH] at hk;obtain⟨k1,k2⟩:=hk;obtain⟨i,p,a1,a2,a3,a4⟩:=d5 h2 k1;obtain⟨j,q,b1,b2,b3,b4⟩:=d5 h2 k2;have hne:q.id≠p.id:=by have:=hc.2.2.2.2;omega
 have ev:∀{xs:List Due} {ys:List Held},F2 (wT c) xs ys->∀y∈ys,∃e∈c.agenda.heap,e.time=(fT c y.cert).1:=by
  intro xs ys k;induction k with
  |nil=>intro y hy;cases hy
  |cons r t ih=>
   intro y hy;rcases bf.1 hy with e|hy
   .rw[e];exact⟨_,r.2,rfl⟩
   .exact ih y hy
 unfold fT at hf;rw[a4,b4] at hf|-;rcases leads_total (t:=e.time) hne with g|g
 .exact g
 .exfalso;have f2:cL e.time q p=(e.time,true):=by unfold cL;rw[ad g]
  have fm:=tN (dC h2 b1) (dC h2 a1) hne h1 hre hn;cases hq:(cL c.now q p).2 with
  |false=>
   have:=fm.2 hq;rw[f2] at this;rw[<-this] at hq;cases hq
  |true=>
   have e1:fT c y.cert=cL c.now q p:=by unfold fT;rw[a4,b4]
   obtain⟨e',he',het⟩:=ev h8 y (bk.2 ⟨hy,by rw[e1];exact hq⟩);have:=fm.1 hq (by rw[<-e1,<-het];exact Ai h4 he he');rw[f2] at this;exact hf this.symm
structure HGood (l:List Pt)(c:Clock)(hp:List Int):Prop where
 st:HStl l c hp
 has:∀x∈b7 hp,∃y∈c.certs.list,y.cert=x
 holds:∀y∈c.certs.list,Holds c y.cert
def Sf {hp:List Int}{j:Nat}{a b:Int}(h0:0<j)(ha:hp[j]?=some a)(hb:hp[(j-1)/2]?=some b):(⟨a,b⟩:Crt)∈b7 hp:=by
 have hj:=bo ha;refine bb.2 ⟨j-1,cR.2 (by omega),?_⟩;have e1:nthI hp (j-1+1)=a:=by rw[show j-1+1=j by omega];have:=pJ hj;rw[ha] at this;cases this;rfl
 have e2:nthI hp ((j-1)/2)=b:=by have:=pJ (l:=hp) (i:=(j-1)/2) (by omega);rw[hb] at this;cases this;rfl
 rw[e1,e2]
def VQ {hp:List Int}{x:Crt}(h:x∈b7 hp):∃j:Nat,0<j/\ hp[j]?=some x.low/\ hp[(j-1)/2]?=some x.high:=by
 obtain⟨i,hi,rfl⟩:=bb.1 h;rw[cR] at hi;exact⟨i+1,by omega,pJ (by omega),by rw[di];exact pJ (by omega)⟩
def Sg {l:List Pt}{a b s:Rt}(D:Dst l a b)(hr:rok s=true)(h1:crs a s<0)(h2:crs s b<=0){P Q C:Pt}(hP:P∈l)(hQ:Q∈l)(hC:C∈l)(hb:P.b<Q.b)(hf:far s P Q=0)(hne:C≠P)(hnq:C≠Q)(hl:leads s Q C=true)(hd:0<s.den):leads s P C=true:=by
 have e:=rF s P Q C;rcases leads_iff.1 hl with q|⟨q,_⟩
 .exact leads_iff.2 (.inl (by omega))
 .exfalso;by_cases hbb:Q.b=C.b
  .refine hnq (D.apart C hC Q hQ ?_ hbb.symm);unfold far at q;rw[hbb,Int.sub_self,iR,Int.add_zero] at q;rcases jx.1 q with z|z<;>omega
  .rcases qt hbb with k|k
   .have:=D.alone P hP Q hQ Q hQ C hC s hr h1 h2 hb hf k q;rw[this.1] at hb;omega
   .have fn:=nW s Q C;have:=D.alone P hP Q hQ C hC Q hQ s hr h1 h2 hb hf k (by omega);exact hne this.1.symm
def N0 {l:List Pt}{a b s:Rt}(D:Dst l a b)(hr:rok s=true)(h1:crs a s<0)(h2:crs s b<=0){P Q C:Pt}(hP:P∈l)(hQ:Q∈l)(hC:C∈l)(hb:P.b<Q.b)(hf:far s P Q=0)(hne:C≠P)(hnq:C≠Q)(hl:leads s C P=true)(hd:0<s.den):leads s C Q=true:=by
 have e:=rF s C P Q;rcases leads_iff.1 hl with q|⟨q,_⟩
 .exact leads_iff.2 (.inl (by omega))
 .exfalso;by_cases hbb:C.b=P.b
  .refine hne (D.apart C hC P hP ?_ hbb);unfold far at q;rw[hbb,Int.sub_self,iR,Int.add_zero] at q;rcases jx.1 q with z|z<;>omega
  .rcases qt hbb with k|k
   .have:=D.alone P hP Q hQ C hC P hP s hr h1 h2 hb hf k q;rw[<-this.2] at hb;omega
   .have fn:=nW s C P;have:=D.alone P hP Q hQ P hP C hC s hr h1 h2 hb hf k (by omega);exact hnq this.2.symm
def L4 {l:List Pt}(hl:okF l){a b:Rt}(D:Dst l a b){c d:Clock}{hp:List Int}(h:HGood l c hp)(ha:crs a c.now<=0)(hra:rok a=true){e:Evt}(he:c.agenda.heap[0]?=some e)(hb:crs e.time b<=0)
  (hd:dK (b7 (rm hp (dt c e))) (dO c e)=some d):HGood l d (rm hp (dt c e))/\ d.now=e.time/\ cY d.now l<cY c.now l:=by
 have hok:=h.st.ok;have hpt:=h.st.pts;have hm:=au he;obtain⟨n,m,q1,q2,q3,q4⟩:=oT h.st he;obtain⟨i,x,hi,_,hce,hfx⟩:=kx hok he;have hx:=au hi;have hre:=(hok.2.2.2.1.2.2.1 e hm).1;have hden:=dA hre;obtain⟨v1,v2,v3⟩:=Kj hok hm hx hfx (h.holds x hx);have v4:=B7 hok hm hx hfx;have v5:=Am hok hm hx hfx (h.holds x hx);have pm:=rk q2 q3;rw[q4] at hd|-;obtain⟨f1,f2⟩:=jI hok he h.st.n64;have hp':(dO c e).pts=l:=hpt;have nd:=pm.nodup_iff.2 h.st.nd;have inl:=λx hx=>h.st.inl x (pm.mem_iff.1 hx);have hE:EdgF (dO c e).pts (b7 (ec hp n m (dt c e).high (dt c e).low)):=by rw[hp'];exact B8 hl nd inl
 obtain⟨s1,s2,_⟩:=qp hl h.st he q1 q2 q3 hd;have hs:=Q8 hE f1 f2 hd;have lt1:crs a e.time<0:=by
  have:=om (a:=a) (b:=c.now) (c:=e.time) (by have:=dA hra;omega) (by have:=dA hok.1;omega) (by omega) ha (by omega)
  grind
 refine⟨⟨s1,hs,λy hy=>?_⟩,s2,by rw[s2,<-hpt];exact v5⟩;unfold Holds;rw[s2,s1.pts];obtain⟨j0,j1,j2,j3⟩:=VQ (h.st.sub x hx);rw[hce] at q2 q3 hs s1;have em:j0=m:=dr.1 h.st.nd _ _ _ j2 q3;have en:(j0-1)/2=n:=dr.1 h.st.nd _ _ _ j3 q2;rw[em] at j1 en;rw[hpt] at v1 v2 v4;have pt:∀{k:Nat} {v:Int},hp[k]?=some v->ptOf l v∈l/\(ptOf l v).id=v:=λ{k v} hk=>by
  obtain⟨i,p,a1,a2,a3,a4⟩:=d5 hl (h.st.inl v (au hk));rw[a4];exact⟨au a1,a2⟩
 have ne:∀{k k':Nat} {v v':Int},hp[k]?=some v->hp[k']?=some v'->k≠k'->ptOf l v≠ptOf l v':=λ{k k' v v'} hk hk' hn e=>by
  have e1:=(pt hk).2;rw[e,(pt hk').2] at e1;subst e1;exact hn (dr.1 h.st.nd _ _ _ hk hk')
 have old:∀(j:Nat) (u v:Int),0<j->j≠m->hp[j]?=some u->hp[(j-1)/2]?=some v->leads e.time (ptOf l v) (ptOf l u)=true:=λj u v h0 hj hu hv=>by
  obtain⟨y,hy,hyc⟩:=h.has _ (Sf h0 hu hv);have:=Se hok he hy λhf=>by
   obtain⟨w1,w2,_⟩:=Kj hok hm hy hf (h.holds y hy);rw[hyc,hpt] at w1 w2;have:=D.alone _ (pt q2).1 _ (pt q3).1 _ (pt hv).1 _ (pt hu).1 e.time hre lt1 hb v1 v2 w1 w2;exact ne q3 hu (λe=>hj e.symm) this.2
  rw[hyc,hpt] at this;exact this
 have key:HO (ldI e.time l) (ec hp n m x.cert.high x.cert.low):=λj h0 u v hu hv=>by
  show leads e.time (ptOf l v) (ptOf l u)=true
  have G:∀k:Nat,(ec hp n m x.cert.high x.cert.low)[k]?=if k=m then some x.cert.high else if k=n then some x.cert.low else hp[k]?:=λk=>by
   have:=bo q2;have:=bo q3;unfold ec;rw[it,a8,it]
   grind
  rw[G] at hu hv;by_cases c1:j=m
  .subst c1;rw[ad rfl] at hu;rw[ac (by omega),ad en] at hv;cases hu;cases hv;exact v4
  .rw[ac c1] at hu;by_cases c2:(j-1)/2=m
   .rw[ad c2] at hv;rw[ac (by omega)] at hu;cases hv;exact Sg D hre lt1 hb (pt q2).1 (pt q3).1 (pt hu).1 v1 v2 (ne hu q2 (by omega)) (ne hu q3 (by omega)) (old j u x.cert.low h0 c1 hu (by rw[c2];exact q3)) (by omega)
   .rw[ac c2] at hv;by_cases c3:(j-1)/2=n
    .rw[ad c3] at hv;rw[ac (by omega)] at hu;cases hv;exact jH v4 (old j u x.cert.high h0 c1 hu (by rw[c3];exact q2))
    .rw[ac c3] at hv;by_cases c4:j=n
     .rw[ad c4] at hu;cases hu;exact N0 D hre lt1 hb (pt q2).1 (pt q3).1 (pt hv).1 v1 v2 (ne hv q2 (by omega)) (ne hv q3 (by omega)) (old j x.cert.high v h0 c1 (by rw[c4];exact q2) hv) (by omega)
     .rw[ac c4] at hu;exact old j u v h0 c1 hu hv
 exact mX key (s1.sub y hy)
def AU {l:List Pt}(hl:okF l){a t:Rt}(D:Dst l a t)(hra:rok a=true)(hr:rok t=true):∀(n:Nat) (c:Clock) (hp:List Int) (out:List Crt) (d:Clock) (hq:List Int) (out':List Crt),HGood l c hp->crs a c.now<=0->crs c.now t<=0->kV t n c hp out=some (some (d,hq,out'))->out'.length+cY t l<=out.length+cY c.now l
 |0,c,hp,out,d,hq,out',_,_,_,h=>by cases h
 |n+1,c,hp,out,d,hq,out',h,ha,hp0,hA=>by
  unfold kV at hA;cases he:fd c t with
  |none=>
   rw[he] at hA;cases hA;have:=Ak (l:=l) h.st.ok.1 hr hp0;omega
  |some e=>
   rw[he] at hA;simp only at hA;obtain⟨n1,n2,_⟩:=eN he;cases hd:dK (b7 (rm hp (dt c e))) (dO c e) with
   |none=>rw[hd] at hA;cases hA
   |some d0=>
    rw[hd] at hA;simp only at hA;obtain⟨s1,s2,s3⟩:=L4 hl D h ha hra n1 n2 hd;have hm:=au n1;have:=AU hl D hra hr n d0 _ _ d hq out' s1 (by
     rw[s2];exact(om (a:=a) (b:=c.now) (c:=e.time) (by have:=dA hra;omega) (by have:=dA h.st.ok.1;omega) (by have:=dA (h.st.ok.2.2.2.1.2.2.1 e hm).1;omega) ha (vo h.st.ok hm)).1) (by rw[s2];exact n2) hA
    rw[aD,aK] at this;omega
def DE {l:List Pt}(hl:okF l){t:Rt}:∀(n:Nat) (c:Clock) (hp:List Int) (out:List Crt) (k:Nat),HStl l c hp->Usd k c->k+64*(jv c.now l hp+1)<=1000000->jv c.now l hp<n->∃z,kV t n c hp out=some (some z)
 |0,c,hp,out,k,_,_,_,h=>by omega
 |n+1,c,hp,out,k,h,s,hk,hn=>by
  unfold kV;cases he:fd c t with
  |none=>exact⟨_,rfl⟩
  |some e=>
   simp only;obtain⟨n1,n2,_⟩:=eN he;obtain⟨i,j,q1,q2,q3,q4⟩:=oT h n1;rw[q4];obtain⟨f1,f2⟩:=jI h.ok n1 h.n64;have hp':(dO c e).pts=l:=h.pts;have pm:=rk q2 q3;have hlen:(b7 (ec hp i j (dt c e).high (dt c e).low)).length<=64:=by
    unfold b7;rw[jD,pm.length_eq,h.len];have:=hl.1;omega
   have hM:∃d,dK (b7 (ec hp i j (dt c e).high (dt c e).low)) (dO c e)=some d/\ Usd (k+(b7 (ec hp i j (dt c e).high (dt c e).low)).length) d:=AT (by rw[hp'];exact B8 hl (pm.nodup_iff.2 h.nd) λx hx=>h.inl x (pm.mem_iff.1 hx)) f1 f2 (Ki s e) (by omega) (by omega);obtain⟨d,hd,sd⟩:=hM;obtain⟨s1,s2,s3⟩:=qp hl h n1 q1 q2 q3 hd;rw[hd];exact DE hl n d _ _ _ s1 sd (by omega) (by omega)
def FS {a b c:Rt}(ha:rok a=true)(hb:rok b=true)(hc:rok c=true)(h1:crs a b<=0)(h2:crs b c<=0):crs a c<=0:=
 (om (a:=a) (b:=b) (c:=c) (by have:=dA ha;omega) (by have:=dA hb;omega) (by have:=dA hc;omega) h1 h2).1
structure Alike (l:List Pt)(c c':Clock):Prop where
 st:Stl l c
 st':Stl l c'
 to:∀y∈c.certs.list,∃y'∈c'.certs.list,y'.cert=y.cert
 of:∀y'∈c'.certs.list,∃y∈c.certs.list,y.cert=y'.cert
 ft:∀y∈c.certs.list,fT c' y.cert=fT c y.cert
def aeq {c:Clock}(h:bC c){y:Held}(hy:y∈c.certs.list)(hf:(fT c y.cert).2=true):∃e∈c.agenda.heap,e.time=(fT c y.cert).1:=by
 have h8:=(iI.1 h).2.2.2.2.2.2.2;have ev:∀{xs:List Due} {ys:List Held},F2 (wT c) xs ys->∀y∈ys,∃e∈c.agenda.heap,e.time=(fT c y.cert).1:=by
  intro xs ys k;induction k with
  |nil=>intro y hy;cases hy
  |cons r t ih=>
   intro y hy;rcases bf.1 hy with e|hy
   .rw[e];exact⟨_,r.2,rfl⟩
   .exact ih y hy
 exact ev h8 y (bk.2 ⟨hy,hf⟩)
def FU {c c':Clock}(h:bC c)(h':bC c')(to:∀y∈c.certs.list,∃y'∈c'.certs.list,y'.cert=y.cert)(ft:∀y∈c.certs.list,fT c' y.cert=fT c y.cert){e:Evt}(he:c.agenda.heap[0]?=some e):∃e',c'.agenda.heap[0]?=some e'/\ crs e'.time e.time<=0:=by
 obtain⟨x,hx,_,hf⟩:=ES h (au he);obtain⟨x',hx',hc⟩:=to x hx;have f:=ft x hx;rw[hf,<-hc] at f;obtain⟨e',he',ht⟩:=aeq h' hx' (by rw[f]);rw[f] at ht;obtain⟨i,hi⟩:=aI.1 he';have h0:c'.agenda.heap[0]?=some (c'.agenda.heap[0]'(by have:=bo hi;omega)):=ah _;have:=Ai h'.2.2.2.1 h0 he';rw[ht] at this;exact⟨_,h0,this⟩
def Alike.symm {l:List Pt}{c c':Clock}(h:Alike l c c'):Alike l c' c:=⟨h.st',h.st,h.of,h.to,λy hy=>by
 obtain⟨x,hx,hc⟩:=h.of y hy;rw[<-hc];exact(h.ft x hx).symm⟩
def Alike.first {l:List Pt}{c c':Clock}(h:Alike l c c'){e:Evt}(he:c.agenda.heap[0]?=some e):∃e',c'.agenda.heap[0]?=some e'/\ e'.time=e.time:=by
 obtain⟨e',h1,h2⟩:=FU h.st.ok h.st'.ok h.to h.ft he;obtain⟨e2,h3,h4⟩:=FU h.st'.ok h.st.ok h.symm.to h.symm.ft h1;rw[he] at h3;cases h3;have r1:=(h.st.ok.2.2.2.1.2.2.1 e (au he)).1;have r2:=(h.st'.ok.2.2.2.1.2.2.1 e' (au h1)).1;have:=eR e.time e'.time;exact⟨e',h1,vn r2 r1 (by omega)⟩
def Alike.next {l:List Pt}{c c':Clock}(h:Alike l c c'){t:Rt}:(fd c t=none/\ fd c' t=none)\/∃e e',fd c t=some e/\ fd c' t=some e'/\ e'.time=e.time:=by
 have key:∀{c c':Clock},Alike l c c'->∀e,fd c t=some e->∃e',fd c' t=some e'/\ e'.time=e.time:=λ{c c'} h e he=>by
  obtain⟨n1,n2,_⟩:=eN he;obtain⟨e',h1,h2⟩:=h.first n1;refine⟨e',?_,h2⟩;unfold fd;rw[h1];simp only;rw[h2,ad n2]
 cases he:fd c t with
 |some e=>obtain⟨e',h1,h2⟩:=key h e he;exact .inr ⟨e,e',rfl,h1,h2⟩
 |none=>
  cases he':fd c' t with
  |none=>exact .inl ⟨rfl,rfl⟩
  |some e'=>
   obtain⟨e,h1,_⟩:=key h.symm e' he';rw[he] at h1;cases h1
def VS (n d:Int)(hd:d≠0):mkR (-n) (-d)=mkR n d:=by
 unfold mkR;rw[Int.natAbs_neg,Int.natAbs_neg];by_cases h:n=0
 .subst h;simp
 .by_cases h1:n<0<;>by_cases h2:d<0<;>simp[h1,h2]<;>omega
def DF {p q:Pt}(h:p.b≠q.b):mkR (q.a-p.a) (p.b-q.b)=mkR (p.a-q.a) (q.b-p.b):=by
 rw[<-VS (p.a-q.a) (q.b-p.b) (by omega)]
 congr 1<;>omega
def jK (t:Rt)(m:Mt):Bool:=decide (crs t m.time<0)
def xF {t:Rt}{p q:Pt}:gB t (p,q)=(decide (p.b<q.b)&& jK t (fR p q)):=by
 by_cases hb:p.b<q.b
 .obtain⟨g,g0,hg⟩:=qn hb;have hg:=hg t;rw[dX,nH];unfold jK fR;simp only[aH,aa];generalize crs t (mkR (p.a-q.a) (q.b-p.b))=z at hg;constructor
  .rintro⟨h1,_⟩;refine⟨hb,?_⟩;apply ru.1;intro hle;have:=mF hle (show 0<=g by omega)
   omega
  .rintro⟨_,h1⟩;have:=fX h1 g0;exact⟨by omega,hb⟩
 .rw[ak hb,mD,mQ];intro h;exact hb (nH.1 h).2
def Si {t:Rt}{p q:Pt}:(if gB t (p,q)=true then 1 else 0)+(if gB t (q,p)=true then 1 else 0)=if(decide (p.b≠q.b)&& jK t (fR p q))=true then 1 else 0:=by
 rw[xF,xF];by_cases hb:p.b=q.b
 .simp[hb]
 .have e:jK t (fR q p)=jK t (fR p q):=by unfold jK fR;rw[DF hb]
  rw[e];rcases qt hb with h|h
  .rw[aq h,ak (show¬q.b<p.b by omega),aq hb];simp
  .rw[aq (show q.b<p.b from h),ak (show¬p.b<q.b by omega),aq hb];simp
def AV {f:Pt×Pt->Bool}{p:Pt}{l:List Pt}:∀k:List Pt,(k.flatMap λa=>(p::l).map λq=>(a,q)).countP f=k.countP (λa=>f (a,p))+(k.flatMap λa=>l.map λq=>(a,q)).countP f
 |[]=>rfl
 |a::k=>by
  have ih:=AV (f:=f) (p:=p) (l:=l) k;rw[dc,dc,jy,jy,ih,bH,cz,cz];omega
def DG {t:Rt}{p:Pt}:∀l:List Pt,l.countP (λa=>gB t (a,p))+(l.map λq=>(p,q)).countP (gB t)=((l.filter λq=>decide (p.b≠q.b)).map (fR p)).countP (jK t)
 |[]=>rfl
 |q::l=>by
  have ih:=DG (t:=t) (p:=p) l;have h:=Si (t:=t) (p:=p) (q:=q);rw[cz,bH,cz,cO];by_cases hb:p.b=q.b
  .have e:decide (p.b≠q.b)=false:=by simp[hb]
   rw[e,mD] at h;rw[e];simp only[aw,ax] at h|-;omega
  .have e:decide (p.b≠q.b)=true:=by simp[hb]
   rw[e,fG] at h;rw[e,ad rfl,bH,cz];omega
def v7 {t:Rt}:∀l:List Pt,cY t l=(rawM l).countP (jK t)
 |[]=>rfl
 |p::l=>by
  have ih:=v7 (t:=t) l;have h1:=AV (f:=gB t) (p:=p) (l:=l) (p::l);have h2:=DG (t:=t) (p:=p) l;have h0:gB t (p,p)=false:=by rw[xF];simp
  unfold cY p9 at ih|-;rw[h1,cz,h0,dc,jy];unfold rawM;rw[jy];simp only[aw,ax];omega
def nB (a b:Rt)(m:Mt):Bool:=jK a m&& decide (crs m.time b<=0)
def FV:∀{l:List Pt} {m:Mt},m∈rawM l->∃p∈l,∃q∈l,p.b≠q.b/\ m=fR p q
 |[],m,h=>by cases h
 |p::l,m,h=>by
  unfold rawM at h;rcases bR.1 h with h|h
  .obtain⟨q,hq,rfl⟩:=bb.1 h;obtain⟨h1,h2⟩:=bk.1 hq;exact⟨p,bQ ..,q,aO _ h1,by simpa using h2,rfl⟩
  .obtain⟨p',h1,q,h2,h3⟩:=FV h;exact⟨p',aO _ h1,q,aO _ h2,h3⟩
def se {l:List Pt}(h:okF l){m:Mt}(hm:m∈rawM l):rok m.time=true/\ aS m.time:=by
 obtain⟨p,hp,q,hq,hb,rfl⟩:=FV hm;obtain⟨i,hi⟩:=aI.1 hp;obtain⟨j,hj⟩:=aI.1 hq;have b1:=Pt.bnd (dC h hi);have b2:=Pt.bnd (dC h hj);exact FD ⟨by omega,by omega⟩ ⟨by omega,by omega⟩ (by omega)
def L5 {l:List Pt}(h:okF l){a b:Rt}(ha:rok a=true)(hb:rok b=true)(hab:crs a b<=0):cY a l=cY b l+(rawM l).countP (nB a b):=by
 rw[v7,v7];have e:=tO (p:=jK a) (q:=jK b) (l:=rawM l) λm hm hl=>by
  have hr:=(se h hm).1;unfold jK at hl|-;have hl:=aT hl;have:=om (a:=a) (b:=b) (c:=m.time) (by have:=dA ha;omega) (by have:=dA hb;omega) (by have:=dA hr;omega) hab (by omega);exact aq (by grind)
 rw[e]
 congr 1
 refine List.countP_congr λm _=>?_;unfold nB jK;have:=eR b m.time;simp;omega
def meet_mem:∀{l:List Pt} {p q:Pt},p∈l->q∈l->p.b≠q.b->fR p q∈rawM l\/fR q p∈rawM l
 |[],p,q,h,_,_=>by cases h
 |x::l,p,q,hp,hq,hb=>by
  unfold rawM;rcases bf.1 hp with e|hp'
  .subst e;rcases bf.1 hq with e|hq'
   .exact absurd (by rw[e]) hb
   .exact .inl (db _ (bb.2 ⟨q,bk.2 ⟨hq',by simpa using hb⟩,rfl⟩))
  .rcases bf.1 hq with e|hq'
   .subst e;exact .inr (db _ (bb.2 ⟨p,bk.2 ⟨hp',by simpa usingλe=>hb e.symm⟩,rfl⟩))
   .rcases meet_mem hp' hq' hb with h|h
    .exact .inl (ew _ h)
    .exact .inr (ew _ h)
def N1 {p q:Pt}{s:Rt}(hb:p.b<q.b)(hf:far s p q=0):crs s (fR p q).time=0:=by
 obtain⟨g,g0,hg⟩:=qn hb;have:=hg s;rw[hf] at this;have:crs s (mkR (p.a-q.a) (q.b-p.b))*g=0:=by omega
 exact(jx.1 this).resolve_right (by omega)
def YG {l:List Pt}(h:okF l){a b:Rt}(hap:∀p∈l,∀q∈l,p.a=q.a->p.b=q.b->p=q)(hd:∀m∈rawM l,∀n∈rawM l,nB a b m=true->nB a b n=true->m.time=n.time->m=n):Dst l a b:=by
 refine⟨hap,λp hp q hq u hu v hv s hr h1 h2 b1 f1 b2 f2=>?_⟩;have hi:=cT h.2.2;have key:∀{p q:Pt},p∈l->q∈l->p.b<q.b->far s p q=0->∃m∈rawM l,m.time=s/\ nB a b m=true/\((m.i=p.id/\ m.j=q.id)\/(m.i=q.id/\ m.j=p.id)):=λ{p q} hp hq hb hf=>by
  have t1:=N1 hb hf;have hne:p.b≠q.b:=by omega
  have go:∀m:Mt,m∈rawM l->m.time=(fR p q).time->m.time=s/\ nB a b m=true:=λm hm e=>by
   have hs:s=m.time:=vn hr (se h hm).1 (by rw[e];exact t1);refine⟨hs.symm,?_⟩;unfold nB jK;rw[<-hs,aq h1,aq h2];rfl
  rcases meet_mem hp hq hne with hm|hm
  .exact⟨_,hm,(go _ hm rfl).1,(go _ hm rfl).2,.inl ⟨rfl,rfl⟩⟩
  .have e:(fR q p).time=(fR p q).time:=DF hne;exact⟨_,hm,(go _ hm e).1,(go _ hm e).2,.inr ⟨rfl,rfl⟩⟩
 obtain⟨m,m1,m2,m3,m4⟩:=key hp hq b1 f1;obtain⟨n,n1,n2,n3,n4⟩:=key hu hv b2 f2;have e:=hd m m1 n n1 m3 n3 (by rw[m2,n2]);subst e;have I:∀{x y:Pt},x∈l->y∈l->x.id=y.id->x=y:=λhx hy e=>hi.inj hx hy e;rcases m4 with⟨e1,e2⟩|⟨e1,e2⟩<;>rcases n4 with⟨e3,e4⟩|⟨e3,e4⟩
 .exact⟨I hp hu (by omega),I hq hv (by omega)⟩
 .have:=I hp hv (by omega);have:=I hq hu (by omega)
  grind
 .have:=I hp hv (by omega);have:=I hq hu (by omega)
  grind
 .exact⟨I hp hu (by omega),I hq hv (by omega)⟩
def v8:∀l:List Pt,2*(rawM l).length<=l.length*(l.length-1)
 |[]=>aB _
 |p::l=>by
  have ih:=v8 l;unfold rawM;rw[aD,ai,aV,di];have h:=fU (λq:Pt=>decide (p.b≠q.b)) l;cases l with
  |nil=>simp[rawM]
  |cons q l=>
   rw[aV] at ih h|-;rw[di] at ih;have:(l.length+1+1)*(l.length+1)=(l.length+1)*l.length+2*(l.length+1):=by grind
   omega
def wa {c:Clock}{es:List Crt}(hc:dB c.certs)(hn:es.Nodup)(hJ:JustR c es):∀y∈c.certs.list,y.cert∈es:=
 ((tf hc hn λe he=>(hJ.2 e he).2).2 hJ).2
def xG {c:Clock}{es:List Crt}(hk:bC c)(h64:aS c.now)(hn:es.Nodup)(hJ:JustR c es):Stl c.pts c/\∀x∈es,∃y∈c.certs.list,y.cert=x:=
 ⟨⟨hk,h64,rfl,λy hy=>(hJ.2 _ (wa hk.2.2.1 hn hJ y hy)).2⟩,λx hx=>(hJ.2 x hx).1⟩
def Sj {k:KHeap}(h:jQ k)(h64:fJ k.clock):Stl k.clock.pts k.clock/\∀x∈cw k.clock.pts (cX k.clock.now k.clock.pts),∃y∈k.clock.certs.list,y.cert=x:=
 xG h.1 h64.1 (ol (cT h.1.2.1.2.2)) h.2.2
def Sk {k:Heater}(h:jR k)(h64:fJ k.clock):Stl k.clock.pts k.clock/\∀x∈edgsT (cart k.clock.now k.clock.pts).nodes k.clock.pts.length,∃y∈k.clock.certs.list,y.cert=x:=
 xG h.1 h64.1 (qV h.1.2.1 _ (aB _)) h.2.2
def Sl {k:KHeap}(h:iJ k)(h64:fJ k.clock):HStl k.clock.pts k.clock k.heap:=
 ⟨h.1,h64.1,rfl,wa h.1.2.2.1 (tX h.2.2.2.1) h.2.2.2.2,h.2.2.2.1,h.2.2.1,h.2.1⟩
def N2 {k:KTourn}(h:fk k)(h64:fJ k.clock):Stl k.clock.pts k.clock/\ k.brk=bracketOf k.clock.now k.clock.pts k.brk.places/\(1<=k.brk.places.length/\ k.brk.places.length<=64/\ g9 k.brk.places)/\∀x∈edT k.clock.pts k.brk.places k.clock.now,∃y∈k.clock.certs.list,y.cert=x:=by
 obtain⟨h1,h2,h3,h4,h5,h6,h7⟩:=h;have hm:k.brk.wins.length=k.brk.places.length-1:=by have:=h2.1.1.2.2;omega
 have hw:=(tM hm).2 h6;have hb:k.brk=bracketOf k.clock.now k.clock.pts k.brk.places:=by unfold bracketOf;rw[hw]
 obtain⟨s1,s2⟩:=xG h1 h64.1 (qW (b:=k.brk) h1.2.1 h2 h4 h6 _ (aB _)) h7;refine⟨s1,hb,⟨h2.1.1.1,h2.1.1.2.1,h2.1.2.1⟩,?_⟩;unfold edT
 grind
def yT (n:Int):sgn n<0↔n<0:=by
 unfold sgn
 grind
section
variable {t:Rt}(hr:rok t=true)(ht:aS t)
include hr ht
theorem ahI {k:KHeap}(hchk:Ans D 68 [KH k] [.i64 0])(hk:rok k.clock.now=true)(hn:aS k.clock.now)(hp:crs t k.clock.now<0):Ans D 96 [KH k,R t] [KHz,.sl [],.i64 44]:=by
 have m1:=phi hchk;have m2:=phi (c43 ht);rw[hr,show okE true=0 from rfl] at m2
 have m3:=phi (qB ht hn);rw[hr,hk] at m3;have ng:=(yT _).2 hp;have pR0:RF.ev (.part 0 2) [KH k]=some (R k.clock.now):=rfl;refine am ?_;unfold k45;simp[jO,ij,m1,m2,EV,pR0,m3,ng,uE]
theorem ahJ {k:KHeap}(hchk:Ans D 71 [KH k] [.i64 0])(hk:rok k.clock.now=true)(hn:aS k.clock.now)(hp:crs t k.clock.now<0):Ans D 99 [KH k,R t] [KHz,.sl [],.i64 44]:=by
 have m1:=phi hchk;have m2:=phi (c43 ht);rw[hr,show okE true=0 from rfl] at m2
 have m3:=phi (qB ht hn);rw[hr,hk] at m3;have ng:=(yT _).2 hp;have pR0:RF.ev (.part 0 2) [KH k]=some (R k.clock.now):=rfl;refine am ?_;unfold k48;simp[jO,ij,m1,m2,EV,pR0,m3,ng,uE]
theorem ahK {k:KTourn}(hchk:Ans D 69 [KT k] [.i64 0])(hk:rok k.clock.now=true)(hn:aS k.clock.now)(hp:crs t k.clock.now<0):Ans D 97 [KT k,R t] [KTz,.sl [],.i64 44]:=by
 have m1:=phi hchk;have m2:=phi (c43 ht);rw[hr,show okE true=0 from rfl] at m2
 have m3:=phi (qB ht hn);rw[hr,hk] at m3;have ng:=(yT _).2 hp;have pR0:RF.ev (.part 0 2) [KT k]=some (R k.clock.now):=rfl;refine am ?_;unfold k46;simp[vL,ij,m1,m2,EV,pR0,m3,ng,FN]
theorem ahL {k:Heater}(hchk:Ans D 70 [HT k] [.i64 0])(hk:rok k.clock.now=true)(hn:aS k.clock.now)(hp:crs t k.clock.now<0):Ans D 98 [HT k,R t] [HTz,.sl [],.i64 44]:=by
 have m1:=phi hchk;have m2:=phi (c43 ht);rw[hr,show okE true=0 from rfl] at m2
 have m3:=phi (qB ht hn);rw[hr,hk] at m3;have ng:=(yT _).2 hp;have pR0:RF.ev (.part 0 2) [HT k]=some (R k.clock.now):=rfl;refine am ?_;unfold k47;simp[vM,ij,m1,m2,EV,pR0,m3,ng,FO]
end
def gx (l:List PV)(i:Nat):PV:=l.getD i (.i64 0)
def EA {l:List PV}{i:Nat}(h:i<l.length):RF.ev (.cell i) [.agg l]=some (gx l i):=by
 show l[i]?=_
 unfold gx;rw[ah h,List.getD_eq_getElem?_getD,ah h];rfl
def tz (c:Choice){i:Nat}(h1:1<=i)(h2:i<=50):RF.ev (.cell i) [CHO c]=some (gx (bc c) i):=EA (show i<51 by omega)
def AW (k:KHeap){i:Nat}(h:i<=11):RF.ev (.cell i) [KH k]=some (gx (khC k) i):=EA (show i<12 by omega)
def N3 (k:KTourn){i:Nat}(h:i<=12):RF.ev (.cell i) [KT k]=some (gx (ktC k) i):=EA (show i<13 by omega)
def N4 (k:Heater){i:Nat}(h:i<=12):RF.ev (.cell i) [HT k]=some (gx (htC k) i):=EA (show i<13 by omega)
def sf (c:Choice)(L:PV)(e:Int):List PV:=if e=0 then [CHO c,L,.i64 0] else [CHO zCH,.sl [],.i64 e]
def wb {c:Choice}{L:PV}{e:Int}:(sf c L e).length=3:=by unfold sf;split<;>rfl
section
variable (g:Int)(c:Choice)
def aer (k:KHeap):RF.ev .agg [.v (.int .u8 g),gx (khC k) 0,gx (khC k) 1,gx (khC k) 2,gx (khC k) 3,gx (khC k) 4,gx (khC k) 5,gx (khC k) 6,gx (khC k) 7,gx (khC k) 8,gx (khC k) 9,gx (khC k) 10,gx (khC k) 11,gx (bc c) 13,gx (bc c) 14,gx (bc c) 15,gx (bc c) 16,gx (bc c) 17,gx (bc c) 18,gx (bc c) 19,gx (bc c) 20,gx (bc c) 21,gx (bc c) 22,gx (bc c) 23,gx (bc c) 24,gx (bc c) 25,gx (bc c) 26,gx (bc c) 27,gx (bc c) 28,gx (bc c) 29,gx (bc c) 30,gx (bc c) 31,gx (bc c) 32,gx (bc c) 33,gx (bc c) 34,gx (bc c) 35,gx (bc c) 36,gx (bc c) 37,gx (bc c) 38,gx (bc c) 39,gx (bc c) 40,gx (bc c) 41,gx (bc c) 42,gx (bc c) 43,gx (bc c) 44,gx (bc c) 45,gx (bc c) 46,gx (bc c) 47,gx (bc c) 48,gx (bc c) 49,gx (bc c) 50]=some (CHO ⟨g,k,c.tourn,c.heater,c.hanger⟩):=rfl
def aes (k:KTourn):RF.ev .agg [.v (.int .u8 g),gx (bc c) 1,gx (bc c) 2,gx (bc c) 3,gx (bc c) 4,gx (bc c) 5,gx (bc c) 6,gx (bc c) 7,gx (bc c) 8,gx (bc c) 9,gx (bc c) 10,gx (bc c) 11,gx (bc c) 12,gx (ktC k) 0,gx (ktC k) 1,gx (ktC k) 2,gx (ktC k) 3,gx (ktC k) 4,gx (ktC k) 5,gx (ktC k) 6,gx (ktC k) 7,gx (ktC k) 8,gx (ktC k) 9,gx (ktC k) 10,gx (ktC k) 11,gx (ktC k) 12,gx (bc c) 26,gx (bc c) 27,gx (bc c) 28,gx (bc c) 29,gx (bc c) 30,gx (bc c) 31,gx (bc c) 32,gx (bc c) 33,gx (bc c) 34,gx (bc c) 35,gx (bc c) 36,gx (bc c) 37,gx (bc c) 38,gx (bc c) 39,gx (bc c) 40,gx (bc c) 41,gx (bc c) 42,gx (bc c) 43,gx (bc c) 44,gx (bc c) 45,gx (bc c) 46,gx (bc c) 47,gx (bc c) 48,gx (bc c) 49,gx (bc c) 50]=some (CHO ⟨g,c.heap,k,c.heater,c.hanger⟩):=rfl
def aet (k:Heater):RF.ev .agg [.v (.int .u8 g),gx (bc c) 1,gx (bc c) 2,gx (bc c) 3,gx (bc c) 4,gx (bc c) 5,gx (bc c) 6,gx (bc c) 7,gx (bc c) 8,gx (bc c) 9,gx (bc c) 10,gx (bc c) 11,gx (bc c) 12,gx (bc c) 13,gx (bc c) 14,gx (bc c) 15,gx (bc c) 16,gx (bc c) 17,gx (bc c) 18,gx (bc c) 19,gx (bc c) 20,gx (bc c) 21,gx (bc c) 22,gx (bc c) 23,gx (bc c) 24,gx (bc c) 25,gx (htC k) 0,gx (htC k) 1,gx (htC k) 2,gx (htC k) 3,gx (htC k) 4,gx (htC k) 5,gx (htC k) 6,gx (htC k) 7,gx (htC k) 8,gx (htC k) 9,gx (htC k) 10,gx (htC k) 11,gx (htC k) 12,gx (bc c) 39,gx (bc c) 40,gx (bc c) 41,gx (bc c) 42,gx (bc c) 43,gx (bc c) 44,gx (bc c) 45,gx (bc c) 46,gx (bc c) 47,gx (bc c) 48,gx (bc c) 49,gx (bc c) 50]=some (CHO ⟨g,c.heap,c.tourn,k,c.hanger⟩):=rfl
def aeu (k:KHeap):RF.ev .agg [.v (.int .u8 g),gx (bc c) 1,gx (bc c) 2,gx (bc c) 3,gx (bc c) 4,gx (bc c) 5,gx (bc c) 6,gx (bc c) 7,gx (bc c) 8,gx (bc c) 9,gx (bc c) 10,gx (bc c) 11,gx (bc c) 12,gx (bc c) 13,gx (bc c) 14,gx (bc c) 15,gx (bc c) 16,gx (bc c) 17,gx (bc c) 18,gx (bc c) 19,gx (bc c) 20,gx (bc c) 21,gx (bc c) 22,gx (bc c) 23,gx (bc c) 24,gx (bc c) 25,gx (bc c) 26,gx (bc c) 27,gx (bc c) 28,gx (bc c) 29,gx (bc c) 30,gx (bc c) 31,gx (bc c) 32,gx (bc c) 33,gx (bc c) 34,gx (bc c) 35,gx (bc c) 36,gx (bc c) 37,gx (bc c) 38,gx (khC k) 0,gx (khC k) 1,gx (khC k) 2,gx (khC k) 3,gx (khC k) 4,gx (khC k) 5,gx (khC k) 6,gx (khC k) 7,gx (khC k) 8,gx (khC k) 9,gx (khC k) 10,gx (khC k) 11]=some (CHO ⟨g,c.heap,c.tourn,c.heater,k⟩):=rfl
end
section
variable {c:Choice}{t:Rt}{L:PV}{e:Int}
def UH (hc:bK D 27 [CHO c]=some [.i64 0])(hr:rok t=true)(ht:aS t)(ha:cU t=0)(t1:c.tag=1){k:KHeap}(h:Ans D 96 [KH c.heap,R t] [KH k,L,.i64 e]):Ans D 37 [CHO c,R t] (sf ⟨1,k,c.tourn,c.heater,c.hanger⟩ L e):=by
 have m1:=phi (c43 ht);rw[hr,show okE true=0 from rfl] at m1
 have m2:=phi (c44 ht);rw[ha] at m2;have m3:=phi h;refine an (hl:=wb) ⟨1,?_⟩;unfold k15 sf;by_cases he:e=0
 .subst he;simp only[ay,gR,ij,hc,m1,m2,EV,aA,aJ,aw,ax,cCH,t1,u8E,az,Lp,m3,jO,AW,tz,Nat.reduceLeDiff,aB,rc,aer]
 .have de:decide (e=0)=false:=ak he;simp only[ay,gR,ij,hc,m1,m2,EV,aA,aJ,aw,ax,cCH,t1,u8E,az,Lp,m3,jO,AW,tz,Nat.reduceLeDiff,aB,rc,de,bY,zS,ac he];rfl
def UI (hc:bK D 27 [CHO c]=some [.i64 0])(hr:rok t=true)(ht:aS t)(ha:cU t=0)(t1:c.tag=2){k:KTourn}(h:Ans D 97 [KT c.tourn,R t] [KT k,L,.i64 e]):Ans D 37 [CHO c,R t] (sf ⟨2,c.heap,k,c.heater,c.hanger⟩ L e):=by
 have m1:=phi (c43 ht);rw[hr,show okE true=0 from rfl] at m1
 have m2:=phi (c44 ht);rw[ha] at m2;have m3:=phi h;refine an (hl:=wb) ⟨1,?_⟩;unfold k15 sf;have d21:decide ((2:Int)=1)=false:=rfl;by_cases he:e=0
 .subst he;simp only[ay,gR,ij,hc,m1,m2,EV,aA,aJ,aw,ax,cCH,t1,u8E,d21,az,Lq,m3,vL,N3,tz,Nat.reduceLeDiff,aB,wc,rc,aes]
 .have de:decide (e=0)=false:=ak he;simp only[ay,gR,ij,hc,m1,m2,EV,aA,aJ,aw,ax,cCH,t1,u8E,d21,az,Lq,m3,vL,N3,tz,Nat.reduceLeDiff,aB,wc,rc,de,bY,zS,ac he];rfl
def UJ (hc:bK D 27 [CHO c]=some [.i64 0])(hr:rok t=true)(ht:aS t)(ha:cU t=0)(t1:c.tag=3){k:Heater}(h:Ans D 98 [HT c.heater,R t] [HT k,L,.i64 e]):Ans D 37 [CHO c,R t] (sf ⟨3,c.heap,c.tourn,k,c.hanger⟩ L e):=by
 have m1:=phi (c43 ht);rw[hr,show okE true=0 from rfl] at m1
 have m2:=phi (c44 ht);rw[ha] at m2;have m3:=phi h;refine an (hl:=wb) ⟨1,?_⟩;unfold k15 sf;have d31:decide ((3:Int)=1)=false:=rfl;have d32:decide ((3:Int)=2)=false:=rfl;by_cases he:e=0
 .subst he;simp only[ay,gR,ij,hc,m1,m2,EV,aA,aJ,aw,ax,cCH,t1,u8E,d31,d32,az,Lr,m3,vM,N4,tz,Nat.reduceLeDiff,aB,AY,wc,rc,aet]
 .have de:decide (e=0)=false:=ak he;simp only[ay,gR,ij,hc,m1,m2,EV,aA,aJ,aw,ax,cCH,t1,u8E,d31,d32,az,Lr,m3,vM,N4,tz,Nat.reduceLeDiff,aB,AY,wc,rc,de,bY,zS,ac he];rfl
def UK (hc:bK D 27 [CHO c]=some [.i64 0])(hr:rok t=true)(ht:aS t)(ha:cU t=0)(t1:c.tag=4){k:KHeap}(h:Ans D 99 [KH c.hanger,R t] [KH k,L,.i64 e]):Ans D 37 [CHO c,R t] (sf ⟨4,c.heap,c.tourn,c.heater,k⟩ L e):=by
 have m1:=phi (c43 ht);rw[hr,show okE true=0 from rfl] at m1
 have m2:=phi (c44 ht);rw[ha] at m2;have m3:=phi h;refine an (hl:=wb) ⟨1,?_⟩;unfold k15 sf;have d41:decide ((4:Int)=1)=false:=rfl;have d42:decide ((4:Int)=2)=false:=rfl;have d43:decide ((4:Int)=3)=false:=rfl;by_cases he:e=0
 .subst he;simp only[ay,gR,ij,hc,m1,m2,EV,aA,aJ,aw,ax,cCH,t1,u8E,d41,d42,d43,az,Ls,m3,jO,AW,tz,Nat.reduceLeDiff,aB,AY,wc,rc,aeu]
 .have de:decide (e=0)=false:=ak he;simp only[ay,gR,ij,hc,m1,m2,EV,aA,aJ,aw,ax,cCH,t1,u8E,d41,d42,d43,az,Ls,m3,jO,AW,tz,Nat.reduceLeDiff,aB,AY,wc,rc,de,bY,zS,ac he];rfl
end
section
variable {c:Choice}{t:Rt}
open Classical in
def ahM (h64:Cho64 c)(hg:gCh c=false)(hok:qX c)(hr:rok t=true)(ht:aS t)(ha:cU t=0)(hp:crs t (kS c).now<0):Ans D 37 [CHO c,R t] [CHO zCH,.sl [],.i64 44]:=by
 obtain⟨g1,g2,g3,g4⟩:=AH hg;have hc:=phi (c26 h64 hg);rw[aq hok,ahq] at hc;have hq:=hok.2.1;unfold fx at hq;unfold kS at hp;by_cases t1:c.tag=1
 .rw[ad t1] at hq hp;have hchk:=c77 h64.h1 g1;rw[aq hq] at hchk;exact UH (k:=zKH) (e:=44) hc hr ht ha t1 (ahI hr ht hchk hq.1.1 h64.h1.1 hp)
 rw[ac t1] at hq hp;by_cases t2:c.tag=2
 .rw[ad t2] at hq hp;have hchk:=c78 h64.h2 g2;rw[aq hq] at hchk;exact UI (k:=zKT) (e:=44) hc hr ht ha t2 (ahK hr ht hchk hq.1.1 h64.h2.1 hp)
 rw[ac t2] at hq hp;by_cases t3:c.tag=3
 .rw[ad t3] at hq hp;have hchk:=c79 h64.h3 g3;rw[aq hq] at hchk;exact UJ (k:=zHT) (e:=44) hc hr ht ha t3 (ahL hr ht hchk hq.1.1 h64.h3.1 hp)
 rw[ac t3] at hq hp;by_cases t4:c.tag=4
 .rw[ad t4] at hq;have hchk:=c80 h64.h4 g4;rw[aq hq] at hchk;exact UK (k:=zKH) (e:=44) hc hr ht ha t4 (ahJ hr ht hchk hq.1.1 h64.h4.1 hp)
 .rw[ac t4] at hq;exact hq.elim
def n8:decide ((8:Int)=0)=false:=rfl
def n2:decide ((2:Int)=0)=false:=rfl
def d15 (hc:bK D 27 [CHO c]=some [.i64 0])(ht:aS t)(ha:cU t≠0):Ans D 37 [CHO c,R t] [CHO zCH,.sl [],.i64 (cU t)]:=by
 have m1:=phi (c43 ht);have m2:=phi (c44 ht);refine am ?_;unfold k15;cases hr:rok t with
 |false=>
  have e:cU t=8:=by unfold cU;rw[hr];rfl
  rw[hr,show okE false=8 from rfl] at m1
  simp only[ay,gR,ij,hc,m1,EV,aA,aJ,aw,ax,n8,bY,az,zS,e];rfl
 |true=>
  have e:cU t=2:=(NL hr).resolve_left ha;rw[hr,show okE true=0 from rfl] at m1
  rw[e] at m2|-;simp only[ay,gR,ij,hc,m1,m2,EV,aA,aJ,aw,ax,n2,bY,az,zS];rfl
end
end Go.Proofs.YtoeigdpfcnaaeaaGreat
