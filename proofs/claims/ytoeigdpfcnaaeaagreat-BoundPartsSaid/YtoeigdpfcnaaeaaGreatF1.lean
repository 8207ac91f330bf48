import Derived.Test.YtoeigdpfcnaaeaaGreatE1
import Derived.Test.YtoeigdpfcnaaeaaGreatR1
import Derived.Test.YtoeigdpfcnaaeaaGreatN1
import Derived.Test.YtoeigdpfcnaaeaaGreatC3
set_option linter.unusedVariables false
set_option linter.unusedSimpArgs false
set_option linter.defProp false
noncomputable section
namespace Go.Proofs.YtoeigdpfcnaaeaaGreat
open Go.Sym Bnd
set_option maxRecDepth 100000
section
variable {ld:Int->Int->Bool}
def Nu (ld:Int->Int->Bool)(h:List Int)(j:Nat):Prop:=∀a b,h[j]?=some a->h[(j-1)/2]?=some b->ld b a=true
def HO (ld:Int->Int->Bool)(h:List Int):Prop:=∀j,0<j->Nu ld h j
def HOx (ld:Int->Int->Bool)(h:List Int)(i:Nat):Prop:=(∀j,0<j->j≠i->Nu ld h j)/\∀j,0<j->(j-1)/2=i->0<i->∀a b,h[j]?=some a->h[(i-1)/2]?=some b->ld b a=true
def Vk (tr:∀a b c,ld a b=true->ld b c=true->ld a c=true){h:List Int}{i:Nat}{a b:Int}(hi:0<i)(ha:h[i]?=some a)(hb:h[(i-1)/2]?=some b)(hab:ld a b=true)(H:HOx ld h i):HOx ld ((h.set i b).set ((i-1)/2) a) ((i-1)/2):=by
 obtain⟨H1,H2⟩:=H;have li:=aL ha;have g:∀k,((h.set i b).set ((i-1)/2) a)[k]?=if k=(i-1)/2 then some a else if k=i then some b else h[k]?:=λk=>by
  rw[mD,ba,mD]
  grind
 refine⟨λj hj hne x y hx hy=>?_,λj hj hq hp x y hx hy=>?_⟩
 .rw[g] at hx hy;rw[ac hne] at hx;by_cases e1:j=i
  .subst e1;rw[ad rfl] at hx hy;cases hx;cases hy;exact hab
  .rw[ac e1] at hx;by_cases e2:(j-1)/2=(i-1)/2
   .rw[ad e2] at hy;cases hy;exact tr _ _ _ hab (H1 j hj e1 x b hx (by rw[e2];exact hb))
   .rw[ac e2] at hy;by_cases e3:(j-1)/2=i
    .rw[ad e3] at hy;cases hy;exact H2 j hj e3 hi x b hx hb
    .rw[ac e3] at hy;exact H1 j hj e1 x y hx hy
 .rw[g] at hx hy;rw[ac (by omega),ac (by omega)] at hy;have hby:=H1 ((i-1)/2) hp (by omega) b y hb hy;rw[ac (by omega)] at hx;by_cases e1:j=i
  .rw[ad e1] at hx;cases hx;exact hby
  .rw[ac e1] at hx;exact tr _ _ _ hby (H1 j hj e1 x b hx (by rw[hq];exact hb))
end
def ldI (t:Rt)(l:List Pt)(a b:Int):Bool:=leads t (be l a) (be l b)
def JS {t:Rt}{l:List Pt}:∀(n:Nat) (h:List Int) (i:Nat),i<n->i<h.length->(∀a∈h,∀b∈h,a≠b->ldI t l a b=true\/ldI t l b a=true)->h.Nodup->HOx (ldI t l) h i->HO (ldI t l) (mN t l n h i)
 |0,h,i,hn,_,_,_,_=>by omega
 |n+1,h,i,hn,hi,tot,nd,H=>by
  obtain⟨a,ha⟩:∃a,h[i]?=some a:=⟨h[i],ah _⟩;obtain⟨b,hb⟩:∃b,h[(i-1)/2]?=some b:=⟨h[(i-1)/2]'(by omega),ah _⟩;unfold mN;rw[ha,hb];simp only;by_cases c:0<i/\ leads t (be l a) (be l b)=true
  .rw[ad c];have sw:((h.set i b).set ((i-1)/2) a).Perm h:=by
    obtain⟨h1,h2⟩:=aD.1 ha;obtain⟨h3,h4⟩:=aD.1 hb;rw[<-h2,<-h4];exact qu h1 h3
   refine JS n _ _ (by omega) (by simp;omega) (λx hx y hy=>tot x (sw.mem_iff.1 hx) y (sw.mem_iff.1 hy)) (sw.nodup_iff.2 nd) ?_;exact Vk (ld:=ldI t l) (λx y z h k=>kA h k) c.1 ha hb c.2 H
  .rw[ac c];intro j hj;by_cases e:j=i
   .subst e;intro x y hx hy;rw[ha] at hx;rw[hb] at hy;cases hx;cases hy;have hne:a≠b:=λe=>by
     subst e;have:=dN.1 nd j ((j-1)/2) a ha hb;omega
    rcases tot a (au ha) b (au hb) hne with q|q
    .exact absurd ⟨hj,q⟩ c
    .exact q
   .exact H.1 j hj e
def vE {l:List Pt}{t:Rt}(h:okF l):∀k,k<=l.length->HO (ldI t l) (fb t l k)
 |0,_=>λj _ a b ha _=>by simp[fb] at ha
 |k+1,hk=>by
  have ih:=vE h (t:=t) k (by omega);obtain⟨p,hp⟩:∃p,l[k]?=some p:=⟨l[k],ah _⟩;have hl:=ly (t:=t) (l:=l) (k:=k) (by omega);have pm:(fb t l k++[p.id]).Perm ((l.take (k+1)).map Pt.id):=by
   have:=lY (t:=t) (l:=l) k (by omega);rw[cC,hp,dQ];exact this.append_right _
  have hi:=cW h.2.2;have sub:∀a∈fb t l k++[p.id],∃q∈l,q.id=a/\ be l a=q:=λa ha=>by
   obtain⟨q,hq,rfl⟩:=bf.1 (pm.mem_iff.1 ha);have hq:=iC hq;obtain⟨i,hi⟩:=aI.1 hq;exact⟨q,hq,rfl,gK h hi⟩
  rw[xe hp];refine JS (k+1) _ k (by omega) (by simp;omega) (λa ha b hb hne=>?_) (pm.nodup_iff.2 ?_) ⟨λj hj hne a b ha hb=>?_,λj hj hq hp a b ha hb=>?_⟩
  .obtain⟨x,hx,e1,e2⟩:=sub a ha;obtain⟨y,hy,e3,e4⟩:=sub b hb;unfold ldI;rw[e2,e4];exact leads_total (by rw[e1,e3];exact hne)
  .exact uQ ((List.take_sublist _ _).map Pt.id) hi
  .have lj:=aL ha;rw[aC,hl,aK] at lj;rw[aG (by omega)] at ha hb;exact ih j hj a b ha hb
  .have lj:=aL ha;rw[aC,hl,aK] at lj;omega
def tC {ld:Int->Int->Bool}{hp:List Int}(h:HO ld hp){e:Crt}(he:e∈cX hp):ld e.high e.low=true:=by
 obtain⟨i,hi,rfl⟩:=bf.1 he;rw[c9] at hi;exact h (i+1) (by omega) _ _ (eM (by omega)) (by rw[dz];exact eM (by omega))
def gr {l:List Pt}{t:Rt}{es:List Crt}(hE:EdgOk l es)(hl:okF l)(ht:aQ t)(hr:rok t=true)(hd:∀e∈es,leads t (be l e.high) (be l e.low)=true):bD (certAll (newC l t) es)/\(certAll (newC l t) es).pts=l/\(certAll (newC l t) es).now=t/\ JustR (certAll (newC l t) es) es:=by
 have A:=yq hE hl ht hr es.length (aB _);rw[eH] at A;refine⟨A.fresh.ok,A.pts,A.now,?_,λe he=>⟨?_,?_⟩⟩
 .have:=aW List.length A.certs;rwa [ai,eH] at this
 .have:=A.certs;rw[eH] at this;rw[<-this] at he;obtain⟨h,h1,h2⟩:=bf.1 he;exact⟨h,h1,h2⟩
 .rw[A.pts,A.now];exact hd e he
def Fl {l:List Pt}{t:Rt}(hl:okF l)(ht:aQ t)(hr:rok t=true):iG (kR t l):=by
 have pm:=pI (t:=t) (l:=l);obtain⟨h1,h2,h3,h4⟩:=gr (rD hl pm) hl ht hr λe he=>tC (vE hl _ (aB _)) he;refine⟨h1,?_,λx hx=>?_,Fj hl (aB _),h4⟩
 .show(fb t l l.length).length=_
  rw[ly (aB _)];exact(aW List.length h2).symm
 .show inF (certAll _ _).pts x=true
  rw[h2];exact Fi (aB _) x hx
def Fm {l:List Pt}{t:Rt}(hl:okF l)(ht:aQ t)(hr:rok t=true):jH (l6 t l):=by
 obtain⟨h1,h2,h3,h4⟩:=gr (lz (t:=t) hl) hl ht hr λe he=>(eW hl he).2.2;refine⟨h1,?_,?_⟩
 .show cS (certAll _ _).now (certAll _ _).pts=cS t l
  rw[h2,h3]
 .show JustR _ (cv (certAll _ _).pts (cS (certAll _ _).now (certAll _ _).pts))
  rw[h2,h3];exact h4
def Fo {l:List Pt}{t:Rt}(hl:okF l)(ht:aQ t)(hr:rok t=true):jI (l5 t l):=by
 obtain⟨h1,h2,h3,h4⟩:=gr (lA (t:=t) hl) hl ht hr λe he=>(fU hl he).2.2;refine⟨h1,?_,?_⟩
 .show cart (certAll _ _).now (certAll _ _).pts=cart t l
  rw[h2,h3]
 .show JustR _ (edgsT (cart (certAll _ _).now (certAll _ _).pts).nodes (certAll _ _).pts.length)
  rw[h2,h3];exact h4
def Nv:∀m:Nat,m<65->szd (twice 7 1 m)=true:=by decide
def Lu {l:List Pt}(h:okF l):((cM l).filter λx=>decide (0<=x)).length=l.length:=by
 unfold cM;rw[p8,aC];have h1:(l.map Pt.id).filter (λx=>decide (0<=x))=l.map Pt.id:=fu.2 λx hx=>by
  obtain⟨p,hp,rfl⟩:=bf.1 hx;have:=aS.1 h.2.1 p hp;unfold Pt.ok at this;simp only[aH,aa] at this;exact aq this.1.1.1
 have h2:(List.replicate (twice 7 1 l.length-l.length) (-1:Int)).filter (λx=>decide (0<=x))=[]:=mK.2 λx hx=>by
  rw[(eY.1 hx).2];decide
 rw[h1,h2];simp
def Dd {l:List Pt}{t:Rt}(hl:okF l)(ht:aQ t)(hr:rok t=true):eZ (iJ t l):=by
 obtain⟨f0,f1,f2⟩:=lZ hl;obtain⟨b1,b2,b3⟩:=iv (t:=t) hl f1 f2 dJ (eg hl);have hE:=jN (t:=t) hl f1 f2 dJ (eg hl);obtain⟨h1,h2,h3,h4⟩:=gr hE hl ht hr λe he=>(iu (b:=bracketOf t l (cM l)) hl b2 dJ b3 he).2.2;refine⟨h1,b2,?_,λx hx=>?_,?_,?_,h4⟩
 .show szd (cM l).length=true
  rw[f0];exact Nv _ (by have:=hl.1;omega)
 .show dY (certAll _ _).pts x
  rw[h2];exact dJ x hx
 .show((cM l).filter _).length=(certAll _ _).pts.length
  rw[h2];exact Lu hl
 .show kV (wonI (certAll _ _).now (certAll _ _).pts) _ _
  rw[h2,h3];exact b3
def JU {tag:Int}{l:List Pt}{t:Rt}(hg:tag=1\/tag=2\/tag=3\/tag=4)(ht:aQ t)(hb:bE l t=0)(ha:cO t=0):qD (dw tag l t)/\(kG (dw tag l t)).pts=l/\(kG (dw tag l t)).now=t:=by
 obtain⟨hl,hr⟩:=vD hb;obtain⟨f0,f1,f2⟩:=lZ hl;obtain⟨b1,b2,b3⟩:=iv (t:=t) hl f1 f2 dJ (eg hl);have e1:=gr (rD hl (pI (t:=t))) hl ht hr λe he=>tC (vE hl _ (aB _)) he;have e2:=gr (jN (t:=t) hl f1 f2 dJ (eg hl)) hl ht hr λe he=>(iu (b:=bracketOf t l (cM l)) hl b2 dJ b3 he).2.2;have e3:=gr (lA (t:=t) hl) hl ht hr λe he=>(fU hl he).2.2;have e4:=gr (lz (t:=t) hl) hl ht hr λe he=>(eW hl he).2.2;rcases hg with rfl|rfl|rfl|rfl
 .have hm:dw 1 l t=⟨1,kR t l,zKT,zHT,zKH⟩:=by unfold dw yw;rw[ad rfl,ad hb]
  rw[hm];refine⟨⟨⟨λh=>absurd rfl h,λ_=>rfl,λ_=>rfl,λ_=>rfl⟩,Fl hl ht hr,?_⟩,e1.2.1,e1.2.2.1⟩;show cO (certAll _ _).now=0
  rw[e1.2.2.1];exact ha
 .have hm:dw 2 l t=⟨2,zKH,iJ t l,zHT,zKH⟩:=by unfold dw tV;rw[ac (by decide),ad rfl,ad hb]
  rw[hm];refine⟨⟨⟨λ_=>rfl,λh=>absurd rfl h,λ_=>rfl,λ_=>rfl⟩,Dd hl ht hr,?_⟩,e2.2.1,e2.2.2.1⟩;show cO (certAll _ _).now=0
  rw[e2.2.2.1];exact ha
 .have hm:dw 3 l t=⟨3,zKH,zKT,l5 t l,zKH⟩:=by unfold dw yx;rw[ac (by decide),ac (by decide),ad rfl,ad hb]
  rw[hm];refine⟨⟨⟨λ_=>rfl,λ_=>rfl,λh=>absurd rfl h,λ_=>rfl⟩,Fo hl ht hr,?_⟩,e3.2.1,e3.2.2.1⟩;show cO (certAll _ _).now=0
  rw[e3.2.2.1];exact ha
 .have hm:dw 4 l t=⟨4,zKH,zKT,zHT,l6 t l⟩:=by unfold dw yy;rw[ac (by decide),ac (by decide),ac (by decide),ad hb]
  rw[hm];refine⟨⟨⟨λ_=>rfl,λ_=>rfl,λ_=>rfl,λh=>absurd rfl h⟩,Fm hl ht hr,?_⟩,e4.2.1,e4.2.2.1⟩;show cO (certAll _ _).now=0
  rw[e4.2.2.1];exact ha
def mO:fF zC:=⟨⟨⟨by decide,by decide⟩,⟨by decide,by decide⟩⟩,λe he=>by cases he⟩
def D6 {l:List Pt}{t:Rt}{es:List Crt}(hE:EdgOk l es)(hl:okF l)(ht:aQ t)(hr:rok t=true)(h10:l.length<=10)(hes:es.length<=40):gCl (certAll (newC l t) es)=false/\ fF (certAll (newC l t) es):=by
 have A:=yq hE hl ht hr es.length (aB _);rw[eH] at A;have hc:=aW List.length A.certs;rw[ai,eH] at hc;have h1:=A.fresh.heap;have h2:=A.fresh.ok.2.2.2.2.2.1;have h3:=tU A.fresh.ok.2.2.2.1;refine⟨?_,B8 A.fresh⟩;unfold gCl gF;rw[A.pts,h3];simp only[mS,eG,uL,aj];omega
def Fq {tag:Int}{l:List Pt}{t:Rt}(hg:tag=1\/tag=2\/tag=3\/tag=4)(ht:aQ t)(hb:bE l t=0)(h10:l.length<=10):gCh (dw tag l t)=false/\ Cho64 (dw tag l t):=by
 obtain⟨hl,hr⟩:=vD hb;obtain⟨f0,f1,f2⟩:=lZ hl;obtain⟨b1,b2,b3⟩:=iv (t:=t) hl f1 f2 dJ (eg hl);have gk0:gKh zKH=false:=by decide
 have gt0:gKt zKT=false:=by decide
 have gh0:gHt zHT=false:=by decide
 have tw:∀m:Nat,m<11->twice 7 1 m<=16:=by decide
 have htw:=tw l.length (by omega);rcases hg with rfl|rfl|rfl|rfl
 .have hm:dw 1 l t=⟨1,kR t l,zKT,zHT,zKH⟩:=by unfold dw yw;rw[ad rfl,ad hb]
  have e1:=D6 (rD hl (pI (t:=t))) hl ht hr h10 (by unfold cX;rw[kx,ly (aB _)];omega);have g1:gKh (kR t l)=false:=by
   unfold gKh;rw[show gCl (kR t l).clock=false from e1.1]
   have:(kR t l).heap.length=l.length:=ly (aB _);simp;omega
  rw[hm];exact⟨by unfold gCh;simp only[g1,gk0,gt0,gh0,mS],⟨⟨show(0:Int)<=1 by decide,show(1:Int)<=255 by decide⟩,e1.2,mO,mO,mO⟩⟩
 .have hm:dw 2 l t=⟨2,zKH,iJ t l,zHT,zKH⟩:=by unfold dw tV;rw[ac (by decide),ad rfl,ad hb]
  have hE:=jN (t:=t) hl f1 f2 dJ (eg hl);have e1:=D6 hE hl ht hr h10 (by
   have:=jW (bracketOf t l (cM l)).wins (cM l) (bracketOf t l (cM l)).wins.length;omega)
  have g1:gKt (iJ t l)=false:=by
   unfold gKt;rw[show gCl (iJ t l).clock=false from e1.1]
   have h1:(iJ t l).brk.places.length=(cM l).length:=rfl;have h2:(iJ t l).brk.wins.length=(cM l).length-1:=b1;simp;omega
  rw[hm];exact⟨by unfold gCh;simp only[g1,gk0,gt0,gh0,mS,mR],⟨⟨show(0:Int)<=2 by decide,show(2:Int)<=255 by decide⟩,mO,e1.2,mO,mO⟩⟩
 .have hm:dw 3 l t=⟨3,zKH,zKT,l5 t l,zKH⟩:=by unfold dw yx;rw[ac (by decide),ac (by decide),ad rfl,ad hb]
  have e1:=D6 (lA (t:=t) hl) hl ht hr h10 (by have:=jM (cart t l).nodes l.length;omega);have g1:gHt (l5 t l)=false:=by
   unfold gHt;rw[show gCl (l5 t l).clock=false from e1.1]
   have:(l5 t l).tree.nodes.length=l.length:=rq hl;simp;omega
  rw[hm];exact⟨by unfold gCh;simp only[g1,gk0,gt0,gh0,mS,mR],⟨⟨show(0:Int)<=3 by decide,show(3:Int)<=255 by decide⟩,mO,mO,e1.2,mO⟩⟩
 .have hm:dw 4 l t=⟨4,zKH,zKT,zHT,l6 t l⟩:=by unfold dw yy;rw[ac (by decide),ac (by decide),ac (by decide),ad hb]
  have e1:=D6 (lz (t:=t) hl) hl ht hr h10 (by
   have:(cv l (cS t l)).length<=l.length:=by
    unfold cv
    grind
   omega)
  have g1:gKh (l6 t l)=false:=by
   unfold gKh;rw[show gCl (l6 t l).clock=false from e1.1]
   have:(l6 t l).heap.length=l.length:=yl t l;simp;omega
  rw[hm];exact⟨by unfold gCh;simp only[g1,gk0,gt0,gh0,mS,mR],⟨⟨show(0:Int)<=4 by decide,show(4:Int)<=255 by decide⟩,mO,mO,mO,e1.2⟩⟩
def adA {l:List Bool}{i:Nat}(h:i<l.length):RF.ev (.set 0) [sl B1 l,.v (.int .i64 (i:Int)),.v (.bool false)]=some (sl B1 (l.set i false)):=by
 rw[yP,ad (by omega),aF,a8,ah h];exact aW (λx=>some (PV.sl x)) (oy (f:=B1) (l:=l) (i:=i) (a:=false)).symm
def agT {l:List Int}{x:Int}(hl:l.length<=999):Ans D 450 [sl I1 l,.i64 x] [sl I1 (l++[x])]:=by
 have ap:=gn (f:=I1) (l:=l) (k:=[x]) (bytes:=8) (z:=1) (by simp;omega) cA;have bs:RF.ev (.bs 1 [.v (.int .i64 0)] [0]) [.i64 x]=some (sl I1 [x]):=rfl;have su:RF.ev .sub [sl I1 [x],.v (.int .i64 0),.v (.int .i64 1)]=some (sl I1 [x]):=rfl;have s2:=cp (f:=I1) (l:=l++[x]);refine am ?_;unfold ab8;simp only[EV,phi (Xo (l:=l) (by omega)),ai,bs,su,ap,s2]
open Classical in
def XS {s:Slots}(h:SFine s){i:Nat}{u:Int}(hu:s.used[i]?=some true)(hv:s.uses[i]?=some u):Ans D 436 [SL s,HD ⟨i,u⟩] [.bool true,.i64 0]:=by
 have hi:=aL hu;have hc:=phi (La (vw h));rw[aq (okR_fine.2 h)] at hc;have e0:okE true=0:=rfl;rw[e0] at hc;refine am ?_;unfold ab2;simp only[jS,rk,hc,mn,rm,EV,ai,aA,aJ,aw,ax,aa];rw[ad (by omega)];rw[ad (by omega)];simp[jT,rm,Rb,EV,aX hu (uZ _),aM hu,uY,aX hv (cA _),aM hv,cQ];rfl
open Classical in
def agV {s:Slots}(h:SFine s){i:Nat}{u:Int}(hu:s.used[i]?=some true)(hv:s.uses[i]?=some u):Ans D 441 [SL s,HD ⟨i,u⟩] [SL (kW s i),.i64 0]:=by
 have hi:=aL hu;have n2:=h.n2;have hb:=iE h.nd h.rng;have s1:=cp (f:=I1) (l:=s.uses);have s2:=cp (f:=B1) (l:=s.used.set i false);rw[ba] at s2;refine am ?_;unfold ab5;simp only[jS,rk,phi (XS h hu hv),phi (Xr (DY h)),phi (agT (l:=s.free) (x:=(i:Int)) (by omega)),jT,mn,jU,rm,EV,ai,ixM hi,adA hi,s1,s2];rfl
def D7 {hp:List Evt}{z p:Evt}{i:Nat}(h:hp[i]?=some p):(hp++[z])[i]?=some p:=by rw[aG (bu h)];exact h
def Lv {hp:List Evt}{z:Evt}{i:Nat}(h:i<hp.length)(p:Evt):RF.ev (.set 0) [sl ct (hp++[z]),.v (.int .i64 (i:Int)),EP p]=some (sl ct (hp.set i p++[z])):=by
 rw[Ap (by simp;omega),wH _ _ h]
def JV {N:Nat}{f0 f1:JT}{f z:Evt}{e0 e1 e2 e3 e4 e5 e6 e7 e8 e9 e10 e11 e12 e13 e14 e15 e16 e18 e19 e22 e23 e24 e25:PV}{n W:Nat}(hn:n<=1000)(hf:GoodE W f):∀(r i m:Nat) (hp:List Evt) (wh:List Int),i<=r->r<m->i<n->hp.length=n->wh.length=W->(∀x∈hp,GoodE W x)->
  dW (bL D) N uj [f0,f1] [e0,e1,e2,e3,e4,e5,e6,e7,e8,e9,e10,e11,e12,e13,e14,e15,e16,.i64 (W:Int),e18,e19,EP f,.i64 (n:Int),e22,e23,e24,e25] m [.i64 (i:Int),sl ct (hp++[z]),sl I1 wh]=f1 [sl ct ((eP f r hp wh i).1++[z]),sl I1 (eP f r hp wh i).2.1,.i64 ((eP f r hp wh i).2.2:Int)]
 |0,i,m,hp,wh,hi,hm,hiH,hl,hw,hg=>by
  obtain⟨m,rfl⟩:∃m',m=m'+1:=⟨m-1,by omega⟩;have:i=0:=by omega
  subst this;rw[bC];unfold uj eP;simp only[EV,aa];rw[ac (by omega)]
 |r+1,i,m,hp,wh,hi,hm,hiH,hl,hw,hg=>by
  obtain⟨m,rfl⟩:∃m',m=m'+1:=⟨m-1,by omega⟩;obtain⟨p,hp'⟩:∃p,hp[(i-1)/2]?=some p:=⟨hp[(i-1)/2]'(by omega),ah _⟩;have E:eP f (r+1) hp wh i=if 0<i/\ evLess f p=true then eP f r (hp.set i p) (wh.set p.hnd.index.toNat (i:Int)) ((i-1)/2) else(hp,wh,i):=by rw[eP,hp']
  rw[E,bC];by_cases h0:0<i
  rotate_left
  .rw[ac (λh=>h0 h.1)];unfold uj;simp only[EV,aa];rw[ac (by omega)]
  .obtain⟨p64,prk,jp,pj,pW⟩:=hg p (au hp');have ih:=JV (N:=N) (f0:=f0) (f1:=f1) (f:=f) (z:=z) (e0:=e0) (e1:=e1) (e2:=e2) (e3:=e3) (e4:=e4) (e5:=e5) (e6:=e6) (e7:=e7) (e8:=e8) (e9:=e9) (e10:=e10) (e11:=e11) (e12:=e12) (e13:=e13) (e14:=e14) (e15:=e15) (e16:=e16) (e18:=e18) (e19:=e19) (e22:=e22) (e23:=e23) (e24:=e24) (e25:=e25) (n:=n) (W:=W) hn hf r ((i-1)/2) m (hp.set i p) (wh.set p.hnd.index.toNat (i:Int)) (by omega) (by omega) (by omega) (by rw[ba];exact hl) (by rw[ba];exact hw) (λx hx=>by
    rcases dp hx with h1|h1
    .exact hg x h1
    .rw[h1];exact⟨p64,prk,jp,pj,pW⟩)
   have cm:=phi (zo (x:=f) (y:=p) hf.t64 p64 hf.rok prk);have q2:=Lq h0 (by omega);have s1:=Lv (hp:=hp) (z:=z) (i:=i) (by omega) p;have s3:=iI (l:=wh) (i:=jp) (by omega) (i:Int);have g1:=D7 (z:=z) hp';generalize hkk:uj=kk at ih;subst hkk;unfold uj;simp[EV];rw[ad (by omega)];simp only[EV,q2,ixM (show(i-1)/2<n by omega),aM g1,iX,cm,aa,oO]
   by_cases hc:evLess f p=true
   .rw[ad hc,ad ⟨h0,hc⟩];simp[EV,mb,q2,ixM hiH,ixM (show(i-1)/2<n by omega),aM g1,iX,ay,ir,s1,Fg,pj,ixM pW,s3]
    rw[pj,aF] at ih;exact ih
   .rw[ac hc,ac (λq=>hc q.2)]
def De {N:Nat}{f0 f1:JT}{f z:Evt}{e0 e1 e2 e3 e4 e5 e6 e7 e8 e9 e10 e11 e12 e13 e14 e15 e16 e18 e19 e22 e23 e24 e25 e26 e27 e28 e29 e30:PV}{n W:Nat}(hn:n<=1000)(hf:GoodE W f):∀(r i m:Nat) (hp:List Evt) (wh:List Int),n<=r+i->r<m->i<n->hp.length=n->wh.length=W->(∀x∈hp,GoodE W x)->
  dW (bL D) N AZ [f0,f1] [e0,e1,e2,e3,e4,e5,e6,e7,e8,e9,e10,e11,e12,e13,e14,e15,e16,.i64 (W:Int),e18,e19,EP f,.i64 (n:Int),e22,e23,e24,e25,e26,e27,e28,e29,e30] m [.i64 (i:Int),sl ct (hp++[z]),sl I1 wh,.i64 ((2*i+1:Nat):Int)]=f1 [sl ct ((gh f r hp wh i).1++[z]),sl I1 (gh f r hp wh i).2.1,.i64 ((gh f r hp wh i).2.2:Int)]
 |0,i,m,hp,wh,hi,hm,hiH,hl,hw,hg=>by omega
 |r+1,i,m,hp,wh,hi,hm,hiH,hl,hw,hg=>by
  obtain⟨m,rfl⟩:∃m',m=m'+1:=⟨m-1,by omega⟩;have ih:=λ(k:Nat) (p:Evt) (hk:hp[k]?=some p) (hki:i<k)=>De (N:=N) (f0:=f0) (f1:=f1) (f:=f) (z:=z) (e0:=e0) (e1:=e1) (e2:=e2) (e3:=e3) (e4:=e4) (e5:=e5) (e6:=e6) (e7:=e7) (e8:=e8) (e9:=e9) (e10:=e10) (e11:=e11) (e12:=e12) (e13:=e13) (e14:=e14) (e15:=e15) (e16:=e16) (e18:=e18) (e19:=e19) (e22:=e22) (e23:=e23) (e24:=e24) (e25:=e25) (e26:=e26) (e27:=e27) (e28:=e28) (e29:=e29) (e30:=e30) (n:=n) (W:=W) hn hf r k m (hp.set i p) (wh.set p.hnd.index.toNat (i:Int)) (by omega) (by omega) (by have:=bu hk;omega) (by rw[ba];exact hl) (by rw[ba];exact hw) (λx hx=>by
    rcases dp hx with h1|h1
    .exact hg x h1
    .rw[h1];exact hg p (au hk))
  rw[bC];have fin:∀(a b c d:PV) (kk:Nat),kid hp i=kk->kk<n->den (bL D) N HC [f0,f1,λvs=>dW (bL D) N AZ [f0,f1] [e0,e1,e2,e3,e4,e5,e6,e7,e8,e9,e10,e11,e12,e13,e14,e15,e16,.i64 (W:Int),e18,e19,EP f,.i64 (n:Int),e22,e23,e24,e25,e26,e27,e28,e29,e30] m vs] ([e0,e1,e2,e3,e4,e5,e6,e7,e8,e9,e10,e11,e12,e13,e14,e15,e16,.i64 (W:Int),e18,e19,EP f,.i64 (n:Int),e22,e23,e24,e25,e26,e27,e28,e29,e30]++[.i64 (i:Int),sl ct (hp++[z]),sl I1 wh,.i64 ((2*i+1:Nat):Int),a,b,c,d,.i64 (kk:Int)])=f1 [sl ct ((gh f (r+1) hp wh i).1++[z]),sl I1 (gh f (r+1) hp wh i).2.1,.i64 ((gh f (r+1) hp wh i).2.2:Int)]:=λa b c d kk hkk hk=>by
   subst hkk;have ko:=uJ hp i;obtain⟨p,hp'⟩:∃p,hp[kid hp i]?=some p:=⟨hp[kid hp i]'(by omega),ah _⟩;obtain⟨p64,prk,jp,pj,pW⟩:=hg p (au hp');have E:gh f (r+1) hp wh i=if evLess p f=true then gh f r (hp.set i p) (wh.set p.hnd.index.toNat (i:Int)) (kid hp i) else(hp,wh,i):=by rw[gh,hp']
   have ih':=ih _ p hp' (by omega);have cm:=phi (zo (x:=p) (y:=f) p64 hf.t64 prk hf.rok);have s1:=Lv (hp:=hp) (z:=z) (i:=i) (by omega) p;have s3:=iI (l:=wh) (i:=jp) (by omega) (i:Int);have g1:=D7 (z:=z) hp';have w1:IntKind.i64.wrap (2*(kid hp i:Int))=((2*kid hp i:Nat):Int):=by rw[cI (by omega) (by omega)];omega
   rw[E];unfold HC;simp[EV,ixM hk,aM g1,iX,cm];by_cases hc:evLess p f=true
   .rw[ad hc,ac (by have:=(oO p f).2 hc;omega)];simp only[EV,ixM hiH,iX,ay,ir,s1,Fg,pj,ixM pW,s3,w1,up1 (show 2*kid hp i<1000000000 by omega)]
    rw[pj,aF] at ih';exact ih'
   .rw[ac hc,ad (by have:=JQ (show evLess p f=false by simpa using hc);omega)]
  simp only[aU,aO] at fin;unfold AZ;simp only[EV,aa];by_cases h1:2*i+1<n
  .rw[ad (by omega)];simp only[EV,aa,up1 (show 2*i+1<1000000000 by omega)]
   obtain⟨e,he⟩:∃e,hp[2*i+1]?=some e:=⟨hp[2*i+1]'(by omega),ah _⟩;by_cases h2:2*i+1+1<n
   .rw[ad (by omega)];obtain⟨g,hg'⟩:∃e,hp[2*i+1+1]?=some e:=⟨hp[2*i+1+1]'(by omega),ah _⟩;have a1:=hg e (au he);have b1:=hg g (au hg');have cm:=phi (zo (x:=g) (y:=e) b1.t64 a1.t64 b1.rok a1.rok);have kE:kid hp i=if evLess g e=true then 2*i+2 else 2*i+1:=by unfold kid;rw[he,show hp[2*i+2]?=some g from hg']
    simp only[EV,up1 (show 2*i+1<1000000000 by omega),ixM h1,ixM h2,aM (D7 (z:=z) he),aM (D7 (z:=z) hg'),iX,ay,cm]
    unfold HE;simp only[EV,aa,up1 (show 2*i+1<1000000000 by omega),oO]
    by_cases hc:evLess g e=true
    .rw[ad hc];rw[ad hc] at kE;exact fin _ _ _ _ (2*i+1+1) kE h2
    .rw[ac hc];rw[ac hc] at kE;exact fin _ _ _ _ (2*i+1) kE h1
   .rw[ac (by omega)];unfold HE;simp only[EV,aw,ax];exact fin _ _ _ _ (2*i+1) (by unfold kid;rw[he,show hp[2*i+2]?=none from bF (by omega)]) h1
  .rw[ac (by omega)];have:gh f (r+1) hp wh i=(hp,wh,i):=by
    have ko:=uJ hp i;rw[gh,bF (by omega)]
   rw[this]
def Df {f:Evt}:∀(r:Nat) (hp:List Evt) (wh:List Int) (i:Nat),i<hp.length->(eP f r hp wh i).1.length=hp.length/\(eP f r hp wh i).2.1.length=wh.length/\(eP f r hp wh i).2.2<=i/\∀x∈(eP f r hp wh i).1,x∈hp
 |0,hp,wh,i,_=>⟨rfl,rfl,aB _,λ_ h=>h⟩
 |r+1,hp,wh,i,hi=>by
  unfold eP;split
  .rename_i p hp';split
   .obtain⟨q1,q2,q3,q4⟩:=Df (f:=f) r (hp.set i p) (wh.set p.hnd.index.toNat (i:Int)) ((i-1)/2) (by rw[ba];omega);refine⟨by rw[q1,ba],by rw[q2,ba],by omega,λx hx=>?_⟩;rcases dp (q4 x hx) with h|h
    .exact h
    .rw[h];exact au hp'
   .exact⟨rfl,rfl,aB _,λ_ h=>h⟩
  .exact⟨rfl,rfl,aB _,λ_ h=>h⟩
def Dg {f:Evt}:∀(r:Nat) (hp:List Evt) (wh:List Int) (i:Nat),i<hp.length->(gh f r hp wh i).1.length=hp.length/\(gh f r hp wh i).2.1.length=wh.length/\(gh f r hp wh i).2.2<hp.length
 |0,hp,wh,i,hi=>⟨rfl,rfl,hi⟩
 |r+1,hp,wh,i,hi=>by
  unfold gh;split
  .rename_i p hp';split
   .obtain⟨q1,q2,q3⟩:=Dg (f:=f) r (hp.set i p) (wh.set p.hnd.index.toNat (i:Int)) (kid hp i) (by rw[ba];exact bu hp');rw[ba] at q1 q2 q3;exact⟨q1,q2,q3⟩
   .exact⟨rfl,rfl,hi⟩
  .exact⟨rfl,rfl,hi⟩
def XT {hp:List Evt}{z:Evt}:RF.ev .sub [sl ct (hp++[z]),.v (.int .i64 0),.v (.int .i64 (hp.length:Int))]=some (sl ct hp):=by
 rw[wa,ad (by simp;omega)];simp
def agW (e:Evt):RF.ev (.part 3 2) [EP e]=some (HD e.hnd):=rfl
open Classical in
def agX {a:Agenda}(h:eO a){i j:Nat}{u:Int}{e:Evt}(he:a.heap[i]?=some e)(hh:e.hnd=⟨(j:Int),u⟩)(h64:∀e∈a.heap,aQ e.time):Ans D 409 [AG a,.i64 (i:Int)] [AG (ql a i j),EP e,.i64 0]:=by
 have hs:=okR_fine.1 h.1;have hP:=pG hs h.2.1;have hsm:=D2 h;have n2:=hs.n2;have hl:=h.2.1.2.1;have hi:=bu he;obtain⟨j',u',e1,e2,e3,e4⟩:=hP.at_ i e he;rw[hh] at e1;simp only[Hnd.mk.injEq] at e1;have:j'=j:=by omega
 subst this;have hu:u=u':=e1.2;subst hu;have hw:=bu e4;obtain⟨hp,f,hq⟩:∃hp f,a.heap=hp++[f]:=by
  rcases nH a.heap with h|⟨hp,f,h⟩
  .grind
  .grind
 have hn:a.heap.length-1=hp.length:=by rw[hq];simp
 have hn':a.heap.length=hp.length+1:=by rw[hq];simp
 have hlast:a.heap[hp.length]?=some f:=by rw[hq];simp
 have good:∀x∈a.heap,GoodE a.wher.length x:=λx hx'=>by
  obtain⟨k,hk⟩:=aI.1 hx';obtain⟨j,v,g1,_,_,g4⟩:=hP.at_ k x hk;exact⟨h64 x hx',(h.2.2.1 x hx').1,j,by rw[g1],bu g4⟩
 have hR:ql a i j'=if i=hp.length then⟨kW a.slots j',hp,a.wher.set j' (-1)⟩ else
   ⟨kW a.slots j',(me hp.length (upS (i+1) (hp.set i f) ((a.wher.set j' (-1)).set f.hnd.index.toNat (i:Int)) i).1 (upS (i+1) (hp.set i f) ((a.wher.set j' (-1)).set f.hnd.index.toNat (i:Int)) i).2.1 (upS (i+1) (hp.set i f) ((a.wher.set j' (-1)).set f.hnd.index.toNat (i:Int)) i).2.2).1,(me hp.length (upS (i+1) (hp.set i f) ((a.wher.set j' (-1)).set f.hnd.index.toNat (i:Int)) i).1 (upS (i+1) (hp.set i f) ((a.wher.set j' (-1)).set f.hnd.index.toNat (i:Int)) i).2.1 (upS (i+1) (hp.set i f) ((a.wher.set j' (-1)).set f.hnd.index.toNat (i:Int)) i).2.2).2⟩:=by
  unfold ql;rw[hn,hlast];simp only;rw[show a.heap.take hp.length=hp by rw[hq];simp]
 have c4:=phi (agV hs e2 e3);have bn:RF.ev .bnd [.v (.int .i64 (hp.length:Int)),.v (.int .i64 ((hp.length+1:Nat):Int))]=some (.i64 (hp.length:Int)):=by rw[j5,ad ⟨by omega,by omega⟩]
 have dn:=yn (n:=hp.length) (by omega);have s3:=iI (l:=a.wher) (i:=j') hw (-1);have hls:∀(l:List Int),l.length=a.wher.length->RF.ev .sub [sl I1 l,.v (.int .i64 0),.v (.int .i64 (a.wher.length:Int))]=some (sl I1 l):=λl hl=>by
  have:=cp (f:=I1) (l:=l);rw[hl] at this;exact this
 refine an ⟨1001,?_⟩;unfold abU;simp only[ay,jE,fE,aX he (jP _),aM he,iX,EV,pAG,agW,hh,c4,jS,aA,aJ,aw,ax,phi (Xt hsm),mo,ai,hn',dn,ixM (show hp.length<hp.length+1 by omega),aM hlast,bn,Fg,ixM hw,s3,aa]
 by_cases hil:i=hp.length
 .rw[ac (by omega)];rw[hR,ad hil];unfold HB;simp only[EV,ay,pSL,hq,XT,hls _ ba,Ar]
 .have hil:i<hp.length:=by omega
  rw[ad (by omega)];have hgf:=good f (by rw[hq];simp);have hgp:∀x∈hp,GoodE a.wher.length x:=λx hx=>good x (by rw[hq];simp[hx]);obtain⟨hU,wU,iU,hUe⟩:∃hU wU iU,eP f (i+1) hp (a.wher.set j' (-1)) i=(hU,wU,iU):=⟨_,_,_,rfl⟩;obtain⟨hV,wV,iV,hVe⟩:∃hV wV iV,gh f hp.length hU wU iU=(hV,wV,iV):=⟨_,_,_,rfl⟩;obtain⟨u1,u2,u3,u4⟩:=Df (f:=f) (i+1) hp (a.wher.set j' (-1)) i hil;rw[hUe] at u1 u2 u3 u4;simp only at u1 u2 u3 u4;rw[ba] at u2;obtain⟨v1,v2,v3⟩:=Dg (f:=f) hp.length hU wU iU (by omega);rw[hVe] at v1 v2 v3;simp only at v1 v2 v3;have up:=B5 (x:=f) (i+1) hp (a.wher.set j' (-1)) i hil;rw[hUe] at up;simp only at up;have dnn:=DH (x:=f) hp.length hU wU iU (by omega);rw[hVe] at dnn;simp only at dnn;rw[hR,ac (by omega),up];simp only;rw[dnn];simp only;obtain⟨f64,frk,jf,fj,fW⟩:=hgf;have hgf:=good f (by rw[hq];simp);have hq':sl ct a.heap=sl ct (hp++[f]):=by rw[hq]
  rw[hq'];refine(JV (N:=1001) (f:=f) (z:=f) (n:=hp.length) (W:=a.wher.length) (by omega) hgf (i+1) i 1001 hp (a.wher.set j' (-1)) (by omega) (by omega) hil rfl ba hgp).trans ?_;rw[hUe];have w1:IntKind.i64.wrap (2*(iU:Int))=((2*iU:Nat):Int):=by rw[cI (by omega) (by omega)];omega
  unfold PR;simp only[EV,w1,up1 (show 2*iU<1000000000 by omega)]
  refine(De (N:=1001) (f:=f) (z:=f) (n:=hp.length) (W:=a.wher.length) (by omega) hgf hp.length iU 1001 hU wU (by omega) (by omega) (by omega) u1 u2 (λx hx=>hgp x (u4 x hx))).trans ?_;rw[hVe];have s1:=Lv (hp:=hV) (z:=f) (i:=iV) (by omega) f;have s4:=iI (l:=wV) (i:=jf) (by omega) (iV:Int);have s5:=XT (hp:=hV.set iV f) (z:=f);rw[ba,v1,u1] at s5;unfold PQ;simp only[EV,ay,ixM (show iV<hp.length by omega),s1,Fg,fj,ixM fW,s4]
  unfold HB;simp only[EV,ay,pSL,s5,hls _ (show(wV.set jf (iV:Int)).length=a.wher.length by rw[ba];omega),Ar,aF]
open Classical in
def agY {a:Agenda}(h:eO a){i j:Nat}{u:Int}{e:Evt}(he:a.heap[i]?=some e)(hh:e.hnd=⟨(j:Int),u⟩)(h64:∀e∈a.heap,aQ e.time):Ans D 403 [AG a,HD ⟨j,u⟩] [.i64 (i:Int),.i64 0]:=by
 have hs:=okR_fine.1 h.1;have hP:=pG hs h.2.1;obtain⟨j',u',e1,e2,e3,e4⟩:=hP.at_ i e he;rw[hh] at e1;simp at e1;have:j'=j:=by omega
 subst this;have hu:=e1.2;subst hu;have m1:=phi (EJ (tU h) h64);rw[aq h] at m1;have e0:okE true=0:=rfl;rw[e0] at m1;refine am ?_;unfold abS;simp only[ay,jE,rk,m1,pAG,phi (XS hs e2 e3),mo,rm,EV,aA,aJ,aw,ax,aX e4 (cA _),aM e4,cQ]
def agZ {a:Agenda}(h:eO a){i j:Nat}{u:Int}{e:Evt}(he:a.heap[i]?=some e)(hh:e.hnd=⟨(j:Int),u⟩)(h64:∀e∈a.heap,aQ e.time):Ans D 350 [AG a,HD ⟨j,u⟩] [AG (ql a i j),EP e,.i64 0]:=by
 refine am ?_;unfold abq;simp[jE,rk,phi (agY h he hh h64),phi (agX h he hh h64),ir,EV]
section
variable {α:Type}{f:α->List PV}{l:List α}{i n:Nat}
def dl1 (hi:i<l.length):RF.ev .sub [.sl (l.map f),.v (.int .i64 (0+((i+1:Nat):Int))),.v (.int .i64 ((l.length:Int)-((i+1:Nat):Int)))]=some (.sl ((l.drop (i+1)).map f)):=by
 rw[wa,ad (by rw[ai];omega),show(0+((i+1:Nat):Int)).toNat=i+1 by omega,show((l.length:Int)-((i+1:Nat):Int)).toNat=l.length-(i+1) by omega,<-wL,<-wM,bk (by rw[b9];omega)]
def dl2 (hz:∀a,(f a).length=3)(hi:i<l.length)(hl:l.length<=1000):RF.ev (.appK 24 3) [.sl (l.map f),.v (.int .i64 (i:Int)),.sl ((l.drop (i+1)).map f)]=some (.sl ((l.eraseIdx i++l.drop (l.length-1)).map f)):=by
 have ok:ec 3 ((l.drop (i+1)).map f)=true:=by
  cases e:l.drop (i+1) with
  |nil=>rfl
  |cons a k=>simp[ec,hz]
 show(if _ then _ else _)=_
 rw[ad ⟨by omega,by rw[ai];omega,by rw[ai,b9];omega,ok⟩];rw[aF,List.eraseIdx_eq_take_drop_succ,ai,b9,show i+(l.length-(i+1))=l.length-1 by omega]
 simp_all
def dl3 (z:List PV)(hi:i<l.length):RF.ev (.clr z) [.sl ((l.eraseIdx i++l.drop (l.length-1)).map f),.v (.int .i64 (0+((i:Int)+((l.length-(i+1):Nat):Int)))),.v (.int .i64 ((l.length:Int)-((i:Int)+((l.length-(i+1):Nat):Int))))]=some (.sl ((l.eraseIdx i).map f++[z])):=by
 have h1:=fD hi;have h2:(l.drop (l.length-1)).length=1:=by rw[b9];omega
 show(if _ then _ else _)=_
 rw[ad (by rw[ai,aC,h1,h2];omega),show(0+((i:Int)+((l.length-(i+1):Nat):Int))).toNat=l.length-1 by omega,show((l.length:Int)-((i:Int)+((l.length-(i+1):Nat):Int))).toNat=1 by omega,dQ]
 simp_all
def dl4 (z:List PV)(hi:i<l.length):RF.ev .sub [.sl ((l.eraseIdx i).map f++[z]),.v (.int .i64 0),.v (.int .i64 ((i:Int)+((l.length-(i+1):Nat):Int)))]=some (.sl ((l.eraseIdx i).map f)):=by
 have h1:=fD hi;rw[wa,ad (by rw[aC,ai,h1];simp;omega),show((i:Int)+((l.length-(i+1):Nat):Int)).toNat=l.length-1 by omega]
 grind
end
def xf {a b:Nat}(h:a<=b):RF.ev .bnd [.v (.int .i64 (a:Int)),.v (.int .i64 (b:Int))]=some (.i64 (a:Int)):=by rw[j5,ad ⟨by omega,by omega⟩]
def ag0 {l:List Held}{i:Nat}(hi:i<l.length)(hl:l.length<=1000):Ans D 423 [.sl [],.i64 (i:Int),.i64 ((i+1:Nat):Int),sl hrow l] [sl hrow (l.eraseIdx i),.sl []]:=by
 have h1:=fD hi;have ne:decide ((i:Int)=((i+1:Nat):Int))=false:=ak (by omega);have ap:(l.eraseIdx i++l.drop (l.length-1)).length=l.length:=by rw[aC,h1,b9];omega
 have bs:RF.ev .bnd [.v (.int .i64 ((i:Int)+((l.length-(i+1):Nat):Int))),.v (.int .i64 (l.length:Int))]=some (.i64 ((i:Int)+((l.length-(i+1):Nat):Int))):=by rw[j5,ad ⟨by omega,by omega⟩]
 refine am ?_;unfold abX;simp only[EV,ai,xf (aB l.length),xf (show i+1<=l.length by omega),xf (show i<=i+1 by omega),xf (show i<=l.length by omega),ne,aw,ax,dl1 (f:=hrow) hi,dl2 (f:=hrow) gL hi hl,ap,b9,bs,dl3 (f:=hrow) [KP.z,KP.z,KP.z] hi,dl4 (f:=hrow) [KP.z,KP.z,KP.z] hi]
def ag1 {l:List Due}{i:Nat}(hi:i<l.length)(hl:l.length<=1000):Ans D 370 [.sl [],.i64 (i:Int),.i64 ((i+1:Nat):Int),sl cR l] [sl cR (l.eraseIdx i),.sl []]:=by
 have h1:=fD hi;have ne:decide ((i:Int)=((i+1:Nat):Int))=false:=ak (by omega);have ap:(l.eraseIdx i++l.drop (l.length-1)).length=l.length:=by rw[aC,h1,b9];omega
 have bs:RF.ev .bnd [.v (.int .i64 ((i:Int)+((l.length-(i+1):Nat):Int))),.v (.int .i64 (l.length:Int))]=some (.i64 ((i:Int)+((l.length-(i+1):Nat):Int))):=by rw[j5,ad ⟨by omega,by omega⟩]
 refine am ?_;unfold abB;simp only[EV,ai,xf (aB l.length),xf (show i+1<=l.length by omega),xf (show i<=i+1 by omega),xf (show i<=l.length by omega),ne,aw,ax,dl1 (f:=cR) hi,dl2 (f:=cR) u9 hi hl,ap,b9,bs,dl3 (f:=cR) [KP.z,KP.z,KP.z] hi,dl4 (f:=cR) [KP.z,KP.z,KP.z] hi]
section
variable {α:Type}{nu:α->Int}
def Asc (nu:α->Int)(l:List α):Prop:=l.Pairwise λa b=>nu a<nu b
def Aw {l:List α}(h:Asc nu l){i j:Nat}{a b:α}(hij:i<j)(ha:l[i]?=some a)(hb:l[j]?=some b):nu a<nu b:=by
 unfold Asc at h;rw[dM] at h
 grind
def LBn (nu:α->Int)(l:List α)(id:Int)(m:Nat):Prop:=m<=l.length/\∀(k:Nat) (p:α),l[k]?=some p->(k<m->nu p<id)/\(m<=k->id<=nu p)
def yz {N:Nat}{f:JT}{K0:K}{e:List PV}{l:List α}{id:Int}(hs:Asc nu l)
  (key:∀(i j:Nat) (p:α) (self:JT),i<j->j<=l.length->l[(i+j)/2]?=some p->den (bL D) N K0 ([f]++[self]) (e++[.i64 (i:Int),.i64 (j:Int)])=if nu p<id then self [.i64 (((i+j)/2+1:Nat):Int),.i64 (j:Int)] else self [.i64 (i:Int),.i64 (((i+j)/2:Nat):Int)])
  (out:∀(i j:Nat) (self:JT),¬i<j->den (bL D) N K0 ([f]++[self]) (e++[.i64 (i:Int),.i64 (j:Int)])=f [.i64 (i:Int)]):∀(m i j:Nat),j-i<m->i<=j->j<=l.length->(∀(k:Nat) (p:α),l[k]?=some p->(k<i->nu p<id)/\(j<=k->id<=nu p))->
  ∃P,LBn nu l id P/\ dW (bL D) N K0 [f] e m [.i64 (i:Int),.i64 (j:Int)]=f [.i64 (P:Int)]
 |0,i,j,h,_,_,_=>by omega
 |m+1,i,j,h,hij,hj,hb=>by
  rw[bC];by_cases hlt:i<j
  .obtain⟨p,hp⟩:∃p,l[(i+j)/2]?=some p:=⟨l[(i+j)/2]'(by omega),ah _⟩;rw[key i j p _ hlt hj hp];by_cases c:nu p<id
   .rw[ad c];refine yz hs key out m _ j (by omega) (by omega) hj λk q hq=>⟨λhk=>?_,(hb k q hq).2⟩;by_cases e:k=(i+j)/2
    .subst e;rw[hp] at hq;cases hq;exact c
    .have:=Aw hs (show k<(i+j)/2 by omega) hq hp;omega
   .rw[ac c];refine yz hs key out m i _ (by omega) (by omega) (by omega) λk q hq=>⟨(hb k q hq).1,λhk=>?_⟩;by_cases e:k=(i+j)/2
    .subst e;rw[hp] at hq;cases hq;omega
    .have:=Aw hs (show(i+j)/2<k by omega) hp hq;omega
  .exact⟨i,⟨by omega,λk p hp=>⟨(hb k p hp).1,λh=>(hb k p hp).2 (by omega)⟩⟩,out i j _ hlt⟩
def Nw {l:List α}{id:Int}{P i:Nat}{a:α}(h:LBn nu l id P)(hs:Asc nu l)(ha:l[i]?=some a)(e:nu a=id):P=i:=by
 obtain⟨h1,h2⟩:=h;by_cases c:i<P
 .grind
 .by_cases d:P<i
  .have hi:=bu ha;obtain⟨b,hb⟩:∃b,l[P]?=some b:=⟨l[P]'(by omega),ah _⟩;have:=(h2 P b hb).2 (aB _);have:=Aw hs d hb ha;omega
  .omega
def xg {l:List α}(hs:Asc nu l):∀{i:Nat} {a:α},l[i]?=some a->l.eraseIdx i=l.filter λb=>dS (nu a) (nu b):=by
 induction l with
 |nil=>intro i a h;cases h
 |cons x l ih=>
  intro i a h;unfold Asc at hs;rw[fQ] at hs;cases i with
  |zero=>
   simp at h;subst h;rw[sq (by simp[dS])];show l=_
   rw[fu.2];intro b hb;have:=hs.1 b hb;simp[dS];omega
  |succ i=>
   have:=hs.1 a (au h);rw[sy (by simp[dS];omega)];show x::l.eraseIdx i=_
   rw[ih hs.2 h]
end
def ltS (a b:Int):(sgn (a-b)<0)=(a<b):=by
 unfold sgn
 grind
def eqS (a b:Int):(sgn (a-b)=0)=(a=b):=by
 unfold sgn
 grind
def XU (d:Due):RF.ev (.cell 0) [DP d]=some (.i64 d.number):=rfl
def JW {l:List Due}{id:Int}(hs:Asc (·.number) l)(hl:l.length<=1000):∃P:Nat,LBn (·.number) l id P/\ Ans D 347 [sl cR l,.i64 id] [.i64 (P:Int),.bool (match l[P]? with|some d=>decide (d.number=id)|none=>false)]:=by
 obtain⟨P,h1,h2⟩:=yz (N:=1001) (f:=oZ (bL D) 1001 Hn [] [sl cR l,.i64 id,.i64 (l.length:Int)]) (K0:=AW) (e:=[sl cR l,.i64 id,.i64 (l.length:Int)]) (l:=l) (nu:=(·.number)) (id:=id) hs (λi j p self hij hj hp=>by
  unfold AW;simp only[aU,aO,EV,aa,bi hij,KV (show i<1000000 by omega) (show j<1000000 by omega),cI (show-9223372036854775808<=(((i+j)/2:Nat):Int) by omega) (by omega),ay,aX hp (u9 p),aM hp,W4,XU,phi (uX _ _),PJ,up1 (show(i+j)/2<1000000000 by omega),ltS]) (λi j self hij=>by
  unfold AW;simp only[aU,aO,EV,aa];rw[ac (by omega)]) 1001 0 l.length (by omega) (by omega) (aB _) (λk p hp=>⟨λh=>by omega,λh=>by have:=bu hp;omega⟩)
 refine⟨P,h1,an ⟨1001,?_⟩⟩;unfold abh;simp only[EV,ai];refine h2.trans ?_;unfold Hn;simp only[EV,aa];by_cases hP:P<l.length
 .obtain⟨d,hd⟩:∃d,l[P]?=some d:=⟨l[P]'hP,ah _⟩;rw[ad (by omega),hd];simp only[EV,ay,aX hd (u9 d),aM hd,W4,XU,phi (uX _ _),Hl,eqS]
 .rw[ac (by omega),bF (by omega)];unfold Hl;rfl
def ag2 {l:List Due}{i:Nat}{d:Due}(hs:Asc (·.number) l)(hl:l.length<=1000)(hd:l[i]?=some d):Ans D 347 [sl cR l,.i64 d.number] [.i64 (i:Int),.bool true]:=by
 obtain⟨P,h1,h2⟩:=JW (id:=d.number) hs hl;have:=Nw h1 hs hd rfl
 grind
def adB {l:List Due}{n:Int}(hs:Asc (·.number) l)(hl:l.length<=1000)(hn:∀d∈l,d.number≠n):∃P:Nat,Ans D 347 [sl cR l,.i64 n] [.i64 (P:Int),.bool false]:=by
 obtain⟨P,h1,h2⟩:=JW (id:=n) hs hl
 grind
def sK {c:Certs}(h:dy c):Asc (·.number) c.list:=(lN.1 h).2.2.2.2.imp λh=>h.1
def Vl {c:Clock}(h:bD c):Asc (·.number) c.due:=by
 have h1:=(sJ h).2;have h2:=sK h.2.2.1;unfold Asc at h2|-;have:(c.certs.list.map (·.number)).Pairwise (· <·):=f9.2 h2;exact f9.1 (this.sublist h1)
open Classical in
def ag3 {c:Certs}{i:Nat}{x:Held}(h:dy c)(hx:c.list[i]?=some x):Ans D 422 [CS c,.i64 x.number] [.i64 (i:Int),.i64 0]:=by
 have hl:=h.1;have hs:=sK h;have m1:=phi (Lb (c:=c) (by omega));rw[aq h] at m1;have e0:okE true=0:=rfl;rw[e0] at m1;obtain⟨P,h1,h2⟩:=yz (N:=1001) (f:=oZ (bL D) 1001 HF [] [CS c,.i64 x.number,CS c,.i64 0,.bool false,sl hrow c.list,.i64 (c.list.length:Int)]) (K0:=A0) (e:=[CS c,.i64 x.number,CS c,.i64 0,.bool false,sl hrow c.list,.i64 (c.list.length:Int)]) (l:=c.list) (nu:=(·.number)) (id:=x.number) hs (λi j p self hij hj hp=>by
  unfold A0;simp only[aU,aO,EV,aa,bi hij,KV (show i<1000000 by omega) (show j<1000000 by omega),cI (show-9223372036854775808<=(((i+j)/2:Nat):Int) by omega) (by omega),ay,gg,aX hp (gL p),aM hp,lr,lu,phi (uX _ _),PT,up1 (show(i+j)/2<1000000000 by omega),ltS]) (λi j self hij=>by
  unfold A0;simp only[aU,aO,EV,aa];rw[ac (by omega)]) 1001 0 c.list.length (by omega) (by omega) (aB _) (λk p hp=>⟨λh=>by omega,λh=>by have:=bu hp;omega⟩)
 have:=Nw h1 hs hx rfl;subst this;have hP:=bu hx;refine an ⟨1001,?_⟩;unfold abW;simp only[ay,kD,m1,gg,EV,ai,aA,aJ,aw,ax];refine h2.trans ?_;unfold HF;simp only[EV,aa];rw[ad (by omega)];simp only[EV,ay,gg,aX hx (gL x),aM hx,lr,lu,phi (uX _ _),PS,eqS,aA,aJ,aw,ax]
def ag4 {c:Certs}{i:Nat}{x:Held}(h:dy c)(hx:c.list[i]?=some x):Ans D 369 [CS c,.i64 x.number] [CS ⟨c.next,c.list.filter λy=>dS x.number y.number⟩,CP x.cert,.i64 0]:=by
 have hl:=h.1;have hi:=bu hx;have h1:(c.list.eraseIdx i).length=c.list.length-1:=fD hi;have e:c.list.eraseIdx i=c.list.filter λy=>dS x.number y.number:=xg (sK h) hx;have s1:RF.ev .sub [sl hrow (c.list.filter λy=>dS x.number y.number),.v (.int .i64 0),.v (.int .i64 ((c.list.filter λy=>dS x.number y.number).length:Int))]=some (sl hrow (c.list.filter λy=>dS x.number y.number)):=cp;have ag:RF.ev .agg [.i64 c.next,sl hrow (c.list.filter λy=>dS x.number y.number)]=some (CS ⟨c.next,c.list.filter λy=>dS x.number y.number⟩):=rfl;have sh:RF.ev (.shape 2) [CP x.cert]=some (CP x.cert):=rfl;have pr:RF.ev (.part 0 2) [CP x.cert]=some (CP x.cert):=rfl;refine am ?_;unfold abA;simp only[ay,kD,phi (ag3 h hx),nO,gg,phi (Ll (l:=c.list) (by omega)),EV,ai,aA,aJ,aw,ax,up1 (show i<1000000000 by omega),phi (ag0 hi (by omega)),aX hx (gL _),aM hx,KW,sh,pr,s1,ag,e]
def XV (c:Certs):RF.ev (.part 0 2) [CS c]=some (CS c):=rfl
def T8 (l:List Due):RF.ev .sub [sl cR l,.v (.int .i64 0),.v (.int .i64 (l.length:Int))]=some (sl cR l):=cp
def XW {c:Clock}(h:bD c)(h64:fF c){i:Nat}{x:Held}(hx:c.certs.list[i]?=some x):Ans D 284 [CL c,.i64 x.number] [CL (gD c x.number),CP x.cert,.i64 0]:=by
 have hs:=Vl h;have hcs:=po h;have h3:=h.2.2.1;have h4:=h.2.2.2.1;refine am ?_;unfold aaG;have sh:RF.ev (.shape 2) [CP x.cert]=some (CP x.cert):=rfl;simp only[ay,cZ,rj,phi (ag4 h3 hx),kD,sh,EV,aA,aJ,aw,ax,phi (E9 hcs),fA,ai];cases hf:c.due.find? λd=>decide (d.number=x.number) with
 |none=>
  have hall:∀d∈c.due,d.number≠x.number:=λd hd=>by simpa using lQ.1 hf d hd
  obtain⟨P,cP⟩:=adB (n:=x.number) hs hcs.due hall;have eA:kX c x.number=c.agenda:=by unfold kX;rw[hf]
  have eD:(c.due.filter λd=>dS x.number d.number)=c.due:=fu.2 λd hd=>by unfold dS;simp[hall d hd]
  simp only[phi cP,EV,aw,ax,ay,tz,tA,tB,mq,nQ];unfold G9 gD;rw[eA,eD];simp only[ay,Lt,XV,T8,EV,D3]
 |some d=>
  have hd:=eR hf;have hdn:d.number=x.number:=by simpa using kY hf
  obtain⟨k,hk⟩:=aI.1 hd;obtain⟨m,j,u,e,w1,w2,w3,w4,w5,_⟩:=IY h hd;have cP:=ag2 hs hcs.due hk;rw[hdn] at cP;have hkl:=bu hk;have hdl:=hcs.due;have eA:kX c x.number=ql c.agenda m j:=by
   unfold kX;rw[hf];simp only;rw[w4];simp only[aF];rw[w1];simp only[cx,aF]
  have eD:c.due.eraseIdx k=c.due.filter λd=>dS x.number d.number:=by rw[<-hdn];exact xg hs hk
  have c5:=phi (agZ h4 w2 w3 h64.2);rw[<-w4] at c5;simp only[phi cP,EV,az,ay,nP,fA,aX hk (u9 d),aM hk,K7,c5,jE,ir,aA,aJ,aw,ax,XB,up1 (show k<1000000000 by omega),phi (ag1 hkl hdl),ai,cAG0,cAG1,cAG2,fE,mo]
  unfold G9 gD;rw[eA,<-eD];simp only[ay,Lt,XV,T8,EV,D3]
def adC (e:Evt):RF.ev (.cell 2) [EP e]=some (.i64 e.number):=rfl
def ag5 (e:Evt):RF.ev (.part 0 2) [EP e]=some (R e.time):=rfl
def adD (c:Clock):RF.ev (.part 2 9) [CL c]=some (.agg ((clC c).drop 2)):=rfl
def adE (c:Clock):RF.ev (.part 2 8) [CL c]=some (.agg (((clC c).drop 2).take 8)):=rfl
def XX (c:Clock)(t:Rt):RF.ev .agg [R t,.agg ((clC c).drop 2)]=some (CL (atC c t)):=rfl
def XY (c:Clock)(t:Rt):RF.ev .agg [R t,.agg (((clC c).drop 2).take 8),sl cR c.due]=some (CL (atC c t)):=rfl
def ic (t:Rt):RF.ev (.shape 2) [R t]=some (R t):=rfl
def pRt (t:Rt):RF.ev (.part 0 2) [R t]=some (R t):=rfl
def jB (x:Crt):RF.ev (.shape 2) [CP x]=some (CP x):=rfl
def E0:Evt:=⟨⟨0,0⟩,0,⟨0,0⟩⟩
def C0:Crt:=⟨0,0⟩
def CLz:PV:= .agg [.i64 0,.i64 0,.sl [],.i64 0,.sl [],.sl [],.sl [],.sl [],.sl [],.sl [],.sl []]
def T9:RF.ev .agg [.i64 0,.i64 0,.i64 0,.i64 0,.i64 0]=some (EP E0):=rfl
def Ua:RF.ev .agg [.i64 0,.i64 0]=some (CP C0):=rfl
def Ax:RF.ev .agg [.i64 0,.i64 0,.sl [],.i64 0,.sl [],.sl [],.sl [],.sl [],.sl [],.sl [],.sl []]=some CLz:=rfl
open Classical in
def ag6 {a:Agenda}(h:eO a)(h64:∀e∈a.heap,aQ e.time):Ans D 364 [AG a] (match a.heap[0]? with|some e=>[EP e,.i64 0]|none=>[EP E0,.i64 42]):=by
 have m1:=phi (EJ (tU h) h64);rw[aq h] at m1;have e0:okE true=0:=rfl;rw[e0] at m1;refine am ?_;unfold abv;simp only[jE,m1,fE,EV,ai,aA,aJ,aw,ax,aa];cases hh:a.heap[0]? with
 |none=>
  have:a.heap.length=0:=by rw[fR] at hh;omega
  rw[ad (by omega)];simp[EV,T9]
 |some e=>
  have hl:=bu hh;rw[ac (by omega)];have z0:(.i64 0:PV)= .v (.int .i64 ((0:Nat):Int)):=rfl;simp[EV,fE,z0,aX hh (jP e),aM hh,iX]
open Classical in
def RG {c:Clock}(h:bD c)(hn:aQ c.now){t:Rt}(hr:rok t=true)(ht:aQ t)(hp:crs c.now t<=0):Ans D 282 [CL c,R t] [.bool (iy c t),.i64 0]:=by
 have h4:=h.2.2.2.1;have h64:=zU h hn;have m1:=phi (vp h64 (yr h));rw[aq h] at m1;have m2:=phi (c43 ht);rw[hr] at m2;have e0:okE true=0:=rfl;rw[e0] at m1 m2;have mm:RF.ev (.mm true) [.v (.int .i64 0),.v (.int .i64 0)]=some (.v (.int .i64 0)):=rfl;have m3:=phi (qe ht hn);rw[hr,h.1] at m3;have ng:¬sgn (crs t c.now)<0:=by
  have:=eS t c.now;unfold sgn
  grind
 have m4:=phi (ag6 h4 h64.2);refine am ?_;unfold aaE;simp only[ay,cZ,ic,m1,m2,mm,EV,aA,aJ,aw,ax,gM,m3,gb,az,ng,aY,nP,m4];cases hh:c.agenda.heap[0]? with
 |none=>
  unfold iy;rw[hh];simp only[EV,ay,ir];rfl
 |some e=>
  have hm:=au hh;have m5:=phi (qe (h64.2 e hm) ht);rw[(h4.2.2.1 e hm).1,hr] at m5;have le:(sgn (crs e.time t)<=0)=(crs e.time t<=0):=by
   unfold sgn;refine propext ⟨λq=>?_,λq=>?_⟩
   .split at q
    .omega
    .split at q<;>omega
   .split
    .omega
    .rw[ac (by omega)];omega
  unfold iy;rw[hh];simp only[EV,ay,ir,aA,aJ,aw,ax,ag5,m5,gb,az,le]
def ag7 {c:Clock}(h:bD c)(hn:aQ c.now){i:Nat}{x:Held}(hx:c.certs.list[i]?=some x):Ans D 259 [CL c,.i64 x.number] [CL (gD c x.number),.i64 0]:=by
 classical
 have h64:=zU h hn;have m1:=phi (vp h64 (yr h));rw[aq h] at m1;have e0:okE true=0:=rfl;rw[e0] at m1;refine am ?_;unfold aam;simp[cZ,m1,EV,phi (XW h h64 hx),jB]
def Lw {c:Clock}(h:bD c)(hn:aQ c.now){t:Rt}(hr:rok t=true)(ht:aQ t)(hp:crs c.now t<=0){e:Evt}(he:c.agenda.heap[0]?=some e)(hw:iy c t=true){i:Nat}{x:Held}(hx:c.certs.list[i]?=some x)(hxe:x.number=e.number):Ans D 196 [CL c,R t] [CL (di c e),EP e,CP x.cert,.i64 0]:=by
 have h64:=zU h hn;have m1:=phi (RG h hn hr ht hp);rw[hw] at m1;have m2:=phi (XW h h64 hx);rw[hxe] at m2;have t1:=aX (z:=5) he (jP e);have t2:=aM (f:=ct) (o:=0) (n:=5) he;simp at t1 t2;refine am ?_;unfold RW;simp only[ay,cZ,ic,m1,EV,aA,aJ,az];unfold Gx;unfold Gw;simp[EV,mq,t1,t2,iX,adC,m2,adD,XX];rfl
def D8 {c:Clock}(h:bD c)(hn:aQ c.now){t:Rt}(hr:rok t=true)(ht:aQ t)(hp:crs c.now t<=0)(hw:iy c t=false):Ans D 196 [CL c,R t] [CLz,EP E0,CP C0,.i64 6]:=by
 have m1:=phi (RG h hn hr ht hp);rw[hw] at m1;refine am ?_;unfold RW;simp[cZ,ic,m1,EV];unfold Gx;unfold Gw;have g:(!decide ((6:Int)=0))=true:=rfl;simp[EV,Ax,T9,Ua]
def Lx {c:Clock}(h:bD c)(hn:aQ c.now){t:Rt}(hr:rok t=true)(ht:aQ t)(hp:crs c.now t<=0)(hw:iy c t=false):Ans D 195 [CL c,R t] [CL (atC c t),.i64 0]:=by
 have m1:=phi (RG h hn hr ht hp);rw[hw] at m1;have cE:∀c:Clock,RF.ev .sub [sl cR c.due,.v (.int .i64 0),.v (.int .i64 (c.due.length:Int))]=some (sl cR c.due):=λc=>cp;refine am ?_;unfold ZP;simp[cZ,ic,m1,EV];unfold OW;unfold OV;simp[EV,phi (E9 (po h)),cZ,fA,pRt,adE,cE,XY]
def CSz:PV:= .agg [.i64 0,.sl []]
def AGz:PV:= .agg [.sl [],.sl [],.sl [],.sl [],.sl []]
def Ny:RF.ev .agg [.i64 0,.sl []]=some CSz:=rfl
def XZ:RF.ev .agg [.sl [],.sl [],.sl [],.sl [],.sl []]=some AGz:=rfl
def adF:RF.ev (.shape 2) [CSz]=some CSz:=rfl
def adG:RF.ev (.shape 5) [AGz]=some AGz:=rfl
def adH:RF.ev (.shape 3) [DX]=some DX:=rfl
def X3:RF.ev (.shape 2) [H0]=some H0:=rfl
open Classical in
def adI {c:Certs}{x:Crt}(h:dy c)(hx:x.ok)(hn:∀g∈c.list,g.cert≠x)(hf:c.list.length=200\/c.next=1000000):Ans D 352 [CS c,CP x] [CSz,.i64 0,.i64 18]:=by
 have hl:=h.1;have e0:okE true=0:=rfl;have m1:=phi (Lb (c:=c) (by omega));rw[aq h,e0] at m1;have m2:=phi (Rf x);rw[aq hx] at m2;refine an ⟨1001,?_⟩;unfold R1;simp only[ay,kD,kC,m1,m2,gg,EV,ai,aA,aJ,aw,ax];refine(cz (m:=1001) (l:=c.list) (p:=λg=>!decide (g.cert=x)) (st:=λi=>[.i64 (i:Int)]) (r:=none) (fin:=some [CSz,.i64 0,.i64 18]) (λi g self hg _=>?_) (λhall self=>?_) (by omega)).trans ?_
 .have hne:¬g.cert=x:=hn g (au hg);unfold xq;simp only[ay,gg,aX hg (gL _),aM hg,lr,pHP,wT,EV,aa,bi (aL hg),up1 (show i<1000000000 by have:=aL hg;omega),hne,aY,bZ,aw,az,ax]
 .unfold xq;simp only[EV,aa,bP];unfold Hs;have g0:decide ((-1:Int)>=0)=false:=rfl;simp only[EV,g0,aw,ax,ay,gg,ai,aa];by_cases h1:(c.list.length:Int)=200
  .rw[ad h1];simp only[EV,ay,Ny]
  .rw[ac h1];have h2:c.next=1000000:=hf.resolve_left (by omega);simp only[EV,ay,nO,h2,Ny,aA,az]
 .rw[ad (by rw[aS];intro g hg;simpa using hn g hg)]
open Classical in
def adJ {s:Slots}(h:SFine s)(ho:jX s=false):Ans D 408 [SL s] [DX,H0,.i64 18]:=by
 have hc:=phi (La (vw h));rw[aq (okR_fine.2 h)] at hc;have e0:okE true=0:=rfl;rw[e0] at hc;refine am ?_;unfold R3;rcases free_last h with e|⟨fr,i,u,e,hu,h1,h2⟩
 .simp only[jS,hc,jU,e,EV,aA,aJ,aw,ax,TS,Lo];rfl
 .rw[rz e hu] at ho;have hm:=(h.uses i u hu).2.1;have hu':u=1000000:=by simp only[aj] at ho;omega
  subst hu';have hne:¬((s.free.length:Nat):Int)=0:=by rw[e];simp;omega
  have c4:=phi (Xw (fr:=fr) (i:=(i:Int)) (by omega));rw[<-e] at c4;simp only[ay,jS,hc,jT,mn,jU,EV,ai,aA,aJ,aw,ax,hne,aY,c4,aX hu (cA _),aM hu,cQ,az,TS,Lo]
def adK {a:Agenda}(h:eO a)(ho:jX a.slots=false){t:Rt}{n:Int}(hx:rok t=true/\ 0<=n/\ n<=1000000)(hn:n∉a.heap.map (·.number))(ht:aQ t)(h64:∀e∈a.heap,aQ e.time):Ans D 349 [AG a,R t,.i64 n] [AGz,H0,.i64 18]:=by
 classical
 have hs:=okR_fine.1 h.1;have n2:=hs.n2;have hl:=h.2.1.2.1;have m1:=phi (EJ (tU h) h64);rw[aq h] at m1;have m2:=phi (c43 ht);rw[hx.1] at m2;have e0:okE true=0:=rfl;rw[e0] at m1 m2;have mm:RF.ev (.mm true) [.v (.int .i64 0),.v (.int .i64 0)]=some (.v (.int .i64 0)):=rfl;refine an ⟨1001,?_⟩;unfold R0;simp only[ay,jE,bm,m1,m2,mm,fE,EV,ai,aA,aJ,aw,ax,aa,cw];rw[ac (by omega),ac (by omega)];refine(cz (m:=1001) (l:=a.heap) (p:=λg=>!decide (g.number=n)) (st:=λi=>[.i64 (i:Int)]) (r:=none) (fin:=some [AGz,H0,.i64 18]) (λk g self hg hall=>?_) (λhall self=>?_) (by omega)).trans ?_
 .have hne:¬g.number=n:=λe=>hn (bf.2 ⟨g,au hg,e⟩);unfold uh;simp only[ay,fE,aX hg (jP _),aM hg,iX,vn,EV,aa,bi (aL hg),up1 (show k<1000000000 by have:=aL hg;omega),hne,aY,bZ,aw,az,ax]
 .unfold uh;simp only[EV,aa,bP];unfold Hr;have g0:decide ((-1:Int)>=0)=false:=rfl;have g1:(!decide ((18:Int)=0))=true:=rfl;simp only[EV,g0,g1,aw,ax,az,ay,pAG,phi (adJ hs ho),adH,X3,XZ,Lo]
 .rw[ad (by rw[aS];intro g hg;simpa usingλe=>hn (bf.2 ⟨g,hg,e⟩))]
open Classical in
def adL {c:Clock}{x:Crt}(h:CAd c x)(hn:aQ c.now)(hf:nc c x):Ans D 263 [CL c,CP x] [CLz,.i64 0,.i64 18]:=by
 have hc:=po h.ok;have h64:=zU h.ok hn;have m1:=phi (vp h64 (yr h.ok));rw[aq h.ok,show okE true=0 from rfl] at m1
 have hF:=h.ok.2.1;have n8:decide ((0:Int)=8)=false:=rfl;have n18:decide ((18:Int)=8)=false:=rfl;have g1:(!decide ((18:Int)=0))=true:=rfl;have p1:=vC hF h.low;have p2:=vC hF h.high;refine am ?_;unfold Mb;by_cases h1:c.certs.list.length=200\/c.certs.next=1000000
 .simp only[ay,cZ,kC,rj,io,m1,phi (adI h.ok.2.2.1 h.cok h.new h1),adF,jQ,jR,phi (BV hF _),B7,EV,aA,aJ,aw,ax,n18,ak p1,ak p2,g1,az,Ax]
 .obtain⟨hf,ho⟩:=hf.resolve_left h1;have hlen:=h.ok.2.2.1.1;have hnx:=h.ok.2.2.1.2.2.1;have m2:=phi (XA h.ok.2.2.1 h.cok h.new (by omega) (by omega));have m3:=phi (Rg (x:=x) hF h64.1);rw[ad (JR hF h.ok.1 h.cok h.low h.high)] at m3;have hf':(cB c.now (be c.pts x.high) (be c.pts x.low)).2=true:=hf;rw[hf'] at m3;obtain⟨f1,f2⟩:=qT hF h64.1 h.ok.1 h.low h.high hf';have m4:=phi (adK h.ok.2.2.2.1 ho (t:=(fT c x).1) (n:=c.certs.next) ⟨f1,h.ok.2.2.1.2.1,by omega⟩ (rC h.ok) f2 h64.2);have m4:bL D 349 [AG c.agenda,R (cB c.now (be c.pts x.high) (be c.pts x.low)).1,.v (.int .i64 c.certs.next)]=_:=m4;simp only[ay,cZ,kC,bm,rj,io,gM,nP,m1,m2,kD,jQ,jR,phi (BV hF _),B7,EV,aA,aJ,aw,ax,n8,ak p1,ak p2,phi (E9 hc),fA,ai,m3,m4,adG,X3,g1,az,Ax]
def Vm {c:Clock}{x:Crt}(h:CAd c x)(hn:aQ c.now)(hf:¬nc c x):Ans D 263 [CL c,CP x] [CL (j8 c x),.i64 c.certs.next,.i64 0]/\ Ans D 294 [CL c,CP x] [CL (j8 c x),.i64 c.certs.next,.i64 0]:=by
 have ha:=h.add hf;have h64:=zU h.ok hn;obtain⟨a1,a2⟩:=XF ha h64;obtain⟨b1,b2⟩:=agD ha h64;unfold j8;by_cases h1:(fT c x).2=true
 .rw[ad h1];have ho:jX c.agenda.slots=true:=by
   cases q:jX c.agenda.slots with
   |true=>rfl
   |false=>exact absurd (.inr ⟨h1,q⟩) hf
  obtain⟨fr,i,u,e,hu,hm⟩:=DJ (okR_fine.1 h.ok.2.2.2.1.1) ho;have e1:frL c=fr:=by unfold frL;rw[e];simp
  have e2:frI c=i:=by unfold frI;rw[e];simp
  grind
 .grind
def Ly {es:List Crt}{l:List Held}{c:Clock}{k:Nat}{x:Held}(hx:l[k]?=some x):dropL es (l.take (k+1)) c=if x.cert∈es then dropL es (l.take k) c else gD (dropL es (l.take k) c) x.number:=by
 unfold dropL;rw[cC,hx,qt];rfl
def RH {es:List Crt}{c:Clock}(h:bD c){k:Nat}{x:Held}(hx:c.certs.list[k]?=some x):∃i:Nat,(dropL es (c.certs.list.take k) c).certs.list[i]?=some x:=by
 have:=(fX es (c.certs.list.take k) c h).2.2;refine aI.1 ?_;rw[this,bx];refine⟨au hx,?_⟩;rw[aS];intro y hy;obtain⟨j,hj⟩:=aI.1 hy;have hjk:j<k:=by have:=bu hj;rw[aP] at this;omega
 rw[c7 hjk] at hj;have:=Aw (sK h.2.2.1) hjk hj hx;simp[dS];omega
def stC (c:Clock):List PV:=[.i64 c.now.num,.i64 c.now.den,sl row c.pts,.i64 c.certs.next,sl hrow c.certs.list,sl I1 c.agenda.slots.uses,sl B1 c.agenda.slots.used,sl I1 c.agenda.slots.free,sl ct c.agenda.heap,sl I1 c.agenda.wher,sl cR c.due]
def Dh {es:List Crt}{c:Clock}(h:bD c)(hn:aQ c.now)(l:List Held):aQ (dropL es l c).now:=by rw[(fX es l c h).1.now];exact hn
def Vn {N:Nat}{f:JT}{c:Clock}{es:List Crt}(h:bD c)(hn:aQ c.now)(hE:es.length<=1000){e0 e1 e4 e5:PV}:dW (bL D) N xk [f] [e0,e1,sl crow es,CL c,e4,e5,.i64 (c.certs.list.length:Int)] 1001 (stC c++[.i64 ((0:Nat):Int)])=f (stC (dropL es c.certs.list c)):=by
 have hl:=h.2.2.1.1;have e:stC c=stC (dropL es (c.certs.list.take 0) c):=rfl;rw[e];refine(gj (m:=1001) (n:=c.certs.list.length) (st:=λk=>stC (dropL es (c.certs.list.take k) c)++[.i64 (k:Int)]) (fin:=f (stC (dropL es c.certs.list c))) (λk self hk=>?_) (λself=>?_) (by omega))
 .have hx:c.certs.list[k]?=some c.certs.list[k]:=ah _;generalize c.certs.list[k]=x at hx;obtain⟨i,hi⟩:=RH (es:=es) h hx;have A:=(fX es (c.certs.list.take k) c h).1;have m:=phi (ag7 A.ok (Dh h hn _) hi);rw[Ly hx];generalize dropL es (c.certs.list.take k) c=a at A m;clear hi;unfold xk;simp only[stC,aU,aO,EV,aa,bi hk,ay,jx,aX hx (gL _),aM hx,lr,pHP,phi (wW x.cert hE)];by_cases hm:x.cert∈es
  .simp only[hm,aA,aJ,aw,ax,az,EV,Gs,up1 (show k<1000000000 by omega)]
  .simp only[hm,aY,bZ,az,ax,ay,gE,lu,m,cZ,wZ,xa,th,zr,jx,tz,tA,tB,mq,nQ,fA,EV,Gs,up1 (show k<1000000000 by omega)]
 .have e:c.certs.list.take c.certs.list.length=c.certs.list:=eH;rw[e];unfold xk;simp only[stC,aU,aO,EV,aa,bP]
def pq:RF.ev (.shape 11) [CLz]=some CLz:=rfl
open Classical in
def Ay {N:Nat}{f:JT}{l:List Pt}{es:List Crt}{e0 e1 e3 e4 e5 e6 e7 e8 e9 e10 e11 e12 e13 e14 e15 e16 e17 e18 e19 e20 e21 e22 e23 e24 e25 e26 e27 e28 e29 e30 e31 e32:PV}(hE:EdgF l es)(hlen:es.length<=1000)(hN:1001<=N):∀(r k m:Nat) (a:Clock),k+r=es.length->r<m->bD a->aQ a.now->a.pts=l->
  dW (bL D) N pJ [f] [e0,e1,sl crow es,e3,e4,e5,e6,e7,e8,e9,e10,e11,e12,e13,e14,e15,e16,e17,e18,e19,e20,e21,e22,e23,e24,e25,e26,e27,e28,e29,e30,e31,e32,.i64 (es.length:Int)] m (.i64 0::(stC a++[.i64 (k:Int)]))=match addL (es.drop k) a with|some d=>f (stC d)|none=>some [CLz,.i64 18]
 |0,k,m,a,hk,hm,h,hn,hp=>by
  obtain⟨m,rfl⟩:∃m',m=m'+1:=⟨m-1,by omega⟩;rw[bC,dx (by omega)];unfold pJ addL;simp only[stC,aU,aO,EV,aa];rw[ac (by omega)]
 |r+1,k,m,a,hk,hm,h,hn,hp=>by
  obtain⟨m,rfl⟩:∃m',m=m'+1:=⟨m-1,by omega⟩;have hkl:k<es.length:=by omega
  obtain⟨x,hx⟩:∃x,es[k]?=some x:=⟨es[k],ah _⟩;have hxm:=au hx;have hdr:es.drop k=x::es.drop (k+1):=by
   rw[cY hkl,(aD.1 hx).2]
  have ih:=λ(a:Clock) h hn hp=>Ay (N:=N) (f:=f) (l:=l) (es:=es) (e0:=e0) (e1:=e1) (e3:=e3) (e4:=e4) (e5:=e5) (e6:=e6) (e7:=e7) (e8:=e8) (e9:=e9) (e10:=e10) (e11:=e11) (e12:=e12) (e13:=e13) (e14:=e14) (e15:=e15) (e16:=e16) (e17:=e17) (e18:=e18) (e19:=e19) (e20:=e20) (e21:=e21) (e22:=e22) (e23:=e23) (e24:=e24) (e25:=e25) (e26:=e26) (e27:=e27) (e28:=e28) (e29:=e29) (e30:=e30) (e31:=e31) (e32:=e32) hE hlen hN r (k+1) m a (by omega) (by omega) h hn hp;have hal:=h.2.2.1.1;rw[bC,hdr];have g0:decide (-1>=(0:Int))=false:=rfl;have g18:(!decide ((18:Int)=0))=true:=rfl;have E:addL (x::es.drop (k+1)) a=if(a.certs.list.any λh=>decide (h.cert=x))=true then addL (es.drop (k+1)) a else if nc a x then none else addL (es.drop (k+1)) (j8 a x):=rfl
  rw[E];generalize hkk:pJ=kk at ih;subst hkk;unfold pJ;simp only[stC,aU,aO,EV,aa,bi hkl,ay,aX hx (iY _),aM hx,tg,ai];refine(cz (m:=N) (l:=a.certs.list) (p:=λg=>!decide (g.cert=x)) (st:=λi=>[.i64 (i:Int)]) (r:=match addL (es.drop (k+1)) a with|some d=>f (stC d)|none=>some [CLz,.i64 18]) (fin:=if nc a x then some [CLz,.i64 18] else match addL (es.drop (k+1)) (j8 a x) with|some d=>f (stC d)|none=>some [CLz,.i64 18]) (λi g self' hg _=>?_) (λhall self'=>?_) (by omega)).trans ?_
  .rw[<-ih a h hn hp];unfold xj;simp only[ay,aX hg (gL _),aM hg,lr,pHP,wT,EV,aa,bi (aL hg),up1 (show i<1000000000 by have:=aL hg;omega)]
   by_cases hc:g.cert=x
   .rw[ad hc,ac (show¬((!decide (g.cert=x))=true) by simp[hc])]
    simp only[EV,ay,jQ,jR];unfold AR;simp only[EV,up1 (show k<1000000000 by omega),stC,aU,aO]
    rw[ad (by omega)];rfl
   .rw[ac hc,ad (show(!decide (g.cert=x))=true by simp[hc])]
  .have hany:(a.certs.list.any λh=>decide (h.cert=x))=false:=by
    rw[f8];intro g hg;have:=aS.1 hall g hg;simpa using this
   have hcd:=x8 hE h hp hxm hany;unfold xj;simp only[EV,aa,bP];unfold Gp;by_cases hfl:nc a x
   .rw[ad hfl];simp only[EV,g0,g18,aw,ax,az,ay,gE,phi (adL hcd hn hfl),pq,Ax]
   .rw[ac hfl];obtain⟨q1,q2,q3,q4⟩:=rW hcd hn hfl;rw[<-ih (j8 a x) q1 (by rw[q4];exact hn) (q3.trans hp)];simp only[EV,g0,aw,ax,ay,gE,phi (Vm hcd hn hfl).1,cZ,aA,aJ,wZ,xa,th,zr,jx,tz,tA,tB,mq,nQ,fA,jQ,jR];unfold AR;simp only[EV,up1 (show k<1000000000 by omega),stC,aU,aO]
    rfl
  .by_cases hall:(a.certs.list.all λg=>!decide (g.cert=x))=true
   .have hany:(a.certs.list.any λh=>decide (h.cert=x))=false:=by
     rw[f8];intro g hg;have:=aS.1 hall g hg;simpa using this
    rw[ad hall,hany,ac (show¬(false=true) by simp)]
    by_cases hfl:nc a x
    .rw[ad hfl,ad hfl]
    .rw[ac hfl,ac hfl];rfl
   .rw[ac hall];have hany:(a.certs.list.any λh=>decide (h.cert=x))=true:=by
     cases q:a.certs.list.any λh=>decide (h.cert=x) with
     |true=>rfl
     |false=>
      rw[f8] at q;exact absurd (aS.2 λg hg=>by simpa using q g hg) hall
    rw[hany,ad (show true=true from rfl)]
    rfl
def iK (es:List Crt)(c:Clock):List PV:=match dt es c with
 |some d=>[CL d,.i64 0]
 |none=>[CLz,.i64 18]
def Ub {c:Clock}{es:List Crt}(h:bD c)(hn:aQ c.now)(hE:EdgF c.pts es)(hl:es.length<=1000):Ans D 169 [CL c,F c.pts,sl crow es] (iK es c):=by
 obtain⟨q1,_,_⟩:=fX es c.certs.list c h;have hp:=q1.pts;have hpl:=(po h).pts;have e234:=phi (XG (l:=c.pts) (k:=c.pts) (by omega));rw[aq rfl] at e234;have key:den (bL D) 1001 L2 [] [CL c,F c.pts,sl crow es]=some (iK es c):=by
  unfold L2;simp only[ay,cZ,bv,wZ,xa,th,zr,jx,tz,tA,tB,mq,nQ,fA,EV,ai];refine(Vn (N:=1001) h hn hl).trans ?_;unfold Gr;simp only[stC,aU,aO,EV,ay,cG,hp,e234,aJ,aw,ax];unfold Gq;simp only[EV,ai];have al:=λ(f:JT) (e0 e1 e3 e4 e5 e6 e7 e8 e9 e10 e11 e12 e13 e14 e15 e16 e17 e18 e19 e20 e21 e22 e23 e24 e25 e26 e27 e28 e29 e30 e31 e32:PV)=>Ay (N:=1001) (f:=f) (l:=c.pts) (es:=es) (e0:=e0) (e1:=e1) (e3:=e3) (e4:=e4) (e5:=e5) (e6:=e6) (e7:=e7) (e8:=e8) (e9:=e9) (e10:=e10) (e11:=e11) (e12:=e12) (e13:=e13) (e14:=e14) (e15:=e15) (e16:=e16) (e17:=e17) (e18:=e18) (e19:=e19) (e20:=e20) (e21:=e21) (e22:=e22) (e23:=e23) (e24:=e24) (e25:=e25) (e26:=e26) (e27:=e27) (e28:=e28) (e29:=e29) (e30:=e30) (e31:=e31) (e32:=e32) hE hl (aB _) es.length 0 1001 (dropL es c.certs.list c) (by omega) (by omega) q1.ok (Dh h hn _) hp;simp only[stC,hp,aU,aO] at al;refine(al _ _ _ _ _ _ _ _ _ _ _ _ _ _ _ _ _ _ _ _ _ _ _ _ _ _ _ _ _ _ _ _ _).trans ?_;rw[dP];unfold iK dt;cases addL es (dropL es c.certs.list c) with
  |none=>rfl
  |some d=>
   unfold Gn;simp only[EV,ay,gE]
 unfold iK at key|-;cases hr:dt es c with
 |none=>rw[hr] at key;exact an ⟨1001,key⟩
 |some d=>rw[hr] at key;exact an ⟨1001,key⟩
open Classical in
def X4 {c:Clock}{es:List Crt}(h:bD c)(hn0:aQ c.now)(hE:EdgOk c.pts es):den (bL D) 1001 Mc [] [CL c,F c.pts,sl crow es]=some (iK es c):=by
 have hl:=h.2.1;have hlen:=hE.len;have m1:=phi (vp (zU h hn0) (yr h));rw[aq h,show okE true=0 from rfl] at m1
 have m2:=phi (te c.pts);rw[eL.2 hl] at m2;unfold Mc;simp only[ay,cZ,bv,m1,m2,EV,aA,aJ,aw,ax,ai];refine(cz (m:=1001) (l:=es) (p:=λ_=>true) (st:=λi=>[.i64 (i:Int)]) (r:=none) (fin:=some (iK es c)) (λi x self hx _=>?_) (λ_ self=>?_) (by omega)).trans (ad (by simp))
 .obtain⟨o1,o2,o3,o4,o5⟩:=hE.ok x (au hx);unfold xp;simp only[ay,aX hx (iY _),aM hx,tg,jQ,jR,EV,aa,bi (aL hx),cw,up1 (show i<1000000000 by have:=aL hx;omega)]
  grind
 .unfold xp;simp only[EV,aa,bP];unfold G7;simp only[EV,ai];refine(cz (m:=1001) (l:=es) (p:=λ_=>true) (st:=λi=>[.i64 (i:Int)]) (r:=none) (fin:=some (iK es c)) (λi x self hx _=>?_) (λ_ self=>?_) (by omega)).trans (ad (by simp))
  .have hn:x∉es.take i:=λhm=>by
    obtain⟨j,hj⟩:=aI.1 hm;have hji:j<i:=by have:=aL hj;rw[aP] at this;omega
    rw[c7 hji] at hj;have:=dN.1 hE.nd j i x hj hx;omega
   have m3:=phi (wW (l:=es.take i) x (by rw[aP];omega));rw[ak hn] at m3;have hi:=aL hx;unfold xn;simp only[ay,aX hx (iY _),aM hx,tg,XI (show i<=es.length by omega),T2 (show i<=es.length by omega),m3,EV,ai,aa,bi hi,aw,ax,az,up1 (show i<1000000000 by omega)]
  .unfold xn;simp only[EV,aa,bP];unfold G6;simp only[EV,ai];refine(cz (m:=1001) (l:=es) (p:=λ_=>true) (st:=λi=>[.i64 (i:Int)]) (r:=none) (fin:=some (iK es c)) (λi x self hx _=>?_) (λ_ self=>?_) (by omega)).trans (ad (by simp))
   .obtain⟨a,p,a1,a2,_⟩:=yu hl (hE.low x (au hx));obtain⟨b,q,b1,b2,_⟩:=yu hl (hE.high x (au hx));have n1:=phi (BU hl a1);have n2:=phi (BU hl b1);rw[a2] at n1;rw[b2] at n2;unfold xm;simp only[ay,aX hx (iY _),aM hx,tg,jQ,jR,n1,n2,XJ,EV,ai,aa,bi (aL hx),aA,aJ,aw,ax,az,up1 (show i<1000000000 by have:=aL hx;omega)]
   .unfold xm;simp only[EV,aa,bP];unfold G5;have m4:=phi (Ub h hn0 ⟨hE.ok,hE.low,hE.high⟩ (by omega));have pz:RF.ev (.part 0 11) [CLz]=some CLz:=rfl;unfold iK at m4|-;cases hr:dt es c with
    |none=>
     rw[hr] at m4;simp only[EV,ay,phi (Rv (po h)),m4,pq,pz]
    |some d=>
     rw[hr] at m4;simp only[EV,ay,phi (Rv (po h)),m4,cZ,nV]
def Lz {c:Clock}{es:List Crt}(h:bD c)(hn:aQ c.now)(hE:EdgOk c.pts es):Ans D 264 [CL c,F c.pts,sl crow es] (iK es c):=by
 have key:=X4 h hn hE;unfold iK at key|-;cases hr:dt es c with
 |none=>rw[hr] at key;exact an ⟨1001,key⟩
 |some d=>rw[hr] at key;exact an ⟨1001,key⟩
def KTz:PV:= .agg [.i64 0,.i64 0,.sl [],.i64 0,.sl [],.sl [],.sl [],.sl [],.sl [],.sl [],.sl [],.sl [],.sl []]
def HTz:PV:= .agg [.i64 0,.i64 0,.sl [],.i64 0,.sl [],.sl [],.sl [],.sl [],.sl [],.sl [],.sl [],.i64 0,.sl []]
def KHz:PV:= .agg [.i64 0,.i64 0,.sl [],.i64 0,.sl [],.sl [],.sl [],.sl [],.sl [],.sl [],.sl [],.sl []]
def Fr:RF.ev .agg [.i64 0,.i64 0,.sl [],.i64 0,.sl [],.sl [],.sl [],.sl [],.sl [],.sl [],.sl [],.sl [],.sl []]=some KTz:=rfl
def Fs:RF.ev .agg [.i64 0,.i64 0,.sl [],.i64 0,.sl [],.sl [],.sl [],.sl [],.sl [],.sl [],.sl [],.i64 0,.sl []]=some HTz:=rfl
def tW:RF.ev .agg [.i64 0,.i64 0,.sl [],.i64 0,.sl [],.sl [],.sl [],.sl [],.sl [],.sl [],.sl [],.sl []]=some KHz:=rfl
def LA (c:Clock)(pl:List Int):List PV:=match dt (edsB (bracketOf c.now c.pts pl).wins pl (bracketOf c.now c.pts pl).wins.length) c with
 |some d=>[KT ⟨d,bracketOf c.now c.pts pl⟩,.i64 0]
 |none=>[KTz,.i64 18]
def LC (c:Clock):List PV:=match dt (edgsT (cart c.now c.pts).nodes c.pts.length) c with
 |some d=>[HT ⟨d,cart c.now c.pts⟩,.i64 0]
 |none=>[HTz,.i64 18]
def LD (c:Clock):List PV:=match dt (cv c.pts (cS c.now c.pts)) c with
 |some d=>[KH ⟨d,cS c.now c.pts⟩,.i64 0]
 |none=>[KHz,.i64 18]
def g18:(!decide ((18:Int)=0))=true:=rfl
section
variable {c:Clock}(h:bD c)(hn:aQ c.now)
include h hn
theorem adM {pl:List Int}(h1:1<=pl.length)(h2:pl.length<=64)(hv:∀x∈pl,dY c.pts x)(ho:gV pl):Ans D 170 [CL c,F c.pts,sl I1 pl] (LA c pl):=by
 have hl:=h.2.1;have hE:=jN (t:=c.now) hl h1 h2 hv ho;have m1:bL D 159 [F c.pts,R c.now,sl I1 pl]=some [BR (bracketOf c.now c.pts pl),sl crow (edsB (bracketOf c.now c.pts pl).wins pl (bracketOf c.now c.pts pl).wins.length)]:=phi (Lk hl hn h.1 h1 h2 hv ho rfl);have m2:=phi (Lz h hn hE);unfold iK at m2;unfold LA;cases hr:dt (edsB (bracketOf c.now c.pts pl).wins pl (bracketOf c.now c.pts pl).wins.length) c with
 |none=>
  rw[hr] at m2;refine am ?_;unfold L3;simp[cZ,bv,gM,m1,nR,m2,EV,pq,Fr]
 |some d=>
  rw[hr] at m2;refine am ?_;unfold L3;simp[cZ,bv,gM,m1,nR,m2,EV,nV,XK,T4]
theorem adN:Ans D 172 [CL c,F c.pts] (LC c):=by
 have hl:=h.2.1;have hE:=lA (t:=c.now) hl;have m2:=phi (Lz h hn hE);unfold iK at m2;unfold LC;cases hr:dt (edgsT (cart c.now c.pts).nodes c.pts.length) c with
 |none=>
  rw[hr] at m2;refine am ?_;unfold L4;simp[cZ,bv,gM,phi (ET hl hn h.1 (oP hl) (tS hl)),vd,m2,EV,pq,Fs]
 |some d=>
  rw[hr] at m2;refine am ?_;unfold L4;simp[cZ,bv,gM,phi (ET hl hn h.1 (oP hl) (tS hl)),vd,m2,EV,nV,XL,T5]
theorem adO:Ans D 173 [CL c,F c.pts] (LD c):=by
 have hl:=h.2.1;have hE:=lz (t:=c.now) hl;have m2:=phi (Lz h hn hE);unfold iK at m2;unfold LD;cases hr:dt (cv c.pts (cS c.now c.pts)) c with
 |none=>
  rw[hr] at m2;refine am ?_;unfold L5;simp[cZ,bv,gM,phi (ER hl hn h.1),m2,EV,pq,tW]
 |some d=>
  rw[hr] at m2;refine am ?_;unfold L5;simp[cZ,bv,gM,phi (ER hl hn h.1),m2,EV,nV,T3]
end
def Nz {l:List Pt}(h:okF l):EdgH l λt=>cv l (cS t l):=⟨λt _ _=>let q:=lz (t:=t) h;⟨q.ok,q.low,q.high⟩,λt _ _ x hx=>(eW h hx).2.2⟩
def NA {l:List Pt}(h:okF l):EdgH l λt=>edgsT (cart t l).nodes l.length:=⟨λt _ _=>let q:=lA (t:=t) h;⟨q.ok,q.low,q.high⟩,λt _ _ x hx=>(fU h hx).2.2⟩
def JX {l:List Pt}{pl:List Int}(h:okF l)(h1:1<=pl.length)(h2:pl.length<=64)(hv:∀x∈pl,dY l x)(ho:gV pl):EdgH l λt=>edsB (bracketOf t l pl).wins pl (bracketOf t l pl).wins.length:=
 ⟨λt _ _=>let q:=jN (t:=t) h h1 h2 hv ho;⟨q.ok,q.low,q.high⟩,λt _ _ x hx=>let⟨_,b2,b3⟩:=iv (t:=t) h h1 h2 hv ho;(iu (b:=bracketOf t l pl) h b2 hv b3 hx).2.2⟩
def Ft (c:Clock)(u:List Int):RF.ev .agg [CL c,sl I1 u]=some (KH ⟨c,u⟩):=rfl
def LF (x:Crt):RF.ev (.bs 1 [KP.z,KP.z] [0]) [CP x]=some (sl crow [x]):=rfl
def D9 (x:Crt):RF.ev .sub [sl crow [x],.v (.int .i64 0),.v (.int .i64 1)]=some (sl crow [x]):=rfl
def Ca (k:KHeap):RF.ev (.cell 11) [KH k]=some (sl I1 k.heap):=rfl
section
variable (k:KHeap)
def cH0:RF.ev (.cell 0) [KH k]=some (.i64 k.clock.now.num):=rfl
def cH1:RF.ev (.cell 1) [KH k]=some (.i64 k.clock.now.den):=rfl
def cH2:RF.ev (.cell 2) [KH k]=some (sl row k.clock.pts):=rfl
def cH3:RF.ev (.cell 3) [KH k]=some (.i64 k.clock.certs.next):=rfl
def cH4:RF.ev (.cell 4) [KH k]=some (sl hrow k.clock.certs.list):=rfl
def cH5:RF.ev (.cell 5) [KH k]=some (sl I1 k.clock.agenda.slots.uses):=rfl
def cH6:RF.ev (.cell 6) [KH k]=some (sl B1 k.clock.agenda.slots.used):=rfl
def cH7:RF.ev (.cell 7) [KH k]=some (sl I1 k.clock.agenda.slots.free):=rfl
def cH8:RF.ev (.cell 8) [KH k]=some (sl ct k.clock.agenda.heap):=rfl
def cH9:RF.ev (.cell 9) [KH k]=some (sl I1 k.clock.agenda.wher):=rfl
def LG:RF.ev (.cell 10) [KH k]=some (sl cR k.clock.due):=rfl
end
def Uc:RF.ev (.shape 12) [KHz]=some KHz:=rfl
def NB {N:Nat}{f:JT}{l:List Pt}{t:Rt}(hl:okF l)(hr:rok t=true)(ht:aQ t){e0 e1 e2 e4 e5 e6 e7 e8 e9 e10 e11:PV}:∀(n m:Nat) (c:Clock) (out:List Crt) (r:Option (Clock×List Crt)),n<=m->out.length+n<=1000000->Stl l c->crs c.now t<=0->adv (λt=>cv l (cS t l)) t n c out=some r->
  dW (bL D) N AK [f] [e0,e1,e2,R t,e4,e5,e6,e7,e8,e9,e10,e11] m (stC c++[sl I1 (cS c.now l),sl crow out,.i64 (out.length:Int)])=match r with
   |some (d,out')=>f (sl crow out':: .i64 (out'.length:Int)::(stC d++[sl I1 (cS d.now l)]))
   |none=>some [KHz,.sl [],.i64 18]
 |0,m,c,out,r,hm,ho,h,hp,ha=>by cases ha
 |n+1,m,c,out,r,hm,ho,h,hp,ha=>by
  obtain⟨m,rfl⟩:∃m',m=m'+1:=⟨m-1,by omega⟩;rw[bC];unfold adv at ha;cases he:er c t with
  |none=>
   rw[he] at ha;cases ha;have m1:=phi (D8 h.ok h.n64 hr ht hp (mf he));have g6:(!decide ((6:Int)=0))=true:=rfl;unfold AK;simp[stC,EV,gE,m1,pq,ir,jB,g6]
  |some e=>
   obtain⟨n1,n2,n3⟩:=dU he;obtain⟨i,x,hi,hxe,hce,hf⟩:=lO h.ok n1;obtain⟨f1,f2⟩:=iP h.ok n1 h.n64;have hpt:(di c e).pts=l:=h.pts;have hnow:(di c e).now=e.time:=rfl;have m1:=phi (Lw h.ok h.n64 hr ht hp n1 n3 hi hxe);have m2:=phi (adO f1 f2);unfold LD at m2;rw[hpt,hnow] at m2;rw[he] at ha;simp only at ha;cases hd:dt (cv l (cS e.time l)) (di c e) with
   |none=>
    rw[hd] at ha m2;cases ha;unfold AK;simp only[stC,aU,aO,EV,ay,gE,m1,cZ,ir,jB,aA,aJ,aw,ax,io,hpt,m2,Uc,g18,az,tW]
   |some d=>
    rw[hd] at ha m2;simp only at ha m2;obtain⟨s1,s2,s3⟩:=jA (Nz hl) h n1 hd;have ap:=gn (f:=crow) (l:=out) (k:=[dV c e]) (bytes:=16) (z:=2) (by simp;omega) iY;rw[hce] at ap ha;have ih:=NB (N:=N) (f:=f) (l:=l) (t:=t) hl hr ht (e0:=e0) (e1:=e1) (e2:=e2) (e4:=e4) (e5:=e5) (e6:=e6) (e7:=e7) (e8:=e8) (e9:=e9) (e10:=e10) (e11:=e11) n m d (out++[x.cert]) r (by omega) (by rw[aC,aK];omega) s1 (by rw[s2];exact n2) ha;rw[s2] at ih;simp only[stC,aU,aO] at ih;refine bV ?_ ih;unfold AK;simp only[stC,aU,aO,EV,ay,gE,m1,cZ,ir,jB,aA,aJ,aw,ax,io,hpt,m2,jG,LF,D9,ap,ai,cH0,cH1,cH2,cH3,cH4,cH5,cH6,cH7,cH8,cH9,LG,Ca,s2]
section
variable (k:Heater)
def cQ0:RF.ev (.cell 0) [HT k]=some (.i64 k.clock.now.num):=rfl
def cQ1:RF.ev (.cell 1) [HT k]=some (.i64 k.clock.now.den):=rfl
def cQ2:RF.ev (.cell 2) [HT k]=some (sl row k.clock.pts):=rfl
def cQ3:RF.ev (.cell 3) [HT k]=some (.i64 k.clock.certs.next):=rfl
def cQ4:RF.ev (.cell 4) [HT k]=some (sl hrow k.clock.certs.list):=rfl
def cQ5:RF.ev (.cell 5) [HT k]=some (sl I1 k.clock.agenda.slots.uses):=rfl
def cQ6:RF.ev (.cell 6) [HT k]=some (sl B1 k.clock.agenda.slots.used):=rfl
def cQ7:RF.ev (.cell 7) [HT k]=some (sl I1 k.clock.agenda.slots.free):=rfl
def cQ8:RF.ev (.cell 8) [HT k]=some (sl ct k.clock.agenda.heap):=rfl
def cQ9:RF.ev (.cell 9) [HT k]=some (sl I1 k.clock.agenda.wher):=rfl
def X5:RF.ev (.cell 10) [HT k]=some (sl cR k.clock.due):=rfl
def X6:RF.ev (.cell 11) [HT k]=some (.i64 k.tree.root):=rfl
def X7:RF.ev (.cell 12) [HT k]=some (sl dD k.tree.nodes):=rfl
end
section
variable (k:KTourn)
def cY0:RF.ev (.cell 0) [KT k]=some (.i64 k.clock.now.num):=rfl
def cY1:RF.ev (.cell 1) [KT k]=some (.i64 k.clock.now.den):=rfl
def cY2:RF.ev (.cell 2) [KT k]=some (sl row k.clock.pts):=rfl
def cY3:RF.ev (.cell 3) [KT k]=some (.i64 k.clock.certs.next):=rfl
def cY4:RF.ev (.cell 4) [KT k]=some (sl hrow k.clock.certs.list):=rfl
def cY5:RF.ev (.cell 5) [KT k]=some (sl I1 k.clock.agenda.slots.uses):=rfl
def cY6:RF.ev (.cell 6) [KT k]=some (sl B1 k.clock.agenda.slots.used):=rfl
def cY7:RF.ev (.cell 7) [KT k]=some (sl I1 k.clock.agenda.slots.free):=rfl
def cY8:RF.ev (.cell 8) [KT k]=some (sl ct k.clock.agenda.heap):=rfl
def cY9:RF.ev (.cell 9) [KT k]=some (sl I1 k.clock.agenda.wher):=rfl
def X8:RF.ev (.cell 10) [KT k]=some (sl cR k.clock.due):=rfl
def X9:RF.ev (.cell 11) [KT k]=some (sl I1 k.brk.places):=rfl
def Ya:RF.ev (.cell 12) [KT k]=some (sl I1 k.brk.wins):=rfl
end
def adP:RF.ev (.shape 13) [HTz]=some HTz:=rfl
def adQ:RF.ev (.shape 13) [KTz]=some KTz:=rfl
def NC {N:Nat}{f:JT}{l:List Pt}{t:Rt}(hl:okF l)(hr:rok t=true)(ht:aQ t){e0 e1 e2 e4 e5 e6 e7 e8 e9 e10 e11:PV}:∀(n m:Nat) (c:Clock) (out:List Crt) (r:Option (Clock×List Crt)),n<=m->out.length+n<=1000000->Stl l c->crs c.now t<=0->adv (λt=>edgsT (cart t l).nodes l.length) t n c out=some r->
  dW (bL D) N AJ [f] [e0,e1,e2,R t,e4,e5,e6,e7,e8,e9,e10,e11] m (stC c++[.i64 (cart c.now l).root,sl dD (cart c.now l).nodes,sl crow out,.i64 (out.length:Int)])=match r with
   |some (d,out')=>f (sl crow out':: .i64 (out'.length:Int)::(stC d++[.i64 (cart d.now l).root,sl dD (cart d.now l).nodes]))
   |none=>some [HTz,.sl [],.i64 18]
 |0,m,c,out,r,hm,ho,h,hp,ha=>by cases ha
 |n+1,m,c,out,r,hm,ho,h,hp,ha=>by
  obtain⟨m,rfl⟩:∃m',m=m'+1:=⟨m-1,by omega⟩;rw[bC];unfold adv at ha;cases he:er c t with
  |none=>
   rw[he] at ha;cases ha;have m1:=phi (D8 h.ok h.n64 hr ht hp (mf he));have g6:(!decide ((6:Int)=0))=true:=rfl;unfold AJ;simp[stC,EV,gE,m1,pq,ir,jB,g6]
  |some e=>
   obtain⟨n1,n2,n3⟩:=dU he;obtain⟨i,x,hi,hxe,hce,hf⟩:=lO h.ok n1;obtain⟨f1,f2⟩:=iP h.ok n1 h.n64;have hpt:(di c e).pts=l:=h.pts;have hnow:(di c e).now=e.time:=rfl;have m1:=phi (Lw h.ok h.n64 hr ht hp n1 n3 hi hxe);have m2:=phi (adN f1 f2);unfold LC at m2;rw[hpt,hnow] at m2;rw[he] at ha;simp only at ha;cases hd:dt (edgsT (cart e.time l).nodes l.length) (di c e) with
   |none=>
    rw[hd] at ha m2;cases ha;unfold AJ;simp only[stC,aU,aO,EV,ay,gE,m1,cZ,ir,jB,aA,aJ,aw,ax,io,hpt,m2,adP,g18,az,Fs]
   |some d=>
    rw[hd] at ha m2;simp only at ha m2;obtain⟨s1,s2,s3⟩:=jA (NA hl) h n1 hd;have ap:=gn (f:=crow) (l:=out) (k:=[dV c e]) (bytes:=16) (z:=2) (by simp;omega) iY;rw[hce] at ap ha;have ih:=NC (N:=N) (f:=f) (l:=l) (t:=t) hl hr ht (e0:=e0) (e1:=e1) (e2:=e2) (e4:=e4) (e5:=e5) (e6:=e6) (e7:=e7) (e8:=e8) (e9:=e9) (e10:=e10) (e11:=e11) n m d (out++[x.cert]) r (by omega) (by rw[aC,aK];omega) s1 (by rw[s2];exact n2) ha;rw[s2] at ih;simp only[stC,aU,aO] at ih;refine bV ?_ ih;unfold AJ;simp only[stC,aU,aO,EV,ay,gE,m1,cZ,ir,jB,aA,aJ,aw,ax,io,hpt,m2,vk,LF,D9,ap,ai,cQ0,cQ1,cQ2,cQ3,cQ4,cQ5,cQ6,cQ7,cQ8,cQ9,X5,X6,X7,s2]
def ND {N:Nat}{f:JT}{l:List Pt}{t:Rt}(hl:okF l)(hr:rok t=true)(ht:aQ t){pl:List Int}(h1:1<=pl.length)(h2:pl.length<=64)(hv:∀x∈pl,dY l x)(hoc:gV pl){e0 e1 e2 e4 e5 e6 e7 e8 e9 e10 e11:PV}:∀(n m:Nat) (c:Clock) (out:List Crt) (r:Option (Clock×List Crt)),n<=m->out.length+n<=1000000->Stl l c->crs c.now t<=0->adv (λt=>edsB (bracketOf t l pl).wins pl (bracketOf t l pl).wins.length) t n c out=some r->
  dW (bL D) N AI [f] [e0,e1,e2,R t,e4,e5,e6,e7,e8,e9,e10,e11] m (stC c++[sl I1 pl,sl I1 (bracketOf c.now l pl).wins,sl crow out,.i64 (out.length:Int)])=match r with
   |some (d,out')=>f (sl crow out':: .i64 (out'.length:Int)::(stC d++[sl I1 pl,sl I1 (bracketOf d.now l pl).wins]))
   |none=>some [KTz,.sl [],.i64 18]
 |0,m,c,out,r,hm,ho,h,hp,ha=>by cases ha
 |n+1,m,c,out,r,hm,ho,h,hp,ha=>by
  obtain⟨m,rfl⟩:∃m',m=m'+1:=⟨m-1,by omega⟩;rw[bC];unfold adv at ha;cases he:er c t with
  |none=>
   rw[he] at ha;cases ha;have m1:=phi (D8 h.ok h.n64 hr ht hp (mf he));have g6:(!decide ((6:Int)=0))=true:=rfl;unfold AI;simp[stC,EV,gE,m1,pq,ir,jB,g6]
  |some e=>
   obtain⟨n1,n2,n3⟩:=dU he;obtain⟨i,x,hi,hxe,hce,hf⟩:=lO h.ok n1;obtain⟨f1,f2⟩:=iP h.ok n1 h.n64;have hpt:(di c e).pts=l:=h.pts;have hnow:(di c e).now=e.time:=rfl;have m1:=phi (Lw h.ok h.n64 hr ht hp n1 n3 hi hxe);have m2:=phi (adM f1 f2 h1 h2 (λx hx=>by rw[hpt];exact hv x hx) hoc);unfold LA at m2;rw[hpt,hnow] at m2;rw[he] at ha;simp only at ha;cases hd:dt (edsB (bracketOf e.time l pl).wins pl (bracketOf e.time l pl).wins.length) (di c e) with
   |none=>
    rw[hd] at ha m2;cases ha;unfold AI;simp only[stC,aU,aO,EV,ay,gE,m1,cZ,ir,jB,aA,aJ,aw,ax,io,hpt,m2,adQ,g18,az,Fr]
   |some d=>
    rw[hd] at ha m2;simp only at ha m2;obtain⟨s1,s2,s3⟩:=jA (JX hl h1 h2 hv hoc) h n1 hd;have ap:=gn (f:=crow) (l:=out) (k:=[dV c e]) (bytes:=16) (z:=2) (by simp;omega) iY;rw[hce] at ap ha;have ih:=ND (N:=N) (f:=f) (l:=l) (t:=t) hl hr ht h1 h2 hv hoc (e0:=e0) (e1:=e1) (e2:=e2) (e4:=e4) (e5:=e5) (e6:=e6) (e7:=e7) (e8:=e8) (e9:=e9) (e10:=e10) (e11:=e11) n m d (out++[x.cert]) r (by omega) (by rw[aC,aK];omega) s1 (by rw[s2];exact n2) ha;rw[s2] at ih;simp only[stC,aU,aO] at ih;refine bV ?_ ih;unfold AI;simp only[stC,aU,aO,EV,ay,gE,m1,cZ,ir,jB,aA,aJ,aw,ax,io,hpt,m2,vg,LF,D9,ap,ai,cY0,cY1,cY2,cY3,cY4,cY5,cY6,cY7,cY8,cY9,X8,X9,Ya,s2];rfl
def NE (l k:List Pt):(l.flatMap λp=>k.map λq=>(p,q)).length=l.length*k.length:=by
 induction l with
 |nil=>simp
 |cons a l ih=>rw[du,aC,ai,ih,aV,b6];omega
def sL {l:List Pt}(h:okF l)(t:Rt):eI t l<5000:=by
 have h1:eI t l<=(wy l).length:=gX;have h2:(wy l).length=l.length*l.length:=NE l l;have h3:=ee h.1 h.1;omega
def fd (E:Rt->List Crt)(t:Rt)(c:Clock):Option (Clock×List Crt):=(adv E t 5000 c []).getD none
def oR {l:List Pt}{E:Rt->List Crt}(hl:okF l)(hE:EdgH l E){t:Rt}{c:Clock}(h:Stl l c):adv E t 5000 c []=some (fd E t c):=by
 obtain⟨r,hr⟩:=zY hE (t:=t) 5000 c [] h (sL hl _);unfold fd;rw[hr];rfl
def tX {l:List Pt}{E:Rt->List Crt}(hE:EdgH l E){t:Rt}:∀(n:Nat) (c:Clock) (out:List Crt) (d:Clock) (out':List Crt),Stl l c->crs c.now t<=0->adv E t n c out=some (some (d,out'))->Stl l d/\ crs d.now t<=0/\ iy d t=false/\(d=c\/∀y∈d.certs.list,y.cert∈E d.now)/\ out'.length<=out.length+n
 |0,c,out,d,out',_,_,h=>by cases h
 |n+1,c,out,d,out',h,hp,ha=>by
  unfold adv at ha;cases he:er c t with
  |none=>
   rw[he] at ha;cases ha;exact⟨h,hp,mf he,.inl rfl,by omega⟩
  |some e=>
   rw[he] at ha;simp only at ha;cases hd:dt (E e.time) (di c e) with
   |none=>rw[hd] at ha;cases ha
   |some d0=>
    rw[hd] at ha;simp only at ha;obtain⟨n1,n2,_⟩:=dU he;obtain⟨s1,s2,s3⟩:=jA hE h n1 hd;obtain⟨q1,q2,q3,q4,q5⟩:=tX hE n d0 _ d out' s1 (by rw[s2];exact n2) ha;refine⟨q1,q2,q3,.inr ?_,by rw[aC,aK] at q5;omega⟩;rcases q4 with q4|q4
    .subst q4;obtain⟨f1,f2⟩:=iP h.ok n1 h.n64;have hr:=(h.ok.2.2.2.1.2.2.1 e (au n1)).1;have hpt:(di c e).pts=l:=h.pts;rw[s2];exact pU (by rw[hpt];exact hE.ok _ hr f2) f1 f2 hd
    .exact q4
def goU (k:KHeap)(t:Rt):List PV:=match fd (λt=>cv k.clock.pts (cS t k.clock.pts)) t k.clock with
 |some (d,out)=>[KH ⟨atC d t,cS t k.clock.pts⟩,sl crow out,.i64 0]
 |none=>[KHz,.sl [],.i64 18]
def c48 {k:KHeap}{t:Rt}(hchk:Ans D 71 [KH k] [.i64 0])(h:Stl k.clock.pts k.clock)(hu:k.heap=cS k.clock.now k.clock.pts)(hr:rok t=true)(ht:aQ t)(hp:crs k.clock.now t<=0):Ans D 99 [KH k,R t] (goU k t):=by
 have hl:=h.ok.2.1;have hE:=Nz hl;have ha:=oR hl hE (t:=t) h;have m1:=phi hchk;have m2:=phi (c43 ht);rw[hr,show okE true=0 from rfl] at m2
 have m3:=phi (qe ht h.n64);rw[hr,h.ok.1] at m3;have ng:¬sgn (crs t k.clock.now)<0:=by
  have:=eS t k.clock.now;unfold sgn
  grind
 have pR0:RF.ev (.part 0 2) [KH k]=some (R k.clock.now):=rfl;have key:den (bL D) 5001 k48 [] [KH k,R t]=some (goU k t):=by
  unfold k48;simp only[ay,jG,ic,m1,m2,EV,aA,aJ,aw,ax,pR0,m3,gb,az,ng,aY,cH0,cH1,cH2,cH3,cH4,cH5,cH6,cH7,cH8,cH9,LG,Ca,hu];refine(NB (N:=5001) hl hr ht 5000 5001 k.clock [] _ (by omega) (by simp) h hp ha).trans ?_;unfold goU;cases hg:fd (λt=>cv k.clock.pts (cS t k.clock.pts)) t k.clock with
  |none=>rfl
  |some z=>
   obtain⟨d,out⟩:=z;rw[hg] at ha;obtain⟨q1,q2,q3,_,q5⟩:=tX hE 5000 k.clock [] d out h hp ha;have m4:=phi (Lx q1.ok q1.n64 hr ht q2 q3);have fp:(atC d t).pts=k.clock.pts:=q1.pts;have s0:=cp (f:=crow) (l:=out);unfold UF;simp only[stC,aU,aO,EV,ay,gE,m4,cZ,io,fp,phi (ER hl ht hr),nV,Ft,s0]
 unfold goU at key|-;cases hg:fd (λt=>cv k.clock.pts (cS t k.clock.pts)) t k.clock with
 |none=>rw[hg] at key;exact an ⟨5001,key⟩
 |some z=>rw[hg] at key;exact an ⟨5001,key⟩
def goH (k:Heater)(t:Rt):List PV:=match fd (λt=>edgsT (cart t k.clock.pts).nodes k.clock.pts.length) t k.clock with
 |some (d,out)=>[HT ⟨atC d t,cart t k.clock.pts⟩,sl crow out,.i64 0]
 |none=>[HTz,.sl [],.i64 18]
def adR (x:Tree):RF.ev (.shape 2) [TR x]=some (TR x):=rfl
def c47 {k:Heater}{t:Rt}(hchk:Ans D 70 [HT k] [.i64 0])(h:Stl k.clock.pts k.clock)(hu:k.tree=cart k.clock.now k.clock.pts)(hr:rok t=true)(ht:aQ t)(hp:crs k.clock.now t<=0):Ans D 98 [HT k,R t] (goH k t):=by
 have hl:=h.ok.2.1;have hE:=NA hl;have ha:=oR hl hE (t:=t) h;have m1:=phi hchk;have m2:=phi (c43 ht);rw[hr,show okE true=0 from rfl] at m2
 have m3:=phi (qe ht h.n64);rw[hr,h.ok.1] at m3;have ng:¬sgn (crs t k.clock.now)<0:=by
  have:=eS t k.clock.now;unfold sgn
  grind
 have pR0:RF.ev (.part 0 2) [HT k]=some (R k.clock.now):=rfl;have key:den (bL D) 5001 k47 [] [HT k,R t]=some (goH k t):=by
  unfold k47;simp only[ay,vk,ic,m1,m2,EV,aA,aJ,aw,ax,pR0,m3,gb,az,ng,aY,cQ0,cQ1,cQ2,cQ3,cQ4,cQ5,cQ6,cQ7,cQ8,cQ9,X5,X6,X7,hu];refine(NC (N:=5001) hl hr ht 5000 5001 k.clock [] _ (by omega) (by simp) h hp ha).trans ?_;unfold goH;cases hg:fd (λt=>edgsT (cart t k.clock.pts).nodes k.clock.pts.length) t k.clock with
  |none=>rfl
  |some z=>
   obtain⟨d,out⟩:=z;rw[hg] at ha;obtain⟨q1,q2,q3,_,q5⟩:=tX hE 5000 k.clock [] d out h hp ha;have m4:=phi (Lx q1.ok q1.n64 hr ht q2 q3);have fp:(atC d t).pts=k.clock.pts:=q1.pts;have s0:=cp (f:=crow) (l:=out);unfold UE;simp only[stC,aU,aO,EV,ay,gE,m4,cZ,io,fp,phi (ET hl ht hr (oP hl) (tS hl)),adR,XL,nV,T5,s0]
 unfold goH at key|-;cases hg:fd (λt=>edgsT (cart t k.clock.pts).nodes k.clock.pts.length) t k.clock with
 |none=>rw[hg] at key;exact an ⟨5001,key⟩
 |some z=>rw[hg] at key;exact an ⟨5001,key⟩
def adS (x:Brk):RF.ev (.shape 2) [BR x]=some (BR x):=rfl
def edT (l:List Pt)(pl:List Int)(t:Rt):List Crt:=edsB (bracketOf t l pl).wins pl (bracketOf t l pl).wins.length
def goT (k:KTourn)(t:Rt):List PV:=match fd (edT k.clock.pts k.brk.places) t k.clock with
 |some (d,out)=>[KT ⟨atC d t,bracketOf t k.clock.pts k.brk.places⟩,sl crow out,.i64 0]
 |none=>[KTz,.sl [],.i64 18]
section
variable {k:KTourn}{t:Rt}(h:Stl k.clock.pts k.clock)(hu:k.brk=bracketOf k.clock.now k.clock.pts k.brk.places)(h1:1<=k.brk.places.length)(h2:k.brk.places.length<=64)(hv:∀x∈k.brk.places,dY k.clock.pts x)(ho:gV k.brk.places)(hr:rok t=true)(ht:aQ t)(hp:crs k.clock.now t<=0)
include h hu h1 h2 hv ho hr ht hp
theorem c46 (hchk:Ans D 69 [KT k] [.i64 0]):Ans D 97 [KT k,R t] (goT k t):=by
 have hl:=h.ok.2.1;have hE:=JX hl h1 h2 hv ho;have ha:=oR hl hE (t:=t) h;have m1:=phi hchk;have m2:=phi (c43 ht);rw[hr,show okE true=0 from rfl] at m2
 have m3:=phi (qe ht h.n64);rw[hr,h.ok.1] at m3;have ng:¬sgn (crs t k.clock.now)<0:=by
  have:=eS t k.clock.now;unfold sgn
  grind
 have pR0:RF.ev (.part 0 2) [KT k]=some (R k.clock.now):=rfl;have hw:k.brk.wins=(bracketOf k.clock.now k.clock.pts k.brk.places).wins:=aW Brk.wins hu;have key:den (bL D) 5001 k46 [] [KT k,R t]=some (goT k t):=by
  unfold k46;simp only[ay,vg,ic,m1,m2,EV,aA,aJ,aw,ax,pR0,m3,gb,az,ng,aY,cY0,cY1,cY2,cY3,cY4,cY5,cY6,cY7,cY8,cY9,X8,X9,Ya];rw[hw];refine(ND (N:=5001) hl hr ht h1 h2 hv ho 5000 5001 k.clock [] _ (by omega) (by simp) h hp ha).trans ?_;unfold goT;have e:edT k.clock.pts k.brk.places=λt=>edsB (bracketOf t k.clock.pts k.brk.places).wins k.brk.places (bracketOf t k.clock.pts k.brk.places).wins.length:=rfl;rw[e];cases hg:fd (λt=>edsB (bracketOf t k.clock.pts k.brk.places).wins k.brk.places (bracketOf t k.clock.pts k.brk.places).wins.length) t k.clock with
  |none=>rfl
  |some z=>
   obtain⟨d,out⟩:=z;rw[hg] at ha;obtain⟨q1,q2,q3,_,q5⟩:=tX hE 5000 k.clock [] d out h hp ha;have m4:=phi (Lx q1.ok q1.n64 hr ht q2 q3);have fp:(atC d t).pts=k.clock.pts:=q1.pts;have s0:=cp (f:=crow) (l:=out);have m6:bL D 159 [F k.clock.pts,R t,sl I1 k.brk.places]=some [BR (bracketOf t k.clock.pts k.brk.places),sl crow (edsB (bracketOf t k.clock.pts k.brk.places).wins k.brk.places (bracketOf t k.clock.pts k.brk.places).wins.length)]:=phi (Lk hl ht hr h1 h2 hv ho rfl);unfold UD;simp only[stC,aU,aO,EV,ay,gE,m4,cZ,io,fp,m6,adS,XK,nV,T4,s0]
 unfold goT at key|-;cases hg:fd (edT k.clock.pts k.brk.places) t k.clock with
 |none=>rw[hg] at key;exact an ⟨5001,key⟩
 |some z=>rw[hg] at key;exact an ⟨5001,key⟩
end
def Ud {l:List Int}(hn:l.Nodup){m:Nat}{v:Int}(h:l[m]?=some v):qd (λy=>decide (v=y)) l=(m:Int):=by
 have:l.findIdx? (λy=>decide (v=y))=some m:=by
  obtain⟨h1,h2⟩:=aD.1 h;rw[bU];refine⟨h1,by rw[h2];simp,λj hj e=>?_⟩;simp at e;have:=dN.1 hn j m v (by rw[ah (Nat.lt_trans hj h1),e]) h;omega
 unfold qd;rw[this];rfl
def adT {k:KHeap}{t:Rt}(h:bD k.clock)(hn:aQ k.clock.now)(hr:rok t=true)(ht:aQ t)(hp:crs k.clock.now t<=0)(hw:iy k.clock t=false):Ans D 194 [KH k,R t] [KHz,CP C0,.i64 6]:=by
 have m1:=phi (D8 h hn hr ht hp hw);have g6:(!decide ((6:Int)=0))=true:=rfl;refine am ?_;unfold L6;simp[jG,ic,pKH,m1,pq,ir,jB,EV,tW,Ua]
def KHe (u:List Int):PV:= .agg [.i64 0,.i64 0,.sl [],.i64 0,.sl [],.sl [],.sl [],.sl [],.sl [],.sl [],.sl [],sl I1 u]
def Yb (u:List Int):RF.ev .agg [CLz,sl I1 u]=some (KHe u):=rfl
def evH (c:Clock)(e:Evt)(x:Crt)(hp:List Int):List PV:=match dt (cX hp) (di c e) with
 |some d=>[KH ⟨d,hp⟩,CP x,.i64 0]
 |none=>[KHe hp,CP x,.i64 18]
def ag8 {k:KHeap}{t:Rt}(h:bD k.clock)(hn:aQ k.clock.now)(hr:rok t=true)(ht:aQ t)(hp:crs k.clock.now t<=0){e:Evt}(he:k.clock.agenda.heap[0]?=some e)(hw:iy k.clock t=true){i:Nat}{x:Held}(hx:k.clock.certs.list[i]?=some x)(hxe:x.number=e.number)
  (hnd:k.heap.Nodup) (hl:k.heap.length<=64) {n m:Nat} (hnm:n<m) (ha:k.heap[n]?=some x.cert.high) (hb:k.heap[m]?=some x.cert.low) (hE:EdgF k.clock.pts (cX (fq k.heap n m x.cert.high x.cert.low))):Ans D 194 [KH k,R t] (evH k.clock e x.cert (fq k.heap n m x.cert.high x.cert.low)):=by
 have m1:=phi (Lw h hn hr ht hp he hw hx hxe);obtain⟨f1,f2⟩:=iP h he hn;have hlen:(fq k.heap n m x.cert.high x.cert.low).length=k.heap.length:=by unfold fq;rw[ba,ba]
 have hle:(cX (fq k.heap n m x.cert.high x.cert.low)).length<=1000:=by unfold cX;rw[kx];omega
 have m2:=phi (Ub f1 f2 (es:=cX (fq k.heap n m x.cert.high x.cert.low)) hE hle);have m3:=phi (Rk (l:=fq k.heap n m x.cert.high x.cert.low) (by omega));have m4:=phi (qg (l:=k.heap) (by omega));have i1:=phi (Ri (l:=k.heap) x.cert.low (by omega));have i2:=phi (Ri (l:=k.heap) x.cert.high (by omega));rw[Ud hnd hb] at i1;rw[Ud hnd ha] at i2;have hnl:=bu ha;have hml:=bu hb;have s0:=cp (f:=I1) (l:=k.heap);have s1:=iI (l:=k.heap) hml x.cert.high;have s2:=iI (l:=k.heap.set m x.cert.high) (i:=n) (by rw[ba];exact hnl) x.cert.low;have sw:(k.heap.set m x.cert.high).set n x.cert.low=fq k.heap n m x.cert.high x.cert.low:=by unfold fq;rw[qp _ _ (by omega)]
 rw[sw] at s2;have s3:=cp (f:=I1) (l:=fq k.heap n m x.cert.high x.cert.low);rw[hlen] at s3;have fp:(di k.clock e).pts=k.clock.pts:=rfl;have pz:RF.ev (.part 0 11) [CLz]=some CLz:=rfl;unfold iK at m2;rw[fp] at m2;unfold evH;cases hq:dt (cX (fq k.heap n m x.cert.high x.cert.low)) (di k.clock e) with
 |none=>
  rw[hq] at m2;refine am ?_;unfold L6;simp only[ay,jG,ic,pKH,m1,cZ,ir,jB,EV,aA,aJ,aw,ax,Ca,m4,ai,s0,jQ,jR,i1,i2,ixM hnl,ixM hml,aM ha,aM hb,cQ,s1,s2,io,fp,s3,m3,m2,pq,pz,Yb]
 |some d=>
  rw[hq] at m2;refine am ?_;unfold L6;simp only[ay,jG,ic,pKH,m1,cZ,ir,jB,EV,aA,aJ,aw,ax,Ca,m4,ai,s0,jQ,jR,i1,i2,ixM hnl,ixM hml,aM ha,aM hb,cQ,s1,s2,io,fp,s3,m3,m2,nV,Ft]
def Cb (c:Clock)(u:List Int):RF.ev .agg [.i64 c.now.num,.i64 c.now.den,sl row c.pts,.i64 c.certs.next,sl hrow c.certs.list,sl I1 c.agenda.slots.uses,sl B1 c.agenda.slots.used,sl I1 c.agenda.slots.free,sl ct c.agenda.heap,sl I1 c.agenda.wher,sl cR c.due,sl I1 u]=some (KH ⟨c,u⟩):=rfl
def adU (u:List Int):RF.ev (.shape 12) [KHe u]=some (KHe u):=rfl
def NF {N:Nat}{f:JT}{l:List Pt}{t:Rt}(hl:okF l)(hr:rok t=true)(ht:aQ t){e0 e1 e2 e4 e5 e6 e7 e8 e9 e10 e11:PV}:∀(n m:Nat) (c:Clock) (hp:List Int) (out:List Crt) (r:Option (Clock×List Int×List Crt)),n<=m->out.length+n<=100000000->HStl l c hp->crs c.now t<=0->oo t n c hp out=some r->
  dW (bL D) N AH [f] [e0,e1,e2,R t,e4,e5,e6,e7,e8,e9,e10,e11] m (stC c++[sl I1 hp,sl crow out,.i64 (out.length:Int)])=match r with
   |some (d,hq,out')=>f (sl crow out':: .i64 (out'.length:Int)::(stC d++[sl I1 hq]))
   |none=>some [KHz,.sl [],.i64 18]
 |0,m,c,hp,out,r,hm,ho,h,hp0,ha=>by cases ha
 |n+1,m,c,hp,out,r,hm,ho,h,hp0,ha=>by
  obtain⟨m,rfl⟩:∃m',m=m'+1:=⟨m-1,by omega⟩;rw[bC];unfold oo at ha;have n6:decide ((0:Int)=6)=false:=rfl;have n18:decide ((18:Int)=6)=false:=rfl;have y6:decide ((6:Int)=6)=true:=rfl;cases he:er c t with
  |none=>
   rw[he] at ha;cases ha;have m1:=phi (adT (k:=⟨c,hp⟩) h.ok h.n64 hr ht hp0 (mf he));unfold AH;simp[stC,EV,Cb,m1,Uc,jB,y6]
  |some e=>
   obtain⟨n1,n2,n3⟩:=dU he;obtain⟨i,x,hi,hxe,hce,hf⟩:=lO h.ok n1;obtain⟨p,q,q1,q2,q3,q4⟩:=wB h n1;have h64:hp.length<=64:=by rw[h.len];exact hl.1
   rw[he] at ha;simp only at ha;rw[q4] at ha;rw[hce] at q2 q3 ha;have pm:=BK q2 q3;have nd:=pm.nodup_iff.2 h.nd;have hE:EdgF c.pts (cX (fq hp p q x.cert.high x.cert.low)):=by rw[h.pts];exact QQ hl nd λy hy=>h.inl y (pm.mem_iff.1 hy)
   have m1:=phi (ag8 (k:=⟨c,hp⟩) h.ok h.n64 hr ht hp0 n1 n3 hi hxe h.nd h64 q1 q2 q3 hE);unfold evH at m1;simp only at m1;cases hd:dt (cX (fq hp p q x.cert.high x.cert.low)) (di c e) with
   |none=>
    rw[hd] at ha m1;cases ha;simp only at m1;unfold AH;simp only[stC,aU,aO,EV,ay,Cb,m1,adU,jB,n18,aw,ax,g18,az,tW]
   |some d=>
    rw[hd] at ha m1;simp only at ha m1;obtain⟨t1,t2,t3⟩:=yc hl h n1 q1 (by rw[hce];exact q2) (by rw[hce];exact q3) (by rw[hce];exact hd);rw[hce] at t1;have ap:=gn (f:=crow) (l:=out) (k:=[x.cert]) (bytes:=16) (z:=2) (by simp;omega) iY;have ih:=NF (N:=N) (f:=f) (l:=l) (t:=t) hl hr ht (e0:=e0) (e1:=e1) (e2:=e2) (e4:=e4) (e5:=e5) (e6:=e6) (e7:=e7) (e8:=e8) (e9:=e9) (e10:=e10) (e11:=e11) n m d (fq hp p q x.cert.high x.cert.low) (out++[x.cert]) r (by omega) (by rw[aC,aK];omega) t1 (by rw[t2];exact n2) ha;simp only[stC,aU,aO] at ih;refine bV ?_ ih;unfold AH;simp only[stC,aU,aO,EV,ay,Cb,m1,jG,jB,n6,aA,aJ,aw,ax,LF,D9,ap,ai,cH0,cH1,cH2,cH3,cH4,cH5,cH6,cH7,cH8,cH9,LG,Ca]
def qh (t:Rt)(c:Clock)(hp:List Int):Option (Clock×List Int×List Crt):=(oo t 30000000 c hp []).getD none
def Vo {l:List Pt}(hl:okF l){t:Rt}{c:Clock}{hp:List Int}(h:HStl l c hp):oo t 30000000 c hp []=some (qh t c hp):=by
 obtain⟨r,hr⟩:=DL hl (t:=t) 30000000 c hp [] h (QS hl h.len (sL hl _));unfold qh;rw[hr];rfl
def goK (k:KHeap)(t:Rt):List PV:=match qh t k.clock k.heap with
 |some (d,hq,out)=>[KH ⟨atC d t,hq⟩,sl crow out,.i64 0]
 |none=>[KHz,.sl [],.i64 18]
def c45 {k:KHeap}{t:Rt}(hchk:Ans D 68 [KH k] [.i64 0])(h:HStl k.clock.pts k.clock k.heap)(hr:rok t=true)(ht:aQ t)(hp:crs k.clock.now t<=0):Ans D 96 [KH k,R t] (goK k t):=by
 have hl:=h.ok.2.1;have ha:=Vo hl (t:=t) h;have m1:=phi hchk;have m2:=phi (c43 ht);rw[hr,show okE true=0 from rfl] at m2
 have m3:=phi (qe ht h.n64);rw[hr,h.ok.1] at m3;have ng:¬sgn (crs t k.clock.now)<0:=by
  have:=eS t k.clock.now;unfold sgn
  grind
 have pR0:RF.ev (.part 0 2) [KH k]=some (R k.clock.now):=rfl;have key:den (bL D) 30000001 k45 [] [KH k,R t]=some (goK k t):=by
  unfold k45;simp only[ay,jG,ic,m1,m2,EV,aA,aJ,aw,ax,pR0,m3,gb,az,ng,aY,cH0,cH1,cH2,cH3,cH4,cH5,cH6,cH7,cH8,cH9,LG,Ca];refine(NF (N:=30000001) hl hr ht 30000000 30000001 k.clock k.heap [] _ (by omega) (by simp) h hp ha).trans ?_;unfold goK;cases hg:qh t k.clock k.heap with
  |none=>rfl
  |some z=>
   obtain⟨d,hq,out⟩:=z;rw[hg] at ha;obtain⟨q1,q2,q3,q5⟩:=I8 hl 30000000 k.clock k.heap [] d hq out h hp ha;have m4:=phi (Lx q1.ok q1.n64 hr ht q2 q3);have m5:=phi (qg (l:=hq) (by rw[q1.len];have:=hl.1;omega));have s0:=cp (f:=crow) (l:=out);have s1:=cp (f:=I1) (l:=hq);unfold UC;simp only[stC,aU,aO,EV,ay,gE,m4,cZ,m5,ai,nV,s1,Ft,s0]
 unfold goK at key|-;cases hg:qh t k.clock k.heap with
 |none=>rw[hg] at key;exact an ⟨30000001,key⟩
 |some z=>rw[hg] at key;exact an ⟨30000001,key⟩
def qV {α:Type}[DecidableEq α]:∀{l k:List α},l.Nodup->(∀x∈l,x∈k)->l.length<=k.length
 |[],k,_,_=>cV _
 |a::l,k,hn,hs=>by
  rw[b5] at hn;have ha:=hs a (bR ..);have:=qV (k:=k.erase a) hn.2 λx hx=>(kf (a:=x) (b:=a) λe=>hn.1 (by rw[<-e];exact hx)).2 (hs x (aN _ hx));rw[se ha] at this;have:=List.length_pos_of_mem ha;rw[aV];omega
def RI {c:Clock}(h:bD c){es:List Crt}(hs:∀y∈c.certs.list,y.cert∈es):c.certs.list.length<=es.length:=by
 have hp:=(lN.1 h.2.2.1).2.2.2.2;have:(c.certs.list.map (·.cert)).Nodup:=f9.2 (hp.imp λh=>h.2);have:=qV this (k:=es) (by grind);rwa [ai] at this
structure Usd (k:Nat)(c:Clock):Prop where
 next:c.certs.next<=k
 uses:∀u∈c.agenda.slots.uses,u<=k
def Usd.le {k m:Nat}{c:Clock}(h:Usd k c)(hk:k<=m):Usd m c:=⟨by have:=h.next;omega,λu hu=>by have:=h.uses u hu;omega⟩
def RJ {c:Clock}{k:Nat}{x:Crt}(h:bD c)(s:Usd k c)(hk:k<1000000)(hl:c.certs.list.length<200):¬nc c x:=by
 obtain⟨h1,h2,h3,h4,h5,h6,h7,h8⟩:=iF.1 h;have hd:=QI h8;have hf:=fO (λx=>(fT c x.cert).2) c.certs.list;have hp:=h4.2.1;have hp1:=hp.1;have hp2:=hp.2.1;have:=s.next;rintro((q|q)|⟨_,q⟩)
 .omega
 .omega
 .rcases free_last (okR_fine.1 h4.1) with e|⟨fr,i,u,e,hu,_⟩
  .rw[e] at hp2;simp at hp2;omega
  .rw[rz e hu] at q;have:=s.uses u (au hu);simp at q;omega
def Yc {k:Nat}{l:List Int}{i:Nat}(h:∀u∈l,u<=(k:Int)):∀u∈l.set i ((l[i]?).getD 0+1),u<=((k+1:Nat):Int):=λu hu=>by
 rcases dp hu with q|rfl
 .have:=h u q;omega
 .cases e:l[i]? with
  |none=>simp;omega
  |some v=>have:=h v (au e);simp;omega
def ag9 {k:Nat}{c:Clock}{x:Crt}(h:Usd k c):Usd (k+1) (j8 c x):=by
 have hn:(c.certs.next+1:Int)<=((k+1:Nat):Int):=by have:=h.next;omega
 unfold j8;split
 .exact⟨hn,Yc h.uses⟩
 .exact⟨hn,λu hu=>by have:=h.uses u hu;omega⟩
def aha {k:Nat}{c:Clock}{x:Crt}(h:Usd k c):Usd (k+1) (fV c x):=by
 have hn:(c.certs.next+1:Int)<=((k+1:Nat):Int):=by have:=h.next;omega
 unfold fV;split
 .refine⟨hn,λu hu=>?_⟩;rcases dp (show u∈c.agenda.slots.uses.set (frI c) (0+1) from hu) with q|rfl
  .have:=h.uses u q;omega
  .omega
 .exact⟨hn,λu hu=>by have:=h.uses u hu;omega⟩
def NG {l:List Pt}{t:Rt}:∀(es:List Crt) {c:Clock} {k:Nat},Usd k c->Usd (k+es.length) (certAll c es)
 |[],c,k,h=>h
 |x::xs,c,k,h=>by
  have:=NG (l:=l) (t:=t) xs (aha (x:=x) h);rw[aV,show k+(xs.length+1)=k+1+xs.length by omega]
  exact this
def Yd {l:List Pt}{t:Rt}(es:List Crt):Usd es.length (certAll (newC l t) es):=by
 have:Usd 0 (newC l t):=⟨pB _,λu hu=>by
  have hu:u∈List.replicate 200 (0:Int):=hu;rw[List.eq_of_mem_replicate hu];exact pB _⟩
 have:=NG (l:=l) (t:=t) es this;rwa [cj] at this
def NH (a:Agenda)(i j:Nat):(ql a i j).slots.uses=a.slots.uses:=by
 unfold ql;split
 .split<;>rfl
 .rfl
def JY {k:Nat}{c:Clock}(h:Usd k c)(n:Int):Usd k (gD c n):=by
 refine⟨h.next,λu hu=>h.uses u ?_⟩;have hu:u∈(kX c n).slots.uses:=hu;unfold kX at hu;split at hu
 .rw[NH] at hu;exact hu
 .exact hu
def zz {k:Nat}{es:List Crt}:∀(l:List Held) {c:Clock},Usd k c->Usd k (dropL es l c)
 |[],c,h=>h
 |x::l,c,h=>by
  have e:dropL es (x::l) c=dropL es l (if x.cert∈es then c else gD c x.number):=rfl
  rw[e];split
  .exact zz l h
  .exact zz l (JY h _)
def xh {l:List Pt}{fs:List Crt}(hf:fs.length<200):∀{es:List Crt} {c:Clock} {k:Nat},EdgF l es->(∀x∈es,x∈fs)->bD c->aQ c.now->c.pts=l->(∀y∈c.certs.list,y.cert∈fs)->Usd k c->k+es.length<=1000000->∃d,addL es c=some d/\ Usd (k+es.length) d
 |[],c,k,_,_,_,_,_,_,s,_=>⟨c,rfl,s⟩
 |x::xs,c,k,hE,hs,h,hn,hp,hc,s,hk=>by
  have hE':EdgF l xs:=⟨λy hy=>hE.ok y (aN _ hy),λy hy=>hE.low y (aN _ hy),λy hy=>hE.high y (aN _ hy)⟩;have hs':=λy hy=>hs y (aN _ hy);rw[aV] at hk|-;unfold addL;by_cases h1:(c.certs.list.any λh=>decide (h.cert=x))=true
  .rw[ad h1];obtain⟨d,q1,q2⟩:=xh hf hE' hs' h hn hp hc s (by omega);exact⟨d,q1,q2.le (by omega)⟩
  .rw[ac h1];have h2:¬nc c x:=RJ h s (by omega) (by have:=RI h hc;omega);rw[ac h2];obtain⟨g1,g2,g3,g4⟩:=rW (x8 hE h hp (bR ..) (by simpa using h1)) hn h2
   obtain⟨d,q1,q2⟩:=xh hf hE' hs' g1 (by rw[g4];exact hn) (g3.trans hp) (λy hy=>by
    rw[g2] at hy;unfold lx at hy;rcases bS.1 hy with q|q
    .exact hc y q
    .rw[b8] at q;subst q;exact hs x (bR ..)) (ag9 (x:=x) s) (by omega)
   exact⟨d,q1,q2.le (by omega)⟩
def LH {c:Clock}{es:List Crt}{k:Nat}(hE:EdgF c.pts es)(h:bD c)(hn:aQ c.now)(s:Usd k c)(hf:es.length<200)(hk:k+es.length<=1000000):∃d,dt es c=some d/\ Usd (k+es.length) d:=by
 obtain⟨q1,_,_⟩:=fX es c.certs.list c h;exact xh (l:=c.pts) hf hE (λ_ h=>h) q1.ok (by rw[q1.now];exact hn) q1.pts (DK h) (zz _ s) hk
def Vp {k:Nat}{c:Clock}(h:Usd k c)(e:Evt):Usd k (di c e):=by
 obtain⟨h1,h2⟩:=JY h e.number;exact⟨h1,h2⟩
def Fu {l:List Pt}{E:Rt->List Crt}(hE:EdgH l E)(hn:∀t,(E t).length<=64){t:Rt}(hr:rok t=true):∀(n:Nat) (c:Clock) (out:List Crt) (k:Nat),Stl l c->crs c.now t<=0->Usd k c->k+64*eI c.now l<=1000000->eI c.now l<n->
  ∃d out',adv E t n c out=some (some (d,out'))/\ out'.length+eI t l<=out.length+eI c.now l
 |0,c,out,k,_,_,_,_,h=>by omega
 |n+1,c,out,k,h,hp,s,hk,hf=>by
  unfold adv;cases he:er c t with
  |none=>exact⟨c,out,rfl,by have:=I0 (l:=l) h.ok.1 hr hp;omega⟩
  |some e=>
   simp only;obtain⟨n1,n2,_⟩:=dU he;obtain⟨f1,f2⟩:=iP h.ok n1 h.n64;have hre:=(h.ok.2.2.2.1.2.2.1 e (au n1)).1;have hpt:(di c e).pts=l:=h.pts;have hl:=hn e.time;obtain⟨i,x,hi,_,_,hfx⟩:=lO h.ok n1;have hlt:=I2 h.ok (au n1) (au hi) hfx (h.holds x (au hi));rw[h.pts] at hlt;obtain⟨d,hd,sd⟩:=LH (es:=E e.time) (by rw[hpt];exact hE.ok _ hre f2) f1 f2 (Vp s e) (by omega) (by omega);rw[hd];obtain⟨s1,s2,s3⟩:=jA hE h n1 hd;rw[s2] at s3;obtain⟨d',out',q1,q2⟩:=Fu hE hn hr n d (out++[dV c e]) (k+(E e.time).length) s1 (by rw[s2];exact n2) sd (by rw[s2];omega) (by rw[s2];omega);refine⟨d',out',q1,?_⟩;rw[aC,aK,s2] at q2;omega
structure Dst (l:List Pt)(a b:Rt):Prop where
 apart:∀p∈l,∀q∈l,p.a=q.a->p.b=q.b->p=q
 alone:∀p∈l,∀q∈l,∀u∈l,∀v∈l,∀s:Rt,rok s=true->crs a s<0->crs s b<=0->p.b<q.b->far s p q=0->u.b<v.b->far s u v=0->p=u/\ q=v
def yA (s:Rt)(p q r:Pt):far s p r=far s p q+far s q r:=by
 unfold far
 grind
structure HGood (l:List Pt)(c:Clock)(hp:List Int):Prop where
 st:HStl l c hp
 has:∀x∈cX hp,∃y∈c.certs.list,y.cert=x
 holds:∀y∈c.certs.list,Holds c y.cert
def vF {E:Rt->List Crt}{t:Rt}:∀{n:Nat} {c:Clock} {out:List Crt} {m:Nat} {r:Option (Clock×List Crt)},adv E t n c out=some r->n<=m->adv E t m c out=some r
 |0,c,out,m,r,h,_=>by cases h
 |n+1,c,out,0,r,h,hm=>by omega
 |n+1,c,out,m+1,r,h,hm=>by
  unfold adv at h|-;cases he:er c t with
  |none=>rw[he] at h;exact h
  |some e=>
   rw[he] at h;simp only at h|-;cases hd:dt (E e.time) (di c e) with
   |none=>rw[hd] at h;exact h
   |some d=>
    rw[hd] at h;exact vF (n:=n) h (by omega)
def RK {E:Rt->List Crt}{t:Rt}{n m:Nat}{c:Clock}{out:List Crt}{r r':Option (Clock×List Crt)}(h:adv E t n c out=some r)(h':adv E t m c out=some r'):r=r':=by
 have h1:=vF (m:=n+m) h (by omega);rw[vF (m:=n+m) h' (by omega)] at h1;exact(k9 h1).symm
def tY {a b c:Rt}(ha:rok a=true)(hb:rok b=true)(hc:rok c=true)(h1:crs a b<=0)(h2:crs b c<=0):crs a c<=0:=
 (tT (a:=a) (b:=b) (c:=c) (by have:=eJ ha;omega) (by have:=eJ hb;omega) (by have:=eJ hc;omega) h1 h2).1
def JZ {l:List Pt}{E:Rt->List Crt}(hE:EdgH l E){s t:Rt}(hs:rok s=true)(ht:rok t=true)(hst:crs s t<=0):∀(n:Nat) (c:Clock) (out:List Crt) (d:Clock) (out':List Crt) (m:Nat) (r:Option (Clock×List Crt)),Stl l c->adv E s n c out=some (some (d,out'))->adv E t m d out'=some r->adv E t (n+m) c out=some r
 |0,c,out,d,out',m,r,_,h,_=>by cases h
 |n+1,c,out,d,out',m,r,hS,h,h'=>by
  unfold adv at h;cases he:er c s with
  |none=>
   rw[he] at h;cases h;exact vF h' (by omega)
  |some e=>
   rw[he] at h;simp only at h;obtain⟨n1,n2,_⟩:=dU he;have hre:=(hS.ok.2.2.2.1.2.2.1 e (au n1)).1;have he':er c t=some e:=by
    unfold er;rw[n1];simp only;rw[ad (tY hre hs ht n2 hst)]
   cases hd:dt (E e.time) (di c e) with
   |none=>rw[hd] at h;cases h
   |some d0=>
    rw[hd] at h;simp only at h;obtain⟨s1,_,_⟩:=jA hE hS n1 hd;rw[show n+1+m=(n+m)+1 by omega]
    unfold adv;rw[he'];simp only;rw[hd];exact JZ hE hs ht hst n d0 _ d out' m r s1 h h'
structure Alike (l:List Pt)(c c':Clock):Prop where
 st:Stl l c
 st':Stl l c'
 to:∀y∈c.certs.list,∃y'∈c'.certs.list,y'.cert=y.cert
 of:∀y'∈c'.certs.list,∃y∈c.certs.list,y.cert=y'.cert
 ft:∀y∈c.certs.list,fT c' y.cert=fT c y.cert
def Ue {c:Clock}(h:bD c){y:Held}(hy:y∈c.certs.list)(hf:(fT c y.cert).2=true):∃e∈c.agenda.heap,e.time=(fT c y.cert).1:=by
 have h8:=(iF.1 h).2.2.2.2.2.2.2;have ev:∀{xs:List Due} {ys:List Held},F2 (wq c) xs ys->∀y∈ys,∃e∈c.agenda.heap,e.time=(fT c y.cert).1:=by
  intro xs ys k;induction k with
  |nil=>intro y hy;cases hy
  |cons r t ih=>
   intro y hy;rcases bh.1 hy with e|hy
   .rw[e];exact⟨_,r.2,rfl⟩
   .exact ih y hy
 exact ev h8 y (bx.2 ⟨hy,hf⟩)
def Fv {c c':Clock}(h:bD c)(h':bD c')(to:∀y∈c.certs.list,∃y'∈c'.certs.list,y'.cert=y.cert)(ft:∀y∈c.certs.list,fT c' y.cert=fT c y.cert){e:Evt}(he:c.agenda.heap[0]?=some e):∃e',c'.agenda.heap[0]?=some e'/\ crs e'.time e.time<=0:=by
 obtain⟨x,hx,_,hf⟩:=Es h (au he);obtain⟨x',hx',hc⟩:=to x hx;have f:=ft x hx;rw[hf,<-hc] at f;obtain⟨e',he',ht⟩:=Ue h' hx' (by rw[f]);rw[f] at ht;obtain⟨i,hi⟩:=aI.1 he';have h0:c'.agenda.heap[0]?=some (c'.agenda.heap[0]'(by have:=bu hi;omega)):=ah _;have:=ww h'.2.2.2.1 h0 he';rw[ht] at this;exact⟨_,h0,this⟩
def Alike.symm {l:List Pt}{c c':Clock}(h:Alike l c c'):Alike l c' c:=⟨h.st',h.st,h.of,h.to,λy hy=>by
 obtain⟨x,hx,hc⟩:=h.of y hy;rw[<-hc];exact(h.ft x hx).symm⟩
def Alike.first {l:List Pt}{c c':Clock}(h:Alike l c c'){e:Evt}(he:c.agenda.heap[0]?=some e):∃e',c'.agenda.heap[0]?=some e'/\ e'.time=e.time:=by
 obtain⟨e',h1,h2⟩:=Fv h.st.ok h.st'.ok h.to h.ft he;obtain⟨e2,h3,h4⟩:=Fv h.st'.ok h.st.ok h.symm.to h.symm.ft h1;rw[he] at h3;cases h3;have r1:=(h.st.ok.2.2.2.1.2.2.1 e (au he)).1;have r2:=(h.st'.ok.2.2.2.1.2.2.1 e' (au h1)).1;have:=eS e.time e'.time;exact⟨e',h1,BI r2 r1 (by omega)⟩
def Alike.next {l:List Pt}{c c':Clock}(h:Alike l c c'){t:Rt}:(er c t=none/\ er c' t=none)\/∃e e',er c t=some e/\ er c' t=some e'/\ e'.time=e.time:=by
 have key:∀{c c':Clock},Alike l c c'->∀e,er c t=some e->∃e',er c' t=some e'/\ e'.time=e.time:=λ{c c'} h e he=>by
  obtain⟨n1,n2,_⟩:=dU he;obtain⟨e',h1,h2⟩:=h.first n1;refine⟨e',?_,h2⟩;unfold er;rw[h1];simp only;rw[h2,ad n2]
 cases he:er c t with
 |some e=>obtain⟨e',h1,h2⟩:=key h e he;exact .inr ⟨e,e',rfl,h1,h2⟩
 |none=>
  cases he':er c' t with
  |none=>exact .inl ⟨rfl,rfl⟩
  |some e'=>
   obtain⟨e,h1,_⟩:=key h.symm e' he';rw[he] at h1;cases h1
def Di {l:List Pt}{E:Rt->List Crt}(hE:EdgH l E){t:Rt}:∀(n:Nat) (c c':Clock) (out out':List Crt) (m:Nat) (d d':Clock) (o o':List Crt),Alike l c c'->out.length=out'.length->adv E t n c out=some (some (d,o))->adv E t m c' out'=some (some (d',o'))->o.length=o'.length
 |0,c,c',out,out',m,d,d',o,o',_,_,h,_=>by cases h
 |n+1,c,c',out,out',0,d,d',o,o',_,_,_,h=>by cases h
 |n+1,c,c',out,out',m+1,d,d',o,o',hA,hl,h,h'=>by
  unfold adv at h h';rcases hA.next (t:=t) with⟨e1,e2⟩|⟨e,e',e1,e2,e3⟩
  .rw[e1] at h;rw[e2] at h';cases h;cases h';exact hl
  .rw[e1] at h;rw[e2] at h';simp only at h h';obtain⟨n1,_,_⟩:=dU e1;obtain⟨n2,_,_⟩:=dU e2;cases hd:dt (E e.time) (di c e) with
   |none=>rw[hd] at h;cases h
   |some d0=>
    cases hd':dt (E e'.time) (di c' e') with
    |none=>rw[hd'] at h';cases h'
    |some d1=>
     rw[hd] at h;rw[hd'] at h';simp only at h h';obtain⟨s1,s2,_⟩:=jA hE hA.st n1 hd;obtain⟨s1',s2',_⟩:=jA hE hA.st' n2 hd';obtain⟨f1,f2⟩:=iP hA.st.ok n1 hA.st.n64;obtain⟨g1,g2⟩:=iP hA.st'.ok n2 hA.st'.n64;have hre:=(hA.st.ok.2.2.2.1.2.2.1 e (au n1)).1;have p1:(di c e).pts=l:=hA.st.pts;have p2:(di c' e').pts=l:=hA.st'.pts;have hE1:=hE.ok e.time hre f2;have g2':aQ e.time:=f2;rw[e3] at hd';have hE2:EdgF (di c' e').pts (E e.time):=by rw[p2];exact hE1
     have hE1:EdgF (di c e).pts (E e.time):=by rw[p1];exact hE1
     have m1:=pU hE1 f1 f2 hd;have m2:=pU hE2 g1 g2 hd';have k1:=ya hE1 f1 f2 hd;have k2:=ya hE2 g1 g2 hd';refine Di hE n d0 d1 _ _ m d d' o o' ⟨s1,s1',λy hy=>k2 _ (m1 y hy),λy hy=>k1 _ (m2 y hy),λy _=>?_⟩ (by simp[hl]) h h';unfold fT;rw[s1.pts,s1'.pts,s2,s2',e3]
def RL {l:List Pt}{c c':Clock}{s:Rt}(h:Stl l c)(h':Stl l c')(hs:rok s=true)(hn:c'.now=s)(hp:crs c.now s<=0)(hw:iy c s=false)(to:∀y∈c.certs.list,∃y'∈c'.certs.list,y'.cert=y.cert)(of:∀y'∈c'.certs.list,∃y∈c.certs.list,y.cert=y'.cert):Alike l c c':=by
 refine⟨h,h',to,of,λy hy=>?_⟩;have a:=M2 h.ok hs hp hy;have e:fT c' y.cert=fT (atC c s) y.cert:=by
  unfold fT;rw[hn,h'.pts];show cB s _ _=cB s (be c.pts _) (be c.pts _)
  rw[h.pts]
 rw[e];cases hf:(fT c y.cert).2 with
 |false=>exact a.2 hf
 |true=>
  obtain⟨e,he,ht⟩:=Ue h.ok hy hf;exact a.1 hf (by rw[<-ht];exact zV h.ok hs hw e he)
def J0 {E:Rt->List Crt}{t:Rt}:∀(n:Nat) (c:Clock) (out out':List Crt) (d:Clock) (o:List Crt),adv E t n c out=some (some (d,o))->∃p,o=out++p/\ adv E t n c out'=some (some (d,out'++p))
 |0,c,out,out',d,o,h=>by cases h
 |n+1,c,out,out',d,o,h=>by
  unfold adv at h|-;cases he:er c t with
  |none=>rw[he] at h;cases h;exact⟨[],by simp,by simp⟩
  |some e=>
   rw[he] at h;simp only at h|-;cases hd:dt (E e.time) (di c e) with
   |none=>rw[hd] at h;cases h
   |some d0=>
    rw[hd] at h;simp only at h|-;obtain⟨p,h1,h2⟩:=J0 n d0 _ (out'++[dV c e]) d o h;exact⟨dV c e::p,by rw[h1];simp,by rw[h2];simp⟩
def NI {l:List Pt}{E:Rt->List Crt}(hl:okF l)(hE:EdgH l E){s t:Rt}(hs:rok s=true)(ht:rok t=true)(hst:crs s t<=0){c c' d1 d2 d3:Clock}{o1 o2 o3:List Crt}(h:Stl l c)(hc:∀x∈E c.now,∃y∈c.certs.list,y.cert=x)(hc2:∀y∈c.certs.list,y.cert∈E c.now)(hp:crs c.now s<=0)
  (h':Stl l c') (hn:c'.now=s) (hc':∀x∈E s,∃y∈c'.certs.list,y.cert=x) (hc2':∀y∈c'.certs.list,y.cert∈E s)
  (same:∀u,rok u=true->(∀x∈E u,leads s (be l x.high) (be l x.low)=true)->E s=E u)
  (ha:fd E t c=some (d1,o1)) (hb:fd E s c=some (d2,o2)) (hd:fd E t c'=some (d3,o3)):o1.length=o2.length+o3.length:=by
 have a1:=oR hl hE (t:=t) h;have a2:=oR hl hE (t:=s) h;have a3:=oR hl hE (t:=t) h';rw[ha] at a1;rw[hb] at a2;rw[hd] at a3;obtain⟨q1,q2,q3,q4,_⟩:=tX hE 5000 c [] d2 o2 h hp a2;have q5:=Kt hE 5000 c [] d2 o2 h hc a2;have q6:∀y∈d2.certs.list,y.cert∈E d2.now:=by
  rcases q4 with e|e
  .rw[e];exact hc2
  .exact e
 have es:E s=E d2.now:=same _ q1.ok.1 λx hx=>by
  obtain⟨y,hy,hyc⟩:=q5 x hx;have:=Tn q1.ok hs q2 q3 hy (q1.holds y hy);rw[hyc,q1.pts] at this;exact this
 have A:=RL q1 h' hs hn q2 q3 (λy hy=>hc' _ (by rw[es];exact q6 y hy)) (λy hy=>q5 _ (by rw[<-es];exact hc2' y hy));obtain⟨r,hr⟩:=zY hE (t:=t) 5000 d2 o2 q1 (sL hl _);have tw:=JZ hE hs ht hst 5000 c [] d2 o2 5000 r h a2 hr;have e1:=RK a1 tw;subst e1;obtain⟨p,h1,h2⟩:=J0 5000 d2 o2 [] d1 o1 hr;rw[aO] at h2;have:=Di hE 5000 d2 c' [] [] 5000 d1 d3 p o3 A rfl h2 a3;rw[h1,aC];omega
def Uf (t:Rt)(m:Mt):Bool:=decide (crs t m.time<0)
def LI {f:Pt×Pt->Bool}{p:Pt}{l:List Pt}:∀k:List Pt,(k.flatMap λa=>(p::l).map λq=>(a,q)).countP f=k.countP (λa=>f (a,p))+(k.flatMap λa=>l.map λq=>(a,q)).countP f
 |[]=>rfl
 |a::k=>by
  have ih:=LI (f:=f) (p:=p) (l:=l) k;rw[du,du,pY,pY,ih,bQ,dr,dr];omega
def LJ (a b:Rt)(m:Mt):Bool:=Uf a m&& decide (crs m.time b<=0)
def Fw:∀{l:List Pt} {m:Mt},m∈rawM l->∃p∈l,∃q∈l,p.b≠q.b/\ m=rT p q
 |[],m,h=>by cases h
 |p::l,m,h=>by
  unfold rawM at h;rcases bS.1 h with h|h
  .obtain⟨q,hq,rfl⟩:=bf.1 h;obtain⟨h1,h2⟩:=bx.1 hq;exact⟨p,bR ..,q,aN _ h1,by simpa using h2,rfl⟩
  .obtain⟨p',h1,q,h2,h3⟩:=Fw h;exact⟨p',aN _ h1,q,aN _ h2,h3⟩
def zA {l:List Pt}(h:okF l){m:Mt}(hm:m∈rawM l):rok m.time=true/\ aQ m.time:=by
 obtain⟨p,hp,q,hq,hb,rfl⟩:=Fw hm;obtain⟨i,hi⟩:=aI.1 hp;obtain⟨j,hj⟩:=aI.1 hq;have b1:=Pt.bnd (dH h hi);have b2:=Pt.bnd (dH h hj);exact Fc ⟨by omega,by omega⟩ ⟨by omega,by omega⟩ (by omega)
def zB:∀l:List Pt,2*(rawM l).length<=l.length*(l.length-1)
 |[]=>aB _
 |p::l=>by
  have ih:=zB l;unfold rawM;rw[aC,ai,aV,dz];have h:=fO (λq:Pt=>decide (p.b≠q.b)) l;cases l with
  |nil=>simp[rawM]
  |cons q l=>
   rw[aV] at ih h|-;rw[dz] at ih;have:(l.length+1+1)*(l.length+1)=(l.length+1)*l.length+2*(l.length+1):=by grind
   omega
def zD {c:Clock}{es:List Crt}(hc:dy c.certs)(hn:es.Nodup)(hJ:JustR c es):∀y∈c.certs.list,y.cert∈es:=
 ((sD hc hn λe he=>(hJ.2 e he).2).2 hJ).2
def Az {c:Clock}{es:List Crt}(hk:bD c)(h64:aQ c.now)(hn:es.Nodup)(hJ:JustR c es):Stl c.pts c/\∀x∈es,∃y∈c.certs.list,y.cert=x:=
 ⟨⟨hk,h64,rfl,λy hy=>(hJ.2 _ (zD hk.2.2.1 hn hJ y hy)).2⟩,λx hx=>(hJ.2 x hx).1⟩
def RM {k:KHeap}(h:jH k)(h64:fF k.clock):Stl k.clock.pts k.clock/\∀x∈cv k.clock.pts (cS k.clock.now k.clock.pts),∃y∈k.clock.certs.list,y.cert=x:=
 Az h.1 h64.1 (nT (cW h.1.2.1.2.2)) h.2.2
def RN {k:Heater}(h:jI k)(h64:fF k.clock):Stl k.clock.pts k.clock/\∀x∈edgsT (cart k.clock.now k.clock.pts).nodes k.clock.pts.length,∃y∈k.clock.certs.list,y.cert=x:=
 Az h.1 h64.1 (qB h.1.2.1 _ (aB _)) h.2.2
def RP {k:KHeap}(h:iG k)(h64:fF k.clock):HStl k.clock.pts k.clock k.heap:=
 ⟨h.1,h64.1,rfl,zD h.1.2.2.1 (tq h.2.2.2.1) h.2.2.2.2,h.2.2.2.1,h.2.2.1,h.2.1⟩
def NJ {k:KTourn}(h:eZ k)(h64:fF k.clock):Stl k.clock.pts k.clock/\ k.brk=bracketOf k.clock.now k.clock.pts k.brk.places/\(1<=k.brk.places.length/\ k.brk.places.length<=64/\ gV k.brk.places)/\∀x∈edT k.clock.pts k.brk.places k.clock.now,∃y∈k.clock.certs.list,y.cert=x:=by
 obtain⟨h1,h2,h3,h4,h5,h6,h7⟩:=h;have hm:k.brk.wins.length=k.brk.places.length-1:=by have:=h2.1.1.2.2;omega
 have hw:=(sZ hm).2 h6;have hb:k.brk=bracketOf k.clock.now k.clock.pts k.brk.places:=by unfold bracketOf;rw[hw]
 obtain⟨s1,s2⟩:=Az h1 h64.1 (qC (b:=k.brk) h1.2.1 h2 h4 h6 _ (aB _)) h7;refine⟨s1,hb,⟨h2.1.1.1,h2.1.1.2.1,h2.1.2.1⟩,?_⟩;unfold edT
 grind
def yB (n:Int):sgn n<0↔n<0:=by
 unfold sgn
 grind
section
variable {t:Rt}(hr:rok t=true)(ht:aQ t)
include hr ht
theorem ahb {k:KHeap}(hchk:Ans D 68 [KH k] [.i64 0])(hk:rok k.clock.now=true)(hn:aQ k.clock.now)(hp:crs t k.clock.now<0):Ans D 96 [KH k,R t] [KHz,.sl [],.i64 44]:=by
 have m1:=phi hchk;have m2:=phi (c43 ht);rw[hr,show okE true=0 from rfl] at m2
 have m3:=phi (qe ht hn);rw[hr,hk] at m3;have ng:=(yB _).2 hp;have pR0:RF.ev (.part 0 2) [KH k]=some (R k.clock.now):=rfl;refine am ?_;unfold k45;simp[jG,ic,m1,m2,EV,pR0,m3,ng,tW]
theorem ahc {k:KHeap}(hchk:Ans D 71 [KH k] [.i64 0])(hk:rok k.clock.now=true)(hn:aQ k.clock.now)(hp:crs t k.clock.now<0):Ans D 99 [KH k,R t] [KHz,.sl [],.i64 44]:=by
 have m1:=phi hchk;have m2:=phi (c43 ht);rw[hr,show okE true=0 from rfl] at m2
 have m3:=phi (qe ht hn);rw[hr,hk] at m3;have ng:=(yB _).2 hp;have pR0:RF.ev (.part 0 2) [KH k]=some (R k.clock.now):=rfl;refine am ?_;unfold k48;simp[jG,ic,m1,m2,EV,pR0,m3,ng,tW]
theorem ahd {k:KTourn}(hchk:Ans D 69 [KT k] [.i64 0])(hk:rok k.clock.now=true)(hn:aQ k.clock.now)(hp:crs t k.clock.now<0):Ans D 97 [KT k,R t] [KTz,.sl [],.i64 44]:=by
 have m1:=phi hchk;have m2:=phi (c43 ht);rw[hr,show okE true=0 from rfl] at m2
 have m3:=phi (qe ht hn);rw[hr,hk] at m3;have ng:=(yB _).2 hp;have pR0:RF.ev (.part 0 2) [KT k]=some (R k.clock.now):=rfl;refine am ?_;unfold k46;simp[vg,ic,m1,m2,EV,pR0,m3,ng,Fr]
theorem ahe {k:Heater}(hchk:Ans D 70 [HT k] [.i64 0])(hk:rok k.clock.now=true)(hn:aQ k.clock.now)(hp:crs t k.clock.now<0):Ans D 98 [HT k,R t] [HTz,.sl [],.i64 44]:=by
 have m1:=phi hchk;have m2:=phi (c43 ht);rw[hr,show okE true=0 from rfl] at m2
 have m3:=phi (qe ht hn);rw[hr,hk] at m3;have ng:=(yB _).2 hp;have pR0:RF.ev (.part 0 2) [HT k]=some (R k.clock.now):=rfl;refine am ?_;unfold k47;simp[vk,ic,m1,m2,EV,pR0,m3,ng,Fs]
end
def gx (l:List PV)(i:Nat):PV:=l.getD i (.i64 0)
def Ea {l:List PV}{i:Nat}(h:i<l.length):RF.ev (.cell i) [.agg l]=some (gx l i):=by
 show l[i]?=_
 unfold gx;rw[ah h,List.getD_eq_getElem?_getD,ah h];rfl
def sM (c:Choice){i:Nat}(h1:1<=i)(h2:i<=50):RF.ev (.cell i) [CHO c]=some (gx (bb c) i):=Ea (show i<51 by omega)
def AA (k:KHeap){i:Nat}(h:i<=11):RF.ev (.cell i) [KH k]=some (gx (khC k) i):=Ea (show i<12 by omega)
def NK (k:KTourn){i:Nat}(h:i<=12):RF.ev (.cell i) [KT k]=some (gx (ktC k) i):=Ea (show i<13 by omega)
def NL (k:Heater){i:Nat}(h:i<=12):RF.ev (.cell i) [HT k]=some (gx (htC k) i):=Ea (show i<13 by omega)
def rE (c:Choice)(L:PV)(e:Int):List PV:=if e=0 then [CHO c,L,.i64 0] else [CHO zCH,.sl [],.i64 e]
def vG {c:Choice}{L:PV}{e:Int}:(rE c L e).length=3:=by unfold rE;split<;>rfl
section
variable (g:Int)(c:Choice)
def adV (k:KHeap):RF.ev .agg [.v (.int .u8 g),gx (khC k) 0,gx (khC k) 1,gx (khC k) 2,gx (khC k) 3,gx (khC k) 4,gx (khC k) 5,gx (khC k) 6,gx (khC k) 7,gx (khC k) 8,gx (khC k) 9,gx (khC k) 10,gx (khC k) 11,gx (bb c) 13,gx (bb c) 14,gx (bb c) 15,gx (bb c) 16,gx (bb c) 17,gx (bb c) 18,gx (bb c) 19,gx (bb c) 20,gx (bb c) 21,gx (bb c) 22,gx (bb c) 23,gx (bb c) 24,gx (bb c) 25,gx (bb c) 26,gx (bb c) 27,gx (bb c) 28,gx (bb c) 29,gx (bb c) 30,gx (bb c) 31,gx (bb c) 32,gx (bb c) 33,gx (bb c) 34,gx (bb c) 35,gx (bb c) 36,gx (bb c) 37,gx (bb c) 38,gx (bb c) 39,gx (bb c) 40,gx (bb c) 41,gx (bb c) 42,gx (bb c) 43,gx (bb c) 44,gx (bb c) 45,gx (bb c) 46,gx (bb c) 47,gx (bb c) 48,gx (bb c) 49,gx (bb c) 50]=some (CHO ⟨g,k,c.tourn,c.heater,c.hanger⟩):=rfl
def adW (k:KTourn):RF.ev .agg [.v (.int .u8 g),gx (bb c) 1,gx (bb c) 2,gx (bb c) 3,gx (bb c) 4,gx (bb c) 5,gx (bb c) 6,gx (bb c) 7,gx (bb c) 8,gx (bb c) 9,gx (bb c) 10,gx (bb c) 11,gx (bb c) 12,gx (ktC k) 0,gx (ktC k) 1,gx (ktC k) 2,gx (ktC k) 3,gx (ktC k) 4,gx (ktC k) 5,gx (ktC k) 6,gx (ktC k) 7,gx (ktC k) 8,gx (ktC k) 9,gx (ktC k) 10,gx (ktC k) 11,gx (ktC k) 12,gx (bb c) 26,gx (bb c) 27,gx (bb c) 28,gx (bb c) 29,gx (bb c) 30,gx (bb c) 31,gx (bb c) 32,gx (bb c) 33,gx (bb c) 34,gx (bb c) 35,gx (bb c) 36,gx (bb c) 37,gx (bb c) 38,gx (bb c) 39,gx (bb c) 40,gx (bb c) 41,gx (bb c) 42,gx (bb c) 43,gx (bb c) 44,gx (bb c) 45,gx (bb c) 46,gx (bb c) 47,gx (bb c) 48,gx (bb c) 49,gx (bb c) 50]=some (CHO ⟨g,c.heap,k,c.heater,c.hanger⟩):=rfl
def adX (k:Heater):RF.ev .agg [.v (.int .u8 g),gx (bb c) 1,gx (bb c) 2,gx (bb c) 3,gx (bb c) 4,gx (bb c) 5,gx (bb c) 6,gx (bb c) 7,gx (bb c) 8,gx (bb c) 9,gx (bb c) 10,gx (bb c) 11,gx (bb c) 12,gx (bb c) 13,gx (bb c) 14,gx (bb c) 15,gx (bb c) 16,gx (bb c) 17,gx (bb c) 18,gx (bb c) 19,gx (bb c) 20,gx (bb c) 21,gx (bb c) 22,gx (bb c) 23,gx (bb c) 24,gx (bb c) 25,gx (htC k) 0,gx (htC k) 1,gx (htC k) 2,gx (htC k) 3,gx (htC k) 4,gx (htC k) 5,gx (htC k) 6,gx (htC k) 7,gx (htC k) 8,gx (htC k) 9,gx (htC k) 10,gx (htC k) 11,gx (htC k) 12,gx (bb c) 39,gx (bb c) 40,gx (bb c) 41,gx (bb c) 42,gx (bb c) 43,gx (bb c) 44,gx (bb c) 45,gx (bb c) 46,gx (bb c) 47,gx (bb c) 48,gx (bb c) 49,gx (bb c) 50]=some (CHO ⟨g,c.heap,c.tourn,k,c.hanger⟩):=rfl
def adY (k:KHeap):RF.ev .agg [.v (.int .u8 g),gx (bb c) 1,gx (bb c) 2,gx (bb c) 3,gx (bb c) 4,gx (bb c) 5,gx (bb c) 6,gx (bb c) 7,gx (bb c) 8,gx (bb c) 9,gx (bb c) 10,gx (bb c) 11,gx (bb c) 12,gx (bb c) 13,gx (bb c) 14,gx (bb c) 15,gx (bb c) 16,gx (bb c) 17,gx (bb c) 18,gx (bb c) 19,gx (bb c) 20,gx (bb c) 21,gx (bb c) 22,gx (bb c) 23,gx (bb c) 24,gx (bb c) 25,gx (bb c) 26,gx (bb c) 27,gx (bb c) 28,gx (bb c) 29,gx (bb c) 30,gx (bb c) 31,gx (bb c) 32,gx (bb c) 33,gx (bb c) 34,gx (bb c) 35,gx (bb c) 36,gx (bb c) 37,gx (bb c) 38,gx (khC k) 0,gx (khC k) 1,gx (khC k) 2,gx (khC k) 3,gx (khC k) 4,gx (khC k) 5,gx (khC k) 6,gx (khC k) 7,gx (khC k) 8,gx (khC k) 9,gx (khC k) 10,gx (khC k) 11]=some (CHO ⟨g,c.heap,c.tourn,c.heater,k⟩):=rfl
end
section
variable {c:Choice}{t:Rt}{L:PV}{e:Int}
def Ug (hc:bL D 27 [CHO c]=some [.i64 0])(hr:rok t=true)(ht:aQ t)(ha:cO t=0)(t1:c.tag=1){k:KHeap}(h:Ans D 96 [KH c.heap,R t] [KH k,L,.i64 e]):Ans D 37 [CHO c,R t] (rE ⟨1,k,c.tourn,c.heater,c.hanger⟩ L e):=by
 have m1:=phi (c43 ht);rw[hr,show okE true=0 from rfl] at m1
 have m2:=phi (c44 ht);rw[ha] at m2;have m3:=phi h;refine an (hl:=vG) ⟨1,?_⟩;unfold k15 rE;by_cases he:e=0
 .subst he;simp only[ay,gN,ic,hc,m1,m2,EV,aA,aJ,aw,ax,cCH,t1,u8E,az,KY,m3,jG,AA,sM,Nat.reduceLeDiff,aB,qH,adV]
 .have de:decide (e=0)=false:=ak he;simp only[ay,gN,ic,hc,m1,m2,EV,aA,aJ,aw,ax,cCH,t1,u8E,az,KY,m3,jG,AA,sM,Nat.reduceLeDiff,aB,qH,de,bZ,zy,ac he];rfl
def Uh (hc:bL D 27 [CHO c]=some [.i64 0])(hr:rok t=true)(ht:aQ t)(ha:cO t=0)(t1:c.tag=2){k:KTourn}(h:Ans D 97 [KT c.tourn,R t] [KT k,L,.i64 e]):Ans D 37 [CHO c,R t] (rE ⟨2,c.heap,k,c.heater,c.hanger⟩ L e):=by
 have m1:=phi (c43 ht);rw[hr,show okE true=0 from rfl] at m1
 have m2:=phi (c44 ht);rw[ha] at m2;have m3:=phi h;refine an (hl:=vG) ⟨1,?_⟩;unfold k15 rE;have d21:decide ((2:Int)=1)=false:=rfl;by_cases he:e=0
 .subst he;simp only[ay,gN,ic,hc,m1,m2,EV,aA,aJ,aw,ax,cCH,t1,u8E,d21,az,KZ,m3,vg,NK,sM,Nat.reduceLeDiff,aB,vH,qH,adW]
 .have de:decide (e=0)=false:=ak he;simp only[ay,gN,ic,hc,m1,m2,EV,aA,aJ,aw,ax,cCH,t1,u8E,d21,az,KZ,m3,vg,NK,sM,Nat.reduceLeDiff,aB,vH,qH,de,bZ,zy,ac he];rfl
def Ui (hc:bL D 27 [CHO c]=some [.i64 0])(hr:rok t=true)(ht:aQ t)(ha:cO t=0)(t1:c.tag=3){k:Heater}(h:Ans D 98 [HT c.heater,R t] [HT k,L,.i64 e]):Ans D 37 [CHO c,R t] (rE ⟨3,c.heap,c.tourn,k,c.hanger⟩ L e):=by
 have m1:=phi (c43 ht);rw[hr,show okE true=0 from rfl] at m1
 have m2:=phi (c44 ht);rw[ha] at m2;have m3:=phi h;refine an (hl:=vG) ⟨1,?_⟩;unfold k15 rE;have d31:decide ((3:Int)=1)=false:=rfl;have d32:decide ((3:Int)=2)=false:=rfl;by_cases he:e=0
 .subst he;simp only[ay,gN,ic,hc,m1,m2,EV,aA,aJ,aw,ax,cCH,t1,u8E,d31,d32,az,K3,m3,vk,NL,sM,Nat.reduceLeDiff,aB,AC,vH,qH,adX]
 .have de:decide (e=0)=false:=ak he;simp only[ay,gN,ic,hc,m1,m2,EV,aA,aJ,aw,ax,cCH,t1,u8E,d31,d32,az,K3,m3,vk,NL,sM,Nat.reduceLeDiff,aB,AC,vH,qH,de,bZ,zy,ac he];rfl
def Uj (hc:bL D 27 [CHO c]=some [.i64 0])(hr:rok t=true)(ht:aQ t)(ha:cO t=0)(t1:c.tag=4){k:KHeap}(h:Ans D 99 [KH c.hanger,R t] [KH k,L,.i64 e]):Ans D 37 [CHO c,R t] (rE ⟨4,c.heap,c.tourn,c.heater,k⟩ L e):=by
 have m1:=phi (c43 ht);rw[hr,show okE true=0 from rfl] at m1
 have m2:=phi (c44 ht);rw[ha] at m2;have m3:=phi h;refine an (hl:=vG) ⟨1,?_⟩;unfold k15 rE;have d41:decide ((4:Int)=1)=false:=rfl;have d42:decide ((4:Int)=2)=false:=rfl;have d43:decide ((4:Int)=3)=false:=rfl;by_cases he:e=0
 .subst he;simp only[ay,gN,ic,hc,m1,m2,EV,aA,aJ,aw,ax,cCH,t1,u8E,d41,d42,d43,az,K4,m3,jG,AA,sM,Nat.reduceLeDiff,aB,AC,vH,qH,adY]
 .have de:decide (e=0)=false:=ak he;simp only[ay,gN,ic,hc,m1,m2,EV,aA,aJ,aw,ax,cCH,t1,u8E,d41,d42,d43,az,K4,m3,jG,AA,sM,Nat.reduceLeDiff,aB,AC,vH,qH,de,bZ,zy,ac he];rfl
end
section
variable {c:Choice}{t:Rt}
open Classical in
def ahf (h64:Cho64 c)(hg:gCh c=false)(hok:qD c)(hr:rok t=true)(ht:aQ t)(ha:cO t=0)(hp:crs t (kG c).now<0):Ans D 37 [CHO c,R t] [CHO zCH,.sl [],.i64 44]:=by
 obtain⟨g1,g2,g3,g4⟩:=An hg;have hc:=phi (c26 h64 hg);rw[aq hok,agS] at hc;have hq:=hok.2.1;unfold fw at hq;unfold kG at hp;by_cases t1:c.tag=1
 .rw[ad t1] at hq hp;have hchk:=c77 h64.h1 g1;rw[aq hq] at hchk;exact Ug (k:=zKH) (e:=44) hc hr ht ha t1 (ahb hr ht hchk hq.1.1 h64.h1.1 hp)
 rw[ac t1] at hq hp;by_cases t2:c.tag=2
 .rw[ad t2] at hq hp;have hchk:=c78 h64.h2 g2;rw[aq hq] at hchk;exact Uh (k:=zKT) (e:=44) hc hr ht ha t2 (ahd hr ht hchk hq.1.1 h64.h2.1 hp)
 rw[ac t2] at hq hp;by_cases t3:c.tag=3
 .rw[ad t3] at hq hp;have hchk:=c79 h64.h3 g3;rw[aq hq] at hchk;exact Ui (k:=zHT) (e:=44) hc hr ht ha t3 (ahe hr ht hchk hq.1.1 h64.h3.1 hp)
 rw[ac t3] at hq hp;by_cases t4:c.tag=4
 .rw[ad t4] at hq;have hchk:=c80 h64.h4 g4;rw[aq hq] at hchk;exact Uj (k:=zKH) (e:=44) hc hr ht ha t4 (ahc hr ht hchk hq.1.1 h64.h4.1 hp)
 .rw[ac t4] at hq;exact hq.elim
def n8:decide ((8:Int)=0)=false:=rfl
def n2:decide ((2:Int)=0)=false:=rfl
def d15 (hc:bL D 27 [CHO c]=some [.i64 0])(ht:aQ t)(ha:cO t≠0):Ans D 37 [CHO c,R t] [CHO zCH,.sl [],.i64 (cO t)]:=by
 have m1:=phi (c43 ht);have m2:=phi (c44 ht);refine am ?_;unfold k15;cases hr:rok t with
 |false=>
  have e:cO t=8:=by unfold cO;rw[hr];rfl
  rw[hr,show okE false=8 from rfl] at m1
  simp only[ay,gN,ic,hc,m1,EV,aA,aJ,aw,ax,n8,bZ,az,zy,e];rfl
 |true=>
  have e:cO t=2:=(Nt hr).resolve_left ha;rw[hr,show okE true=0 from rfl] at m1
  rw[e] at m2|-;simp only[ay,gN,ic,hc,m1,m2,EV,aA,aJ,aw,ax,n2,bZ,az,zy];rfl
end
end Go.Proofs.YtoeigdpfcnaaeaaGreat
