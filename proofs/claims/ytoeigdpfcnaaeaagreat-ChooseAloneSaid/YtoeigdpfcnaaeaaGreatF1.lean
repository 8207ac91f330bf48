import Derived.Test.YtoeigdpfcnaaeaaGreatE1
import Derived.Test.YtoeigdpfcnaaeaaGreatR1
import Derived.Test.YtoeigdpfcnaaeaaGreatC3
set_option linter.unusedVariables false
set_option linter.unusedSimpArgs false
set_option linter.defProp false
noncomputable section
namespace Go.Proofs.YtoeigdpfcnaaeaaGreat
open Go.Sym Bnd
set_option maxRecDepth 100000
section
variable {ld:Int->Int->Bool}
def yU (ld:Int->Int->Bool)(h:List Int)(j:Nat):Prop:=∀a b,h[j]?=some a->h[(j-1)/2]?=some b->ld b a=true
def HO (ld:Int->Int->Bool)(h:List Int):Prop:=∀j,0<j->yU ld h j
def HOx (ld:Int->Int->Bool)(h:List Int)(i:Nat):Prop:=(∀j,0<j->j≠i->yU ld h j)/\∀j,0<j->(j-1)/2=i->0<i->∀a b,h[j]?=some a->h[(i-1)/2]?=some b->ld b a=true
def Zh (tr:∀a b c,ld a b=true->ld b c=true->ld a c=true){h:List Int}{i:Nat}{a b:Int}(hi:0<i)(ha:h[i]?=some a)(hb:h[(i-1)/2]?=some b)(hab:ld a b=true)(H:HOx ld h i):HOx ld ((h.set i b).set ((i-1)/2) a) ((i-1)/2):=by have⟨H1,H2⟩:=H;have li:=aK ha;(have g:∀k,((h.set i b).set ((i-1)/2) a)[k]?=if k=(i-1)/2 then some a else if k=i then some b else h[k]?:=λk=>by rw[f9,aP,f9];grind);refine⟨λj hj hne x y hx hy=>?_,λj hj hq hp x y hx hy=>?_⟩;rw[g] at hx hy;rw[ac hne] at hx;by_cases e1:j=i;subst e1;rw[ad rfl] at hx hy;cases hx;cases hy;exact hab;rw[ac e1] at hx;by_cases e2:(j-1)/2=(i-1)/2;rw[ad e2] at hy;cases hy;exact tr _ _ _ hab (H1 j hj e1 x b hx (by rw[e2];exact hb));rw[ac e2] at hy;by_cases e3:(j-1)/2=i;rw[ad e3] at hy;cases hy;exact H2 j hj e3 hi x b hx hb;rw[ac e3] at hy;exact H1 j hj e1 x y hx hy;rw[g] at hx hy;rw[ac ω,ac ω] at hy;have hby:=H1 ((i-1)/2) hp ω b y hb hy;rw[ac ω] at hx;by_cases e1:j=i;rw[ad e1] at hx;cases hx;exact hby;rw[ac e1] at hx;exact tr _ _ _ hby (H1 j hj e1 x b hx (by rw[hq];exact hb))
end
def ldI (t:Rt)(l:List Pt)(a b:Int):Bool:=leads t (ptOf l a) (ptOf l b)
def Ap {t:Rt}{l:List Pt}:∀(n:Nat) (h:List Int) (i:Nat),i<n->i<h.length->(∀a∈h,∀b∈h,a≠b->ldI t l a b=true\/ldI t l b a=true)->h.Nodup->HOx (ldI t l) h i->HO (ldI t l) (k8 t l n h i)|0,h,i,hn,_,_,_,_=>ω|n+1,h,i,hn,hi,tot,nd,H=>by obtain⟨a,ha⟩:∃a,h[i]?=some a:=⟨h[i],ah _⟩;obtain⟨b,hb⟩:∃b,h[(i-1)/2]?=some b:=⟨h[(i-1)/2]' ω,ah _⟩;unfold k8;rw[ha,hb];simp only;by_cases c:0<i/\ leads t (ptOf l a) (ptOf l b)=true;rw[ad c];(have sw:((h.set i b).set ((i-1)/2) a).Perm h:=by have⟨h1,h2⟩:=aD.1 ha;have⟨h3,h4⟩:=aD.1 hb;rw[<-h2,<-h4];exact rJ h1 h3);refine Ap n _ _ ω (by simp;omega) (λx hx y hy=>tot x (sw.mem_iff.1 hx) y (sw.mem_iff.1 hy)) (sw.nodup_iff.2 nd) ?_;exact Zh (ld:=ldI t l) (λx y z h k=>ea h k) c.1 ha hb c.2 H;rw[ac c];intro j hj;by_cases e:j=i;subst e;intro x y hx hy;rw[ha] at hx;rw[hb] at hy;cases hx;cases hy;(have hne:a≠b:=λe=>by subst e;have:=cz.1 nd j ((j-1)/2) a ha hb;omega);rcases tot a (ax ha) b (ax hb) hne with q|q;exact absurd ⟨hj,q⟩ c;exact q;exact H.1 j hj e
def HJ {l:List Pt}{t:Rt}(h:okF l):∀k,k<=l.length->HO (ldI t l) (dV t l k)|0,_=>λj _ a b ha _=>by simp[dV] at ha|k+1,hk=>by have ih:=HJ h (t:=t) k ω;obtain⟨p,hp⟩:∃p,l[k]?=some p:=⟨l[k],ah _⟩;have hl:=ur (t:=t) (l:=l) (k:=k) ω;(have pm:(dV t l k++[p.id]).Perm ((l.take (k+1)).map Pt.id):=by have:=mY (t:=t) (l:=l) k ω;rw[cA,hp,eS];exact this.append_right _);have hi:=b8 h.2.2;(have sub:∀a∈dV t l k++[p.id],∃q∈l,q.id=a/\ ptOf l a=q:=λa ha=>by obtain⟨q,hq,rfl⟩:=aW.1 (pm.mem_iff.1 ha);have hq:=js hq;have⟨i,hi⟩:=aG.1 hq;exact⟨q,hq,rfl,gt h hi⟩);rw[yS hp];refine Ap (k+1) _ k ω (by simp;omega) (λa ha b hb hne=>?_) (pm.nodup_iff.2 ?_) ⟨λj hj hne a b ha hb=>?_,λj hj hq hp a b ha hb=>?_⟩;have⟨x,hx,e1,e2⟩:=sub a ha;have⟨y,hy,e3,e4⟩:=sub b hb;unfold ldI;rw[e2,e4];exact leads_total (by rw[e1,e3];exact hne);exact wO ((List.take_sublist _ _).map Pt.id) hi;have lj:=aK ha;rw[aB,hl,aM] at lj;rw[aI ω] at ha hb;exact ih j hj a b ha hb;have lj:=aK ha;rw[aB,hl,aM] at lj;omega
def Mh {ld:Int->Int->Bool}{hp:List Int}(h:HO ld hp){e:Crt}(he:e∈edgesH hp):ld e.h e.j=true:=by obtain⟨i,hi,rfl⟩:=aW.1 he;rw[cX] at hi;exact h (i+1) ω _ _ (er ω) (by rw[dR];exact er ω)
def Qv:∀m:Nat,m<65->szd (twice 7 1 m)=true:=by decide
def Og {l:List Pt}(h:okF l):((dg l).filter λx=>decide (0<=x)).length=l.length:=by unfold dg;rw[mM,aB];(have h1:(l.map Pt.id).filter (λx=>decide (0<=x))=l.map Pt.id:=d9.2 λx hx=>by obtain⟨p,hp,rfl⟩:=aW.1 hx;have:=aX.1 h.2.1 p hp;unfold Pt.ok at this;simp only[aJ,aa] at this;exact aq this.1.1.1);(have h2:(List.replicate (twice 7 1 l.length-l.length) (-1:Int)).filter (λx=>decide (0<=x))=[]:=nN.2 λx hx=>by rw[(dC.1 hx).2];decide);rw[h1,h2];simp
def ahs {l:List Bool}{i:Nat}(h:i<l.length):RF.ev (.set 0) [sl B1 l,.v (.int .i64 (i:Int)),.v (.bool false)]=some (sl B1 (l.set i false)):=by rw[uF,ad ω,aH,aZ,ah h];exact bm (λx=>some (PV.sl x)) (mO (f:=B1) (l:=l) (i:=i) (a:=false)).symm
def akM {l:List Int}{x:Int}(hl:l.length<=999):Ans D 450 [sl I1 l,.i64 x] [sl I1 (l++[x])]:=by have ap:=fZ (f:=I1) (l:=l) (k:=[x]) (bytes:=8) (z:=1) (by simp;omega) ct;have bs:RF.ev (.bs 1 [.v (.int .i64 0)] [0]) [.i64 x]=some (sl I1 [x]):=rfl;have su:RF.ev .sub [sl I1 [x],.v (.int .i64 0),.v (.int .i64 1)]=some (sl I1 [x]):=rfl;have s2:=bS (f:=I1) (l:=l++[x]);refine am ?_;unfold afJ;simp only[EV,phi (abf (l:=l) ω),ai,bs,su,ap,s2]
open Classical in def aby {s:Slots}(h:SFine s){i:Nat}{u:Int}(hu:s.v[i]?=some true)(hv:s.u[i]?=some u):Ans D 436 [SL s,HD ⟨i,u⟩] [.bool true,.i64 0]:=by have hi:=aK hu;have hc:=phi (NQ (xh h));rw[aq (dG.2 h)] at hc;have e0:okE true=0:=rfl;rw[e0] at hc;refine am ?_;unfold afD;simp only[ki,p8,hc,lQ,sR,EV,ai,ay,aE,au,aw,aa];rw[ad ω];rw[ad ω];simp[kj,sR,UV,EV,aU hu (sM _),aN hu,uV,aU hv (ct _),aN hv,cp];rfl
open Classical in def akN {s:Slots}(h:SFine s){i:Nat}{u:Int}(hu:s.v[i]?=some true)(hv:s.u[i]?=some u):Ans D 441 [SL s,HD ⟨i,u⟩] [SL (l8 s i),.i64 0]:=by have hi:=aK hu;have n2:=h.n2;have hb:=jv h.nd h.rng;have s1:=bS (f:=I1) (l:=s.u);have s2:=bS (f:=B1) (l:=s.v.set i false);rw[aP] at s2;refine am ?_;unfold afG;simp only[ki,p8,phi (aby h hu hv),phi (abi (Gt h)),phi (akM (l:=s.f) (x:=(i:Int)) ω),kj,lQ,km,sR,EV,ai,ixM hi,ahs hi,s1,s2];rfl
def Gy {hp:List Evt}{z p:Evt}{i:Nat}(h:hp[i]?=some p):(hp++[z])[i]?=some p:=by rw[aI (bj h)];exact h
def Oh {hp:List Evt}{z:Evt}{i:Nat}(h:i<hp.length)(p:Evt):RF.ev (.set 0) [sl bY (hp++[z]),.v (.int .i64 (i:Int)),EP p]=some (sl bY (hp.set i p++[z])):=by rw[uo (by simp;omega),pT _ _ h]
def MB {N:Nat}{f0 f1:JT}{f z:Evt}{e0 e1 e2 e3 e4 e5 e6 e7 e8 e9 e10 e11 e12 e13 e14 e15 e16 e18 e19 e22 e23 e24 e25:PV}{n W:Nat}(hn:n<=1000)(hf:GoodE W f):∀(r i m:Nat) (hp:List Evt) (wh:List Int),i<=r->r<m->i<n->hp.length=n->wh.length=W->(∀x∈hp,GoodE W x)->dw (bo D) N vX [f0,f1] [e0,e1,e2,e3,e4,e5,e6,e7,e8,e9,e10,e11,e12,e13,e14,e15,e16,.i64 (W:Int),e18,e19,EP f,.i64 (n:Int),e22,e23,e24,e25] m [.i64 (i:Int),sl bY (hp++[z]),sl I1 wh]=f1 [sl bY ((d6 f r hp wh i).1++[z]),sl I1 (d6 f r hp wh i).2.1,.i64 ((d6 f r hp wh i).2.2:Int)]|0,i,m,hp,wh,hi,hm,hiH,hl,hw,hg=>by obtain⟨m,rfl⟩:∃m',m=m'+1:=⟨m-1,ω⟩;(have:i=0:=ω);subst this;rw[bk];unfold vX d6;simp only[EV,aa];rw[ac ω]|r+1,i,m,hp,wh,hi,hm,hiH,hl,hw,hg=>by obtain⟨m,rfl⟩:∃m',m=m'+1:=⟨m-1,ω⟩;obtain⟨p,hp'⟩:∃p,hp[(i-1)/2]?=some p:=⟨hp[(i-1)/2]' ω,ah _⟩;(have E:d6 f (r+1) hp wh i=if 0<i/\ evLess f p=true then d6 f r (hp.set i p) (wh.set p.h.i.toNat (i:Int)) ((i-1)/2) else(hp,wh,i):=by rw[d6,hp']);rw[E,bk];by_cases h0:0<i;rotate_left;rw[ac (λh=>h0 h.1)];unfold vX;simp only[EV,aa];rw[ac ω];have⟨p64,prk,jp,pj,pW⟩:=hg p (ax hp');have ih:=MB (N:=N) (f0:=f0) (f1:=f1) (f:=f) (z:=z) (e0:=e0) (e1:=e1) (e2:=e2) (e3:=e3) (e4:=e4) (e5:=e5) (e6:=e6) (e7:=e7) (e8:=e8) (e9:=e9) (e10:=e10) (e11:=e11) (e12:=e12) (e13:=e13) (e14:=e14) (e15:=e15) (e16:=e16) (e18:=e18) (e19:=e19) (e22:=e22) (e23:=e23) (e24:=e24) (e25:=e25) (n:=n) (W:=W) hn hf r ((i-1)/2) m (hp.set i p) (wh.set p.h.i.toNat (i:Int)) ω ω ω (by rw[aP];exact hl) (by rw[aP];exact hw) (λx hx=>by rcases cv hx with h1|h1;exact hg x h1;rw[h1];exact⟨p64,prk,jp,pj,pW⟩);have cm:=phi (vg (x:=f) (y:=p) hf.t64 p64 hf.rok prk);have q2:=yP h0 ω;have s1:=Oh (hp:=hp) (z:=z) (i:=i) ω p;have s3:=f7 (l:=wh) (i:=jp) ω (i:Int);have g1:=Gy (z:=z) hp';generalize hkk:vX=kk at ih;subst hkk;unfold vX;simp[EV];rw[ad ω];simp only[EV,q2,ixM (show(i-1)/2<n from ω),aN g1,gV,cm,aa,lJ];by_cases hc:evLess f p=true;rw[ad hc,ad ⟨h0,hc⟩];simp[EV,jk,q2,ixM hiH,ixM (show(i-1)/2<n from ω),aN g1,gV,az,iE,s1,yR,pj,ixM pW,s3];rw[pj,aH] at ih;exact ih;rw[ac hc,ac (λq=>hc q.2)]
def FL {N:Nat}{f0 f1:JT}{f z:Evt}{e0 e1 e2 e3 e4 e5 e6 e7 e8 e9 e10 e11 e12 e13 e14 e15 e16 e18 e19 e22 e23 e24 e25 e26 e27 e28 e29 e30:PV}{n W:Nat}(hn:n<=1000)(hf:GoodE W f):∀(r i m:Nat) (hp:List Evt) (wh:List Int),n<=r+i->r<m->i<n->hp.length=n->wh.length=W->(∀x∈hp,GoodE W x)->dw (bo D) N Du [f0,f1] [e0,e1,e2,e3,e4,e5,e6,e7,e8,e9,e10,e11,e12,e13,e14,e15,e16,.i64 (W:Int),e18,e19,EP f,.i64 (n:Int),e22,e23,e24,e25,e26,e27,e28,e29,e30] m [.i64 (i:Int),sl bY (hp++[z]),sl I1 wh,.i64 ((2*i+1:Nat):Int)]=f1 [sl bY ((eF f r hp wh i).1++[z]),sl I1 (eF f r hp wh i).2.1,.i64 ((eF f r hp wh i).2.2:Int)]|0,i,m,hp,wh,hi,hm,hiH,hl,hw,hg=>ω|r+1,i,m,hp,wh,hi,hm,hiH,hl,hw,hg=>by obtain⟨m,rfl⟩:∃m',m=m'+1:=⟨m-1,ω⟩;have ih:=λ(k:Nat) (p:Evt) (hk:hp[k]?=some p) (hki:i<k)=>FL (N:=N) (f0:=f0) (f1:=f1) (f:=f) (z:=z) (e0:=e0) (e1:=e1) (e2:=e2) (e3:=e3) (e4:=e4) (e5:=e5) (e6:=e6) (e7:=e7) (e8:=e8) (e9:=e9) (e10:=e10) (e11:=e11) (e12:=e12) (e13:=e13) (e14:=e14) (e15:=e15) (e16:=e16) (e18:=e18) (e19:=e19) (e22:=e22) (e23:=e23) (e24:=e24) (e25:=e25) (e26:=e26) (e27:=e27) (e28:=e28) (e29:=e29) (e30:=e30) (n:=n) (W:=W) hn hf r k m (hp.set i p) (wh.set p.h.i.toNat (i:Int)) ω ω (by have:=bj hk;omega) (by rw[aP];exact hl) (by rw[aP];exact hw) (λx hx=>by rcases cv hx with h1|h1;exact hg x h1;rw[h1];exact hg p (ax hk));rw[bk];(have fin:∀(a b c d:PV) (kk:Nat),kid hp i=kk->kk<n->den (bo D) N Kl [f0,f1,λvs=>dw (bo D) N Du [f0,f1] [e0,e1,e2,e3,e4,e5,e6,e7,e8,e9,e10,e11,e12,e13,e14,e15,e16,.i64 (W:Int),e18,e19,EP f,.i64 (n:Int),e22,e23,e24,e25,e26,e27,e28,e29,e30] m vs] ([e0,e1,e2,e3,e4,e5,e6,e7,e8,e9,e10,e11,e12,e13,e14,e15,e16,.i64 (W:Int),e18,e19,EP f,.i64 (n:Int),e22,e23,e24,e25,e26,e27,e28,e29,e30]++[.i64 (i:Int),sl bY (hp++[z]),sl I1 wh,.i64 ((2*i+1:Nat):Int),a,b,c,d,.i64 (kk:Int)])=f1 [sl bY ((eF f (r+1) hp wh i).1++[z]),sl I1 (eF f (r+1) hp wh i).2.1,.i64 ((eF f (r+1) hp wh i).2.2:Int)]:=λa b c d kk hkk hk=>by subst hkk;have ko:=rj hp i;obtain⟨p,hp'⟩:∃p,hp[kid hp i]?=some p:=⟨hp[kid hp i]' ω,ah _⟩;have⟨p64,prk,jp,pj,pW⟩:=hg p (ax hp');(have E:eF f (r+1) hp wh i=if evLess p f=true then eF f r (hp.set i p) (wh.set p.h.i.toNat (i:Int)) (kid hp i) else(hp,wh,i):=by rw[eF,hp']);have ih':=ih _ p hp' ω;have cm:=phi (vg (x:=p) (y:=f) p64 hf.t64 prk hf.rok);have s1:=Oh (hp:=hp) (z:=z) (i:=i) ω p;have s3:=f7 (l:=wh) (i:=jp) ω (i:Int);have g1:=Gy (z:=z) hp';(have w1:IntKind.i64.wrap (2*(kid hp i:Int))=((2*kid hp i:Nat):Int):=by rw[b7 ω ω];omega);rw[E];unfold Kl;simp[EV,ixM hk,aN g1,gV,cm];by_cases hc:evLess p f=true;rw[ad hc,ac (by have:=(lJ p f).2 hc;omega)];simp only[EV,ixM hiH,gV,az,iE,s1,yR,pj,ixM pW,s3,w1,up1 (show 2*kid hp i<1000000000 from ω)];rw[pj,aH] at ih';exact ih';rw[ac hc,ad (by have:=EG (show evLess p f=false by simpa using hc);omega)]);simp only[aY,aQ] at fin;unfold Du;simp only[EV,aa];by_cases h1:2*i+1<n;rw[ad ω];simp only[EV,aa,up1 (show 2*i+1<1000000000 from ω)];obtain⟨e,he⟩:∃e,hp[2*i+1]?=some e:=⟨hp[2*i+1]' ω,ah _⟩;by_cases h2:2*i+1+1<n;rw[ad ω];obtain⟨g,hg'⟩:∃e,hp[2*i+1+1]?=some e:=⟨hp[2*i+1+1]' ω,ah _⟩;have a1:=hg e (ax he);have b1:=hg g (ax hg');have cm:=phi (vg (x:=g) (y:=e) b1.t64 a1.t64 b1.rok a1.rok);(have kE:kid hp i=if evLess g e=true then 2*i+2 else 2*i+1:=by unfold kid;rw[he,show hp[2*i+2]?=some g from hg']);simp only[EV,up1 (show 2*i+1<1000000000 from ω),ixM h1,ixM h2,aN (Gy (z:=z) he),aN (Gy (z:=z) hg'),gV,az,cm];unfold Km;simp only[EV,aa,up1 (show 2*i+1<1000000000 from ω),lJ];by_cases hc:evLess g e=true;rw[ad hc];rw[ad hc] at kE;exact fin _ _ _ _ (2*i+1+1) kE h2;rw[ac hc];rw[ac hc] at kE;exact fin _ _ _ _ (2*i+1) kE h1;rw[ac ω];unfold Km;simp only[EV,au,aw];exact fin _ _ _ _ (2*i+1) (by unfold kid;rw[he,show hp[2*i+2]?=none from bC ω]) h1;rw[ac ω];(have:eF f (r+1) hp wh i=(hp,wh,i):=by have ko:=rj hp i;rw[eF,bC ω]);rw[this]
def yV {f:Evt}:∀(r:Nat) (hp:List Evt) (wh:List Int) (i:Nat),i<hp.length->(d6 f r hp wh i).1.length=hp.length/\(d6 f r hp wh i).2.1.length=wh.length/\(d6 f r hp wh i).2.2<=i/\∀x∈(d6 f r hp wh i).1,x∈hp|0,hp,wh,i,_=>⟨rfl,rfl,aC _,λ_ h=>h⟩|r+1,hp,wh,i,hi=>by unfold d6;split;rename_i p hp';split;have⟨q1,q2,q3,q4⟩:=yV (f:=f) r (hp.set i p) (wh.set p.h.i.toNat (i:Int)) ((i-1)/2) (by rw[aP];omega);refine⟨by rw[q1,aP],by rw[q2,aP],ω,λx hx=>?_⟩;rcases cv (q4 x hx) with h|h;exact h;rw[h];exact ax hp';exact⟨rfl,rfl,aC _,λ_ h=>h⟩;exact⟨rfl,rfl,aC _,λ_ h=>h⟩
def yW {f:Evt}:∀(r:Nat) (hp:List Evt) (wh:List Int) (i:Nat),i<hp.length->(eF f r hp wh i).1.length=hp.length/\(eF f r hp wh i).2.1.length=wh.length/\(eF f r hp wh i).2.2<hp.length|0,hp,wh,i,hi=>⟨rfl,rfl,hi⟩|r+1,hp,wh,i,hi=>by unfold eF;split;rename_i p hp';split;have⟨q1,q2,q3⟩:=yW (f:=f) r (hp.set i p) (wh.set p.h.i.toNat (i:Int)) (kid hp i) (by rw[aP];exact bj hp');rw[aP] at q1 q2 q3;exact⟨q1,q2,q3⟩;exact⟨rfl,rfl,hi⟩;exact⟨rfl,rfl,hi⟩
def abz {hp:List Evt}{z:Evt}:RF.ev .sub [sl bY (hp++[z]),.v (.int .i64 0),.v (.int .i64 (hp.length:Int))]=some (sl bY hp):=by rw[uE,ad (by simp;omega)];simp
def akO (e:Evt):RF.ev (.part 3 2) [EP e]=some (HD e.h):=rfl
open Classical in def akP {a:Agenda}(h:ei a){i j:Nat}{u:Int}{e:Evt}(he:a.heap[i]?=some e)(hh:e.h=⟨(j:Int),u⟩)(h64:∀e∈a.heap,aS e.time):Ans D 409 [AG a,.i64 (i:Int)] [AG (qv a i j),EP e,.i64 0]:=by have hs:=dG.1 h.1;have hP:=mq hs h.2.1;have hsm:=CB h;have n2:=hs.n2;have hl:=h.2.1.2.1;have hi:=bj he;have⟨j',u',e1,e2,e3,e4⟩:=hP.at_ i e he;rw[hh] at e1;simp only[Hnd.mk.injEq] at e1;(have:j'=j:=ω);subst this;have hu:u=u':=e1.2;subst hu;have hw:=bj e4;(obtain⟨hp,f,hq⟩:∃hp f,a.heap=hp++[f]:=by rcases kM a.heap with h|⟨hp,f,h⟩;grind;grind);(have hn:a.heap.length-1=hp.length:=by rw[hq];simp);(have hn':a.heap.length=hp.length+1:=by rw[hq];simp);(have hlast:a.heap[hp.length]?=some f:=by rw[hq];simp);(have good:∀x∈a.heap,GoodE a.w.length x:=λx hx'=>by have⟨k,hk⟩:=aG.1 hx';have⟨j,v,g1,_,_,g4⟩:=hP.at_ k x hk;exact⟨h64 x hx',(h.2.2.1 x hx').1,j,by rw[g1],bj g4⟩);(have hR:qv a i j'=if i=hp.length then⟨l8 a.s j',hp,a.w.set j' (-1)⟩ else⟨l8 a.s j',(l9 hp.length (upS (i+1) (hp.set i f) ((a.w.set j' (-1)).set f.h.i.toNat (i:Int)) i).1 (upS (i+1) (hp.set i f) ((a.w.set j' (-1)).set f.h.i.toNat (i:Int)) i).2.1 (upS (i+1) (hp.set i f) ((a.w.set j' (-1)).set f.h.i.toNat (i:Int)) i).2.2).1,(l9 hp.length (upS (i+1) (hp.set i f) ((a.w.set j' (-1)).set f.h.i.toNat (i:Int)) i).1 (upS (i+1) (hp.set i f) ((a.w.set j' (-1)).set f.h.i.toNat (i:Int)) i).2.1 (upS (i+1) (hp.set i f) ((a.w.set j' (-1)).set f.h.i.toNat (i:Int)) i).2.2).2⟩:=by unfold qv;rw[hn,hlast];simp only;rw[show a.heap.take hp.length=hp by rw[hq];simp]);have c4:=phi (akN hs e2 e3);(have bn:RF.ev .bnd [.v (.int .i64 (hp.length:Int)),.v (.int .i64 ((hp.length+1:Nat):Int))]=some (.i64 (hp.length:Int)):=by rw[lu,ad ⟨ω,ω⟩]);have dn:=xf (n:=hp.length) ω;have s3:=f7 (l:=a.w) (i:=j') hw (-1);(have hls:∀(l:List Int),l.length=a.w.length->RF.ev .sub [sl I1 l,.v (.int .i64 0),.v (.int .i64 (a.w.length:Int))]=some (sl I1 l):=λl hl=>by have:=bS (f:=I1) (l:=l);rw[hl] at this;exact this);refine an ⟨1001,?_⟩;unfold afv;simp only[az,iB,fv,aU he (kg _),aN he,gV,EV,pAG,akO,hh,c4,ki,ay,aE,au,aw,phi (Vd hsm),jI,ai,hn',dn,ixM (show hp.length<hp.length+1 from ω),aN hlast,bn,yR,ixM hw,s3,aa];by_cases hil:i=hp.length;rw[ac ω];rw[hR,ad hil];unfold Kk;simp only[EV,az,pSL,hq,abz,hls _ aP,yQ];(have hil:i<hp.length:=ω);rw[ad ω];have hgf:=good f (by rw[hq];simp);have hgp:∀x∈hp,GoodE a.w.length x:=λx hx=>good x (by rw[hq];simp[hx]);obtain⟨hU,wU,iU,hUe⟩:∃hU wU iU,d6 f (i+1) hp (a.w.set j' (-1)) i=(hU,wU,iU):=⟨_,_,_,rfl⟩;obtain⟨hV,wV,iV,hVe⟩:∃hV wV iV,eF f hp.length hU wU iU=(hV,wV,iV):=⟨_,_,_,rfl⟩;have⟨u1,u2,u3,u4⟩:=yV (f:=f) (i+1) hp (a.w.set j' (-1)) i hil;rw[hUe] at u1 u2 u3 u4;simp only at u1 u2 u3 u4;rw[aP] at u2;have⟨v1,v2,v3⟩:=yW (f:=f) hp.length hU wU iU ω;rw[hVe] at v1 v2 v3;simp only at v1 v2 v3;have up:=An (x:=f) (i+1) hp (a.w.set j' (-1)) i hil;rw[hUe] at up;simp only at up;have dnn:=zT (x:=f) hp.length hU wU iU ω;rw[hVe] at dnn;simp only at dnn;rw[hR,ac ω,up];simp only;rw[dnn];simp only;have⟨f64,frk,jf,fj,fW⟩:=hgf;have hgf:=good f (by rw[hq];simp);(have hq':sl bY a.heap=sl bY (hp++[f]):=by rw[hq]);rw[hq'];refine(MB (N:=1001) (f:=f) (z:=f) (n:=hp.length) (W:=a.w.length) ω hgf (i+1) i 1001 hp (a.w.set j' (-1)) ω ω hil rfl aP hgp).trans ?_;rw[hUe];(have w1:IntKind.i64.wrap (2*(iU:Int))=((2*iU:Nat):Int):=by rw[b7 ω ω];omega);unfold Tn;simp only[EV,w1,up1 (show 2*iU<1000000000 from ω)];refine(FL (N:=1001) (f:=f) (z:=f) (n:=hp.length) (W:=a.w.length) ω hgf hp.length iU 1001 hU wU ω ω ω u1 u2 (λx hx=>hgp x (u4 x hx))).trans ?_;rw[hVe];have s1:=Oh (hp:=hV) (z:=f) (i:=iV) ω f;have s4:=f7 (l:=wV) (i:=jf) ω (iV:Int);have s5:=abz (hp:=hV.set iV f) (z:=f);rw[aP,v1,u1] at s5;unfold Tl;simp only[EV,az,ixM (show iV<hp.length from ω),s1,yR,fj,ixM fW,s4];unfold Kk;simp only[EV,az,pSL,s5,hls _ (show(wV.set jf (iV:Int)).length=a.w.length by rw[aP];omega),yQ,aH]
open Classical in def abA {a:Agenda}(h:ei a){i j:Nat}{u:Int}{e:Evt}(he:a.heap[i]?=some e)(hh:e.h=⟨(j:Int),u⟩)(h64:∀e∈a.heap,aS e.time):Ans D 403 [AG a,HD ⟨j,u⟩] [.i64 (i:Int),.i64 0]:=by have hs:=dG.1 h.1;have hP:=mq hs h.2.1;have⟨j',u',e1,e2,e3,e4⟩:=hP.at_ i e he;rw[hh] at e1;simp at e1;(have:j'=j:=ω);subst this;have hu:=e1.2;subst hu;have m1:=phi (EB (s8 h) h64);rw[aq h] at m1;have e0:okE true=0:=rfl;rw[e0] at m1;refine am ?_;unfold afs;simp only[az,iB,p8,m1,pAG,phi (aby hs e2 e3),jI,sR,EV,ay,aE,au,aw,aU e4 (ct _),aN e4,cp]
def abB {a:Agenda}(h:ei a){i j:Nat}{u:Int}{e:Evt}(he:a.heap[i]?=some e)(hh:e.h=⟨(j:Int),u⟩)(h64:∀e∈a.heap,aS e.time):Ans D 350 [AG a,HD ⟨j,u⟩] [AG (qv a i j),EP e,.i64 0]:=by refine am ?_;unfold ae1;simp[iB,p8,phi (abA h he hh h64),phi (akP h he hh h64),iE,EV]
section
variable {α:Type}{f:α->List PV}{l:List α}{i n:Nat}
def dl1 (hi:i<l.length):RF.ev .sub [.sl (l.map f),.v (.int .i64 (0+((i+1:Nat):Int))),.v (.int .i64 ((l.length:Int)-((i+1:Nat):Int)))]=some (.sl ((l.drop (i+1)).map f)):=by rw[uE,ad (by rw[ai];omega),show(0+((i+1:Nat):Int)).toNat=i+1 from ω,show((l.length:Int)-((i+1:Nat):Int)).toNat=l.length-(i+1) from ω,<-List.map_drop,<-List.map_take,bB (by rw[bD];omega)]
def dl2 (hz:∀a,(f a).length=3)(hi:i<l.length)(hl:l.length<=1000):RF.ev (.appK 24 3) [.sl (l.map f),.v (.int .i64 (i:Int)),.sl ((l.drop (i+1)).map f)]=some (.sl ((l.eraseIdx i++l.drop (l.length-1)).map f)):=by (have ok:ec 3 ((l.drop (i+1)).map f)=true:=by cases e:l.drop (i+1) with|nil=>rfl|cons a k=>simp[ec,hz]);show(if _ then _ else _)=_;rw[ad ⟨ω,by rw[ai];omega,by rw[ai,bD];omega,ok⟩];rw[aH,List.eraseIdx_eq_take_drop_succ,ai,bD,show i+(l.length-(i+1))=l.length-1 from ω];simp_all
def dl3 (z:List PV)(hi:i<l.length):RF.ev (.clr z) [.sl ((l.eraseIdx i++l.drop (l.length-1)).map f),.v (.int .i64 (0+((i:Int)+((l.length-(i+1):Nat):Int)))),.v (.int .i64 ((l.length:Int)-((i:Int)+((l.length-(i+1):Nat):Int))))]=some (.sl ((l.eraseIdx i).map f++[z])):=by have h1:=fy hi;(have h2:(l.drop (l.length-1)).length=1:=by rw[bD];omega);show(if _ then _ else _)=_;rw[ad (by rw[ai,aB,h1,h2];omega),show(0+((i:Int)+((l.length-(i+1):Nat):Int))).toNat=l.length-1 from ω,show((l.length:Int)-((i:Int)+((l.length-(i+1):Nat):Int))).toNat=1 from ω,eS];simp_all
def dl4 (z:List PV)(hi:i<l.length):RF.ev .sub [.sl ((l.eraseIdx i).map f++[z]),.v (.int .i64 0),.v (.int .i64 ((i:Int)+((l.length-(i+1):Nat):Int)))]=some (.sl ((l.eraseIdx i).map f)):=by have h1:=fy hi;rw[uE,ad (by rw[aB,ai,h1];simp;omega),show((i:Int)+((l.length-(i+1):Nat):Int)).toNat=l.length-1 from ω];grind
end
def oh {a b:Nat}(h:a<=b):RF.ev .bnd [.v (.int .i64 (a:Int)),.v (.int .i64 (b:Int))]=some (.i64 (a:Int)):=by rw[lu,ad ⟨ω,ω⟩]
def akQ {l:List Held}{i:Nat}(hi:i<l.length)(hl:l.length<=1000):Ans D 423 [.sl [],.i64 (i:Int),.i64 ((i+1:Nat):Int),sl hrow l] [sl hrow (l.eraseIdx i),.sl []]:=by have h1:=fy hi;have ne:decide ((i:Int)=((i+1:Nat):Int))=false:=aj ω;(have ap:(l.eraseIdx i++l.drop (l.length-1)).length=l.length:=by rw[aB,h1,bD];omega);(have bs:RF.ev .bnd [.v (.int .i64 ((i:Int)+((l.length-(i+1):Nat):Int))),.v (.int .i64 (l.length:Int))]=some (.i64 ((i:Int)+((l.length-(i+1):Nat):Int))):=by rw[lu,ad ⟨ω,ω⟩]);refine am ?_;unfold afy;simp only[EV,ai,oh (aC l.length),oh (show i+1<=l.length from ω),oh (show i<=i+1 from ω),oh (show i<=l.length from ω),ne,au,aw,dl1 (f:=hrow) hi,dl2 (f:=hrow) gH hi hl,ap,bD,bs,dl3 (f:=hrow) [KP.z,KP.z,KP.z] hi,dl4 (f:=hrow) [KP.z,KP.z,KP.z] hi]
def akR {l:List Due}{i:Nat}(hi:i<l.length)(hl:l.length<=1000):Ans D 370 [.sl [],.i64 (i:Int),.i64 ((i+1:Nat):Int),sl cU l] [sl cU (l.eraseIdx i),.sl []]:=by have h1:=fy hi;have ne:decide ((i:Int)=((i+1:Nat):Int))=false:=aj ω;(have ap:(l.eraseIdx i++l.drop (l.length-1)).length=l.length:=by rw[aB,h1,bD];omega);(have bs:RF.ev .bnd [.v (.int .i64 ((i:Int)+((l.length-(i+1):Nat):Int))),.v (.int .i64 (l.length:Int))]=some (.i64 ((i:Int)+((l.length-(i+1):Nat):Int))):=by rw[lu,ad ⟨ω,ω⟩]);refine am ?_;unfold afc;simp only[EV,ai,oh (aC l.length),oh (show i+1<=l.length from ω),oh (show i<=i+1 from ω),oh (show i<=l.length from ω),ne,au,aw,dl1 (f:=cU) hi,dl2 (f:=cU) o9 hi hl,ap,bD,bs,dl3 (f:=cU) [KP.z,KP.z,KP.z] hi,dl4 (f:=cU) [KP.z,KP.z,KP.z] hi]
section
variable {α:Type}{nu:α->Int}
def Asc (nu:α->Int)(l:List α):Prop:=l.Pairwise λa b=>nu a<nu b
def CI {l:List α}(h:Asc nu l){i j:Nat}{a b:α}(hij:i<j)(ha:l[i]?=some a)(hb:l[j]?=some b):nu a<nu b:=by unfold Asc at h;rw[dy] at h;grind
def LBn (nu:α->Int)(l:List α)(id:Int)(m:Nat):Prop:=m<=l.length/\∀(k:Nat) (p:α),l[k]?=some p->(k<m->nu p<id)/\(m<=k->id<=nu p)
def Aq {N:Nat}{f:JT}{K0:K}{e:List PV}{l:List α}{id:Int}(hs:Asc nu l) (key:∀(i j:Nat) (p:α) (self:JT),i<j->j<=l.length->l[(i+j)/2]?=some p->den (bo D) N K0 ([f]++[self]) (e++[.i64 (i:Int),.i64 (j:Int)])=if nu p<id then self [.i64 (((i+j)/2+1:Nat):Int),.i64 (j:Int)] else self [.i64 (i:Int),.i64 (((i+j)/2:Nat):Int)]) (out:∀(i j:Nat) (self:JT),¬i<j->den (bo D) N K0 ([f]++[self]) (e++[.i64 (i:Int),.i64 (j:Int)])=f [.i64 (i:Int)]):∀(m i j:Nat),j-i<m->i<=j->j<=l.length->(∀(k:Nat) (p:α),l[k]?=some p->(k<i->nu p<id)/\(j<=k->id<=nu p))->∃P,LBn nu l id P/\ dw (bo D) N K0 [f] e m [.i64 (i:Int),.i64 (j:Int)]=f [.i64 (P:Int)]|0,i,j,h,_,_,_=>ω|m+1,i,j,h,hij,hj,hb=>by rw[bk];by_cases hlt:i<j;obtain⟨p,hp⟩:∃p,l[(i+j)/2]?=some p:=⟨l[(i+j)/2]' ω,ah _⟩;rw[key i j p _ hlt hj hp];by_cases c:nu p<id;rw[ad c];refine Aq hs key out m _ j ω ω hj λk q hq=>⟨λhk=>?_,(hb k q hq).2⟩;by_cases e:k=(i+j)/2;subst e;rw[hp] at hq;cases hq;exact c;have:=CI hs (show k<(i+j)/2 from ω) hq hp;omega;rw[ac c];refine Aq hs key out m i _ ω ω ω λk q hq=>⟨(hb k q hq).1,λhk=>?_⟩;by_cases e:k=(i+j)/2;subst e;rw[hp] at hq;cases hq;omega;have:=CI hs (show(i+j)/2<k from ω) hp hq;omega;exact⟨i,⟨ω,λk p hp=>⟨(hb k p hp).1,λh=>(hb k p hp).2 ω⟩⟩,out i j _ hlt⟩
def Qw {l:List α}{id:Int}{P i:Nat}{a:α}(h:LBn nu l id P)(hs:Asc nu l)(ha:l[i]?=some a)(e:nu a=id):P=i:=by have⟨h1,h2⟩:=h;by_cases c:i<P;grind;by_cases d:P<i;have hi:=bj ha;obtain⟨b,hb⟩:∃b,l[P]?=some b:=⟨l[P]' ω,ah _⟩;have:=(h2 P b hb).2 (aC _);have:=CI hs d hb ha;omega;omega
def yX {l:List α}(hs:Asc nu l):∀{i:Nat} {a:α},l[i]?=some a->l.eraseIdx i=l.filter λb=>dM (nu a) (nu b):=by induction l with|nil=>intro i a h;cases h|cons x l ih=>intro i a h;unfold Asc at hs;rw[dq] at hs;cases i with|zero=>simp at h;subst h;rw[fi (by simp[dM])];show l=_;rw[d9.2];intro b hb;have:=hs.1 b hb;simp[dM];omega|succ i=>have:=hs.1 a (ax h);rw[fq (by simp[dM];omega)];show x::l.eraseIdx i=_;rw[ih hs.2 h]
end
def ltS (a b:Int):(sgn (a-b)<0)=(a<b):=by unfold sgn;grind
def eqS (a b:Int):(sgn (a-b)=0)=(a=b):=by unfold sgn;grind
def abC (d:Due):RF.ev (.cell 0) [DP d]=some (.i64 d.n):=rfl
def MC {l:List Due}{id:Int}(hs:Asc (·.n) l)(hl:l.length<=1000):∃P:Nat,LBn (·.n) l id P/\ Ans D 347 [sl cU l,.i64 id] [.i64 (P:Int),.bool (match l[P]? with|some d=>decide (d.n=id)|none=>false)]:=by have⟨P,h1,h2⟩:=Aq (N:=1001) (f:=rG (bo D) 1001 J0 [] [sl cU l,.i64 id,.i64 (l.length:Int)]) (K0:=Dp) (e:=[sl cU l,.i64 id,.i64 (l.length:Int)]) (l:=l) (nu:=(·.n)) (id:=id) hs (λi j p self hij hj hp=>by unfold Dp;simp only[aY,aQ,EV,aa,bv hij,UQ (show i<1000000 from ω) (show j<1000000 from ω),b7 (show-9223372036854775808<=(((i+j)/2:Nat):Int) from ω) ω,az,aU hp (o9 p),aN hp,NG,abC,phi (yy _ _),S8,up1 (show(i+j)/2<1000000000 from ω),ltS]) (λi j self hij=>by unfold Dp;simp only[aY,aQ,EV,aa];rw[ac ω]) 1001 0 l.length ω ω (aC _) (λk p hp=>⟨λh=>ω,λh=>by have:=bj hp;omega⟩);refine⟨P,h1,an ⟨1001,?_⟩⟩;unfold aeX;simp only[EV,ai];refine h2.trans ?_;unfold J0;simp only[EV,aa];by_cases hP:P<l.length;obtain⟨d,hd⟩:∃d,l[P]?=some d:=⟨l[P]'hP,ah _⟩;rw[ad ω,hd];simp only[EV,az,aU hd (o9 d),aN hd,NG,abC,phi (yy _ _),JZ,eqS];rw[ac ω,bC ω];unfold JZ;rfl
def abD {l:List Due}{i:Nat}{d:Due}(hs:Asc (·.n) l)(hl:l.length<=1000)(hd:l[i]?=some d):Ans D 347 [sl cU l,.i64 d.n] [.i64 (i:Int),.bool true]:=by have⟨P,h1,h2⟩:=MC (id:=d.n) hs hl;have:=Qw h1 hs hd rfl;grind
def XG {l:List Due}{n:Int}(hs:Asc (·.n) l)(hl:l.length<=1000)(hn:∀d∈l,d.n≠n):∃P:Nat,Ans D 347 [sl cU l,.i64 n] [.i64 (P:Int),.bool false]:=by have⟨P,h1,h2⟩:=MC (id:=n) hs hl;grind
def ut {c:Certs}(h:dA c):Asc (·.n) c.l:=(kR.1 h).2.2.2.2.imp λh=>h.1
def MD {c:Clock}(h:bf c):Asc (·.n) c.d:=by have h1:=(qX h).2;have h2:=ut h.2.2.1;unfold Asc at h2|-;have:(c.q.l.map (·.n)).Pairwise (· <·):=gb.2 h2;exact gb.1 (this.sublist h1)
open Classical in def akS {c:Certs}{i:Nat}{x:Held}(h:dA c)(hx:c.l[i]?=some x):Ans D 422 [CS c,.i64 x.n] [.i64 (i:Int),.i64 0]:=by have hl:=h.1;have hs:=ut h;have m1:=phi (NR (c:=c) ω);rw[aq h] at m1;have e0:okE true=0:=rfl;rw[e0] at m1;have⟨P,h1,h2⟩:=Aq (N:=1001) (f:=rG (bo D) 1001 Kn [] [CS c,.i64 x.n,CS c,.i64 0,.bool false,sl hrow c.l,.i64 (c.l.length:Int)]) (K0:=Dv) (e:=[CS c,.i64 x.n,CS c,.i64 0,.bool false,sl hrow c.l,.i64 (c.l.length:Int)]) (l:=c.l) (nu:=(·.n)) (id:=x.n) hs (λi j p self hij hj hp=>by unfold Dv;simp only[aY,aQ,EV,aa,bv hij,UQ (show i<1000000 from ω) (show j<1000000 from ω),b7 (show-9223372036854775808<=(((i+j)/2:Nat):Int) from ω) ω,az,gj,aU hp (gH p),aN hp,kU,kG,phi (yy _ _),Tp,up1 (show(i+j)/2<1000000000 from ω),ltS]) (λi j self hij=>by unfold Dv;simp only[aY,aQ,EV,aa];rw[ac ω]) 1001 0 c.l.length ω ω (aC _) (λk p hp=>⟨λh=>ω,λh=>by have:=bj hp;omega⟩);have:=Qw h1 hs hx rfl;subst this;have hP:=bj hx;refine an ⟨1001,?_⟩;unfold afx;simp only[az,kW,m1,gj,EV,ai,ay,aE,au,aw];refine h2.trans ?_;unfold Kn;simp only[EV,aa];rw[ad ω];simp only[EV,az,gj,aU hx (gH x),aN hx,kU,kG,phi (yy _ _),To,eqS,ay,aE,au,aw]
def akT {c:Certs}{i:Nat}{x:Held}(h:dA c)(hx:c.l[i]?=some x):Ans D 369 [CS c,.i64 x.n] [CS ⟨c.next,c.l.filter λy=>dM x.n y.n⟩,CP x.c,.i64 0]:=by have hl:=h.1;have hi:=bj hx;have h1:(c.l.eraseIdx i).length=c.l.length-1:=fy hi;have e:c.l.eraseIdx i=c.l.filter λy=>dM x.n y.n:=yX (ut h) hx;have s1:RF.ev .sub [sl hrow (c.l.filter λy=>dM x.n y.n),.v (.int .i64 0),.v (.int .i64 ((c.l.filter λy=>dM x.n y.n).length:Int))]=some (sl hrow (c.l.filter λy=>dM x.n y.n)):=bS;have ag:RF.ev .agg [.i64 c.next,sl hrow (c.l.filter λy=>dM x.n y.n)]=some (CS ⟨c.next,c.l.filter λy=>dM x.n y.n⟩):=rfl;have sh:RF.ev (.shape 2) [CP x.c]=some (CP x.c):=rfl;have pr:RF.ev (.part 0 2) [CP x.c]=some (CP x.c):=rfl;refine am ?_;unfold afb;simp only[az,kW,phi (akS h hx),oa,gj,phi (N0 (l:=c.l) ω),EV,ai,ay,aE,au,aw,up1 (show i<1000000000 from ω),phi (akQ hi ω),aU hx (gH _),aN hx,NF,sh,pr,s1,ag,e]
def abE (c:Certs):RF.ev (.part 0 2) [CS c]=some (CS c):=rfl
def Oi (l:List Due):RF.ev .sub [sl cU l,.v (.int .i64 0),.v (.int .i64 (l.length:Int))]=some (sl cU l):=bS
def abF {c:Clock}(h:bf c)(h64:fD c){i:Nat}{x:Held}(hx:c.q.l[i]?=some x):Ans D 284 [CL c,.i64 x.n] [CL (jd c x.n),CP x.c,.i64 0]:=by have hs:=MD h;have hcs:=mX h;have h3:=h.2.2.1;have h4:=h.2.2.2.1;refine am ?_;unfold ael;have sh:RF.ev (.shape 2) [CP x.c]=some (CP x.c):=rfl;simp only[az,cW,p7,phi (akT h3 hx),kW,sh,EV,ay,aE,au,aw,phi (EF hcs),eI,ai];cases hf:c.d.find? λd=>decide (d.n=x.n) with|none=>(have hall:∀d∈c.d,d.n≠x.n:=λd hd=>by simpa using j7.1 hf d hd);have⟨P,cP⟩:=XG (n:=x.n) hs hcs.d hall;(have eA:nU c x.n=c.a:=by unfold nU;rw[hf]);(have eD:(c.d.filter λd=>dM x.n d.n)=c.d:=d9.2 λd hd=>by unfold dM;simp[hall d hd]);simp only[phi cP,EV,au,aw,az,sW,sX,sY,mh,ob];unfold JM jd;rw[eA,eD];simp only[az,N8,abE,Oi,EV,Gw]|some d=>have hd:=eG hf;(have hdn:d.n=x.n:=by simpa using j8 hf);have⟨k,hk⟩:=aG.1 hd;have⟨m,j,u,e,w1,w2,w3,w4,w5,_⟩:=Ef h hd;have cP:=abD hs hcs.d hk;rw[hdn] at cP;have hkl:=bj hk;have hdl:=hcs.d;(have eA:nU c x.n=qv c.a m j:=by unfold nU;rw[hf];simp only;rw[w4];simp only[aH];rw[w1];simp only[cC,aH]);(have eD:c.d.eraseIdx k=c.d.filter λd=>dM x.n d.n:=by rw[<-hdn];exact yX hs hk);have c5:=phi (abB h4 w2 w3 h64.2);rw[<-w4] at c5;simp only[phi cP,EV,aA,az,nq,eI,aU hk (o9 d),aN hk,Cq,c5,iB,iE,ay,aE,au,aw,abq,up1 (show k<1000000000 from ω),phi (akR hkl hdl),ai,cAG0,cAG1,cAG2,fv,jI];unfold JM jd;rw[eA,<-eD];simp only[az,N8,abE,Oi,EV,Gw]
def aht (e:Evt):RF.ev (.cell 2) [EP e]=some (.i64 e.n):=rfl
def akU (e:Evt):RF.ev (.part 0 2) [EP e]=some (R e.time):=rfl
def ahu (c:Clock):RF.ev (.part 2 9) [CL c]=some (.agg ((clC c).drop 2)):=rfl
def ahv (c:Clock):RF.ev (.part 2 8) [CL c]=some (.agg (((clC c).drop 2).take 8)):=rfl
def abG (c:Clock)(t:Rt):RF.ev .agg [R t,.agg ((clC c).drop 2)]=some (CL (atC c t)):=rfl
def abH (c:Clock)(t:Rt):RF.ev .agg [R t,.agg (((clC c).drop 2).take 8),sl cU c.d]=some (CL (atC c t)):=rfl
def ii (t:Rt):RF.ev (.shape 2) [R t]=some (R t):=rfl
def pRt (t:Rt):RF.ev (.part 0 2) [R t]=some (R t):=rfl
def kC (x:Crt):RF.ev (.shape 2) [CP x]=some (CP x):=rfl
def E0:Evt:=⟨⟨0,0⟩,0,⟨0,0⟩⟩
def C0:Crt:=⟨0,0⟩
def CLz:PV:= .agg [.i64 0,.i64 0,.sl [],.i64 0,.sl [],.sl [],.sl [],.sl [],.sl [],.sl [],.sl []]
def XH:RF.ev .agg [.i64 0,.i64 0,.i64 0,.i64 0,.i64 0]=some (EP E0):=rfl
def XI:RF.ev .agg [.i64 0,.i64 0]=some (CP C0):=rfl
def vL:RF.ev .agg [.i64 0,.i64 0,.sl [],.i64 0,.sl [],.sl [],.sl [],.sl [],.sl [],.sl [],.sl []]=some CLz:=rfl
open Classical in def akV {a:Agenda}(h:ei a)(h64:∀e∈a.heap,aS e.time):Ans D 364 [AG a] (match a.heap[0]? with|some e=>[EP e,.i64 0]|none=>[EP E0,.i64 42]):=by have m1:=phi (EB (s8 h) h64);rw[aq h] at m1;have e0:okE true=0:=rfl;rw[e0] at m1;refine am ?_;unfold ae6;simp only[iB,m1,fv,EV,ai,ay,aE,au,aw,aa];cases hh:a.heap[0]? with|none=>(have:a.heap.length=0:=by rw[gC] at hh;omega);rw[ad ω];simp[EV,XH]|some e=>have hl:=bj hh;rw[ac ω];have z0:(.i64 0:PV)= .v (.int .i64 ((0:Nat):Int)):=rfl;simp[EV,fv,z0,aU hh (kg e),aN hh,gV]
open Classical in def Vs {c:Clock}(h:bf c)(hn:aS c.n){t:Rt}(hr:rok t=true)(ht:aS t)(hp:crs c.n t<=0):Ans D 282 [CL c,R t] [.bool (iz c t),.i64 0]:=by have h4:=h.2.2.2.1;have h64:=pL h hn;have m1:=phi (t8 h64 (xp h));rw[aq h] at m1;have m2:=phi (c43 ht);rw[hr] at m2;have e0:okE true=0:=rfl;rw[e0] at m1 m2;have mm:RF.ev (.mm true) [.v (.int .i64 0),.v (.int .i64 0)]=some (.v (.int .i64 0)):=rfl;have m3:=phi (sH ht hn);rw[hr,h.1] at m3;(have ng:¬sgn (crs t c.n)<0:=by have:=gP t c.n;unfold sgn;grind);have m4:=phi (akV h4 h64.2);refine am ?_;unfold aej;simp only[az,cW,ii,m1,m2,mm,EV,ay,aE,au,aw,gk,m3,gT,aA,ng,bc,nq,m4];cases hh:c.a.heap[0]? with|none=>unfold iz;rw[hh];simp only[EV,az,iE];rfl|some e=>have hm:=ax hh;have m5:=phi (sH (h64.2 e hm) ht);rw[(h4.2.2.1 e hm).1,hr] at m5;(have le:(sgn (crs e.time t)<=0)=(crs e.time t<=0):=by unfold sgn;refine propext ⟨λq=>?_,λq=>?_⟩;split at q;omega;split at q<;>omega;split;omega;rw[ac ω];omega);unfold iz;rw[hh];simp only[EV,az,iE,ay,aE,au,aw,akU,m5,gT,aA,le]
def akW {c:Clock}(h:bf c)(hn:aS c.n){i:Nat}{x:Held}(hx:c.q.l[i]?=some x):Ans D 259 [CL c,.i64 x.n] [CL (jd c x.n),.i64 0]:=by classical have h64:=pL h hn;have m1:=phi (t8 h64 (xp h));rw[aq h] at m1;have e0:okE true=0:=rfl;rw[e0] at m1;refine am ?_;unfold ad7;simp[cW,m1,EV,phi (abF h h64 hx),kC]
def Oj {c:Clock}(h:bf c)(hn:aS c.n){t:Rt}(hr:rok t=true)(ht:aS t)(hp:crs c.n t<=0){e:Evt}(he:c.a.heap[0]?=some e)(hw:iz c t=true){i:Nat}{x:Held}(hx:c.q.l[i]?=some x)(hxe:x.n=e.n):Ans D 196 [CL c,R t] [CL (ed c e),EP e,CP x.c,.i64 0]:=by have h64:=pL h hn;have m1:=phi (Vs h hn hr ht hp);rw[hw] at m1;have m2:=phi (abF h h64 hx);rw[hxe] at m2;have t1:=aU (z:=5) he (kg e);have t2:=aN (f:=bY) (o:=0) (n:=5) he;simp at t1 t2;refine am ?_;unfold VB;simp only[az,cW,ii,m1,EV,ay,aE,aA];unfold IV;unfold IU;simp[EV,mh,t1,t2,gV,aht,m2,ahu,abG];rfl
def Gz {c:Clock}(h:bf c)(hn:aS c.n){t:Rt}(hr:rok t=true)(ht:aS t)(hp:crs c.n t<=0)(hw:iz c t=false):Ans D 196 [CL c,R t] [CLz,EP E0,CP C0,.i64 6]:=by have m1:=phi (Vs h hn hr ht hp);rw[hw] at m1;refine am ?_;unfold VB;simp[cW,ii,m1,EV];unfold IV;unfold IU;have g:(!decide ((6:Int)=0))=true:=rfl;simp[EV,vL,XH,XI]
def Ok {c:Clock}(h:bf c)(hn:aS c.n){t:Rt}(hr:rok t=true)(ht:aS t)(hp:crs c.n t<=0)(hw:iz c t=false):Ans D 195 [CL c,R t] [CL (atC c t),.i64 0]:=by have m1:=phi (Vs h hn hr ht hp);rw[hw] at m1;have cE:∀c:Clock,RF.ev .sub [sl cU c.d,.v (.int .i64 0),.v (.int .i64 (c.d.length:Int))]=some (sl cU c.d):=λc=>bS;refine am ?_;unfold adz;simp[cW,ii,m1,EV];unfold RU;unfold RS;simp[EV,phi (EF (mX h)),cW,eI,pRt,ahv,cE,abH]
def CSz:PV:= .agg [.i64 0,.sl []]
def AGz:PV:= .agg [.sl [],.sl [],.sl [],.sl [],.sl []]
def Qx:RF.ev .agg [.i64 0,.sl []]=some CSz:=rfl
def abI:RF.ev .agg [.sl [],.sl [],.sl [],.sl [],.sl []]=some AGz:=rfl
def ahw:RF.ev (.shape 2) [CSz]=some CSz:=rfl
def XJ:RF.ev (.shape 5) [AGz]=some AGz:=rfl
def ahx:RF.ev (.shape 3) [Gs]=some Gs:=rfl
def Vt:RF.ev (.shape 2) [H0]=some H0:=rfl
open Classical in def ahy {c:Certs}{x:Crt}(h:dA c)(hx:x.ok)(hn:∀g∈c.l,g.c≠x)(hf:c.l.length=200\/c.next=1000000):Ans D 352 [CS c,CP x] [CSz,.i64 0,.i64 18]:=by have hl:=h.1;have e0:okE true=0:=rfl;have m1:=phi (NR (c:=c) ω);rw[aq h,e0] at m1;have m2:=phi (UY x);rw[aq hx] at m2;refine an ⟨1001,?_⟩;unfold VH;simp only[az,kW,lN,m1,m2,gj,EV,ai,ay,aE,au,aw];refine(cf (m:=1001) (l:=c.l) (p:=λg=>!decide (g.c=x)) (st:=λi=>[.i64 (i:Int)]) (r:=none) (fin:=some [CSz,.i64 0,.i64 18]) (λi g self hg _=>?_) (λhall self=>?_) ω).trans ?_;have hne:¬g.c=x:=hn g (ax hg);unfold zf;simp only[az,gj,aU hg (gH _),aN hg,kU,pHP,Bw,EV,aa,bv (aK hg),up1 (show i<1000000000 by have:=aK hg;omega),hne,bc,bR,au,aA,aw];unfold zf;simp only[EV,aa,bI];unfold J8;have g0:decide ((-1:Int)>=0)=false:=rfl;simp only[EV,g0,au,aw,az,gj,ai,aa];by_cases h1:(c.l.length:Int)=200;rw[ad h1];simp only[EV,az,Qx];rw[ac h1];have h2:c.next=1000000:=hf.resolve_left ω;simp only[EV,az,oa,h2,Qx,ay,aA];rw[ad (by rw[aX];intro g hg;simpa using hn g hg)]
open Classical in def ahz {s:Slots}(h:SFine s)(ho:iN s=false):Ans D 408 [SL s] [Gs,H0,.i64 18]:=by have hc:=phi (NQ (xh h));rw[aq (dG.2 h)] at hc;have e0:okE true=0:=rfl;rw[e0] at hc;refine am ?_;unfold VK;rcases free_last h with e|⟨fr,i,u,e,hu,h1,h2⟩;simp only[ki,hc,km,e,EV,ay,aE,au,aw,Xz,N3];rfl;rw[xg e hu] at ho;have hm:=(h.u i u hu).2.1;(have hu':u=1000000:=by simp only[ak] at ho;omega);subst hu';(have hne:¬((s.f.length:Nat):Int)=0:=by rw[e];simp;omega);have c4:=phi (abm (fr:=fr) (i:=(i:Int)) ω);rw[<-e] at c4;simp only[az,ki,hc,kj,lQ,km,EV,ai,ay,aE,au,aw,hne,bc,c4,aU hu (ct _),aN hu,cp,aA,Xz,N3]
def XK {a:Agenda}(h:ei a)(ho:iN a.s=false){t:Rt}{n:Int}(hx:rok t=true/\ 0<=n/\ n<=1000000)(hn:n∉a.heap.map (·.n))(ht:aS t)(h64:∀e∈a.heap,aS e.time):Ans D 349 [AG a,R t,.i64 n] [AGz,H0,.i64 18]:=by classical have hs:=dG.1 h.1;have n2:=hs.n2;have hl:=h.2.1.2.1;have m1:=phi (EB (s8 h) h64);rw[aq h] at m1;have m2:=phi (c43 ht);rw[hx.1] at m2;have e0:okE true=0:=rfl;rw[e0] at m1 m2;have mm:RF.ev (.mm true) [.v (.int .i64 0),.v (.int .i64 0)]=some (.v (.int .i64 0)):=rfl;refine an ⟨1001,?_⟩;unfold VG;simp only[az,iB,bM,m1,m2,mm,fv,EV,ai,ay,aE,au,aw,aa,cM];rw[ac ω,ac ω];refine(cf (m:=1001) (l:=a.heap) (p:=λg=>!decide (g.n=n)) (st:=λi=>[.i64 (i:Int)]) (r:=none) (fin:=some [AGz,H0,.i64 18]) (λk g self hg hall=>?_) (λhall self=>?_) ω).trans ?_;have hne:¬g.n=n:=λe=>hn (aW.2 ⟨g,ax hg,e⟩);unfold vV;simp only[az,fv,aU hg (kg _),aN hg,gV,xb,EV,aa,bv (aK hg),up1 (show k<1000000000 by have:=aK hg;omega),hne,bc,bR,au,aA,aw];unfold vV;simp only[EV,aa,bI];unfold J7;have g0:decide ((-1:Int)>=0)=false:=rfl;have g1:(!decide ((18:Int)=0))=true:=rfl;simp only[EV,g0,g1,au,aw,aA,az,pAG,phi (ahz hs ho),ahx,Vt,abI,N3];rw[ad (by rw[aX];intro g hg;simpa usingλe=>hn (aW.2 ⟨g,hg,e⟩))]
open Classical in def ahA {c:Clock}{x:Crt}(h:CAd c x)(hn:aS c.n)(hf:qw c x):Ans D 263 [CL c,CP x] [CLz,.i64 0,.i64 18]:=by have hc:=mX h.ok;have h64:=pL h.ok hn;have m1:=phi (t8 h64 (xp h.ok));rw[aq h.ok,show okE true=0 from rfl] at m1;have hF:=h.ok.2.1;have n8:decide ((0:Int)=8)=false:=rfl;have n18:decide ((18:Int)=8)=false:=rfl;have g1:(!decide ((18:Int)=0))=true:=rfl;have p1:=qc hF h.j;have p2:=qc hF h.h;refine am ?_;unfold O7;by_cases h1:c.q.l.length=200\/c.q.next=1000000;simp only[az,cW,lN,p7,iC,m1,phi (ahy h.ok.2.2.1 h.cok h.new h1),ahw,lO,lP,phi (Bu hF _),BF,EV,ay,aE,au,aw,n18,aj p1,aj p2,g1,aA,vL];have⟨hf,ho⟩:=hf.resolve_left h1;have hlen:=h.ok.2.2.1.1;have hnx:=h.ok.2.2.1.2.2.1;have m2:=phi (abp h.ok.2.2.1 h.cok h.new ω ω);have m3:=phi (NM (x:=x) hF h64.1);rw[ad (EH hF h.ok.1 h.cok h.j h.h)] at m3;have hf':(cH c.n (ptOf c.p x.h) (ptOf c.p x.j)).2=true:=hf;rw[hf'] at m3;have⟨f1,f2⟩:=sj hF h64.1 h.ok.1 h.j h.h hf';have m4:=phi (XK h.ok.2.2.2.1 ho (t:=(fT c x).1) (n:=c.q.next) ⟨f1,h.ok.2.2.1.2.1,ω⟩ (xn h.ok) f2 h64.2);have m4:bo D 349 [AG c.a,R (cH c.n (ptOf c.p x.h) (ptOf c.p x.j)).1,.v (.int .i64 c.q.next)]=_:=m4;simp only[az,cW,lN,bM,p7,iC,gk,nq,m1,m2,kW,lO,lP,phi (Bu hF _),BF,EV,ay,aE,au,aw,n8,aj p1,aj p2,phi (EF hc),eI,ai,m3,m4,XJ,Vt,g1,aA,vL]
def Zi {c:Clock}{x:Crt}(h:CAd c x)(hn:aS c.n)(hf:¬qw c x):Ans D 263 [CL c,CP x] [CL (m8 c x),.i64 c.q.next,.i64 0]/\ Ans D 294 [CL c,CP x] [CL (m8 c x),.i64 c.q.next,.i64 0]:=by have ha:=h.add hf;have h64:=pL h.ok hn;have⟨a1,a2⟩:=akz ha h64;have⟨b1,b2⟩:=akA ha h64;unfold m8;by_cases h1:(fT c x).2=true;rw[ad h1];(have ho:iN c.a.s=true:=by cases q:iN c.a.s with|true=>rfl|false=>exact absurd (.inr ⟨h1,q⟩) hf);have⟨fr,i,u,e,hu,hm⟩:=zW (dG.1 h.ok.2.2.2.1.1) ho;(have e1:frL c=fr:=by unfold frL;rw[e];simp);(have e2:frI c=i:=by unfold frI;rw[e];simp);grind;grind
def Ol {es:List Crt}{l:List Held}{c:Clock}{k:Nat}{x:Held}(hx:l[k]?=some x):dropL es (l.take (k+1)) c=if x.c∈es then dropL es (l.take k) c else jd (dropL es (l.take k) c) x.n:=by unfold dropL;rw[cA,hx,List.foldl_append];rfl
def Vu {es:List Crt}{c:Clock}(h:bf c){k:Nat}{x:Held}(hx:c.q.l[k]?=some x):∃i:Nat,(dropL es (c.q.l.take k) c).q.l[i]?=some x:=by have:=(fF es (c.q.l.take k) c h).2.2;refine aG.1 ?_;rw[this,be];refine⟨ax hx,?_⟩;rw[aX];intro y hy;have⟨j,hj⟩:=aG.1 hy;(have hjk:j<k:=by have:=bj hj;rw[aL] at this;omega);rw[d4 hjk] at hj;have:=CI (ut h.2.2.1) hjk hj hx;simp[dM];omega
def stC (c:Clock):List PV:=[.i64 c.n.num,.i64 c.n.den,sl row c.p,.i64 c.q.next,sl hrow c.q.l,sl I1 c.a.s.u,sl B1 c.a.s.v,sl I1 c.a.s.f,sl bY c.a.heap,sl I1 c.a.w,sl cU c.d]
def q9 {es:List Crt}{c:Clock}(h:bf c)(hn:aS c.n)(l:List Held):aS (dropL es l c).n:=by rw[(fF es l c h).1.n];exact hn
def ME {N:Nat}{f:JT}{c:Clock}{es:List Crt}(h:bf c)(hn:aS c.n)(hE:es.length<=1000){e0 e1 e4 e5:PV}:dw (bo D) N Dj [f] [e0,e1,sl crow es,CL c,e4,e5,.i64 (c.q.l.length:Int)] 1001 (stC c++[.i64 ((0:Nat):Int)])=f (stC (dropL es c.q.l c)):=by have hl:=h.2.2.1.1;have e:stC c=stC (dropL es (c.q.l.take 0) c):=rfl;rw[e];refine(eM (m:=1001) (n:=c.q.l.length) (st:=λk=>stC (dropL es (c.q.l.take k) c)++[.i64 (k:Int)]) (fin:=f (stC (dropL es c.q.l c))) (λk self hk=>?_) (λself=>?_) ω);have hx:c.q.l[k]?=some c.q.l[k]:=ah _;generalize c.q.l[k]=x at hx;have⟨i,hi⟩:=Vu (es:=es) h hx;have A:=(fF es (c.q.l.take k) c h).1;have m:=phi (akW A.ok (q9 h hn _) hi);rw[Ol hx];generalize dropL es (c.q.l.take k) c=a at A m;clear hi;unfold Dj;simp only[stC,aY,aQ,EV,aa,bv hk,az,iD,aU hx (gH _),aN hx,kU,pHP,phi (yD x.c hE)];by_cases hm:x.c∈es;simp only[hm,ay,aE,au,aw,aA,EV,IP,up1 (show k<1000000000 from ω)];simp only[hm,bc,bR,aA,aw,az,gX,kG,m,cW,yJ,yK,sO,BA,iD,sW,sX,sY,mh,ob,eI,EV,IP,up1 (show k<1000000000 from ω)];have e:c.q.l.take c.q.l.length=c.q.l:=eC;rw[e];unfold Dj;simp only[stC,aY,aQ,EV,aa,bI]
def jC:RF.ev (.shape 11) [CLz]=some CLz:=rfl
open Classical in
def rS {N:Nat}{f:JT}{l:List Pt}{es:List Crt}{e0 e1 e3 e4 e5 e6 e7 e8 e9 e10 e11 e12 e13 e14 e15 e16 e17 e18 e19 e20 e21 e22 e23 e24 e25 e26 e27 e28 e29 e30 e31 e32:PV}(hE:EdgF l es)(hlen:es.length<=1000)(hN:1001<=N):∀(r k m:Nat) (a:Clock),k+r=es.length->r<m->bf a->aS a.n->a.p=l->
  dw (bo D) N y7 [f] [e0,e1,sl crow es,e3,e4,e5,e6,e7,e8,e9,e10,e11,e12,e13,e14,e15,e16,e17,e18,e19,e20,e21,e22,e23,e24,e25,e26,e27,e28,e29,e30,e31,e32,.i64 (es.length:Int)] m (.i64 0::(stC a++[.i64 (k:Int)]))=match addL (es.drop k) a with|some d=>f (stC d)|none=>some [CLz,.i64 18]
 |0,k,m,a,hk,hm,h,hn,hp=>by
  obtain⟨m,rfl⟩:∃m',m=m'+1:=⟨m-1,by omega⟩;rw[bk,cZ (by omega)];unfold y7 addL;simp only[stC,aY,aQ,EV,aa];rw[ac (by omega)]
 |r+1,k,m,a,hk,hm,h,hn,hp=>by
  obtain⟨m,rfl⟩:∃m',m=m'+1:=⟨m-1,by omega⟩;have hkl:k<es.length:=by omega
  obtain⟨x,hx⟩:∃x,es[k]?=some x:=⟨es[k],ah _⟩;have hxm:=ax hx;have hdr:es.drop k=x::es.drop (k+1):=by
   rw[cT hkl,(aD.1 hx).2]
  have ih:=λ(a:Clock) h hn hp=>rS (N:=N) (f:=f) (l:=l) (es:=es) (e0:=e0) (e1:=e1) (e3:=e3) (e4:=e4) (e5:=e5) (e6:=e6) (e7:=e7) (e8:=e8) (e9:=e9) (e10:=e10) (e11:=e11) (e12:=e12) (e13:=e13) (e14:=e14) (e15:=e15) (e16:=e16) (e17:=e17) (e18:=e18) (e19:=e19) (e20:=e20) (e21:=e21) (e22:=e22) (e23:=e23) (e24:=e24) (e25:=e25) (e26:=e26) (e27:=e27) (e28:=e28) (e29:=e29) (e30:=e30) (e31:=e31) (e32:=e32) hE hlen hN r (k+1) m a (by omega) (by omega) h hn hp;have hal:=h.2.2.1.1;rw[bk,hdr];have g0:decide (-1>=(0:Int))=false:=rfl;have g18:(!decide ((18:Int)=0))=true:=rfl;have E:addL (x::es.drop (k+1)) a=if(a.q.l.any λh=>decide (h.c=x))=true then addL (es.drop (k+1)) a else if qw a x then none else addL (es.drop (k+1)) (m8 a x):=rfl
  rw[E];generalize hkk:y7=kk at ih;subst hkk;unfold y7;simp only[stC,aY,aQ,EV,aa,bv hkl,az,aU hx (jg _),aN hx,wZ,ai];refine(cf (m:=N) (l:=a.q.l) (p:=λg=>!decide (g.c=x)) (st:=λi=>[.i64 (i:Int)]) (r:=match addL (es.drop (k+1)) a with|some d=>f (stC d)|none=>some [CLz,.i64 18]) (fin:=if qw a x then some [CLz,.i64 18] else match addL (es.drop (k+1)) (m8 a x) with|some d=>f (stC d)|none=>some [CLz,.i64 18]) (λi g self' hg _=>?_) (λhall self'=>?_) (by omega)).trans ?_
  .rw[<-ih a h hn hp];unfold IM;simp only[az,aU hg (gH _),aN hg,kU,pHP,Bw,EV,aa,bv (aK hg),up1 (show i<1000000000 by have:=aK hg;omega)]
   by_cases hc:g.c=x
   .rw[ad hc,ac (show¬((!decide (g.c=x))=true) by simp[hc])]
    simp only[EV,az,lO,lP];unfold IL;simp only[EV,up1 (show k<1000000000 by omega),stC,aY,aQ]
    rw[ad (by omega)];rfl
   .rw[ac hc,ad (show(!decide (g.c=x))=true by simp[hc])]
  .have hany:(a.q.l.any λh=>decide (h.c=x))=false:=by
    rw[gR];intro g hg;have:=aX.1 hall g hg;simpa using this
   have hcd:=Eh hE h hp hxm hany;unfold IM;simp only[EV,aa,bI];unfold RI;by_cases hfl:qw a x
   .rw[ad hfl];simp only[EV,g0,g18,au,aw,aA,az,gX,phi (ahA hcd hn hfl),jC,vL]
   .rw[ac hfl];obtain⟨q1,q2,q3,q4⟩:=x7 hcd hn hfl;rw[<-ih (m8 a x) q1 (by rw[q4];exact hn) (q3.trans hp)];simp only[EV,g0,au,aw,az,gX,phi (Zi hcd hn hfl).1,cW,ay,aE,yJ,yK,sO,BA,iD,sW,sX,sY,mh,ob,eI,lO,lP];unfold IL;simp only[EV,up1 (show k<1000000000 by omega),stC,aY,aQ]
    rfl
  .by_cases hall:(a.q.l.all λg=>!decide (g.c=x))=true
   .have hany:(a.q.l.any λh=>decide (h.c=x))=false:=by
     rw[gR];intro g hg;have:=aX.1 hall g hg;simpa using this
    rw[ad hall,hany,ac (show¬(false=true) by simp)]
    by_cases hfl:qw a x
    .rw[ad hfl,ad hfl]
    .rw[ac hfl,ac hfl];rfl
   .rw[ac hall];have hany:(a.q.l.any λh=>decide (h.c=x))=true:=by
     cases q:a.q.l.any λh=>decide (h.c=x) with
     |true=>rfl
     |false=>
      rw[gR] at q;exact absurd (aX.2 λg hg=>by simpa using q g hg) hall
    rw[hany,ad (show true=true from rfl)]
    rfl
def iY (es:List Crt)(c:Clock):List PV:=match cL es c with|some d=>[CL d,.i64 0]|none=>[CLz,.i64 18]
def Om {c:Clock}{es:List Crt}(h:bf c)(hn:aS c.n)(hE:EdgF c.p es)(hl:es.length<=1000):Ans D 169 [CL c,F c.p,sl crow es] (iY es c):=by
 obtain⟨q1,_,_⟩:=fF es c.q.l c h;have hp:=q1.p;have hpl:=(mX h).p;have e234:=phi (abu (l:=c.p) (k:=c.p) (by omega));rw[aq rfl] at e234;have key:den (bo D) 1001 IQ [] [CL c,F c.p,sl crow es]=some (iY es c):=by
  unfold IQ;simp only[az,cW,bb,yJ,yK,sO,BA,iD,sW,sX,sY,mh,ob,eI,EV,ai];refine(ME (N:=1001) h hn hl).trans ?_;unfold IN;simp only[stC,aY,aQ,EV,az,cj,hp,e234,aE,au,aw];unfold Di;simp only[EV,ai];have al:=λ(f:JT) (e0 e1 e3 e4 e5 e6 e7 e8 e9 e10 e11 e12 e13 e14 e15 e16 e17 e18 e19 e20 e21 e22 e23 e24 e25 e26 e27 e28 e29 e30 e31 e32:PV)=>rS (N:=1001) (f:=f) (l:=c.p) (es:=es) (e0:=e0) (e1:=e1) (e3:=e3) (e4:=e4) (e5:=e5) (e6:=e6) (e7:=e7) (e8:=e8) (e9:=e9) (e10:=e10) (e11:=e11) (e12:=e12) (e13:=e13) (e14:=e14) (e15:=e15) (e16:=e16) (e17:=e17) (e18:=e18) (e19:=e19) (e20:=e20) (e21:=e21) (e22:=e22) (e23:=e23) (e24:=e24) (e25:=e25) (e26:=e26) (e27:=e27) (e28:=e28) (e29:=e29) (e30:=e30) (e31:=e31) (e32:=e32) hE hl (aC _) es.length 0 1001 (dropL es c.q.l c) (by omega) (by omega) q1.ok (q9 h hn _) hp;simp only[stC,hp,aY,aQ] at al;refine(al _ _ _ _ _ _ _ _ _ _ _ _ _ _ _ _ _ _ _ _ _ _ _ _ _ _ _ _ _ _ _ _ _).trans ?_;rw[dl];unfold iY cL;cases addL es (dropL es c.q.l c) with
  |none=>rfl
  |some d=>
   unfold Dh;simp only[EV,az,gX]
 unfold iY at key|-;cases hr:cL es c with
 |none=>rw[hr] at key;exact an ⟨1001,key⟩
 |some d=>rw[hr] at key;exact an ⟨1001,key⟩
open Classical in def abJ {c:Clock}{es:List Crt}(h:bf c)(hn0:aS c.n)(hE:EdgOk c.p es):den (bo D) 1001 JB [] [CL c,F c.p,sl crow es]=some (iY es c):=by have hl:=h.2.1;have hlen:=hE.len;have m1:=phi (t8 (pL h hn0) (xp h));rw[aq h,show okE true=0 from rfl] at m1;have m2:=phi (sL c.p);rw[fC.2 hl] at m2;unfold JB;simp only[az,cW,bb,m1,m2,EV,ay,aE,au,aw,ai];refine(cf (m:=1001) (l:=es) (p:=λ_=>true) (st:=λi=>[.i64 (i:Int)]) (r:=none) (fin:=some (iY es c)) (λi x self hx _=>?_) (λ_ self=>?_) ω).trans (ad (by simp));have⟨o1,o2,o3,o4,o5⟩:=hE.ok x (ax hx);unfold zd;simp only[az,aU hx (jg _),aN hx,wZ,lO,lP,EV,aa,bv (aK hx),cM,up1 (show i<1000000000 by have:=aK hx;omega)];grind;unfold zd;simp only[EV,aa,bI];unfold JA;simp only[EV,ai];refine(cf (m:=1001) (l:=es) (p:=λ_=>true) (st:=λi=>[.i64 (i:Int)]) (r:=none) (fin:=some (iY es c)) (λi x self hx _=>?_) (λ_ self=>?_) ω).trans (ad (by simp));(have hn:x∉es.take i:=λhm=>by have⟨j,hj⟩:=aG.1 hm;(have hji:j<i:=by have:=aK hj;rw[aL] at this;omega);rw[d4 hji] at hj;have:=cz.1 hE.nd j i x hj hx;omega);have m3:=phi (yD (l:=es.take i) x (by rw[aL];omega));rw[aj hn] at m3;have hi:=aK hx;unfold zc;simp only[az,aU hx (jg _),aN hx,wZ,abv (show i<=es.length from ω),XE (show i<=es.length from ω),m3,EV,ai,aa,bv hi,au,aw,aA,up1 (show i<1000000000 from ω)];unfold zc;simp only[EV,aa,bI];unfold Jz;simp only[EV,ai];refine(cf (m:=1001) (l:=es) (p:=λ_=>true) (st:=λi=>[.i64 (i:Int)]) (r:=none) (fin:=some (iY es c)) (λi x self hx _=>?_) (λ_ self=>?_) ω).trans (ad (by simp));have⟨a,p,a1,a2,_⟩:=lZ hl (hE.j x (ax hx));have⟨b,q,b1,b2,_⟩:=lZ hl (hE.h x (ax hx));have n1:=phi (Bt hl a1);have n2:=phi (Bt hl b1);rw[a2] at n1;rw[b2] at n2;unfold zb;simp only[az,aU hx (jg _),aN hx,wZ,lO,lP,n1,n2,BI,EV,ai,aa,bv (aK hx),ay,aE,au,aw,aA,up1 (show i<1000000000 by have:=aK hx;omega)];unfold zb;simp only[EV,aa,bI];unfold Jy;have m4:=phi (Om h hn0 ⟨hE.ok,hE.j,hE.h⟩ ω);have pz:RF.ev (.part 0 11) [CLz]=some CLz:=rfl;unfold iY at m4|-;cases hr:cL es c with|none=>rw[hr] at m4;simp only[EV,az,phi (N2 (mX h)),m4,jC,pz]|some d=>rw[hr] at m4;simp only[EV,az,phi (N2 (mX h)),m4,cW,jU]
def On {c:Clock}{es:List Crt}(h:bf c)(hn:aS c.n)(hE:EdgOk c.p es):Ans D 264 [CL c,F c.p,sl crow es] (iY es c):=by have key:=abJ h hn hE;unfold iY at key|-;cases hr:cL es c with|none=>rw[hr] at key;exact an ⟨1001,key⟩|some d=>rw[hr] at key;exact an ⟨1001,key⟩
def KTz:PV:= .agg [.i64 0,.i64 0,.sl [],.i64 0,.sl [],.sl [],.sl [],.sl [],.sl [],.sl [],.sl [],.sl [],.sl []]
def HTz:PV:= .agg [.i64 0,.i64 0,.sl [],.i64 0,.sl [],.sl [],.sl [],.sl [],.sl [],.sl [],.sl [],.i64 0,.sl []]
def KHz:PV:= .agg [.i64 0,.i64 0,.sl [],.i64 0,.sl [],.sl [],.sl [],.sl [],.sl [],.sl [],.sl [],.sl []]
def HK:RF.ev .agg [.i64 0,.i64 0,.sl [],.i64 0,.sl [],.sl [],.sl [],.sl [],.sl [],.sl [],.sl [],.sl [],.sl []]=some KTz:=rfl
def HL:RF.ev .agg [.i64 0,.i64 0,.sl [],.i64 0,.sl [],.sl [],.sl [],.sl [],.sl [],.sl [],.sl [],.i64 0,.sl []]=some HTz:=rfl
def tf:RF.ev .agg [.i64 0,.i64 0,.sl [],.i64 0,.sl [],.sl [],.sl [],.sl [],.sl [],.sl [],.sl [],.sl []]=some KHz:=rfl
def CJ (c:Clock)(pl:List Int):List PV:=match cL (edsB (bracketOf c.n c.p pl).w pl (bracketOf c.n c.p pl).w.length) c with|some d=>[KT ⟨d,bracketOf c.n c.p pl⟩,.i64 0]|none=>[KTz,.i64 18]
def CK (c:Clock):List PV:=match cL (edgsT (cart c.n c.p).n c.p.length) c with|some d=>[HT ⟨d,cart c.n c.p⟩,.i64 0]|none=>[HTz,.i64 18]
def CM (c:Clock):List PV:=match cL (edgesU c.p (upsO c.n c.p)) c with|some d=>[KH ⟨d,upsO c.n c.p⟩,.i64 0]|none=>[KHz,.i64 18]
def g18:(!decide ((18:Int)=0))=true:=rfl
section
variable {c:Clock}(h:bf c)(hn:aS c.n)
include h hn
theorem XL {pl:List Int}(h1:1<=pl.length)(h2:pl.length<=64)(hv:∀x∈pl,dB c.p x)(ho:gf pl):Ans D 170 [CL c,F c.p,sl I1 pl] (CJ c pl):=by have hl:=h.2.1;have hE:=q8 (t:=c.n) hl h1 h2 hv ho;have m1:bo D 159 [F c.p,R c.n,sl I1 pl]=some [BR (bracketOf c.n c.p pl),sl crow (edsB (bracketOf c.n c.p pl).w pl (bracketOf c.n c.p pl).w.length)]:=phi (Va hl hn h.1 h1 h2 hv ho rfl);have m2:=phi (On h hn hE);unfold iY at m2;unfold CJ;cases hr:cL (edsB (bracketOf c.n c.p pl).w pl (bracketOf c.n c.p pl).w.length) c with|none=>rw[hr] at m2;refine am ?_;unfold Vz;simp[cW,bb,gk,m1,mi,m2,EV,jC,HK]|some d=>rw[hr] at m2;refine am ?_;unfold Vz;simp[cW,bb,gk,m1,mi,m2,EV,jU,Vp,Ob]
theorem XM:Ans D 172 [CL c,F c.p] (CK c):=by have hl:=h.2.1;have hE:=te (t:=c.n) hl;have m2:=phi (On h hn hE);unfold iY at m2;unfold CK;cases hr:cL (edgsT (cart c.n c.p).n c.p.length) c with|none=>rw[hr] at m2;refine am ?_;unfold VA;simp[cW,bb,gk,phi (NZ hl hn h.1 (qa hl) (vH hl)),uX,m2,EV,jC,HL]|some d=>rw[hr] at m2;refine am ?_;unfold VA;simp[cW,bb,gk,phi (NZ hl hn h.1 (qa hl) (vH hl)),uX,m2,EV,jU,HI,CG]
theorem XN:Ans D 173 [CL c,F c.p] (CM c):=by have hl:=h.2.1;have hE:=tc (t:=c.n) hl;have m2:=phi (On h hn hE);unfold iY at m2;unfold CM;cases hr:cL (edgesU c.p (upsO c.n c.p)) c with|none=>rw[hr] at m2;refine am ?_;unfold IS;simp[cW,bb,gk,phi (EC hl hn h.1),m2,EV,jC,tf]|some d=>rw[hr] at m2;refine am ?_;unfold IS;simp[cW,bb,gk,phi (EC hl hn h.1),m2,EV,jU,Oa]
end
def Qy {l:List Pt}(h:okF l):EdgH l λt=>edgesU l (upsO t l):=⟨λt _ _=>let q:=tc (t:=t) h;⟨q.ok,q.j,q.h⟩,λt _ _ x hx=>(gI h hx).2.2⟩
def Qz {l:List Pt}(h:okF l):EdgH l λt=>edgsT (cart t l).n l.length:=⟨λt _ _=>let q:=te (t:=t) h;⟨q.ok,q.j,q.h⟩,λt _ _ x hx=>(ji h hx).2.2⟩
def MF {l:List Pt}{pl:List Int}(h:okF l)(h1:1<=pl.length)(h2:pl.length<=64)(hv:∀x∈pl,dB l x)(ho:gf pl):EdgH l λt=>edsB (bracketOf t l pl).w pl (bracketOf t l pl).w.length:=⟨λt _ _=>let q:=q8 (t:=t) h h1 h2 hv ho;⟨q.ok,q.j,q.h⟩,λt _ _ x hx=>let⟨_,b2,b3⟩:=k9 (t:=t) h h1 h2 hv ho;(kX (b:=bracketOf t l pl) h b2 hv b3 hx).2.2⟩
def CN (c:Clock)(u:List Int):RF.ev .agg [CL c,sl I1 u]=some (KH ⟨c,u⟩):=rfl
def Oo (x:Crt):RF.ev (.bs 1 [KP.z,KP.z] [0]) [CP x]=some (sl crow [x]):=rfl
def GA (x:Crt):RF.ev .sub [sl crow [x],.v (.int .i64 0),.v (.int .i64 1)]=some (sl crow [x]):=rfl
def xr (k:KHeap):RF.ev (.cell 11) [KH k]=some (sl I1 k.heap):=rfl
section
variable (k:KHeap)
def cH0:RF.ev (.cell 0) [KH k]=some (.i64 k.c.n.num):=rfl
def cH1:RF.ev (.cell 1) [KH k]=some (.i64 k.c.n.den):=rfl
def cH2:RF.ev (.cell 2) [KH k]=some (sl row k.c.p):=rfl
def cH3:RF.ev (.cell 3) [KH k]=some (.i64 k.c.q.next):=rfl
def cH4:RF.ev (.cell 4) [KH k]=some (sl hrow k.c.q.l):=rfl
def cH5:RF.ev (.cell 5) [KH k]=some (sl I1 k.c.a.s.u):=rfl
def cH6:RF.ev (.cell 6) [KH k]=some (sl B1 k.c.a.s.v):=rfl
def cH7:RF.ev (.cell 7) [KH k]=some (sl I1 k.c.a.s.f):=rfl
def cH8:RF.ev (.cell 8) [KH k]=some (sl bY k.c.a.heap):=rfl
def cH9:RF.ev (.cell 9) [KH k]=some (sl I1 k.c.a.w):=rfl
def Oq:RF.ev (.cell 10) [KH k]=some (sl cU k.c.d):=rfl
end
def XO:RF.ev (.shape 12) [KHz]=some KHz:=rfl
def QA {N:Nat}{f:JT}{l:List Pt}{t:Rt}(hl:okF l)(hr:rok t=true)(ht:aS t){e0 e1 e2 e4 e5 e6 e7 e8 e9 e10 e11:PV}:∀(n m:Nat) (c:Clock) (out:List Crt) (r:Option (Clock×List Crt)),n<=m->out.length+n<=1000000->Stl l c->crs c.n t<=0->adv (λt=>edgesU l (upsO t l)) t n c out=some r->
  dw (bo D) N Da [f] [e0,e1,e2,R t,e4,e5,e6,e7,e8,e9,e10,e11] m (stC c++[sl I1 (upsO c.n l),sl crow out,.i64 (out.length:Int)])=match r with
   |some (d,out')=>f (sl crow out':: .i64 (out'.length:Int)::(stC d++[sl I1 (upsO d.n l)]))
   |none=>some [KHz,.sl [],.i64 18]
 |0,m,c,out,r,hm,ho,h,hp,ha=>by cases ha
 |n+1,m,c,out,r,hm,ho,h,hp,ha=>by
  obtain⟨m,rfl⟩:∃m',m=m'+1:=⟨m-1,by omega⟩;rw[bk];unfold adv at ha;cases he:fO c t with
  |none=>
   rw[he] at ha;cases ha;have m1:=phi (Gz h.ok h.n64 hr ht hp (m9 he));have g6:(!decide ((6:Int)=0))=true:=rfl;unfold Da;simp[stC,EV,gX,m1,jC,iE,kC,g6]
  |some e=>
   obtain⟨n1,n2,n3⟩:=eJ he;obtain⟨i,x,hi,hxe,hce,hf⟩:=ot h.ok n1;obtain⟨f1,f2⟩:=lw h.ok n1 h.n64;have hpt:(ed c e).p=l:=h.p;have hnow:(ed c e).n=e.time:=rfl;have m1:=phi (Oj h.ok h.n64 hr ht hp n1 n3 hi hxe);have m2:=phi (XN f1 f2);unfold CM at m2;rw[hpt,hnow] at m2;rw[he] at ha;simp only at ha;cases hd:cL (edgesU l (upsO e.time l)) (ed c e) with
   |none=>
    rw[hd] at ha m2;cases ha;unfold Da;simp only[stC,aY,aQ,EV,az,gX,m1,cW,iE,kC,ay,aE,au,aw,iC,hpt,m2,XO,g18,aA,tf]
   |some d=>
    rw[hd] at ha m2;simp only at ha m2;obtain⟨s1,s2,s3⟩:=qx (Qy hl) h n1 hd;have ap:=fZ (f:=crow) (l:=out) (k:=[ee c e]) (bytes:=16) (z:=2) (by simp;omega) jg;rw[hce] at ap ha;have ih:=QA (N:=N) (f:=f) (l:=l) (t:=t) hl hr ht (e0:=e0) (e1:=e1) (e2:=e2) (e4:=e4) (e5:=e5) (e6:=e6) (e7:=e7) (e8:=e8) (e9:=e9) (e10:=e10) (e11:=e11) n m d (out++[x.c]) r (by omega) (by rw[aB,aM];omega) s1 (by rw[s2];exact n2) ha;rw[s2] at ih;simp only[stC,aY,aQ] at ih;refine dO ?_ ih;unfold Da;simp only[stC,aY,aQ,EV,az,gX,m1,cW,iE,kC,ay,aE,au,aw,iC,hpt,m2,ef,Oo,GA,ap,ai,cH0,cH1,cH2,cH3,cH4,cH5,cH6,cH7,cH8,cH9,Oq,xr,s2]
section
variable (k:Heater)
def cQ0:RF.ev (.cell 0) [HT k]=some (.i64 k.c.n.num):=rfl
def cQ1:RF.ev (.cell 1) [HT k]=some (.i64 k.c.n.den):=rfl
def cQ2:RF.ev (.cell 2) [HT k]=some (sl row k.c.p):=rfl
def cQ3:RF.ev (.cell 3) [HT k]=some (.i64 k.c.q.next):=rfl
def cQ4:RF.ev (.cell 4) [HT k]=some (sl hrow k.c.q.l):=rfl
def cQ5:RF.ev (.cell 5) [HT k]=some (sl I1 k.c.a.s.u):=rfl
def cQ6:RF.ev (.cell 6) [HT k]=some (sl B1 k.c.a.s.v):=rfl
def cQ7:RF.ev (.cell 7) [HT k]=some (sl I1 k.c.a.s.f):=rfl
def cQ8:RF.ev (.cell 8) [HT k]=some (sl bY k.c.a.heap):=rfl
def cQ9:RF.ev (.cell 9) [HT k]=some (sl I1 k.c.a.w):=rfl
def abK:RF.ev (.cell 10) [HT k]=some (sl cU k.c.d):=rfl
def abL:RF.ev (.cell 11) [HT k]=some (.i64 k.t.root):=rfl
def abM:RF.ev (.cell 12) [HT k]=some (sl dD k.t.n):=rfl
end
section
variable (k:KTourn)
def cY0:RF.ev (.cell 0) [KT k]=some (.i64 k.c.n.num):=rfl
def cY1:RF.ev (.cell 1) [KT k]=some (.i64 k.c.n.den):=rfl
def cY2:RF.ev (.cell 2) [KT k]=some (sl row k.c.p):=rfl
def cY3:RF.ev (.cell 3) [KT k]=some (.i64 k.c.q.next):=rfl
def cY4:RF.ev (.cell 4) [KT k]=some (sl hrow k.c.q.l):=rfl
def cY5:RF.ev (.cell 5) [KT k]=some (sl I1 k.c.a.s.u):=rfl
def cY6:RF.ev (.cell 6) [KT k]=some (sl B1 k.c.a.s.v):=rfl
def cY7:RF.ev (.cell 7) [KT k]=some (sl I1 k.c.a.s.f):=rfl
def cY8:RF.ev (.cell 8) [KT k]=some (sl bY k.c.a.heap):=rfl
def cY9:RF.ev (.cell 9) [KT k]=some (sl I1 k.c.a.w):=rfl
def abN:RF.ev (.cell 10) [KT k]=some (sl cU k.c.d):=rfl
def abO:RF.ev (.cell 11) [KT k]=some (sl I1 k.b.p):=rfl
def abP:RF.ev (.cell 12) [KT k]=some (sl I1 k.b.w):=rfl
end
def ahB:RF.ev (.shape 13) [HTz]=some HTz:=rfl
def ahC:RF.ev (.shape 13) [KTz]=some KTz:=rfl
def QB {N:Nat}{f:JT}{l:List Pt}{t:Rt}(hl:okF l)(hr:rok t=true)(ht:aS t){e0 e1 e2 e4 e5 e6 e7 e8 e9 e10 e11:PV}:∀(n m:Nat) (c:Clock) (out:List Crt) (r:Option (Clock×List Crt)),n<=m->out.length+n<=1000000->Stl l c->crs c.n t<=0->adv (λt=>edgsT (cart t l).n l.length) t n c out=some r->
  dw (bo D) N C9 [f] [e0,e1,e2,R t,e4,e5,e6,e7,e8,e9,e10,e11] m (stC c++[.i64 (cart c.n l).root,sl dD (cart c.n l).n,sl crow out,.i64 (out.length:Int)])=match r with
   |some (d,out')=>f (sl crow out':: .i64 (out'.length:Int)::(stC d++[.i64 (cart d.n l).root,sl dD (cart d.n l).n]))
   |none=>some [HTz,.sl [],.i64 18]
 |0,m,c,out,r,hm,ho,h,hp,ha=>by cases ha
 |n+1,m,c,out,r,hm,ho,h,hp,ha=>by
  obtain⟨m,rfl⟩:∃m',m=m'+1:=⟨m-1,by omega⟩;rw[bk];unfold adv at ha;cases he:fO c t with
  |none=>
   rw[he] at ha;cases ha;have m1:=phi (Gz h.ok h.n64 hr ht hp (m9 he));have g6:(!decide ((6:Int)=0))=true:=rfl;unfold C9;simp[stC,EV,gX,m1,jC,iE,kC,g6]
  |some e=>
   obtain⟨n1,n2,n3⟩:=eJ he;obtain⟨i,x,hi,hxe,hce,hf⟩:=ot h.ok n1;obtain⟨f1,f2⟩:=lw h.ok n1 h.n64;have hpt:(ed c e).p=l:=h.p;have hnow:(ed c e).n=e.time:=rfl;have m1:=phi (Oj h.ok h.n64 hr ht hp n1 n3 hi hxe);have m2:=phi (XM f1 f2);unfold CK at m2;rw[hpt,hnow] at m2;rw[he] at ha;simp only at ha;cases hd:cL (edgsT (cart e.time l).n l.length) (ed c e) with
   |none=>
    rw[hd] at ha m2;cases ha;unfold C9;simp only[stC,aY,aQ,EV,az,gX,m1,cW,iE,kC,ay,aE,au,aw,iC,hpt,m2,ahB,g18,aA,HL]
   |some d=>
    rw[hd] at ha m2;simp only at ha m2;obtain⟨s1,s2,s3⟩:=qx (Qz hl) h n1 hd;have ap:=fZ (f:=crow) (l:=out) (k:=[ee c e]) (bytes:=16) (z:=2) (by simp;omega) jg;rw[hce] at ap ha;have ih:=QB (N:=N) (f:=f) (l:=l) (t:=t) hl hr ht (e0:=e0) (e1:=e1) (e2:=e2) (e4:=e4) (e5:=e5) (e6:=e6) (e7:=e7) (e8:=e8) (e9:=e9) (e10:=e10) (e11:=e11) n m d (out++[x.c]) r (by omega) (by rw[aB,aM];omega) s1 (by rw[s2];exact n2) ha;rw[s2] at ih;simp only[stC,aY,aQ] at ih;refine dO ?_ ih;unfold C9;simp only[stC,aY,aQ,EV,az,gX,m1,cW,iE,kC,ay,aE,au,aw,iC,hpt,m2,jh,Oo,GA,ap,ai,cQ0,cQ1,cQ2,cQ3,cQ4,cQ5,cQ6,cQ7,cQ8,cQ9,abK,abL,abM,s2]
def QC {N:Nat}{f:JT}{l:List Pt}{t:Rt}(hl:okF l)(hr:rok t=true)(ht:aS t){pl:List Int}(h1:1<=pl.length)(h2:pl.length<=64)(hv:∀x∈pl,dB l x)(hoc:gf pl){e0 e1 e2 e4 e5 e6 e7 e8 e9 e10 e11:PV}:∀(n m:Nat) (c:Clock) (out:List Crt) (r:Option (Clock×List Crt)),n<=m->out.length+n<=1000000->Stl l c->crs c.n t<=0->adv (λt=>edsB (bracketOf t l pl).w pl (bracketOf t l pl).w.length) t n c out=some r->
  dw (bo D) N C8 [f] [e0,e1,e2,R t,e4,e5,e6,e7,e8,e9,e10,e11] m (stC c++[sl I1 pl,sl I1 (bracketOf c.n l pl).w,sl crow out,.i64 (out.length:Int)])=match r with
   |some (d,out')=>f (sl crow out':: .i64 (out'.length:Int)::(stC d++[sl I1 pl,sl I1 (bracketOf d.n l pl).w]))
   |none=>some [KTz,.sl [],.i64 18]
 |0,m,c,out,r,hm,ho,h,hp,ha=>by cases ha
 |n+1,m,c,out,r,hm,ho,h,hp,ha=>by
  obtain⟨m,rfl⟩:∃m',m=m'+1:=⟨m-1,by omega⟩;rw[bk];unfold adv at ha;cases he:fO c t with
  |none=>
   rw[he] at ha;cases ha;have m1:=phi (Gz h.ok h.n64 hr ht hp (m9 he));have g6:(!decide ((6:Int)=0))=true:=rfl;unfold C8;simp[stC,EV,gX,m1,jC,iE,kC,g6]
  |some e=>
   obtain⟨n1,n2,n3⟩:=eJ he;obtain⟨i,x,hi,hxe,hce,hf⟩:=ot h.ok n1;obtain⟨f1,f2⟩:=lw h.ok n1 h.n64;have hpt:(ed c e).p=l:=h.p;have hnow:(ed c e).n=e.time:=rfl;have m1:=phi (Oj h.ok h.n64 hr ht hp n1 n3 hi hxe);have m2:=phi (XL f1 f2 h1 h2 (λx hx=>by rw[hpt];exact hv x hx) hoc);unfold CJ at m2;rw[hpt,hnow] at m2;rw[he] at ha;simp only at ha;cases hd:cL (edsB (bracketOf e.time l pl).w pl (bracketOf e.time l pl).w.length) (ed c e) with
   |none=>
    rw[hd] at ha m2;cases ha;unfold C8;simp only[stC,aY,aQ,EV,az,gX,m1,cW,iE,kC,ay,aE,au,aw,iC,hpt,m2,ahC,g18,aA,HK]
   |some d=>
    rw[hd] at ha m2;simp only at ha m2;obtain⟨s1,s2,s3⟩:=qx (MF hl h1 h2 hv hoc) h n1 hd;have ap:=fZ (f:=crow) (l:=out) (k:=[ee c e]) (bytes:=16) (z:=2) (by simp;omega) jg;rw[hce] at ap ha;have ih:=QC (N:=N) (f:=f) (l:=l) (t:=t) hl hr ht h1 h2 hv hoc (e0:=e0) (e1:=e1) (e2:=e2) (e4:=e4) (e5:=e5) (e6:=e6) (e7:=e7) (e8:=e8) (e9:=e9) (e10:=e10) (e11:=e11) n m d (out++[x.c]) r (by omega) (by rw[aB,aM];omega) s1 (by rw[s2];exact n2) ha;rw[s2] at ih;simp only[stC,aY,aQ] at ih;refine dO ?_ ih;unfold C8;simp only[stC,aY,aQ,EV,az,gX,m1,cW,iE,kC,ay,aE,au,aw,iC,hpt,m2,iT,Oo,GA,ap,ai,cY0,cY1,cY2,cY3,cY4,cY5,cY6,cY7,cY8,cY9,abN,abO,abP,s2];rfl
def c12 (l:List Pt):Ans D 21 [F l] [.bool (decide (10<l.length))]:=by have e:decide ((10:Int)<(l.length:Int))=decide (10<l.length):=bZ.2 ω;refine am ?_;unfold k12;simp[bb,cj,EV,e]
def QD (l k:List Pt):(l.flatMap λp=>k.map λq=>(p,q)).length=l.length*k.length:=by induction l with|nil=>simp|cons a l ih=>rw[gS,aB,ai,ih,bu,cF];omega
def FM {l:List Pt}(h:okF l)(t:Rt):gA t l<5000:=by have h1:gA t l<=(x8 l).length:=wP;have h2:(x8 l).length=l.length*l.length:=QD l l;have h3:=it h.1 h.1;omega
def iI (E:Rt->List Crt)(t:Rt)(c:Clock):Option (Clock×List Crt):=(adv E t 5000 c []).getD none
def Ar {l:List Pt}{E:Rt->List Crt}(hl:okF l)(hE:EdgH l E){t:Rt}{c:Clock}(h:Stl l c):adv E t 5000 c []=some (iI E t c):=by have⟨r,hr⟩:=LM hE (t:=t) 5000 c [] h (FM hl _);unfold iI;rw[hr];rfl
def vM {l:List Pt}{E:Rt->List Crt}(hE:EdgH l E){t:Rt}:∀(n:Nat) (c:Clock) (out:List Crt) (d:Clock) (out':List Crt),Stl l c->crs c.n t<=0->adv E t n c out=some (some (d,out'))->Stl l d/\ crs d.n t<=0/\ iz d t=false/\(d=c\/∀y∈d.q.l,y.c∈E d.n)/\ out'.length<=out.length+n|0,c,out,d,out',_,_,h=>by cases h|n+1,c,out,d,out',h,hp,ha=>by unfold adv at ha;cases he:fO c t with|none=>rw[he] at ha;cases ha;exact⟨h,hp,m9 he,.inl rfl,ω⟩|some e=>rw[he] at ha;simp only at ha;cases hd:cL (E e.time) (ed c e) with|none=>rw[hd] at ha;cases ha|some d0=>rw[hd] at ha;simp only at ha;have⟨n1,n2,_⟩:=eJ he;have⟨s1,s2,s3⟩:=qx hE h n1 hd;have⟨q1,q2,q3,q4,q5⟩:=vM hE n d0 _ d out' s1 (by rw[s2];exact n2) ha;refine⟨q1,q2,q3,.inr ?_,by rw[aB,aM] at q5;omega⟩;rcases q4 with q4|q4;subst q4;have⟨f1,f2⟩:=lw h.ok n1 h.n64;have hr:=(h.ok.2.2.2.1.2.2.1 e (ax n1)).1;have hpt:(ed c e).p=l:=h.p;rw[s2];exact zY (by rw[hpt];exact hE.ok _ hr f2) f1 f2 hd;exact q4
def goU (k:KHeap)(t:Rt):List PV:=match iI (λt=>edgesU k.c.p (upsO t k.c.p)) t k.c with|some (d,out)=>[KH ⟨atC d t,upsO t k.c.p⟩,sl crow out,.i64 0]|none=>[KHz,.sl [],.i64 18]
def c48 {k:KHeap}{t:Rt}(hchk:Ans D 71 [KH k] [.i64 0])(h:Stl k.c.p k.c)(hu:k.heap=upsO k.c.n k.c.p)(hr:rok t=true)(ht:aS t)(hp:crs k.c.n t<=0):Ans D 99 [KH k,R t] (goU k t):=by
 have hl:=h.ok.2.1;have hE:=Qy hl;have ha:=Ar hl hE (t:=t) h;have m1:=phi hchk;have m2:=phi (c43 ht);rw[hr,show okE true=0 from rfl] at m2
 have m3:=phi (sH ht h.n64);rw[hr,h.ok.1] at m3;have ng:¬sgn (crs t k.c.n)<0:=by
  have:=gP t k.c.n;unfold sgn
  grind
 have pR0:RF.ev (.part 0 2) [KH k]=some (R k.c.n):=rfl;have key:den (bo D) 5001 k48 [] [KH k,R t]=some (goU k t):=by
  unfold k48;simp only[az,ef,ii,m1,m2,EV,ay,aE,au,aw,pR0,m3,gT,aA,ng,bc,cH0,cH1,cH2,cH3,cH4,cH5,cH6,cH7,cH8,cH9,Oq,xr,hu];refine(QA (N:=5001) hl hr ht 5000 5001 k.c [] _ (by omega) (by simp) h hp ha).trans ?_;unfold goU;cases hg:iI (λt=>edgesU k.c.p (upsO t k.c.p)) t k.c with
  |none=>rfl
  |some z=>
   obtain⟨d,out⟩:=z;rw[hg] at ha;obtain⟨q1,q2,q3,_,q5⟩:=vM hE 5000 k.c [] d out h hp ha;have m4:=phi (Ok q1.ok q1.n64 hr ht q2 q3);have fp:(atC d t).p=k.c.p:=q1.p;have s0:=bS (f:=crow) (l:=out);unfold Ys;simp only[stC,aY,aQ,EV,az,gX,m4,cW,iC,fp,phi (EC hl ht hr),jU,CN,s0]
 unfold goU at key|-;cases hg:iI (λt=>edgesU k.c.p (upsO t k.c.p)) t k.c with
 |none=>rw[hg] at key;exact an ⟨5001,key⟩
 |some z=>rw[hg] at key;exact an ⟨5001,key⟩
def goH (k:Heater)(t:Rt):List PV:=match iI (λt=>edgsT (cart t k.c.p).n k.c.p.length) t k.c with|some (d,out)=>[HT ⟨atC d t,cart t k.c.p⟩,sl crow out,.i64 0]|none=>[HTz,.sl [],.i64 18]
def ahD (x:Tree):RF.ev (.shape 2) [TR x]=some (TR x):=rfl
def c47 {k:Heater}{t:Rt}(hchk:Ans D 70 [HT k] [.i64 0])(h:Stl k.c.p k.c)(hu:k.t=cart k.c.n k.c.p)(hr:rok t=true)(ht:aS t)(hp:crs k.c.n t<=0):Ans D 98 [HT k,R t] (goH k t):=by
 have hl:=h.ok.2.1;have hE:=Qz hl;have ha:=Ar hl hE (t:=t) h;have m1:=phi hchk;have m2:=phi (c43 ht);rw[hr,show okE true=0 from rfl] at m2
 have m3:=phi (sH ht h.n64);rw[hr,h.ok.1] at m3;have ng:¬sgn (crs t k.c.n)<0:=by
  have:=gP t k.c.n;unfold sgn
  grind
 have pR0:RF.ev (.part 0 2) [HT k]=some (R k.c.n):=rfl;have key:den (bo D) 5001 k47 [] [HT k,R t]=some (goH k t):=by
  unfold k47;simp only[az,jh,ii,m1,m2,EV,ay,aE,au,aw,pR0,m3,gT,aA,ng,bc,cQ0,cQ1,cQ2,cQ3,cQ4,cQ5,cQ6,cQ7,cQ8,cQ9,abK,abL,abM,hu];refine(QB (N:=5001) hl hr ht 5000 5001 k.c [] _ (by omega) (by simp) h hp ha).trans ?_;unfold goH;cases hg:iI (λt=>edgsT (cart t k.c.p).n k.c.p.length) t k.c with
  |none=>rfl
  |some z=>
   obtain⟨d,out⟩:=z;rw[hg] at ha;obtain⟨q1,q2,q3,_,q5⟩:=vM hE 5000 k.c [] d out h hp ha;have m4:=phi (Ok q1.ok q1.n64 hr ht q2 q3);have fp:(atC d t).p=k.c.p:=q1.p;have s0:=bS (f:=crow) (l:=out);unfold Yr;simp only[stC,aY,aQ,EV,az,gX,m4,cW,iC,fp,phi (NZ hl ht hr (qa hl) (vH hl)),ahD,HI,jU,CG,s0]
 unfold goH at key|-;cases hg:iI (λt=>edgsT (cart t k.c.p).n k.c.p.length) t k.c with
 |none=>rw[hg] at key;exact an ⟨5001,key⟩
 |some z=>rw[hg] at key;exact an ⟨5001,key⟩
def ahE (x:Brk):RF.ev (.shape 2) [BR x]=some (BR x):=rfl
def edT (l:List Pt)(pl:List Int)(t:Rt):List Crt:=edsB (bracketOf t l pl).w pl (bracketOf t l pl).w.length
def goT (k:KTourn)(t:Rt):List PV:=match iI (edT k.c.p k.b.p) t k.c with|some (d,out)=>[KT ⟨atC d t,bracketOf t k.c.p k.b.p⟩,sl crow out,.i64 0]|none=>[KTz,.sl [],.i64 18]
section
variable {k:KTourn}{t:Rt}(h:Stl k.c.p k.c)(hu:k.b=bracketOf k.c.n k.c.p k.b.p)(h1:1<=k.b.p.length)(h2:k.b.p.length<=64)(hv:∀x∈k.b.p,dB k.c.p x)(ho:gf k.b.p)(hr:rok t=true)(ht:aS t)(hp:crs k.c.n t<=0)
include h hu h1 h2 hv ho hr ht hp
theorem c46 (hchk:Ans D 69 [KT k] [.i64 0]):Ans D 97 [KT k,R t] (goT k t):=by
 have hl:=h.ok.2.1;have hE:=MF hl h1 h2 hv ho;have ha:=Ar hl hE (t:=t) h;have m1:=phi hchk;have m2:=phi (c43 ht);rw[hr,show okE true=0 from rfl] at m2
 have m3:=phi (sH ht h.n64);rw[hr,h.ok.1] at m3;have ng:¬sgn (crs t k.c.n)<0:=by
  have:=gP t k.c.n;unfold sgn
  grind
 have pR0:RF.ev (.part 0 2) [KT k]=some (R k.c.n):=rfl;have hw:k.b.w=(bracketOf k.c.n k.c.p k.b.p).w:=bm Brk.w hu;have key:den (bo D) 5001 k46 [] [KT k,R t]=some (goT k t):=by
  unfold k46;simp only[az,iT,ii,m1,m2,EV,ay,aE,au,aw,pR0,m3,gT,aA,ng,bc,cY0,cY1,cY2,cY3,cY4,cY5,cY6,cY7,cY8,cY9,abN,abO,abP];rw[hw];refine(QC (N:=5001) hl hr ht h1 h2 hv ho 5000 5001 k.c [] _ (by omega) (by simp) h hp ha).trans ?_;unfold goT;have e:edT k.c.p k.b.p=λt=>edsB (bracketOf t k.c.p k.b.p).w k.b.p (bracketOf t k.c.p k.b.p).w.length:=rfl;rw[e];cases hg:iI (λt=>edsB (bracketOf t k.c.p k.b.p).w k.b.p (bracketOf t k.c.p k.b.p).w.length) t k.c with
  |none=>rfl
  |some z=>
   obtain⟨d,out⟩:=z;rw[hg] at ha;obtain⟨q1,q2,q3,_,q5⟩:=vM hE 5000 k.c [] d out h hp ha;have m4:=phi (Ok q1.ok q1.n64 hr ht q2 q3);have fp:(atC d t).p=k.c.p:=q1.p;have s0:=bS (f:=crow) (l:=out);have m6:bo D 159 [F k.c.p,R t,sl I1 k.b.p]=some [BR (bracketOf t k.c.p k.b.p),sl crow (edsB (bracketOf t k.c.p k.b.p).w k.b.p (bracketOf t k.c.p k.b.p).w.length)]:=phi (Va hl ht hr h1 h2 hv ho rfl);unfold Yq;simp only[stC,aY,aQ,EV,az,gX,m4,cW,iC,fp,m6,ahE,Vp,jU,Ob,s0]
 unfold goT at key|-;cases hg:iI (edT k.c.p k.b.p) t k.c with
 |none=>rw[hg] at key;exact an ⟨5001,key⟩
 |some z=>rw[hg] at key;exact an ⟨5001,key⟩
end
def Ot {l:List Int}(hn:l.Nodup){m:Nat}{v:Int}(h:l[m]?=some v):kf (λy=>decide (v=y)) l=(m:Int):=by (have:l.findIdx? (λy=>decide (v=y))=some m:=by have⟨h1,h2⟩:=aD.1 h;rw[bw];refine⟨h1,by rw[h2];simp,λj hj e=>?_⟩;simp at e;have:=cz.1 hn j m v (by rw[ah (Ah hj h1),e]) h;omega);unfold kf;rw[this];rfl
def ahF {k:KHeap}{t:Rt}(h:bf k.c)(hn:aS k.c.n)(hr:rok t=true)(ht:aS t)(hp:crs k.c.n t<=0)(hw:iz k.c t=false):Ans D 194 [KH k,R t] [KHz,CP C0,.i64 6]:=by have m1:=phi (Gz h hn hr ht hp hw);have g6:(!decide ((6:Int)=0))=true:=rfl;refine am ?_;unfold O0;simp[ef,ii,pKH,m1,jC,iE,kC,EV,tf,XI]
def nR:fD zC:=⟨⟨⟨by decide,by decide⟩,⟨by decide,by decide⟩⟩,λe he=>by cases he⟩
def KHe (u:List Int):PV:= .agg [.i64 0,.i64 0,.sl [],.i64 0,.sl [],.sl [],.sl [],.sl [],.sl [],.sl [],.sl [],sl I1 u]
def abQ (u:List Int):RF.ev .agg [CLz,sl I1 u]=some (KHe u):=rfl
def evH (c:Clock)(e:Evt)(x:Crt)(hp:List Int):List PV:=match cL (edgesH hp) (ed c e) with|some d=>[KH ⟨d,hp⟩,CP x,.i64 0]|none=>[KHe hp,CP x,.i64 18]
def akX {k:KHeap}{t:Rt}(h:bf k.c)(hn:aS k.c.n)(hr:rok t=true)(ht:aS t)(hp:crs k.c.n t<=0){e:Evt}(he:k.c.a.heap[0]?=some e)(hw:iz k.c t=true){i:Nat}{x:Held}(hx:k.c.q.l[i]?=some x)(hxe:x.n=e.n) (hnd:k.heap.Nodup) (hl:k.heap.length<=64) {n m:Nat} (hnm:n<m) (ha:k.heap[n]?=some x.c.h) (hb:k.heap[m]?=some x.c.j) (hE:EdgF k.c.p (edgesH (fI k.heap n m x.c.h x.c.j))):Ans D 194 [KH k,R t] (evH k.c e x.c (fI k.heap n m x.c.h x.c.j)):=by have m1:=phi (Oj h hn hr ht hp he hw hx hxe);have⟨f1,f2⟩:=lw h he hn;(have hlen:(fI k.heap n m x.c.h x.c.j).length=k.heap.length:=by unfold fI;rw[aP,aP]);(have hle:(edgesH (fI k.heap n m x.c.h x.c.j)).length<=1000:=by unfold edgesH;rw[ku];omega);have m2:=phi (Om f1 f2 (es:=edgesH (fI k.heap n m x.c.h x.c.j)) hE hle);have m3:=phi (U2 (l:=fI k.heap n m x.c.h x.c.j) ω);have m4:=phi (lR (l:=k.heap) ω);have i1:=phi (yC (l:=k.heap) x.c.j ω);have i2:=phi (yC (l:=k.heap) x.c.h ω);rw[Ot hnd hb] at i1;rw[Ot hnd ha] at i2;have hnl:=bj ha;have hml:=bj hb;have s0:=bS (f:=I1) (l:=k.heap);have s1:=f7 (l:=k.heap) hml x.c.h;have s2:=f7 (l:=k.heap.set m x.c.h) (i:=n) (by rw[aP];exact hnl) x.c.j;(have sw:(k.heap.set m x.c.h).set n x.c.j=fI k.heap n m x.c.h x.c.j:=by unfold fI;rw[rI _ _ ω]);rw[sw] at s2;have s3:=bS (f:=I1) (l:=fI k.heap n m x.c.h x.c.j);rw[hlen] at s3;have fp:(ed k.c e).p=k.c.p:=rfl;have pz:RF.ev (.part 0 11) [CLz]=some CLz:=rfl;unfold iY at m2;rw[fp] at m2;unfold evH;cases hq:cL (edgesH (fI k.heap n m x.c.h x.c.j)) (ed k.c e) with|none=>rw[hq] at m2;refine am ?_;unfold O0;simp only[az,ef,ii,pKH,m1,cW,iE,kC,EV,ay,aE,au,aw,xr,m4,ai,s0,lO,lP,i1,i2,ixM hnl,ixM hml,aN ha,aN hb,cp,s1,s2,iC,fp,s3,m3,m2,jC,pz,abQ]|some d=>rw[hq] at m2;refine am ?_;unfold O0;simp only[az,ef,ii,pKH,m1,cW,iE,kC,EV,ay,aE,au,aw,xr,m4,ai,s0,lO,lP,i1,i2,ixM hnl,ixM hml,aN ha,aN hb,cp,s1,s2,iC,fp,s3,m3,m2,jU,CN]
def EL (c:Clock)(u:List Int):RF.ev .agg [.i64 c.n.num,.i64 c.n.den,sl row c.p,.i64 c.q.next,sl hrow c.q.l,sl I1 c.a.s.u,sl B1 c.a.s.v,sl I1 c.a.s.f,sl bY c.a.heap,sl I1 c.a.w,sl cU c.d,sl I1 u]=some (KH ⟨c,u⟩):=rfl
def ahG (u:List Int):RF.ev (.shape 12) [KHe u]=some (KHe u):=rfl
def QE {N:Nat}{f:JT}{l:List Pt}{t:Rt}(hl:okF l)(hr:rok t=true)(ht:aS t){e0 e1 e2 e4 e5 e6 e7 e8 e9 e10 e11:PV}:∀(n m:Nat) (c:Clock) (hp:List Int) (out:List Crt) (r:Option (Clock×List Int×List Crt)),n<=m->out.length+n<=100000000->HStl l c hp->crs c.n t<=0->qy t n c hp out=some r->
  dw (bo D) N C7 [f] [e0,e1,e2,R t,e4,e5,e6,e7,e8,e9,e10,e11] m (stC c++[sl I1 hp,sl crow out,.i64 (out.length:Int)])=match r with
   |some (d,hq,out')=>f (sl crow out':: .i64 (out'.length:Int)::(stC d++[sl I1 hq]))
   |none=>some [KHz,.sl [],.i64 18]
 |0,m,c,hp,out,r,hm,ho,h,hp0,ha=>by cases ha
 |n+1,m,c,hp,out,r,hm,ho,h,hp0,ha=>by
  obtain⟨m,rfl⟩:∃m',m=m'+1:=⟨m-1,by omega⟩;rw[bk];unfold qy at ha;have n6:decide ((0:Int)=6)=false:=rfl;have n18:decide ((18:Int)=6)=false:=rfl;have y6:decide ((6:Int)=6)=true:=rfl;cases he:fO c t with
  |none=>
   rw[he] at ha;cases ha;have m1:=phi (ahF (k:=⟨c,hp⟩) h.ok h.n64 hr ht hp0 (m9 he));unfold C7;simp[stC,EV,EL,m1,XO,kC,y6]
  |some e=>
   obtain⟨n1,n2,n3⟩:=eJ he;obtain⟨i,x,hi,hxe,hce,hf⟩:=ot h.ok n1;obtain⟨p,q,q1,q2,q3,q4⟩:=rY h n1;have h64:hp.length<=64:=by rw[h.len];exact hl.1
   rw[he] at ha;simp only at ha;rw[q4] at ha;rw[hce] at q2 q3 ha;have pm:=yd q2 q3;have nd:=pm.nodup_iff.2 h.nd;have hE:EdgF c.p (edgesH (fI hp p q x.c.h x.c.j)):=by rw[h.p];exact LS hl nd λy hy=>h.inl y (pm.mem_iff.1 hy)
   have m1:=phi (akX (k:=⟨c,hp⟩) h.ok h.n64 hr ht hp0 n1 n3 hi hxe h.nd h64 q1 q2 q3 hE);unfold evH at m1;simp only at m1;cases hd:cL (edgesH (fI hp p q x.c.h x.c.j)) (ed c e) with
   |none=>
    rw[hd] at ha m1;cases ha;simp only at m1;unfold C7;simp only[stC,aY,aQ,EV,az,EL,m1,ahG,kC,n18,au,aw,g18,aA,tf]
   |some d=>
    rw[hd] at ha m1;simp only at ha m1;obtain⟨t1,t2,t3⟩:=uL hl h n1 q1 (by rw[hce];exact q2) (by rw[hce];exact q3) (by rw[hce];exact hd);rw[hce] at t1;have ap:=fZ (f:=crow) (l:=out) (k:=[x.c]) (bytes:=16) (z:=2) (by simp;omega) jg;have ih:=QE (N:=N) (f:=f) (l:=l) (t:=t) hl hr ht (e0:=e0) (e1:=e1) (e2:=e2) (e4:=e4) (e5:=e5) (e6:=e6) (e7:=e7) (e8:=e8) (e9:=e9) (e10:=e10) (e11:=e11) n m d (fI hp p q x.c.h x.c.j) (out++[x.c]) r (by omega) (by rw[aB,aM];omega) t1 (by rw[t2];exact n2) ha;simp only[stC,aY,aQ] at ih;refine dO ?_ ih;unfold C7;simp only[stC,aY,aQ,EV,az,EL,m1,ef,kC,n6,ay,aE,au,aw,Oo,GA,ap,ai,cH0,cH1,cH2,cH3,cH4,cH5,cH6,cH7,cH8,cH9,Oq,xr]
def vp (t:Rt)(c:Clock)(hp:List Int):Option (Clock×List Int×List Crt):=(qy t 30000000 c hp []).getD none
def MG {l:List Pt}(hl:okF l){t:Rt}{c:Clock}{hp:List Int}(h:HStl l c hp):qy t 30000000 c hp []=some (vp t c hp):=by have⟨r,hr⟩:=Gf hl (t:=t) 30000000 c hp [] h (Um hl h.len (FM hl _));unfold vp;rw[hr];rfl
def goK (k:KHeap)(t:Rt):List PV:=match vp t k.c k.heap with|some (d,hq,out)=>[KH ⟨atC d t,hq⟩,sl crow out,.i64 0]|none=>[KHz,.sl [],.i64 18]
def c45 {k:KHeap}{t:Rt}(hchk:Ans D 68 [KH k] [.i64 0])(h:HStl k.c.p k.c k.heap)(hr:rok t=true)(ht:aS t)(hp:crs k.c.n t<=0):Ans D 96 [KH k,R t] (goK k t):=by
 have hl:=h.ok.2.1;have ha:=MG hl (t:=t) h;have m1:=phi hchk;have m2:=phi (c43 ht);rw[hr,show okE true=0 from rfl] at m2
 have m3:=phi (sH ht h.n64);rw[hr,h.ok.1] at m3;have ng:¬sgn (crs t k.c.n)<0:=by
  have:=gP t k.c.n;unfold sgn
  grind
 have pR0:RF.ev (.part 0 2) [KH k]=some (R k.c.n):=rfl;have key:den (bo D) 30000001 k45 [] [KH k,R t]=some (goK k t):=by
  unfold k45;simp only[az,ef,ii,m1,m2,EV,ay,aE,au,aw,pR0,m3,gT,aA,ng,bc,cH0,cH1,cH2,cH3,cH4,cH5,cH6,cH7,cH8,cH9,Oq,xr];refine(QE (N:=30000001) hl hr ht 30000000 30000001 k.c k.heap [] _ (by omega) (by simp) h hp ha).trans ?_;unfold goK;cases hg:vp t k.c k.heap with
  |none=>rfl
  |some z=>
   obtain⟨d,hq,out⟩:=z;rw[hg] at ha;obtain⟨q1,q2,q3,q5⟩:=Ca hl 30000000 k.c k.heap [] d hq out h hp ha;have m4:=phi (Ok q1.ok q1.n64 hr ht q2 q3);have m5:=phi (lR (l:=hq) (by rw[q1.len];have:=hl.1;omega));have s0:=bS (f:=crow) (l:=out);have s1:=bS (f:=I1) (l:=hq);unfold Yp;simp only[stC,aY,aQ,EV,az,gX,m4,cW,m5,ai,jU,s1,CN,s0]
 unfold goK at key|-;cases hg:vp t k.c k.heap with
 |none=>rw[hg] at key;exact an ⟨30000001,key⟩
 |some z=>rw[hg] at key;exact an ⟨30000001,key⟩
def qe {α:Type}[DecidableEq α]:∀{l k:List α},l.Nodup->(∀x∈l,x∈k)->l.length<=k.length|[],k,_,_=>dS _|a::l,k,hn,hs=>by rw[bW] at hn;have ha:=hs a (cx ..);have:=qe (k:=k.erase a) hn.2 λx hx=>(lA (a:=x) (b:=a) λe=>hn.1 (by rw[<-e];exact hx)).2 (hs x (aV _ hx));rw[tV ha] at this;have:=List.length_pos_of_mem ha;rw[bu];omega
def Vv {c:Clock}(h:bf c){es:List Crt}(hs:∀y∈c.q.l,y.c∈es):c.q.l.length<=es.length:=by have hp:=(kR.1 h.2.2.1).2.2.2.2;have:(c.q.l.map (·.c)).Nodup:=gb.2 (hp.imp λh=>h.2);have:=qe this (k:=es) (by grind);rwa [ai] at this
structure Usd (k:Nat)(c:Clock):Prop where
 next:c.q.next<=k
 u:∀u∈c.a.s.u,u<=k
def Usd.le {k m:Nat}{c:Clock}(h:Usd k c)(hk:k<=m):Usd m c:=⟨by have:=h.next;omega,λu hu=>by have:=h.u u hu;omega⟩
structure Dst (l:List Pt)(a b:Rt):Prop where
 apart:∀p∈l,∀q∈l,p.a=q.a->p.b=q.b->p=q
 alone:∀p∈l,∀q∈l,∀u∈l,∀v∈l,∀s:Rt,rok s=true->crs a s<0->crs s b<=0->p.b<q.b->far s p q=0->u.b<v.b->far s u v=0->p=u/\ q=v
def As (s:Rt)(p q r:Pt):far s p r=far s p q+far s q r:=by unfold far;grind
structure HGood (l:List Pt)(c:Clock)(hp:List Int):Prop where
 st:HStl l c hp
 has:∀x∈edgesH hp,∃y∈c.q.l,y.c=x
 holds:∀y∈c.q.l,Holds c y.c
def Vw {hp:List Int}{j:Nat}{a b:Int}(h0:0<j)(ha:hp[j]?=some a)(hb:hp[(j-1)/2]?=some b):(⟨a,b⟩:Crt)∈edgesH hp:=by have hj:=bj ha;refine aW.2 ⟨j-1,cX.2 ω,?_⟩;(have e1:nthI hp (j-1+1)=a:=by rw[show j-1+1=j from ω];have:=yc hj;rw[ha] at this;cases this;rfl);(have e2:nthI hp ((j-1)/2)=b:=by have:=yc (l:=hp) (i:=(j-1)/2) ω;rw[hb] at this;cases this;rfl);rw[e1,e2]
def abR {a b c:Rt}(ha:rok a=true)(hb:rok b=true)(hc:rok c=true)(h1:crs a b<=0)(h2:crs b c<=0):crs a c<=0:=(yL (a:=a) (b:=b) (c:=c) (by have:=gg ha;omega) (by have:=gg hb;omega) (by have:=gg hc;omega) h1 h2).1
structure Alike (l:List Pt)(c c':Clock):Prop where
 st:Stl l c
 st':Stl l c'
 to:∀y∈c.q.l,∃y'∈c'.q.l,y'.c=y.c
 of:∀y'∈c'.q.l,∃y∈c.q.l,y.c=y'.c
 ft:∀y∈c.q.l,fT c' y.c=fT c y.c
def XP {c:Clock}(h:bf c){y:Held}(hy:y∈c.q.l)(hf:(fT c y.c).2=true):∃e∈c.a.heap,e.time=(fT c y.c).1:=by have h8:=(gz.1 h).2.2.2.2.2.2.2;(have ev:∀{xs:List Due} {ys:List Held},F2 (tI c) xs ys->∀y∈ys,∃e∈c.a.heap,e.time=(fT c y.c).1:=by intro xs ys k;induction k with|nil=>intro y hy;cases hy|cons r t ih=>intro y hy;rcases bg.1 hy with e|hy;rw[e];exact⟨_,r.2,rfl⟩;exact ih y hy);exact ev h8 y (be.2 ⟨hy,hf⟩)
def HM {c c':Clock}(h:bf c)(h':bf c')(to:∀y∈c.q.l,∃y'∈c'.q.l,y'.c=y.c)(ft:∀y∈c.q.l,fT c' y.c=fT c y.c){e:Evt}(he:c.a.heap[0]?=some e):∃e',c'.a.heap[0]?=some e'/\ crs e'.time e.time<=0:=by have⟨x,hx,_,hf⟩:=G0 h (ax he);have⟨x',hx',hc⟩:=to x hx;have f:=ft x hx;rw[hf,<-hc] at f;have⟨e',he',ht⟩:=XP h' hx' (by rw[f]);rw[f] at ht;have⟨i,hi⟩:=aG.1 he';have h0:c'.a.heap[0]?=some (c'.a.heap[0]'(by have:=bj hi;omega)):=ah _;have:=tJ h'.2.2.2.1 h0 he';rw[ht] at this;exact⟨_,h0,this⟩
def Alike.symm {l:List Pt}{c c':Clock}(h:Alike l c c'):Alike l c' c:=⟨h.st',h.st,h.of,h.to,λy hy=>by have⟨x,hx,hc⟩:=h.of y hy;rw[<-hc];exact(h.ft x hx).symm⟩
def Alike.first {l:List Pt}{c c':Clock}(h:Alike l c c'){e:Evt}(he:c.a.heap[0]?=some e):∃e',c'.a.heap[0]?=some e'/\ e'.time=e.time:=by have⟨e',h1,h2⟩:=HM h.st.ok h.st'.ok h.to h.ft he;have⟨e2,h3,h4⟩:=HM h.st'.ok h.st.ok h.symm.to h.symm.ft h1;rw[he] at h3;cases h3;have r1:=(h.st.ok.2.2.2.1.2.2.1 e (ax he)).1;have r2:=(h.st'.ok.2.2.2.1.2.2.1 e' (ax h1)).1;have:=gP e.time e'.time;exact⟨e',h1,LI r2 r1 ω⟩
def Alike.next {l:List Pt}{c c':Clock}(h:Alike l c c'){t:Rt}:(fO c t=none/\ fO c' t=none)\/∃e e',fO c t=some e/\ fO c' t=some e'/\ e'.time=e.time:=by (have key:∀{c c':Clock},Alike l c c'->∀e,fO c t=some e->∃e',fO c' t=some e'/\ e'.time=e.time:=λ{c c'} h e he=>by have⟨n1,n2,_⟩:=eJ he;have⟨e',h1,h2⟩:=h.first n1;refine⟨e',?_,h2⟩;unfold fO;rw[h1];simp only;rw[h2,ad n2]);cases he:fO c t with|some e=>have⟨e',h1,h2⟩:=key h e he;exact .inr ⟨e,e',rfl,h1,h2⟩|none=>cases he':fO c' t with|none=>exact .inl ⟨rfl,rfl⟩|some e'=>have⟨e,h1,_⟩:=key h.symm e' he';rw[he] at h1;cases h1
def tg {c:Clock}{es:List Crt}(hc:dA c.q)(hn:es.Nodup)(hJ:JustR c es):∀y∈c.q.l,y.c∈es:=((ug hc hn λe he=>(hJ.2 e he).2).2 hJ).2
def HN {c:Clock}{es:List Crt}(hk:bf c)(h64:aS c.n)(hn:es.Nodup)(hJ:JustR c es):Stl c.p c/\∀x∈es,∃y∈c.q.l,y.c=x:=⟨⟨hk,h64,rfl,λy hy=>(hJ.2 _ (tg hk.2.2.1 hn hJ y hy)).2⟩,λx hx=>(hJ.2 x hx).1⟩
def HQ {k:KHeap}(h:fV k)(h64:fD k.c):Stl k.c.p k.c/\∀x∈edgesU k.c.p (upsO k.c.n k.c.p),∃y∈k.c.q.l,y.c=x:=HN h.1 h64.1 (mj (b8 h.1.2.1.2.2)) h.2.2
def HR {k:Heater}(h:fX k)(h64:fD k.c):Stl k.c.p k.c/\∀x∈edgsT (cart k.c.n k.c.p).n k.c.p.length,∃y∈k.c.q.l,y.c=x:=HN h.1 h64.1 (pf h.1.2.1 _ (aC _)) h.2.2
def HS {k:KHeap}(h:eN k)(h64:fD k.c):HStl k.c.p k.c k.heap:=⟨h.1,h64.1,rfl,tg h.1.2.2.1 (qJ h.2.2.2.1) h.2.2.2.2,h.2.2.2.1,h.2.2.1,h.2.1⟩
def FN {k:KTourn}(h:db k)(h64:fD k.c):Stl k.c.p k.c/\ k.b=bracketOf k.c.n k.c.p k.b.p/\(1<=k.b.p.length/\ k.b.p.length<=64/\ gf k.b.p)/\∀x∈edT k.c.p k.b.p k.c.n,∃y∈k.c.q.l,y.c=x:=by have⟨h1,h2,h3,h4,h5,h6,h7⟩:=h;(have hm:k.b.w.length=k.b.p.length-1:=by have:=h2.1.1.2.2;omega);have hw:=(uK hm).2 h6;(have hb:k.b=bracketOf k.c.n k.c.p k.b.p:=by unfold bracketOf;rw[hw]);have⟨s1,s2⟩:=HN h1 h64.1 (rO (b:=k.b) h1.2.1 h2 h4 h6 _ (aC _)) h7;refine⟨s1,hb,⟨h2.1.1.1,h2.1.1.2.1,h2.1.2.1⟩,?_⟩;unfold edT;grind
def At (n:Int):sgn n<0↔n<0:=by unfold sgn;grind
section
variable {t:Rt}(hr:rok t=true)(ht:aS t)
include hr ht
theorem akY {k:KHeap}(hchk:Ans D 68 [KH k] [.i64 0])(hk:rok k.c.n=true)(hn:aS k.c.n)(hp:crs t k.c.n<0):Ans D 96 [KH k,R t] [KHz,.sl [],.i64 44]:=by have m1:=phi hchk;have m2:=phi (c43 ht);rw[hr,show okE true=0 from rfl] at m2;have m3:=phi (sH ht hn);rw[hr,hk] at m3;have ng:=(At _).2 hp;have pR0:RF.ev (.part 0 2) [KH k]=some (R k.c.n):=rfl;refine am ?_;unfold k45;simp[ef,ii,m1,m2,EV,pR0,m3,ng,tf]
theorem akZ {k:KHeap}(hchk:Ans D 71 [KH k] [.i64 0])(hk:rok k.c.n=true)(hn:aS k.c.n)(hp:crs t k.c.n<0):Ans D 99 [KH k,R t] [KHz,.sl [],.i64 44]:=by have m1:=phi hchk;have m2:=phi (c43 ht);rw[hr,show okE true=0 from rfl] at m2;have m3:=phi (sH ht hn);rw[hr,hk] at m3;have ng:=(At _).2 hp;have pR0:RF.ev (.part 0 2) [KH k]=some (R k.c.n):=rfl;refine am ?_;unfold k48;simp[ef,ii,m1,m2,EV,pR0,m3,ng,tf]
theorem ak0 {k:KTourn}(hchk:Ans D 69 [KT k] [.i64 0])(hk:rok k.c.n=true)(hn:aS k.c.n)(hp:crs t k.c.n<0):Ans D 97 [KT k,R t] [KTz,.sl [],.i64 44]:=by have m1:=phi hchk;have m2:=phi (c43 ht);rw[hr,show okE true=0 from rfl] at m2;have m3:=phi (sH ht hn);rw[hr,hk] at m3;have ng:=(At _).2 hp;have pR0:RF.ev (.part 0 2) [KT k]=some (R k.c.n):=rfl;refine am ?_;unfold k46;simp[iT,ii,m1,m2,EV,pR0,m3,ng,HK]
theorem ak1 {k:Heater}(hchk:Ans D 70 [HT k] [.i64 0])(hk:rok k.c.n=true)(hn:aS k.c.n)(hp:crs t k.c.n<0):Ans D 98 [HT k,R t] [HTz,.sl [],.i64 44]:=by have m1:=phi hchk;have m2:=phi (c43 ht);rw[hr,show okE true=0 from rfl] at m2;have m3:=phi (sH ht hn);rw[hr,hk] at m3;have ng:=(At _).2 hp;have pR0:RF.ev (.part 0 2) [HT k]=some (R k.c.n):=rfl;refine am ?_;unfold k47;simp[jh,ii,m1,m2,EV,pR0,m3,ng,HL]
end
def gx (l:List PV)(i:Nat):PV:=l.getD i (.i64 0)
def GB {l:List PV}{i:Nat}(h:i<l.length):RF.ev (.cell i) [.agg l]=some (gx l i):=by show l[i]?=_;unfold gx;rw[ah h,List.getD_eq_getElem?_getD,ah h];rfl
def gK (c:Choice){i:Nat}(h1:1<=i)(h2:i<=50):RF.ev (.cell i) [CHO c]=some (gx (bh c) i):=GB (show i<51 from ω)
def nI (k:KHeap){i:Nat}(h:i<=11):RF.ev (.cell i) [KH k]=some (gx (khC k) i):=GB (show i<12 from ω)
def yY (k:KTourn){i:Nat}(h:i<=12):RF.ev (.cell i) [KT k]=some (gx (ktC k) i):=GB (show i<13 from ω)
def yZ (k:Heater){i:Nat}(h:i<=12):RF.ev (.cell i) [HT k]=some (gx (htC k) i):=GB (show i<13 from ω)
def rC (c:Choice)(L:PV)(e:Int):List PV:=if e=0 then [CHO c,L,.i64 0] else [CHO zCH,.sl [],.i64 e]
def xu {c:Choice}{L:PV}{e:Int}:(rC c L e).length=3:=by unfold rC;split<;>rfl
section
variable (g:Int)(c:Choice)
def GC (k:KHeap):RF.ev .agg [.v (.int .u8 g),gx (khC k) 0,gx (khC k) 1,gx (khC k) 2,gx (khC k) 3,gx (khC k) 4,gx (khC k) 5,gx (khC k) 6,gx (khC k) 7,gx (khC k) 8,gx (khC k) 9,gx (khC k) 10,gx (khC k) 11,gx (bh c) 13,gx (bh c) 14,gx (bh c) 15,gx (bh c) 16,gx (bh c) 17,gx (bh c) 18,gx (bh c) 19,gx (bh c) 20,gx (bh c) 21,gx (bh c) 22,gx (bh c) 23,gx (bh c) 24,gx (bh c) 25,gx (bh c) 26,gx (bh c) 27,gx (bh c) 28,gx (bh c) 29,gx (bh c) 30,gx (bh c) 31,gx (bh c) 32,gx (bh c) 33,gx (bh c) 34,gx (bh c) 35,gx (bh c) 36,gx (bh c) 37,gx (bh c) 38,gx (bh c) 39,gx (bh c) 40,gx (bh c) 41,gx (bh c) 42,gx (bh c) 43,gx (bh c) 44,gx (bh c) 45,gx (bh c) 46,gx (bh c) 47,gx (bh c) 48,gx (bh c) 49,gx (bh c) 50]=some (CHO ⟨g,k,c.o,c.x,c.g⟩):=rfl
def GD (k:KTourn):RF.ev .agg [.v (.int .u8 g),gx (bh c) 1,gx (bh c) 2,gx (bh c) 3,gx (bh c) 4,gx (bh c) 5,gx (bh c) 6,gx (bh c) 7,gx (bh c) 8,gx (bh c) 9,gx (bh c) 10,gx (bh c) 11,gx (bh c) 12,gx (ktC k) 0,gx (ktC k) 1,gx (ktC k) 2,gx (ktC k) 3,gx (ktC k) 4,gx (ktC k) 5,gx (ktC k) 6,gx (ktC k) 7,gx (ktC k) 8,gx (ktC k) 9,gx (ktC k) 10,gx (ktC k) 11,gx (ktC k) 12,gx (bh c) 26,gx (bh c) 27,gx (bh c) 28,gx (bh c) 29,gx (bh c) 30,gx (bh c) 31,gx (bh c) 32,gx (bh c) 33,gx (bh c) 34,gx (bh c) 35,gx (bh c) 36,gx (bh c) 37,gx (bh c) 38,gx (bh c) 39,gx (bh c) 40,gx (bh c) 41,gx (bh c) 42,gx (bh c) 43,gx (bh c) 44,gx (bh c) 45,gx (bh c) 46,gx (bh c) 47,gx (bh c) 48,gx (bh c) 49,gx (bh c) 50]=some (CHO ⟨g,c.heap,k,c.x,c.g⟩):=rfl
def GE (k:Heater):RF.ev .agg [.v (.int .u8 g),gx (bh c) 1,gx (bh c) 2,gx (bh c) 3,gx (bh c) 4,gx (bh c) 5,gx (bh c) 6,gx (bh c) 7,gx (bh c) 8,gx (bh c) 9,gx (bh c) 10,gx (bh c) 11,gx (bh c) 12,gx (bh c) 13,gx (bh c) 14,gx (bh c) 15,gx (bh c) 16,gx (bh c) 17,gx (bh c) 18,gx (bh c) 19,gx (bh c) 20,gx (bh c) 21,gx (bh c) 22,gx (bh c) 23,gx (bh c) 24,gx (bh c) 25,gx (htC k) 0,gx (htC k) 1,gx (htC k) 2,gx (htC k) 3,gx (htC k) 4,gx (htC k) 5,gx (htC k) 6,gx (htC k) 7,gx (htC k) 8,gx (htC k) 9,gx (htC k) 10,gx (htC k) 11,gx (htC k) 12,gx (bh c) 39,gx (bh c) 40,gx (bh c) 41,gx (bh c) 42,gx (bh c) 43,gx (bh c) 44,gx (bh c) 45,gx (bh c) 46,gx (bh c) 47,gx (bh c) 48,gx (bh c) 49,gx (bh c) 50]=some (CHO ⟨g,c.heap,c.o,k,c.g⟩):=rfl
def GF (k:KHeap):RF.ev .agg [.v (.int .u8 g),gx (bh c) 1,gx (bh c) 2,gx (bh c) 3,gx (bh c) 4,gx (bh c) 5,gx (bh c) 6,gx (bh c) 7,gx (bh c) 8,gx (bh c) 9,gx (bh c) 10,gx (bh c) 11,gx (bh c) 12,gx (bh c) 13,gx (bh c) 14,gx (bh c) 15,gx (bh c) 16,gx (bh c) 17,gx (bh c) 18,gx (bh c) 19,gx (bh c) 20,gx (bh c) 21,gx (bh c) 22,gx (bh c) 23,gx (bh c) 24,gx (bh c) 25,gx (bh c) 26,gx (bh c) 27,gx (bh c) 28,gx (bh c) 29,gx (bh c) 30,gx (bh c) 31,gx (bh c) 32,gx (bh c) 33,gx (bh c) 34,gx (bh c) 35,gx (bh c) 36,gx (bh c) 37,gx (bh c) 38,gx (khC k) 0,gx (khC k) 1,gx (khC k) 2,gx (khC k) 3,gx (khC k) 4,gx (khC k) 5,gx (khC k) 6,gx (khC k) 7,gx (khC k) 8,gx (khC k) 9,gx (khC k) 10,gx (khC k) 11]=some (CHO ⟨g,c.heap,c.o,c.x,k⟩):=rfl
end
section
variable {c:Choice}{t:Rt}{L:PV}{e:Int}
def Ou (hc:bo D 27 [CHO c]=some [.i64 0])(hr:rok t=true)(ht:aS t)(ha:d5 t=0)(t1:c.tag=1){k:KHeap}(h:Ans D 96 [KH c.heap,R t] [KH k,L,.i64 e]):Ans D 37 [CHO c,R t] (rC ⟨1,k,c.o,c.x,c.g⟩ L e):=by have m1:=phi (c43 ht);rw[hr,show okE true=0 from rfl] at m1;have m2:=phi (c44 ht);rw[ha] at m2;have m3:=phi h;refine an (hl:=xu) ⟨1,?_⟩;unfold k15 rC;by_cases he:e=0;subst he;simp only[az,eg,ii,hc,m1,m2,EV,ay,aE,au,aw,cCH,t1,u8E,aA,uY,m3,ef,nI,gK,Nat.reduceLeDiff,aC,rT,GC];have de:decide (e=0)=false:=aj he;simp only[az,eg,ii,hc,m1,m2,EV,ay,aE,au,aw,cCH,t1,u8E,aA,uY,m3,ef,nI,gK,Nat.reduceLeDiff,aC,rT,de,bR,BJ,ac he];rfl
def Ov (hc:bo D 27 [CHO c]=some [.i64 0])(hr:rok t=true)(ht:aS t)(ha:d5 t=0)(t1:c.tag=2){k:KTourn}(h:Ans D 97 [KT c.o,R t] [KT k,L,.i64 e]):Ans D 37 [CHO c,R t] (rC ⟨2,c.heap,k,c.x,c.g⟩ L e):=by have m1:=phi (c43 ht);rw[hr,show okE true=0 from rfl] at m1;have m2:=phi (c44 ht);rw[ha] at m2;have m3:=phi h;refine an (hl:=xu) ⟨1,?_⟩;unfold k15 rC;have d21:decide ((2:Int)=1)=false:=rfl;by_cases he:e=0;subst he;simp only[az,eg,ii,hc,m1,m2,EV,ay,aE,au,aw,cCH,t1,u8E,d21,aA,uZ,m3,iT,yY,gK,Nat.reduceLeDiff,aC,xw,rT,GD];have de:decide (e=0)=false:=aj he;simp only[az,eg,ii,hc,m1,m2,EV,ay,aE,au,aw,cCH,t1,u8E,d21,aA,uZ,m3,iT,yY,gK,Nat.reduceLeDiff,aC,xw,rT,de,bR,BJ,ac he];rfl
def Ow (hc:bo D 27 [CHO c]=some [.i64 0])(hr:rok t=true)(ht:aS t)(ha:d5 t=0)(t1:c.tag=3){k:Heater}(h:Ans D 98 [HT c.x,R t] [HT k,L,.i64 e]):Ans D 37 [CHO c,R t] (rC ⟨3,c.heap,c.o,k,c.g⟩ L e):=by have m1:=phi (c43 ht);rw[hr,show okE true=0 from rfl] at m1;have m2:=phi (c44 ht);rw[ha] at m2;have m3:=phi h;refine an (hl:=xu) ⟨1,?_⟩;unfold k15 rC;have d31:decide ((3:Int)=1)=false:=rfl;have d32:decide ((3:Int)=2)=false:=rfl;by_cases he:e=0;subst he;simp only[az,eg,ii,hc,m1,m2,EV,ay,aE,au,aw,cCH,t1,u8E,d31,d32,aA,u7,m3,jh,yZ,gK,Nat.reduceLeDiff,aC,CY,xw,rT,GE];have de:decide (e=0)=false:=aj he;simp only[az,eg,ii,hc,m1,m2,EV,ay,aE,au,aw,cCH,t1,u8E,d31,d32,aA,u7,m3,jh,yZ,gK,Nat.reduceLeDiff,aC,CY,xw,rT,de,bR,BJ,ac he];rfl
def Ox (hc:bo D 27 [CHO c]=some [.i64 0])(hr:rok t=true)(ht:aS t)(ha:d5 t=0)(t1:c.tag=4){k:KHeap}(h:Ans D 99 [KH c.g,R t] [KH k,L,.i64 e]):Ans D 37 [CHO c,R t] (rC ⟨4,c.heap,c.o,c.x,k⟩ L e):=by have m1:=phi (c43 ht);rw[hr,show okE true=0 from rfl] at m1;have m2:=phi (c44 ht);rw[ha] at m2;have m3:=phi h;refine an (hl:=xu) ⟨1,?_⟩;unfold k15 rC;have d41:decide ((4:Int)=1)=false:=rfl;have d42:decide ((4:Int)=2)=false:=rfl;have d43:decide ((4:Int)=3)=false:=rfl;by_cases he:e=0;subst he;simp only[az,eg,ii,hc,m1,m2,EV,ay,aE,au,aw,cCH,t1,u8E,d41,d42,d43,aA,u9,m3,ef,nI,gK,Nat.reduceLeDiff,aC,CY,xw,rT,GF];have de:decide (e=0)=false:=aj he;simp only[az,eg,ii,hc,m1,m2,EV,ay,aE,au,aw,cCH,t1,u8E,d41,d42,d43,aA,u9,m3,ef,nI,gK,Nat.reduceLeDiff,aC,CY,xw,rT,de,bR,BJ,ac he];rfl
end
section
variable {c:Choice}{t:Rt}
open Classical in def ak2 (h64:Cho64 c)(hg:gCh c=false)(hok:kY c)(hr:rok t=true)(ht:aS t)(ha:d5 t=0)(hp:crs t (cO c).n<0):Ans D 37 [CHO c,R t] [CHO zCH,.sl [],.i64 44]:=by have⟨g1,g2,g3,g4⟩:=qK hg;have hc:=phi (c26 h64 hg);rw[aq hok,yT] at hc;have hq:=hok.2.1;unfold eu at hq;unfold cO at hp;by_cases t1:c.tag=1;rw[ad t1] at hq hp;have hchk:=c77 h64.h1 g1;rw[aq hq] at hchk;exact Ou (k:=zKH) (e:=44) hc hr ht ha t1 (akY hr ht hchk hq.1.1 h64.h1.1 hp);rw[ac t1] at hq hp;by_cases t2:c.tag=2;rw[ad t2] at hq hp;have hchk:=c78 h64.h2 g2;rw[aq hq] at hchk;exact Ov (k:=zKT) (e:=44) hc hr ht ha t2 (ak0 hr ht hchk hq.1.1 h64.h2.1 hp);rw[ac t2] at hq hp;by_cases t3:c.tag=3;rw[ad t3] at hq hp;have hchk:=c79 h64.h3 g3;rw[aq hq] at hchk;exact Ow (k:=zHT) (e:=44) hc hr ht ha t3 (ak1 hr ht hchk hq.1.1 h64.h3.1 hp);rw[ac t3] at hq hp;by_cases t4:c.tag=4;rw[ad t4] at hq;have hchk:=c80 h64.h4 g4;rw[aq hq] at hchk;exact Ox (k:=zKH) (e:=44) hc hr ht ha t4 (akZ hr ht hchk hq.1.1 h64.h4.1 hp);rw[ac t4] at hq;exact hq.elim
def n8:decide ((8:Int)=0)=false:=rfl
def n2:decide ((2:Int)=0)=false:=rfl
def d15 (hc:bo D 27 [CHO c]=some [.i64 0])(ht:aS t)(ha:d5 t≠0):Ans D 37 [CHO c,R t] [CHO zCH,.sl [],.i64 (d5 t)]:=by have m1:=phi (c43 ht);have m2:=phi (c44 ht);refine am ?_;unfold k15;cases hr:rok t with|false=>(have e:d5 t=8:=by unfold d5;rw[hr];rfl);rw[hr,show okE false=8 from rfl] at m1;simp only[az,eg,ii,hc,m1,EV,ay,aE,au,aw,n8,bR,aA,BJ,e];rfl|true=>have e:d5 t=2:=(Qu hr).resolve_left ha;rw[hr,show okE true=0 from rfl] at m1;rw[e] at m2|-;simp only[az,eg,ii,hc,m1,m2,EV,ay,aE,au,aw,n2,bR,aA,BJ];rfl
end
end Go.Proofs.YtoeigdpfcnaaeaaGreat
