import Derived.Test.YtoeigdpfcnaaeaaGreatF1
import Derived.Test.YtoeigdpfcnaaeaaGreatX1
import Derived.Test.YtoeigdpfcnaaeaaGreatR1
import Derived.Test.YtoeigdpfcnaaeaaGreatC3
import Derived.Test.YtoeigdpfcnaaeaaGreatE1
import Derived.Test.YtoeigdpfcnaaeaaGreatW1
set_option linter.unusedVariables false
set_option linter.unusedSimpArgs false
set_option linter.defProp false
noncomputable section
namespace Go.Proofs.YtoeigdpfcnaaeaaGreat
open Go.Sym Bnd
set_option maxRecDepth 100000
section
variable {ld:Int->Int->Bool}
def GrP (ld:Int->Int->Bool)(h:List Int)(i:Nat):Prop:=∀j,0<j->(j-1)/2=i->0<i->∀a b,h[j]?=some a->h[(i-1)/2]?=some b->ld b a=true
def HOy (ld:Int->Int->Bool)(h:List Int)(i:Nat):Prop:=(∀j,0<j->j≠i->(j-1)/2≠i->Ar ld h j)/\ GrP ld h i
def HOs (ld:Int->Int->Bool)(h:List Int)(i:Nat):Prop:=(∀j,0<j->(j-1)/2≠i->Ar ld h j)/\ GrP ld h i
def Zy (tr:∀a b c,ld a b=true->ld b c=true->ld a c=true){h:List Int}{i:Nat}{a b:Int}(hi:0<i)(ha:h[i]?=some a)(hb:h[(i-1)/2]?=some b)(hab:ld a b=true)(H:HOy ld h i):HOx ld ((h.set i b).set ((i-1)/2) a) ((i-1)/2):=by
 obtain⟨H1,H2⟩:=H;have li:=aL ha;have g:∀k,((h.set i b).set ((i-1)/2) a)[k]?=if k=(i-1)/2 then some a else if k=i then some b else h[k]?:=λk=>by
  rw[gD,aP,gD]
  grind
 refine⟨λj hj hne x y hx hy=>?_,λj hj hq hp x y hx hy=>?_⟩
 .rw[g] at hx hy;rw[ac hne] at hx;by_cases e1:j=i
  .subst e1;rw[ad rfl] at hx hy;cases hx;cases hy;exact hab
  .rw[ac e1] at hx;by_cases e2:(j-1)/2=(i-1)/2
   .rw[ad e2] at hy;cases hy;exact tr _ _ _ hab (H1 j hj e1 (by omega) x b hx (by rw[e2];exact hb))
   .rw[ac e2] at hy;by_cases e3:(j-1)/2=i
    .rw[ad e3] at hy;cases hy;exact H2 j hj e3 hi x b hx hb
    .rw[ac e3] at hy;exact H1 j hj e1 e3 x y hx hy
 .rw[g] at hx hy;rw[ac (by omega),ac (by omega)] at hy;have hby:=H1 ((i-1)/2) hp (by omega) (by omega) b y hb hy;rw[ac (by omega)] at hx;by_cases e1:j=i
  .rw[ad e1] at hx;cases hx;exact hby
  .rw[ac e1] at hx;exact tr _ _ _ hby (H1 j hj e1 (by omega) x b hx (by rw[hq];exact hb))
end
section
variable {t:Rt}{l:List Pt}
def Tot (t:Rt)(l:List Pt)(h:List Int):Prop:=∀a∈h,∀b∈h,a≠b->ldI t l a b=true\/ldI t l b a=true
def get_ne {h:List Int}(nd:h.Nodup){i j:Nat}{a b:Int}(ha:h[i]?=some a)(hb:h[j]?=some b)(hij:i≠j):a≠b:=λe=>by
 subst e;exact hij (c9.1 nd i j a ha hb)
def N0 {h:List Int}(nd:h.Nodup)(tot:Tot t l h){i j:Nat}(hj:0<j)(hji:(j-1)/2=i){x y:Int}(hx:h[j]?=some x)(hy:h[gY t l h i]?=some y)(hne:j≠gY t l h i):ldI t l y x=true:=by
 have hc:j=2*i+1\/j=2*i+2:=by omega
 rcases hc with e|e
 .subst e;have hk:gY t l h i=2*i+2:=by
   rcases kid_is (t:=t) (l:=l) h i with q|⟨q,_⟩
   .exact absurd q.symm hne
   .exact q
  rw[hk] at hy;unfold gY at hk;rw[hx,hy] at hk;simp only at hk;split at hk
  .assumption
  .omega
 .subst e;have hk:gY t l h i=2*i+1:=by
   rcases kid_is (t:=t) (l:=l) h i with q|⟨q,_⟩
   .exact q
   .exact absurd q.symm hne
  rw[hk] at hy;have hnl:¬leads t (ptOf l x) (ptOf l y)=true:=λq=>by
   unfold gY at hk;rw[hx,hy] at hk;simp only at hk;rw[ad q] at hk;omega
  rcases tot x (ax hx) y (ax hy) (get_ne nd hx hy (by omega)) with q|q
  .exact absurd q hnl
  .exact q
def ajI {h:List Int}{i j:Nat}(hj:0<j)(hji:(j-1)/2=i){x:Int}(hx:h[j]?=some x):∃y,h[gY t l h i]?=some y:=by
 have hlt:=aL hx;rcases kid_is (t:=t) (l:=l) h i with q|⟨q,q2⟩
 .exact⟨h[2*i+1]'(by omega),by rw[q];exact ah _⟩
 .exact⟨h[2*i+2]'q2,by rw[q];exact ah _⟩
def Zz {h:List Int}(nd:h.Nodup)(tot:Tot t l h){i:Nat}(hk:nxtL t l h i=i){j:Nat}(hj:0<j)(hji:(j-1)/2=i){x a:Int}(hx:h[j]?=some x)(ha:h[i]?=some a):ldI t l a x=true:=by
 obtain⟨y,hy⟩:=ajI (t:=t) (l:=l) hj hji hx;have hki:gY t l h i≠i:=by rcases kid_is (t:=t) (l:=l) h i with q|⟨q,_⟩<;>omega
 have hnl:¬leads t (ptOf l y) (ptOf l a)=true:=λq=>by
  unfold nxtL at hk;rw[ha,hy] at hk;simp only at hk;rw[ad q] at hk;exact hki hk
 have hay:ldI t l a y=true:=by
  rcases tot a (ax ha) y (ax hy) (get_ne nd ha hy (Ne.symm hki)) with q|q
  .exact q
  .exact absurd q hnl
 by_cases e:j=gY t l h i
 .rw[<-e] at hy;rw[hx] at hy;cases hy;exact hay
 .exact fx hay (N0 nd tot hj hji hx hy e)
def Pq:∀(n:Nat) (h:List Int) (i:Nat),h.length<=n+i->h.Nodup->Tot t l h->HOs (ldI t l) h i->HO (ldI t l) (j0 t l n h i)
 |0,h,i,hl,nd,tot,H=>λj hj a b ha hb=>by
  unfold j0 at ha hb;by_cases e:(j-1)/2=i
  .have:=aL ha;omega
  .exact H.1 j hj e a b ha hb
 |n+1,h,i,hl,nd,tot,H=>by
  unfold j0;cases ha:h[i]? with
  |none=>
   intro j hj x y hx hy;by_cases e:(j-1)/2=i
   .rw[e,ha] at hy;cases hy
   .exact H.1 j hj e x y hx hy
  |some a=>
   have hil:=aL ha;have stay:nxtL t l h i=i->HO (ldI t l) h:=λhk j hj x y hx hy=>by
    by_cases e:(j-1)/2=i
    .rw[e,ha] at hy;cases hy;exact Zz nd tot hk hj e hx ha
    .exact H.1 j hj e x y hx hy
   rcases nxt_is (t:=t) (l:=l) h i with hk|⟨hk,hkl,hik⟩
   .rw[hk,ha];simp only[az];exact stay hk
   .obtain⟨b,hb⟩:∃b,h[gY t l h i]?=some b:=⟨h[gY t l h i],ah _⟩;have hba:leads t (ptOf l b) (ptOf l a)=true:=by
     unfold nxtL at hk;rw[ha,hb] at hk;simp only at hk;split at hk
     .assumption
     .omega
    rw[hk,hb];simp only;rw[ac (by omega)];have kk:=kid_is (t:=t) (l:=l) h i;obtain⟨k,hke⟩:∃k,k=gY t l h i:=⟨_,rfl⟩;have hpar:(k-1)/2=i:=by omega
    have g:∀m,(iJ h i k a b)[m]?=if m=k then some a else if m=i then some b else h[m]?:=λm=>by
     unfold iJ;rw[gD,aP,gD]
     grind
    have pm:(iJ h i k a b).Perm h:=lZ ha (by rw[hke];exact hb);rw[<-hke] at hb hkl hik|-;refine Pq n _ _ (by rw[pm.length_eq];omega) (pm.nodup_iff.2 nd) (λx hx y hy=>tot x (pm.mem_iff.1 hx) y (pm.mem_iff.1 hy)) ⟨λj hj hne x y hx hy=>?_,λj hj hjk hk0 x y hx hy=>?_⟩
    .rw[g] at hx hy;rw[ac hne] at hy;by_cases e1:j=k
     .subst e1;rw[ad rfl] at hx;rw[ad hpar] at hy;cases hx;cases hy;exact hba
     .rw[ac e1] at hx;by_cases e2:j=i
      .subst e2;rw[ad rfl] at hx;rw[ac (by omega)] at hy;cases hx;exact H.2 k (by omega) hpar hj b y hb hy
      .rw[ac e2] at hx;by_cases e3:(j-1)/2=i
       .rw[ad e3] at hy;cases hy;exact N0 nd tot hj e3 hx (by rw[<-hke];exact hb) (by rw[<-hke];exact e1)
       .rw[ac e3] at hy;exact H.1 j hj e3 x y hx hy
    .rw[g] at hx hy;rw[ac (by omega),ac (by omega)] at hx;rw[ac (by omega),ad hpar] at hy;cases hy;exact H.1 j hj (by omega) x b hx (by rw[hjk];exact hb)
def ac3 {h:List Int}(H:HO (ldI t l) h):∀(n:Nat) (i:Nat),j0 t l n h i=h
 |0,i=>rfl
 |n+1,i=>by
  unfold j0;have hk:nxtL t l h i=i:=by
   rcases nxt_is (t:=t) (l:=l) h i with hk|⟨hk,hkl,hik⟩
   .exact hk
   .obtain⟨b,hb⟩:∃b,h[gY t l h i]?=some b:=⟨h[gY t l h i],ah _⟩;obtain⟨a,ha⟩:∃a,h[i]?=some a:=⟨h[i]'(by omega),ah _⟩;have kk:=kid_is (t:=t) (l:=l) h i;have hab:=H (gY t l h i) (by omega) b a hb (by rw[show(gY t l h i-1)/2=i by omega];exact ha)
    unfold nxtL;rw[ha,hb];simp only;rw[ac (by rw[gk hab];simp)]
  rw[hk];cases h[i]?<;>simp
def Pr {h:List Int}{i:Nat}(hi:i<h.length)(nd:h.Nodup)(tot:Tot t l h)(H:HOy (ldI t l) h i):HO (ldI t l) (Co t l h i):=by
 unfold Co;obtain⟨a,ha⟩:∃a,h[i]?=some a:=⟨h[i],ah _⟩;obtain⟨b,hb⟩:∃b,h[(i-1)/2]?=some b:=⟨h[(i-1)/2]'(by omega),ah _⟩;by_cases c:0<i/\ leads t (ptOf l a) (ptOf l b)=true
 .have e:er t l (i+1) h i=er t l i (iJ h i ((i-1)/2) a b) ((i-1)/2):=by
   rw[er,ha,hb];simp only;rw[ad c]
  have sw:(iJ h i ((i-1)/2) a b).Perm h:=lZ ha hb;have hr:=BO (t:=t) (l:=l) i (iJ h i ((i-1)/2) a b) ((i-1)/2) (by omega) (by rw[sw.length_eq];omega) (λx hx y hy=>tot x (sw.mem_iff.1 hx) y (sw.mem_iff.1 hy)) (sw.nodup_iff.2 nd) (Zy (ld:=ldI t l) (λx y z h k=>fx h k) c.1 ha hb c.2 H);rw[<-Cl,<-e] at hr;rw[ac3 hr];exact hr
 .have e:er t l (i+1) h i=(h,i):=by
   rw[er,ha,hb];simp only;rw[ac c]
  rw[e];show HO (ldI t l) (j0 t l h.length h i)
  refine Pq _ _ _ (by omega) nd tot ⟨λj hj hne x y hx hy=>?_,H.2⟩;by_cases e1:j=i
  .subst e1;rw[ha] at hx;rw[hb] at hy;cases hx;cases hy;rcases tot a (ax ha) b (ax hb) (get_ne nd ha hb (by omega)) with q|q
   .exact absurd ⟨hj,q⟩ c
   .exact q
  .exact H.1 j hj e1 hne x y hx hy
end
def Cu {l:List Pt}{es:List Crt}(h:EdgOk l es):EdgF l es:=⟨h.ok,h.j,h.h⟩
def G4 {c:Clock}{es:List Crt}(h:bi c)(nd:es.Nodup)(has:∀x∈es,∃y∈c.q.l,y.c=x)(sub:∀y∈c.q.l,y.c∈es)(led:∀e∈es,leads c.n (ptOf c.p e.h) (ptOf c.p e.j)=true):JustR c es:=by
 have h1:=XP h sub;have h2:es.length<=(c.q.l.map (·.c)).length:=rz nd λx hx=>by
  obtain⟨y,hy,e⟩:=has x hx;exact aY.2 ⟨y,hy,e⟩
 rw[ai] at h2;exact⟨by omega,λe he=>⟨has e he,led e he⟩⟩
def sq {c d:Clock}{g:List Pt}{es:List Crt}(hg:okF g)(hE:EdgOk g es)(h:bi c)(hn:aR c.n)(led:∀e∈es,leads c.n (ptOf g e.h) (ptOf g e.j)=true)(e:renewG g es c=some d):bi d/\ d.n=c.n/\ d.p=g/\ JustR d es:=by
 obtain⟨k1,k2,k3⟩:=WT hg (Cu hE) h hn e;obtain⟨q1,_,q3⟩:=fV es c.q.l c h;have hk:=G0 h (Cu hE);have n1:=sH (es:=es) h hn c.q.l;unfold renewG at e;cases hf:vl (dropL es c.q.l c) g with
 |none=>rw[hf] at e;cases e
 |some b=>
  rw[hf] at e;obtain⟨a1,a2,a3,a4⟩:=HS q1.ok n1 hg hk hf;have hb:∀y∈b.q.l,y.c∈es:=λy hy=>by
   rw[a4,q3] at hy;obtain⟨h1,h2⟩:=bh.1 hy;have:=aV.1 h2 y h1;simpa [ea] using this
  have hs:=zA (l:=g) (fs:=es) (Cu hE) (λx hx=>hx) a1 (by rw[a2];exact n1) a3 hb e;have hh:=(zB (l:=g) (Cu hE) a1 (by rw[a2];exact n1) a3 e).2;exact⟨k1,k2,k3,G4 k1 hE.nd hh hs λx hx=>by rw[k2,k3];exact led x hx⟩
section
variable {g:List Pt}{c:Clock}(hg:okF g)(h:bi c)(hn:aR c.n)
include hg h hn
theorem Cv (he:(oU g c).2=0):ga (oU g c).1/\(oU g c).1.c.n=c.n/\(oU g c).1.c.p=g:=by
 unfold oU at he|-;cases hr:renewG g (edgesU g (upsO c.n g)) c with
 |none=>rw[hr] at he;cases he
 |some d=>
  obtain⟨k1,k2,k3,k4⟩:=sq hg (uG (t:=c.n) hg) h hn (λe he=>(hZ hg he).2.2) hr;refine⟨⟨k1,?_,?_⟩,k2,k3⟩
  .show upsO d.n d.p=upsO c.n g
   rw[k2,k3]
  .show JustR d (edgesU d.p (upsO d.n d.p))
   rw[k2,k3];exact k4
theorem Cw (he:(oV g c).2=0):gb (oV g c).1/\(oV g c).1.c.n=c.n/\(oV g c).1.c.p=g:=by
 unfold oV at he|-;cases hr:renewG g (edgsT (cart c.n g).n g.length) c with
 |none=>rw[hr] at he;cases he
 |some d=>
  obtain⟨k1,k2,k3,k4⟩:=sq hg (uH (t:=c.n) hg) h hn (λe he=>(jC hg he).2.2) hr;refine⟨⟨k1,?_,?_⟩,k2,k3⟩
  .show cart d.n d.p=cart c.n g
   rw[k2,k3]
  .show JustR d (edgsT (cart d.n d.p).n d.p.length)
   rw[k2,k3];exact k4
theorem Cy {pl:List Int}(P:PlOk g pl)(hz:szd pl.length=true)(hc:(pl.filter λx=>decide (0<=x)).length=g.length)(he:(jH g c pl).2=0):dE (jH g c pl).1/\(jH g c pl).1.c.n=c.n/\(jH g c pl).1.c.p=g:=by
 obtain⟨h1,h2,hv,ho⟩:=P;unfold jH at he|-;cases hr:renewG g (edsB (bracketOf c.n g pl).w pl (bracketOf c.n g pl).w.length) c with
 |none=>rw[hr] at he;cases he
 |some d=>
  obtain⟨b1,b2,b3⟩:=md (t:=c.n) hg h1 h2 hv ho;obtain⟨k1,k2,k3,k4⟩:=sq hg (sG (t:=c.n) hg h1 h2 hv ho) h hn (λe he=>(l8 (b:=bracketOf c.n g pl) hg b2 hv b3 he).2.2) hr;refine⟨⟨k1,b2,hz,?_,?_,?_,k4⟩,k2,k3⟩
  .intro x hx;show d7 d.p x
   rw[k3];exact hv x hx
  .show _=d.p.length
   rw[k3];exact hc
  .show jk (wonI d.n d.p) _ _
   rw[k2,k3];exact b3
theorem x7 {hp:List Int}(pm:hp.Perm (g.map Pt.id))(ho:HO (ldI c.n g) hp)(he:(mZ g c hp).2=0):eU (mZ g c hp).1/\(mZ g c hp).1.c.n=c.n/\(mZ g c hp).1.c.p=g:=by
 unfold mZ at he|-;cases hr:renewG g (edgesH hp) c with
 |none=>rw[hr] at he;cases he
 |some d=>
  obtain⟨k1,k2,k3,k4⟩:=sq hg (Df hg pm) h hn (λe he=>Oc ho he) hr;refine⟨⟨k1,?_,?_,?_,k4⟩,k2,k3⟩
  .show hp.length=d.p.length
   rw[k3,pm.length_eq,ai]
  .intro x hx;show inF d.p x=true
   rw[k3];exact d6.2 (pm.mem_iff.1 hx)
  .show hp.Nodup
   exact pm.nodup_iff.2 (cJ hg.2.2)
end
def rS {l:List Pt}(h:okF l){q:Pt}(hq:q∈l):ptOf l q.id=q:=by
 obtain⟨i,hi⟩:=aH.1 hq;exact io h hi
def N1 {t:Rt}{g:List Pt}(hg:okF g){h:List Int}(hin:∀x∈h,inF g x=true):Tot t g h:=λa ha b hb hne=>by
 obtain⟨i,p,a1,a2,a3⟩:=np hg (hin a ha);obtain⟨j,q,b1,b2,b3⟩:=np hg (hin b hb);unfold ldI;rw[a3,b3];exact leads_total (by rw[a2,b2];exact hne)
def vq {t:Rt}{l g:List Pt}{x y:Int}(hx:ptOf g x=ptOf l x)(hy:ptOf g y=ptOf l y):ldI t g x y=ldI t l x y:=by unfold ldI;rw[hx,hy]
section
variable {k:KHeap}(hk:eU k)
include hk
theorem G5:HO (ldI k.c.n k.c.p) k.heap:=λ_ hj _ _ ha hb=>(hk.2.2.2.2.2 _ (XQ hj ha hb)).2
theorem G6 {i:Nat}{x:Int}(hx:k.heap[i]?=some x):∃q∈k.c.p,q.id=x:=by
 obtain⟨j,q,a1,a2,_⟩:=np hk.1.2.1 (hk.2.2.1 x (ax hx));exact⟨q,ax a1,a2⟩
variable (hn:aR k.c.n)
include hn
theorem ac4 {p:Pt}(he:(By k p).2=0):fi k.c.p p=0/\ eU (By k p).1/\(By k p).1.c.n=k.c.n/\(By k p).1.c.p=putF k.c.p p:=by
 unfold By at he|-;by_cases h0:fi k.c.p p=0
 rotate_left
 .rw[ac h0] at he;exact absurd he h0
 rw[ad h0] at he|-;refine⟨h0,?_⟩;obtain⟨o1,o2,o3⟩:=iA h0;have e:putF k.c.p p=jG p k.c.p:=ad h0;have pm:=WX hk h0;have hin:∀x∈k.heap++[p.id],inF (putF k.c.p p) x=true:=λx hx=>d6.2 (pm.mem_iff.1 hx);have nd:(k.heap++[p.id]).Nodup:=pm.nodup_iff.2 (cJ o2.2.2);have same:∀{i:Nat} {x:Int},k.heap[i]?=some x->ptOf (putF k.c.p p) x=ptOf k.c.p x:=λhx=>by
  obtain⟨q,hq,rfl⟩:=G6 hk hx;rw[rS o1 hq];refine rS o2 ?_;rw[e];exact ins_mem.2 (.inr hq)
 have ho:=BO (t:=k.c.n) (l:=putF k.c.p p) (k.heap.length+1) (k.heap++[p.id]) k.heap.length (by omega) (by simp) (N1 o2 hin) nd ⟨λj hj hne a b ha hb=>by
  have hjl:=aL ha;rw[aB,aM] at hjl;rw[aI (by omega)] at ha hb;rw[vq (same hb) (same ha)];exact G5 hk j hj a b ha hb,λj hj hji hi a b ha _=>by
  have hjl:=aL ha;rw[aB,aM] at hjl;omega⟩
 exact x7 o2 hk.1 hn ((sF _ _ _).trans pm) ho he
theorem ZA {id:Int}(he:(wA k id).2=0):ek k.c.p id=0/\ eU (wA k id).1/\(wA k id).1.c.n=k.c.n/\(wA k id).1.c.p=takeF k.c.p id:=by
 unfold wA at he|-;by_cases h0:ek k.c.p id=0
 rotate_left
 .rw[ac h0] at he;exact absurd he h0
 rw[ad h0] at he|-;refine⟨h0,?_⟩;obtain⟨o1,o2,i0,p0,q1,q2,q3⟩:=jQ h0;have e:takeF k.c.p id=k.c.p.filter (rR id):=ad h0;obtain⟨m,hm,hpl,_⟩:=zH hk (id:=id) (aY.2 ⟨p0,ax q1,q2⟩);rw[hpl] at he|-;have hml:=aL hm;have pm:=Pp hk h0 hm;have hin:∀x∈gV k.heap m,inF (takeF k.c.p id) x=true:=λx hx=>d6.2 (pm.mem_iff.1 hx);have nd:(gV k.heap m).Nodup:=pm.nodup_iff.2 (cJ o2.2.2);have tl:=HV (hp:=k.heap) (i:=m) hml;have same:∀{i:Nat} {x:Int},k.heap[i]?=some x->i≠m->ptOf (takeF k.c.p id) x=ptOf k.c.p x:=λ{i x} hx hi=>by
  have hne:x≠id:=λe=>by subst e;exact hi (c9.1 hk.2.2.2.1 i m x hx hm)
  obtain⟨q,hq,rfl⟩:=G6 hk hx;rw[rS o1 hq];refine rS o2 ?_;rw[e];refine bh.2 ⟨hq,?_⟩;unfold rR;simpa using hne
 obtain⟨z,hz⟩:∃z,k.heap[k.heap.length-1]?=some z:=⟨k.heap[k.heap.length-1]'(by omega),ah _⟩;have g:∀{j:Nat} {a:Int},(gV k.heap m)[j]?=some a->j≠m->k.heap[j]?=some a:=λ{j a} ha hj=>by
  have e2:gV k.heap m=(k.heap.set m z).take (k.heap.length-1):=by unfold gV;rw[hz]
  have hjl:=aL ha;rw[e2,dp (by omega),bG (by omega)] at ha;exact ha
 have old:=G5 hk;have base:∀j,0<j->j≠m->(j-1)/2≠m->Ar (ldI k.c.n (takeF k.c.p id)) (gV k.heap m) j:=λj hj h1 h2 a b ha hb=>by
  have ha':=g ha h1;have hb':=g hb h2;rw[vq (same hb' h2) (same ha' h1)];exact old j hj a b ha' hb'
 by_cases hlt:m<k.heap.length-1
 .rw[ad hlt] at he|-;refine x7 o2 hk.1 hn (Bu.trans pm) (Pr (by omega) nd (N1 o2 hin) ⟨base,λj hj hji hm0 a b ha hb=>?_⟩) he;have ha':=g ha (by omega);have hb':=g hb (by omega);rw[vq (same hb' (by omega)) (same ha' (by omega))];exact fx (old m hm0 id b hm hb') (old j hj a id ha' (by rw[hji];exact hm))
 .rw[ac hlt] at he|-;refine x7 o2 hk.1 hn pm (λj hj a b ha hb=>?_) he;have hjl:=aL ha;exact base j hj (by omega) (by omega) a b ha hb
theorem ac5 {p:Pt}(he:(Bz k p).2=0):gg k.c.p p=0/\ eU (Bz k p).1/\(Bz k p).1.c.n=k.c.n/\(Bz k p).1.c.p=chgF k.c.p p:=by
 unfold Bz at he|-;by_cases h0:gg k.c.p p=0
 rotate_left
 .rw[ac h0] at he;exact absurd he h0
 rw[ad h0] at he|-;refine⟨h0,?_⟩;obtain⟨o1,o2,i0,q0,q1,q2,q3⟩:=pd h0;have e:chgF k.c.p p=k.c.p.set i0 p:=by
  have:chgF k.c.p p=k.c.p.set (pos k.c.p p.id).toNat p:=ad h0;rw[this,q3,aG]
 obtain⟨m,hm,hpl,_⟩:=zH hk (id:=p.id) (aY.2 ⟨q0,ax q1,q2⟩);rw[hpl] at he|-;have hml:=aL hm;have pm:=WZ hk h0;have hin:∀x∈k.heap,inF (chgF k.c.p p) x=true:=λx hx=>d6.2 (pm.mem_iff.1 hx);have nd:=hk.2.2.2.1;have same:∀{i:Nat} {x:Int},k.heap[i]?=some x->i≠m->ptOf (chgF k.c.p p) x=ptOf k.c.p x:=λ{i x} hx hi=>by
  have hne:x≠p.id:=λe=>by subst e;exact hi (c9.1 nd i m _ hx hm)
  obtain⟨q,hq,rfl⟩:=G6 hk hx;rw[rS o1 hq];refine rS o2 ?_;obtain⟨j,hj⟩:=aH.1 hq;have hji:j≠i0:=λe=>by
   subst e;rw[q1] at hj;cases hj;exact hne q2
  rw[e];exact ax (i:=j) (by rw[bG (by omega)];exact hj)
 have old:=G5 hk;refine x7 o2 hk.1 hn (Bu.trans pm) (Pr hml nd (N1 o2 hin) ⟨λj hj h1 h2 a b ha hb=>?_,λj hj hji hm0 a b ha hb=>?_⟩) he
 .rw[vq (same hb h2) (same ha h1)];exact old j hj a b ha hb
 .rw[vq (same hb (by omega)) (same ha (by omega))];exact fx (old m hm0 p.id b hm hb) (old j hj a p.id ha (by rw[hji];exact hm))
end
def tM (pl:List Int):(eu pl).length=pl.countP λx=>decide (0<=x):=rV.symm
def ac6:∀n:Nat,n<=32->szd n=true->szd (n+n)=true:=by decide
def ZB:∀n:Nat,n<=64->1<n->szd n=true->szd (n/2)=true:=by decide
section
variable {k:KTourn}(hk:dE k)
include hk
theorem W2 {p:Pt}(he:fi k.c.p p=0):szd (Bv k.b.p p.id).length=true/\((Bv k.b.p p.id).filter λx=>decide (0<=x)).length=(putF k.c.p p).length:=by
 obtain⟨o1,o2,o3⟩:=iA he;have e:putF k.c.p p=jG p k.c.p:=ad he;have p0:=(iO o2 p (by rw[e];exact ins_mem.2 (.inl rfl))).1;have hlen:(putF k.c.p p).length=k.c.p.length+1:=by
  have:=(ui (l:=k.c.p) (p:=p)).length_eq;rw[ai,aB,ai,aM] at this;rw[e,this]
 have hc:(eu k.b.p).length=k.c.p.length:=hk.2.2.2.2.1;have hz:=hk.2.2.1;show _/\(eu (Bv k.b.p p.id)).length=_
 rw[hlen,<-hc,tM,tM];unfold Bv;cases hf:k.b.p.findIdx? (λv=>decide (v<0)) with
 |some i=>
  simp only;obtain⟨h1,h2,_⟩:=bC.1 hf;have h2:k.b.p[i]<0:=by simpa using h2
  refine⟨by rw[aP];exact hz,?_⟩;rw[List.countP_set h1];simp[p0,show¬0<=k.b.p[i] by omega]
 |none=>
  simp only;have hall:∀x∈k.b.p,0<=x:=λx hx=>by
   have:=eR.1 hf x hx;simpa using this
  have hkp:(eu k.b.p).length=k.b.p.length:=by
   unfold eu;rw[dX.2 λx hx=>by simpa using hall x hx]
  have hlt:k.c.p.length≠64:=by
   have:=he;unfold fi at this
   grind
  obtain⟨l1,l2⟩:=vn hk;have hsz:k.b.p.length<=32:=by
   have:=hk.2.2.1;unfold szd at this;simp at this;omega
  refine⟨?_,?_⟩
  .have:(k.b.p++p.id::List.replicate (k.b.p.length-1) (-1)).length=k.b.p.length+k.b.p.length:=by simp;omega
   rw[this];exact ac6 _ hsz hz
  .rw[ja,dC,ad (by simpa using p0),yf]
   simp
theorem Ps {id:Int}(he:ek k.c.p id=0):szd (mj k.b.p id).length=true/\((mj k.b.p id).filter λx=>decide (0<=x)).length=(takeF k.c.p id).length:=by
 obtain⟨hc,_,_⟩:=DU hk he;obtain⟨l1,l2⟩:=vn hk;have hz:=hk.2.2.1;show _/\(eu (mj k.b.p id)).length=_
 rw[<-hc];unfold mj;split
 .rename_i h;obtain⟨c1,c2⟩:=h;refine⟨?_,?_⟩
  .have:(eu (offP k.b.p id)++List.replicate (k.b.p.length/2-(eu (offP k.b.p id)).length) (-1)).length=k.b.p.length/2:=by
    rw[aB,aO];omega
   rw[this];exact ZB _ l2 c1 hz
  .rw[tM,ja,yf,<-tM];have:eu (eu (offP k.b.p id))=eu (offP k.b.p id):=by
    unfold eu;rw[nW];simp
   rw[this];simp
 .exact⟨by rw[Cq];exact hz,rfl⟩
theorem ajJ {p:Pt}(he:gg k.c.p p=0):(k.b.p.filter λx=>decide (0<=x)).length=(chgF k.c.p p).length:=by
 have e:chgF k.c.p p=k.c.p.set (pos k.c.p p.id).toNat p:=ad he;rw[e,aP];exact hk.2.2.2.2.1
variable (hn:aR k.c.n)
include hn
theorem ac7 {p:Pt}(he:(Bw k p).2=0):fi k.c.p p=0/\ dE (Bw k p).1/\(Bw k p).1.c.n=k.c.n/\(Bw k p).1.c.p=putF k.c.p p:=by
 unfold Bw at he|-;by_cases h0:fi k.c.p p=0
 rotate_left
 .rw[ac h0] at he;exact absurd he h0
 rw[ad h0] at he|-;exact⟨h0,Cy (iA h0).2.1 hk.1 hn (WV hk h0) (W2 hk h0).1 (W2 hk h0).2 he⟩
theorem ZC {id:Int}(he:(wy k id).2=0):ek k.c.p id=0/\ dE (wy k id).1/\(wy k id).1.c.n=k.c.n/\(wy k id).1.c.p=takeF k.c.p id:=by
 unfold wy at he|-;by_cases h0:ek k.c.p id=0
 rotate_left
 .rw[ac h0] at he;exact absurd he h0
 rw[ad h0] at he|-;exact⟨h0,Cy (jQ h0).2.1 hk.1 hn (G2 hk h0) (Ps hk h0).1 (Ps hk h0).2 he⟩
theorem ac8 {p:Pt}(he:(Bx k p).2=0):gg k.c.p p=0/\ dE (Bx k p).1/\(Bx k p).1.c.n=k.c.n/\(Bx k p).1.c.p=chgF k.c.p p:=by
 unfold Bx at he|-;by_cases h0:gg k.c.p p=0
 rotate_left
 .rw[ac h0] at he;exact absurd he h0
 rw[ad h0] at he|-;exact⟨h0,Cy (pd h0).2.1 hk.1 hn (WW hk h0) hk.2.2.1 (ajJ hk h0) he⟩
end
section
variable {k:Heater}(hk:bi k.c)(hn:aR k.c.n)
include hk hn
theorem ZD {p:Pt}(he:(wv k p).2=0):fi k.c.p p=0/\ gb (wv k p).1/\(wv k p).1.c.n=k.c.n/\(wv k p).1.c.p=putF k.c.p p:=by
 unfold wv at he|-;by_cases h0:fi k.c.p p=0
 rotate_left
 .rw[ac h0] at he;exact absurd he h0
 rw[ad h0] at he|-;exact⟨h0,Cw (iA h0).2.1 hk hn he⟩
theorem W4 {id:Int}(he:(sO k id).2=0):ek k.c.p id=0/\ gb (sO k id).1/\(sO k id).1.c.n=k.c.n/\(sO k id).1.c.p=takeF k.c.p id:=by
 unfold sO at he|-;by_cases h0:ek k.c.p id=0
 rotate_left
 .rw[ac h0] at he;exact absurd he h0
 rw[ad h0] at he|-;exact⟨h0,Cw (jQ h0).2.1 hk hn he⟩
theorem ZE {p:Pt}(he:(wx k p).2=0):gg k.c.p p=0/\ gb (wx k p).1/\(wx k p).1.c.n=k.c.n/\(wx k p).1.c.p=chgF k.c.p p:=by
 unfold wx at he|-;by_cases h0:gg k.c.p p=0
 rotate_left
 .rw[ac h0] at he;exact absurd he h0
 rw[ad h0] at he|-;exact⟨h0,Cw (pd h0).2.1 hk hn he⟩
end
section
variable {k:KHeap}(hk:bi k.c)(hn:aR k.c.n)
include hk hn
theorem ZF {p:Pt}(he:(wq k p).2=0):fi k.c.p p=0/\ ga (wq k p).1/\(wq k p).1.c.n=k.c.n/\(wq k p).1.c.p=putF k.c.p p:=by
 unfold wq at he|-;by_cases h0:fi k.c.p p=0
 rotate_left
 .rw[ac h0] at he;exact absurd he h0
 rw[ad h0] at he|-;exact⟨h0,Cv (iA h0).2.1 hk hn he⟩
theorem W5 {id:Int}(he:(sN k id).2=0):ek k.c.p id=0/\ ga (sN k id).1/\(sN k id).1.c.n=k.c.n/\(sN k id).1.c.p=takeF k.c.p id:=by
 unfold sN at he|-;by_cases h0:ek k.c.p id=0
 rotate_left
 .rw[ac h0] at he;exact absurd he h0
 rw[ad h0] at he|-;exact⟨h0,Cv (jQ h0).2.1 hk hn he⟩
theorem ZG {p:Pt}(he:(ww k p).2=0):gg k.c.p p=0/\ ga (ww k p).1/\(ww k p).1.c.n=k.c.n/\(ww k p).1.c.p=chgF k.c.p p:=by
 unfold ww at he|-;by_cases h0:gg k.c.p p=0
 rotate_left
 .rw[ac h0] at he;exact absurd he h0
 rw[ad h0] at he|-;exact⟨h0,Cv (pd h0).2.1 hk hn he⟩
end
def W6 {c:Clock}(h:bi c){t:Rt}(hl:crs c.n t<=0)(hr:rok t=true)(hw:iR c t=false){x:Held}(hx:x∈c.q.l):Holds c x.c:=by
 obtain⟨h1,h2,h3,h4,h5,h6,h7,h8⟩:=gT.1 h;have hc:=((lX.1 h3).2.2.2.1 x hx).1;have hk:=h7 x hx;unfold di at hk;rw[aJ] at hk;obtain⟨k1,k2⟩:=hk;obtain⟨i,p,a1,a2,a3,a4⟩:=eH h2 k1;obtain⟨j,q,b1,b2,b3,b4⟩:=eH h2 k2;have hne:q.id≠p.id:=by have:=hc.2.2.2.2;omega
 unfold Holds;rw[a4,b4];rcases leads_total (t:=c.n) hne with g|g
 .exact g
 .exfalso;have f1:fT c x.c=(c.n,true):=by unfold fT cV;rw[a4,b4,ad g]
  obtain⟨e,he,ht⟩:=aah h hx (by rw[f1]);rw[f1] at ht;obtain⟨m,hm⟩:=aH.1 he;have h0:c.a.heap[0]?=some (c.a.heap[0]'(by have:=bv hm;omega)):=ah _;have hmin:=u9 h4 h0 he;have hnow:e.time=c.n:=ht;rw[hnow] at hmin;have r0:=(h4.2.2.1 _ (ax h0)).1;have:=Eo r0 h1 hr hmin hl;unfold iR at hw;rw[h0] at hw;simp only[aj] at hw;exact hw this
structure EFt (l:List Pt)(E:Rt->List Crt):Prop where
 ok:∀t,EdgOk l (E t)
 led:∀t,∀e∈E t,leads t (ptOf l e.h) (ptOf l e.j)=true
 same:∀s u,(∀x∈E u,leads s (ptOf l x.h) (ptOf l x.j)=true)->E s=E u
def EFt.h {l:List Pt}{E:Rt->List Crt}(F:EFt l E):EdgH l E:=⟨λt _ _=>Cu (F.ok t),λt _ _ x hx=>F.led t x hx⟩
def BA {l:List Pt}{E:Rt->List Crt}(hl:okF l)(F:EFt l E){c d:Clock}{t:Rt}{out:List Crt}(h:Stl l c)(hc:∀x∈E c.n,∃y∈c.q.l,y.c=x)(hs:∀y∈c.q.l,y.c∈E c.n)(hp:crs c.n t<=0)(hr:rok t=true)(hg:gL E t c=some (d,out)):
  bi (atC d t)/\ d.p=l/\ JustR (atC d t) (E t):=by
 have a1:=BQ hl F.h (t:=t) h;rw[hg] at a1;obtain⟨q1,q2,q3,q4,_⟩:=xq F.h 5000 c [] d out h hp a1;have q5:=O5 F.h 5000 c [] d out h hc a1;have q6:∀y∈d.q.l,y.c∈E d.n:=by
  rcases q4 with e|e
  .rw[e];exact hs
  .exact e
 have es:E t=E d.n:=F.same _ _ λx hx=>by
  obtain⟨y,hy,hyc⟩:=q5 x hx;have:=ND q1.ok hr q2 q3 hy (q1.holds y hy);rw[hyc,q1.p] at this;exact this
 have hok:=Nz q1.ok hr q2 q3;refine⟨hok,q1.p,G4 hok (F.ok t).nd (λx hx=>q5 x (by rw[<-es];exact hx)) (λy hy=>by rw[es];exact q6 y hy) λe he=>?_⟩;have e2:(atC d t).p=l:=q1.p;rw[e2];exact F.led t e he
def N2 {l:List Pt}(hl:okF l){t:Rt}:∀(n:Nat) (c:Clock) (hp:List Int) (out:List Crt) (d:Clock) (hq:List Int) (out':List Crt),HStl l c hp->(∀x∈edgesH hp,∃y∈c.q.l,y.c=x)->rP t n c hp out=some (some (d,hq,out'))->∀x∈edgesH hq,∃y∈d.q.l,y.c=x
 |0,c,hp,out,d,hq,out',_,_,h=>by cases h
 |n+1,c,hp,out,d,hq,out',h,hh,ha=>by
  unfold rP at ha;cases he:gn c t with
  |none=>
   rw[he] at ha;cases ha;exact hh
  |some e=>
   rw[he] at ha;simp only at ha;obtain⟨i,j,q1,q2,q3,q4⟩:=tK h (eZ he).1;rw[q4] at ha;cases hd:cW (edgesH (f9 hp i j (eE c e).h (eE c e).j)) (eC c e) with
   |none=>rw[hd] at ha;cases ha
   |some d0=>
    rw[hd] at ha;simp only at ha;obtain⟨s1,s2,s3⟩:=wl hl h (eZ he).1 q1 q2 q3 hd;obtain⟨f1,f2⟩:=mi h.ok (eZ he).1 h.n64;have pm:=zE q2 q3;have hp':(eC c e).p=l:=h.p;have hE:EdgF (eC c e).p (edgesH (f9 hp i j (eE c e).h (eE c e).j)):=by rw[hp'];exact NH hl (pm.nodup_iff.2 h.nd) λx hx=>h.inl x (pm.mem_iff.1 hx)
    exact N2 hl n d0 _ _ d hq out' s1 (HJ hE f1 f2 hd) ha
def ajK {k:KHeap}(hk:eU k)(h64:fS k.c){t:Rt}(hr:rok t=true)(hp:crs k.c.n t<=0){d:Clock}{hq:List Int}{out:List Crt}(hg:qA t k.c k.heap=some (d,hq,out)):eU ⟨atC d t,hq⟩/\ d.p=k.c.p:=by
 have h:=Dj hk h64;have hl:=h.ok.2.1;have a1:=OC hl (t:=t) h;rw[hg] at a1;obtain⟨q1,q2,q3,_⟩:=DM hl 30000000 k.c k.heap [] d hq out h hp a1;have q5:=N2 hl 30000000 k.c k.heap [] d hq out h (λx hx=>(hk.2.2.2.2.2 x hx).1) a1;have hok:=Nz q1.ok hr q2 q3;have e2:(atC d t).p=d.p:=rfl;refine⟨⟨hok,?_,?_,q1.nd,G4 hok (sa q1.nd) q5 q1.sub λe he=>?_⟩,q1.p⟩
 .show hq.length=d.p.length
  rw[q1.p];exact q1.len
 .intro x hx;show inF d.p x=true
  rw[q1.p];exact q1.inl x hx
 .obtain⟨y,hy,hyc⟩:=q5 e he;have:=ND q1.ok hr q2 q3 hy (W6 q1.ok q2 hr q3 hy);rw[hyc] at this;exact this
def ZH {l:List Pt}(hl:okF l):EFt l λt=>edgsT (cart t l).n l.length:=
 ⟨λt=>uH (t:=t) hl,λ_ _ he=>(jC hl he).2.2,λs u h=>by
  show edgsT (cart s l).n l.length=edgsT (cart u l).n l.length
  rw[R1 (t:=u) (t':=s) hl h]⟩
def ZI {l:List Pt}(hl:okF l):EFt l λt=>edgesU l (upsO t l):=
 ⟨λt=>uG (t:=t) hl,λ_ _ he=>(hZ hl he).2.2,λs u h=>by
  show edgesU l (upsO s l)=edgesU l (upsO u l)
  rw[Zc (t:=u) (t':=s) hl h]⟩
def W7 {l:List Pt}{pl:List Int}(hl:okF l)(h1:1<=pl.length)(h2:pl.length<=64)(hv:∀x∈pl,d7 l x)(ho:gJ pl):EFt l (edT l pl):=
 ⟨λt=>sG (t:=t) hl h1 h2 hv ho,λt e he=>by
  obtain⟨b1,b2,b3⟩:=md (t:=t) hl h1 h2 hv ho;exact(l8 (b:=bracketOf t l pl) hl b2 hv b3 he).2.2,λs u h=>by
  unfold edT;rw[NC (t:=u) (t':=s) hl h1 h2 hv ho h]⟩
def ajL {k:Heater}(hk:gb k)(h64:fS k.c){t:Rt}(hr:rok t=true)(hp:crs k.c.n t<=0){d:Clock}{out:List Crt}(hg:gL (λt=>edgsT (cart t k.c.p).n k.c.p.length) t k.c=some (d,out)):gb ⟨atC d t,cart t k.c.p⟩/\ d.p=k.c.p:=by
 obtain⟨h,hh⟩:=Di hk h64;have hl:=h.ok.2.1;obtain⟨v1,v2,v3⟩:=BA hl (ZH hl) h hh (uJ hk.1.2.2.1 (qy hl _ (aC _)) hk.2.2) hp hr hg;refine⟨⟨v1,?_,?_⟩,v2⟩
 .show cart t d.p=_
  rw[v2]
 .show JustR (atC d t) (edgsT (cart t d.p).n d.p.length)
  rw[v2];exact v3
def ajM {k:KHeap}(hk:ga k)(h64:fS k.c){t:Rt}(hr:rok t=true)(hp:crs k.c.n t<=0){d:Clock}{out:List Crt}(hg:gL (λt=>edgesU k.c.p (upsO t k.c.p)) t k.c=some (d,out)):ga ⟨atC d t,upsO t k.c.p⟩/\ d.p=k.c.p:=by
 obtain⟨h,hh⟩:=Dh hk h64;have hl:=h.ok.2.1;obtain⟨v1,v2,v3⟩:=BA hl (ZI hl) h hh (uJ hk.1.2.2.1 (nH (cJ hl.2.2)) hk.2.2) hp hr hg;refine⟨⟨v1,?_,?_⟩,v2⟩
 .show upsO t d.p=_
  rw[v2]
 .show JustR (atC d t) (edgesU d.p (upsO t d.p))
  rw[v2];exact v3
def ajN {k:KTourn}(hk:dE k)(h64:fS k.c){t:Rt}(hr:rok t=true)(hp:crs k.c.n t<=0){d:Clock}{out:List Crt}(hg:gL (edT k.c.p k.b.p) t k.c=some (d,out)):dE ⟨atC d t,bracketOf t k.c.p k.b.p⟩/\ d.p=k.c.p:=by
 obtain⟨h,hu,⟨h1,h2,ho⟩,hh⟩:=Av hk h64;have hl:=h.ok.2.1;have hv:=hk.2.2.2.1;have F:=W7 hl h1 h2 hv ho;have hJ:JustR k.c (edT k.c.p k.b.p k.c.n):=by
  have:=hk.2.2.2.2.2.2;rw[hu] at this;exact this
 obtain⟨v1,v2,v3⟩:=BA hl F h hh (uJ hk.1.2.2.1 (F.ok _).nd hJ) hp hr hg;obtain⟨b1,b2,b3⟩:=md (t:=t) hl h1 h2 hv ho;refine⟨⟨v1,b2,hk.2.2.1,?_,?_,?_,v3⟩,v2⟩
 .intro x hx;show d7 d.p x
  rw[v2];exact hv x hx
 .show _=d.p.length
  rw[v2];exact hk.2.2.2.2.1
 .show jk (wonI t d.p) _ _
  rw[v2];exact b3
def ow (x:Int):Nat:=if 0<=x then 1 else 0
def te (w p:List Int):Nat->Nat
 |0=>0
 |n+1=>te w p n+ow (nodeV w p n)
def Pu {t:Rt}{l:List Pt}{w p:List Int}(hf:jk (wonI t l) w p):∀n,n<=w.length->te w p (2*n+1)=ow (nodeV w p 0)+te w p n+(edsB w p n).length
 |0,_=>by simp[te,edsB]
 |n+1,h=>by
  have ih:=Pu hf n (by omega);have e:=hf n (by omega);have e1:te w p (2*(n+1)+1)=te w p (2*n+1)+ow (nodeV w p (2*n+1))+ow (nodeV w p (2*n+2)):=rfl;have e2:te w p (n+1)=te w p n+ow (nodeV w p n):=rfl;rw[e1,e2,p7,aB,ih];have key:ow (nodeV w p (2*n+1))+ow (nodeV w p (2*n+2))=ow (nodeV w p n)+(edB w p n).length:=by
   unfold edB ow;rw[e];unfold wonI;generalize nodeV w p (2*n+1)=a;generalize nodeV w p (2*n+2)=b;by_cases ha:0<=a
   .have ha':¬a<0:=by omega
    by_cases hb:0<=b
    .have hb':¬b<0:=by omega
     by_cases hc:leads t (ptOf l a) (ptOf l b)=true<;>simp[ha,hb,ha',hb',hc]
    .have hb':b<0:=by omega
     simp[ha,hb,ha',hb']
   .have ha':a<0:=by omega
    by_cases hb:0<=b<;>simp[ha,hb,ha']
  omega
def N3 {w p:List Int}:∀k,k<=p.length->te w p (w.length+k)=te w p w.length+(p.take k).countP λx=>decide (0<=x)
 |0,_=>by simp
 |k+1,h=>by
  have ih:=N3 (w:=w) (p:=p) k (by omega);have e1:te w p (w.length+(k+1))=te w p (w.length+k)+ow (nodeV w p (w.length+k)):=rfl;obtain⟨x,hk⟩:∃x,p[k]?=some x:=⟨p[k]'(by omega),ah _⟩;have e2:nodeV w p (w.length+k)=x:=by
   unfold nodeV;rw[ac (show¬w.length+k<w.length by omega),kg,hk]
   rfl
  rw[e1,ih,e2,cF,hk,ja,dG]
  congr 1
  congr 1
  unfold ow;by_cases c:0<=x<;>simp[c]
def HW {t:Rt}{l:List Pt}{w p:List Int}(hf:jk (wonI t l) w p)(hl:p.length=w.length+1):ow (nodeV w p 0)+(edsB w p w.length).length=(p.filter λx=>decide (0<=x)).length:=by
 have h1:=Pu hf w.length (aC _);have h2:=N3 (w:=w) (p:=p) p.length (aC _);rw[show w.length+p.length=2*w.length+1 by omega,eO,h1,rV] at h2
 omega
def HX {t:Rt}{l:List Pt}{w p:List Int}(hf:jk (wonI t l) w p):∀(n i:Nat),i<=n->i<2*w.length+1->0<=nodeV w p i->0<=nodeV w p 0
 |0,i,h,_,h0=>by obtain rfl:i=0:=by omega
                 exact h0
 |n+1,i,h,hi,h0=>by
  by_cases e:i=0
  .subst e;exact h0
  .have hp:=hf ((i-1)/2) (by omega);refine HX hf n ((i-1)/2) (by omega) (by omega) ?_;rw[hp];unfold wonI;have hc:i=2*((i-1)/2)+1\/i=2*((i-1)/2)+2:=by omega
   rcases hc with c|c
   .rw[<-c];split
    .omega
    split
    .exact h0
    split
    .exact h0
    .omega
   .rw[<-c];split
    .exact h0
    split
    .omega
    split
    .omega
    .exact h0
def zI {c:Clock}(h:bi c)(he:c.q.l.length<=40)(h16:c.p.length<=18):gCl 18 c=false:=by
 obtain⟨_,_,_,h4,_,_,_,h8⟩:=gT.1 h;have hd:c.d.length<=c.q.l.length:=by
  rw[FL h8];exact dW _ _
 unfold gCl gF;rw[uF h4];simp only[pC,dB,lM,aj];omega
def alK {k:KHeap}(hk:eU k)(h16:k.c.p.length<=18):gKh 18 k=false:=by
 have he:k.c.q.l.length<=40:=by
  rw[hk.2.2.2.2.1];unfold edgesH;rw[jM,hk.2.1];omega
 unfold gKh;rw[zI hk.1 he h16];have:=hk.2.1;simp;omega
def alL {k:KHeap}(hk:ga k)(h16:k.c.p.length<=18):gKh 18 k=false:=by
 have hl:k.heap.length=k.c.p.length:=by rw[<-hk.2.1];exact BJ _ _
 have he:k.c.q.l.length<=40:=by
  rw[hk.2.2.1];have h1:(edgesU k.c.p (upsO k.c.n k.c.p)).length<=(k.c.p.zip (upsO k.c.n k.c.p)).length:=vB _ _;rw[nD] at h1;omega
 unfold gKh;rw[zI hk.1 he h16];simp;omega
def alM {k:KTourn}(hk:dE k)(h16:k.c.p.length<=18):gKt 18 k=false:=by
 have hl:=hk.2.1.1.1;have hf:jk (wonI k.c.n k.c.p) k.b.w k.b.p:=hk.2.2.2.2.2.1;have hc:=HW hf (by have:=hl.2.2;omega);have he:k.c.q.l.length<=40:=by
  rw[hk.2.2.2.2.2.2.1];have:=hk.2.2.2.2.1;omega
 unfold gKt;rw[zI hk.1 he h16];simp;omega
def alN {k:Heater}(hk:gb k)(h16:k.c.p.length<=18):gHt 18 k=false:=by
 have hl:k.t.n.length=k.c.p.length:=by rw[<-hk.2.1];exact ro hk.1.2.1
 have he:k.c.q.l.length<=40:=by
  rw[hk.2.2.1];have:=lS (cart k.c.n k.c.p).n k.c.p.length;omega
 unfold gHt;rw[zI hk.1 he h16];simp;omega
structure Vld (c:Choice):Prop where
 ok:oe c
 h64:Cho64 c
 g:gCh 18 c=false
def alO {l:List Pt}(h:gF 16 l=false):gF 18 l=false:=by
 unfold gF at h|-;simp only[dB,lM,aj] at h|-;omega
def F4 {c:Clock}(h:gCl 16 c=false):gCl 18 c=false:=by
 unfold gCl at h|-;simp only[dB] at h|-;exact⟨⟨h.1.1,alO h.1.2⟩,h.2⟩
def ajO {c:Choice}(h:gCh 16 c=false):gCh 18 c=false:=by
 unfold gCh gKh gKt gHt at h|-;simp only[dB] at h|-;exact⟨⟨⟨⟨F4 h.1.1.1.1,h.1.1.1.2⟩,F4 h.1.1.2.1,h.1.1.2.2⟩,F4 h.1.2.1,h.1.2.2⟩,F4 h.2.1,h.2.2⟩
def gz1:gKh 18 zKH=false:=by decide
def gz2:gKt 18 zKT=false:=by decide
def gz3:gHt 18 zHT=false:=by decide
def N4 {k:KHeap}(hk:eU k)(hn:aR k.c.n)(h16:k.c.p.length<=18)(ha:d5 k.c.n=0):Vld ⟨1,k,zKT,zHT,zKH⟩:=by
 refine⟨⟨⟨λh=>absurd rfl h,λ_=>rfl,λ_=>rfl,λ_=>rfl⟩,?_,ha⟩,⟨⟨show(0:Int)<=1 by decide,show(1:Int)<=255 by decide⟩,qT hk.1 hn,pq,pq,pq⟩,?_⟩
 .unfold ec;rw[ad rfl];exact hk
 .unfold gCh;simp only[alK hk h16,gz1,gz2,gz3,pC]
def N5 {k:KTourn}(hk:dE k)(hn:aR k.c.n)(h16:k.c.p.length<=18)(ha:d5 k.c.n=0):Vld ⟨2,zKH,k,zHT,zKH⟩:=by
 refine⟨⟨⟨λ_=>rfl,λh=>absurd rfl h,λ_=>rfl,λ_=>rfl⟩,?_,ha⟩,⟨⟨show(0:Int)<=2 by decide,show(2:Int)<=255 by decide⟩,pq,qT hk.1 hn,pq,pq⟩,?_⟩
 .unfold ec;rw[ac (show¬(2:Int)=1 by decide),ad rfl];exact hk
 .unfold gCh;simp only[alM hk h16,gz1,gz3,pC]
def N6 {k:Heater}(hk:gb k)(hn:aR k.c.n)(h16:k.c.p.length<=18)(ha:d5 k.c.n=0):Vld ⟨3,zKH,zKT,k,zKH⟩:=by
 refine⟨⟨⟨λ_=>rfl,λ_=>rfl,λh=>absurd rfl h,λ_=>rfl⟩,?_,ha⟩,⟨⟨show(0:Int)<=3 by decide,show(3:Int)<=255 by decide⟩,pq,pq,qT hk.1 hn,pq⟩,?_⟩
 .unfold ec;rw[ac (show¬(3:Int)=1 by decide),ac (show¬(3:Int)=2 by decide),ad rfl];exact hk
 .unfold gCh;simp only[alN hk h16,gz1,gz2,pC]
def N7 {k:KHeap}(hk:ga k)(hn:aR k.c.n)(h16:k.c.p.length<=18)(ha:d5 k.c.n=0):Vld ⟨4,zKH,zKT,zHT,k⟩:=by
 refine⟨⟨⟨λ_=>rfl,λ_=>rfl,λ_=>rfl,λh=>absurd rfl h⟩,?_,ha⟩,⟨⟨show(0:Int)<=4 by decide,show(4:Int)<=255 by decide⟩,pq,pq,pq,qT hk.1 hn⟩,?_⟩
 .unfold ec;rw[ac (show¬(4:Int)=1 by decide),ac (show¬(4:Int)=2 by decide),ac (show¬(4:Int)=3 by decide),ad rfl];exact hk
 .unfold gCh;simp only[alL hk h16,gz1,gz2,gz3,pC]
def vld_cases {c:Choice}(V:Vld c):(∃k,c=⟨1,k,zKT,zHT,zKH⟩/\ eU k)\/(∃k,c=⟨2,zKH,k,zHT,zKH⟩/\ dE k)\/(∃k,c=⟨3,zKH,zKT,k,zKH⟩/\ gb k)\/∃k,c=⟨4,zKH,zKT,zHT,k⟩/\ ga k:=by
 obtain⟨⟨a1,a2,a3,a4⟩,hp,_⟩:=V.ok;obtain⟨t,h,o,x,g⟩:=c;unfold ec at hp;simp only at a1 a2 a3 a4 hp;by_cases t1:t=1
 .subst t1;rw[ad rfl] at hp;rw[a2 (by decide),a3 (by decide),a4 (by decide)];exact .inl ⟨h,rfl,hp⟩
 rw[ac t1] at hp;by_cases t2:t=2
 .subst t2;rw[ad rfl] at hp;rw[a1 (by decide),a3 (by decide),a4 (by decide)];exact .inr (.inl ⟨o,rfl,hp⟩)
 rw[ac t2] at hp;by_cases t3:t=3
 .subst t3;rw[ad rfl] at hp;rw[a1 (by decide),a2 (by decide),a4 (by decide)];exact .inr (.inr (.inl ⟨x,rfl,hp⟩))
 rw[ac t3] at hp;by_cases t4:t=4
 .subst t4;rw[ad rfl] at hp;rw[a1 (by decide),a2 (by decide),a3 (by decide)];exact .inr (.inr (.inr ⟨g,rfl,hp⟩))
 rw[ac t4] at hp;exact hp.elim
structure Stp (c:Choice)(u:Rt)(g:List Pt)(E:Int)(x:Choice)(e:Int):Prop where
 vld:e=0->Vld x/\ x.tag=c.tag/\(cH x).n=u/\(cH x).p=g
 err:e=E\/(E=0/\ e=18)
def DV {g:List Pt}{c:Clock}{hp:List Int}:(mZ g c hp).2=0\/(mZ g c hp).2=18:=by unfold mZ;cases renewG g (edgesH hp) c<;>simp
def DW {g:List Pt}{c:Clock}:(oU g c).2=0\/(oU g c).2=18:=by unfold oU;cases renewG g (edgesU g (upsO c.n g)) c<;>simp
def DX {g:List Pt}{c:Clock}:(oV g c).2=0\/(oV g c).2=18:=by unfold oV;cases renewG g (edgsT (cart c.n g).n g.length) c<;>simp
def DY {g:List Pt}{c:Clock}{pl:List Int}:(jH g c pl).2=0\/(jH g c pl).2=18:=by unfold jH;cases renewG g (edsB (bracketOf c.n g pl).w pl (bracketOf c.n g pl).w.length) c<;>simp
def mG {α:Type}{E:Int}{x:α×Int}{z:α}(h:x.2=0\/x.2=18):(if E=0 then x else(z,E)).2=E\/(E=0/\(if E=0 then x else(z,E)).2=18):=by
 by_cases e:E=0
 .rw[ad e];rcases h with h|h
  .exact .inl (by rw[h,e])
  .exact .inr ⟨e,h⟩
 .rw[ac e];exact .inl rfl
section
variable {c:Choice}(V:Vld c)
include V
theorem oy:bo D 27 [CHO c]=some [.i64 0]:=by
 classical
 have h:=phi (c26 V.h64 V.g);rw[aq V.ok] at h;exact h
open Classical in
theorem ac9 (h15:(cH c).p.length<=17)(p:Pt):∃x e,Ans D 34 [CHO c,PP p] [CHO (fH x e),.i64 e]/\ Stp c (cH c).n (putF (cH c).p p) (fi (cH c).p p) x e:=by
 have hc:=oy V;have ha:=V.ok.2.2;have h64:=V.h64;have hl:∀{l:List Pt},l.length<=17->fi l p=0->(putF l p).length<=18:=λ{l} hl he=>by
  have e:putF l p=jG p l:=ad he;have:=(ui (l:=l) (p:=p)).length_eq;rw[ai,aB,ai,aM] at this;rw[e,this];omega
 obtain⟨g1,g2,g3,g4⟩:=nj V.g;rcases vld_cases V with⟨k,rfl,hk⟩|⟨k,rfl,hk⟩|⟨k,rfl,hk⟩|⟨k,rfl,hk⟩
 .have hchk:=c77 h64.h1 g1;rw[aq hk] at hchk;refine⟨_,_,aly hc rfl (c85 hk h64.h1.1 hchk p),⟨λhe=>?_,mG DV⟩⟩;obtain⟨q1,q2,q3,q4⟩:=ac4 hk h64.h1.1 he;exact⟨N4 q2 (by rw[q3];exact h64.h1.1) (by rw[q4];exact hl h15 q1) (by rw[q3];exact ha),rfl,q3,q4⟩
 .have hchk:=c78 h64.h2 g2;rw[aq hk] at hchk;refine⟨_,_,alz hc rfl (c86 hk h64.h2.1 hchk p),⟨λhe=>?_,mG DY⟩⟩;obtain⟨q1,q2,q3,q4⟩:=ac7 hk h64.h2.1 he;exact⟨N5 q2 (by rw[q3];exact h64.h2.1) (by rw[q4];exact hl h15 q1) (by rw[q3];exact ha),rfl,q3,q4⟩
 .have hchk:=c79 h64.h3 g3;rw[aq hk] at hchk;refine⟨_,_,alA hc rfl (c87 hk.1 h64.h3.1 hchk p),⟨λhe=>?_,mG DX⟩⟩;obtain⟨q1,q2,q3,q4⟩:=ZD hk.1 h64.h3.1 he;exact⟨N6 q2 (by rw[q3];exact h64.h3.1) (by rw[q4];exact hl h15 q1) (by rw[q3];exact ha),rfl,q3,q4⟩
 .have hchk:=c80 h64.h4 g4;rw[aq hk] at hchk;refine⟨_,_,alB hc rfl (c88 hk.1 h64.h4.1 hchk p),⟨λhe=>?_,mG DW⟩⟩;obtain⟨q1,q2,q3,q4⟩:=ZF hk.1 h64.h4.1 he;exact⟨N7 q2 (by rw[q3];exact h64.h4.1) (by rw[q4];exact hl h15 q1) (by rw[q3];exact ha),rfl,q3,q4⟩
end
def Sg {ld:Nat->Nat->Bool}{n:Nat}(L:Lin ld n){root:Int}{l:List (Int×Int)}(C:kJ ld n root l)(h0:0<n):∃r:Nat,r<n/\(∀i,i<n->i≠r->∃j,Below l i j)/\∀j,¬Below l r j:=by
 rcases C.1 with⟨h,_⟩|⟨r,hr,T⟩
 .omega
 .refine⟨r,T.2.1,λi hi hne=>HU L C hi (by omega),λj hj=>?_⟩;have hl:j<n:=by obtain⟨x,hx,_⟩:=hj;have:=(aD.1 hx).1;have:=C.2.1;omega
  have h1:=(pa L C hj).1;by_cases e:j=r
  .subst e;rw[L.asymm _ _ h1] at h1;cases h1
  .have:=T.2.2 j (by omega) hl e;rw[L.asymm _ _ h1] at this;cases this
def ZJ {l:List Nod}{i:Nat}:(rm l i).length=if l.any (nodC i)=true then 1 else 0:=by
 unfold rm;cases e:l.findIdx? (nodC i) with
 |none=>
  rw[eR] at e;rw[ac]
  .rfl
  .rw[jW];rintro⟨x,hx,h⟩;rw[e x hx] at h;cases h
 |some k=>
  obtain⟨hk,h,_⟩:=bC.1 e;rw[ad (jW.2 ⟨_,List.getElem_mem hk,h⟩)];rfl
def HY {l:List Nod}{n r:Nat}(h:∀i,i<n->i≠r->l.any (nodC i)=true)(h0:l.any (nodC r)=false):∀m,m<=n->(edgsT l m).length=if r<m then m-1 else m
 |0,_=>by simp[edgsT]
 |m+1,hm=>by
  have ih:=HY h h0 m (by omega);rw[oc,aB,ih,ZJ];by_cases e:m=r
  .subst e;rw[ac (by omega),ac (by simp[h0]),ad (by omega)];rfl
  .rw[ad (h m (by omega) e)];split<;>split<;>omega
def ZK {l:List Pt}{t:Rt}(h:okF l):(edgsT (cart t l).n l.length).length=l.length-1:=by
 by_cases h0:l.length=0
 .rw[h0];rfl
 obtain⟨r,hr,a1,a2⟩:=Sg (fQ (t:=t) h.2.2) (kK (fQ (t:=t) h.2.2)) (by omega);rw[HY (n:=l.length) (r:=r) (λi hi hne=>?_) ?_ _ (aC _),ad hr]
 .rw[<-mu,jW];rintro⟨x,hx,hc⟩;obtain⟨k,hk⟩:=aH.1 hx;exact a2 k (od h hk hc)
 .obtain⟨j,y,hy,hb⟩:=a1 i hi hne;obtain⟨x,b1,b2,b3,_⟩:=ia h hy;refine jW.2 ⟨x,ax b1,?_⟩;unfold nodC
  grind
def Pv {i:Int}:∀{l:List Pt},Ids l->(∃p∈l,p.id=i)->(l.filter λp=>decide (p.id≠i)).length+1=l.length
 |[],_,⟨_,h,_⟩=>by cases h
 |p::l,hi,⟨q,hq,e⟩=>by
  by_cases c:p.id=i
  .have:l.filter (λp=>decide (p.id≠i))=l:=dX.2 λx hx=>aq λex=>(bY.1 hi).1 (by rw[c,<-ex];exact aY.2 ⟨x,hx,rfl⟩);rw[cp,ac (by simp[c]),this,aW]
  .have ih:=Pv (i:=i) hi.tail (by
    rcases bw.1 hq with rfl|hq
    .exact absurd e c
    .exact⟨q,hq,e⟩)
   rw[cp,ad (aq c),aW,aW,ih]
def W8 {α β:Type}{f:α->β}(g:α->Prop)[DecidablePred g]:∀l:List α,(l.filterMap λx=>if g x then some (f x) else none).length=(l.filter λx=>decide (g x)).length
 |[]=>rfl
 |x::l=>by
  have ih:=W8 (f:=f) g l;rw[j4,cp];by_cases c:g x
  .simp[c,ih]
  .simp[c,ih]
def ZL {l:List Pt}{t:Rt}(h:okF l):(edgesU l (upsO t l)).length=l.length-1:=by
 unfold upsO;rw[yw];unfold oP;rw[W8];cases l with
 |nil=>rfl
 |cons p l=>
  have hi:=cJ h.2.2;have hm:cY t l p∈p::l:=by
   rcases topP_mem t l p with e|e
   .rw[e];simp
   .simp[e]
  have nn:=iO h;have hn:=wM (t:=t) h;have key:∀q∈p::l,(0<=luk (hangs t (p::l)) q.id 0)↔q.id≠(cY t l p).id:=λq hq=>by
   obtain⟨f,hf⟩:=FJ (t:=t) (p::l).length (p::l) (-1) 0 (aC _) hi (λx hx=>(nn x hx).1) q hq;have hl:(q.id,luk (hangs t (p::l)) q.id 0)∈hangs t (p::l):=Cd ⟨f,hf⟩;generalize luk (hangs t (p::l)) q.id 0=v at hl;unfold hangs at hl hn;rw[eJ] at hl hn;rw[bK,bY] at hn;have hs:∀b:Int,(side (p::l) (cY t l p).id 0 b).length<=l.length:=λb=>by
    have:=qg (t:=t) (p:=p) (l:=l) (d:=0) (b:=b);omega
   have fac:=λb:Int=>pb (t:=t) l.length (side (p::l) (cY t l p).id 0 b) (cY t l p).id (0+1) (hs b) (hi.filter _);have tail:∀b:Int,(q.id,v)∈eJ t (side (p::l) (cY t l p).id 0 b) (cY t l p).id (0+1)->0<=v:=λb hb=>by
    obtain⟨_,_,_,e⟩:=fac b _ hb;rcases e with e|⟨x,hx,e,_⟩
    .have e:v=(cY t l p).id:=e;rw[e];exact(nn _ hm).1
    .have e:x.id=v:=e;rw[<-e];exact(nn _ (bh.1 hx).1).1
   rcases bw.1 hl with e|e
   .have e1:q.id=(cY t l p).id:=bc (·.1) e;have e2:v= -1:=bc (·.2) e;omega
   .have ne:q.id≠(cY t l p).id:=λc=>by
     have m:=aY.2 ⟨_,e,(rfl:(q.id,v).1=q.id)⟩;rw[c] at m;exact hn.1 m
    rcases bQ.1 e with e|e
    .have:=tail 0 e;omega
    .have:=tail 1 e;omega
  rw[il (q:=λq=>decide (q.id≠(cY t l p).id)) (λq hq=>by simp only[key q hq])];have:=Pv hi ⟨_,hm,rfl⟩;omega
def cntC (c:Choice):Nat:=c.heap.c.q.l.length+c.o.c.q.l.length+c.x.c.q.l.length+c.g.c.q.l.length
def ajP {c:Choice}(V:Vld c):cntC c=(cH c).p.length-1:=by
 have z:zKH.c.q.l.length=0:=rfl;have z2:zKT.c.q.l.length=0:=rfl;have z3:zHT.c.q.l.length=0:=rfl;unfold cntC;rcases vld_cases V with⟨k,rfl,hk⟩|⟨k,rfl,hk⟩|⟨k,rfl,hk⟩|⟨k,rfl,hk⟩
 .show k.c.q.l.length+_+_+_=k.c.p.length-1
  rw[hk.2.2.2.2.1,z,z2,z3];unfold edgesH;rw[jM,hk.2.1];omega
 .show _+k.c.q.l.length+_+_=k.c.p.length-1
  have hl:=hk.2.1.1.1;have hf:jk (wonI k.c.n k.c.p) k.b.w k.b.p:=hk.2.2.2.2.2.1;have hc:=HW hf (by have:=hl.2.2;omega);rw[hk.2.2.2.2.1] at hc;simp only;rw[hk.2.2.2.2.2.2.1,z,z3];by_cases hz:k.c.p.length=0
  .omega
  obtain⟨x,hx⟩:=List.exists_mem_of_length_pos (l:=k.b.p.filter λx=>decide (0<=x)) (by rw[hk.2.2.2.2.1];omega);obtain⟨hx1,hx2⟩:=bh.1 hx;obtain⟨q,hq⟩:=aH.1 hx1;have hql:=aL hq;have hr:=HX hf (k.b.w.length+q) (k.b.w.length+q) (aC _) (by have:=hl.2.2;omega) (by
   rw[Cf (by omega) (by rw[kg];exact hq)];exact aZ hx2)
  unfold ow at hc;rw[ad hr] at hc;omega
 .show _+_+k.c.q.l.length+_=k.c.p.length-1
  simp only;rw[hk.2.2.1,ZK hk.1.2.1,z,z2];omega
 .show _+_+_+k.c.q.l.length=k.c.p.length-1
  simp only;rw[hk.2.2.1,ZL hk.1.2.1,z,z2,z3];omega
def zJ (n i:Nat):Option PV->Option (List PV)
 |some (.agg cs)=>if i+n<=cs.length then some ((cs.drop i).take n) else none
 |_=>none
def zK (Φ:PhT)(N:Nat)(k:K)(J:List JT)(e:List PV):Option (List PV)->Option (List PV)
 |some vs=>den Φ N k J (e++vs)
 |none=>none
section
variable {Φ:PhT}{N m:Nat}{k:K}{J:List JT}
def W9 {cs:List PV}:∀(n i:Nat) (e:List PV),e[m]?=some (.agg cs)->i<=cs.length->den Φ N (kCn i n m k) J e=zK Φ N k J e (zJ n i (some (.agg cs)))
 |0,i,e,h,hi=>by
  rw[Ng];simp only[zJ,zK,lQ,hi,az,fR,aT]
 |n+1,i,e,h,hi=>by
  rw[zj,h,zi,GR,DD,Ba,Nd];by_cases hc:i<cs.length
  .have hx:=ah hc;rw[hx,qe,W9 n (i+1) _ (by rw[aI (aD.1 h).1];exact h) hc];by_cases c:i+(n+1)<=cs.length
   .have c':i+1+n<=cs.length:=by omega
    simp only[zJ,zK,c,c',az];rw[cA hc,gK,aX];rfl
   .have c':¬i+1+n<=cs.length:=by omega
    simp only[zJ,zK,c,c',aw]
  .have c':¬i+(n+1)<=cs.length:=by omega
   rw[bj (by omega)];simp only[zJ,zK,c',aw];rfl
def ada {n i:Nat}{e:List PV}:den Φ N (kCn i (n+1) m k) J e=zK Φ N k J e (zJ (n+1) i e[m]?):=by
 cases h:e[m]? with
 |none=>
  rw[zj,h];rfl
 |some v=>
  have no:∀v,RF.ev (.cell i) [v]=none->den Φ N (kCn i (n+1) m k) J e=none\/e[m]?≠some v:=λv hv=>by
   by_cases hm:e[m]?=some v
   .rw[zj,hm,zi,GR,DD,Ba,hv];exact .inl rfl
   .exact .inr hm
  cases v with
  |v x=>exact(no _ rfl).resolve_right λg=>g h
  |sl x=>exact(no _ rfl).resolve_right λg=>g h
  |agg cs=>
   by_cases hi:i<=cs.length
   .exact W9 (n+1) i e h hi
   .refine((no (.agg cs) ?_).resolve_right λg=>g h).trans ?_
    .rw[Nd,bj (by omega)]
    .have c':¬i+(n+1)<=cs.length:=by omega
     simp only[zJ,zK,c',aw]
def x8 {e:List PV}:den Φ N (kCn 0 51 m k) J e=zK Φ N k J e (zJ 51 0 e[m]?):=ada
def qk {e vs:List PV}:zK Φ N k J e (some vs)=den Φ N k J (e++vs):=rfl
end
def evT:Nat->List PV->Option (List PV)->Option (List PV)
 |0,_,r=>r
 |_+1,[],_=>none
 |n+1,x::xs,r=>evD x (evT n xs r)
def lL {e:List PV}{l:List Nat}:∀{n a:Nat},evs e (xs (rg a n l))=evT n (e.drop a) (evs e (xs l))
 |0,a=>rfl
 |n+1,a=>by
  rw[abh];cases h:e[a]? with
  |none=>
   rw[pe (fX.1 h)];rfl
  |some x=>
   obtain⟨hl,hx⟩:=aD.1 h;rw[zi,lL,cA hl,hx];rfl
def tf {r:Option (List PV)}{x:List PV}:evT 0 x r=r:=by unfold evT;rfl
def tg {n:Nat}{y:PV}{x:List PV}{r:Option (List PV)}:evT (n+1) (y::x) r=evD y (evT n x r):=rfl
def ao6 (c:Choice)(t:Rt):Prop:=(c.tag=1->qA t c.heap.c c.heap.heap=none)/\(c.tag=2->gL (edT c.o.c.p c.o.b.p) t c.o.c=none)/\(c.tag=3->gL (λt=>edgsT (cart t c.x.c.p).n c.x.c.p.length) t c.x.c=none)/\(c.tag=4->gL (λt=>edgesU c.g.c.p (upsO t c.g.c.p)) t c.g.c=none)
def advE (c:Choice)(t:Rt):Int:=if d5 t=0 then(if crs t (cH c).n<0 then 44 else 0) else d5 t
def nT {f:FuncId}{args:List PV}{x:Choice}{out:List Crt}{e:Int}(h:Ans D f args (rA x (sl crow out) e)):∃out':List Crt,Ans D f args [CHO (fH x e),sl crow out',.i64 e]:=by
 unfold rA at h;unfold fH;by_cases he:e=0
 .rw[ad he] at h;rw[ad he,he];exact⟨out,h⟩
 .rw[ac he] at h;rw[ac he];exact⟨[],h⟩
section
variable {c:Choice}(V:Vld c)
include V
open Classical in
theorem ZM (h15:(cH c).p.length<=18)(id:Int):∃x e,Ans D 35 [CHO c,.i64 id] [CHO (fH x e),.i64 e]/\ Stp c (cH c).n (takeF (cH c).p id) (ek (cH c).p id) x e:=by
 have hc:=oy V;have ha:=V.ok.2.2;have h64:=V.h64;have hl:∀{l:List Pt},l.length<=18->ek l id=0->(takeF l id).length<=18:=λ{l} hl he=>by
  have e:takeF l id=l.filter (rR id):=ad he;rw[e];exact bH (dW _ _) hl
 obtain⟨g1,g2,g3,g4⟩:=nj V.g;rcases vld_cases V with⟨k,rfl,hk⟩|⟨k,rfl,hk⟩|⟨k,rfl,hk⟩|⟨k,rfl,hk⟩
 .have hchk:=c77 h64.h1 g1;rw[aq hk] at hchk;refine⟨_,_,alC hc rfl (c93 hk h64.h1.1 hchk id),⟨λhe=>?_,mG DV⟩⟩;obtain⟨q1,q2,q3,q4⟩:=ZA hk h64.h1.1 he;exact⟨N4 q2 (by rw[q3];exact h64.h1.1) (by rw[q4];exact hl h15 q1) (by rw[q3];exact ha),rfl,q3,q4⟩
 .have hchk:=c78 h64.h2 g2;rw[aq hk] at hchk;refine⟨_,_,alD hc rfl (c94 hk h64.h2.1 hchk id),⟨λhe=>?_,mG DY⟩⟩;obtain⟨q1,q2,q3,q4⟩:=ZC hk h64.h2.1 he;exact⟨N5 q2 (by rw[q3];exact h64.h2.1) (by rw[q4];exact hl h15 q1) (by rw[q3];exact ha),rfl,q3,q4⟩
 .have hchk:=c79 h64.h3 g3;rw[aq hk] at hchk;refine⟨_,_,alE hc rfl (c95 hk.1 h64.h3.1 hchk id),⟨λhe=>?_,mG DX⟩⟩;obtain⟨q1,q2,q3,q4⟩:=W4 hk.1 h64.h3.1 he;exact⟨N6 q2 (by rw[q3];exact h64.h3.1) (by rw[q4];exact hl h15 q1) (by rw[q3];exact ha),rfl,q3,q4⟩
 .have hchk:=c80 h64.h4 g4;rw[aq hk] at hchk;refine⟨_,_,alF hc rfl (c96 hk.1 h64.h4.1 hchk id),⟨λhe=>?_,mG DW⟩⟩;obtain⟨q1,q2,q3,q4⟩:=W5 hk.1 h64.h4.1 he;exact⟨N7 q2 (by rw[q3];exact h64.h4.1) (by rw[q4];exact hl h15 q1) (by rw[q3];exact ha),rfl,q3,q4⟩
open Classical in
theorem adb (h15:(cH c).p.length<=18)(p:Pt):∃x e,Ans D 36 [CHO c,PP p] [CHO (fH x e),.i64 e]/\ Stp c (cH c).n (chgF (cH c).p p) (gg (cH c).p p) x e:=by
 have hc:=oy V;have ha:=V.ok.2.2;have h64:=V.h64;have hl:∀{l:List Pt},l.length<=18->gg l p=0->(chgF l p).length<=18:=λ{l} hl he=>by
  have e:chgF l p=l.set (pos l p.id).toNat p:=ad he;rw[e,aP];exact hl
 obtain⟨g1,g2,g3,g4⟩:=nj V.g;rcases vld_cases V with⟨k,rfl,hk⟩|⟨k,rfl,hk⟩|⟨k,rfl,hk⟩|⟨k,rfl,hk⟩
 .have hchk:=c77 h64.h1 g1;rw[aq hk] at hchk;refine⟨_,_,alG hc rfl (ao5 hk h64.h1.1 hchk p),⟨λhe=>?_,mG DV⟩⟩;obtain⟨q1,q2,q3,q4⟩:=ac5 hk h64.h1.1 he;exact⟨N4 q2 (by rw[q3];exact h64.h1.1) (by rw[q4];exact hl h15 q1) (by rw[q3];exact ha),rfl,q3,q4⟩
 .have hchk:=c78 h64.h2 g2;rw[aq hk] at hchk;refine⟨_,_,alH hc rfl (ao3 hk h64.h2.1 hchk p),⟨λhe=>?_,mG DY⟩⟩;obtain⟨q1,q2,q3,q4⟩:=ac8 hk h64.h2.1 he;exact⟨N5 q2 (by rw[q3];exact h64.h2.1) (by rw[q4];exact hl h15 q1) (by rw[q3];exact ha),rfl,q3,q4⟩
 .have hchk:=c79 h64.h3 g3;rw[aq hk] at hchk;refine⟨_,_,alI hc rfl (aoY hk.1 h64.h3.1 hchk p),⟨λhe=>?_,mG DX⟩⟩;obtain⟨q1,q2,q3,q4⟩:=ZE hk.1 h64.h3.1 he;exact⟨N6 q2 (by rw[q3];exact h64.h3.1) (by rw[q4];exact hl h15 q1) (by rw[q3];exact ha),rfl,q3,q4⟩
 .have hchk:=c80 h64.h4 g4;rw[aq hk] at hchk;refine⟨_,_,alJ hc rfl (aoX hk.1 h64.h4.1 hchk p),⟨λhe=>?_,mG DW⟩⟩;obtain⟨q1,q2,q3,q4⟩:=ZG hk.1 h64.h4.1 he;exact⟨N7 q2 (by rw[q3];exact h64.h4.1) (by rw[q4];exact hl h15 q1) (by rw[q3];exact ha),rfl,q3,q4⟩
open Classical in
theorem adc (h15:(cH c).p.length<=18){t:Rt}(ht:aR t):∃x e,(∃out:List Crt,Ans D 37 [CHO c,R t] [CHO (fH x e),sl crow out,.i64 e])/\ Stp c t (cH c).p (advE c t) x e/\(e=18->d5 t=0->ao6 c t):=by
 have hc:=oy V;have h64:=V.h64;by_cases ha:d5 t=0
 rotate_left
 .refine⟨zCH,d5 t,⟨[],?_⟩,⟨λe=>absurd e ha,.inl (by unfold advE;rw[ac ha])⟩,λ_ e=>absurd e ha⟩;have:=d15 hc ht ha;unfold fH;rw[ac ha];exact this
 have hr:rok t=true:=by
  unfold d5 at ha;cases hr:rok t with
  |true=>rfl
  |false=>rw[hr] at ha;cases ha
 by_cases hp:crs t (cH c).n<0
 .exact⟨zCH,44,⟨[],an0 h64 V.g V.ok hr ht ha hp⟩,⟨(λe=>by cases e),.inl (by unfold advE;rw[ad ha,ad hp])⟩,λe=>by cases e⟩
 have hE:advE c t=0:=by unfold advE;rw[ad ha,ac hp]
 have hp:crs (cH c).n t<=0:=by have:=gm t (cH c).n;omega
 obtain⟨g1,g2,g3,g4⟩:=nj V.g;rcases vld_cases V with⟨k,rfl,hk⟩|⟨k,rfl,hk⟩|⟨k,rfl,hk⟩|⟨k,rfl,hk⟩
 .have hchk:=c77 h64.h1 g1;rw[aq hk] at hchk;have a:=c45 hchk (Dj hk h64.h1) hr ht hp;unfold goK at a;cases hgo:qA t k.c k.heap with
  |none=>
   rw[hgo] at a;exact⟨_,18,nT (out:=[]) (Il (k:=zKH) hc hr ht ha rfl a),⟨(λe=>by cases e),.inr ⟨hE,rfl⟩⟩,λ_ _=>⟨λ_=>hgo,λe=>absurd e (show¬(1:Int)=2 by decide),λe=>absurd e (show¬(1:Int)=3 by decide),λe=>absurd e (show¬(1:Int)=4 by decide)⟩⟩
  |some z=>
   obtain⟨d,hq,out⟩:=z;rw[hgo] at a;obtain⟨v1,v2⟩:=ajK hk h64.h1 hr hp hgo;exact⟨_,0,nT (Il hc hr ht ha rfl a),⟨λ_=>⟨N4 v1 ht (by show d.p.length<=18;rw[v2];exact h15) ha,rfl,rfl,v2⟩,.inl hE.symm⟩,λe=>by cases e⟩
 .obtain⟨h,hu,⟨h1,h2,ho⟩,hall⟩:=Av hk h64.h2;have hchk:=c78 h64.h2 g2;rw[aq hk] at hchk;have a:=c46 h hu h1 h2 hk.2.2.2.1 ho hr ht hp hchk;unfold goT at a;cases hgo:gL (edT k.c.p k.b.p) t k.c with
  |none=>
   rw[hgo] at a;exact⟨_,18,nT (out:=[]) (Im (k:=zKT) hc hr ht ha rfl a),⟨(λe=>by cases e),.inr ⟨hE,rfl⟩⟩,λ_ _=>⟨λe=>absurd e (show¬(2:Int)=1 by decide),λ_=>hgo,λe=>absurd e (show¬(2:Int)=3 by decide),λe=>absurd e (show¬(2:Int)=4 by decide)⟩⟩
  |some z=>
   obtain⟨d,out⟩:=z;rw[hgo] at a;obtain⟨v1,v2⟩:=ajN hk h64.h2 hr hp hgo;exact⟨_,0,nT (Im hc hr ht ha rfl a),⟨λ_=>⟨N5 v1 ht (by show d.p.length<=18;rw[v2];exact h15) ha,rfl,rfl,v2⟩,.inl hE.symm⟩,λe=>by cases e⟩
 .have hchk:=c79 h64.h3 g3;rw[aq hk] at hchk;have a:=c47 hchk (Di hk h64.h3).1 hk.2.1.symm hr ht hp;unfold goH at a;cases hgo:gL (λt=>edgsT (cart t k.c.p).n k.c.p.length) t k.c with
  |none=>
   rw[hgo] at a;exact⟨_,18,nT (out:=[]) (In (k:=zHT) hc hr ht ha rfl a),⟨(λe=>by cases e),.inr ⟨hE,rfl⟩⟩,λ_ _=>⟨λe=>absurd e (show¬(3:Int)=1 by decide),λe=>absurd e (show¬(3:Int)=2 by decide),λ_=>hgo,λe=>absurd e (show¬(3:Int)=4 by decide)⟩⟩
  |some z=>
   obtain⟨d,out⟩:=z;rw[hgo] at a;obtain⟨v1,v2⟩:=ajL hk h64.h3 hr hp hgo;exact⟨_,0,nT (In hc hr ht ha rfl a),⟨λ_=>⟨N6 v1 ht (by show d.p.length<=18;rw[v2];exact h15) ha,rfl,rfl,v2⟩,.inl hE.symm⟩,λe=>by cases e⟩
 .have hchk:=c80 h64.h4 g4;rw[aq hk] at hchk;have a:=c48 hchk (Dh hk h64.h4).1 hk.2.1.symm hr ht hp;unfold goU at a;cases hgo:gL (λt=>edgesU k.c.p (upsO t k.c.p)) t k.c with
  |none=>
   rw[hgo] at a;exact⟨_,18,nT (out:=[]) (Io (k:=zKH) hc hr ht ha rfl a),⟨(λe=>by cases e),.inr ⟨hE,rfl⟩⟩,λ_ _=>⟨λe=>absurd e (show¬(4:Int)=1 by decide),λe=>absurd e (show¬(4:Int)=2 by decide),λe=>absurd e (show¬(4:Int)=3 by decide),λ_=>hgo⟩⟩
  |some z=>
   obtain⟨d,out⟩:=z;rw[hgo] at a;obtain⟨v1,v2⟩:=ajM hk h64.h4 hr hp hgo;exact⟨_,0,nT (Io hc hr ht ha rfl a),⟨λ_=>⟨N7 v1 ht (by show d.p.length<=18;rw[v2];exact h15) ha,rfl,rfl,v2⟩,.inl hE.symm⟩,λe=>by cases e⟩
end
def z0:Rt:=⟨0,1⟩
def z2:Rt:=⟨2,1⟩
structure Ask where
 kind:Int
 p:Pt
 id:Int
 t:Rt
def G7 (u:Rt)(a:Ask):Rt:=if a.kind=4 then a.t else u
def zL (g:List Pt)(a:Ask):List Pt:=if a.kind=1 then putF g a.p else if a.kind=2 then takeF g a.id else if a.kind=3 then chgF g a.p else g
def zM (u:Rt)(g:List Pt)(a:Ask):Int:=if a.kind=1 then fi g a.p else if a.kind=2 then ek g a.id else if a.kind=3 then gg g a.p else if a.kind=4 then(if d5 a.t=0 then(if crs a.t u<0 then 44 else 0) else d5 a.t) else 0
structure Nxt (c:Choice)(a:Ask)(d:Choice)(e:Int):Prop where
 ok:e=0->Vld d/\ d.tag=c.tag/\(cH d).n=G7 (cH c).n a/\(cH d).p=zL (cH c).p a
 no:e≠0->d=zCH
 err:e=zM (cH c).n (cH c).p a\/e=18
def alP {x:Choice}:fH x 0=x:=ad rfl
def Cz {c x:Choice}{a:Ask}{u:Rt}{g:List Pt}{E e:Int}(S:Stp c u g E x e)(hu:G7 (cH c).n a=u)(hg:zL (cH c).p a=g)(hE:zM (cH c).n (cH c).p a=E):Nxt c a (fH x e) e:=by
 subst hu hg hE;refine⟨λhe=>?_,λhe=>ac he,S.err.imp_right And.right⟩;subst he;rw[alP];exact S.vld rfl
def ao7 (c:Clock):RF.ev (.part 2 1) [CL c]=some (F c.p):=rfl
def ZN {u:Rt}{g:List Pt}{a:Ask}(h:zM u g a=0):(zL g a).length<=g.length+1:=by
 unfold zM at h;unfold zL;split
 .rename_i t;rw[ad t] at h;rw[show putF g a.p=jG a.p g from ad h]
  have:=(ui (l:=g) (p:=a.p)).length_eq;rw[ai,aB,ai,aM] at this;omega
 .split
  .unfold takeF;split
   .exact Nat.le_succ_of_le (dW _ _)
   .simp
  .split
   .unfold chgF;split<;>simp
   .omega
def vr (a:Ask):List PV:=[.v (.int .u8 a.kind),.i64 a.p.id,.i64 a.p.a,.i64 a.p.b,.i64 a.id,.i64 a.t.num,.i64 a.t.den]
def ZO (a:Ask):(vr a).length=7:=rfl
def ZP {a b:Nat}(h:a+b<1000000000):IntKind.i64.wrap ((a:Int)+(b:Int))=((a+b:Nat):Int):=by
 rw[b5 (by omega) (by omega)];rfl
def ao8 {c:Choice}(V:Vld c):Ans D 33 [CHO c] [.i64 ((cntC c:Nat):Int),.i64 0]:=by
 obtain⟨g1,g2,g3,g4⟩:=nj V.g;have e1:=gI (sD g1).1;have e2:=gI (xk g2).1;have e3:=gI (D8 g3).1;have e4:=gI (sD g4).1;have m27:=oy V;have c5:RF.ev (.cell 5) [CHO c]=some (sl hrow c.heap.c.q.l):=rfl;have c17:RF.ev (.cell 17) [CHO c]=some (sl hrow c.o.c.q.l):=rfl;have c30:RF.ev (.cell 30) [CHO c]=some (sl hrow c.x.c.q.l):=rfl;have c43:RF.ev (.cell 43) [CHO c]=some (sl hrow c.g.c.q.l):=rfl;unfold cntC;refine am ?_;unfold k10;generalize c.heap.c.q.l=l1 at*;generalize c.o.c.q.l=l2 at*;generalize c.x.c.q.l=l3 at*;generalize c.g.c.q.l=l4 at*;simp only[aA,eW,m27,EV,ay,aF,au,aw,c5,c17,c30,c43,Xc,ai,ZP (a:=l1.length) (b:=l2.length) (by omega),ZP (a:=l1.length+l2.length) (b:=l3.length) (by omega),ZP (a:=l1.length+l2.length+l3.length) (b:=l4.length) (by omega)]
def g (c:Choice)(i:Nat):PV:=((bk c)[i]?).getD KP.z
def alQ (c:Choice):RF.ev .agg [g c 0,g c 1,g c 2,g c 3,g c 4,g c 5,g c 6,g c 7,g c 8,g c 9,g c 10,g c 11,g c 12,g c 13,g c 14,g c 15,g c 16,g c 17,g c 18,g c 19,g c 20,g c 21,g c 22,g c 23,g c 24,g c 25,g c 26,g c 27,g c 28,g c 29,g c 30,g c 31,g c 32,g c 33,g c 34,g c 35,g c 36,g c 37,g c 38,g c 39,g c 40,g c 41,g c 42,g c 43,g c 44,g c 45,g c 46,g c 47,g c 48,g c 49,g c 50]=some (CHO c):=rfl
def uj (c:Choice):zJ 51 0 (some (CHO c))=some [g c 0,g c 1,g c 2,g c 3,g c 4,g c 5,g c 6,g c 7,g c 8,g c 9,g c 10,g c 11,g c 12,g c 13,g c 14,g c 15,g c 16,g c 17,g c 18,g c 19,g c 20,g c 21,g c 22,g c 23,g c 24,g c 25,g c 26,g c 27,g c 28,g c 29,g c 30,g c 31,g c 32,g c 33,g c 34,g c 35,g c 36,g c 37,g c 38,g c 39,g c 40,g c 41,g c 42,g c 43,g c 44,g c 45,g c 46,g c 47,g c 48,g c 49,g c 50]:=rfl
def pA {l:List PV}:l.drop 0=l:=rfl
def pB {a:PV}{l:List PV}{n:Nat}:(a::l).drop (n+1)=l.drop n:=rfl
def CA (c:Choice):bk c=[g c 0,g c 1,g c 2,g c 3,g c 4,g c 5,g c 6,g c 7,g c 8,g c 9,g c 10,g c 11,g c 12,g c 13,g c 14,g c 15,g c 16,g c 17,g c 18,g c 19,g c 20,g c 21,g c 22,g c 23,g c 24,g c 25,g c 26,g c 27,g c 28,g c 29,g c 30,g c 31,g c 32,g c 33,g c 34,g c 35,g c 36,g c 37,g c 38,g c 39,g c 40,g c 41,g c 42,g c 43,g c 44,g c 45,g c 46,g c 47,g c 48,g c 49,g c 50]:=rfl
section
variable {N:Nat}{l:List Ask}{f0 W:JT}{y0 y1 y2 y3 y4 y5 y6 y7 y8 y9 y10 y11 y12 v65 v66 v67 v68 v69 v70 v71 v72 v73 v74 v75 v76 v77 v78 v79 v80 v81 v82 v83 v84 v85 v86 v87 v88 v89 v90 v91:PV}{i:Nat}{c d:Choice}{e:Int}
def lpT (hi:i<1000000000)(hw:W (bk (if e=0 then d else c)++[.i64 ((i+1:Nat):Int)])=some [.bool true]):
  den (bo D) N JB [f0,W] [y0,y1,y2,y3,y4,y5,y6,y7,y8,y9,y10,y11,y12,g c 0,g c 1,g c 2,g c 3,g c 4,g c 5,g c 6,g c 7,g c 8,g c 9,g c 10,g c 11,g c 12,g c 13,g c 14,g c 15,g c 16,g c 17,g c 18,g c 19,g c 20,g c 21,g c 22,g c 23,g c 24,g c 25,g c 26,g c 27,g c 28,g c 29,g c 30,g c 31,g c 32,g c 33,g c 34,g c 35,g c 36,g c 37,g c 38,g c 39,g c 40,g c 41,g c 42,g c 43,g c 44,g c 45,g c 46,g c 47,g c 48,g c 49,g c 50,.i64 (i:Int),v65,v66,v67,v68,v69,v70,v71,v72,v73,v74,v75,v76,v77,v78,v79,v80,v81,v82,v83,v84,v85,v86,v87,v88,v89,v90,v91,g d 0,g d 1,g d 2,g d 3,g d 4,g d 5,g d 6,g d 7,g d 8,g d 9,g d 10,g d 11,g d 12,g d 13,g d 14,g d 15,g d 16,g d 17,g d 18,g d 19,g d 20,g d 21,g d 22,g d 23,g d 24,g d 25,g d 26,g d 27,g d 28,g d 29,g d 30,g d 31,g d 32,g d 33,g d 34,g d 35,g d 36,g d 37,g d 38,g d 39,g d 40,g d 41,g d 42,g d 43,g d 44,g d 45,g d 46,g d 47,g d 48,g d 49,g d 50,.i64 e]=some [.bool true]:=by
 unfold JB;have u:=up1 hi;by_cases h:e=0
 .rw[ad h,CA] at hw;simp only[aA,EV,h,ay,az,↓lL,tf,tg,pA,pB];unfold JA;simp only[aA,EV,u,↓lL,tf,tg,pA,pB];exact hw
 .rw[ac h,CA] at hw;simp only[aA,EV,h,be,au,aw,↓lL,tf,tg,pA,pB];unfold JA;simp only[aA,EV,u,↓lL,tf,tg,pA,pB];exact hw
end
section
variable {l:List Pt}{t:Rt}(hl:okF l)(ht:aR t)(hr:rok t=true){d:Clock}
include hl ht hr
theorem ao9 (h:cW (edgesH (eg t l l.length)) (dy l t)=some d):Ans D 76 [F l,R t] [KH ⟨d,eg t l l.length⟩,.i64 0]:=by
 have h64:=hl.1;have hE:=Df hl (Hh (t:=t) (l:=l));have s9:=bZ (f:=I1) (l:=eg t l l.length);have m:=phi (Qp (ku hl ht hr).ok (show aR (dy l t).n from ht) (Cu hE) (by have:=hE.len;omega))
 unfold js at m;rw[h] at m;have m:bo D 169 [CL (dy l t),F l,sl crow (edgesH (eg t l l.length))]=some [CL d,.i64 0]:=m;refine an ⟨1001,?_⟩;unfold k55;simp only[aA,bf,bP,phi (Qd hl ht hr),df,cz,EV,ay,aF,au,aw,ai];refine(fA (m:=1001) (n:=l.length) (st:=λk=>[sl I1 (eg t l k),.i64 ((eg t l k).length:Int),.i64 (k:Int)]) (fin:=some [KH ⟨d,eg t l l.length⟩,.i64 0]) (λk self hk=>?_) (λself=>?_) (by omega))
 .obtain⟨p,hp⟩:∃p,l[k]?=some p:=⟨l[k],ah _⟩;have hbl:=vQ (t:=t) (l:=l) (k:=k) (by omega);have hbl':=vQ (t:=t) (l:=l) (k:=k+1) (by omega);have ap:=gA (f:=I1) (l:=eg t l k) (k:=[p.id]) (bytes:=8) (z:=1) (by simp;omega) cI;unfold QQ;simp only[aA,cz,EV,aa,bA hk,ba hp (cG _),aN hp,iC,De,bsI,qx,ap,ai];refine(Hi hl ht hr (N:=1001) (H:=(eg t l k++[p.id]).length) (by simp;omega) (k+1) k 1001 _ (by omega) (by omega) (by simp;omega) rfl (abJ hp) (abK hl hp)).trans ?_;unfold aaH;have e:(eg t l k++[p.id]).length=(eg t l (k+1)).length:=by rw[hbl',aB,hbl];rfl
  rw[<-Aq hp];simp only[EV,up1 (show k<1000000000 by omega),e]
 .unfold QQ;simp only[EV,aa,bM];unfold aaG;simp only[EV,aA,s9,phi (Xp (l:=eg t l l.length) (by rw[vQ (aC _)];omega)),m,df,kx,Qg]
theorem apa (h:cW (edT l (dz l) t) (dy l t)=some d):Ans D 77 [F l,R t] [KT ⟨d,bracketOf t l (dz l)⟩,.i64 0]:=by
 obtain⟨_,f1,f2⟩:=Ee hl;have m:=phi (aad (ku hl ht hr).ok (show aR (dy l t).n from ht) (pl:=dz l) f1 f2 Ef (CE hl))
 have e:Ej (dy l t) (dz l)=[KT ⟨d,bracketOf t l (dz l)⟩,.i64 0]:=by
  unfold Ej;have h:cW (edsB (bracketOf (dy l t).n (dy l t).p (dz l)).w (dz l) (bracketOf (dy l t).n (dy l t).p (dz l)).w.length) (dy l t)=some d:=h;rw[h];rfl
 rw[e] at m;have m:bo D 170 [CL (dy l t),F l,sl I1 (dz l)]=some [KT ⟨d,bracketOf t l (dz l)⟩,.i64 0]:=m;refine am ?_;unfold k56;simp[bf,bP,phi (Qd hl ht hr),df,EV,phi (anz hl),m,jB,aki]
theorem apb (h:cW (edgsT (cart t l).n l.length) (dy l t)=some d):Ans D 78 [F l,R t] [HT ⟨d,cart t l⟩,.i64 0]:=by
 have m:=phi (aae (ku hl ht hr).ok (show aR (dy l t).n from ht))
 have e:Ek (dy l t)=[HT ⟨d,cart t l⟩,.i64 0]:=by
  unfold Ek;have h:cW (edgsT (cart (dy l t).n (dy l t).p).n (dy l t).p.length) (dy l t)=some d:=h;rw[h];rfl
 rw[e] at m;have m:bo D 172 [CL (dy l t),F l]=some [HT ⟨d,cart t l⟩,.i64 0]:=m;refine am ?_;unfold k57;simp[bf,bP,phi (Qd hl ht hr),df,EV,m,jR]
theorem apc (h:cW (edgesU l (upsO t l)) (dy l t)=some d):Ans D 79 [F l,R t] [KH ⟨d,upsO t l⟩,.i64 0]:=by
 have m:=phi (aaf (ku hl ht hr).ok (show aR (dy l t).n from ht))
 have e:Em (dy l t)=[KH ⟨d,upsO t l⟩,.i64 0]:=by
  unfold Em;have h:cW (edgesU (dy l t).p (upsO (dy l t).n (dy l t).p)) (dy l t)=some d:=h;rw[h];rfl
 rw[e] at m;have m:bo D 173 [CL (dy l t),F l]=some [KH ⟨d,upsO t l⟩,.i64 0]:=m;refine am ?_;unfold k58;simp[bf,bP,phi (Qd hl ht hr),df,EV,m,eN]
end
def rg0 {l:List Pt}{t:Rt}(es:List Crt):renewG l es (dy l t)=cW es (dy l t):=by
 have e:vl (dropL es (dy l t).q.l (dy l t)) l=some (dy l t):=ad rfl;unfold renewG;rw[e];rfl
section
variable {l:List Pt}{t:Rt}(hl:okF l)(ht:aR t)(hr:rok t=true)(ha:d5 t=0)(h16:l.length<=18){d:Clock}
include hl ht hr ha h16
theorem apd (h:cW (edgesH (eg t l l.length)) (dy l t)=some d):Ans D 31 [.v (.int .u8 1),F l,R t] [CHO ⟨1,⟨d,eg t l l.length⟩,zKT,zHT,zKH⟩,.i64 0]/\ Vld ⟨1,⟨d,eg t l l.length⟩,zKT,zHT,zKH⟩/\(cH ⟨1,⟨d,eg t l l.length⟩,zKT,zHT,zKH⟩).n=t/\(cH ⟨1,⟨d,eg t l l.length⟩,zKT,zHT,zKH⟩).p=l:=by
 obtain⟨k,hk⟩:∃k:KHeap,k=⟨d,eg t l l.length⟩:=⟨_,rfl⟩;have e:mZ l (dy l t) (eg t l l.length)=(k,0):=by unfold mZ;rw[rg0,h,hk]
 obtain⟨v1,v2,v3⟩:=x7 hl (ku hl ht hr).ok (show aR (dy l t).n from ht) (Hh (t:=t)) (Jr hl _ (aC _)) (by rw[e])
 rw[e] at v1 v2 v3;have b1:=phi (ao9 hl ht hr h);rw[<-hk] at b1;have v1:eU k:=v1;have v3:k.c.p=l:=v3;have v2:k.c.n=t:=v2;rw[<-hk];refine⟨?_,N4 v1 (by rw[v2];exact ht) (by rw[v3];exact h16) (by rw[v2];exact ha),v2,v3⟩;have hkp:=λ(c:Choice) (e:Int)=>phi (c59 c e);have m:=phi (c44 ht);rw[ha] at m;refine am ?_;unfold k20;simp only[aA,bf,bP,u8E,EV,aa,az,b1,eN,kh0,kh1,kh2,kh3,kh4,kh5,kh6,kh7,kh8,kh9,aeg,aeh,Et,m,Es,anG,hkp,eW];rfl
theorem ape (h:cW (edT l (dz l) t) (dy l t)=some d):Ans D 31 [.v (.int .u8 2),F l,R t] [CHO ⟨2,zKH,⟨d,bracketOf t l (dz l)⟩,zHT,zKH⟩,.i64 0]/\ Vld ⟨2,zKH,⟨d,bracketOf t l (dz l)⟩,zHT,zKH⟩/\(cH ⟨2,zKH,⟨d,bracketOf t l (dz l)⟩,zHT,zKH⟩).n=t/\(cH ⟨2,zKH,⟨d,bracketOf t l (dz l)⟩,zHT,zKH⟩).p=l:=by
 obtain⟨f0,f1,f2⟩:=Ee hl;obtain⟨k,hk⟩:∃k:KTourn,k=⟨d,bracketOf t l (dz l)⟩:=⟨_,rfl⟩;have e:jH l (dy l t) (dz l)=(k,0):=by
  unfold jH;rw[rg0];have h:cW (edsB (bracketOf (dy l t).n l (dz l)).w (dz l) (bracketOf (dy l t).n l (dz l)).w.length) (dy l t)=some d:=h;rw[h,hk];rfl
 obtain⟨v1,v2,v3⟩:=Cy hl (ku hl ht hr).ok (show aR (dy l t).n from ht) (pl:=dz l) ⟨f1,f2,Ef,CE hl⟩ (by rw[f0];exact SH _ (by have:=hl.1;omega)) (Qj hl) (by rw[e])
 rw[e] at v1 v2 v3;have b1:=phi (apa hl ht hr h);rw[<-hk] at b1;have v1:dE k:=v1;have v3:k.c.p=l:=v3;have v2:k.c.n=t:=v2;rw[<-hk];refine⟨?_,N5 v1 (by rw[v2];exact ht) (by rw[v3];exact h16) (by rw[v2];exact ha),v2,v3⟩;have hkp:=λ(c:Choice) (e:Int)=>phi (c59 c e);have m:=phi (c44 ht);rw[ha] at m;have n1:¬(2:Int)=1:=by decide
 refine am ?_;unfold k20;simp only[aA,bf,bP,u8E,EV,aa,az,n1,aw,b1,jB,kt0,kt1,kt2,kt3,kt4,kt5,kt6,kt7,kt8,kt9,anA,anB,anC,Iq,Et,m,Es,anH,hkp,eW];rfl
theorem apf (h:cW (edgsT (cart t l).n l.length) (dy l t)=some d):Ans D 31 [.v (.int .u8 3),F l,R t] [CHO ⟨3,zKH,zKT,⟨d,cart t l⟩,zKH⟩,.i64 0]/\ Vld ⟨3,zKH,zKT,⟨d,cart t l⟩,zKH⟩/\(cH ⟨3,zKH,zKT,⟨d,cart t l⟩,zKH⟩).n=t/\(cH ⟨3,zKH,zKT,⟨d,cart t l⟩,zKH⟩).p=l:=by
 obtain⟨k,hk⟩:∃k:Heater,k=⟨d,cart t l⟩:=⟨_,rfl⟩;have e:oV l (dy l t)=(k,0):=by
  unfold oV;rw[rg0];have h:cW (edgsT (cart (dy l t).n l).n l.length) (dy l t)=some d:=h;rw[h,hk];rfl
 obtain⟨v1,v2,v3⟩:=Cw hl (ku hl ht hr).ok (show aR (dy l t).n from ht) (by rw[e])
 rw[e] at v1 v2 v3;have b1:=phi (apb hl ht hr h);rw[<-hk] at b1;have v1:gb k:=v1;have v3:k.c.p=l:=v3;have v2:k.c.n=t:=v2;rw[<-hk];refine⟨?_,N6 v1 (by rw[v2];exact ht) (by rw[v3];exact h16) (by rw[v2];exact ha),v2,v3⟩;have hkp:=λ(c:Choice) (e:Int)=>phi (c59 c e);have m:=phi (c44 ht);rw[ha] at m;have n1:¬(3:Int)=1:=by decide
 have n2:¬(3:Int)=2:=by decide
 refine am ?_;unfold k20;simp only[aA,bf,bP,u8E,EV,aa,az,n1,n2,aw,b1,jR,ht0,ht1,ht2,ht3,ht4,ht5,ht6,ht7,ht8,ht9,anD,anE,anF,QE,Iq,Et,m,Es,anI,hkp,eW];rfl
theorem apg (h:cW (edgesU l (upsO t l)) (dy l t)=some d):Ans D 31 [.v (.int .u8 4),F l,R t] [CHO ⟨4,zKH,zKT,zHT,⟨d,upsO t l⟩⟩,.i64 0]/\ Vld ⟨4,zKH,zKT,zHT,⟨d,upsO t l⟩⟩/\(cH ⟨4,zKH,zKT,zHT,⟨d,upsO t l⟩⟩).n=t/\(cH ⟨4,zKH,zKT,zHT,⟨d,upsO t l⟩⟩).p=l:=by
 obtain⟨k,hk⟩:∃k:KHeap,k=⟨d,upsO t l⟩:=⟨_,rfl⟩;have e:oU l (dy l t)=(k,0):=by
  unfold oU;rw[rg0];have h:cW (edgesU l (upsO (dy l t).n l)) (dy l t)=some d:=h;rw[h,hk];rfl
 obtain⟨v1,v2,v3⟩:=Cv hl (ku hl ht hr).ok (show aR (dy l t).n from ht) (by rw[e])
 rw[e] at v1 v2 v3;have b1:=phi (apc hl ht hr h);rw[<-hk] at b1;have v1:ga k:=v1;have v3:k.c.p=l:=v3;have v2:k.c.n=t:=v2;rw[<-hk];refine⟨?_,N7 v1 (by rw[v2];exact ht) (by rw[v3];exact h16) (by rw[v2];exact ha),v2,v3⟩;have hkp:=λ(c:Choice) (e:Int)=>phi (c59 c e);have m:=phi (c44 ht);rw[ha] at m;have n1:¬(4:Int)=1:=by decide
 have n2:¬(4:Int)=2:=by decide
 have n3:¬(4:Int)=3:=by decide
 refine am ?_;unfold k20;simp only[aA,bf,bP,u8E,EV,aa,az,n1,n2,n3,aw,b1,eN,kh0,kh1,kh2,kh3,kh4,kh5,kh6,kh7,kh8,kh9,aeg,aeh,QE,Iq,Et,m,Es,anJ,hkp,eW];rfl
end
def rnT (es:List Crt):Option Clock:=Cj es (dy cU t0)
def dT (es:List Crt):Clock:=(rnT es).getD (dy cU t0)
def F5 {es:List Crt}(h:(rnT es).isSome=true):cW es (dy cU t0)=some (dT es):=by
 refine(FV es (dy cU t0)).trans ?_;unfold dT;show rnT es=_
 cases e:rnT es with
 |none=>rw[e] at h;cases h
 |some d=>rfl
def mt1:KHeap:=⟨dT (edgesH (eg t0 cU cU.length)),eg t0 cU cU.length⟩
def mt2:KTourn:=⟨dT (edT cU (dz cU) t0),bracketOf t0 cU (dz cU)⟩
def mt3:Heater:=⟨dT (edgsT (cart t0 cU).n cU.length),cart t0 cU⟩
def mt4:KHeap:=⟨dT (edgesU cU (upsO t0 cU)),upsO t0 cU⟩
def ct1:Option Nat:=((IL t6 30000000 mt1.c mt1.heap []).getD none).map λz=>z.2.2.length
def ct2 (E:Rt->List Crt)(c:Clock):Option Nat:=((R8 E t6 5000 c []).getD none).map λz=>z.2.length
def ajQ:ct1=some 1:=by kernel_rfl
def ajR:ct2 (edT cU (dz cU)) mt2.c=some 1:=by kernel_rfl
def ajS:ct2 (λt=>edgsT (cart t cU).n cU.length) mt3.c=some 2:=by kernel_rfl
def ajT:ct2 (λt=>edgesU cU (upsO t cU)) mt4.c=some 1:=by kernel_rfl
def Si {E:Rt->List Crt}{c:Clock}{n:Nat}(h:ct2 E c=some n):((gL E t6 c).map (·.2)).map List.length=some n:=by
 rw[<-h];unfold gL ct2;rw[abr,Option.map_map];rfl
def alR:((qA t6 mt1.c mt1.heap).map (·.2.2)).map List.length=some 1:=by
 have e:((qA t6 mt1.c mt1.heap).map (·.2.2)).map List.length=ct1:=by
  unfold qA ct1;rw[WE,Option.map_map];rfl
 exact e.trans ajQ
def IR {tag:Int}{c:Choice}{n:Nat}{o:Option (List Crt)}(hn:Ans D 31 [.v (.int .u8 tag),F cU,R t0] [CHO c,.i64 0])(ha:∃x,Ans D 37 [CHO c,R t6] [CHO x,sl crow (o.getD []),.i64 (evO o)])(ho:o.map List.length=some n)(h2:n<=2):
  bo D 9 [.v (.int .u8 tag),F cU,R t0,R t6]=some [.i64 (n:Int),.i64 0]/\ bo D 11 [.v (.int .u8 tag),F cU,R t0,R t6]=some [.i64 (2-(n:Int)),.i64 0]:=by
 cases o with
 |none=>cases ho
 |some out=>
  have hl:out.length=n:=lh ho;obtain⟨x,ha⟩:=ha;have m1:=phi hn;have m2:bo D 37 [CHO c,R t6]=some [CHO x,sl crow out,.i64 0]:=phi ha;have m9:bo D 9 [.v (.int .u8 tag),F cU,R t0,R t6]=some [.i64 (n:Int),.i64 0]:=by
   refine phi (am ?_);unfold aeE;simp[EV,bf,bP,m1,m2,eW,hl]
  refine⟨m9,?_⟩;have m3:=phi (aoK (l:=cU) in0 in6);rw[WH,HM] at m3;have hw:=b5 (show-9223372036854775808<=((2:Nat):Int)-(n:Int) by omega) (by omega)
  refine phi (am ?_);unfold aeF;simp only[aA,bf,bP,m9,m3,EV,hw];simp
def alS:Ans D 13 [] [.bool true]:=by
 have m15:bo D 15 [.i64 64]=some [.i64 2016,.i64 0]:=phi (c8 (n:=64) (by decide));have m43:=phi aoL;have a0:bo D 44 [.i64 0]=some [R t0]:=phi (ajn 0);have a6:bo D 44 [.i64 6]=some [R t6]:=phi (ajn 6);have hr:rok t0=true:=by decide
 have ha:d5 t0=0:=by decide
 have r6:rok t6=true:=by decide
 have b6:d5 t6=0:=by decide
 have h16:cU.length<=18:=by decide
 have le:∀{r:Rt},r=t0->crs r t6<=0:=λh=>by rw[h];decide
 obtain⟨v1,p1⟩:_/\ _:=by
  obtain⟨n1,V,n3,n4⟩:=apd qj in0 hr ha h16 (F5 (es:=edgesH (eg t0 cU cU.length)) (by kernel_rfl));have hk:eU mt1:=by have h:=V.ok.2.1;unfold ec at h;rwa [ad rfl] at h
  obtain⟨x,hx⟩:=aoy r6 in6 hk V.h64.h1 (nj V.g).1 (le n3);exact IR (tag:=1) n1 (FR (Il (oy V) r6 in6 b6 rfl hx)) alR (by decide)
 obtain⟨v2,p2⟩:_/\ _:=by
  obtain⟨n1,V,n3,n4⟩:=ape qj in0 hr ha h16 (F5 (es:=edT cU (dz cU) t0) (by kernel_rfl));have hk:dE mt2:=by have h:=V.ok.2.1;unfold ec at h;rwa [ac (show¬(2:Int)=1 by decide),ad rfl] at h
  obtain⟨x,hx⟩:=aoz r6 in6 hk V.h64.h2 (nj V.g).2.1 (le n3);have ep:mt2.c.p=cU:=n4;have eb:mt2.b.p=dz cU:=rfl;rw[ep,eb] at hx;exact IR (tag:=2) n1 (FR (Im (oy V) r6 in6 b6 rfl hx)) (Si ajR) (by decide)
 obtain⟨v3,p3⟩:_/\ _:=by
  obtain⟨n1,V,n3,n4⟩:=apf qj in0 hr ha h16 (F5 (es:=edgsT (cart t0 cU).n cU.length) (by kernel_rfl));have hk:gb mt3:=by have h:=V.ok.2.1;unfold ec at h;rwa [ac (show¬(3:Int)=1 by decide),ac (show¬(3:Int)=2 by decide),ad rfl] at h
  obtain⟨x,hx⟩:=aoA r6 in6 hk V.h64.h3 (nj V.g).2.2.1 (le n3);have ep:mt3.c.p=cU:=n4;rw[ep] at hx;exact IR (tag:=3) n1 (FR (In (oy V) r6 in6 b6 rfl hx)) (Si ajS) (by decide)
 obtain⟨v4,p4⟩:_/\ _:=by
  obtain⟨n1,V,n3,n4⟩:=apg qj in0 hr ha h16 (F5 (es:=edgesU cU (upsO t0 cU)) (by kernel_rfl));have hk:ga mt4:=by have h:=V.ok.2.1;unfold ec at h;rwa [ac (show¬(4:Int)=1 by decide),ac (show¬(4:Int)=2 by decide),ac (show¬(4:Int)=3 by decide),ad rfl] at h
  obtain⟨x,hx⟩:=aoB r6 in6 hk V.h64.h4 (nj V.g).2.2.2 (le n3);have ep:mt4.c.p=cU:=n4;rw[ep] at hx;exact IR (tag:=4) n1 (FR (Io (oy V) r6 in6 b6 rfl hx)) (Si ajT) (by decide)
 have n1:(((1:Nat):Int))=1:=rfl;have n2:(((2:Nat):Int))=2:=rfl;have s1:(2:Int)-1=1:=rfl;have s2:(2:Int)-2=0:=rfl;rw[n1] at v1 v2 v4 p1 p2 p4;rw[n2] at v3 p3;rw[s1] at p1 p2 p4;rw[s2] at p3;have w0:IntKind.i64.wrap 0=0:=by decide
 have w1:IntKind.i64.wrap 1=1:=by decide
 have u2:IntKind.u8.wrap 2=2:=by decide
 have u3:IntKind.u8.wrap 3=3:=by decide
 have u4:IntKind.u8.wrap 4=4:=by decide
 have u5:IntKind.u8.wrap 5=5:=by decide
 refine an ⟨7,?_⟩;unfold aeG;simp only[EV,m15,bm,SZ,S1,S2,S3,m43,a0,a6,v1,v2,v3,v4,p1,p2,p3,p4];simp[EV,bm,w0,w1,u2,u3,u4,u5,v1,v2,v3,v4,p1,p2,p3,p4,m43,a0,a6]
section
variable {N:Nat}{l:List Ask}(hl:l.length<=8)(ht:∀a∈l,aR a.t){f0:JT}(h0:f0 []=some [.bool true]){y0 y2 y3 y4 y5 y6 y7 y8 y9 y10 y11 y12:PV}
include hl ht h0
set_option maxHeartbeats 4000000 in
theorem lpS {W:JT}{c:Choice}{d i:Nat}(h1:i+d=l.length)(V:Vld c)(hp:(cH c).p.length<=10+i)
  (hW:∀(x:Choice) (e:Int) (a:Ask),i+1<=l.length->Nxt c a x e->W (bk (if e=0 then x else c)++[.i64 ((i+1:Nat):Int)])=some [.bool true]):
  den (bo D) N Az [f0,W] ([y0,sl vr l,y2,y3,y4,y5,y6,y7,y8,y9,y10,y11,y12]++(bk c++[.i64 (i:Int)]))=some [.bool true]:=by
 have n1:=phi (c22 V.h64 V.g);have q1:Jq c=((cH c).n,(cH c).p,0):=ad V.ok;rw[q1] at n1;have n2:=phi (ao8 V);rw[ajP V] at n2;have ag:=alQ c;have le:decide ((i:Int)<=(l.length:Int))=true:=aq (by omega);have w1:IntKind.i64.wrap (((cH c).p.length:Int)-1)=((cH c).p.length:Int)-1:=b5 (by omega) (by omega);have mx:RF.ev (.mm true) [.v (.int .i64 0),.v (.int .i64 (((cH c).p.length:Int)-1))]=some (.i64 (((cH c).p.length-1:Nat):Int)):=by
  rw[show(((cH c).p.length-1:Nat):Int)=max 0 (((cH c).p.length:Int)-1) by omega]
  rfl
 have w2:IntKind.i64.wrap (2*((cH c).p.length:Int))=2*((cH c).p.length:Int):=b5 (by omega) (by omega);have gt:decide (2*((cH c).p.length:Int)<(((cH c).p.length-1:Nat):Int))=false:=ak (by omega);rw[CA];unfold Az;simp only[aA,EV,Xc,ai,le,az,ag,n1,n2,bP,bf,cz,ay,aF,au,aw,w1,mx,w2,gt];by_cases hd:i=l.length
 .rw[aq (show(i:Int)=(l.length:Int) by omega),ad rfl]
  exact h0
 rw[ak (show¬(i:Int)=(l.length:Int) by omega),ac (by simp)]
 obtain⟨a,ha⟩:∃a,l[i]?=some a:=⟨_,ah (by omega)⟩;have hta:=ht a (ax ha);have e0:RF.ev (.elt 0 0) [sl vr l,.v (.int .i64 (i:Int))]=some (.v (.int .u8 a.kind)):=(aN ha).trans rfl;have e1:RF.ev (.elt 1 3) [sl vr l,.v (.int .i64 (i:Int))]=some (PP a.p):=(aN ha).trans rfl;have e4:RF.ev (.elt 4 0) [sl vr l,.v (.int .i64 (i:Int))]=some (.i64 a.id):=(aN ha).trans rfl;have e5:RF.ev (.elt 5 2) [sl vr l,.v (.int .i64 (i:Int))]=some (R a.t):=(aN ha).trans rfl;have tx:=ba ha (ZO a);have ix:=hW;by_cases t1:a.kind=1
 .obtain⟨x,e,h,S⟩:=ac9 V (by omega) a.p;have m1:=phi h;have nx:Nxt c a (fH x e) e:=Cz S (by simp[G7,t1]) (by simp[zL,t1]) (by simp[zM,t1]);simp only[aA,EV,tx,e0,t1,ay,be,au,az,aw,e1,ag,m1,eW,↓x8,↓lL,qk,uj,tf,tg,pA,pB];exact lpT (d:=fH x e) (by omega) (hW _ _ a (by omega) nx)
 by_cases t2:a.kind=2
 .obtain⟨x,e,h,S⟩:=ZM V (by omega) a.id;have m1:=phi h;have nx:Nxt c a (fH x e) e:=Cz S (by simp[G7,t2]) (by simp[zL,t2]) (by simp[zM,t2]);simp only[aA,EV,tx,e0,t2,show¬(2:Int)=1 by decide,ay,be,au,az,aw,e4,ag,m1,eW,↓x8,↓lL,qk,uj,tf,tg,pA,pB]
  unfold Ay;simp only[EV];exact lpT (d:=fH x e) (by omega) (hW _ _ a (by omega) nx)
 by_cases t3:a.kind=3
 .obtain⟨x,e,h,S⟩:=adb V (by omega) a.p;have m1:=phi h;have nx:Nxt c a (fH x e) e:=Cz S (by simp[G7,t3]) (by simp[zL,t3]) (by simp[zM,t3]);simp only[aA,EV,tx,e0,t3,show¬(3:Int)=1 by decide,show¬(3:Int)=2 by decide,ay,be,au,az,aw,e1,ag,m1,eW,↓x8,↓lL,qk,uj,tf,tg,pA,pB]
  unfold Er;simp only[EV];unfold Ay;simp only[EV];exact lpT (d:=fH x e) (by omega) (hW _ _ a (by omega) nx)
 by_cases t4:a.kind=4
 .obtain⟨x,e,⟨out,h⟩,S,_⟩:=adc V (by omega) hta;have m1:=phi h;have nx:Nxt c a (fH x e) e:=Cz S (by simp[G7,t4]) (by simp[zL,t4]) (by simp[zM,advE,t4]);simp only[aA,EV,tx,e0,t4,show¬(4:Int)=1 by decide,show¬(4:Int)=2 by decide,show¬(4:Int)=3 by decide,ay,be,au,az,aw,e5,ag,m1,eW,↓x8,↓lL,qk,uj,tf,tg,pA,pB]
  unfold JC;simp only[EV];unfold Er;simp only[EV];unfold Ay;simp only[EV];exact lpT (d:=fH x e) (by omega) (hW _ _ a (by omega) nx)
 .have nx:Nxt c a c 0:=⟨λ_=>⟨V,rfl,(ac t4).symm,by simp[zL, *]⟩,λh=>absurd rfl h,.inl (by simp[zM, *])⟩;simp only[aA,EV,tx,e0,t1,t2,t3,t4,be,au,aw,ag,eW,↓lL,tf,tg,pA,pB];unfold JC;simp only[EV,↓lL,tf,tg,pA,pB];unfold Er;simp only[EV,↓lL,tf,tg,pA,pB];unfold Ay;simp only[EV,↓lL,tf,tg,pA,pB];exact lpT (d:=c) (by omega) (hW _ _ a (by omega) nx)
theorem lpB:∀(d i m:Nat) (c:Choice),i+d=l.length->d<m->Vld c->(cH c).p.length<=10+i->
  dA (bo D) N Az [f0] [y0,sl vr l,y2,y3,y4,y5,y6,y7,y8,y9,y10,y11,y12] m (bk c++[.i64 (i:Int)])=some [.bool true]
 |d,i,0,c,h1,h2,V,hp=>by omega
 |d,i,m+1,c,h1,h2,V,hp=>by
  rw[bm];refine lpS hl ht h0 h1 V hp λx e a hi nx=>?_;refine lpB (d-1) (i+1) m _ (by omega) (by omega) ?_ ?_
  .by_cases he:e=0
   .rw[ad he];exact(nx.ok he).1
   .rw[ac he];exact V
  .by_cases he:e=0
   .rw[ad he,(nx.ok he).2.2.2];have:=ZN (u:=(cH c).n) (g:=(cH c).p) (a:=a) (by rcases nx.err with q|q<;>omega)
    omega
   .rw[ac he];omega
end
def aph {N:Nat}{l:List Ask}(hl:l.length<=8)(ht:∀a∈l,aR a.t){f0:JT}(h0:f0 []=some [.bool true]){y0 y2 y3 y4 y5 y6 y7 y8 y9 y10 y11 y12:PV}{m:Nat}{c:Choice}(hm:l.length<m)(V:Vld c)(hp:(cH c).p.length<=10):
  dA (bo D) N Az [f0] [y0,sl vr l,y2,y3,y4,y5,y6,y7,y8,y9,y10,y11,y12] m [g c 0,g c 1,g c 2,g c 3,g c 4,g c 5,g c 6,g c 7,g c 8,g c 9,g c 10,g c 11,g c 12,g c 13,g c 14,g c 15,g c 16,g c 17,g c 18,g c 19,g c 20,g c 21,g c 22,g c 23,g c 24,g c 25,g c 26,g c 27,g c 28,g c 29,g c 30,g c 31,g c 32,g c 33,g c 34,g c 35,g c 36,g c 37,g c 38,g c 39,g c 40,g c 41,g c 42,g c 43,g c 44,g c 45,g c 46,g c 47,g c 48,g c 49,g c 50,.v (.int .i64 0)]=some [.bool true]:=by
 have:=lpB (N:=N) hl ht h0 (y0:=y0) (y2:=y2) (y3:=y3) (y4:=y4) (y5:=y5) (y6:=y6) (y7:=y7) (y8:=y8) (y9:=y9) (y10:=y10) (y11:=y11) (y12:=y12) l.length 0 m c (by omega) hm V hp;rw[CA] at this;exact this
def Sj {c:Choice}(h64:Cho64 c){l:List Ask}(hl:∀a∈l,aR a.t):Ans D 8 [CHO c,sl vr l] [.bool true]:=by
 classical
 have m19:=phi alS;have m20:=phi (c7 c);have m22:=phi (c13 c);have m21:=phi (c12 (cH c).p);refine an ⟨40,?_⟩;unfold aeD;simp only[aA,eW,m19,m20,m22,EV];cases hg:gCh 16 c with
 |true=>rfl
 |false=>
  have m23:=phi (c27 h64 hg);simp only[au,aw,aA,ao7,m21,EV,aa];by_cases h10:10<(cH c).p.length
  .rw[ad h10]
  rw[ac h10];simp only[aA,m23,EV,↓x8,qk,uj];by_cases hk:oe c
  rotate_left
  .rw[ak hk];rfl
  rw[aq hk];have V:Vld c:=⟨hk,h64,ajO hg⟩;have e0:okE true=0:=rfl;simp only[e0,aA,EV,ay,aF,au,aw,Xc,ai,aa,↓x8,qk,uj];by_cases h8:(8:Int)<l.length
  .rw[ad h8]
  rw[ac h8];refine aph (by omega) hl ?_ (by omega) V (by omega);rw[OX];unfold SY;simp only[EV]
end Go.Proofs.YtoeigdpfcnaaeaaGreat
