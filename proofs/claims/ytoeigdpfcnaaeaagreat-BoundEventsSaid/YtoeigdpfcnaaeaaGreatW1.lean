import Derived.Test.YtoeigdpfcnaaeaaGreatF1
import Derived.Test.YtoeigdpfcnaaeaaGreatF2
import Derived.RangeFuncNested
import Derived.RangeFuncBound
import Derived.RangeFuncCalls
import Derived.RangeFuncLeaves
import Derived.Shelf.Abstract
import Derived.Shelf.RegionOpen
import Derived.WalkKit
import Derived.OwnWalkIn
import Derived.TacticsInMore
import Derived.LoopNIn
import Derived.LoopIn
import Derived.Maps.AppendAt
import Derived.Test.YtoeigdpfcnaaeaaGreatProg
import Derived.Test.YtoeigdpfcnaaeaaGreatN1
import Derived.Test.YtoeigdpfcnaaeaaGreatC1
import Derived.Test.YtoeigdpfcnaaeaaGreatS1
import Derived.Test.YtoeigdpfcnaaeaaGreatSM
import Derived.Lib.Walk
import Derived.LoopN
import Derived.Test.YtoeigdpfcnaaeaaGreatM3
import Derived.Test.YtoeigdpfcnaaeaaGreatSO
set_option linter.unusedVariables false
set_option linter.unusedSimpArgs false
set_option linter.defProp false
noncomputable section
namespace Go.Proofs.YtoeigdpfcnaaeaaGreat
open Go.Sym Bnd
set_option maxRecDepth 100000
def evX (tag:Int)(l:List Pt)(a b:Rt):Option (List Crt):=
 if tag=1 then(pE b (lr a l).c (lr a l).heap).map (·.2.2)
 else if tag=2 then(fG (edT l (b5 l)) b (iS a l).c).map (·.2)
 else if tag=3 then(fG (λt=>edgsT (cart t l).n l.length) b (mo a l).c).map (·.2)
 else(fG (λt=>cG l (cF t l)) b (mq a l).c).map (·.2)
def evO (o:Option (List Crt)):Int:=if o.isSome=true then 0 else 18
def Dj {c x:Choice}{t:Rt}{f:FuncId}{o:Option (List Crt)}(h:Ans D f [CHO c,R t] (jA x (sl crow (o.getD [])) (evO o))):∃x,Ans D f [CHO c,R t] [CHO x,sl crow (o.getD []),.i64 (evO o)]:=by
 cases o with
 |none=>exact⟨zCH,h⟩
 |some out=>exact⟨x,h⟩
section
variable {t:Rt}(hr:rok t=true)(ht:aS t)
include hr ht
open Classical in
theorem akV {bb:Nat}{k:KHeap}(hk:iR k)(h64:fb k.c)(hg:gKh bb k=false)(hp:crs k.c.n t<=0):∃x:KHeap,Ans D 96 [KH k,R t] [KH x,sl crow (((pE t k.c k.heap).map (·.2.2)).getD []),.i64 (evO ((pE t k.c k.heap).map (·.2.2)))]:=by
 have hchk:=c77 h64 hg;rw[aq hk] at hchk;have a:=c45 hchk (Ha hk h64) hr ht hp;unfold goK at a;cases hgo:pE t k.c k.heap with
 |none=>rw[hgo] at a;exact⟨zKH,a⟩
 |some z=>rw[hgo] at a;exact⟨_,a⟩
open Classical in
theorem akW {bb:Nat}{k:KTourn}(hk:fk k)(h64:fb k.c)(hg:gKt bb k=false)(hp:crs k.c.n t<=0):∃x:KTourn,Ans D 97 [KT k,R t] [KT x,sl crow (((fG (edT k.c.p k.b.p) t k.c).map (·.2)).getD []),.i64 (evO ((fG (edT k.c.p k.b.p) t k.c).map (·.2)))]:=by
 obtain⟨h,hu,⟨h1,h2,ho⟩,hall⟩:=EO hk h64;have hchk:=c78 h64 hg;rw[aq hk] at hchk;have a:=c46 h hu h1 h2 hk.2.2.2.1 ho hr ht hp hchk;unfold goT at a;cases hgo:fG (edT k.c.p k.b.p) t k.c with
 |none=>rw[hgo] at a;exact⟨zKT,a⟩
 |some z=>rw[hgo] at a;exact⟨_,a⟩
open Classical in
theorem akX {bb:Nat}{k:Heater}(hk:jO k)(h64:fb k.c)(hg:gHt bb k=false)(hp:crs k.c.n t<=0):∃x:Heater,Ans D 98 [HT k,R t] [HT x,sl crow (((fG (λt=>edgsT (cart t k.c.p).n k.c.p.length) t k.c).map (·.2)).getD []),.i64 (evO ((fG (λt=>edgsT (cart t k.c.p).n k.c.p.length) t k.c).map (·.2)))]:=by
 have hchk:=c79 h64 hg;rw[aq hk] at hchk;have a:=c47 hchk (G9 hk h64).1 hk.2.1.symm hr ht hp;unfold goH at a;cases hgo:fG (λt=>edgsT (cart t k.c.p).n k.c.p.length) t k.c with
 |none=>rw[hgo] at a;exact⟨zHT,a⟩
 |some z=>rw[hgo] at a;exact⟨_,a⟩
open Classical in
theorem akY {bb:Nat}{k:KHeap}(hk:jN k)(h64:fb k.c)(hg:gKh bb k=false)(hp:crs k.c.n t<=0):∃x:KHeap,Ans D 99 [KH k,R t] [KH x,sl crow (((fG (λt=>cG k.c.p (cF t k.c.p)) t k.c).map (·.2)).getD []),.i64 (evO ((fG (λt=>cG k.c.p (cF t k.c.p)) t k.c).map (·.2)))]:=by
 have hchk:=c80 h64 hg;rw[aq hk] at hchk;have a:=c48 hchk (G8 hk h64).1 hk.2.1.symm hr ht hp;unfold goU at a;cases hgo:fG (λt=>cG k.c.p (cF t k.c.p)) t k.c with
 |none=>rw[hgo] at a;exact⟨zKH,a⟩
 |some z=>rw[hgo] at a;exact⟨_,a⟩
end
section
variable {tag:Int}{l:List Pt}{a b:Rt}(hg:tag=1\/tag=2\/tag=3\/tag=4)(ha:aS a)(hba:bE l a=0)(haa:cH a=0)(h10:l.length<=10)
include hg ha hba haa h10
open Classical in
theorem Lj:Ans D 27 [CHO (cI tag l a)] [.i64 0]:=by
 obtain⟨g,h64⟩:=BF hg ha hba h10;have h:=c26 h64 g;rw[aq (DJ hg ha hba haa).1] at h;exact h
theorem Lk (hb:aS b)(hr:rok b=true)(hab:cH b=0)(hp:crs a b<=0):∃x:Choice,Ans D 37 [CHO (cI tag l a),R b] [CHO x,sl crow ((evX tag l a b).getD []),.i64 (evO (evX tag l a b))]:=by
 have hc:=phi (Lj hg ha hba haa h10);obtain⟨hl,hra⟩:=bE_ok hba;obtain⟨f0,f1,f2⟩:=lu hl;obtain⟨g,h64⟩:=BF hg ha hba h10;obtain⟨g1,g2,g3,g4⟩:=wP g;have e1:=iM (qt hl (oT (t:=a))) hl ha hra λe he=>uO (xb hl _ (aB _)) he;obtain⟨b1,b2,b3⟩:=gA (t:=a) hl f1 f2 dY (fE hl);have e2:=iM (jR (t:=a) hl f1 f2 dY (fE hl)) hl ha hra λe he=>(jP (b:=bracketOf a l (b5 l)) hl b2 dY b3 he).2.2;have e3:=iM (ln (t:=a) hl) hl ha hra λe he=>(ig hl he).2.2;have e4:=iM (lh (t:=a) hl) hl ha hra λe he=>(fX hl he).2.2;unfold evX;rcases hg with rfl|rfl|rfl|rfl
 .have hm:cI 1 l a=⟨1,lr a l,zKT,zHT,zKH⟩:=by unfold cI t8;rw[ad rfl,ad hba]
  rw[hm] at hc h64 g1|-;rw[ad rfl];obtain⟨x,hx⟩:=akV hr hb (GV hl ha hra) h64.h1 g1 (by show crs (certAll _ _).n b<=0;rw[e1.2.2.1];exact hp)
  exact Dj (NU hc hr hb hab rfl hx)
 .have hm:cI 2 l a=⟨2,zKH,iS a l,zHT,zKH⟩:=by unfold cI qV;rw[ac (by decide),ad rfl,ad hba]
  rw[hm] at hc h64 g2|-;rw[ac (by decide),ad rfl];obtain⟨x,hx⟩:=akW hr hb (EH hl ha hra) h64.h2 g2 (by show crs (certAll _ _).n b<=0;rw[e2.2.2.1];exact hp)
  have ep:(iS a l).c.p=l:=e2.2.1;have eb:(iS a l).b.p=b5 l:=rfl;rw[ep,eb] at hx;exact Dj (NV hc hr hb hab rfl hx)
 .have hm:cI 3 l a=⟨3,zKH,zKT,mo a l,zKH⟩:=by unfold cI uh;rw[ac (by decide),ac (by decide),ad rfl,ad hba]
  rw[hm] at hc h64 g3|-;rw[ac (by decide),ac (by decide),ad rfl];obtain⟨x,hx⟩:=akX hr hb (GX hl ha hra) h64.h3 g3 (by show crs (certAll _ _).n b<=0;rw[e3.2.2.1];exact hp)
  have ep:(mo a l).c.p=l:=e3.2.1;rw[ep] at hx;exact Dj (NW hc hr hb hab rfl hx)
 .have hm:cI 4 l a=⟨4,zKH,zKT,zHT,mq a l⟩:=by unfold cI ui;rw[ac (by decide),ac (by decide),ac (by decide),ad hba]
  rw[hm] at hc h64 g4|-;rw[ac (by decide),ac (by decide),ac (by decide)];obtain⟨x,hx⟩:=akY hr hb (GW hl ha hra) h64.h4 g4 (by show crs (certAll _ _).n b<=0;rw[e4.2.2.1];exact hp)
  have ep:(mq a l).c.p=l:=e4.2.1;rw[ep] at hx;exact Dj (NX hc hr hb hab rfl hx)
end
def evE (tag:Int)(l:List Pt)(a b:Rt):Int×Int:=
 if¬(tag=1\/tag=2\/tag=3\/tag=4) then(0,2) else if cV l a≠0 then(0,cV l a) else if cH b≠0 then(0,cH b) else if crs b a<0 then(0,44) else((((evX tag l a b).getD []).length:Int),evO (evX tag l a b))
def TJ {tag:Int}{l:List Pt}{a b:Rt}(hg:tag=1\/tag=2\/tag=3\/tag=4)(hn:cV l a=0)(hab:cH b=0)(hp:¬crs b a<0):evE tag l a b=((((evX tag l a b).getD []).length:Int),evO (evX tag l a b)):=by
 unfold evE;rw[ac (λh=>h hg),ac (λh=>h hn),ac (λh=>h hab),ac hp]
def Er {l:List Pt}{a:Rt}(h:cV l a=0):bE l a=0/\ cH a=0:=by
 unfold cV at h;split at h
 .exact⟨by assumption,h⟩
 .contradiction
def rj {b:Rt}(h:cH b=0):rok b=true:=by
 unfold cH at h;cases hr:rok b with
 |true=>rfl
 |false=>rw[hr] at h;cases h
def MF {tag:Int}{l:List Pt}{a:Rt}(hg:tag=1\/tag=2\/tag=3\/tag=4):gB tag l a=[CHO (fq (cI tag l a) (cV l a)),.i64 (cV l a)]:=ad hg
def afX (tag:Int){l:List Pt}{a b:Rt}(ha:aS a)(hb:aS b)(h10:l.length<=10\/eQ l≠0):Ans D 9 [.v (.int .u8 tag),F l,R a,R b] [.i64 (evE tag l a b).1,.i64 (evE tag l a b).2]:=by
 have m1:=phi (c20 tag (l:=l) ha);refine am ?_;unfold aaz;by_cases hg:tag=1\/tag=2\/tag=3\/tag=4
 .rw[MF hg] at m1;by_cases hn:cV l a=0
  .obtain⟨hba,haa⟩:=Er hn;have h10:l.length<=10:=h10.resolve_right λh=>by
    unfold bE at hba;split at hba
    .contradiction
    .exact h hba
   have hk:fq (cI tag l a) 0=cI tag l a:=rfl;rw[hn,hk] at m1;have hc:=phi (Lj hg ha hba haa h10);by_cases hab:cH b=0
   .by_cases hp:crs b a<0
    .obtain⟨g,h64⟩:=BF hg ha hba h10;obtain⟨o1,o2,o3⟩:=DJ hg ha hba haa;have m2:=phi (aka h64 g o1 (rj hab) hb hab (by rw[o3];exact hp));have e:evE tag l a b=(0,44):=by unfold evE;rw[ac (λh=>h hg),ac (λh=>h hn),ac (λh=>h hab),ad hp]
     simp[EV,aY,ba,m1,m2,dt,e]
    .obtain⟨x,hx⟩:=Lk hg ha hba haa h10 hb (rj hab) hab (by have:=eJ a b;omega);have m2:=phi hx;simp[EV,aY,ba,m1,m2,dt,TJ hg hn hab hp]
   .have m2:=phi (d15 (t:=b) hc hb hab);have e:evE tag l a b=(0,cH b):=by unfold evE;rw[ac (λh=>h hg),ac (λh=>h hn),ad hab]
    simp[EV,aY,ba,m1,m2,dt,e]
  .have e:evE tag l a b=(0,cV l a):=by unfold evE;rw[ac (λh=>h hg),ad hn]
   simp[EV,aY,ba,m1,dt,e,hn]
 .have hm:gB tag l a=[CHO zCH,.i64 2]:=ac hg;rw[hm] at m1;have e:evE tag l a b=(0,2):=by unfold evE;rw[ad hg]
  simp[EV,aY,ba,m1,dt,e]
open Go.RowKit Go.Shelf
attribute [local go_sem] Oper.semAt_some
def iO (p:Pt):List Value:=[.int .i64 p.id,.int .i64 p.a,.int .i64 p.b]
def V5 (F:Fence)(n:Nat)(h:F.fn 116)(hro:F.round=none)(v:Value)(w:World):
  CallsIn F n Tryz.prog 116 #[.agg #[v]] w λe w'=>e= .returned (.func (.func 214) #[] #[.pointer (some ⟨w.heap.size,0,none⟩)])/\ w'=w.alloc (.cells #[v] 24):=by
 refine callsIn_of_wp Tryz.func116 rfl h ?_ hro;simp only[Tryz.ntmps116,gG,aZ,cw,Nat.reduceAdd,Nat.reduceSub,lD,lE,nV,md,aI,aL]
 gi_wp2
 go_ret
 exact⟨rfl,rfl⟩
abbrev PP2 (l:List Pt):={x:Pt×Pt//∃i j:Nat,i<j/\ l[i]?=some x.1/\ l[j]?=some x.2}
def Px {l:List Pt}(x:PP2 l):Array Value:=#[.agg (iO x.1.1).toArray,.agg (iO x.1.2).toArray]
def hdP (l:List Pt)(i:Nat):List (Pt×Pt):=(List.range i).flatMap λa=>(l.drop (a+1)).map λq=>((l[a]?).getD ⟨0,0,0⟩,q)
def Ll (l:List Pt)(i:Nat):hdP l (i+1)=hdP l i++(l.drop (i+1)).map λq=>((l[i]?).getD ⟨0,0,0⟩,q):=by
 unfold hdP;rw[qe,mh];simp
def MG (l:List Pt):∀k,(hdP l k).length<=k*l.length
 |0=>b8 _
 |k+1=>by
  have:=MG l k;rw[Ll,aD,ah,bQ,cx];omega
structure Kq (n₀:Nat)(W W':World):Prop where
 below:Below n₀ W W'
 keep:∀(k:Nat) (cs:Array Value) (t:TypeId) (fz:Nat×Nat),W.heap[k]?=some (.cells cs t fz)->t=72\/t=24->W'.heap[k]?=some (.cells cs t fz)
def Kq.trans {n₀:Nat}{A B C:World}(h:Kq n₀ A B)(k:Kq n₀ B C):Kq n₀ A C:=⟨h.below.trans k.below,λi cs t fz hi ht=>k.keep i cs t fz (h.keep i cs t fz hi ht) ht⟩
def Kq.refl (n₀:Nat)(W:World):Kq n₀ W W:=⟨Below.refl _ _,λ_ _ _ _ h _=>h⟩
def Kq.alloc {n₀:Nat}{A W:World}(h:Kq n₀ A W)(hn:n₀<=W.heap.size)(o:Obj):Kq n₀ A (W.alloc o):=h.trans ⟨(Below.refl _ _).alloc hn o,λk _ _ _ hk _=>(Below.heap_alloc W o k (bH.1 hk).1).trans hk⟩
structure RowAt (n₀:Nat)(W:World)(b off:Nat)(l:List Pt):Prop where
 lt:l≠[]->b<n₀
 c0:∀(j:Nat) (p:Pt),l[j]?=some p->W.cell? ⟨b,off+j*3,none⟩=some (.int .i64 p.id)
 c1:∀(j:Nat) (p:Pt),l[j]?=some p->W.cell? ⟨b,off+j*3+1,none⟩=some (.int .i64 p.a)
 c2:∀(j:Nat) (p:Pt),l[j]?=some p->W.cell? ⟨b,off+j*3+2,none⟩=some (.int .i64 p.b)
def RowAt.below {n₀:Nat}{A B:World}{b off:Nat}{l:List Pt}(h:RowAt n₀ A b off l)(k:Below n₀ A B):RowAt n₀ B b off l:=
 have ne:∀{j:Nat} {p:Pt},l[j]?=some p->b<n₀:=λe=>h.lt λhl=>by rw[hl] at e;cases e
 ⟨h.lt,λj p e=>(k.cell (p:=⟨b,off+j*3,none⟩) (ne e)).trans (h.c0 j p e),λj p e=>(k.cell (p:=⟨b,off+j*3+1,none⟩) (ne e)).trans (h.c1 j p e),λj p e=>(k.cell (p:=⟨b,off+j*3+2,none⟩) (ne e)).trans (h.c2 j p e)⟩
set_option maxHeartbeats 4000000 in
def ahP (F:Fence)(n:Nat)(hf:F.fn 214)(hro:F.round=none)(hn:1<=n)(z Bs n₀ b off cap:Nat)(l:List Pt)(hl:l.length<=64)(hcap:l.length<=cap)(J Jx:List (PP2 l)->World->Prop)
  (hJ:∀pre W W',J pre W->W.grownBy W' none->J pre W')
  (hY:∀pre x W,J pre W->pre.length<5000->YieldAt F (n-1) Tryz.prog z (Px x) W λe W'=>
   (e= .returned (.bool true)/\ J (pre++[x]) W'/\ Kq n₀ W W')\/(e= .returned (.bool false)/\ Jx (pre++[x]) W'))
  (W:World) (hn₀:n₀<=W.heap.size) (fz:Nat×Nat) (hBs:W.heap[Bs]?=some (.cells #[.slice (some ⟨b,off,none⟩) l.length cap] 24 fz)) (hc:RowAt n₀ W b off l) (h0:J [] W):
  CallsIn F n Tryz.prog 214 #[.func (.yield z) #[] #[],.pointer (some ⟨Bs,0,none⟩)] W λe W'=>(∃v,e= .returned v)/\
   ((∃ys,ys.map Subtype.val=hdP l l.length/\ J ys W')\/(∃pre,Jx pre W')):=by
 have hb0:W.cell? ⟨Bs,0,none⟩=some (.slice (some ⟨b,off,none⟩) l.length cap):=by simp[World.cell?,hBs]
 refine callsIn_of_wp Tryz.func214 rfl hf ?_ hro;simp only[Tryz.ntmps214,gG,aZ,cw,Nat.reduceAdd,Nat.reduceSub,lD,lE,nV,md,aI,aL]
 gi_wp2
 gi_loopw [10] (λi wr=>∃(k:Nat) (ys:List (PP2 l)),k<=l.length/\ i= .int .i64 k/\ ys.map Subtype.val=hdP l k/\ J ys wr/\ Kq n₀ W wr)
  (λi _=>l.length-(intOf i).toNat)
 case atStart=>exact⟨0,[],b8 _,rfl,rfl,h0,Kq.refl _ _⟩
 case round=>
  rename World=>wo
  obtain⟨k,ys,hk,rfl,hys,hJ1,hnx⟩:=hrel;by_cases hlt:k<l.length
  .obtain⟨p,hp⟩:∃p,l[k]?=some p:=⟨l[k],ai _⟩;have hc':=hc.below hnx.below;have f0:=hc'.c0 k p hp;have f1:=hc'.c1 k p hp;have f2:=hc'.c2 k p hp;have hz:=hnx.below.size;have hb1:=hnx.keep _ _ _ _ hBs (.inr rfl);have hb:wo.cell? ⟨Bs,0,none⟩=some (.slice (some ⟨b,off,none⟩) l.length cap):=by simp[World.cell?,hb1]
   have hBl:Bs<wo.heap.size:=(bH.1 hb1).1;have hne:¬Bs=wo.heap.size:=by omega
   have hne':¬wo.heap.size=Bs:=by omega
   have hK1:Kq n₀ W (wo.alloc (.cells #[.int .i64 p.id,.int .i64 p.a,.int .i64 p.b] 72)):=hnx.alloc (by omega) _;have hbx:(wo.alloc (.cells #[.int .i64 p.id,.int .i64 p.a,.int .i64 p.b] 72)).heap[wo.heap.size]?=some (.cells #[.int .i64 p.id,.int .i64 p.a,.int .i64 p.b] 72 (0,0)):=World.alloc_heap_new wo _;have hJ2:J ys (wo.alloc (.cells #[.int .i64 p.id,.int .i64 p.a,.int .i64 p.b] 72)):=hJ _ _ _ hJ1 (World.grownBy_alloc _ _ _);have next:hdP l (k+1)=hdP l k++(l.drop (k+1)).map λq=>(p,q):=by rw[Ll,hp];rfl
   by_cases hcx:cap=k+1
   .have hl1:l.length=k+1:=by omega
    gi_wp2
    gi_loopw [21] (λi w1=>i= .int .i64 0/\ J ys w1/\ Kq n₀ W w1) (λ_ _=>0)
    case atStart=>exact⟨rfl,hJ2,hK1⟩
    case round=>
     obtain⟨rfl,hJ3,hK3⟩:=hrel
     gi_wp2
     go_roundw
     case rel=>exact⟨k+1,ys,by omega,by simp,by rw[next,hys,u9 (by omega)];simp,hJ3,hK3⟩
     case measure=>simp[intOf];omega
   gi_wp2
   gi_loopw [21] (λi w1=>∃(m:Nat) (zs:List (PP2 l)),m<=l.length-(k+1)/\ i= .int .i64 m/\ zs.map Subtype.val=hdP l k++((l.drop (k+1)).take m).map (λq=>(p,q))/\ J zs w1/\ Kq n₀ W w1/\ w1.heap[wo.heap.size]?=some (.cells #[.int .i64 p.id,.int .i64 p.a,.int .i64 p.b] 72 (0,0)))
    (λi _=>l.length-(k+1)-(intOf i).toNat)
   case atStart=>exact⟨0,ys,b8 _,rfl,by simp[hys],hJ2,hK1,hbx⟩
   case round=>
    obtain⟨m,zs,hm,rfl,hzs,hJ3,hK3,hbx3⟩:=hrel;by_cases hlm:m<l.length-(k+1)
    .obtain⟨q,hq⟩:∃q,l[k+1+m]?=some q:=⟨l[k+1+m],ai _⟩;have hc3:=hc.below hK3.below;have g0:=hc3.c0 _ q hq;have g1:=hc3.c1 _ q hq;have g2:=hc3.c2 _ q hq;have e0:off+(k+1+m)*3=off+(k+1)*3+m*3:=by omega
     rw[e0] at g0 g1 g2;have hz3:=hK3.below.size;have hbl3:wo.heap.size<wr.heap.size:=(bH.1 hbx3).1;have b0:wr.cell? ⟨wo.heap.size,0,none⟩=some (.int .i64 p.id):=by simp[World.cell?,hbx3]
     have b1:wr.cell? ⟨wo.heap.size,1,none⟩=some (.int .i64 p.a):=by simp[World.cell?,hbx3]
     have b2:wr.cell? ⟨wo.heap.size,2,none⟩=some (.int .i64 p.b):=by simp[World.cell?,hbx3]
     have hlen:zs.length<5000:=by
      have e:=aW List.length hzs;have h1:=MG l k;have h2:k*l.length<=64*64:=eV (by omega) hl;rw[ah,aD,ah,aR] at e;omega
     have hzs1:(zs++[(⟨(p,q),k,k+1+m,by omega,hp,hq⟩:PP2 l)]).map Subtype.val=hdP l k++((l.drop (k+1)).take (m+1)).map (λq=>(p,q)):=by
      have hx1:(l.drop (k+1)).take (m+1)=(l.drop (k+1)).take m++[q]:=by
       rw[cA,fC,hq];rfl
      rw[dU,hzs,hx1];simp
     have hK4:Kq n₀ W (wr.alloc (.cells #[.int .i64 q.id,.int .i64 q.a,.int .i64 q.b] 72)):=hK3.alloc (by omega) _;have hbx4:(wr.alloc (.cells #[.int .i64 q.id,.int .i64 q.a,.int .i64 q.b] 72)).heap[wo.heap.size]?=some (.cells #[.int .i64 p.id,.int .i64 p.a,.int .i64 p.b] 72 (0,0)):=(Below.heap_alloc _ _ _ hbl3).trans hbx3;obtain⟨fn,tmps,assign,body,hy,hR⟩:=hY zs ⟨(p,q),k,k+1+m,by omega,hp,hq⟩ (wr.alloc (.cells #[.int .i64 q.id,.int .i64 q.a,.int .i64 q.b] 72)) (hJ _ _ _ hJ3 (World.grownBy_alloc _ _ _)) hlen
     dsimp only[Px,iO] at hy
     gi_wp2
     refine hR.mono ?_;rintro e W3 (⟨rfl,hJ5,hk5⟩|⟨rfl,hx⟩)
     .gi_wp2
      go_roundw
      case rel=>exact⟨m+1,_,by omega,by simp,hzs1,hJ5,hK4.trans hk5,hk5.keep _ _ _ _ hbx4 (.inl rfl)⟩
      case measure=>simp[intOf];omega
     .gi_wp2
      refine bodyPost_ret (results_none rfl _ _ _) rfl ?_;exact⟨⟨_,rfl⟩,.inr ⟨_,hx⟩⟩
    .have hme:m=l.length-(k+1):=by omega
     gi_wp2
     go_roundw
     case rel=>exact⟨k+1,zs,by omega,by simp,by rw[next,hzs,bi (by simp;omega)],hJ3,hK3⟩
     case measure=>simp[intOf];omega
  .obtain rfl:k=l.length:=by omega
   gi_wp2
   go_end0
   exact⟨⟨_,rfl⟩,.inl ⟨ys,hys,hJ1⟩⟩
set_option maxHeartbeats 1000000 in
def afY (F:Fence)(n:Nat)(hf:F.fn 214)(hro:F.round=none)(z Bs:Nat)(J:World->Prop)(W:World)(hBs:W.cell? ⟨Bs,0,none⟩=some (.slice none 0 0))(h0:J W):
  CallsIn F n Tryz.prog 214 #[.func (.yield z) #[] #[],.pointer (some ⟨Bs,0,none⟩)] W λe W'=>(∃v,e= .returned v)/\ J W':=by
 refine callsIn_of_wp Tryz.func214 rfl hf ?_ hro;simp only[Tryz.ntmps214,gG,aZ,cw,Nat.reduceAdd,Nat.reduceSub,lD,lE,nV,md,aI,aL]
 gi_wp2
 gi_loopw [10] (λi wr=>i= .int .i64 0/\ J wr) (λ_ _=>0)
 case atStart=>exact⟨rfl,h0⟩
 case round=>
  obtain⟨rfl,hJ⟩:=hrel
  gi_wp2
  go_end0
  exact⟨⟨_,rfl⟩,hJ⟩
def Py (n₀:Nat)(W:World)(v:Value)(l:List Pt):Prop:=(v= .slice none 0 0/\ l=[])\/∃b off cap,v= .slice (some ⟨b,off,none⟩) l.length cap/\ l.length<=cap/\ RowAt n₀ W b off l
def V6 (F:Fence)(n:Nat)(hf:F.fn 214)(hro:F.round=none)(hn:1<=n)(Bs n₀:Nat)(v:Value)(l:List Pt)(hl:l.length<=64)(w:World)(hn₀:n₀<=w.heap.size)(hBs:w.heap[Bs]?=some (.cells #[v] 24 (0,0)))(hv:Py n₀ w v l):
  SeqStopsK F n Tryz.prog 214 #[.pointer (some ⟨Bs,0,none⟩)] (Px (l:=l)) (Kq n₀) (λys=>ys.map Subtype.val=hdP l l.length) (λ_=>True) 5000 w:=λz J Jx W hW hJ _ hY h0=>by
 have hb:W.heap[Bs]?=some (.cells #[v] 24 (0,0)):=(hW.block Bs (bH.1 hBs).1).trans hBs;rcases hv with⟨rfl,rfl⟩|⟨b,off,cap,rfl,hcap,hr⟩
 .refine(afY F n hf hro z Bs (J []) W (by simp[World.cell?,hb]) h0).mono ?_;rintro e W' ⟨h1,h2⟩;exact⟨h1,.inl ⟨[],rfl,h2⟩⟩
 .refine(ahP F n hf hro hn z Bs n₀ b off cap l hl hcap J Jx (λpre W W' h hg=>hJ pre W W' none h hg λr e=>by cases e) hY W (bG hn₀ hW.size) (0,0) hb (hr.below (hW.mono hn₀)) h0).mono ?_;rintro e W' ⟨h1,⟨ys,h2,h3⟩|⟨pre,h2⟩⟩
  .exact⟨h1,.inl ⟨ys,h2,h3⟩⟩
  .exact⟨h1,.inr ⟨pre,trivial,h2⟩⟩
open Go.Sort Go.Shelf
def ahQ {p q:Pt}(hp:p.ok=true)(hq:q.ok=true)(hi:p.id≠q.id)(hb:p.b=q.b):Ans D 117 [PP p,PP q] [R ⟨0,0⟩,.i64 6]:=by
 have ht:aS ⟨0,1⟩:=⟨⟨by decide,by decide⟩,⟨by decide,by decide⟩⟩;have h1:=phi (M0 (p:=p) (q:=q) ht);rw[mH hp hq (by decide) hi] at h1;refine am ?_;unfold UF;simp[jL,ba,nX,yf,EV,h1,hb]
def akZ (a b c:Int):Ans D 219 [.sl [[.i64 a],[.i64 b],[.i64 c]]] [.i64 (if a=0 then(if b=0 then c else b) else a)]:=by
 refine an ⟨4,?_⟩;unfold UL;have w0:IntKind.i64.wrap (0+1)=1:=by decide
 have w1:IntKind.i64.wrap (1+1)=2:=by decide
 have e0:RF.ev (.tix 1) [.sl [[.i64 a],[.i64 b],[.i64 c]],.v (.int .i64 0)]=some (.i64 0):=rfl;have e1:RF.ev (.tix 1) [.sl [[.i64 a],[.i64 b],[.i64 c]],.v (.int .i64 1)]=some (.i64 1):=rfl;have e2:RF.ev (.tix 1) [.sl [[.i64 a],[.i64 b],[.i64 c]],.v (.int .i64 2)]=some (.i64 2):=rfl;have g0:RF.ev (.elt 0 0) [.sl [[.i64 a],[.i64 b],[.i64 c]],.v (.int .i64 0)]=some (.i64 a):=rfl;have g1:RF.ev (.elt 0 0) [.sl [[.i64 a],[.i64 b],[.i64 c]],.v (.int .i64 1)]=some (.i64 b):=rfl;have g2:RF.ev (.elt 0 0) [.sl [[.i64 a],[.i64 b],[.i64 c]],.v (.int .i64 2)]=some (.i64 c):=rfl;have h2:([[PV.i64 a],[PV.i64 b],[PV.i64 c]].length:Int)=3:=rfl;have w2:IntKind.i64.wrap (2+1)=3:=by decide
 simp only[EV,bu,Iq,Ir,e0,e1,e2,g0,g1,g2,w0,w1,w2,aZ,cw];by_cases ha:a=0
 .by_cases hb:b=0
  .by_cases hc:c=0<;>simp[ha,hb,hc]
  .simp[ha,hb]
 .simp[ha]
def Es (x y:Mt):Int:=if sgn (crs x.time y.time)=0 then(if sgn (x.i-y.i)=0 then sgn (x.j-y.j) else sgn (x.i-y.i)) else sgn (crs x.time y.time)
def Y6 (x y:Mt):decide (Es x y<0)=ltM x y:=by
 unfold Es ltM sgn
 grind
def MP (m:Mt):PV:= .agg (cR m)
def Pz (m:Mt):RF.ev (.shape 4) [MP m]=some (MP m):=rfl
def pMt (m:Mt):RF.ev (.part 0 2) [MP m]=some (R m.time):=rfl
def afZ (m:Mt):RF.ev (.cell 2) [MP m]=some (.i64 m.i):=rfl
def af0 (m:Mt):RF.ev (.cell 3) [MP m]=some (.i64 m.j):=rfl
def V7 {a b:Rt}(ha:aS a)(hb:aS b)(ra:rok a=true)(rb:rok b=true):Ans D 115 [R a,R b] [.i64 (sgn (crs a b))]:=by
 have m:=phi (rD ha hb);rw[ra,rb,ad (by rfl)] at m;refine am ?_;unfold abq;simp[EV,ba,m]
def ak0 {x y:Mt}(hx:rok x.time=true/\ aS x.time)(hy:rok y.time=true/\ aS y.time):Ans D 119 [MP x,MP y] [.i64 (Es x y)]:=by
 have m1:=phi (V7 hx.2 hy.2 hx.1 hy.1);have b3:RF.ev (.bs 3 [KP.z] [0,1,2]) [.i64 (sgn (crs x.time y.time)),.i64 (sgn (x.i-y.i)),.i64 (sgn (x.j-y.j))]=some (.sl [[.i64 (sgn (crs x.time y.time))],[.i64 (sgn (x.i-y.i))],[.i64 (sgn (x.j-y.j))]]):=rfl;have s3:RF.ev .sub [.sl [[.i64 (sgn (crs x.time y.time))],[.i64 (sgn (x.i-y.i))],[.i64 (sgn (x.j-y.j))]],.v (.int .i64 0),.v (.int .i64 3)]=some (.sl [[.i64 (sgn (crs x.time y.time))],[.i64 (sgn (x.i-y.i))],[.i64 (sgn (x.j-y.j))]]):=rfl;refine am ?_;unfold abr Es;simp only[ay,Pz,pMt,m1,afZ,af0,EV,phi (wD _ _),b3,s3,phi (akZ _ _ _)]
def uX (t:Rt):List PV:=[.i64 t.num,.i64 t.den]
def Bj (t:Rt):(uX t).length=2:=rfl
def XM (t:Rt):cM 0 2 (uX t)=some (R t):=rfl
def rL (l:List Pt)(a b:Rt):Int:=if eQ l≠0 then eQ l else if(rok a&& rok b)=true then(if 0<crs a b then 2 else 0) else 8
def ak1 {l:List Pt}{a b:Rt}(ha:aS a)(hb:aS b):Ans D 47 [F l,sl uX [a,b]] [.i64 (rL l a b)]:=by
 have m1:=phi (uG l);refine an ⟨4,?_⟩;unfold aaJ;simp only[ay,aY,m1,EV,ah];unfold rL;by_cases h:eQ l=0
 rotate_left
 .simp[h]
 .simp only[h,aA,aF,au,aw,ne_eq,fS];have I:∀t∈[a,b],aS t:=by simp[ha,hb]
  refine(cL (l:=[a,b]) (p:=rok) (st:=λi=>[.i64 (i:Int)]) (r:=some [.i64 8]) (fin:=some [.i64 (if 0<crs a b then 2 else 0)]) (λi t self ht _=>?_) (λhg self=>?_) (by simp)).trans ?_
  .have hi:=aO ht;unfold He;simp only[ay,aL,aI,aT ht (Bj t),aM ht,XM,EV,aa,ah,bj hi,phi (c43 (I t (ax ht))),up1 (show i<1000000000 by simp at hi;omega)]
   cases rok t<;>rfl
  .have g1:rok a=true:=aV.1 hg a (by simp);have g2:rok b=true:=aV.1 hg b (by simp);have m2:=phi (V7 ha hb g1 g2);have q0:=aT (f:=uX) (l:=[a,b]) (i:=0) rfl (Bj a);have q1:=aT (f:=uX) (l:=[a,b]) (i:=1) rfl (Bj b);have e0:=aM (f:=uX) (l:=[a,b]) (i:=0) (o:=0) (n:=2) rfl;have e1:=aM (f:=uX) (l:=[a,b]) (i:=1) (o:=0) (n:=2) rfl;unfold He;simp only[ay,aL,aI,EV,aa,bK,ah,P6,aZ,cw];have n0:(((0:Nat):Int))=0:=rfl;have n1:(((1:Nat):Int))=1:=rfl;rw[n0] at q0 e0;rw[n1] at q1 e1;simp only[ay,q0,q1,e0,e1,XM,m2,EV,P5];by_cases hc:0<crs a b
   .rw[ad hc];have:=vn.2 hc;simp[EV,this]
   .rw[ac hc];have:¬0<sgn (crs a b):=λh=>hc (vn.1 h);simp[EV,this]
  .simp only[dJ,zJ,jK];split<;>rfl
def nj (m:Mt):(cR m).length=4:=rfl
def XN (m:Mt):cM 0 4 (cR m)=some (MP m):=rfl
def ak2 {m:Mt}{t:Rt}(hm:rok m.time=true/\ aS m.time)(ht:aS t)(hr:rok t=true):Ans D 121 [MP m,R t] [.i64 (if 0<crs m.time t then 1 else-1)]:=by
 have m1:=phi (V7 hm.2 ht hm.1 hr);refine am ?_;unfold abs;simp only[ay,Pz,ba,pMt,m1,EV];by_cases hc:0<crs m.time t
 .have:=vn.2 hc;simp[hc,this]
 .have:¬0<sgn (crs m.time t):=λh=>hc (vn.1 h);simp[hc,this]
def Et {α:Type}{p:α->Bool}{N:Nat}{f:JT}{K0:K}{e:List PV}{l:List α}(hs:∀(i j:Nat) (a b:α),i<j->l[i]?=some a->l[j]?=some b->p b=true->p a=true)
  (key:∀(i j:Nat) (a:α) (self:JT),i<j->j<=l.length->l[(i+j)/2]?=some a->den (bx D) N K0 ([f]++[self]) (e++[.i64 (i:Int),.i64 (j:Int)])=if p a=true then self [.i64 (((i+j)/2+1:Nat):Int),.i64 (j:Int)] else self [.i64 (i:Int),.i64 (((i+j)/2:Nat):Int)])
  (out:∀(i j:Nat) (self:JT),¬i<j->den (bx D) N K0 ([f]++[self]) (e++[.i64 (i:Int),.i64 (j:Int)])=f [.i64 (i:Int)]):∀(m i j:Nat),j-i<m->i<=j->j<=l.length->(∀(k:Nat) (a:α),l[k]?=some a->(k<i->p a=true)/\(j<=k->p a=false))->
  ∃P,(P<=l.length/\∀(k:Nat) (a:α),l[k]?=some a->(k<P->p a=true)/\(P<=k->p a=false))/\ dl (bx D) N K0 [f] e m [.i64 (i:Int),.i64 (j:Int)]=f [.i64 (P:Int)]
 |0,i,j,h,_,_,_=>by omega
 |m+1,i,j,h,hij,hj,hb=>by
  rw[bu];by_cases hlt:i<j
  .obtain⟨a,ha⟩:∃a,l[(i+j)/2]?=some a:=⟨l[(i+j)/2]'(by omega),ai _⟩;rw[key i j a _ hlt hj ha];by_cases c:p a=true
   .rw[ad c];refine Et hs key out m _ j (by omega) (by omega) hj λk q hq=>⟨λhk=>?_,(hb k q hq).2⟩;by_cases e:k=(i+j)/2
    .subst e;rw[ha] at hq;cases hq;exact c
    .exact hs k _ q a (by omega) hq ha c
   .rw[ac c];refine Et hs key out m i _ (by omega) (by omega) (by omega) λk q hq=>⟨(hb k q hq).1,λhk=>?_⟩;by_cases e:k=(i+j)/2
    .subst e;rw[ha] at hq;cases hq;simpa using c
    .cases hp:p q with
     |false=>rfl
     |true=>exact absurd (hs _ k a q (by omega) ha hq hp) c
  .exact⟨i,⟨by omega,λk a ha=>⟨(hb k a ha).1,λh=>(hb k a ha).2 (by omega)⟩⟩,out i j _ hlt⟩
def zG {α:Type}{p:α->Bool}:∀{l:List α} {P:Nat},P<=l.length->(∀(k:Nat) (a:α),l[k]?=some a->(k<P->p a=true)/\(P<=k->p a=false))->P=l.countP p
 |[],P,h,_=>by simp at h;simp[h]
 |a::l,P,h,hb=>by
  have h0:=hb 0 a rfl;rw[dy];cases P with
  |zero=>
   rw[ac (by rw[h0.2 (aB _)];simp)];have:=zG (p:=p) (l:=l) (P:=0) (b8 _) λk x hx=>⟨λh=>by omega,λ_=>(hb (k+1) x hx).2 (by omega)⟩;omega
  |succ P=>
   rw[ad (h0.1 (by omega))];have:=zG (p:=p) (l:=l) (P:=P) (by simpa using h) λk x hx=>⟨λh=>(hb (k+1) x hx).1 (by omega),λh=>(hb (k+1) x hx).2 (by omega)⟩
   omega
def fQ (t:Rt)(m:Mt):Bool:=decide (crs m.time t<=0)
def Srt (l:List Mt):Prop:=∀(i j:Nat) (x y:Mt),i<j->l[i]?=some x->l[j]?=some y->crs x.time y.time<=0
def V8 {l:List Mt}{t:Rt}(hs:Srt l)(hk:∀m∈l,rok m.time=true/\ aS m.time)(hr:rok t=true):∀(i j:Nat) (a b:Mt),i<j->l[i]?=some a->l[j]?=some b->fQ t b=true->fQ t a=true:=λi j a b hij ha hb h=>by
 unfold fQ at h|-;exact aq (G3 (hk a (ax ha)).1 (hk b (ax hb)).1 hr (hs i j a b hij ha hb) (aX h))
def af1 {l:List Mt}{t:Rt}(hs:Srt l)(hk:∀m∈l,rok m.time=true/\ aS m.time)(hn:l.length<=5000)(ht:aS t)(hr:rok t=true):Ans D 49 [sl cR l,R t] [.i64 ((l.countP (fQ t):Nat):Int)]:=by
 refine an ⟨5001,?_⟩;unfold aaK;simp only[ay,ba,EV,ah];have call:=λ(m:Mt) (hm:m∈l)=>phi (ak2 (hk m hm) ht hr);obtain⟨P,⟨h1,h2⟩,h3⟩:=Et (p:=fQ t) (N:=5001) (f:=kJ (bx D) 5001 Hf [] [sl cR l,R t,R t,.i64 (l.length:Int)]) (K0:=BX) (e:=[sl cR l,R t,R t,.i64 (l.length:Int)]) (l:=l) (V8 hs hk hr) (λi j m self hij hj hm=>by
  unfold BX;simp only[aL,aI,EV,aa,bj hij,M5 (show i<1000000 by omega) (show j<1000000 by omega),cU (show-9223372036854775808<=(((i+j)/2:Nat):Int) by omega) (by omega),ay,aT hm (nj m),aM hm,XN,call m (ax hm),P8,up1 (show(i+j)/2<1000000000 by omega)]
  unfold fQ;by_cases c:0<crs m.time t
  .simp[c,show¬crs m.time t<=0 by omega]
  .simp[c,show crs m.time t<=0 by omega]) (λi j self hij=>by
  unfold BX;simp only[aL,aI,EV,aa,ac (show¬(i:Int)<(j:Int) by omega)]) 5001 0 l.length (by omega) (b8 _) (aB _) (λk a ha=>⟨λh=>by omega,λh=>by have:=aO ha;omega⟩)
 have e:=zG h1 h2;have n0:(((0:Nat):Int))=0:=rfl;rw[n0] at h3;rw[h3];subst e;show den _ _ _ _ _=_
 unfold Hf;simp only[aL,aI,EV,aa,ay,P7];by_cases c:l.countP (fQ t)<l.length
 .obtain⟨m,hm⟩:∃m,l[l.countP (fQ t)]?=some m:=⟨l[l.countP (fQ t)],ai _⟩;rw[ad (by omega)];simp only[aT hm (nj m),aM hm,XN,call m (ax hm),EV,ay]
 .rw[ac (by omega)]
open Go.Shelf Go.RowKit Go.Lib Go.Sort
def j0 (m:Mt):List Value:=[.int .i64 m.time.num,.int .i64 m.time.den,.int .i64 m.i,.int .i64 m.j]
def XO {w:World}{S:Nat->Prop}(m:Mt):RT w S (.agg (j0 m).toArray) (MP m):= .agg (.cons (.v rfl) (.cons (.v rfl) (.cons (.v rfl) (.cons (.v rfl) .nil)))) rfl
def TK {w:World}{S:Nat->Prop}(p:Pt):RT w S (.agg (iO p).toArray) (PP p):= .agg (.cons (.v rfl) (.cons (.v rfl) (.cons (.v rfl) .nil))) rfl
def ahR {x y:Mt}(hx:rok x.time=true/\ aS x.time)(hy:rok y.time=true/\ aS y.time)(w:World):
  Calls Tryz.prog 119 #[.agg (j0 x).toArray,.agg (j0 y).toArray] w λe w'=>e= .returned (.int .i64 (Es x y))/\∃q os,w'=Go.Sort.grow (w.drewN q) os:=by
 obtain⟨fn,h1,_,_,_,h5⟩:=(inW (by decide) (ak0 hx hy)).plain (by kernel_rfl);have hf:D1.toDcf.P.funcs[119]?=some Tryz.f119:=Tryz.func119;rw[hf] at h1;cases h1;refine(h5 w (λ_=>False) _ (.cons (XO x) (.cons (XO y) .nil)) (λ_ h=>h.elim)).mono ?_;rintro e w' ⟨u,S',us,Bs,rfl,a⟩;have hr:=a.rr;have hs:D1.toDcf.slots 119=[]:=by kernel_rfl
 rw[show Tryz.f119.resultTypes.toList=[3] from rfl,hs] at hr
 have a3:b7 D1.toDcf.P 3=some false:=by kernel_rfl
 cases hr with
 |cons hr ht=>
  cases ht;unfold RR at hr;rw[a3] at hr;rcases hr with⟨_,_,h,_⟩|h
  .have e:=mX h;subst e;have:=a.u;exact⟨by rw[this];rfl,Li a.fr⟩
  .cases h
def metR (p q:Pt):Rt×Int:=if p.b=q.b then(⟨0,0⟩,6) else((gQ p q).time,0)
def ahS {p q:Pt}(hp:p.ok=true)(hq:q.ok=true)(hi:p.id≠q.id):Ans D 117 [PP p,PP q] [R (metR p q).1,.i64 (metR p q).2]:=by
 unfold metR;by_cases hb:p.b=q.b
 .rw[ad hb];exact ahQ hp hq hi hb
 .rw[ac hb];exact Zt hp hq hi hb
def ahT {p q:Pt}(hp:p.ok=true)(hq:q.ok=true)(hi:p.id≠q.id)(w:World):
  Calls Tryz.prog 117 #[.agg (iO p).toArray,.agg (iO q).toArray] w λe w'=>e= .returned (.tuple #[.agg #[.int .i64 (metR p q).1.num,.int .i64 (metR p q).1.den],.int .i64 (metR p q).2])/\∃n os,w'=Go.Sort.grow (w.drewN n) os:=by
 obtain⟨fn,h1,_,_,_,h5⟩:=(inW (by decide) (ahS hp hq hi)).plain (by kernel_rfl);have hf:D1.toDcf.P.funcs[117]?=some Tryz.f117:=Tryz.func117;rw[hf] at h1;cases h1;refine(h5 w (λ_=>False) _ (.cons (TK p) (.cons (TK q) .nil)) (λ_ h=>h.elim)).mono ?_;rintro e w' ⟨u,S',us,Bs,rfl,a⟩;have hr:=a.rr;have hs:D1.toDcf.slots 117=[]:=by kernel_rfl
 rw[show Tryz.f117.resultTypes.toList=[26,27] from rfl,hs] at hr
 have a26:b7 D1.toDcf.P 26=some true:=by kernel_rfl
 have a27:b7 D1.toDcf.P 27=some false:=by kernel_rfl
 generalize metR p q=z at hr|-;cases hr with
 |cons hr h2=>
  cases h2 with
  |cons h2 h3=>
   cases h3;unfold RR at hr h2;rw[a26] at hr;rw[a27] at h2;obtain⟨b,cs,rfl,e,_,hr⟩:=hr;cases e;rcases hr with⟨_,_,hr⟩|hr
   .rcases h2 with⟨_,_,h2,_⟩|h2
    .have e2:=mX h2;subst e2;obtain⟨b⟩:=b;cases hr with
     |cons q1 hr=>
      cases hr with
      |cons q2 hr=>
       cases hr;have e3:=mX q1;have e4:=mX q2;subst e3 e4;have:=a.u;exact⟨by rw[this];rfl,Li a.fr⟩
    .cases h2
   .obtain⟨b⟩:=b;simp only at hr;cases hr
def MOk (m:Mt):Prop:=rok m.time=true/\ aS m.time
def ltM_iff {x y:Mt}:ltM x y=true↔crs x.time y.time<0\/crs x.time y.time=0/\(x.i<y.i\/x.i=y.i/\ x.j<y.j):=by
 unfold ltM;simp
def MH (x:Mt):ltM x x=false:=by
 rw[rP];intro h;have z:crs x.time x.time=0:=by unfold crs;omega
 rcases ltM_iff.1 h with h|⟨_,h|⟨_,h⟩⟩<;>omega
def Dk {x y z:Mt}(hx:MOk x)(hy:MOk y)(hz:MOk z)(h:ltM x y=true)(k:ltM y z=true):ltM x z=true:=by
 have d1:=eT hx.1;have d2:=eT hy.1;have d3:=eT hz.1;obtain⟨c1,c2⟩:=vr (a:=x.time) (b:=y.time) (c:=z.time) (by omega) (by omega) (by omega) (by rcases ltM_iff.1 h with h|h<;>omega) (by rcases ltM_iff.1 k with h|h<;>omega)
 refine ltM_iff.2 ?_;by_cases e:crs x.time z.time=0
 .right
  obtain⟨e1,e2⟩:=c2 e;refine⟨e,?_⟩;rcases ltM_iff.1 h with h|⟨_,h⟩<;>rcases ltM_iff.1 k with k|⟨_,k⟩<;>omega
 .left;omega
def MI {x y:Mt}(hx:MOk x)(hy:MOk y)(h:ltM x y=false)(k:ltM y x=false):x=y:=by
 have h:¬ltM x y=true:=by simp[h]
 have k:¬ltM y x=true:=by simp[k]
 rw[ltM_iff] at h k;have n:=eJ x.time y.time;have e:=Dh hx.1 hy.1 (by omega);obtain⟨a,b,c⟩:=x;obtain⟨a',b',c'⟩:=y;simp only at e h k n;subst e;have z:crs a a=0:=by unfold crs;omega
 have:b=b'/\ c=c':=by omega
 rw[this.1,this.2]
def Bk {α:Type}{z:Nat}(hz:0<z)(f:α->List Value)(hf:∀x,(f x).length=z):∀(l:List α) (i j:Nat),j<z->(l.flatMap f)[i*z+j]?=(l[i]?).bind λx=>(f x)[j]?
 |[],i,j,_=>by simp
 |a::l,0,j,hj=>by
  rw[dA,aH (by rw[hf];omega)];simp
 |a::l,i+1,j,hj=>by
  have e:(i+1)*z+j=z+(i*z+j):=by rw[cx];omega
  rw[e,dA,bP (by rw[hf];omega),hf,tQ,Bk hz f hf l i j hj];rfl
def TL {α:Type}{z:Nat}(f:α->List Value)(hf:∀x,(f x).length=z)(l:List α):(l.flatMap f).length=l.length*z:=by
 induction l with
 |nil=>simp
 |cons a l ih=>rw[dA,aD,hf,ih,aZ,cx];omega
def Dl {α:Type}[Inhabited α]{z:Nat}(hz:0<z)(f:α->List Value)(hf:∀x,(f x).length=z)(d:Array α):(flatK f z d).toList=d.toList.flatMap f:=by
 apply c8;intro n;by_cases hn:n<d.size*z
 .have h1:(flatK f z d).toList[n]?=some (flatK f z d)[n]!:=by
   rw[bU,dx (by simpa using hn),jv _ n (by simpa using hn)]
  rw[h1,get_flatK f z d n hn];have e:n=n/z*z+n% z:=by have:=Nat.div_add_mod n z;rw[tL] at this;omega
  have hi:n/z<d.size:=Nat.div_lt_of_lt_mul (by rw[tL];exact hn);have hj0:n% z<z:=x6 _ hz
  conv=>rhs;rw[e,Bk hz f hf d.toList (n/z) (n% z) hj0]
  rw[bU,dx hi,jv d (n/z) hi];show _=(f (d[n/z]'hi))[n% z]?
  have hj:n% z<(f (d[n/z]'hi)).length:=by rw[hf];exact hj0
  rw[ai hj,jv (f (d[n/z]'hi)) (n% z) hj]
 .rw[bD (by rw[du,size_flatK];omega),bD (by rw[TL f hf,du];omega)]
def Fo (F arr:Array Value)(h:F.size<=arr.size):(putCells id 0 F arr).toList.take F.size=F.toList:=by
 apply c8;intro k;by_cases hk:k<F.size
 .rw[db hk,bU];unfold putCells;rw[wm,dx (by omega)];simp[hk]
 .rw[bD (by simp;omega),bD (by simp;omega)]
def Y7 {α:Type}[Inhabited α]{z:Nat}(hz0:0<z){enc:α->List Value}(he:∀x,(enc x).length=z){w:World}{B n:Nat}{dm:Array α}{os:Array Obj}{arr:Array Value}(hrow:Row w B arr)(hB:B<w.heap.size)(hs:dm.size*z<=arr.size):
  ∃arr',Row (sortWorldK enc z w B 0 n dm os) B arr'/\ arr'.size=arr.size/\ arr'.toList.take (dm.size*z)=dm.toList.flatMap enc:=by
 obtain⟨ty,fz,hg,hun⟩:=hrow;have hz:(putCells id 0 (flatK enc z dm) arr).size=arr.size:=by simp[putCells]
 refine⟨putCells id 0 (flatK enc z dm) arr,⟨ty,fz,?_,by rw[hz];exact hun⟩,hz,?_⟩
 .unfold sortWorldK;rw[heap_grow_old _ _ (by rw[size_putRowK];exact hB)];show(w.heap.modify B _)[B]?=_
  rw[gm,ad rfl,hg];rfl
 .have:=Fo (flatK enc z dm) arr (by rw[size_flatK];exact hs);rw[size_flatK,Dl hz0 enc he] at this;exact this
def TM {α:Type}[Inhabited α]{z:Nat}(enc:α->List Value)(w:World)(B n:Nat)(dm:Array α)(os:Array Obj){n₀:Nat}(hn:n₀<=w.heap.size)(hB:n₀<=B):Below n₀ w (sortWorldK enc z w B 0 n dm os):=by
 refine⟨rfl,rfl,rfl,?_,λk h1=>?_⟩
 .unfold sortWorldK;rw[size_grow,size_putRowK];show w.heap.size<=w.heap.size+_
  omega
 .unfold sortWorldK;rw[heap_grow_old _ _ (by rw[size_putRowK];show k<w.heap.size;omega)]
  show(w.heap.modify B _)[k]?=_
  rw[gm,ac (by omega)]
def TN {α:Type}[Inhabited α]{z:Nat}(enc:α->List Value)(w:World)(B n:Nat)(dm:Array α)(os:Array Obj){k:Nat}(hk:k<w.heap.size)(hB:k≠B):(sortWorldK enc z w B 0 n dm os).heap[k]?=w.heap[k]?:=by
 unfold sortWorldK;rw[heap_grow_old _ _ (by rw[size_putRowK];exact hk)];show(w.heap.modify B _)[k]?=_
 rw[gm,ac (λe=>hB e.symm)]
def Y8 {ms:List Mt}(hv:∀m∈ms,MOk m)(hne:ms≠[])(hlen:ms.length<=5000){w:World}{B cap:Nat}{arr:Array Value}(hrow:Row w B arr)(hB:B<w.heap.size)(hcap:ms.length<=cap)(hsz:cap*4<=arr.size)(hcells:arr.toList.take (ms.length*4)=ms.flatMap j0):
  Calls Tryz.prog 118 #[.slice (some ⟨B,0,none⟩) ms.length cap,.func (.func 119) #[] #[]] w λe w'=>e= .returned (.tuple #[])/\(∃arr',Row w' B arr'/\ cap*4<=arr'.size/\ arr'.toList.take (ms.length*4)=(ms.mergeSort λx y=>!ltM y x).flatMap j0)/\(∀n₀,n₀<=w.heap.size->n₀<=B->Below n₀ w w')/\∀k,k<w.heap.size->k≠B->w'.heap[k]?=w.heap[k]?:=by
 obtain⟨ty,fz,hg,hun⟩:=hrow;obtain⟨p0,hp0⟩:∃p,p∈ms:=sB ms hne
 let α:={p:Mt//p∈ms}
 haveI:Inhabited α:=⟨⟨p0,hp0⟩⟩
 let enc:α->List Value:=λx=>j0 x.1
 let cf:α->α->Int:=λx y=>Es x.1 y.1
 have hlt:∀x y:α,ltOf cf x y=ltM x.1 y.1:=λx y=>Y6 x.1 y.1;have tot:∀x y:α,ltM x.1 y.1=false->ltM y.1 x.1=false->x=y:=λx y a c=>Subtype.ext (MI (hv _ x.2) (hv _ y.2) a c);have hO:SWO (ltOf cf):=⟨λx=>by rw[hlt];exact MH _,λx y z a c=>by rw[hlt] at*;exact Dk (hv _ x.2) (hv _ y.2) (hv _ z.2) a c,λx y z a c=>by
  rw[hlt] at*;cases e:ltM x.1 z.1 with
  |false=>rfl
  |true=>
   cases e1:ltM y.1 x.1 with
   |false=>rw[tot x y a e1,c] at e;cases e
   |true=>rw[Dk (hv _ y.2) (hv _ x.2) (hv _ z.2) e1 e] at c;cases c⟩
 have hT:∀x y,ltOf cf x y=false->ltOf cf y x=false->x=y:=λx y a c=>by
  rw[hlt] at a c;exact tot x y a c
 let d:Array α:=ms.attach.toArray
 have hd:d.size=ms.length:=by rw[show d.size=ms.attach.length from gG ..,List.length_attach]
 have hdl:d.toList.map Subtype.val=ms:=by simp[d]
 have hfl:(flatK enc 4 d).toList=ms.flatMap j0:=by
  rw[Dl (by decide) enc (λ_=>rfl) d]
  conv=>rhs;rw[<-hdl,tG]
 have hBig:ms.length*4<=arr.size:=by omega
 have hH:HoldsK enc 4 w B 0 d:=λj hj=>by
  rw[size_flatK,hd] at hj;have hj':j<(flatK enc 4 d).size:=by rw[size_flatK,hd];exact hj
  have e1:(flatK enc 4 d).toList[j]?=some (flatK enc 4 d)[j]!:=by
   rw[bU,dx hj',jv _ j hj']
  rw[hfl,<-hcells,db hj] at e1;refine⟨?_,?_⟩
  .simp only[World.cell?,hg,cQ];rw[<-bU,e1];rfl
  .have:=hun j (by omega);simp only[World.frozen?,hg,cQ];simpa using this
 have hcmp:CmpLays Tryz.prog 119 #[] enc 4 cf B 0 d.size w:=λm os dk hs x y=>ahR (hv _ x.2) (hv _ y.2) _;have key:=AnyQ.slices_SortFunc_total XH 4 Tryz.isAgg41 Tryz.sizeOf41 enc (λ_=>rfl) (λx v hv=>by simp[enc,j0] at hv;rcases hv with rfl|rfl|rfl|rfl<;>rfl) cf hO 119 #[] B 0 cap d w (enters_of Tryz.func119 (by kernel_rfl) rfl) hcmp hH hB (by rw[hd];omega) hT
 rw[hd] at key;refine Calls.mono (show Calls Tryz.prog 118 _ _ _ from key) ?_
 rintro e w' ⟨rfl,n,os,rfl⟩;refine⟨rfl,?_,λn₀ h1 h2=>TM enc w B n _ os h1 h2,λk h1 h2=>TN enc w B n _ os h1 h2⟩;have hdm:(d.toList.mergeSort λx y=>!(ltOf cf) y x).toArray.size=ms.length:=by
  rw[gG,iE,du,hd]
 obtain⟨arr',r1,r2,r3⟩:=Y7 (z:=4) (by decide) (enc:=enc) (λ_=>rfl) (n:=n) (os:=os) (dm:=(d.toList.mergeSort λx y=>!(ltOf cf) y x).toArray) (⟨ty,fz,hg,hun⟩:Row w B arr) hB (by rw[hdm];exact hBig);refine⟨arr',r1,by omega,?_⟩;rw[hdm] at r3;rw[r3];have hm:(d.toList.mergeSort λx y=>!(ltOf cf) y x).map Subtype.val=ms.mergeSort λx y=>!ltM y x:=by
  rw[List.map_mergeSort (s:=λp q=>!ltM q p) (λx _ y _=>by rw[hlt]),hdl]
 rw[<-hm,tG]
def Fl (p:Option Addr)(cap:Nat)(fv:Value)(w:World):Calls Tryz.prog 118 #[.slice p 0 cap,fv] w λe w'=>e= .returned (.tuple #[])/\ w'=w:=AnyF.slices_SortFunc_none XH p cap fv w
def ak3 {l:List Pt}(h:okF l):Ans D 48 [F l] [sl cR (srtM l)]:=by
 have h0:D.T 48=none:=by kernel_rfl
 refine Xz h0 ?_;show zr [F l]=some [sl cR (srtM l)]
 exact YZ h
def wj {l:List Pt}(h:okF l):(rawM l).length<=5000:=by
 have h1:=AW l;have h0:=h.1;have h2:l.length*(l.length-1)<=64*64:=eV h0 (by omega);omega
def MJ (l:List Pt):(srtM l).length=(rawM l).length:=iE _
def Y9 {l:List Pt}{m:Mt}:m∈srtM l↔m∈rawM l:=(mi _ _).mem_iff
def Ar {l:List Pt}(h:okF l):∀m∈srtM l,rok m.time=true/\ aS m.time:=λm hm=>xe h (Y9.1 hm)
def TO {l:List Pt}(f:Mt->Bool):(srtM l).countP f=(rawM l).countP f:=(mi _ _).countP_eq f
def lt_of {x y:Mt}(h:ltM y x=false):crs x.time y.time<=0:=by
 have h:¬ltM y x=true:=by simp[h]
 rw[ltM_iff] at h;have n:=eJ x.time y.time;omega
def MK {l:List Pt}(h:okF l):Srt (srtM l):=by
 let α:={m:Mt//m∈rawM l}
 have ok:∀x:α,MOk x.1:=λx=>xe h x.2;have hm:((rawM l).attach.mergeSort λx y=>!ltM y.1 x.1).map Subtype.val=srtM l:=by
  unfold srtM;rw[List.map_mergeSort (s:=λp q=>!ltM q p) (λx _ y _=>rfl),List.attach_map_subtype_val]
 have hs:=nL (le:=λx y:α=>!ltM y.1 x.1) (λa b c h1 h2=>by
  cases e:ltM c.1 a.1 with
  |false=>rfl
  |true=>
   have h1:ltM b.1 a.1=false:=by simpa using h1
   have h2:ltM c.1 b.1=false:=by simpa using h2
   cases e1:ltM a.1 b.1 with
   |true=>rw[Dk (ok c) (ok a) (ok b) e e1] at h2;cases h2
   |false=>
    have:=MI (ok a) (ok b) e1 h1;rw[this] at e;rw[e] at h2;cases h2) (λa b=>by
  cases e:ltM b.1 a.1 with
  |false=>rfl
  |true=>
   cases e1:ltM a.1 b.1 with
   |false=>rfl
   |true=>
    have:=Dk (ok a) (ok b) (ok a) e1 e;rw[MH] at this;cases this) (rawM l).attach
 intro i j x y hij hi hj;rw[<-hm] at hi hj;rw[a8] at hi hj;cases ei:((rawM l).attach.mergeSort λx y=>!ltM y.1 x.1)[i]? with
 |none=>rw[ei] at hi;cases hi
 |some x'=>
  cases ej:((rawM l).attach.mergeSort λx y=>!ltM y.1 x.1)[j]? with
  |none=>rw[ej] at hj;cases hj
  |some y'=>
   rw[ei] at hi;rw[ej] at hj;cases hi;cases hj;obtain⟨i1,i2⟩:=aC.1 ei;obtain⟨j1,j2⟩:=aC.1 ej;have:=dR.1 hs i j i1 j1 hij;rw[i2,j2] at this;exact lt_of (by simpa using this)
def PA (l:List Pt)(a b:Rt):List Mt:=((srtM l).drop ((srtM l).countP (fQ a))).take ((srtM l).countP (fQ b)-(srtM l).countP (fQ a))
def uY (l:List Pt)(a b:Rt):List Mt:=if rL l a b=0 then PA l a b else []
def ML {l:List Pt}{a b:Rt}(h:rL l a b=0):okF l/\ rok a=true/\ rok b=true/\ crs a b<=0:=by
 unfold rL at h;split at h
 .contradiction
 .rename_i hf;split at h
  .rename_i hr;split at h
   .cases h
   .rw[aJ] at hr;exact⟨eH.1 (by omega),hr.1,hr.2,by omega⟩
  .cases h
def MM {l:List Pt}(h:okF l){a b:Rt}(ha:rok a=true)(hb:rok b=true)(hab:crs a b<=0):(srtM l).countP (fQ a)<=(srtM l).countP (fQ b):=xS λm hm he=>by
 unfold fQ at he|-;exact aq (G3 (Ar h m hm).1 ha hb (aX he) hab)
def Lm {l:List Pt}(h:okF l){a b:Rt}(ha:rok a=true)(hb:rok b=true)(hab:crs a b<=0):(PA l a b).length=(rawM l).countP (yy a b):=by
 have h1:=MM h ha hb hab;have h2:=iD (p:=fQ b) (l:=srtM l);unfold PA;rw[aR,bQ,<-TO];have e:=zF (p:=fQ b) (q:=fQ a) (l:=srtM l) λm hm he=>by
  unfold fQ at he|-;exact aq (G3 (Ar h m hm).1 ha hb (aX he) hab)
 have e2:(srtM l).countP (λm=>fQ b m&& !fQ a m)=(srtM l).countP (yy a b):=List.countP_congr λm _=>by
  unfold fQ yy zZ;have:=eJ a m.time;simp;omega
 omega
def ak4 {l:List Pt}{a b:Rt}(ha:aS a)(hb:aS b):Ans D 16 [F l,R a,R b] [sl cR (uY l a b),.i64 (rL l a b)]:=by
 have m1:=phi (ak1 (l:=l) ha hb);have e1:RF.ev (.bs 2 [KP.z,KP.z] [0,1]) [R a,R b]=some (sl uX [a,b]):=rfl;have e2:RF.ev .sub [sl uX [a,b],.v (.int .i64 0),.v (.int .i64 2)]=some (sl uX [a,b]):=rfl;refine am ?_;unfold aaD uY;simp only[ay,aY,ba,e1,e2,m1,EV];by_cases h:rL l a b=0
 .obtain⟨hl,hra,hrb,hab⟩:=ML h;have m2:=phi (ak3 hl);have m3:=phi (af1 (MK hl) (Ar hl) (by rw[MJ];exact wj hl) ha hra);have m4:=phi (af1 (MK hl) (Ar hl) (by rw[MJ];exact wj hl) hb hrb);have h1:=MM hl hra hrb hab;have h2:=iD (p:=fQ b) (l:=srtM l);have b1:RF.ev .bnd [.v (.int .i64 (((srtM l).countP (fQ b):Nat):Int)),.v (.int .i64 (((srtM l).length:Nat):Int))]=some (.i64 (((srtM l).countP (fQ b):Nat):Int)):=by rw[kq,ad ⟨by omega,by omega⟩]
  have b2:RF.ev .bnd [.v (.int .i64 (((srtM l).countP (fQ a):Nat):Int)),.v (.int .i64 (((srtM l).countP (fQ b):Nat):Int))]=some (.i64 (((srtM l).countP (fQ a):Nat):Int)):=by rw[kq,ad ⟨by omega,by omega⟩]
  have b0:RF.ev .bnd [.v (.int .i64 (((srtM l).countP (fQ b):Nat):Int)),.v (.int .i64 (((srtM l).countP (fQ b):Nat):Int))]=some (.i64 (((srtM l).countP (fQ b):Nat):Int)):=by rw[kq,ad ⟨by omega,by omega⟩]
  have b3:RF.ev (.tsub 4) [sl cR (srtM l),.v (.int .i64 (((srtM l).countP (fQ a):Nat):Int)),.v (.int .i64 (((srtM l).countP (fQ b):Nat):Int))]=some (sl cR (PA l a b)):=by
   show RF.ev (.tsub 4) [.sl ((srtM l).map cR),_,_]=_
   rw[zn,ad ⟨by omega,by omega,by rw[ah];omega,by cases srtM l<;>rfl,by decide⟩];rw[aG,aG,<-x9,<-ya];rfl
  rw[h,ad rfl];simp only[m2,m3,m4,EV,aA,aF,au,aw,ah,b1,b0,b2,b3]
 .have:(!decide (rL l a b=0))=true:=by simp[h]
  rw[ac h];simp only[this,az,EV];rfl
def ak5 {l:List Pt}{a b:Rt}(ha:aS a)(hb:aS b):Ans D 41 [F l,R a,R b] [.i64 ((uY l a b).length:Int),.i64 (rL l a b)]:=by
 have m1:=phi (ak4 (l:=l) ha hb);refine am ?_;unfold aaG;simp only[ay,aY,ba,m1,EV,ah]
def Eu (tag:Int)(l:List Pt)(a b:Rt):Int×Int:=if(evE tag l a b).2=0 then(((uY l a b).length:Int)-(evE tag l a b).1,rL l a b) else(0,(evE tag l a b).2)
def MN {E:Rt->List Crt}{t:Rt}:∀(n:Nat) (c:Clock) (out:List Crt) (d:Clock) (out':List Crt),adv E t n c out=some (some (d,out'))->out'.length<=out.length+n
 |0,_,_,_,_,h=>by cases h
 |n+1,c,out,d,out',h=>by
  unfold adv at h;split at h
  .cases h;omega
  .split at h
   .have:=MN n _ _ _ _ h;rw[aD,aN] at this;omega
   .cases h
def Lo {t:Rt}:∀(n:Nat) (c:Clock) (hp:List Int) (out:List Crt) (d:Clock) (hq:List Int) (out':List Crt),p7 t n c hp out=some (some (d,hq,out'))->out'.length<=out.length+n
 |0,_,_,_,_,_,_,h=>by cases h
 |n+1,c,hp,out,d,hq,out',h=>by
  unfold p7 at h;split at h
  .cases h;omega
  .split at h
   .have:=Lo n _ _ _ _ _ _ h;rw[aD,aN] at this;omega
   .cases h
def Lp {E:Rt->List Crt}{t:Rt}{c:Clock}:(((fG E t c).map (·.2)).getD []).length<=30000000:=by
 unfold fG;cases h:adv E t 5000 c [] with
 |none=>simp
 |some r=>
  cases r with
  |none=>simp
  |some z=>
   have:=MN _ _ _ z.1 z.2 h;simp at this|-;omega
def af2 {t:Rt}{c:Clock}{hp:List Int}:(((pE t c hp).map (·.2.2)).getD []).length<=30000000:=by
 unfold pE;cases h:p7 t 30000000 c hp [] with
 |none=>simp
 |some r=>
  cases r with
  |none=>simp
  |some z=>
   have:=Lo _ _ _ _ z.1 z.2.1 z.2.2 h;simp at this|-;omega
def Za (tag:Int)(l:List Pt)(a b:Rt):((evX tag l a b).getD []).length<=30000000:=by
 unfold evX;split
 .exact af2
 split
 .exact Lp
 split
 .exact Lp
 .exact Lp
def MO (tag:Int)(l:List Pt)(a b:Rt):0<=(evE tag l a b).1/\(evE tag l a b).1<=30000000:=by
 have:=Za tag l a b;unfold evE;split
 .decide
 split
 .exact⟨AF _,by simp only;omega⟩
 split
 .exact⟨AF _,by simp only;omega⟩
 split
 .decide
 .exact⟨by simp only;omega,by simp only;omega⟩
def Lq {l:List Pt}{a b:Rt}:(uY l a b).length<=5000:=by
 unfold uY;split
 .rename_i h;obtain⟨hl,ha,hb,hab⟩:=ML h;have:=wj hl;rw[Lm hl ha hb hab];exact bG iD this
 .exact b8 _
def ak6 (tag:Int){l:List Pt}{a b:Rt}(ha:aS a)(hb:aS b)(h10:l.length<=10\/eQ l≠0):Ans D 11 [.v (.int .u8 tag),F l,R a,R b] [.i64 (Eu tag l a b).1,.i64 (Eu tag l a b).2]:=by
 have m1:=phi (afX tag (l:=l) ha hb h10);have m2:=phi (ak5 (l:=l) ha hb);obtain⟨q1,q2⟩:=MO tag l a b;have q3:=Lq (l:=l) (a:=a) (b:=b);have hw:=cU (show-9223372036854775808<=((uY l a b).length:Int)-(evE tag l a b).1 by omega) (by omega)
 refine am ?_;unfold aaB Eu;simp only[ay,aY,ba,m1,m2,EV,hw];by_cases h:(evE tag l a b).2=0
 .simp[h]
 .simp[h]
open Go.RowKit Go.Shelf Go.Lib
attribute [local go_sem] Oper.semAt_some
def msF (pre:List (Pt×Pt)):List Mt:=(pre.filter λx=>decide (x.1.b≠x.2.b)).map λx=>gQ x.1 x.2
def Zb (pre:List (Pt×Pt)){p q:Pt}(h:p.b≠q.b):msF (pre++[(p,q)])=msF pre++[gQ p q]:=by simp[msF,h]
def V9 (pre:List (Pt×Pt)){p q:Pt}(h:p.b=q.b):msF (pre++[(p,q)])=msF pre:=by simp[msF,h]
def Zc (pre:List (Pt×Pt)):(msF pre).length<=pre.length:=by
 unfold msF;rw[ah];exact gn _ _
def Zd (a b:List (Pt×Pt)):msF (a++b)=msF a++msF b:=by simp[msF]
def Wa (p:Pt)(l:List Pt)(i:Nat):hdP (p::l) (i+1)=l.map (λq=>(p,q))++hdP l i:=by
 unfold hdP;rw[List.range_succ_eq_map,dA,tG];rfl
def MQ:∀l:List Pt,msF (hdP l l.length)=rawM l
 |[]=>rfl
 |p::l=>by
  rw[aZ,Wa,Zd,MQ l];rw[rawM];unfold msF;rw[List.filter_map,List.map_map];rfl
def Kq.grown {n₀:Nat}{A W W':World}(h:Kq n₀ A W)(hn:n₀<=W.heap.size)(g:W.grownBy W' none):Kq n₀ A W':=
 ⟨h.below.grown g hn (λk e=>by cases e),λk cs t fz hk ht=>by
  have:=h.keep k cs t fz hk ht;exact(g.block k (bH.1 this).1 (λe=>by cases e)).trans this⟩
def Kq.putObj {n₀:Nat}{w:World}(hn:n₀<=w.heap.size)(W:World)(l:Nat)(o o':Obj)(hl:w.heap.size<=l)(h:W.heap[l]?=some o)(ho:o.isCells=false)(hw:o.isWalk=false):Kq n₀ W (W.putObj l o'):=
 ⟨belowK_b hn W l o o' hl h ho hw,λk cs t fz hk _=>(World.putObj_heap_other (λe=>by subst e;rw[hk] at h;cases h;cases ho)).trans hk⟩
def Kq.setCell {n₀:Nat}{A W:World}(h:Kq n₀ A W){B:Nat}{t:TypeId}{v:Value}(hB:n₀<=B)(hb:Boxed W B t v)(h1:t≠72)(h2:t≠24)(u:Value):Kq n₀ A (W.setCell ⟨B,0,none⟩ u):=
 ⟨h.below.setCell (p:=⟨B,0,none⟩) hB u,λk cs t' fz hk ht=>by
  have hk':=h.keep k cs t' fz hk ht;refine(Below.heap_setCell _ _ _ k (λe=>?_)).trans hk';have hb:W.heap[B]?=_:=hb;rw[show k=B from e] at hk'
  rw[hk'] at hb;cases hb;exact ht.elim h1 h2⟩
def Kq.appended {W w1:World}{n₀ B:Nat}{v v':Value}{k:Nat}{xs:List Value}{tmp:Obj}(hv:Boxed W B 36 v)(hrow:W.ownsRow n₀ 41 4 v k xs)(hgrow:(W.alloc tmp).grownBy w1 v.ownBlock)(hb:Below n₀ W (w1.setCell ⟨B,0,none⟩ v')):
  Kq n₀ W (w1.setCell ⟨B,0,none⟩ v'):=
 ⟨hb,λj cs t fz hj ht=>by
  have hv:W.heap[B]?=_:=hv;have hjB:j≠B:=λe=>by subst e;rw[hj] at hv;cases hv;revert ht;decide
  refine(Below.heap_setCell _ _ _ j hjB).trans ?_;have hlt:=(bH.1 hj).1;refine(hgrow.block j (by simp;omega) (λe=>?_)).trans ((Below.heap_alloc _ _ _ hlt).trans hj);rcases hrow.2 with⟨rfl,_⟩|⟨g,cap,cur,rfl,_,hgb,_⟩
  .cases e
  .have e:j=g:=by simpa [Value.ownBlock] using e
   subst e;rw[hj] at hgb;cases hgb
   revert ht
   decide⟩
def Ze {W W':World}{n:Nat}{os:Array Obj}(h:W'=Go.Sort.grow (W.drewN n) os):W.grownBy W' none:=by
 subst h;exact⟨rfl,rfl,rfl,by simp[World.drewN],λk hk _=>Go.Sort.heap_grow_old _ _ hk⟩
def At3 (W:World)(B:Nat)(p:Pt):Prop:=W.heap[B]?=some (.cells (iO p).toArray 72 (0,0))
def At3.lt {W:World}{B:Nat}{p:Pt}(h:At3 W B p):B<W.heap.size:=(bH.1 h).1
def At3.kept {W W':World}{B:Nat}{p:Pt}{row:Option Nat}(h:At3 W B p)(hg:W.grownBy W' row)(hne:some B≠row):At3 W' B p:=(hg.block B h.lt hne).trans h
def MS (B:Nat)(p:Pt):Own (λ(_:Unit) W=>At3 W B p):=λ_ X Y row hs hg hrow=>
 hs.kept hg (λe'=>by obtain⟨o,ho,hc⟩:=hrow B e'.symm;rw[show X.heap[B]?=_ from hs] at ho;cases ho;cases hc)
def At3.alloc {W:World}{B:Nat}{p:Pt}(h:At3 W B p)(o:Obj):At3 (W.alloc o) B p:=(Below.heap_alloc _ _ _ h.lt).trans h
def At3.c0 {W:World}{B:Nat}{p:Pt}(h:At3 W B p):W.cell? ⟨B,0,none⟩=some (.int .i64 p.id):=by simp[World.cell?,show W.heap[B]?=_ from h,iO]
def At3.c1 {W:World}{B:Nat}{p:Pt}(h:At3 W B p):W.cell? ⟨B,1,none⟩=some (.int .i64 p.a):=by simp[World.cell?,show W.heap[B]?=_ from h,iO]
def At3.c2 {W:World}{B:Nat}{p:Pt}(h:At3 W B p):W.cell? ⟨B,2,none⟩=some (.int .i64 p.b):=by simp[World.cell?,show W.heap[B]?=_ from h,iO]
def af3:(Tryz.prog.info? 41).map (λi=>(i.zero,i.size,i.bytes))=some (some (.agg #[.int .i64 0,.int .i64 0,.int .i64 0,.int .i64 0]),4,32):=by kernel_rfl
attribute [local go_sem] Oper.semAt_some
def MsV (n₀:Nat)(W:World)(v:Value)(ms:List Mt):Prop:=W.ownsRow n₀ 41 4 v ms.length (ms.flatMap j0)
def Wb {n₀:Nat}{ms:List Mt}(hv:∀m∈ms,MOk m)(hlen:ms.length<=5000){W:World}{v:Value}(h:MsV n₀ W v ms)(hn:n₀<=W.heap.size):
  Calls Tryz.prog 118 #[v,.func (.func 119) #[] #[]] W λe W'=>e= .returned (.tuple #[])/\ Below n₀ W W'/\(∀k,k<W.heap.size->some k≠v.ownBlock->W'.heap[k]?=W.heap[k]?)/\
   ((ms=[]/\ v= .slice none 0 0)\/∃B cap arr,v= .slice (some ⟨B,0,none⟩) ms.length cap/\ ms.length<=cap/\ cap*4<=arr.size/\ Row W' B arr/\ n₀<=B/\ B<W'.heap.size/\ arr.toList.take (ms.length*4)=(ms.mergeSort λx y=>!ltM y x).flatMap j0):=by
 obtain⟨h1,⟨rfl,h2⟩|⟨g,cap,cur,rfl,hg,hgb,q1,q2,q3,q4⟩⟩:=h
 .have e:ms=[]:=cX.1 h2;refine(Fl none 0 _ W).mono ?_;rintro e' W' ⟨rfl,rfl⟩;exact⟨rfl,Below.refl _ _,λ_ _ _=>rfl,.inl ⟨e,rfl⟩⟩
 .have hB:g<W.heap.size:=(bH.1 hgb).1;have hr:Go.Sym.Row W g cur:=⟨_,_,hgb,λi _ h=>by omega⟩;by_cases e:ms=[]
  .subst e;refine(Fl _ cap _ W).mono ?_;rintro e' W' ⟨rfl,rfl⟩;exact⟨rfl,Below.refl _ _,λ_ _ _=>rfl,.inr ⟨g,cap,cur,rfl,q1,by omega,hr,hg,hB,by simp⟩⟩
  .refine(Y8 hv e hlen hr hB q1 (by omega) q4).mono ?_;rintro e' W' ⟨rfl,⟨arr',r1,r2,r3⟩,r4,r5⟩;obtain⟨ty,fz,hg',_⟩:=id r1;exact⟨rfl,r4 n₀ hn hg,λk hk hne=>r5 k hk λe=>hne (by rw[e];rfl),.inr ⟨g,cap,arr',rfl,q1,r2,r1,hg,(bH.1 hg').1,r3⟩⟩
def TP {W W':World}{base e size k:Nat}{v:Value}{xs:List Value}(h:W.ownsRow base e size v k xs)(hg:W.grownBy W' none):W'.ownsRow base e size v k xs:=by
 refine h.kept hg ?_;rcases h.2 with⟨rfl,_⟩|⟨g,cap,cur,rfl,_⟩
 .exact .inl rfl
 .exact .inr (λe=>by cases e)
def TQ (W:World)(cs:List Value)(t:TypeId)(j:Nat)(u:Value)(h:cs[j]?=some u):(W.alloc (.cells cs.toArray t)).cell? (Addr.add ⟨W.heap.size,0,none⟩ j)=some u:=by
 have:=World.alloc_heap_new W (.cells cs.toArray t);unfold World.cell? Addr.add;by_cases e:j=0
 .subst e;rw[ad rfl];dsimp only;rw[this];simp[h]
 .rw[ac e];dsimp only;rw[this];simp[h]
def af4 (p q:Pt)(r:Rt)(e:Int):Prop:=metR p q=(r,e)/\(e=0->p.b≠q.b/\ r=(gQ p q).time)/\(e≠0->p.b=q.b)
def ak7 (p q:Pt):af4 p q (metR p q).1 (metR p q).2:=by
 refine⟨rfl,λh=>?_,λh=>?_⟩
 .unfold metR at h|-;by_cases hb:p.b=q.b
  .rw[ad hb] at h;cases h
  .rw[ac hb];exact⟨hb,rfl⟩
 .unfold metR at h;by_cases hb:p.b=q.b
  .exact hb
  .rw[ac hb] at h;exact absurd rfl h
set_option maxHeartbeats 1000000 in
def Wc {l:List Pt}(h:okF l){w:World}{v:Value}(hv:Py w.heap.size w v l):
  Calls Tryz.prog 48 #[.agg #[v]] w λe w'=>∃u,e= .returned u/\ Below w.heap.size w w'/\
   ((rawM l=[]/\ u= .slice none 0 0)\/∃B cap arr,u= .slice (some ⟨B,0,none⟩) (rawM l).length cap/\(rawM l).length<=cap/\ cap*4<=arr.size/\ Go.Sym.Row w' B arr/\ w.heap.size<=B/\ B<w'.heap.size/\ arr.toList.take ((rawM l).length*4)=(srtM l).flatMap j0):=by
 have hl64:l.length<=64:=h.1;have hpt:∀{i:Nat} {p:Pt},l[i]?=some p->p.ok=true:=λhi=>dr h hi;have hraw:(rawM l).length<=5000:=by
  have h1:=AW l;have h2:l.length*(l.length-1)<=64*64:=eV hl64 (by omega);omega
 obtain⟨i0,hi,hz0,hz1,hz2⟩:=info_parts af3;obtain⟨F,hFe⟩:∃F,F=Fence.wide:=⟨_,rfl⟩;have hFf:∀f,F.fn f:=λf=>by subst hFe;trivial
 have hFr:F.round=none:=by subst hFe;rfl
 have toF:∀{f:FuncId} {args:Array Value} {W:World} {R:Ending->World->Prop} (n:Nat),Calls Tryz.prog f args W R->CallsIn F n Tryz.prog f args W R:=λn h=>by subst hFe;exact callsIn_wide.2 h
 refine(callsIn_wide (n:=12)).1 ?_;rw[<-hFe];clear hFe;have g48:=hFf 48;have g116:=hFf 116;have g117:=hFf 117;have g118:=hFf 118;refine callsIn_of_wp_marks Tryz.func48 rfl g48 ?_ hFr;simp only[Tryz.ntmps48,gG,aZ,cw,Nat.reduceAdd,Nat.reduceSub,lD,lE,nV,md,aI,aL]
 gi_wp2_with (gi_at_call 116;refine(V5 F (12-1) g116 hFr _ _).mono ?_;rintro e w' ⟨rfl,rfl⟩)
 have bO:=(Boxed.new (w.alloc (.cells #[v] 24)) 36 (.slice none 0 0)).alloc (.cells #[v] 24);have bN:=World.alloc_heap_new ((w.alloc (.cells #[v] 24)).alloc (.cells #[.slice none 0 0] 36)) (.cells #[v] 24);simp only[World.size_alloc] at bO bN;have hB0:Below w.heap.size w (((w.alloc (.cells #[v] 24)).alloc (.cells #[.slice none 0 0] 36)).alloc (.cells #[v] 24)):=(((Below.refl _ w).alloc (aB _) _).alloc (by simp) _).alloc (by simp;omega) _;have hsz:(((w.alloc (.cells #[v] 24)).alloc (.cells #[.slice none 0 0] 36)).alloc (.cells #[v] 24)).heap.size=w.heap.size+3:=by simp
 obtain⟨W0,hW0⟩:∃W0,((w.alloc (.cells #[v] 24)).alloc (.cells #[.slice none 0 0] 36)).alloc (.cells #[v] 24)=W0:=⟨_,rfl⟩;rw[hW0] at bO bN hB0 hsz|-;clear hW0;have hv0:Py w.heap.size W0 v l:=hv.imp id λ⟨b,off,cap,h1,h2,h3⟩=>⟨b,off,cap,h1,h2,h3.below hB0⟩;refine wpIn_rangeFunc_ownH hFr (by decide) (gf:=214) (lb:=#[.pointer (some ⟨w.heap.size+1+1,0,none⟩)]) rfl (hFf 214) (enters_of Tryz.func214 (by kernel_rfl) rfl)
  (V6 F (12-1) (hFf 214) hFr (by decide) (w.heap.size+1+1) w.heap.size v l hl64 W0 (by omega) bN hv0) (λh k=>h.trans k) (Kq.putObj (by omega)) (Below.refl _ _) (λ_=>rfl)
  (λpre W=>(∃u,Boxed W (w.heap.size+1) 36 u/\ W.ownsRow w.heap.size 41 4 u (msF (pre.map Subtype.val)).length ((msF (pre.map Subtype.val)).flatMap j0)/\ True)/\ Below w.heap.size w W)
  (λ_ _ _=>False)
  (OwnFrom.and (Own.from (holdsRow_own w.heap.size (w.heap.size+1) 36 41 4 (λpre:List (PP2 l)=>(msF (pre.map Subtype.val)).length) (λpre=>(msF (pre.map Subtype.val)).flatMap j0) (λ_ _=>True)) _) (ownFrom_below (aB _) (by omega)))
  (λ_ _ _ _ _ hs _ _=>hs)
  ⟨⟨_,bO,World.ownsRow_nil _ _ _ _,trivial⟩,hB0⟩
  (λx a' W=>∃B1 B2,w.heap.size+1<B1/\ w.heap.size+1<B2/\ At3 W B1 x.1.1/\ At3 W B2 x.1.2/\ a'={tmps:=#[.agg #[v],.pointer (some ⟨w.heap.size,0,none⟩),.slice none 0 0,.pointer (some ⟨w.heap.size+1,0,none⟩),.pointer (some ⟨B1,0,none⟩),.pointer (some ⟨B2,0,none⟩),undef,undef,.agg #[v],.func (.func 214) #[] #[.pointer (some ⟨w.heap.size+1+1,0,none⟩)],.agg (iO x.1.1).toArray,.agg (iO x.1.2).toArray,undef,undef,undef,undef,undef,undef,undef,undef,undef,undef,undef,undef,undef,undef,undef,undef,undef,undef,undef,undef],defers:=[]})
  (λx a' _ X Y row hs hg hr=>by
   obtain⟨B1,B2,e1,e2,e3,e4,e5⟩:=hs;exact⟨B1,B2,e1,e2,MS B1 _ () X Y row e3 hg (λr e=>(hr r e).2),MS B2 _ () X Y row e4 hg (λr e=>(hr r e).2),e5⟩)
  ?assign ?body ?done ?stop
 case assign=>
  rintro lp pre ⟨⟨p,q⟩,hx⟩ W K ⟨⟨u,hu,hrow,_⟩,hB1⟩ hK;have hs1:=hB1.size;have hlt:=hu.lt
  dsimp only[Px,iO]
  gi_wp2
  have g1:W.grownBy (W.alloc (.cells (iO p).toArray 72)) none:=World.grownBy_alloc _ _ _;have g2:(W.alloc (.cells (iO p).toArray 72)).grownBy ((W.alloc (.cells (iO p).toArray 72)).alloc (.cells (iO q).toArray 72)) none:=World.grownBy_alloc _ _ _;have a1:At3 (W.alloc (.cells (iO p).toArray 72)) W.heap.size p:=World.alloc_heap_new W _;have a2:At3 ((W.alloc (.cells (iO p).toArray 72)).alloc (.cells (iO q).toArray 72)) (W.heap.size+1) q:=by
   have:=World.alloc_heap_new (W.alloc (.cells (iO p).toArray 72)) (.cells (iO q).toArray 72);rwa [World.size_alloc] at this
  refine hK _ _ ((KeepsFrom.trans ((KeepsOthers.alloc _ _).from _) ((KeepsOthers.alloc _ _).from _))) (((Kq.refl _ W).alloc (by omega) _).alloc (by simp;omega) _) ⟨⟨u,(hu.alloc _).alloc _,(hrow.alloc _).alloc _,trivial⟩,(hB1.alloc (by omega) _).alloc (by simp;omega) _⟩ ⟨W.heap.size,W.heap.size+1,by omega,by omega,a1.alloc _,a2,rfl⟩
 case body=>
  rintro lp pre ⟨⟨p,q⟩,i,j,hij,hpi,hqj⟩ a' W _ _ ⟨⟨u,hu,hrow,_⟩,hB1⟩ ⟨B1,B2,e1,e2,a1,a2,rfl⟩ hlt;have hp:p.ok=true:=hpt hpi;have hq:q.ok=true:=hpt hqj;have hid:p.id≠q.id:=λe=>by
   have h1:=(c9 h.2.2).inj (ax hpi) (ax hqj) e;have h2:=sO h.2.2 hpi;have h3:=sO h.2.2 hqj;rw[h1] at h2;omega
  have hml:(msF (pre.map Subtype.val)).length<=5000:=bG (Zc _) (by rw[ah];omega);have hs1:=hB1.size;have b10:=a1.c0;have b11:=a1.c1;have b12:=a1.c2;have b20:=a2.c0;have b21:=a2.c1;have b22:=a2.c2;obtain⟨r,x,hmc⟩:∃r x,af4 p q r x:=⟨_,_,ak7 p q⟩;have hcon:∀(n:Nat) (W:World),CallsIn (F.inRound lp) n Tryz.prog 117 #[.agg #[.int .i64 p.id,.int .i64 p.a,.int .i64 p.b],.agg #[.int .i64 q.id,.int .i64 q.a,.int .i64 q.b]] W λe w'=>e= .returned (.tuple #[.agg #[.int .i64 r.num,.int .i64 r.den],.int .i64 x])/\ W.grownBy w' none:=λn W=>by
   refine CallsIn.inRound lp (toF n ((ahT hp hq hid W).mono ?_));rintro e w' ⟨h1,n,os,h2⟩;rw[hmc.1] at h1;exact⟨h1,Ze h2⟩
  gi_wp2_with (first
   |(gi_at_call 117;refine(hcon _ _).mono ?_;rintro e w1 ⟨rfl,hg⟩;have hu1:=hu.kept hg (by simp);have hr1:=TP hrow hg;have hk1:KeepsFrom W0.heap.size W w1:=((KeepsOthers.of_grownBy hg (λj o ej hj=>by cases ej)).from _);have hq1:=(Kq.refl w.heap.size W).grown hs1 hg;have c10:=(a1.kept hg (by simp)).c0;have c20:=(a2.kept hg (by simp)).c0;have l10:=(a1.kept hg (by simp)).lt;have l20:=(a2.kept hg (by simp)).lt;have cu:=hu1.cell;have hs2:=hg.size;have hs2':w.heap.size<=w1.heap.size:=bG hs1 hs2;have hul:=hu1.lt)
   |(gi_at_builtin;refine wpListIn_append_own _ rfl _ _ 36 rfl w.heap.size 41 i0 _ 4 32 Tryz.underlying36 hi hz0 hz1 hz2 rfl (by decide) _ _ _ rfl ((hr1.alloc _).alloc _) ⟨w1.heap.size+1,0,none⟩ 1 1 (j0 ⟨r,p.id,q.id⟩) rfl rfl ?c1 ?c2 ?c3 ?c4 ?c5 ?_
     case c1=>intro j u hj;have:=TQ (w1.alloc (.cells #[.int .i64 r.num,.int .i64 r.den] 26)) (j0 ⟨r,p.id,q.id⟩) 41 j u hj;rwa [World.size_alloc] at this
     case c2=>simp[j0,Value.oneCell']
     case c3=>have:(5000:Nat)<maxLen:=by decide
              omega
     case c4=>omega
     case c5=>simp;omega
     intro v' w2 hown' hgrow _;obtain⟨g',cap',rfl⟩:=ownsRow_succ hown';obtain⟨hv1,hv2,hr2,hk2,hb2⟩:=(hu1.alloc (.cells #[.int .i64 r.num,.int .i64 r.den] 26)).appended (by decide) (hr1.alloc _) (by simp;omega) (by omega) hown' hgrow;have hq2:=Kq.appended (hu1.alloc (.cells #[.int .i64 r.num,.int .i64 r.den] 26)) (hr1.alloc _) hgrow hb2;have hc1:=hv1.cell;have hf1:=hv1.frozen))
  .have hx:x=0:=by
    have:(x==0)=true:=by assumption
    simpa using this
   obtain⟨hb,hr⟩:=hmc.2.1 hx;have hqa:=(hq1.alloc hs2' (.cells #[.int .i64 r.num,.int .i64 r.den] 26)).trans hq2;refine⟨(hk1.trans ((KeepsOthers.alloc _ _).from _)).trans (hk2.from _),hqa,⟨_,hv2,?_,trivial⟩,hB1.trans hqa.below⟩;have e:(pre++[(⟨(p,q),i,j,hij,hpi,hqj⟩:PP2 l)]).map Subtype.val=pre.map Subtype.val++[(p,q)]:=by simp
   have em:(⟨r,p.id,q.id⟩:Mt)=gQ p q:=by rw[hr];rfl
   rw[e,Zb _ hb,aD,mh,List.flatMap_singleton,<-em];exact hr2
  .have hx:x≠0:=by
    have:(x==0)=false:=by first|assumption|simp_all
    simpa using this
   have hb:=hmc.2.2 hx;have hqa:=hq1.alloc hs2' (.cells #[.int .i64 r.num,.int .i64 r.den] 26);refine⟨hk1.trans ((KeepsOthers.alloc _ _).from _),hqa,⟨_,hu1.alloc _,?_,trivial⟩,hB1.trans hqa.below⟩;have e:(pre++[(⟨(p,q),i,j,hij,hpi,hqj⟩:PP2 l)]).map Subtype.val=pre.map Subtype.val++[(p,q)]:=by simp
   rw[e,V9 _ hb];exact hr1.alloc _
 case done=>
  rintro D ys W hD hys ⟨⟨u,hu,hrow,_⟩,hB1⟩ hK;rw[hys,MQ] at hrow;have hc:=hu.cell;have hs1:=hB1.size;have hcon:=toF (12-1) (Wb (λm hm=>xe h hm) hraw hrow hs1)
  gi_wp2_with (gi_at_call 118;refine hcon.mono ?_;rintro e w' ⟨rfl,hb,hk,hfin⟩;have hu1:Boxed w' (w.heap.size+1) 36 u:=(hk _ hu.lt (hu.not_row (by decide) hrow)).trans hu;have cu:=hu1.cell)
  have hDn:some D≠u.ownBlock:=λe=>by
   rcases hrow.2 with⟨rfl,_⟩|⟨g,cap,cur,rfl,_,hgb,_⟩
   .cases e
   .obtain rfl:D=g:=by simpa [Value.ownBlock] using e
    rw[hK] at hgb;cases hgb
  have hK':=(hk D (bH.1 hK).1 hDn).trans hK;refine⟨by simp,.inl ⟨_,_,rfl,run_takeDeferred hK',?_⟩⟩;refine⟨_,results_tmp rfl _ _ _,u,rfl,hB1.trans (hb.trans (belowK_b (w:=w) (aB _) w' D _ _ (by omega) hK' rfl rfl)),?_⟩;refine hfin.imp id ?_;rintro⟨B,cap,arr,q1,q2,q3,⟨ty,fz,q4,q5⟩,q6,q7,q8⟩;have hne:B≠D:=λe=>by
   subst e;rw[hK'] at q4;cases q4
  exact⟨B,cap,arr,q1,q2,q3,⟨ty,fz,(World.putObj_heap_other hne).trans q4,q5⟩,q6,by simpa using q7,q8⟩
 case stop=>
  rintro D c pre W _ _ h _;exact h.elim
open Go.Shelf Go.RowKit Go.Lib
def af5 {w:World}{S:Nat->Prop}{v:Value}{cs:List PV}(h:RT w S v (.agg cs)):∃a:Array Value,v= .agg a/\ RTs w S a.toList cs:=by
 cases h with
 |agg h _=>exact⟨_,rfl,h⟩
def Lr {w:World}{S:Nat->Prop}:∀{l:List Pt} {vs:List Value},RTs w S vs (l.map row).flatten->vs=l.flatMap iO
 |[],_,h=>by cases h;rfl
 |p::l,_,h=>by
  rw[bY,ew] at h;have h:RTs w S _ (.i64 p.id:: .i64 p.a:: .i64 p.b::(l.map row).flatten):=h;cases h with
  |cons h1 h=>
   cases h with
   |cons h2 h=>
    cases h with
    |cons h3 h=>
     rw[mX h1,mX h2,mX h3,Lr h];rfl
def TS {w:World}{S:Nat->Prop}:∀{l:List Mt},RTs w S (l.flatMap j0) (l.map cR).flatten
 |[]=> .nil
 |_::_=> .cons (.v rfl) (.cons (.v rfl) (.cons (.v rfl) (.cons (.v rfl) TS)))
def Zf {w:World}{S:Nat->Prop}{v:Value}{l:List Pt}(h:RT w S v (sl row l))(hS:∀B,S B->B<w.heap.size):Py w.heap.size w v l:=by
 unfold sl at h;generalize he:PV.sl (l.map row)=x at h;cases h with
 |v=>cases he
 |agg=>cases he
 |nil h=>
  have hl:l=[]:=by simpa using he
  subst hl;rcases h with rfl|⟨b,o,rfl⟩
  .exact .inl ⟨rfl,rfl⟩
  .exact .inr ⟨b,o,0,rfl,aB _,⟨λh=>absurd rfl h,λj p e=>by simp at e,λj p e=>by simp at e,λj p e=>by simp at e⟩⟩
 |sl hB hg hz hn hc hr hE=>
  rename_i B o n cap z arr ty fz els;cases he;rw[ah] at hn;subst hn;refine .inr ⟨B,o,cap,rfl,hc,?_⟩;by_cases hl:l=[]
  .subst hl;exact⟨λh=>absurd rfl h,λj p e=>by simp at e,λj p e=>by simp at e,λj p e=>by simp at e⟩
  .have hz3:z=3:=by
    cases l with
    |nil=>exact absurd rfl hl
    |cons p l=>exact(hr (row p) (by simp)).1.symm
   subst hz3;have hcells:=Lr hE;have key:∀(j k:Nat) (p:Pt),k<3->l[j]?=some p->w.cell? ⟨B,o+(j*3+k),none⟩=(iO p)[k]?:=λj k p hk hp=>by
    have h1:=Bk (by decide:0<3) iO (λ_=>rfl) l j k hk;rw[hp,<-hcells] at h1;have hj:=(aC.1 hp).1;rw[db (by omega),fC,bU] at h1;simp only[World.cell?,hg];simpa using h1
   refine⟨λ_=>hS B hB,λj p hp=>?_,λj p hp=>?_,λj p hp=>?_⟩
   .exact key j 0 p (by decide) hp
   .exact key j 1 p (by decide) hp
   .exact key j 2 p (by decide) hp
def Zg {vs rs:List PV}(hx:zr vs=some rs):jo D.toDcf 48 vs rs:=by
 obtain⟨l,rfl,h,rfl⟩:=Tl hx;refine⟨Tryz.f48,Tryz.func48,by simp[Tryz.f48],by decide,by kernel_rfl,?_⟩;rw[show D.toDcf.lend 48=none by kernel_rfl]
 intro w S vs hvs hS;obtain⟨vs⟩:=vs;cases hvs with
 |cons h1 hvs=>
  cases hvs;obtain⟨a,rfl,g1⟩:=af5 h1;obtain⟨a⟩:=a;cases g1 with
  |cons hv g1=>
   cases g1;refine(Wc h (Zf hv hS)).mono ?_;rintro e w' ⟨u,rfl,hb,hu⟩;have hlen:(srtM l).length=(rawM l).length:=iE _;have hz:=hb.size;have hblk:∀B,B<w.heap.size->w'.heap[B]?=w.heap[B]?:=hb.block;have hs:D.toDcf.slots 48=[]:=by kernel_rfl
   have a36:b7 D.toDcf.P 36=some false:=by kernel_rfl
   have hfr:Frm w.heap.size (D.toDcf.lf none w) w w':=⟨hb.os,hb.tape,hb.output,hz,λk h1 _=>hblk k h1,λh=>absurd (.inr ⟨by kernel_rfl,aB _⟩) h⟩;have fin:∀S':Nat->Prop,RT w' S' u (sl cR (srtM l))->(∀B,S B->S' B)->(∀B,S' B->B<w'.heap.size)->(∀B,S' B->S B\/w.heap.size<=B)->∃u' S' us Bs,Ending.returned u= .returned u'/\ Aft D.toDcf Tryz.f48 48 w S (D.toDcf.lf none w) (λ_=>False) [sl cR (srtM l)] u' w' S' us Bs:=λS' r1 r3 r4 r5=>by
    refine⟨_,S',[u],[],rfl,⟨rfl,?_,nK,(λ_ h=>by cases h),⟨r3,λB hB=>hblk B (hS B hB)⟩,r4,λB hB=>(r5 B hB).imp_right .inl,hfr⟩⟩;rw[show Tryz.f48.resultTypes.toList=[36] from rfl,hs]
    refine .cons (Bs:=[]) ?_ .nil;unfold RR;rw[a36];exact .inl ⟨rfl,rfl,r1,rfl⟩
   rcases hu with⟨hl,rfl⟩|⟨B,cap,arr,rfl,q1,q2,⟨ty,fz,q4,q5⟩,q6,q7,q8⟩
   .refine fin S ?_ (λ_ h=>h) (λB hB=>cd (hS B hB) hz) λB hB=> .inl hB;rw[show srtM l=[] from cX.1 (by rw[hlen,hl];rfl)]
    exact .nil (.inl rfl)
   .refine fin (λb=>S b\/b=B) ?_ (λ_ h=> .inl h) (λb hB=>hB.elim (λh=>cd (hS b h) hz) λe=>by omega) λb hB=>hB.elim .inl λe=> .inr (by omega);refine .sl (z:=4) (.inr rfl) q4 (by omega) (by rw[ah];exact hlen) q1 (λr hr=>?_) ?_
    .obtain⟨m,_,rfl⟩:=bk.1 hr;exact⟨rfl,rfl⟩
    .rw[dz,q8];exact TS
end Go.Proofs.YtoeigdpfcnaaeaaGreat
