import Derived.Test.YtoeigdpfcnaaeaaGreatF1
import Derived.RangeFuncNested
import Derived.RangeFuncBound
import Derived.RangeFuncCalls
import Derived.RangeFuncLeaves
import Derived.Shelf.Abstract
import Derived.Shelf.RegionOpen
import Derived.WalkKit
import Derived.OwnWalkIn
import Derived.TacticsInMore
import Derived.LoopNIn
import Derived.LoopIn
import Derived.Maps.AppendAt
import Derived.Test.YtoeigdpfcnaaeaaGreatProg
import Derived.Test.YtoeigdpfcnaaeaaGreatN1
import Derived.Test.YtoeigdpfcnaaeaaGreatC1
import Derived.Test.YtoeigdpfcnaaeaaGreatM3
import Derived.Test.YtoeigdpfcnaaeaaGreatSM
import Derived.Lib.Walk
import Derived.LoopN
import Derived.Test.YtoeigdpfcnaaeaaGreatSO
set_option linter.unusedVariables false
set_option linter.unusedSimpArgs false
set_option linter.defProp false
noncomputable section
namespace Go.Proofs.YtoeigdpfcnaaeaaGreat
open Go.Sym Bnd
set_option maxRecDepth 100000
def evX (tag:Int)(l:List Pt)(a b:Rt):Option (List Crt):=
 if tag=1 then(pq b (fC a l).clock (fC a l).heap).map (·.2.2)
 else if tag=2 then(fK (edT l (cS l)) b (iL a l).clock).map (·.2)
 else if tag=3 then(fK (λt=>edgsT (cart t l).nodes l.length) b (mi a l).clock).map (·.2)
 else(fK (λt=>cw l (cX t l)) b (mj a l).clock).map (·.2)
def evO (o:Option (List Crt)):Int:=if o.isSome=true then 0 else 18
def B9 {c x:Choice}{t:Rt}{f:FuncId}{o:Option (List Crt)}(h:Ans D f [CHO c,R t] (sf x (sl crow (o.getD [])) (evO o))):∃x,Ans D f [CHO c,R t] [CHO x,sl crow (o.getD []),.i64 (evO o)]:=by
 cases o with
 |none=>exact⟨zCH,h⟩
 |some out=>exact⟨x,h⟩
section
variable {t:Rt}(hr:rok t=true)(ht:aS t)
include hr ht
open Classical in
theorem aig {k:KHeap}(hk:iJ k)(h64:fJ k.clock)(hg:gKh k=false)(hp:crs k.clock.now t<=0):∃x:KHeap,Ans D 96 [KH k,R t] [KH x,sl crow (((pq t k.clock k.heap).map (·.2.2)).getD []),.i64 (evO ((pq t k.clock k.heap).map (·.2.2)))]:=by
 have hchk:=c77 h64 hg;rw[aq hk] at hchk;have a:=c45 hchk (Sl hk h64) hr ht hp;unfold goK at a;cases hgo:pq t k.clock k.heap with
 |none=>rw[hgo] at a;exact⟨zKH,a⟩
 |some z=>rw[hgo] at a;exact⟨_,a⟩
open Classical in
theorem aih {k:KTourn}(hk:fk k)(h64:fJ k.clock)(hg:gKt k=false)(hp:crs k.clock.now t<=0):∃x:KTourn,Ans D 97 [KT k,R t] [KT x,sl crow (((fK (edT k.clock.pts k.brk.places) t k.clock).map (·.2)).getD []),.i64 (evO ((fK (edT k.clock.pts k.brk.places) t k.clock).map (·.2)))]:=by
 obtain⟨h,hu,⟨h1,h2,ho⟩,hall⟩:=N2 hk h64;have hchk:=c78 h64 hg;rw[aq hk] at hchk;have a:=c46 h hu h1 h2 hk.2.2.2.1 ho hr ht hp hchk;unfold goT at a;cases hgo:fK (edT k.clock.pts k.brk.places) t k.clock with
 |none=>rw[hgo] at a;exact⟨zKT,a⟩
 |some z=>rw[hgo] at a;exact⟨_,a⟩
open Classical in
theorem aii {k:Heater}(hk:jR k)(h64:fJ k.clock)(hg:gHt k=false)(hp:crs k.clock.now t<=0):∃x:Heater,Ans D 98 [HT k,R t] [HT x,sl crow (((fK (λt=>edgsT (cart t k.clock.pts).nodes k.clock.pts.length) t k.clock).map (·.2)).getD []),.i64 (evO ((fK (λt=>edgsT (cart t k.clock.pts).nodes k.clock.pts.length) t k.clock).map (·.2)))]:=by
 have hchk:=c79 h64 hg;rw[aq hk] at hchk;have a:=c47 hchk (Sk hk h64).1 hk.2.1.symm hr ht hp;unfold goH at a;cases hgo:fK (λt=>edgsT (cart t k.clock.pts).nodes k.clock.pts.length) t k.clock with
 |none=>rw[hgo] at a;exact⟨zHT,a⟩
 |some z=>rw[hgo] at a;exact⟨_,a⟩
open Classical in
theorem aij {k:KHeap}(hk:jQ k)(h64:fJ k.clock)(hg:gKh k=false)(hp:crs k.clock.now t<=0):∃x:KHeap,Ans D 99 [KH k,R t] [KH x,sl crow (((fK (λt=>cw k.clock.pts (cX t k.clock.pts)) t k.clock).map (·.2)).getD []),.i64 (evO ((fK (λt=>cw k.clock.pts (cX t k.clock.pts)) t k.clock).map (·.2)))]:=by
 have hchk:=c80 h64 hg;rw[aq hk] at hchk;have a:=c48 hchk (Sj hk h64).1 hk.2.1.symm hr ht hp;unfold goU at a;cases hgo:fK (λt=>cw k.clock.pts (cX t k.clock.pts)) t k.clock with
 |none=>rw[hgo] at a;exact⟨zKH,a⟩
 |some z=>rw[hgo] at a;exact⟨_,a⟩
end
section
variable {tag:Int}{l:List Pt}{a b:Rt}(hg:tag=1\/tag=2\/tag=3\/tag=4)(ha:aS a)(hba:bE l a=0)(haa:cU a=0)(h10:l.length<=10)
include hg ha hba haa h10
open Classical in
theorem Jz:Ans D 27 [CHO (dy tag l a)] [.i64 0]:=by
 obtain⟨g,h64⟩:=FM hg ha hba h10;have h:=c26 h64 g;rw[aq (Kc hg ha hba haa).1] at h;exact h
theorem TT (hb:aS b)(hr:rok b=true)(hab:cU b=0)(hp:crs a b<=0):∃x:Choice,Ans D 37 [CHO (dy tag l a),R b] [CHO x,sl crow ((evX tag l a b).getD []),.i64 (evO (evX tag l a b))]:=by
 have hc:=phi (Jz hg ha hba haa h10);obtain⟨hl,hra⟩:=v6 hba;obtain⟨f0,f1,f2⟩:=mh hl;obtain⟨g,h64⟩:=FM hg ha hba h10;obtain⟨g1,g2,g3,g4⟩:=AH g;have e1:=f8 (po hl (nP (t:=a))) hl ha hra λe he=>mX (sc hl _ (aB _)) he;obtain⟨b1,b2,b3⟩:=iz (t:=a) hl f1 f2 dM (ez hl);have e2:=f8 (jY (t:=a) hl f1 f2 dM (ez hl)) hl ha hra λe he=>(iy (b:=bracketOf a l (cS l)) hl b2 dM b3 he).2.2;have e3:=f8 (lM (t:=a) hl) hl ha hra λe he=>(fZ hl he).2.2;have e4:=f8 (lL (t:=a) hl) hl ha hra λe he=>(fg hl he).2.2;unfold evX;rcases hg with rfl|rfl|rfl|rfl
 .have hm:dy 1 l a=⟨1,fC a l,zKT,zHT,zKH⟩:=by unfold dy yN;rw[ad rfl,ad hba]
  rw[hm] at hc h64 g1|-;rw[ad rfl];obtain⟨x,hx⟩:=aig hr hb (FJ hl ha hra) h64.h1 g1 (by show crs (certAll _ _).now b<=0;rw[e1.2.2.1];exact hp)
  exact B9 (UH hc hr hb hab rfl hx)
 .have hm:dy 2 l a=⟨2,zKH,iL a l,zHT,zKH⟩:=by unfold dy uD;rw[ac (by decide),ad rfl,ad hba]
  rw[hm] at hc h64 g2|-;rw[ac (by decide),ad rfl];obtain⟨x,hx⟩:=aih hr hb (Dy hl ha hra) h64.h2 g2 (by show crs (certAll _ _).now b<=0;rw[e2.2.2.1];exact hp)
  have ep:(iL a l).clock.pts=l:=e2.2.1;have eb:(iL a l).brk.places=cS l:=rfl;rw[ep,eb] at hx;exact B9 (UI hc hr hb hab rfl hx)
 .have hm:dy 3 l a=⟨3,zKH,zKT,mi a l,zKH⟩:=by unfold dy yO;rw[ac (by decide),ac (by decide),ad rfl,ad hba]
  rw[hm] at hc h64 g3|-;rw[ac (by decide),ac (by decide),ad rfl];obtain⟨x,hx⟩:=aii hr hb (FL hl ha hra) h64.h3 g3 (by show crs (certAll _ _).now b<=0;rw[e3.2.2.1];exact hp)
  have ep:(mi a l).clock.pts=l:=e3.2.1;rw[ep] at hx;exact B9 (UJ hc hr hb hab rfl hx)
 .have hm:dy 4 l a=⟨4,zKH,zKT,zHT,mj a l⟩:=by unfold dy yP;rw[ac (by decide),ac (by decide),ac (by decide),ad hba]
  rw[hm] at hc h64 g4|-;rw[ac (by decide),ac (by decide),ac (by decide)];obtain⟨x,hx⟩:=aij hr hb (FK hl ha hra) h64.h4 g4 (by show crs (certAll _ _).now b<=0;rw[e4.2.2.1];exact hp)
  have ep:(mj a l).clock.pts=l:=e4.2.1;rw[ep] at hx;exact B9 (UK hc hr hb hab rfl hx)
end
def evE (tag:Int)(l:List Pt)(a b:Rt):Int×Int:=
 if¬(tag=1\/tag=2\/tag=3\/tag=4) then(0,2) else if eL l a≠0 then(0,eL l a) else if cU b≠0 then(0,cU b) else if crs b a<0 then(0,44) else((((evX tag l a b).getD []).length:Int),evO (evX tag l a b))
def JA {tag:Int}{l:List Pt}{a b:Rt}(hg:tag=1\/tag=2\/tag=3\/tag=4)(hn:eL l a=0)(hab:cU b=0)(hp:¬crs b a<0):evE tag l a b=((((evX tag l a b).getD []).length:Int),evO (evX tag l a b)):=by
 unfold evE;rw[ac (λh=>h hg),ac (λh=>h hn),ac (λh=>h hab),ac hp]
def WU {l:List Pt}{a:Rt}(h:eL l a=0):bE l a=0/\ cU a=0:=by
 unfold eL at h;split at h
 .exact⟨by assumption,h⟩
 .contradiction
def Ed {b:Rt}(h:cU b=0):rok b=true:=by
 unfold cU at h;cases hr:rok b with
 |true=>rfl
 |false=>rw[hr] at h;cases h
def WV {tag:Int}{l:List Pt}{a:Rt}(hg:tag=1\/tag=2\/tag=3\/tag=4):ot tag l a=[CHO (ml (dy tag l a) (eL l a)),.i64 (eL l a)]:=ad hg
def tP {e:Int}:(!decide (e=0))=decide (e≠0):=by simp
def TU (tag:Int){l:List Pt}{a b:Rt}(ha:aS a)(hb:aS b)(h10:l.length<=10\/gn l≠0):Ans D 9 [.v (.int .u8 tag),F l,R a,R b] [.i64 (evE tag l a b).1,.i64 (evE tag l a b).2]:=by
 have m1:=phi (c20 tag (l:=l) ha);refine am ?_;unfold YI;by_cases hg:tag=1\/tag=2\/tag=3\/tag=4
 .rw[WV hg] at m1;by_cases hn:eL l a=0
  .obtain⟨hba,haa⟩:=WU hn;have h10:l.length<=10:=h10.resolve_right λh=>by
    unfold bE at hba;split at hba
    .contradiction
    .exact h hba
   have hk:ml (dy tag l a) 0=dy tag l a:=rfl;rw[hn,hk] at m1;have hc:=phi (Jz hg ha hba haa h10);by_cases hab:cU b=0
   .by_cases hp:crs b a<0
    .obtain⟨g,h64⟩:=FM hg ha hba h10;obtain⟨o1,o2,o3⟩:=Kc hg ha hba haa;have m2:=phi (ahM h64 g o1 (Ed hab) hb hab (by rw[o3];exact hp));have e:evE tag l a b=(0,44):=by unfold evE;rw[ac (λh=>h hg),ac (λh=>h hn),ac (λh=>h hab),ad hp]
     simp[EV,bv,bm,m1,m2,gR,e]
    .obtain⟨x,hx⟩:=TT hg ha hba haa h10 hb (Ed hab) hab (by have:=eR a b;omega);have m2:=phi hx;simp[EV,bv,bm,m1,m2,gR,JA hg hn hab hp]
   .have m2:=phi (d15 (t:=b) hc hb hab);have e:evE tag l a b=(0,cU b):=by unfold evE;rw[ac (λh=>h hg),ac (λh=>h hn),ad hab]
    simp[EV,bv,bm,m1,m2,gR,e]
  .have e:evE tag l a b=(0,eL l a):=by unfold evE;rw[ac (λh=>h hg),ad hn]
   simp[EV,bv,bm,m1,gR,e,hn]
 .have hm:ot tag l a=[CHO zCH,.i64 2]:=ac hg;rw[hm] at m1;have e:evE tag l a b=(0,2):=by unfold evE;rw[ad hg]
  simp[EV,bv,bm,m1,gR,e]
open Go.RowKit Go.Shelf
attribute [local go_sem] Oper.semAt_some
def ik (p:Pt):List Value:=[.int .i64 p.id,.int .i64 p.a,.int .i64 p.b]
def TV (F:Fence)(n:Nat)(h:F.fn 116)(hro:F.round=none)(v:Value)(w:World):
  CallsIn F n Tryz.prog 116 #[.agg #[v]] w λe w'=>e= .returned (.func (.func 214) #[] #[.pointer (some ⟨w.heap.size,0,none⟩)])/\ w'=w.alloc (.cells #[v] 24):=by
 refine callsIn_of_wp Tryz.func116 rfl h ?_ hro;simp only[Tryz.ntmps116,gi,aV,cQ,Nat.reduceAdd,Nat.reduceSub,kz,kA,mS,kW,aM,aQ]
 gi_wp2
 go_ret
 exact⟨rfl,rfl⟩
abbrev PP2 (l:List Pt):={x:Pt×Pt//∃i j:Nat,i<j/\ l[i]?=some x.1/\ l[j]?=some x.2}
def Nr {l:List Pt}(x:PP2 l):Array Value:=#[.agg (ik x.1.1).toArray,.agg (ik x.1.2).toArray]
def hdP (l:List Pt)(i:Nat):List (Pt×Pt):=(List.range i).flatMap λa=>(l.drop (a+1)).map λq=>((l[a]?).getD ⟨0,0,0⟩,q)
def JB (l:List Pt)(i:Nat):hdP l (i+1)=hdP l i++(l.drop (i+1)).map λq=>((l[i]?).getD ⟨0,0,0⟩,q):=by
 unfold hdP;rw[o7,kZ];simp
def KQ (l:List Pt):∀k,(hdP l k).length<=k*l.length
 |0=>c6 _
 |k+1=>by
  have:=KQ l k;rw[JB,aD,ai,b6,b8];omega
structure Kq (n₀:Nat)(W W':World):Prop where
 below:Below n₀ W W'
 keep:∀(k:Nat) (cs:Array Value) (t:TypeId) (fz:Nat×Nat),W.heap[k]?=some (.cells cs t fz)->t=72\/t=24->W'.heap[k]?=some (.cells cs t fz)
def Kq.trans {n₀:Nat}{A B C:World}(h:Kq n₀ A B)(k:Kq n₀ B C):Kq n₀ A C:=⟨h.below.trans k.below,λi cs t fz hi ht=>k.keep i cs t fz (h.keep i cs t fz hi ht) ht⟩
def Kq.refl (n₀:Nat)(W:World):Kq n₀ W W:=⟨Below.refl _ _,λ_ _ _ _ h _=>h⟩
def Kq.alloc {n₀:Nat}{A W:World}(h:Kq n₀ A W)(hn:n₀<=W.heap.size)(o:Obj):Kq n₀ A (W.alloc o):=h.trans ⟨(Below.refl _ _).alloc hn o,λk _ _ _ hk _=>(Below.heap_alloc W o k (bz.1 hk).1).trans hk⟩
structure RowAt (n₀:Nat)(W:World)(b off:Nat)(l:List Pt):Prop where
 lt:l≠[]->b<n₀
 c0:∀(j:Nat) (p:Pt),l[j]?=some p->W.cell? ⟨b,off+j*3,none⟩=some (.int .i64 p.id)
 c1:∀(j:Nat) (p:Pt),l[j]?=some p->W.cell? ⟨b,off+j*3+1,none⟩=some (.int .i64 p.a)
 c2:∀(j:Nat) (p:Pt),l[j]?=some p->W.cell? ⟨b,off+j*3+2,none⟩=some (.int .i64 p.b)
def RowAt.below {n₀:Nat}{A B:World}{b off:Nat}{l:List Pt}(h:RowAt n₀ A b off l)(k:Below n₀ A B):RowAt n₀ B b off l:=
 have ne:∀{j:Nat} {p:Pt},l[j]?=some p->b<n₀:=λe=>h.lt λhl=>by rw[hl] at e;cases e
 ⟨h.lt,λj p e=>(k.cell (p:=⟨b,off+j*3,none⟩) (ne e)).trans (h.c0 j p e),λj p e=>(k.cell (p:=⟨b,off+j*3+1,none⟩) (ne e)).trans (h.c1 j p e),λj p e=>(k.cell (p:=⟨b,off+j*3+2,none⟩) (ne e)).trans (h.c2 j p e)⟩
set_option maxHeartbeats 4000000 in
def afl (F:Fence)(n:Nat)(hf:F.fn 214)(hro:F.round=none)(hn:1<=n)(z Bs n₀ b off cap:Nat)(l:List Pt)(hl:l.length<=64)(hcap:l.length<=cap)(J Jx:List (PP2 l)->World->Prop)
  (hJ:∀pre W W',J pre W->W.grownBy W' none->J pre W')
  (hY:∀pre x W,J pre W->pre.length<5000->YieldAt F (n-1) Tryz.prog z (Nr x) W λe W'=>
   (e= .returned (.bool true)/\ J (pre++[x]) W'/\ Kq n₀ W W')\/(e= .returned (.bool false)/\ Jx (pre++[x]) W'))
  (W:World) (hn₀:n₀<=W.heap.size) (fz:Nat×Nat) (hBs:W.heap[Bs]?=some (.cells #[.slice (some ⟨b,off,none⟩) l.length cap] 24 fz)) (hc:RowAt n₀ W b off l) (h0:J [] W):
  CallsIn F n Tryz.prog 214 #[.func (.yield z) #[] #[],.pointer (some ⟨Bs,0,none⟩)] W λe W'=>(∃v,e= .returned v)/\
   ((∃ys,ys.map Subtype.val=hdP l l.length/\ J ys W')\/(∃pre,Jx pre W')):=by
 have hb0:W.cell? ⟨Bs,0,none⟩=some (.slice (some ⟨b,off,none⟩) l.length cap):=by simp[World.cell?,hBs]
 refine callsIn_of_wp Tryz.func214 rfl hf ?_ hro;simp only[Tryz.ntmps214,gi,aV,cQ,Nat.reduceAdd,Nat.reduceSub,kz,kA,mS,kW,aM,aQ]
 gi_wp2
 gi_loopw [10] (λi wr=>∃(k:Nat) (ys:List (PP2 l)),k<=l.length/\ i= .int .i64 k/\ ys.map Subtype.val=hdP l k/\ J ys wr/\ Kq n₀ W wr)
  (λi _=>l.length-(intOf i).toNat)
 case atStart=>exact⟨0,[],c6 _,rfl,rfl,h0,Kq.refl _ _⟩
 case round=>
  rename World=>wo
  obtain⟨k,ys,hk,rfl,hys,hJ1,hnx⟩:=hrel;by_cases hlt:k<l.length
  .obtain⟨p,hp⟩:∃p,l[k]?=some p:=⟨l[k],ah _⟩;have hc':=hc.below hnx.below;have f0:=hc'.c0 k p hp;have f1:=hc'.c1 k p hp;have f2:=hc'.c2 k p hp;have hz:=hnx.below.size;have hb1:=hnx.keep _ _ _ _ hBs (.inr rfl);have hb:wo.cell? ⟨Bs,0,none⟩=some (.slice (some ⟨b,off,none⟩) l.length cap):=by simp[World.cell?,hb1]
   have hBl:Bs<wo.heap.size:=(bz.1 hb1).1;have hne:¬Bs=wo.heap.size:=by omega
   have hne':¬wo.heap.size=Bs:=by omega
   have hK1:Kq n₀ W (wo.alloc (.cells #[.int .i64 p.id,.int .i64 p.a,.int .i64 p.b] 72)):=hnx.alloc (by omega) _;have hbx:(wo.alloc (.cells #[.int .i64 p.id,.int .i64 p.a,.int .i64 p.b] 72)).heap[wo.heap.size]?=some (.cells #[.int .i64 p.id,.int .i64 p.a,.int .i64 p.b] 72 (0,0)):=World.alloc_heap_new wo _;have hJ2:J ys (wo.alloc (.cells #[.int .i64 p.id,.int .i64 p.a,.int .i64 p.b] 72)):=hJ _ _ _ hJ1 (World.grownBy_alloc _ _ _);have next:hdP l (k+1)=hdP l k++(l.drop (k+1)).map λq=>(p,q):=by rw[JB,hp];rfl
   by_cases hcx:cap=k+1
   .have hl1:l.length=k+1:=by omega
    gi_wp2
    gi_loopw [21] (λi w1=>i= .int .i64 0/\ J ys w1/\ Kq n₀ W w1) (λ_ _=>0)
    case atStart=>exact⟨rfl,hJ2,hK1⟩
    case round=>
     obtain⟨rfl,hJ3,hK3⟩:=hrel
     gi_wp2
     go_roundw
     case rel=>exact⟨k+1,ys,by omega,by simp,by rw[next,hys,uv (by omega)];simp,hJ3,hK3⟩
     case measure=>simp[intOf];omega
   gi_wp2
   gi_loopw [21] (λi w1=>∃(m:Nat) (zs:List (PP2 l)),m<=l.length-(k+1)/\ i= .int .i64 m/\ zs.map Subtype.val=hdP l k++((l.drop (k+1)).take m).map (λq=>(p,q))/\ J zs w1/\ Kq n₀ W w1/\ w1.heap[wo.heap.size]?=some (.cells #[.int .i64 p.id,.int .i64 p.a,.int .i64 p.b] 72 (0,0)))
    (λi _=>l.length-(k+1)-(intOf i).toNat)
   case atStart=>exact⟨0,ys,c6 _,rfl,by simp[hys],hJ2,hK1,hbx⟩
   case round=>
    obtain⟨m,zs,hm,rfl,hzs,hJ3,hK3,hbx3⟩:=hrel;by_cases hlm:m<l.length-(k+1)
    .obtain⟨q,hq⟩:∃q,l[k+1+m]?=some q:=⟨l[k+1+m],ah _⟩;have hc3:=hc.below hK3.below;have g0:=hc3.c0 _ q hq;have g1:=hc3.c1 _ q hq;have g2:=hc3.c2 _ q hq;have e0:off+(k+1+m)*3=off+(k+1)*3+m*3:=by omega
     rw[e0] at g0 g1 g2;have hz3:=hK3.below.size;have hbl3:wo.heap.size<wr.heap.size:=(bz.1 hbx3).1;have b0:wr.cell? ⟨wo.heap.size,0,none⟩=some (.int .i64 p.id):=by simp[World.cell?,hbx3]
     have b1:wr.cell? ⟨wo.heap.size,1,none⟩=some (.int .i64 p.a):=by simp[World.cell?,hbx3]
     have b2:wr.cell? ⟨wo.heap.size,2,none⟩=some (.int .i64 p.b):=by simp[World.cell?,hbx3]
     have hlen:zs.length<5000:=by
      have e:=aW List.length hzs;have h1:=KQ l k;have h2:k*l.length<=64*64:=dS (by omega) hl;rw[ai,aD,ai,aP] at e;omega
     have hzs1:(zs++[(⟨(p,q),k,k+1+m,by omega,hp,hq⟩:PP2 l)]).map Subtype.val=hdP l k++((l.drop (k+1)).take (m+1)).map (λq=>(p,q)):=by
      have hx1:(l.drop (k+1)).take (m+1)=(l.drop (k+1)).take m++[q]:=by
       rw[cG,eG,hq];rfl
      rw[dT,hzs,hx1];simp
     have hK4:Kq n₀ W (wr.alloc (.cells #[.int .i64 q.id,.int .i64 q.a,.int .i64 q.b] 72)):=hK3.alloc (by omega) _;have hbx4:(wr.alloc (.cells #[.int .i64 q.id,.int .i64 q.a,.int .i64 q.b] 72)).heap[wo.heap.size]?=some (.cells #[.int .i64 p.id,.int .i64 p.a,.int .i64 p.b] 72 (0,0)):=(Below.heap_alloc _ _ _ hbl3).trans hbx3;obtain⟨fn,tmps,assign,body,hy,hR⟩:=hY zs ⟨(p,q),k,k+1+m,by omega,hp,hq⟩ (wr.alloc (.cells #[.int .i64 q.id,.int .i64 q.a,.int .i64 q.b] 72)) (hJ _ _ _ hJ3 (World.grownBy_alloc _ _ _)) hlen
     dsimp only[Nr,ik] at hy
     gi_wp2
     refine hR.mono ?_;rintro e W3 (⟨rfl,hJ5,hk5⟩|⟨rfl,hx⟩)
     .gi_wp2
      go_roundw
      case rel=>exact⟨m+1,_,by omega,by simp,hzs1,hJ5,hK4.trans hk5,hk5.keep _ _ _ _ hbx4 (.inl rfl)⟩
      case measure=>simp[intOf];omega
     .gi_wp2
      refine bodyPost_ret (results_none rfl _ _ _) rfl ?_;exact⟨⟨_,rfl⟩,.inr ⟨_,hx⟩⟩
    .have hme:m=l.length-(k+1):=by omega
     gi_wp2
     go_roundw
     case rel=>exact⟨k+1,zs,by omega,by simp,by rw[next,hzs,bj (by simp;omega)],hJ3,hK3⟩
     case measure=>simp[intOf];omega
  .obtain rfl:k=l.length:=by omega
   gi_wp2
   go_end0
   exact⟨⟨_,rfl⟩,.inl ⟨ys,hys,hJ1⟩⟩
set_option maxHeartbeats 1000000 in
def adm (F:Fence)(n:Nat)(hf:F.fn 214)(hro:F.round=none)(z Bs:Nat)(J:World->Prop)(W:World)(hBs:W.cell? ⟨Bs,0,none⟩=some (.slice none 0 0))(h0:J W):
  CallsIn F n Tryz.prog 214 #[.func (.yield z) #[] #[],.pointer (some ⟨Bs,0,none⟩)] W λe W'=>(∃v,e= .returned v)/\ J W':=by
 refine callsIn_of_wp Tryz.func214 rfl hf ?_ hro;simp only[Tryz.ntmps214,gi,aV,cQ,Nat.reduceAdd,Nat.reduceSub,kz,kA,mS,kW,aM,aQ]
 gi_wp2
 gi_loopw [10] (λi wr=>i= .int .i64 0/\ J wr) (λ_ _=>0)
 case atStart=>exact⟨rfl,h0⟩
 case round=>
  obtain⟨rfl,hJ⟩:=hrel
  gi_wp2
  go_end0
  exact⟨⟨_,rfl⟩,hJ⟩
def Ns (n₀:Nat)(W:World)(v:Value)(l:List Pt):Prop:=(v= .slice none 0 0/\ l=[])\/∃b off cap,v= .slice (some ⟨b,off,none⟩) l.length cap/\ l.length<=cap/\ RowAt n₀ W b off l
def TW (F:Fence)(n:Nat)(hf:F.fn 214)(hro:F.round=none)(hn:1<=n)(Bs n₀:Nat)(v:Value)(l:List Pt)(hl:l.length<=64)(w:World)(hn₀:n₀<=w.heap.size)(hBs:w.heap[Bs]?=some (.cells #[v] 24 (0,0)))(hv:Ns n₀ w v l):
  SeqStopsK F n Tryz.prog 214 #[.pointer (some ⟨Bs,0,none⟩)] (Nr (l:=l)) (Kq n₀) (λys=>ys.map Subtype.val=hdP l l.length) (λ_=>True) 5000 w:=λz J Jx W hW hJ _ hY h0=>by
 have hb:W.heap[Bs]?=some (.cells #[v] 24 (0,0)):=(hW.block Bs (bz.1 hBs).1).trans hBs;rcases hv with⟨rfl,rfl⟩|⟨b,off,cap,rfl,hcap,hr⟩
 .refine(adm F n hf hro z Bs (J []) W (by simp[World.cell?,hb]) h0).mono ?_;rintro e W' ⟨h1,h2⟩;exact⟨h1,.inl ⟨[],rfl,h2⟩⟩
 .refine(afl F n hf hro hn z Bs n₀ b off cap l hl hcap J Jx (λpre W W' h hg=>hJ pre W W' none h hg λr e=>by cases e) hY W (bw hn₀ hW.size) (0,0) hb (hr.below (hW.mono hn₀)) h0).mono ?_;rintro e W' ⟨h1,⟨ys,h2,h3⟩|⟨pre,h2⟩⟩
  .exact⟨h1,.inl ⟨ys,h2,h3⟩⟩
  .exact⟨h1,.inr ⟨pre,trivial,h2⟩⟩
open Go.Sort Go.Shelf
def afm {p q:Pt}(hp:p.ok=true)(hq:q.ok=true)(hi:p.id≠q.id)(hb:p.b=q.b):Ans D 117 [PP p,PP q] [R ⟨0,0⟩,.i64 6]:=by
 have ht:aS ⟨0,1⟩:=⟨⟨by decide,by decide⟩,⟨by decide,by decide⟩⟩;have h1:=phi (Lg (p:=p) (q:=q) ht);rw[lF hp hq (by decide) hi] at h1;refine am ?_;unfold Sn;simp[kH,bm,mU,xn,EV,h1,hb]
def aik (a b c:Int):Ans D 219 [.sl [[.i64 a],[.i64 b],[.i64 c]]] [.i64 (if a=0 then(if b=0 then c else b) else a)]:=by
 refine an ⟨4,?_⟩;unfold Su;have w0:IntKind.i64.wrap (0+1)=1:=by decide
 have w1:IntKind.i64.wrap (1+1)=2:=by decide
 have e0:RF.ev (.tix 1) [.sl [[.i64 a],[.i64 b],[.i64 c]],.v (.int .i64 0)]=some (.i64 0):=rfl;have e1:RF.ev (.tix 1) [.sl [[.i64 a],[.i64 b],[.i64 c]],.v (.int .i64 1)]=some (.i64 1):=rfl;have e2:RF.ev (.tix 1) [.sl [[.i64 a],[.i64 b],[.i64 c]],.v (.int .i64 2)]=some (.i64 2):=rfl;have g0:RF.ev (.elt 0 0) [.sl [[.i64 a],[.i64 b],[.i64 c]],.v (.int .i64 0)]=some (.i64 a):=rfl;have g1:RF.ev (.elt 0 0) [.sl [[.i64 a],[.i64 b],[.i64 c]],.v (.int .i64 1)]=some (.i64 b):=rfl;have g2:RF.ev (.elt 0 0) [.sl [[.i64 a],[.i64 b],[.i64 c]],.v (.int .i64 2)]=some (.i64 c):=rfl;have h2:([[PV.i64 a],[PV.i64 b],[PV.i64 c]].length:Int)=3:=rfl;have w2:IntKind.i64.wrap (2+1)=3:=by decide
 simp only[EV,bB,GZ,G0,e0,e1,e2,g0,g1,g2,w0,w1,w2,aV,cQ];by_cases ha:a=0
 .by_cases hb:b=0
  .by_cases hc:c=0<;>simp[ha,hb,hc]
  .simp[ha,hb]
 .simp[ha]
def Df (x y:Mt):Int:=if sgn (crs x.time y.time)=0 then(if sgn (x.i-y.i)=0 then sgn (x.j-y.j) else sgn (x.i-y.i)) else sgn (crs x.time y.time)
def WW (x y:Mt):decide (Df x y<0)=ltM x y:=by
 unfold Df ltM sgn
 grind
def MP (m:Mt):PV:= .agg (jU m)
def adn (m:Mt):RF.ev (.shape 4) [MP m]=some (MP m):=rfl
def pMt (m:Mt):RF.ev (.part 0 2) [MP m]=some (R m.time):=rfl
def ail (m:Mt):RF.ev (.cell 2) [MP m]=some (.i64 m.i):=rfl
def aim (m:Mt):RF.ev (.cell 3) [MP m]=some (.i64 m.j):=rfl
def TX {a b:Rt}(ha:aS a)(hb:aS b)(ra:rok a=true)(rb:rok b=true):Ans D 115 [R a,R b] [.i64 (sgn (crs a b))]:=by
 have m:=phi (qB ha hb);rw[ra,rb,ad (by rfl)] at m;refine am ?_;unfold ZA;simp[EV,bm,m]
def ain {x y:Mt}(hx:rok x.time=true/\ aS x.time)(hy:rok y.time=true/\ aS y.time):Ans D 119 [MP x,MP y] [.i64 (Df x y)]:=by
 have m1:=phi (TX hx.2 hy.2 hx.1 hy.1);have b3:RF.ev (.bs 3 [KP.z] [0,1,2]) [.i64 (sgn (crs x.time y.time)),.i64 (sgn (x.i-y.i)),.i64 (sgn (x.j-y.j))]=some (.sl [[.i64 (sgn (crs x.time y.time))],[.i64 (sgn (x.i-y.i))],[.i64 (sgn (x.j-y.j))]]):=rfl;have s3:RF.ev .sub [.sl [[.i64 (sgn (crs x.time y.time))],[.i64 (sgn (x.i-y.i))],[.i64 (sgn (x.j-y.j))]],.v (.int .i64 0),.v (.int .i64 3)]=some (.sl [[.i64 (sgn (crs x.time y.time))],[.i64 (sgn (x.i-y.i))],[.i64 (sgn (x.j-y.j))]]):=rfl;refine am ?_;unfold ZB Df;simp only[ay,adn,pMt,m1,ail,aim,EV,phi (vE _ _),b3,s3,phi (aik _ _ _)]
def S0 (g:Nat):Bool:=Jg [95,115,117,119,166,192,193,213,215,216,219,220,244,278,279,280,281,299,310,328,360,362,363,395,421] g
def ado:(tab.all λe=>!S0 e.1||fb S0 e.2)=true:=by kernel_rfl
def fh {α:Type}:∀{l:List (Nat×α)} {g:Nat} {a:α},Go.Sym.look l g=some a->(g,a)∈l
 |[],_,_,h=>by cases h
 |(x,b)::l,g,a,h=>by
  rw[d7] at h;split at h
  .rename_i e;subst e;cases h;exact bQ ..
  .exact aO _ (fh h)
def adp (g:Nat)(k:K)(hg:S0 g=true)(h:D.T g=some k):fb S0 k=true:=by
 have:=aU.1 ado _ (fh h);simpa [hg] using this
def D1:Dt:={D with X:=λ_ _=>none,loud:=false}
def aio:DtOk D1 where
 T:=λg k h=>Nu.ok g k h
 X:=λg vs rs _ h=>by cases h
 fol:=by kernel_rfl
def JC:∀{l:List Nat} {g:Nat},Jg l g=true->g∈l
 |[],_,h=>by cases h
 |x::l,g,h=>by
  unfold Jg at h;cases e:Nat.beq x g with
  |true=>rw[bg e];exact bQ ..
  |false=>rw[e] at h;exact aO _ (JC h)
def noX:∀g,S0 g=true->D.X g=λ_=>none:=λg hg=>by
 have h:=JC hg;simp only[bf,List.not_mem_nil,or_false] at h;rcases h with rfl|rfl|rfl|rfl|rfl|rfl|rfl|rfl|rfl|rfl|rfl|rfl|rfl|rfl|rfl|rfl|rfl|rfl|rfl|rfl|rfl|rfl|rfl|rfl|rfl<;>(funext vs;rfl)
def inW {g:FuncId}{vs rs:List PV}(hg:S0 g=true)(h:Ans D g vs rs):iP D1.toDcf g vs rs:=
 Vo aio (TK false (TJ (S:=S0) noX adp hg h))
def ur (t:Rt):List PV:=[.i64 t.num,.i64 t.den]
def Ar (t:Rt):(ur t).length=2:=rfl
def Vy (t:Rt):cB 0 2 (ur t)=some (R t):=rfl
def oU (l:List Pt)(a b:Rt):Int:=if gn l≠0 then gn l else if(rok a&& rok b)=true then(if 0<crs a b then 2 else 0) else 8
def aip {l:List Pt}{a b:Rt}(ha:aS a)(hb:aS b):Ans D 47 [F l,sl ur [a,b]] [.i64 (oU l a b)]:=by
 have m1:=phi (tR l);refine an ⟨4,?_⟩;unfold YV;simp only[ay,bv,m1,EV,ai];unfold oU;by_cases h:gn l=0
 rotate_left
 .simp[h]
 .simp only[h,aA,aJ,aw,ax,eZ,cy];have I:∀t∈[a,b],aS t:=by simp[ha,hb]
  refine(cD (l:=[a,b]) (p:=rok) (st:=λi=>[.i64 (i:Int)]) (r:=some [.i64 8]) (fin:=some [.i64 (if 0<crs a b then 2 else 0)]) (λi t self ht _=>?_) (λhg self=>?_) (by simp)).trans ?_
  .have hi:=aL ht;unfold F4;simp only[ay,aQ,aM,aX ht (Ar t),aN ht,Vy,EV,aa,ai,bh hi,phi (c43 (I t (au ht))),up1 (show i<1000000000 by simp at hi;omega)]
   cases rok t<;>rfl
  .have g1:rok a=true:=aU.1 hg a (by simp);have g2:rok b=true:=aU.1 hg b (by simp);have m2:=phi (TX ha hb g1 g2);have q0:=aX (f:=ur) (l:=[a,b]) (i:=0) rfl (Ar a);have q1:=aX (f:=ur) (l:=[a,b]) (i:=1) rfl (Ar b);have e0:=aN (f:=ur) (l:=[a,b]) (i:=0) (o:=0) (n:=2) rfl;have e1:=aN (f:=ur) (l:=[a,b]) (i:=1) (o:=0) (n:=2) rfl;unfold F4;simp only[ay,aQ,aM,EV,aa,bP,ai,Og,aV,cQ];have n0:(((0:Nat):Int))=0:=rfl;have n1:(((1:Nat):Int))=1:=rfl;rw[n0] at q0 e0;rw[n1] at q1 e1;simp only[ay,q0,q1,e0,e1,Vy,m2,EV,Of];by_cases hc:0<crs a b
   .rw[ad hc];have:=rA.2 hc;simp[EV,this]
   .rw[ac hc];have:¬0<sgn (crs a b):=λh=>hc (rA.1 h);simp[EV,this]
  .simp only[dI,yC,kJ];split<;>rfl
def wY (m:Mt):(jU m).length=4:=rfl
def Vz (m:Mt):cB 0 4 (jU m)=some (MP m):=rfl
def afn (m:Mt):cB 0 2 (jU m)=some (R m.time):=rfl
def aiq {m:Mt}{t:Rt}(hm:rok m.time=true/\ aS m.time)(ht:aS t)(hr:rok t=true):Ans D 121 [MP m,R t] [.i64 (if 0<crs m.time t then 1 else-1)]:=by
 have m1:=phi (TX hm.2 ht hm.1 hr);refine am ?_;unfold ZC;simp only[ay,adn,bm,pMt,m1,EV];by_cases hc:0<crs m.time t
 .have:=rA.2 hc;simp[hc,this]
 .have:¬0<sgn (crs m.time t):=λh=>hc (rA.1 h);simp[hc,this]
def Dg {α:Type}{p:α->Bool}{N:Nat}{f:JT}{K0:K}{e:List PV}{l:List α}(hs:∀(i j:Nat) (a b:α),i<j->l[i]?=some a->l[j]?=some b->p b=true->p a=true)
  (key:∀(i j:Nat) (a:α) (self:JT),i<j->j<=l.length->l[(i+j)/2]?=some a->den (bK D) N K0 ([f]++[self]) (e++[.i64 (i:Int),.i64 (j:Int)])=if p a=true then self [.i64 (((i+j)/2+1:Nat):Int),.i64 (j:Int)] else self [.i64 (i:Int),.i64 (((i+j)/2:Nat):Int)])
  (out:∀(i j:Nat) (self:JT),¬i<j->den (bK D) N K0 ([f]++[self]) (e++[.i64 (i:Int),.i64 (j:Int)])=f [.i64 (i:Int)]):∀(m i j:Nat),j-i<m->i<=j->j<=l.length->(∀(k:Nat) (a:α),l[k]?=some a->(k<i->p a=true)/\(j<=k->p a=false))->
  ∃P,(P<=l.length/\∀(k:Nat) (a:α),l[k]?=some a->(k<P->p a=true)/\(P<=k->p a=false))/\ dY (bK D) N K0 [f] e m [.i64 (i:Int),.i64 (j:Int)]=f [.i64 (P:Int)]
 |0,i,j,h,_,_,_=>by omega
 |m+1,i,j,h,hij,hj,hb=>by
  rw[bB];by_cases hlt:i<j
  .obtain⟨a,ha⟩:∃a,l[(i+j)/2]?=some a:=⟨l[(i+j)/2]'(by omega),ah _⟩;rw[key i j a _ hlt hj ha];by_cases c:p a=true
   .rw[ad c];refine Dg hs key out m _ j (by omega) (by omega) hj λk q hq=>⟨λhk=>?_,(hb k q hq).2⟩;by_cases e:k=(i+j)/2
    .subst e;rw[ha] at hq;cases hq;exact c
    .exact hs k _ q a (by omega) hq ha c
   .rw[ac c];refine Dg hs key out m i _ (by omega) (by omega) (by omega) λk q hq=>⟨(hb k q hq).1,λhk=>?_⟩;by_cases e:k=(i+j)/2
    .subst e;rw[ha] at hq;cases hq;simpa using c
    .cases hp:p q with
     |false=>rfl
     |true=>exact absurd (hs _ k a q (by omega) ha hq hp) c
  .exact⟨i,⟨by omega,λk a ha=>⟨(hb k a ha).1,λh=>(hb k a ha).2 (by omega)⟩⟩,out i j _ hlt⟩
def yz {α:Type}{p:α->Bool}:∀{l:List α} {P:Nat},P<=l.length->(∀(k:Nat) (a:α),l[k]?=some a->(k<P->p a=true)/\(P<=k->p a=false))->P=l.countP p
 |[],P,h,_=>by simp at h;simp[h]
 |a::l,P,h,hb=>by
  have h0:=hb 0 a rfl;rw[cz];cases P with
  |zero=>
   rw[ac (by rw[h0.2 (aB _)];simp)];have:=yz (p:=p) (l:=l) (P:=0) (c6 _) λk x hx=>⟨λh=>by omega,λ_=>(hb (k+1) x hx).2 (by omega)⟩;omega
  |succ P=>
   rw[ad (h0.1 (by omega))];have:=yz (p:=p) (l:=l) (P:=P) (by simpa using h) λk x hx=>⟨λh=>(hb (k+1) x hx).1 (by omega),λh=>(hb (k+1) x hx).2 (by omega)⟩
   omega
def er (t:Rt)(m:Mt):Bool:=decide (crs m.time t<=0)
def Srt (l:List Mt):Prop:=∀(i j:Nat) (x y:Mt),i<j->l[i]?=some x->l[j]?=some y->crs x.time y.time<=0
def As {l:List Mt}{t:Rt}(hs:Srt l)(hk:∀m∈l,rok m.time=true/\ aS m.time)(hr:rok t=true):∀(i j:Nat) (a b:Mt),i<j->l[i]?=some a->l[j]?=some b->er t b=true->er t a=true:=λi j a b hij ha hb h=>by
 unfold er at h|-;exact aq (FS (hk a (au ha)).1 (hk b (au hb)).1 hr (hs i j a b hij ha hb) (aT h))
def adq {l:List Mt}{t:Rt}(hs:Srt l)(hk:∀m∈l,rok m.time=true/\ aS m.time)(hn:l.length<=5000)(ht:aS t)(hr:rok t=true):Ans D 49 [sl jU l,R t] [.i64 ((l.countP (er t):Nat):Int)]:=by
 refine an ⟨5001,?_⟩;unfold YW;simp only[ay,bm,EV,ai];have call:=λ(m:Mt) (hm:m∈l)=>phi (aiq (hk m hm) ht hr);obtain⟨P,⟨h1,h2⟩,h3⟩:=Dg (p:=er t) (N:=5001) (f:=pC (bK D) 5001 F5 [] [sl jU l,R t,R t,.i64 (l.length:Int)]) (K0:=AZ) (e:=[sl jU l,R t,R t,.i64 (l.length:Int)]) (l:=l) (As hs hk hr) (λi j m self hij hj hm=>by
  unfold AZ;simp only[aQ,aM,EV,aa,bh hij,Ll (show i<1000000 by omega) (show j<1000000 by omega),cM (show-9223372036854775808<=(((i+j)/2:Nat):Int) by omega) (by omega),ay,aX hm (wY m),aN hm,Vz,call m (au hm),Oi,up1 (show(i+j)/2<1000000000 by omega)]
  unfold er;by_cases c:0<crs m.time t
  .simp[c,show¬crs m.time t<=0 by omega]
  .simp[c,show crs m.time t<=0 by omega]) (λi j self hij=>by
  unfold AZ;simp only[aQ,aM,EV,aa,ac (show¬(i:Int)<(j:Int) by omega)]) 5001 0 l.length (by omega) (c6 _) (aB _) (λk a ha=>⟨λh=>by omega,λh=>by have:=aL ha;omega⟩)
 have e:=yz h1 h2;have n0:(((0:Nat):Int))=0:=rfl;rw[n0] at h3;rw[h3];subst e;show den _ _ _ _ _=_
 unfold F5;simp only[aQ,aM,EV,aa,ay,Oh];by_cases c:l.countP (er t)<l.length
 .obtain⟨m,hm⟩:∃m,l[l.countP (er t)]?=some m:=⟨l[l.countP (er t)],ah _⟩;rw[ad (by omega)];simp only[aX hm (wY m),aN hm,Vz,call m (au hm),EV,ay]
 .rw[ac (by omega)]
open Go.Shelf Go.RowKit Go.Lib Go.Sort
def JD {w w':World}(h:Frm w.heap.size (D1.lf none w) w w'):∃q os,w'=Go.Sort.grow (w.drewN q) os:=by
 have hl:∀B,¬D1.lf none w B:=λB h=>h.elim (λ⟨_,h⟩=>by cases h) λh=>by cases h.1
 obtain⟨h1,h2,h3,h4,h5,h6⟩:=h;have h6:=h6 (hl _);refine⟨w'.drawn-w.drawn,w'.heap.extract w.heap.size w'.heap.size,?_⟩;have hh:w'.heap=w.heap++w'.heap.extract w.heap.size w'.heap.size:=by
  apply Array.ext_getElem?;intro k;by_cases hk:k<w.heap.size
  .rw[qI hk];exact h5 k hk (hl _)
  .rw[Array.getElem?_append_right (by omega),Array.getElem?_extract];by_cases hk2:k<w'.heap.size
   .rw[ad (by omega)]
    congr 1
    omega
   .rw[ac (by omega),ut (by omega)]
 cases w';cases w;simp only at h1 h2 h3 h6 hh;subst h1 h2 h3;unfold Go.Sort.grow World.drewN;simp only at*;rw[<-hh]
 congr 1
 omega
def lR {w:World}{S:Nat->Prop}{v:Value}{k:IntKind}{n:Int}(h:RT w S v (.v (.int k n))):v= .int k n:=by
 cases h with
 |v h=>rfl
def jw (m:Mt):List Value:=[.int .i64 m.time.num,.int .i64 m.time.den,.int .i64 m.i,.int .i64 m.j]
def VA {w:World}{S:Nat->Prop}(m:Mt):RT w S (.agg (jw m).toArray) (MP m):= .agg (.cons (.v rfl) (.cons (.v rfl) (.cons (.v rfl) (.cons (.v rfl) .nil)))) rfl
def Rf {w:World}{S:Nat->Prop}(p:Pt):RT w S (.agg (ik p).toArray) (PP p):= .agg (.cons (.v rfl) (.cons (.v rfl) (.cons (.v rfl) .nil))) rfl
def afo {x y:Mt}(hx:rok x.time=true/\ aS x.time)(hy:rok y.time=true/\ aS y.time)(w:World):
  Calls Tryz.prog 119 #[.agg (jw x).toArray,.agg (jw y).toArray] w λe w'=>e= .returned (.int .i64 (Df x y))/\∃q os,w'=Go.Sort.grow (w.drewN q) os:=by
 obtain⟨fn,h1,_,_,_,h5⟩:=(inW (by decide) (ain hx hy)).plain (by kernel_rfl);have hf:D1.toDcf.P.funcs[119]?=some Tryz.f119:=Tryz.func119;rw[hf] at h1;cases h1;refine(h5 w (λ_=>False) _ (.cons (VA x) (.cons (VA y) .nil)) (λ_ h=>h.elim)).mono ?_;rintro e w' ⟨u,S',us,Bs,rfl,a⟩;have hr:=a.rr;have hs:D1.toDcf.slots 119=[]:=by kernel_rfl
 rw[show Tryz.f119.resultTypes.toList=[3] from rfl,hs] at hr
 have a3:bT D1.toDcf.P 3=some false:=by kernel_rfl
 cases hr with
 |cons hr ht=>
  cases ht;unfold RR at hr;rw[a3] at hr;rcases hr with⟨_,_,h,_⟩|h
  .have e:=lR h;subst e;have:=a.u;exact⟨by rw[this];rfl,JD a.fr⟩
  .cases h
def metR (p q:Pt):Rt×Int:=if p.b=q.b then(⟨0,0⟩,6) else((fR p q).time,0)
def afp {p q:Pt}(hp:p.ok=true)(hq:q.ok=true)(hi:p.id≠q.id):Ans D 117 [PP p,PP q] [R (metR p q).1,.i64 (metR p q).2]:=by
 unfold metR;by_cases hb:p.b=q.b
 .rw[ad hb];exact afm hp hq hi hb
 .rw[ac hb];exact Xt hp hq hi hb
def afq {p q:Pt}(hp:p.ok=true)(hq:q.ok=true)(hi:p.id≠q.id)(w:World):
  Calls Tryz.prog 117 #[.agg (ik p).toArray,.agg (ik q).toArray] w λe w'=>e= .returned (.tuple #[.agg #[.int .i64 (metR p q).1.num,.int .i64 (metR p q).1.den],.int .i64 (metR p q).2])/\∃n os,w'=Go.Sort.grow (w.drewN n) os:=by
 obtain⟨fn,h1,_,_,_,h5⟩:=(inW (by decide) (afp hp hq hi)).plain (by kernel_rfl);have hf:D1.toDcf.P.funcs[117]?=some Tryz.f117:=Tryz.func117;rw[hf] at h1;cases h1;refine(h5 w (λ_=>False) _ (.cons (Rf p) (.cons (Rf q) .nil)) (λ_ h=>h.elim)).mono ?_;rintro e w' ⟨u,S',us,Bs,rfl,a⟩;have hr:=a.rr;have hs:D1.toDcf.slots 117=[]:=by kernel_rfl
 rw[show Tryz.f117.resultTypes.toList=[26,27] from rfl,hs] at hr
 have a26:bT D1.toDcf.P 26=some true:=by kernel_rfl
 have a27:bT D1.toDcf.P 27=some false:=by kernel_rfl
 generalize metR p q=z at hr|-;cases hr with
 |cons hr h2=>
  cases h2 with
  |cons h2 h3=>
   cases h3;unfold RR at hr h2;rw[a26] at hr;rw[a27] at h2;obtain⟨b,cs,rfl,e,_,hr⟩:=hr;cases e;rcases hr with⟨_,_,hr⟩|hr
   .rcases h2 with⟨_,_,h2,_⟩|h2
    .have e2:=lR h2;subst e2;obtain⟨b⟩:=b;cases hr with
     |cons q1 hr=>
      cases hr with
      |cons q2 hr=>
       cases hr;have e3:=lR q1;have e4:=lR q2;subst e3 e4;have:=a.u;exact⟨by rw[this];rfl,JD a.fr⟩
    .cases h2
   .obtain⟨b⟩:=b;simp only at hr;cases hr
def MOk (m:Mt):Prop:=rok m.time=true/\ aS m.time
def ltM_iff {x y:Mt}:ltM x y=true↔crs x.time y.time<0\/crs x.time y.time=0/\(x.i<y.i\/x.i=y.i/\ x.j<y.j):=by
 unfold ltM;simp
def KR (x:Mt):ltM x x=false:=by
 rw[mQ];intro h;have z:crs x.time x.time=0:=by unfold crs;omega
 rcases ltM_iff.1 h with h|⟨_,h|⟨_,h⟩⟩<;>omega
def Ca {x y z:Mt}(hx:MOk x)(hy:MOk y)(hz:MOk z)(h:ltM x y=true)(k:ltM y z=true):ltM x z=true:=by
 have d1:=dA hx.1;have d2:=dA hy.1;have d3:=dA hz.1;obtain⟨c1,c2⟩:=om (a:=x.time) (b:=y.time) (c:=z.time) (by omega) (by omega) (by omega) (by rcases ltM_iff.1 h with h|h<;>omega) (by rcases ltM_iff.1 k with h|h<;>omega)
 refine ltM_iff.2 ?_;by_cases e:crs x.time z.time=0
 .right
  obtain⟨e1,e2⟩:=c2 e;refine⟨e,?_⟩;rcases ltM_iff.1 h with h|⟨_,h⟩<;>rcases ltM_iff.1 k with k|⟨_,k⟩<;>omega
 .left;omega
def KS {x y:Mt}(hx:MOk x)(hy:MOk y)(h:ltM x y=false)(k:ltM y x=false):x=y:=by
 have h:¬ltM x y=true:=by simp[h]
 have k:¬ltM y x=true:=by simp[k]
 rw[ltM_iff] at h k;have n:=eR x.time y.time;have e:=vn hx.1 hy.1 (by omega);obtain⟨a,b,c⟩:=x;obtain⟨a',b',c'⟩:=y;simp only at e h k n;subst e;have z:crs a a=0:=by unfold crs;omega
 have:b=b'/\ c=c':=by omega
 rw[this.1,this.2]
def At {α:Type}{z:Nat}(hz:0<z)(f:α->List Value)(hf:∀x,(f x).length=z):∀(l:List α) (i j:Nat),j<z->(l.flatMap f)[i*z+j]?=(l[i]?).bind λx=>(f x)[j]?
 |[],i,j,_=>by simp
 |a::l,0,j,hj=>by
  rw[dc,aG (by rw[hf];omega)];simp
 |a::l,i+1,j,hj=>by
  have e:(i+1)*z+j=z+(i*z+j):=by rw[b8];omega
  rw[e,dc,bG (by rw[hf];omega),hf,s8,At hz f hf l i j hj];rfl
def Rg {α:Type}{z:Nat}(f:α->List Value)(hf:∀x,(f x).length=z)(l:List α):(l.flatMap f).length=l.length*z:=by
 induction l with
 |nil=>simp
 |cons a l ih=>rw[dc,aD,hf,ih,aV,b8];omega
def Cb {α:Type}[Inhabited α]{z:Nat}(hz:0<z)(f:α->List Value)(hf:∀x,(f x).length=z)(d:Array α):(flatK f z d).toList=d.toList.flatMap f:=by
 apply cZ;intro n;by_cases hn:n<d.size*z
 .have h1:(flatK f z d).toList[n]?=some (flatK f z d)[n]!:=by
   rw[bL,du (by simpa using hn),iT _ n (by simpa using hn)]
  rw[h1,get_flatK f z d n hn];have e:n=n/z*z+n% z:=by have:=Nat.div_add_mod n z;rw[sW] at this;omega
  have hi:n/z<d.size:=Nat.div_lt_of_lt_mul (by rw[sW];exact hn);have hj0:n% z<z:=xc _ hz
  conv=>rhs;rw[e,At hz f hf d.toList (n/z) (n% z) hj0]
  rw[bL,du hi,iT d (n/z) hi];show _=(f (d[n/z]'hi))[n% z]?
  have hj:n% z<(f (d[n/z]'hi)).length:=by rw[hf];exact hj0
  rw[ah hj,iT (f (d[n/z]'hi)) (n% z) hj]
 .rw[bD (by rw[dq,size_flatK];omega),bD (by rw[Rg f hf,dq];omega)]
def Ej (F arr:Array Value)(h:F.size<=arr.size):(putCells id 0 F arr).toList.take F.size=F.toList:=by
 apply cZ;intro k;by_cases hk:k<F.size
 .rw[cH hk,bL];unfold putCells;rw[vp,du (by omega)];simp[hk]
 .rw[bD (by simp;omega),bD (by simp;omega)]
def WX {α:Type}[Inhabited α]{z:Nat}(hz0:0<z){enc:α->List Value}(he:∀x,(enc x).length=z){w:World}{B n:Nat}{dm:Array α}{os:Array Obj}{arr:Array Value}(hrow:Row w B arr)(hB:B<w.heap.size)(hs:dm.size*z<=arr.size):
  ∃arr',Row (sortWorldK enc z w B 0 n dm os) B arr'/\ arr'.size=arr.size/\ arr'.toList.take (dm.size*z)=dm.toList.flatMap enc:=by
 obtain⟨ty,fz,hg,hun⟩:=hrow;have hz:(putCells id 0 (flatK enc z dm) arr).size=arr.size:=by simp[putCells]
 refine⟨putCells id 0 (flatK enc z dm) arr,⟨ty,fz,?_,by rw[hz];exact hun⟩,hz,?_⟩
 .unfold sortWorldK;rw[heap_grow_old _ _ (by rw[size_putRowK];exact hB)];show(w.heap.modify B _)[B]?=_
  rw[fS,ad rfl,hg];rfl
 .have:=Ej (flatK enc z dm) arr (by rw[size_flatK];exact hs);rw[size_flatK,Cb hz0 enc he] at this;exact this
def Rh {α:Type}[Inhabited α]{z:Nat}(enc:α->List Value)(w:World)(B n:Nat)(dm:Array α)(os:Array Obj){n₀:Nat}(hn:n₀<=w.heap.size)(hB:n₀<=B):Below n₀ w (sortWorldK enc z w B 0 n dm os):=by
 refine⟨rfl,rfl,rfl,?_,λk h1=>?_⟩
 .unfold sortWorldK;rw[size_grow,size_putRowK];show w.heap.size<=w.heap.size+_
  omega
 .unfold sortWorldK;rw[heap_grow_old _ _ (by rw[size_putRowK];show k<w.heap.size;omega)]
  show(w.heap.modify B _)[k]?=_
  rw[fS,ac (by omega)]
def Ri {α:Type}[Inhabited α]{z:Nat}(enc:α->List Value)(w:World)(B n:Nat)(dm:Array α)(os:Array Obj){k:Nat}(hk:k<w.heap.size)(hB:k≠B):(sortWorldK enc z w B 0 n dm os).heap[k]?=w.heap[k]?:=by
 unfold sortWorldK;rw[heap_grow_old _ _ (by rw[size_putRowK];exact hk)];show(w.heap.modify B _)[k]?=_
 rw[fS,ac (λe=>hB e.symm)]
def WY {ms:List Mt}(hv:∀m∈ms,MOk m)(hne:ms≠[])(hlen:ms.length<=5000){w:World}{B cap:Nat}{arr:Array Value}(hrow:Row w B arr)(hB:B<w.heap.size)(hcap:ms.length<=cap)(hsz:cap*4<=arr.size)(hcells:arr.toList.take (ms.length*4)=ms.flatMap jw):
  Calls Tryz.prog 118 #[.slice (some ⟨B,0,none⟩) ms.length cap,.func (.func 119) #[] #[]] w λe w'=>e= .returned (.tuple #[])/\(∃arr',Row w' B arr'/\ cap*4<=arr'.size/\ arr'.toList.take (ms.length*4)=(ms.mergeSort λx y=>!ltM y x).flatMap jw)/\(∀n₀,n₀<=w.heap.size->n₀<=B->Below n₀ w w')/\∀k,k<w.heap.size->k≠B->w'.heap[k]?=w.heap[k]?:=by
 obtain⟨ty,fz,hg,hun⟩:=hrow;obtain⟨p0,hp0⟩:∃p,p∈ms:=rz ms hne
 let α:={p:Mt//p∈ms}
 haveI:Inhabited α:=⟨⟨p0,hp0⟩⟩
 let enc:α->List Value:=λx=>jw x.1
 let cf:α->α->Int:=λx y=>Df x.1 y.1
 have hlt:∀x y:α,ltOf cf x y=ltM x.1 y.1:=λx y=>WW x.1 y.1;have tot:∀x y:α,ltM x.1 y.1=false->ltM y.1 x.1=false->x=y:=λx y a c=>Subtype.ext (KS (hv _ x.2) (hv _ y.2) a c);have hO:SWO (ltOf cf):=⟨λx=>by rw[hlt];exact KR _,λx y z a c=>by rw[hlt] at*;exact Ca (hv _ x.2) (hv _ y.2) (hv _ z.2) a c,λx y z a c=>by
  rw[hlt] at*;cases e:ltM x.1 z.1 with
  |false=>rfl
  |true=>
   cases e1:ltM y.1 x.1 with
   |false=>rw[tot x y a e1,c] at e;cases e
   |true=>rw[Ca (hv _ y.2) (hv _ x.2) (hv _ z.2) e1 e] at c;cases c⟩
 have hT:∀x y,ltOf cf x y=false->ltOf cf y x=false->x=y:=λx y a c=>by
  rw[hlt] at a c;exact tot x y a c
 let d:Array α:=ms.attach.toArray
 have hd:d.size=ms.length:=by rw[show d.size=ms.attach.length from gi ..,List.length_attach]
 have hdl:d.toList.map Subtype.val=ms:=by simp[d]
 have hfl:(flatK enc 4 d).toList=ms.flatMap jw:=by
  rw[Cb (by decide) enc (λ_=>rfl) d]
  conv=>rhs;rw[<-hdl,sQ]
 have hBig:ms.length*4<=arr.size:=by omega
 have hH:HoldsK enc 4 w B 0 d:=λj hj=>by
  rw[size_flatK,hd] at hj;have hj':j<(flatK enc 4 d).size:=by rw[size_flatK,hd];exact hj
  have e1:(flatK enc 4 d).toList[j]?=some (flatK enc 4 d)[j]!:=by
   rw[bL,du hj',iT _ j hj']
  rw[hfl,<-hcells,cH hj] at e1;refine⟨?_,?_⟩
  .simp only[World.cell?,hg,cp];rw[<-bL,e1];rfl
  .have:=hun j (by omega);simp only[World.frozen?,hg,cp];simpa using this
 have hcmp:CmpLays Tryz.prog 119 #[] enc 4 cf B 0 d.size w:=λm os dk hs x y=>afo (hv _ x.2) (hv _ y.2) _;have key:=AnyQ.slices_SortFunc_total Vv 4 Tryz.isAgg41 Tryz.sizeOf41 enc (λ_=>rfl) (λx v hv=>by simp[enc,jw] at hv;rcases hv with rfl|rfl|rfl|rfl<;>rfl) cf hO 119 #[] B 0 cap d w (enters_of Tryz.func119 (by kernel_rfl) rfl) hcmp hH hB (by rw[hd];omega) hT
 rw[hd] at key;refine Calls.mono (show Calls Tryz.prog 118 _ _ _ from key) ?_
 rintro e w' ⟨rfl,n,os,rfl⟩;refine⟨rfl,?_,λn₀ h1 h2=>Rh enc w B n _ os h1 h2,λk h1 h2=>Ri enc w B n _ os h1 h2⟩;have hdm:(d.toList.mergeSort λx y=>!(ltOf cf) y x).toArray.size=ms.length:=by
  rw[gi,hG,dq,hd]
 obtain⟨arr',r1,r2,r3⟩:=WX (z:=4) (by decide) (enc:=enc) (λ_=>rfl) (n:=n) (os:=os) (dm:=(d.toList.mergeSort λx y=>!(ltOf cf) y x).toArray) (⟨ty,fz,hg,hun⟩:Row w B arr) hB (by rw[hdm];exact hBig);refine⟨arr',r1,by omega,?_⟩;rw[hdm] at r3;rw[r3];have hm:(d.toList.mergeSort λx y=>!(ltOf cf) y x).map Subtype.val=ms.mergeSort λx y=>!ltM y x:=by
  rw[List.map_mergeSort (s:=λp q=>!ltM q p) (λx _ y _=>by rw[hlt]),hdl]
 rw[<-hm,sQ]
def Ee (p:Option Addr)(cap:Nat)(fv:Value)(w:World):Calls Tryz.prog 118 #[.slice p 0 cap,fv] w λe w'=>e= .returned (.tuple #[])/\ w'=w:=AnyF.slices_SortFunc_none Vv p cap fv w
def air {l:List Pt}(h:okF l):Ans D 48 [F l] [sl jU (srtM l)]:=by
 have h0:D.T 48=none:=by kernel_rfl
 refine Vn h0 ?_;show ym [F l]=some [sl jU (srtM l)]
 exact WM h
def Dh {l:List Pt}(h:okF l):(rawM l).length<=5000:=by
 have h1:=v8 l;have h0:=h.1;have h2:l.length*(l.length-1)<=64*64:=dS h0 (by omega);omega
def KU (l:List Pt):(srtM l).length=(rawM l).length:=hG _
def KV {l:List Pt}{m:Mt}:m∈srtM l↔m∈rawM l:=(k9 _ _).mem_iff
def mz {l:List Pt}(h:okF l):∀m∈srtM l,rok m.time=true/\ aS m.time:=λm hm=>se h (KV.1 hm)
def Rj {l:List Pt}(f:Mt->Bool):(srtM l).countP f=(rawM l).countP f:=(k9 _ _).countP_eq f
def lt_of {x y:Mt}(h:ltM y x=false):crs x.time y.time<=0:=by
 have h:¬ltM y x=true:=by simp[h]
 rw[ltM_iff] at h;have n:=eR x.time y.time;omega
def rL {l:List Pt}(h:okF l):Srt (srtM l):=by
 let α:={m:Mt//m∈rawM l}
 have ok:∀x:α,MOk x.1:=λx=>se h x.2;have hm:((rawM l).attach.mergeSort λx y=>!ltM y.1 x.1).map Subtype.val=srtM l:=by
  unfold srtM;rw[List.map_mergeSort (s:=λp q=>!ltM q p) (λx _ y _=>rfl),List.attach_map_subtype_val]
 have hs:=mH (le:=λx y:α=>!ltM y.1 x.1) (λa b c h1 h2=>by
  cases e:ltM c.1 a.1 with
  |false=>rfl
  |true=>
   have h1:ltM b.1 a.1=false:=by simpa using h1
   have h2:ltM c.1 b.1=false:=by simpa using h2
   cases e1:ltM a.1 b.1 with
   |true=>rw[Ca (ok c) (ok a) (ok b) e e1] at h2;cases h2
   |false=>
    have:=KS (ok a) (ok b) e1 h1;rw[this] at e;rw[e] at h2;cases h2) (λa b=>by
  cases e:ltM b.1 a.1 with
  |false=>rfl
  |true=>
   cases e1:ltM a.1 b.1 with
   |false=>rfl
   |true=>
    have:=Ca (ok a) (ok b) (ok a) e1 e;rw[KR] at this;cases this) (rawM l).attach
 intro i j x y hij hi hj;rw[<-hm] at hi hj;rw[ba] at hi hj;cases ei:((rawM l).attach.mergeSort λx y=>!ltM y.1 x.1)[i]? with
 |none=>rw[ei] at hi;cases hi
 |some x'=>
  cases ej:((rawM l).attach.mergeSort λx y=>!ltM y.1 x.1)[j]? with
  |none=>rw[ej] at hj;cases hj
  |some y'=>
   rw[ei] at hi;rw[ej] at hj;cases hi;cases hj;obtain⟨i1,i2⟩:=aC.1 ei;obtain⟨j1,j2⟩:=aC.1 ej;have:=dP.1 hs i j i1 j1 hij;rw[i2,j2] at this;exact lt_of (by simpa using this)
def mP (l:List Pt)(a b:Rt):List Mt:=((srtM l).drop ((srtM l).countP (er a))).take ((srtM l).countP (er b)-(srtM l).countP (er a))
def i8 (l:List Pt)(a b:Rt):List Mt:=if oU l a b=0 then mP l a b else []
def KW {l:List Pt}{a b:Rt}(h:oU l a b=0):okF l/\ rok a=true/\ rok b=true/\ crs a b<=0:=by
 unfold oU at h;split at h
 .contradiction
 .rename_i hf;split at h
  .rename_i hr;split at h
   .cases h
   .rw[aH] at hr;exact⟨eE.1 (by omega),hr.1,hr.2,by omega⟩
  .cases h
def KX {l:List Pt}(h:okF l){a b:Rt}(ha:rok a=true)(hb:rok b=true)(hab:crs a b<=0):(srtM l).countP (er a)<=(srtM l).countP (er b):=wX λm hm he=>by
 unfold er at he|-;exact aq (FS (mz h m hm).1 ha hb (aT he) hab)
def Au {l:List Pt}(h:okF l){a b:Rt}(ha:rok a=true)(hb:rok b=true)(hab:crs a b<=0):(mP l a b).length=(rawM l).countP (nB a b):=by
 have h1:=KX h ha hb hab;have h2:=eu (p:=er b) (l:=srtM l);unfold mP;rw[aP,b6,<-Rj];have e:=tO (p:=er b) (q:=er a) (l:=srtM l) λm hm he=>by
  unfold er at he|-;exact aq (FS (mz h m hm).1 ha hb (aT he) hab)
 have e2:(srtM l).countP (λm=>er b m&& !er a m)=(srtM l).countP (nB a b):=List.countP_congr λm _=>by
  unfold er nB jK;have:=eR a m.time;simp;omega
 omega
def adr {l:List Pt}{a b:Rt}(ha:aS a)(hb:aS b):Ans D 16 [F l,R a,R b] [sl jU (i8 l a b),.i64 (oU l a b)]:=by
 have m1:=phi (aip (l:=l) ha hb);have e1:RF.ev (.bs 2 [KP.z,KP.z] [0,1]) [R a,R b]=some (sl ur [a,b]):=rfl;have e2:RF.ev .sub [sl ur [a,b],.v (.int .i64 0),.v (.int .i64 2)]=some (sl ur [a,b]):=rfl;refine am ?_;unfold YM i8;simp only[ay,bv,bm,e1,e2,m1,EV];by_cases h:oU l a b=0
 .obtain⟨hl,hra,hrb,hab⟩:=KW h;have m2:=phi (air hl);have m3:=phi (adq (rL hl) (mz hl) (by rw[KU];exact Dh hl) ha hra);have m4:=phi (adq (rL hl) (mz hl) (by rw[KU];exact Dh hl) hb hrb);have h1:=KX hl hra hrb hab;have h2:=eu (p:=er b) (l:=srtM l);have b1:RF.ev .bnd [.v (.int .i64 (((srtM l).countP (er b):Nat):Int)),.v (.int .i64 (((srtM l).length:Nat):Int))]=some (.i64 (((srtM l).countP (er b):Nat):Int)):=by rw[kr,ad ⟨by omega,by omega⟩]
  have b2:RF.ev .bnd [.v (.int .i64 (((srtM l).countP (er a):Nat):Int)),.v (.int .i64 (((srtM l).countP (er b):Nat):Int))]=some (.i64 (((srtM l).countP (er a):Nat):Int)):=by rw[kr,ad ⟨by omega,by omega⟩]
  have b0:RF.ev .bnd [.v (.int .i64 (((srtM l).countP (er b):Nat):Int)),.v (.int .i64 (((srtM l).countP (er b):Nat):Int))]=some (.i64 (((srtM l).countP (er b):Nat):Int)):=by rw[kr,ad ⟨by omega,by omega⟩]
  have b3:RF.ev (.tsub 4) [sl jU (srtM l),.v (.int .i64 (((srtM l).countP (er a):Nat):Int)),.v (.int .i64 (((srtM l).countP (er b):Nat):Int))]=some (sl jU (mP l a b)):=by
   show RF.ev (.tsub 4) [.sl ((srtM l).map jU),_,_]=_
   rw[yj,ad ⟨by omega,by omega,by rw[ai];omega,by cases srtM l<;>rfl,by decide⟩];rw[aF,aF,<-xf,<-xg];rfl
  rw[h,ad rfl];simp only[m2,m3,m4,EV,aA,aJ,aw,ax,ai,b1,b0,b2,b3]
 .have:(!decide (oU l a b=0))=true:=by simp[h]
  rw[ac h];simp only[this,az,EV];rfl
def ais {l:List Pt}{a b:Rt}(ha:aS a)(hb:aS b):Ans D 41 [F l,R a,R b] [.i64 ((i8 l a b).length:Int),.i64 (oU l a b)]:=by
 have m1:=phi (adr (l:=l) ha hb);refine am ?_;unfold YQ;simp only[ay,bv,bm,m1,EV,ai]
def Av (tag:Int)(l:List Pt)(a b:Rt):Int×Int:=if(evE tag l a b).2=0 then(((i8 l a b).length:Int)-(evE tag l a b).1,oU l a b) else(0,(evE tag l a b).2)
def KY {E:Rt->List Crt}{t:Rt}:∀(n:Nat) (c:Clock) (out:List Crt) (d:Clock) (out':List Crt),adv E t n c out=some (some (d,out'))->out'.length<=out.length+n
 |0,_,_,_,_,h=>by cases h
 |n+1,c,out,d,out',h=>by
  unfold adv at h;split at h
  .cases h;omega
  .split at h
   .have:=KY n _ _ _ _ h;rw[aD,aK] at this;omega
   .cases h
def JE {t:Rt}:∀(n:Nat) (c:Clock) (hp:List Int) (out:List Crt) (d:Clock) (hq:List Int) (out':List Crt),kV t n c hp out=some (some (d,hq,out'))->out'.length<=out.length+n
 |0,_,_,_,_,_,_,h=>by cases h
 |n+1,c,hp,out,d,hq,out',h=>by
  unfold kV at h;split at h
  .cases h;omega
  .split at h
   .have:=JE n _ _ _ _ _ _ h;rw[aD,aK] at this;omega
   .cases h
def JF {E:Rt->List Crt}{t:Rt}{c:Clock}:(((fK E t c).map (·.2)).getD []).length<=30000000:=by
 unfold fK;cases h:adv E t 5000 c [] with
 |none=>simp
 |some r=>
  cases r with
  |none=>simp
  |some z=>
   have:=KY _ _ _ z.1 z.2 h;simp at this|-;omega
def ads {t:Rt}{c:Clock}{hp:List Int}:(((pq t c hp).map (·.2.2)).getD []).length<=30000000:=by
 unfold pq;cases h:kV t 30000000 c hp [] with
 |none=>simp
 |some r=>
  cases r with
  |none=>simp
  |some z=>
   have:=JE _ _ _ _ z.1 z.2.1 z.2.2 h;simp at this|-;omega
def WZ (tag:Int)(l:List Pt)(a b:Rt):((evX tag l a b).getD []).length<=30000000:=by
 unfold evX;split
 .exact ads
 split
 .exact JF
 split
 .exact JF
 .exact JF
def KZ (tag:Int)(l:List Pt)(a b:Rt):0<=(evE tag l a b).1/\(evE tag l a b).1<=30000000:=by
 have:=WZ tag l a b;unfold evE;split
 .decide
 split
 .exact⟨qa _,by simp only;omega⟩
 split
 .exact⟨qa _,by simp only;omega⟩
 split
 .decide
 .exact⟨by simp only;omega,by simp only;omega⟩
def JG {l:List Pt}{a b:Rt}:(i8 l a b).length<=5000:=by
 unfold i8;split
 .rename_i h;obtain⟨hl,ha,hb,hab⟩:=KW h;have:=Dh hl;rw[Au hl ha hb hab];exact bw eu this
 .exact c6 _
def adt (tag:Int){l:List Pt}{a b:Rt}(ha:aS a)(hb:aS b)(h10:l.length<=10\/gn l≠0):Ans D 11 [.v (.int .u8 tag),F l,R a,R b] [.i64 (Av tag l a b).1,.i64 (Av tag l a b).2]:=by
 have m1:=phi (TU tag (l:=l) ha hb h10);have m2:=phi (ais (l:=l) ha hb);obtain⟨q1,q2⟩:=KZ tag l a b;have q3:=JG (l:=l) (a:=a) (b:=b);have hw:=cM (show-9223372036854775808<=((i8 l a b).length:Int)-(evE tag l a b).1 by omega) (by omega)
 refine am ?_;unfold YJ Av;simp only[ay,bv,bm,m1,m2,EV,hw];by_cases h:(evE tag l a b).2=0
 .simp[h]
 .simp[h]
def zi (a b:Rt):Int:=if rok a=true then okE (rok b) else 8
def ait {a b:Rt}(ha:aS a)(hb:aS b):Ans D 45 [R a,R b] [.i64 (zi a b)]:=by
 have m1:=phi (EZ ha);have m2:=phi (EZ hb);refine am ?_;unfold YT zi;simp only[ay,bm,m1,m2,EV];cases rok a<;>simp[okE,EV]
def zj (l:List Pt)(a b:Rt):Prop:=l.length<=10/\ okF l/\ rok a=true/\ rok b=true/\ cU a=0/\ cU b=0/\ crs a b<=0
open Classical in
def aiu {l:List Pt}{a b:Rt}(ha:aS a)(hb:aS b):Ans D 14 [F l,R a,R b] [.bool (decide (zj l a b))]:=by
 have m1:=phi (Xw l);have m2:=phi (ait ha hb);have m3:=phi (c64 ha);have m4:=phi (c64 hb);have m5:=phi (Xn ha hb);have no:¬zj l a b->(some [PV.v (.bool false)]:Option (List PV))=some [.bool (decide (zj l a b))]:=λh=>by rw[ak h]
 refine am ?_;unfold YL;simp only[ay,bv,bm,cq,EV,ai,aa,cx];by_cases h1:(10:Int)<(l.length:Int)
 .rw[ad h1];exact no λh=>by have:=h.1;omega
 rw[ac h1];simp only[ay,m1,EV,bne_iff_ne,eZ];by_cases h2:gn l=0
 rotate_left
 .rw[tP];simp only[h2,eZ,dg,aA,az];exact no λh=>h2 (eE.2 h.2.1)
 rw[tP];simp only[h2,eZ,cy,aY,aw,ax,m2,EV];by_cases h3:rok a=true/\ rok b=true
 rotate_left
 .have hE:zi a b≠0:=by
   unfold zi;split
   .rename_i h;intro e;exact h3 ⟨h,Ay.1 e⟩
   .decide
  rw[tP];simp only[eZ,hE,dg,aA,az];exact no λh=>h3 ⟨h.2.2.1,h.2.2.2.1⟩
 have hE:zi a b=0:=by unfold zi;rw[ad h3.1,h3.2];rfl
 rw[tP];simp only[hE,eZ,cy,aY,aw,ax,m3,EV];by_cases h4:cU a=0
 rotate_left
 .rw[tP];simp only[eZ,h4,dg,aA,az];exact no λh=>h4 h.2.2.2.2.1
 rw[tP];simp only[h4,eZ,cy,aY,aw,ax,m4,EV];by_cases h5:cU b=0
 rotate_left
 .rw[tP];simp only[eZ,h5,dg,aA,az];exact no λh=>h5 h.2.2.2.2.2.1
 rw[tP];simp only[h5,eZ,cy,aY,aw,ax,m5,EV];have hi:decide (zj l a b)=decide (sgn (crs a b)<=0):=by
  have hp:zj l a b↔sgn (crs a b)<=0:=by
   have hs:0<sgn (crs a b)↔0<crs a b:=rA;constructor
   .rintro⟨_,_,_,_,_,_,h⟩;have:¬0<sgn (crs a b):=λk=>by have:=hs.1 k;omega
    omega
   .intro h;have:¬0<crs a b:=λk=>by have:=hs.2 k;omega
    exact⟨by omega,eE.1 h2,h3.1,h3.2,h4,h5,by omega⟩
  exact cI.2 hp
 rw[hi]
def Rk (p:Pt):cB 1 0 (row p)=some (.i64 p.a):=rfl
def Rl (p:Pt):cB 2 0 (row p)=some (.i64 p.b):=rfl
def sM (l:List Pt)(i:Nat):Prop:=∀j,j<i->∀p q:Pt,l[i]?=some p->l[j]?=some q->¬(p.a=q.a/\ p.b=q.b)
open Classical in
def aiv {l:List Pt}(h64:l.length<=64):Ans D 17 [F l] [.bool (decide (∀i,i<l.length->sM l i))]:=by
 refine an ⟨66,?_⟩;unfold YN;simp only[ay,bv,EV];refine(eQ (n:=l.length) (st:=λi=>[.i64 (i:Int)]) (P:=sM l) (fin:=some [.bool true]) (r:=some [.bool false]) (λi self hi hall=>?_) (λhall self=>?_) (by omega)).trans ?_
 .unfold F0;simp only[ay,aQ,aM,cq,EV,ai,aa,bh hi];obtain⟨p,hp⟩:∃p,l[i]?=some p:=⟨l[i],ah _⟩;refine(eQ (n:=i) (st:=λj=>[.i64 (j:Int)]) (P:=λj=>∀q:Pt,l[j]?=some q->¬(p.a=q.a/\ p.b=q.b)) (fin:=self [.i64 ((i+1:Nat):Int)]) (r:=some [.bool false]) (λj self' hj _=>?_) (λ_ self'=>?_) (by omega)).trans ?_
  .obtain⟨q,hq⟩:∃q,l[j]?=some q:=⟨l[j]'(by omega),ah _⟩;have hP:(∀q':Pt,l[j]?=some q'->¬(p.a=q'.a/\ p.b=q'.b))↔¬(p.a=q.a/\ p.b=q.b):=⟨λh=>h q hq,λh q' hq'=>by rw[hq] at hq';cases hq';exact h⟩;refine bS ?_ (show(if¬(p.a=q.a/\ p.b=q.b) then self' [.i64 ((j+1:Nat):Int)] else some [.bool false])=_ from by
    by_cases c:p.a=q.a/\ p.b=q.b
    .rw[ac (λh=>h c),ac (λh=>hP.1 h c)]
    .rw[ad c,ad (hP.2 c)])
   unfold FZ;simp only[ay,aQ,aM,cq,EV,aa,bh hj,aX hp (b5 p),aN hp,aX hq (b5 q),aN hq,Rk,Rl];have hup:=up1 (show j<1000000000 by omega)
   by_cases ea:p.a=q.a
   .rw[ad ea];simp only[ay,aQ,aM,cq,EV,aa,aX hp (b5 p),aN hp,aX hq (b5 q),aN hq,Rk,Rl,FY,hup];by_cases eb:p.b=q.b
    .simp[ea,eb]
    .simp[ea,eb]
   .rw[ac ea];simp only[EV,FY,hup];simp[ea]
  .have hup:=up1 (show i<1000000000 by omega)
   unfold FZ;simp only[ay,aQ,aM,EV,aa,ac (show¬(i:Int)<(i:Int) by omega),Oc,hup]
  .have hP:(∀j,j<i->∀q:Pt,l[j]?=some q->¬(p.a=q.a/\ p.b=q.b))↔sM l i:=⟨λh j hj p' q hp' hq=>by rw[hp] at hp';cases hp';exact h j hj q hq,λh j hj q hq=>h j hj p q hp hq⟩;by_cases c:sM l i
   .rw[ad c,ad (hP.2 c)]
   .rw[ac c,ac (λh=>c (hP.1 h))]
 .unfold F0;simp only[ay,aQ,aM,cq,EV,ai,aa,ac (show¬(l.length:Int)<(l.length:Int) by omega),Ob]
 .by_cases c:∀j,j<l.length->sM l j
  .rw[ad c,aq c]
  .rw[ac c,ak c]
def Nt (ms:List Mt)(i:Nat):Prop:=∀x y:Mt,ms[i]?=some x->ms[i+1]?=some y->y.time≠x.time
def ET (c:Clock)(x:Crt):Bool:=(Nat.beq c.certs.list.length 200||decide (c.certs.next=1000000))||((fT c x).2&& !kf c.agenda.slots)
def Rm (c:Clock)(x:Crt):nG c x↔ET c x=true:=by
 unfold nG ET;simp
def Cc:List Crt->Clock->Option Clock
 |[],c=>some c
 |x::xs,c=>match c.certs.list.any λh=>decide (h.cert=x) with
  |true=>Cc xs c
  |false=>match ET c x with
   |true=>none
   |false=>Cc xs (kw c x)
def JH:∀(es:List Crt) (c:Clock),addL es c=Cc es c
 |[],c=>rfl
 |x::xs,c=>by
  unfold addL Cc;cases h:c.certs.list.any λh=>decide (h.cert=x) with
  |true=>simp only[az];exact JH xs c
  |false=>
   cases k:ET c x with
   |true=>simp[(Rm c x).2 k]
   |false=>
    have hf:¬nG c x:=λh=>by
     rw[(Rm c x).1 h] at k;exact Bool.noConfusion k
    simp only[aw,ax,ac hf];exact JH xs _
def JI (es:List Crt)(c:Clock):Option Clock:=Cc es (dropL es c.certs.list c)
def K3 (es:List Crt)(c:Clock):dK es c=JI es c:=JH _ _
def Di (E:Rt->List Crt)(t:Rt):Nat->Clock->List Crt->Option (Option (Clock×List Crt))
 |0,_,_=>none
 |n+1,c,out=>match fd c t with
  |none=>some (some (c,out))
  |some e=>match JI (E e.time) (dO c e) with
   |some d=>Di E t n d (out++[dt c e])
   |none=>some none
def EU (E:Rt->List Crt)(t:Rt):∀(n:Nat) (c:Clock) (out:List Crt),adv E t n c out=Di E t n c out
 |0,_,_=>rfl
 |n+1,c,out=>by
  unfold adv Di;simp only[K3,EU E t n];rfl
def EW (t:Rt):Nat->Clock->List Int->List Crt->Option (Option (Clock×List Int×List Crt))
 |0,_,_,_=>none
 |n+1,c,hp,out=>match fd c t with
  |none=>some (some (c,hp,out))
  |some e=>match JI (b7 (rm hp (dt c e))) (dO c e) with
   |some d=>EW t n d (rm hp (dt c e)) (out++[dt c e])
   |none=>some none
def Rn (t:Rt):∀(n:Nat) (c:Clock) (hp:List Int) (out:List Crt),kV t n c hp out=EW t n c hp out
 |0,_,_,_=>rfl
 |n+1,c,hp,out=>by
  unfold kV EW;simp only[K3,Rn t n];rfl
def dE:List Pt:=[⟨1,0,2⟩,⟨2,6,-1⟩,⟨5,0,0⟩]
def t0:Rt:=⟨0,1⟩
def t6:Rt:=⟨6,1⟩
def TY:Option Nat:=((EW t6 30000000 (fC t0 dE).clock (fC t0 dE).heap []).getD none).map λz=>z.2.2.length
def TZ:Option Nat:=((Di (edT dE (cS dE)) t6 5000 (iL t0 dE).clock []).getD none).map λz=>z.2.length
def T2:Option Nat:=((Di (λt=>edgsT (cart t dE).nodes dE.length) t6 5000 (mi t0 dE).clock []).getD none).map λz=>z.2.length
def T3:Option Nat:=((Di (λt=>cw dE (cX t dE)) t6 5000 (mj t0 dE).clock []).getD none).map λz=>z.2.length
def W1:TY=some 1:=by kernel_rfl
def afr:(evX 1 dE t0 t6).map List.length=some 1:=by
 have e:(evX 1 dE t0 t6).map List.length=TY:=by
  unfold evX pq TY;rw[ad rfl,Rn,pO];rfl
 exact e.trans W1
def W2:TZ=some 1:=by kernel_rfl
def afs:(evX 2 dE t0 t6).map List.length=some 1:=by
 have e:(evX 2 dE t0 t6).map List.length=TZ:=by
  unfold evX fK TZ;rw[ac (by decide),ad rfl,EU,pO];rfl
 exact e.trans W2
def W4:T2=some 2:=by kernel_rfl
def afu:(evX 3 dE t0 t6).map List.length=some 2:=by
 have e:(evX 3 dE t0 t6).map List.length=T2:=by
  unfold evX fK T2;rw[ac (by decide),ac (by decide),ad rfl,EU,pO];rfl
 exact e.trans W4
def W5:T3=some 1:=by kernel_rfl
def afv:(evX 4 dE t0 t6).map List.length=some 1:=by
 have e:(evX 4 dE t0 t6).map List.length=T3:=by
  unfold evX fK T3;rw[ac (by decide),ac (by decide),ac (by decide),EU,pO];rfl
 exact e.trans W5
def Ef:okF dE:=⟨by decide,by decide,λi p q hp hq=>by
 match i with
 |0=>cases hp;cases hq;decide
 |1=>cases hp;cases hq;decide
 |2=>cases hq
 |i+3=>cases hp⟩
def JK:gn dE=0:=eE.2 Ef
def Ro:eL dE t0=0:=by
 have h:bE dE t0=0:=by unfold bE;rw[ad JK];decide
 unfold eL;rw[ad h];decide
def tQ {tag:Int}{n:Nat}(hg:tag=1\/tag=2\/tag=3\/tag=4)(h:(evX tag dE t0 t6).map List.length=some n):evE tag dE t0 t6=((n:Int),0):=by
 rw[JA hg Ro (by decide) (by decide)];cases e:evX tag dE t0 t6 with
 |none=>rw[e] at h;cases h
 |some out=>
  rw[e] at h;have h:out.length=n:=by simpa using h
  rw[<-h];rfl
def c8 {n:Nat}(h:n<=64):Ans D 15 [.i64 (n:Int)] [.i64 ((n*(n-1)/2:Nat):Int),.i64 0]:=by
 refine am ?_;unfold k8;have h1:¬((n:Int)<0):=by omega
 have h2:¬((64:Int)<(n:Int)):=by omega
 have hm:((n*(n-1):Nat):Int)=(n:Int)*((n:Int)-1):=by
  cases n with
  |zero=>rfl
  |succ n=>simp
 have hb:n*(n-1)<=64*64:=dS h (by omega);have hw1:=cM (show-9223372036854775808<=(n:Int)-1 by omega) (by omega)
 have hw2:=cM (show-9223372036854775808<=(n:Int)*((n:Int)-1) by rw[<-hm];omega) (by rw[<-hm];omega)
 have hq:((n:Int)*((n:Int)-1)).tdiv 2=((n*(n-1)/2:Nat):Int):=by
  rw[<-hm];rfl
 have hw3:=cM (show-9223372036854775808<=((n*(n-1)/2:Nat):Int) by omega) (by omega)
 have hq2:dx .quo .i64 ((n:Int)*((n:Int)-1)) .i64 2=some (.i64 ((n*(n-1)/2:Nat):Int)):=by rw[EQ,ac (by decide),hq,hw3]
 simp only[ay,EV,aa,cx,ac h1,ac h2,hw1,hw2,hq2]
def aiw:Ans D 43 [] [F dE]:=by
 refine am ?_;unfold YR;rfl
def adu (n:Int):Ans D 44 [.i64 n] [R ⟨n,1⟩]:=by
 refine am ?_;unfold YS;rfl
def Rp:(rawM dE).countP (nB t0 t6)=2:=by kernel_rfl
def Eg:oU dE t0 t6=0:=by
 unfold oU;rw[ac (by rw[JK];decide)];decide
def Rq:(i8 dE t0 t6).length=2:=by
 unfold i8;rw[ad Eg,Au Ef (by decide) (by decide) (by decide)];exact Rp
def ro {tag:Int}{n:Nat}(h:evE tag dE t0 t6=((n:Int),0)):Av tag dE t0 t6=(2-(n:Int),0):=by
 unfold Av;rw[h,ad rfl,Rq,Eg];rfl
def in0:aS t0:=⟨⟨by decide,by decide⟩,⟨by decide,by decide⟩⟩
def in6:aS t6:=⟨⟨by decide,by decide⟩,⟨by decide,by decide⟩⟩
def aiy:Ans D 13 [] [.bool true]:=by
 have m15:bK D 15 [.i64 64]=some [.i64 2016,.i64 0]:=phi (c8 (n:=64) (by decide));have m43:=phi aiw;have a0:bK D 44 [.i64 0]=some [R t0]:=phi (adu 0);have a6:bK D 44 [.i64 6]=some [R t6]:=phi (adu 6);have ev:=λ(tag:Int)=>phi (TU tag (l:=dE) in0 in6 (.inl (by decide)));have sp:=λ(tag:Int)=>phi (adt tag (l:=dE) in0 in6 (.inl (by decide)));have e1:=tQ (tag:=1) (.inl rfl) afr;have e2:=tQ (tag:=2) (.inr (.inl rfl)) afs;have e3:=tQ (tag:=3) (.inr (.inr (.inl rfl))) afu;have e4:=tQ (tag:=4) (.inr (.inr (.inr rfl))) afv;have two:∀{k n:Int} {x:Int×Int},x=(k,n)->some [PV.i64 x.1,PV.i64 x.2]=some [PV.i64 k,PV.i64 n]:=λh=>by rw[h]
 have v1:=(ev 1).trans (two e1);have v2:=(ev 2).trans (two e2);have v3:=(ev 3).trans (two e3);have v4:=(ev 4).trans (two e4);have p1:=(sp 1).trans (two (ro e1));have p2:=(sp 2).trans (two (ro e2));have p3:=(sp 3).trans (two (ro e3));have p4:=(sp 4).trans (two (ro e4));have n1:(((1:Nat):Int))=1:=rfl;have n2:(((2:Nat):Int))=2:=rfl;have s1:(2:Int)-1=1:=rfl;have s2:(2:Int)-2=0:=rfl;rw[n1] at v1 v2 v4 p1 p2 p4;rw[n2] at v3 p3;rw[s1] at p1 p2 p4;rw[s2] at p3;have w0:IntKind.i64.wrap 0=0:=by decide
 have w1:IntKind.i64.wrap 1=1:=by decide
 have u2:IntKind.u8.wrap 2=2:=by decide
 have u3:IntKind.u8.wrap 3=3:=by decide
 have u4:IntKind.u8.wrap 4=4:=by decide
 have u5:IntKind.u8.wrap 5=5:=by decide
 refine an ⟨7,?_⟩;unfold YK;simp only[EV,m15,bB,N7,N8,N9,Oa,m43,a0,a6,v1,v2,v3,v4,p1,p2,p3,p4];simp[EV,bB,w0,w1,u2,u3,u4,u5,v1,v2,v3,v4,p1,p2,p3,p4,m43,a0,a6]
def Eof (tag:Int)(l:List Pt):Rt->List Crt:=if tag=2 then edT l (cS l) else if tag=3 thenλt=>edgsT (cart t l).nodes l.length elseλt=>cw l (cX t l)
structure EFacts (l:List Pt)(E:Rt->List Crt):Prop where
 ok:∀t,EdgOk l (E t)
 led:∀t,∀e∈E t,leads t (ptOf l e.high) (ptOf l e.low)=true
 n:∀t,(E t).length<=64
 same:∀s u,(∀x∈E u,leads s (ptOf l x.high) (ptOf l x.low)=true)->E s=E u
def EFacts.h {l:List Pt}{E:Rt->List Crt}(F:EFacts l E):EdgH l E:=⟨λt _ _=>let q:=F.ok t;⟨q.ok,q.low,q.high⟩,λt _ _ x hx=>F.led t x hx⟩
def Rr {tag:Int}(hg:tag=2\/tag=3\/tag=4){l:List Pt}(hl:okF l):EFacts l (Eof tag l):=by
 obtain⟨f0,f1,f2⟩:=mh hl;have h64:=hl.1;rcases hg with rfl|rfl|rfl
 .refine⟨λt=>jY (t:=t) hl f1 f2 dM (ez hl),λt e he=>?_,λt=>?_,λs u h=>?_⟩
  .obtain⟨b1,b2,b3⟩:=iz (t:=t) hl f1 f2 dM (ez hl);exact(iy (b:=bracketOf t l (cS l)) hl b2 dM b3 he).2.2
  .obtain⟨b1,_,_⟩:=iz (t:=t) hl f1 f2 dM (ez hl);have:=ke (bracketOf t l (cS l)).wins (cS l) (bracketOf t l (cS l)).wins.length;show(edsB _ _ _).length<=64
   omega
  .show edT l (cS l) s=edT l (cS l) u
   unfold edT;rw[Jt (t:=u) (t':=s) hl f1 f2 dM (ez hl) h]
 .refine⟨λt=>lM (t:=t) hl,λt e he=>(fZ hl he).2.2,λt=>?_,λs u h=>?_⟩
  .have:=jX (cart t l).nodes l.length;show(edgsT _ _).length<=64
   omega
  .show edgsT (cart s l).nodes l.length=edgsT (cart u l).nodes l.length
   rw[No (t:=u) (t':=s) hl h]
 .refine⟨λt=>lL (t:=t) hl,λt e he=>(fg hl he).2.2,λt=>?_,λs u h=>?_⟩
  .have h1:(cw l (cX t l)).length<=(l.zip (cX t l)).length:=sS _ _;rw[lB] at h1;show(cw _ _).length<=64
   omega
  .show cw l (cX s l)=cw l (cX u l)
   rw[TS (t:=u) (t':=s) hl h]
def adw {tag:Int}(hg:tag=2\/tag=3\/tag=4)(l:List Pt)(a b:Rt):evX tag l a b=(fK (Eof tag l) b (certAll (newC l a) (Eof tag l a))).map (·.2):=by
 rcases hg with rfl|rfl|rfl<;>rfl
section
variable {l:List Pt}{E:Rt->List Crt}(hl:okF l)(F:EFacts l E){a:Rt}(ha:aS a)(hra:rok a=true)
include hl F ha hra
theorem T4:Stl l (certAll (newC l a) (E a))/\(certAll (newC l a) (E a)).now=a/\(∀x∈E a,∃y∈(certAll (newC l a) (E a)).certs.list,y.cert=x)/\∀y∈(certAll (newC l a) (E a)).certs.list,y.cert∈E a:=by
 have hE:=F.ok a;obtain⟨h1,h2,h3,h4⟩:=f8 hE hl ha hra (F.led a);obtain⟨q1,q2⟩:=xG h1 (by rw[h3];exact ha) hE.nd h4;rw[h2] at q1;exact⟨q1,h3,q2,wa h1.2.2.1 hE.nd h4⟩
theorem W6 {b:Rt}(hrb:rok b=true)(hab:crs a b<=0):∃d out,fK E b (certAll (newC l a) (E a))=some (d,out)/\ out.length+cY b l<=cY a l:=by
 obtain⟨h1,h2,_,_⟩:=T4 hl F ha hra;have hf:=xD hl a;have hn:=F.n a;obtain⟨d,out,q1,q2⟩:=FR F.h F.n hrb 5000 (certAll (newC l a) (E a)) [] (E a).length h1 (by rw[h2];exact hab) (NY (l:=l) (t:=a) (E a)) (by rw[h2];omega) (by rw[h2];exact hf);rw[yR hl F.h h1] at q1;rw[h2] at q2;exact⟨d,out,by cases q1':fK E b (certAll (newC l a) (E a)) with|none=>(rw[q1'] at q1;cases q1)|some z=>(rw[q1'] at q1;cases q1;rfl),by simpa using q2⟩
end
def adx {tag:Int}(hg:tag=2\/tag=3\/tag=4){l:List Pt}(hl:okF l){a b:Rt}(ha:aS a)(hra:rok a=true)(hrb:rok b=true)(hab:crs a b<=0):∃out,evX tag l a b=some out/\ out.length+cY b l<=cY a l:=by
 obtain⟨d,out,h1,h2⟩:=W6 hl (Rr hg hl) ha hra hrb hab;exact⟨out,by rw[adw hg,h1];rfl,h2⟩
section
variable {l:List Pt}(hl:okF l){a:Rt}(ha:aS a)(hra:rok a=true)
include hl ha hra
theorem Rs:HGood l (fC a l).clock (fC a l).heap/\(fC a l).clock.now=a:=by
 have hE:=po hl (nP (t:=a) (l:=l));obtain⟨h1,h2,h3,h4⟩:=f8 hE hl ha hra λe he=>mX (sc hl _ (aB _)) he;obtain⟨q1,q2⟩:=xG h1 (by rw[h3];exact ha) hE.nd h4;exact⟨⟨⟨h1,q1.n64,h2,wa h1.2.2.1 hE.nd h4,zR hl (aB _),zQ (aB _),jk (aB _)⟩,q2,q1.holds⟩,h3⟩
theorem Ru {b:Rt}(hrb:rok b=true)(hab:crs a b<=0)(h10:l.length<=10):∃d hq out,pq b (fC a l).clock (fC a l).heap=some (d,hq,out)/\(Dst l a b->out.length+cY b l<=cY a l):=by
 obtain⟨G,hn⟩:=Rs hl ha hra;have hlen:(fC a l).heap.length=l.length:=G.st.len;have hf:cY a l<=l.length*l.length:=by
  have h1:cY a l<=(p9 l).length:=eu;have h2:(p9 l).length=l.length*l.length:=DD l l;omega
 have h3:l.length*l.length<=10*10:=dS h10 h10;have w:=Aq (f:=led a l) (B:=10) (n:=10) (fC a l).heap 0 (λx _=>bw eu h10) (by omega);have f2:(fC a l).heap.length*l.length*cY a l<=10*10*100:=dS (by rw[hlen];omega) (by omega);have hM:jv a l (fC a l).heap<=11000:=by
  unfold jv;omega
 have hk:(b7 (eK a l l.length)).length<=64:=by
  have:(b7 (eK a l l.length)).length=(eK a l l.length).length-1:=by simp[b7,jP]
  rw[this,jk (aB _)];omega
 obtain⟨z,hz⟩:=DE hl (t:=b) 30000000 (fC a l).clock (fC a l).heap [] (b7 (eK a l l.length)).length G.st (NY (l:=l) (t:=a) _) (by rw[hn];omega) (by rw[hn];omega);obtain⟨d,hq,out⟩:=z;have hg:=Kg hl (t:=b) G.st;rw[hz] at hg;refine⟨d,hq,out,(lC hg).symm,λhD=>?_⟩;have:=AU hl hD hra hrb 30000000 _ _ [] d hq out G (by rw[hn];unfold crs;omega) (by rw[hn];exact hab) hz;rw[hn] at this;simpa using this
end
def W7 {l:List Pt}(hl:okF l){a b:Rt}(ha:aS a)(hra:rok a=true)(hrb:rok b=true)(hab:crs a b<=0)(h10:l.length<=10):∃out,evX 1 l a b=some out/\(Dst l a b->out.length+cY b l<=cY a l):=by
 obtain⟨d,hq,out,h1,h2⟩:=Ru hl ha hra hrb hab h10;refine⟨out,?_,h2⟩;unfold evX;rw[ad rfl,h1];rfl
def T5 {tag:Int}(hg:tag=1\/tag=2\/tag=3\/tag=4){l:List Pt}{a b:Rt}(hl:okF l)(hra:rok a=true)(haa:cU a=0)(hab:cU b=0)(hp:crs a b<=0){out:List Crt}(h:evX tag l a b=some out):evE tag l a b=((out.length:Int),0):=by
 have hn:eL l a=0:=by
  have hb:bE l a=0:=by unfold bE;rw[ad (eE.2 hl),hra];rfl
  unfold eL;rw[ad hb,haa]
 rw[JA hg hn hab (by have:=eR a b;omega),h];rfl
def Dj {α:Type}{p:α->Bool}:∀{l:List α},(∀(i j:Nat) (a b:α),i<j->l[i]?=some a->l[j]?=some b->p b=true->p a=true)->∀{k:Nat} {a:α},l[k]?=some a->(p a=true↔k<l.countP p)
 |[],_,k,a,h=>by cases h
 |x::l,hs,k,a,h=>by
  have hs':∀(i j:Nat) (a b:α),i<j->l[i]?=some a->l[j]?=some b->p b=true->p a=true:=λi j a b hij ha hb=>hs (i+1) (j+1) a b (by omega) ha hb;rw[cz];cases hx:p x with
  |true=>
   cases k with
   |zero=>cases h;simp[hx]
   |succ k=>
    have:=Dj hs' (k:=k) (a:=a) h;simp only[az];rw[this];omega
  |false=>
   have hz:l.countP p=0:=List.countP_eq_zero.2 λy hy=>by
    obtain⟨j,hj⟩:=aI.1 hy;intro e;have:=hs 0 (j+1) x y (by omega) rfl hj e;rw[hx] at this;cases this
   have ha:¬p a=true:=λe=>by
    cases k with
    |zero=>cases h;rw[hx] at e;cases e
    |succ k=>
     have:=hs 0 (k+1) x a (by omega) rfl h e;rw[hx] at this;cases this
   rw[hz];simp[ha]
section
variable {l:List Pt}(hl:okF l){a b:Rt}(hra:rok a=true)(hrb:rok b=true)
include hl hra hrb
theorem Rv {m:Mt}(hm:m∈rawM l)(hw:nB a b m=true):∃i,(srtM l)[(srtM l).countP (er a)+i]?=some m/\(mP l a b)[i]?=some m:=by
 obtain⟨k,hk⟩:=aI.1 (KV.2 hm);have h1:=Dj (As (rL hl) (mz hl) hra) hk;have h2:=Dj (As (rL hl) (mz hl) hrb) hk;unfold nB jK at hw;rw[aH,aa,aa] at hw;have n:=eR a m.time;have u1:¬er a m=true:=by unfold er;simp;omega
 have u2:er b m=true:=by unfold er;simp;omega
 have g1:(srtM l).countP (er a)<=k:=by
  apply Nat.le_of_not_lt;intro h;exact u1 (h1.2 h)
 have g2:=h2.1 u2;refine⟨k-(srtM l).countP (er a),by rw[xk g1];exact hk,?_⟩;unfold mP;rw[cH (by omega),eG,xk g1];exact hk
omit hl hra hrb in
theorem Dk {i:Nat}{m:Mt}(h:(mP l a b)[i]?=some m):(srtM l)[(srtM l).countP (er a)+i]?=some m:=by
 unfold mP at h;have hlt:=(aC.1 h).1;rw[aP,b6] at hlt;rw[cH (by omega),eG] at h;exact h
omit hra hrb in
theorem K4 (hA:∀i,i<(mP l a b).length-1->Nt (mP l a b) i){i j:Nat}{m n:Mt}(hi:(mP l a b)[i]?=some m)(hj:(mP l a b)[j]?=some n)(hij:i<j):m.time≠n.time:=by
 intro e;have hjl:=(aC.1 hj).1;obtain⟨y,hy⟩:∃y,(mP l a b)[i+1]?=some y:=⟨_,ah (by omega)⟩;have si:=Dk hi;have sj:=Dk hj;have sy:=Dk hy;have km:=mz hl m (au si);have kn:=mz hl n (au sj);have ky:=mz hl y (au sy);have c1:=rL hl _ _ m y (by omega) si sy;have c2:crs y.time n.time<=0:=by
  by_cases hj1:j=i+1
  .subst hj1;rw[hy] at hj;cases hj;unfold crs;omega
  .exact rL hl _ _ y n (by omega) sy sj
 have d1:=dA km.1;have d2:=dA ky.1;have d3:=dA kn.1;obtain⟨_,c3⟩:=om (a:=m.time) (b:=y.time) (c:=n.time) (by omega) (by omega) (by omega) c1 c2;have z:crs m.time n.time=0:=by rw[e];unfold crs;omega
 exact hA i (by omega) m y hi hy (vn km.1 ky.1 (c3 z).1).symm
theorem W8 (hA:∀i,i<(mP l a b).length-1->Nt (mP l a b) i)(hP:∀i,i<l.length->sM l i):Dst l a b:=by
 refine YG hl ?_ λm hm n hn h1 h2 e=>?_
 .intro p hp q hq e1 e2;obtain⟨i,hi⟩:=aI.1 hp;obtain⟨j,hj⟩:=aI.1 hq;have hil:=(aC.1 hi).1;have hjl:=(aC.1 hj).1;rcases ef i j with h|h|h
  .exact absurd ⟨e1.symm,e2.symm⟩ (hP j hjl i h q p hj hi)
  .subst h;rw[hi] at hj;cases hj;rfl
  .exact absurd ⟨e1,e2⟩ (hP i hil j h p q hi hj)
 .obtain⟨i,i1,i2⟩:=Rv hl hra hrb hm h1;obtain⟨j,j1,j2⟩:=Rv hl hra hrb hn h2;rcases ef i j with h|h|h
  .exact absurd e (K4 hl hA i2 j2 h)
  .subst h;rw[i2] at j2;cases j2;rfl
  .exact absurd e.symm (K4 hl hA j2 i2 h)
end
def Eh {l:List Pt}{a b:Rt}(hl:okF l)(hra:rok a=true)(hrb:rok b=true)(hp:crs a b<=0):oU l a b=0:=by
 unfold oU;rw[ac (by rw[eE.2 hl];decide),hra,hrb,fF,ad rfl,ac (by omega)]
def K5 {l:List Pt}{a b:Rt}(hl:okF l)(hra:rok a=true)(hrb:rok b=true)(hp:crs a b<=0){n:Nat}(h:n+cY b l<=cY a l):n<=(i8 l a b).length/\ n<=l.length*(l.length-1)/2:=by
 have h1:=L5 hl hra hrb hp;have h2:(i8 l a b).length=(rawM l).countP (nB a b):=by
  unfold i8;rw[ad (Eh hl hra hrb hp),Au hl hra hrb hp]
 have h3:(rawM l).countP (nB a b)<=(rawM l).length:=eu;have h4:=v8 l;omega
open Classical in
def Rx {tag:Int}{l:List Pt}{a b:Rt}(ha:aS a)(hb:aS b):Ans D 4 [.v (.int .u8 tag),F l,R a,R b] [.bool true]:=by
 have m13:=phi aiy;have f1:=phi (aiu (l:=l) ha hb);refine an ⟨5002,?_⟩;unfold YH;simp only[ay,bv,bm,m13,EV,aa,cx];by_cases h1:tag<1
 .rw[ad h1]
 rw[ac h1];by_cases h2:4<tag
 .simp only[EV,aa,h2,az]
 simp only[EV,aa,h2,ax,f1];by_cases h3:zj l a b
 rotate_left
 .simp only[h3,aY,bY,az,EV]
 obtain⟨p1,p2,p3,p4,p5,p6,p7⟩:=id h3;have hg:tag=1\/tag=2\/tag=3\/tag=4:=by omega
 have ht:=Eh p2 p3 p4 p7;obtain⟨out,e1,hcnt⟩:∃out,evX tag l a b=some out/\((tag=1->Dst l a b)->out.length+cY b l<=cY a l):=by
  by_cases h:tag=1
  .subst h;obtain⟨out,e,hc⟩:=W7 p2 ha p3 p4 p7 p1;exact⟨out,e,λhD=>hc (hD rfl)⟩
  .obtain⟨out,e,hc⟩:=adx (tag:=tag) (by omega) p2 ha p3 p4 p7;exact⟨out,e,λ_=>hc⟩
 have x1:=T5 hg p2 p3 p5 p6 p7 e1;have x2:Av tag l a b=(((i8 l a b).length:Int)-(out.length:Int),0):=by
  unfold Av;rw[x1,ad rfl,ht]
 have c1:=phi (TU tag (l:=l) ha hb (.inl p1));have c2:=phi (adt tag (l:=l) ha hb (.inl p1));have c3:=phi (c8 (n:=l.length) (by omega));have c4:=phi (adr (l:=l) ha hb);have b1:=KZ tag l a b;rw[x1] at c1 b1;rw[x2] at c2;rw[ht] at c4;have b2:=JG (l:=l) (a:=a) (b:=b);have hw:=cM (show-9223372036854775808<=((i8 l a b).length:Int)-(out.length:Int) by simp only at b1;omega) (by omega)
 have hneg:¬((out.length:Int)<0):=by omega
 simp only[h3,aA,aJ,aw,ax,c1,c2,c3,c4,cq,ai,EV,hw,hneg,aY,eZ,cy];have oks:(0:Int)<=((i8 l a b).length:Int)-(out.length:Int)/\(out.length:Int)<=((l.length*(l.length-1)/2:Nat):Int)->∀x:PV,den (bK D) 5002 FW [] [PV.v (.int .u8 tag),F l,R a,R b,F l,R a,R b,PV.bool true,
             PV.v (.bool (decide (tag<1))),PV.v (.bool false),PV.bool true,PV.v (.bool false),
       PV.v (.bool false),PV.i64 out.length,PV.i64 0,PV.i64 (((i8 l a b).length:Int)-(out.length:Int)),
       PV.i64 0,sl row l,PV.v (.int .i64 l.length),PV.i64 ((l.length*(l.length-1)/2:Nat):Int),
       PV.i64 0,sl jU (i8 l a b),PV.i64 0,PV.v (.bool false),PV.v (.bool false),
       PV.v (.bool false),PV.v (.bool false),PV.v (.int .i64 (i8 l a b).length),
       PV.v (.int .i64 (((i8 l a b).length:Int)-(out.length:Int))),PV.v (.bool false),
       PV.v (.bool false),x]=some [PV.bool true]:=λ⟨q1,q2⟩ x=>by
  unfold FW N5;simp only[ay,EV,q1,q2,aA,az,bA]
 by_cases h:tag=1
 rotate_left
 .have hc:=K5 p2 p3 p4 p7 (hcnt λe=>absurd e h);simp only[h,aY,aw,ax];have:=oks ⟨by omega,by omega⟩ (PV.v (.bool false));exact this
 subst h;have c5:=phi (aiv (l:=l) (by omega));by_cases hA:∀i,i<l.length->sM l i
 rotate_left
 .rw[ak hA] at c5;simp only[aA,az,c5,EV,bY]
 rw[aq hA] at c5;simp only[aA,az,c5,EV,aJ,aw,ax,N6];generalize hms:i8 l a b=ms at b2 oks|-;refine(eQ (n:=ms.length-1) (st:=λi=>[.i64 ((i+1:Nat):Int)]) (P:=Nt ms) (fin:=some [.bool true]) (r:=some [.bool true]) (λi self hi _=>?_) (λhall self=>?_) (by omega)).trans (by split<;>rfl)
 .obtain⟨x,hx⟩:∃x,ms[i]?=some x:=⟨ms[i]'(by omega),ah _⟩;obtain⟨y,hy⟩:∃y,ms[i+1]?=some y:=⟨ms[i+1]'(by omega),ah _⟩;have hP:Nt ms i↔¬y.time=x.time:=⟨λh=>h x y hx hy,λh x' y' hx' hy'=>by rw[hx] at hx';rw[hy] at hy';cases hx';cases hy';exact h⟩;have hup:=up1 (show i+1<1000000000 by omega)
  have hdn:IntKind.i64.wrap (((i+1:Nat):Int)-1)=((i:Nat):Int):=by rw[cM (by omega) (by omega)];omega
  refine bS ?_ (show(if¬y.time=x.time then self [.i64 ((i+1+1:Nat):Int)] else some [.bool true])=_ by by_cases c:y.time=x.time<;>simp[hP,c])
  unfold FX;simp only[ay,aQ,aM,EV,ai,aa,bh (show i+1<ms.length by omega),aX hy (wY y),aN hy,hdn,aX hx (wY x),aN hx,afn,RE,hup]
  by_cases c:y.time=x.time<;>simp[c]
 .have hb:i8 l a b=mP l a b:=by unfold i8;rw[ad ht]
  have hD:Dst l a b:=W8 p2 p3 p4 (by rw[<-hb,hms];exact hall) hA;have hc:=K5 p2 p3 p4 p7 (hcnt λ_=>hD);rw[hms] at hc;have fin:=oks ⟨by omega,by omega⟩ (PV.v (.bool true));unfold FX;simp only[ay,aQ,aM,EV,ai,aa,ac (show¬((ms.length-1+1:Nat):Int)<(ms.length:Int) by omega)]
  exact fin
open Go.RowKit Go.Shelf Go.Lib
attribute [local go_sem] Oper.semAt_some
def msF (pre:List (Pt×Pt)):List Mt:=(pre.filter λx=>decide (x.1.b≠x.2.b)).map λx=>fR x.1 x.2
def W9 (pre:List (Pt×Pt)){p q:Pt}(h:p.b≠q.b):msF (pre++[(p,q)])=msF pre++[fR p q]:=by simp[msF,h]
def T6 (pre:List (Pt×Pt)){p q:Pt}(h:p.b=q.b):msF (pre++[(p,q)])=msF pre:=by simp[msF,h]
def Xa (pre:List (Pt×Pt)):(msF pre).length<=pre.length:=by
 unfold msF;rw[ai];exact fU _ _
def Xc (a b:List (Pt×Pt)):msF (a++b)=msF a++msF b:=by simp[msF]
def T7 (p:Pt)(l:List Pt)(i:Nat):hdP (p::l) (i+1)=l.map (λq=>(p,q))++hdP l i:=by
 unfold hdP;rw[List.range_succ_eq_map,dc,sQ];rfl
def K6:∀l:List Pt,msF (hdP l l.length)=rawM l
 |[]=>rfl
 |p::l=>by
  rw[aV,T7,Xc,K6 l];rw[rawM];unfold msF;rw[List.filter_map,List.map_map];rfl
def Kq.grown {n₀:Nat}{A W W':World}(h:Kq n₀ A W)(hn:n₀<=W.heap.size)(g:W.grownBy W' none):Kq n₀ A W':=
 ⟨h.below.grown g hn (λk e=>by cases e),λk cs t fz hk ht=>by
  have:=h.keep k cs t fz hk ht;exact(g.block k (bz.1 this).1 (λe=>by cases e)).trans this⟩
def Kq.putObj {n₀:Nat}{w:World}(hn:n₀<=w.heap.size)(W:World)(l:Nat)(o o':Obj)(hl:w.heap.size<=l)(h:W.heap[l]?=some o)(ho:o.isCells=false)(hw:o.isWalk=false):Kq n₀ W (W.putObj l o'):=
 ⟨belowK_b hn W l o o' hl h ho hw,λk cs t fz hk _=>(World.putObj_heap_other (λe=>by subst e;rw[hk] at h;cases h;cases ho)).trans hk⟩
def Kq.setCell {n₀:Nat}{A W:World}(h:Kq n₀ A W){B:Nat}{t:TypeId}{v:Value}(hB:n₀<=B)(hb:Boxed W B t v)(h1:t≠72)(h2:t≠24)(u:Value):Kq n₀ A (W.setCell ⟨B,0,none⟩ u):=
 ⟨h.below.setCell (p:=⟨B,0,none⟩) hB u,λk cs t' fz hk ht=>by
  have hk':=h.keep k cs t' fz hk ht;refine(Below.heap_setCell _ _ _ k (λe=>?_)).trans hk';have hb:W.heap[B]?=_:=hb;rw[show k=B from e] at hk'
  rw[hk'] at hb;cases hb;exact ht.elim h1 h2⟩
def Kq.appended {W w1:World}{n₀ B:Nat}{v v':Value}{k:Nat}{xs:List Value}{tmp:Obj}(hv:Boxed W B 36 v)(hrow:W.ownsRow n₀ 41 4 v k xs)(hgrow:(W.alloc tmp).grownBy w1 v.ownBlock)(hb:Below n₀ W (w1.setCell ⟨B,0,none⟩ v')):
  Kq n₀ W (w1.setCell ⟨B,0,none⟩ v'):=
 ⟨hb,λj cs t fz hj ht=>by
  have hv:W.heap[B]?=_:=hv;have hjB:j≠B:=λe=>by subst e;rw[hj] at hv;cases hv;revert ht;decide
  refine(Below.heap_setCell _ _ _ j hjB).trans ?_;have hlt:=(bz.1 hj).1;refine(hgrow.block j (by simp;omega) (λe=>?_)).trans ((Below.heap_alloc _ _ _ hlt).trans hj);rcases hrow.2 with⟨rfl,_⟩|⟨g,cap,cur,rfl,_,hgb,_⟩
  .cases e
  .have e:j=g:=by simpa [Value.ownBlock] using e
   subst e;rw[hj] at hgb;cases hgb
   revert ht
   decide⟩
def Xd {W W':World}{n:Nat}{os:Array Obj}(h:W'=Go.Sort.grow (W.drewN n) os):W.grownBy W' none:=by
 subst h;exact⟨rfl,rfl,rfl,by simp[World.drewN],λk hk _=>Go.Sort.heap_grow_old _ _ hk⟩
def At3 (W:World)(B:Nat)(p:Pt):Prop:=W.heap[B]?=some (.cells (ik p).toArray 72 (0,0))
def At3.lt {W:World}{B:Nat}{p:Pt}(h:At3 W B p):B<W.heap.size:=(bz.1 h).1
def At3.kept {W W':World}{B:Nat}{p:Pt}{row:Option Nat}(h:At3 W B p)(hg:W.grownBy W' row)(hne:some B≠row):At3 W' B p:=(hg.block B h.lt hne).trans h
def K7 (B:Nat)(p:Pt):Own (λ(_:Unit) W=>At3 W B p):=λ_ X Y row hs hg hrow=>
 hs.kept hg (λe'=>by obtain⟨o,ho,hc⟩:=hrow B e'.symm;rw[show X.heap[B]?=_ from hs] at ho;cases ho;cases hc)
def At3.alloc {W:World}{B:Nat}{p:Pt}(h:At3 W B p)(o:Obj):At3 (W.alloc o) B p:=(Below.heap_alloc _ _ _ h.lt).trans h
def At3.c0 {W:World}{B:Nat}{p:Pt}(h:At3 W B p):W.cell? ⟨B,0,none⟩=some (.int .i64 p.id):=by simp[World.cell?,show W.heap[B]?=_ from h,ik]
def At3.c1 {W:World}{B:Nat}{p:Pt}(h:At3 W B p):W.cell? ⟨B,1,none⟩=some (.int .i64 p.a):=by simp[World.cell?,show W.heap[B]?=_ from h,ik]
def At3.c2 {W:World}{B:Nat}{p:Pt}(h:At3 W B p):W.cell? ⟨B,2,none⟩=some (.int .i64 p.b):=by simp[World.cell?,show W.heap[B]?=_ from h,ik]
def ady:(Tryz.prog.info? 41).map (λi=>(i.zero,i.size,i.bytes))=some (some (.agg #[.int .i64 0,.int .i64 0,.int .i64 0,.int .i64 0]),4,32):=by kernel_rfl
attribute [local go_sem] Oper.semAt_some
def MsV (n₀:Nat)(W:World)(v:Value)(ms:List Mt):Prop:=W.ownsRow n₀ 41 4 v ms.length (ms.flatMap jw)
def T8 {n₀:Nat}{ms:List Mt}(hv:∀m∈ms,MOk m)(hlen:ms.length<=5000){W:World}{v:Value}(h:MsV n₀ W v ms)(hn:n₀<=W.heap.size):
  Calls Tryz.prog 118 #[v,.func (.func 119) #[] #[]] W λe W'=>e= .returned (.tuple #[])/\ Below n₀ W W'/\(∀k,k<W.heap.size->some k≠v.ownBlock->W'.heap[k]?=W.heap[k]?)/\
   ((ms=[]/\ v= .slice none 0 0)\/∃B cap arr,v= .slice (some ⟨B,0,none⟩) ms.length cap/\ ms.length<=cap/\ cap*4<=arr.size/\ Row W' B arr/\ n₀<=B/\ B<W'.heap.size/\ arr.toList.take (ms.length*4)=(ms.mergeSort λx y=>!ltM y x).flatMap jw):=by
 obtain⟨h1,⟨rfl,h2⟩|⟨g,cap,cur,rfl,hg,hgb,q1,q2,q3,q4⟩⟩:=h
 .have e:ms=[]:=cJ.1 h2;refine(Ee none 0 _ W).mono ?_;rintro e' W' ⟨rfl,rfl⟩;exact⟨rfl,Below.refl _ _,λ_ _ _=>rfl,.inl ⟨e,rfl⟩⟩
 .have hB:g<W.heap.size:=(bz.1 hgb).1;have hr:Go.Sym.Row W g cur:=⟨_,_,hgb,λi _ h=>by omega⟩;by_cases e:ms=[]
  .subst e;refine(Ee _ cap _ W).mono ?_;rintro e' W' ⟨rfl,rfl⟩;exact⟨rfl,Below.refl _ _,λ_ _ _=>rfl,.inr ⟨g,cap,cur,rfl,q1,by omega,hr,hg,hB,by simp⟩⟩
  .refine(WY hv e hlen hr hB q1 (by omega) q4).mono ?_;rintro e' W' ⟨rfl,⟨arr',r1,r2,r3⟩,r4,r5⟩;obtain⟨ty,fz,hg',_⟩:=id r1;exact⟨rfl,r4 n₀ hn hg,λk hk hne=>r5 k hk λe=>hne (by rw[e];rfl),.inr ⟨g,cap,arr',rfl,q1,r2,r1,hg,(bz.1 hg').1,r3⟩⟩
def Ry {W W':World}{base e size k:Nat}{v:Value}{xs:List Value}(h:W.ownsRow base e size v k xs)(hg:W.grownBy W' none):W'.ownsRow base e size v k xs:=by
 refine h.kept hg ?_;rcases h.2 with⟨rfl,_⟩|⟨g,cap,cur,rfl,_⟩
 .exact .inl rfl
 .exact .inr (λe=>by cases e)
def Rz (W:World)(cs:List Value)(t:TypeId)(j:Nat)(u:Value)(h:cs[j]?=some u):(W.alloc (.cells cs.toArray t)).cell? (Addr.add ⟨W.heap.size,0,none⟩ j)=some u:=by
 have:=World.alloc_heap_new W (.cells cs.toArray t);unfold World.cell? Addr.add;by_cases e:j=0
 .subst e;rw[ad rfl];dsimp only;rw[this];simp[h]
 .rw[ac e];dsimp only;rw[this];simp[h]
def adz (p q:Pt)(r:Rt)(e:Int):Prop:=metR p q=(r,e)/\(e=0->p.b≠q.b/\ r=(fR p q).time)/\(e≠0->p.b=q.b)
def aiz (p q:Pt):adz p q (metR p q).1 (metR p q).2:=by
 refine⟨rfl,λh=>?_,λh=>?_⟩
 .unfold metR at h|-;by_cases hb:p.b=q.b
  .rw[ad hb] at h;cases h
  .rw[ac hb];exact⟨hb,rfl⟩
 .unfold metR at h;by_cases hb:p.b=q.b
  .exact hb
  .rw[ac hb] at h;exact absurd rfl h
set_option maxHeartbeats 1000000 in
def T9 {l:List Pt}(h:okF l){w:World}{v:Value}(hv:Ns w.heap.size w v l):
  Calls Tryz.prog 48 #[.agg #[v]] w λe w'=>∃u,e= .returned u/\ Below w.heap.size w w'/\
   ((rawM l=[]/\ u= .slice none 0 0)\/∃B cap arr,u= .slice (some ⟨B,0,none⟩) (rawM l).length cap/\(rawM l).length<=cap/\ cap*4<=arr.size/\ Go.Sym.Row w' B arr/\ w.heap.size<=B/\ B<w'.heap.size/\ arr.toList.take ((rawM l).length*4)=(srtM l).flatMap jw):=by
 have hl64:l.length<=64:=h.1;have hpt:∀{i:Nat} {p:Pt},l[i]?=some p->p.ok=true:=λhi=>dC h hi;have hraw:(rawM l).length<=5000:=by
  have h1:=v8 l;have h2:l.length*(l.length-1)<=64*64:=dS hl64 (by omega);omega
 obtain⟨i0,hi,hz0,hz1,hz2⟩:=info_parts ady;obtain⟨F,hFe⟩:∃F,F=Fence.wide:=⟨_,rfl⟩;have hFf:∀f,F.fn f:=λf=>by subst hFe;trivial
 have hFr:F.round=none:=by subst hFe;rfl
 have toF:∀{f:FuncId} {args:Array Value} {W:World} {R:Ending->World->Prop} (n:Nat),Calls Tryz.prog f args W R->CallsIn F n Tryz.prog f args W R:=λn h=>by subst hFe;exact callsIn_wide.2 h
 refine(callsIn_wide (n:=12)).1 ?_;rw[<-hFe];clear hFe;have g48:=hFf 48;have g116:=hFf 116;have g117:=hFf 117;have g118:=hFf 118;refine callsIn_of_wp_marks Tryz.func48 rfl g48 ?_ hFr;simp only[Tryz.ntmps48,gi,aV,cQ,Nat.reduceAdd,Nat.reduceSub,kz,kA,mS,kW,aM,aQ]
 gi_wp2_with (gi_at_call 116;refine(TV F (12-1) g116 hFr _ _).mono ?_;rintro e w' ⟨rfl,rfl⟩)
 have bO:=(Boxed.new (w.alloc (.cells #[v] 24)) 36 (.slice none 0 0)).alloc (.cells #[v] 24);have bN:=World.alloc_heap_new ((w.alloc (.cells #[v] 24)).alloc (.cells #[.slice none 0 0] 36)) (.cells #[v] 24);simp only[World.size_alloc] at bO bN;have hB0:Below w.heap.size w (((w.alloc (.cells #[v] 24)).alloc (.cells #[.slice none 0 0] 36)).alloc (.cells #[v] 24)):=(((Below.refl _ w).alloc (aB _) _).alloc (by simp) _).alloc (by simp;omega) _;have hsz:(((w.alloc (.cells #[v] 24)).alloc (.cells #[.slice none 0 0] 36)).alloc (.cells #[v] 24)).heap.size=w.heap.size+3:=by simp
 obtain⟨W0,hW0⟩:∃W0,((w.alloc (.cells #[v] 24)).alloc (.cells #[.slice none 0 0] 36)).alloc (.cells #[v] 24)=W0:=⟨_,rfl⟩;rw[hW0] at bO bN hB0 hsz|-;clear hW0;have hv0:Ns w.heap.size W0 v l:=hv.imp id λ⟨b,off,cap,h1,h2,h3⟩=>⟨b,off,cap,h1,h2,h3.below hB0⟩;refine wpIn_rangeFunc_ownH hFr (by decide) (gf:=214) (lb:=#[.pointer (some ⟨w.heap.size+1+1,0,none⟩)]) rfl (hFf 214) (enters_of Tryz.func214 (by kernel_rfl) rfl)
  (TW F (12-1) (hFf 214) hFr (by decide) (w.heap.size+1+1) w.heap.size v l hl64 W0 (by omega) bN hv0) (λh k=>h.trans k) (Kq.putObj (by omega)) (Below.refl _ _) (λ_=>rfl)
  (λpre W=>(∃u,Boxed W (w.heap.size+1) 36 u/\ W.ownsRow w.heap.size 41 4 u (msF (pre.map Subtype.val)).length ((msF (pre.map Subtype.val)).flatMap jw)/\ True)/\ Below w.heap.size w W)
  (λ_ _ _=>False)
  (OwnFrom.and (Own.from (holdsRow_own w.heap.size (w.heap.size+1) 36 41 4 (λpre:List (PP2 l)=>(msF (pre.map Subtype.val)).length) (λpre=>(msF (pre.map Subtype.val)).flatMap jw) (λ_ _=>True)) _) (ownFrom_below (aB _) (by omega)))
  (λ_ _ _ _ _ hs _ _=>hs)
  ⟨⟨_,bO,World.ownsRow_nil _ _ _ _,trivial⟩,hB0⟩
  (λx a' W=>∃B1 B2,w.heap.size+1<B1/\ w.heap.size+1<B2/\ At3 W B1 x.1.1/\ At3 W B2 x.1.2/\ a'={tmps:=#[.agg #[v],.pointer (some ⟨w.heap.size,0,none⟩),.slice none 0 0,.pointer (some ⟨w.heap.size+1,0,none⟩),.pointer (some ⟨B1,0,none⟩),.pointer (some ⟨B2,0,none⟩),undef,undef,.agg #[v],.func (.func 214) #[] #[.pointer (some ⟨w.heap.size+1+1,0,none⟩)],.agg (ik x.1.1).toArray,.agg (ik x.1.2).toArray,undef,undef,undef,undef,undef,undef,undef,undef,undef,undef,undef,undef,undef,undef,undef,undef,undef,undef,undef,undef],defers:=[]})
  (λx a' _ X Y row hs hg hr=>by
   obtain⟨B1,B2,e1,e2,e3,e4,e5⟩:=hs;exact⟨B1,B2,e1,e2,K7 B1 _ () X Y row e3 hg (λr e=>(hr r e).2),K7 B2 _ () X Y row e4 hg (λr e=>(hr r e).2),e5⟩)
  ?assign ?body ?done ?stop
 case assign=>
  rintro lp pre ⟨⟨p,q⟩,hx⟩ W K ⟨⟨u,hu,hrow,_⟩,hB1⟩ hK;have hs1:=hB1.size;have hlt:=hu.lt
  dsimp only[Nr,ik]
  gi_wp2
  have g1:W.grownBy (W.alloc (.cells (ik p).toArray 72)) none:=World.grownBy_alloc _ _ _;have g2:(W.alloc (.cells (ik p).toArray 72)).grownBy ((W.alloc (.cells (ik p).toArray 72)).alloc (.cells (ik q).toArray 72)) none:=World.grownBy_alloc _ _ _;have a1:At3 (W.alloc (.cells (ik p).toArray 72)) W.heap.size p:=World.alloc_heap_new W _;have a2:At3 ((W.alloc (.cells (ik p).toArray 72)).alloc (.cells (ik q).toArray 72)) (W.heap.size+1) q:=by
   have:=World.alloc_heap_new (W.alloc (.cells (ik p).toArray 72)) (.cells (ik q).toArray 72);rwa [World.size_alloc] at this
  refine hK _ _ ((KeepsFrom.trans ((KeepsOthers.alloc _ _).from _) ((KeepsOthers.alloc _ _).from _))) (((Kq.refl _ W).alloc (by omega) _).alloc (by simp;omega) _) ⟨⟨u,(hu.alloc _).alloc _,(hrow.alloc _).alloc _,trivial⟩,(hB1.alloc (by omega) _).alloc (by simp;omega) _⟩ ⟨W.heap.size,W.heap.size+1,by omega,by omega,a1.alloc _,a2,rfl⟩
 case body=>
  rintro lp pre ⟨⟨p,q⟩,i,j,hij,hpi,hqj⟩ a' W _ _ ⟨⟨u,hu,hrow,_⟩,hB1⟩ ⟨B1,B2,e1,e2,a1,a2,rfl⟩ hlt;have hp:p.ok=true:=hpt hpi;have hq:q.ok=true:=hpt hqj;have hid:p.id≠q.id:=λe=>by
   have h1:=(cT h.2.2).inj (au hpi) (au hqj) e;have h2:=rP h.2.2 hpi;have h3:=rP h.2.2 hqj;rw[h1] at h2;omega
  have hml:(msF (pre.map Subtype.val)).length<=5000:=bw (Xa _) (by rw[ai];omega);have hs1:=hB1.size;have b10:=a1.c0;have b11:=a1.c1;have b12:=a1.c2;have b20:=a2.c0;have b21:=a2.c1;have b22:=a2.c2;obtain⟨r,x,hmc⟩:∃r x,adz p q r x:=⟨_,_,aiz p q⟩;have hcon:∀(n:Nat) (W:World),CallsIn (F.inRound lp) n Tryz.prog 117 #[.agg #[.int .i64 p.id,.int .i64 p.a,.int .i64 p.b],.agg #[.int .i64 q.id,.int .i64 q.a,.int .i64 q.b]] W λe w'=>e= .returned (.tuple #[.agg #[.int .i64 r.num,.int .i64 r.den],.int .i64 x])/\ W.grownBy w' none:=λn W=>by
   refine CallsIn.inRound lp (toF n ((afq hp hq hid W).mono ?_));rintro e w' ⟨h1,n,os,h2⟩;rw[hmc.1] at h1;exact⟨h1,Xd h2⟩
  gi_wp2_with (first
   |(gi_at_call 117;refine(hcon _ _).mono ?_;rintro e w1 ⟨rfl,hg⟩;have hu1:=hu.kept hg (by simp);have hr1:=Ry hrow hg;have hk1:KeepsFrom W0.heap.size W w1:=((KeepsOthers.of_grownBy hg (λj o ej hj=>by cases ej)).from _);have hq1:=(Kq.refl w.heap.size W).grown hs1 hg;have c10:=(a1.kept hg (by simp)).c0;have c20:=(a2.kept hg (by simp)).c0;have l10:=(a1.kept hg (by simp)).lt;have l20:=(a2.kept hg (by simp)).lt;have cu:=hu1.cell;have hs2:=hg.size;have hs2':w.heap.size<=w1.heap.size:=bw hs1 hs2;have hul:=hu1.lt)
   |(gi_at_builtin;refine wpListIn_append_own _ rfl _ _ 36 rfl w.heap.size 41 i0 _ 4 32 Tryz.underlying36 hi hz0 hz1 hz2 rfl (by decide) _ _ _ rfl ((hr1.alloc _).alloc _) ⟨w1.heap.size+1,0,none⟩ 1 1 (jw ⟨r,p.id,q.id⟩) rfl rfl ?c1 ?c2 ?c3 ?c4 ?c5 ?_
     case c1=>intro j u hj;have:=Rz (w1.alloc (.cells #[.int .i64 r.num,.int .i64 r.den] 26)) (jw ⟨r,p.id,q.id⟩) 41 j u hj;rwa [World.size_alloc] at this
     case c2=>simp[jw,Value.oneCell']
     case c3=>have:(5000:Nat)<maxLen:=by decide
              omega
     case c4=>omega
     case c5=>simp;omega
     intro v' w2 hown' hgrow _;obtain⟨g',cap',rfl⟩:=ownsRow_succ hown';obtain⟨hv1,hv2,hr2,hk2,hb2⟩:=(hu1.alloc (.cells #[.int .i64 r.num,.int .i64 r.den] 26)).appended (by decide) (hr1.alloc _) (by simp;omega) (by omega) hown' hgrow;have hq2:=Kq.appended (hu1.alloc (.cells #[.int .i64 r.num,.int .i64 r.den] 26)) (hr1.alloc _) hgrow hb2;have hc1:=hv1.cell;have hf1:=hv1.frozen))
  .have hx:x=0:=by
    have:(x==0)=true:=by assumption
    simpa using this
   obtain⟨hb,hr⟩:=hmc.2.1 hx;have hqa:=(hq1.alloc hs2' (.cells #[.int .i64 r.num,.int .i64 r.den] 26)).trans hq2;refine⟨(hk1.trans ((KeepsOthers.alloc _ _).from _)).trans (hk2.from _),hqa,⟨_,hv2,?_,trivial⟩,hB1.trans hqa.below⟩;have e:(pre++[(⟨(p,q),i,j,hij,hpi,hqj⟩:PP2 l)]).map Subtype.val=pre.map Subtype.val++[(p,q)]:=by simp
   have em:(⟨r,p.id,q.id⟩:Mt)=fR p q:=by rw[hr];rfl
   rw[e,W9 _ hb,aD,kZ,List.flatMap_singleton,<-em];exact hr2
  .have hx:x≠0:=by
    have:(x==0)=false:=by first|assumption|simp_all
    simpa using this
   have hb:=hmc.2.2 hx;have hqa:=hq1.alloc hs2' (.cells #[.int .i64 r.num,.int .i64 r.den] 26);refine⟨hk1.trans ((KeepsOthers.alloc _ _).from _),hqa,⟨_,hu1.alloc _,?_,trivial⟩,hB1.trans hqa.below⟩;have e:(pre++[(⟨(p,q),i,j,hij,hpi,hqj⟩:PP2 l)]).map Subtype.val=pre.map Subtype.val++[(p,q)]:=by simp
   rw[e,T6 _ hb];exact hr1.alloc _
 case done=>
  rintro D ys W hD hys ⟨⟨u,hu,hrow,_⟩,hB1⟩ hK;rw[hys,K6] at hrow;have hc:=hu.cell;have hs1:=hB1.size;have hcon:=toF (12-1) (T8 (λm hm=>se h hm) hraw hrow hs1)
  gi_wp2_with (gi_at_call 118;refine hcon.mono ?_;rintro e w' ⟨rfl,hb,hk,hfin⟩;have hu1:Boxed w' (w.heap.size+1) 36 u:=(hk _ hu.lt (hu.not_row (by decide) hrow)).trans hu;have cu:=hu1.cell)
  have hDn:some D≠u.ownBlock:=λe=>by
   rcases hrow.2 with⟨rfl,_⟩|⟨g,cap,cur,rfl,_,hgb,_⟩
   .cases e
   .obtain rfl:D=g:=by simpa [Value.ownBlock] using e
    rw[hK] at hgb;cases hgb
  have hK':=(hk D (bz.1 hK).1 hDn).trans hK;refine⟨by simp,.inl ⟨_,_,rfl,run_takeDeferred hK',?_⟩⟩;refine⟨_,results_tmp rfl _ _ _,u,rfl,hB1.trans (hb.trans (belowK_b (w:=w) (aB _) w' D _ _ (by omega) hK' rfl rfl)),?_⟩;refine hfin.imp id ?_;rintro⟨B,cap,arr,q1,q2,q3,⟨ty,fz,q4,q5⟩,q6,q7,q8⟩;have hne:B≠D:=λe=>by
   subst e;rw[hK'] at q4;cases q4
  exact⟨B,cap,arr,q1,q2,q3,⟨ty,fz,(World.putObj_heap_other hne).trans q4,q5⟩,q6,by simpa using q7,q8⟩
 case stop=>
  rintro D c pre W _ _ h _;exact h.elim
open Go.Shelf Go.RowKit Go.Lib
def adA {w:World}{S:Nat->Prop}{v:Value}{cs:List PV}(h:RT w S v (.agg cs)):∃a:Array Value,v= .agg a/\ RTs w S a.toList cs:=by
 cases h with
 |agg h _=>exact⟨_,rfl,h⟩
def JL {w:World}{S:Nat->Prop}:∀{l:List Pt} {vs:List Value},RTs w S vs (l.map row).flatten->vs=l.flatMap ik
 |[],_,h=>by cases h;rfl
 |p::l,_,h=>by
  rw[bH,ee] at h;have h:RTs w S _ (.i64 p.id:: .i64 p.a:: .i64 p.b::(l.map row).flatten):=h;cases h with
  |cons h1 h=>
   cases h with
   |cons h2 h=>
    cases h with
    |cons h3 h=>
     rw[lR h1,lR h2,lR h3,JL h];rfl
def RA {w:World}{S:Nat->Prop}:∀{l:List Mt},RTs w S (l.flatMap jw) (l.map jU).flatten
 |[]=> .nil
 |_::_=> .cons (.v rfl) (.cons (.v rfl) (.cons (.v rfl) (.cons (.v rfl) RA)))
def Xe {w:World}{S:Nat->Prop}{v:Value}{l:List Pt}(h:RT w S v (sl row l))(hS:∀B,S B->B<w.heap.size):Ns w.heap.size w v l:=by
 unfold sl at h;generalize he:PV.sl (l.map row)=x at h;cases h with
 |v=>cases he
 |agg=>cases he
 |nil h=>
  have hl:l=[]:=by simpa using he
  subst hl;rcases h with rfl|⟨b,o,rfl⟩
  .exact .inl ⟨rfl,rfl⟩
  .exact .inr ⟨b,o,0,rfl,aB _,⟨λh=>absurd rfl h,λj p e=>by simp at e,λj p e=>by simp at e,λj p e=>by simp at e⟩⟩
 |sl hB hg hz hn hc hr hE=>
  rename_i B o n cap z arr ty fz els;cases he;rw[ai] at hn;subst hn;refine .inr ⟨B,o,cap,rfl,hc,?_⟩;by_cases hl:l=[]
  .subst hl;exact⟨λh=>absurd rfl h,λj p e=>by simp at e,λj p e=>by simp at e,λj p e=>by simp at e⟩
  .have hz3:z=3:=by
    cases l with
    |nil=>exact absurd rfl hl
    |cons p l=>exact(hr (row p) (by simp)).1.symm
   subst hz3;have hcells:=JL hE;have key:∀(j k:Nat) (p:Pt),k<3->l[j]?=some p->w.cell? ⟨B,o+(j*3+k),none⟩=(ik p)[k]?:=λj k p hk hp=>by
    have h1:=At (by decide:0<3) ik (λ_=>rfl) l j k hk;rw[hp,<-hcells] at h1;have hj:=(aC.1 hp).1;rw[cH (by omega),eG,bL] at h1;simp only[World.cell?,hg];simpa using h1
   refine⟨λ_=>hS B hB,λj p hp=>?_,λj p hp=>?_,λj p hp=>?_⟩
   .exact key j 0 p (by decide) hp
   .exact key j 1 p (by decide) hp
   .exact key j 2 p (by decide) hp
def Xf {vs rs:List PV}(hx:ym vs=some rs):iP D.toDcf 48 vs rs:=by
 obtain⟨l,rfl,h,rfl⟩:=QU hx;refine⟨Tryz.f48,Tryz.func48,by simp[Tryz.f48],by decide,by kernel_rfl,?_⟩;rw[show D.toDcf.lend 48=none by kernel_rfl]
 intro w S vs hvs hS;obtain⟨vs⟩:=vs;cases hvs with
 |cons h1 hvs=>
  cases hvs;obtain⟨a,rfl,g1⟩:=adA h1;obtain⟨a⟩:=a;cases g1 with
  |cons hv g1=>
   cases g1;refine(T9 h (Xe hv hS)).mono ?_;rintro e w' ⟨u,rfl,hb,hu⟩;have hlen:(srtM l).length=(rawM l).length:=hG _;have hz:=hb.size;have hblk:∀B,B<w.heap.size->w'.heap[B]?=w.heap[B]?:=hb.block;have hs:D.toDcf.slots 48=[]:=by kernel_rfl
   have a36:bT D.toDcf.P 36=some false:=by kernel_rfl
   have hfr:Frm w.heap.size (D.toDcf.lf none w) w w':=⟨hb.os,hb.tape,hb.output,hz,λk h1 _=>hblk k h1,λh=>absurd (.inr ⟨by kernel_rfl,aB _⟩) h⟩;have fin:∀S':Nat->Prop,RT w' S' u (sl jU (srtM l))->(∀B,S B->S' B)->(∀B,S' B->B<w'.heap.size)->(∀B,S' B->S B\/w.heap.size<=B)->∃u' S' us Bs,Ending.returned u= .returned u'/\ Aft D.toDcf Tryz.f48 48 w S (D.toDcf.lf none w) (λ_=>False) [sl jU (srtM l)] u' w' S' us Bs:=λS' r1 r3 r4 r5=>by
    refine⟨_,S',[u],[],rfl,⟨rfl,?_,mG,(λ_ h=>by cases h),⟨r3,λB hB=>hblk B (hS B hB)⟩,r4,λB hB=>(r5 B hB).imp_right .inl,hfr⟩⟩;rw[show Tryz.f48.resultTypes.toList=[36] from rfl,hs]
    refine .cons (Bs:=[]) ?_ .nil;unfold RR;rw[a36];exact .inl ⟨rfl,rfl,r1,rfl⟩
   rcases hu with⟨hl,rfl⟩|⟨B,cap,arr,rfl,q1,q2,⟨ty,fz,q4,q5⟩,q6,q7,q8⟩
   .refine fin S ?_ (λ_ h=>h) (λB hB=>bV (hS B hB) hz) λB hB=> .inl hB;rw[show srtM l=[] from cJ.1 (by rw[hlen,hl];rfl)]
    exact .nil (.inl rfl)
   .refine fin (λb=>S b\/b=B) ?_ (λ_ h=> .inl h) (λb hB=>hB.elim (λh=>bV (hS b h) hz) λe=>by omega) λb hB=>hB.elim .inl λe=> .inr (by omega);refine .sl (z:=4) (.inr rfl) q4 (by omega) (by rw[ai];exact hlen) q1 (λr hr=>?_) ?_
    .obtain⟨m,_,rfl⟩:=bb.1 hr;exact⟨rfl,rfl⟩
    .rw[dR,q8];exact RA
end Go.Proofs.YtoeigdpfcnaaeaaGreat
