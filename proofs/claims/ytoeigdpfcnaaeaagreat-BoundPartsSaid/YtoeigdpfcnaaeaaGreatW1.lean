import Derived.Test.YtoeigdpfcnaaeaaGreatF1
import Derived.RangeFuncNested
import Derived.RangeFuncBound
import Derived.RangeFuncCalls
import Derived.RangeFuncLeaves
import Derived.Shelf.Abstract
import Derived.Shelf.RegionOpen
import Derived.WalkKit
import Derived.OwnWalkIn
import Derived.TacticsInMore
import Derived.LoopNIn
import Derived.LoopIn
import Derived.Maps.AppendAt
import Derived.Test.YtoeigdpfcnaaeaaGreatProg
import Derived.Test.YtoeigdpfcnaaeaaGreatN1
import Derived.Test.YtoeigdpfcnaaeaaGreatC1
import Derived.Test.YtoeigdpfcnaaeaaGreatM3
import Derived.Test.YtoeigdpfcnaaeaaGreatSM
import Derived.Lib.Walk
import Derived.LoopN
import Derived.Test.YtoeigdpfcnaaeaaGreatSO
set_option linter.unusedVariables false
set_option linter.unusedSimpArgs false
set_option linter.defProp false
noncomputable section
namespace Go.Proofs.YtoeigdpfcnaaeaaGreat
open Go.Sym Bnd
set_option maxRecDepth 100000
def evX (tag:Int)(l:List Pt)(a b:Rt):Option (List Crt):=
 if tag=1 then(qh b (kR a l).clock (kR a l).heap).map (·.2.2)
 else if tag=2 then(fd (edT l (cM l)) b (iJ a l).clock).map (·.2)
 else if tag=3 then(fd (λt=>edgsT (cart t l).nodes l.length) b (l5 a l).clock).map (·.2)
 else(fd (λt=>cv l (cS t l)) b (l6 a l).clock).map (·.2)
def evO (o:Option (List Crt)):Int:=if o.isSome=true then 0 else 18
def BL {c x:Choice}{t:Rt}{f:FuncId}{o:Option (List Crt)}(h:Ans D f [CHO c,R t] (rE x (sl crow (o.getD [])) (evO o))):∃x,Ans D f [CHO c,R t] [CHO x,sl crow (o.getD []),.i64 (evO o)]:=by
 cases o with
 |none=>exact⟨zCH,h⟩
 |some out=>exact⟨x,h⟩
section
variable {t:Rt}(hr:rok t=true)(ht:aQ t)
include hr ht
open Classical in
theorem ahJ {k:KHeap}(hk:iG k)(h64:fF k.clock)(hg:gKh k=false)(hp:crs k.clock.now t<=0):∃x:KHeap,Ans D 96 [KH k,R t] [KH x,sl crow (((qh t k.clock k.heap).map (·.2.2)).getD []),.i64 (evO ((qh t k.clock k.heap).map (·.2.2)))]:=by
 have hchk:=c77 h64 hg;rw[aq hk] at hchk;have a:=c45 hchk (RP hk h64) hr ht hp;unfold goK at a;cases hgo:qh t k.clock k.heap with
 |none=>rw[hgo] at a;exact⟨zKH,a⟩
 |some z=>rw[hgo] at a;exact⟨_,a⟩
open Classical in
theorem ahK {k:KTourn}(hk:eZ k)(h64:fF k.clock)(hg:gKt k=false)(hp:crs k.clock.now t<=0):∃x:KTourn,Ans D 97 [KT k,R t] [KT x,sl crow (((fd (edT k.clock.pts k.brk.places) t k.clock).map (·.2)).getD []),.i64 (evO ((fd (edT k.clock.pts k.brk.places) t k.clock).map (·.2)))]:=by
 obtain⟨h,hu,⟨h1,h2,ho⟩,hall⟩:=NJ hk h64;have hchk:=c78 h64 hg;rw[aq hk] at hchk;have a:=c46 h hu h1 h2 hk.2.2.2.1 ho hr ht hp hchk;unfold goT at a;cases hgo:fd (edT k.clock.pts k.brk.places) t k.clock with
 |none=>rw[hgo] at a;exact⟨zKT,a⟩
 |some z=>rw[hgo] at a;exact⟨_,a⟩
open Classical in
theorem ahL {k:Heater}(hk:jI k)(h64:fF k.clock)(hg:gHt k=false)(hp:crs k.clock.now t<=0):∃x:Heater,Ans D 98 [HT k,R t] [HT x,sl crow (((fd (λt=>edgsT (cart t k.clock.pts).nodes k.clock.pts.length) t k.clock).map (·.2)).getD []),.i64 (evO ((fd (λt=>edgsT (cart t k.clock.pts).nodes k.clock.pts.length) t k.clock).map (·.2)))]:=by
 have hchk:=c79 h64 hg;rw[aq hk] at hchk;have a:=c47 hchk (RN hk h64).1 hk.2.1.symm hr ht hp;unfold goH at a;cases hgo:fd (λt=>edgsT (cart t k.clock.pts).nodes k.clock.pts.length) t k.clock with
 |none=>rw[hgo] at a;exact⟨zHT,a⟩
 |some z=>rw[hgo] at a;exact⟨_,a⟩
open Classical in
theorem ahM {k:KHeap}(hk:jH k)(h64:fF k.clock)(hg:gKh k=false)(hp:crs k.clock.now t<=0):∃x:KHeap,Ans D 99 [KH k,R t] [KH x,sl crow (((fd (λt=>cv k.clock.pts (cS t k.clock.pts)) t k.clock).map (·.2)).getD []),.i64 (evO ((fd (λt=>cv k.clock.pts (cS t k.clock.pts)) t k.clock).map (·.2)))]:=by
 have hchk:=c80 h64 hg;rw[aq hk] at hchk;have a:=c48 hchk (RM hk h64).1 hk.2.1.symm hr ht hp;unfold goU at a;cases hgo:fd (λt=>cv k.clock.pts (cS t k.clock.pts)) t k.clock with
 |none=>rw[hgo] at a;exact⟨zKH,a⟩
 |some z=>rw[hgo] at a;exact⟨_,a⟩
end
section
variable {tag:Int}{l:List Pt}{a b:Rt}(hg:tag=1\/tag=2\/tag=3\/tag=4)(ha:aQ a)(hba:bE l a=0)(haa:cO a=0)(h10:l.length<=10)
include hg ha hba haa h10
open Classical in
theorem Ja:Ans D 27 [CHO (dw tag l a)] [.i64 0]:=by
 obtain⟨g,h64⟩:=Fq hg ha hba h10;have h:=c26 h64 g;rw[aq (JU hg ha hba haa).1] at h;exact h
theorem Tp (hb:aQ b)(hr:rok b=true)(hab:cO b=0)(hp:crs a b<=0):∃x:Choice,Ans D 37 [CHO (dw tag l a),R b] [CHO x,sl crow ((evX tag l a b).getD []),.i64 (evO (evX tag l a b))]:=by
 have hc:=phi (Ja hg ha hba haa h10);obtain⟨hl,hra⟩:=vD hba;obtain⟨f0,f1,f2⟩:=lZ hl;obtain⟨g,h64⟩:=Fq hg ha hba h10;obtain⟨g1,g2,g3,g4⟩:=An g;have e1:=gr (rD hl (pI (t:=a))) hl ha hra λe he=>tC (vE hl _ (aB _)) he;obtain⟨b1,b2,b3⟩:=iv (t:=a) hl f1 f2 dJ (eg hl);have e2:=gr (jN (t:=a) hl f1 f2 dJ (eg hl)) hl ha hra λe he=>(iu (b:=bracketOf a l (cM l)) hl b2 dJ b3 he).2.2;have e3:=gr (lA (t:=a) hl) hl ha hra λe he=>(fU hl he).2.2;have e4:=gr (lz (t:=a) hl) hl ha hra λe he=>(eW hl he).2.2;unfold evX;rcases hg with rfl|rfl|rfl|rfl
 .have hm:dw 1 l a=⟨1,kR a l,zKT,zHT,zKH⟩:=by unfold dw yw;rw[ad rfl,ad hba]
  rw[hm] at hc h64 g1|-;rw[ad rfl];obtain⟨x,hx⟩:=ahJ hr hb (Fl hl ha hra) h64.h1 g1 (by show crs (certAll _ _).now b<=0;rw[e1.2.2.1];exact hp)
  exact BL (Ug hc hr hb hab rfl hx)
 .have hm:dw 2 l a=⟨2,zKH,iJ a l,zHT,zKH⟩:=by unfold dw tV;rw[ac (by decide),ad rfl,ad hba]
  rw[hm] at hc h64 g2|-;rw[ac (by decide),ad rfl];obtain⟨x,hx⟩:=ahK hr hb (Dd hl ha hra) h64.h2 g2 (by show crs (certAll _ _).now b<=0;rw[e2.2.2.1];exact hp)
  have ep:(iJ a l).clock.pts=l:=e2.2.1;have eb:(iJ a l).brk.places=cM l:=rfl;rw[ep,eb] at hx;exact BL (Uh hc hr hb hab rfl hx)
 .have hm:dw 3 l a=⟨3,zKH,zKT,l5 a l,zKH⟩:=by unfold dw yx;rw[ac (by decide),ac (by decide),ad rfl,ad hba]
  rw[hm] at hc h64 g3|-;rw[ac (by decide),ac (by decide),ad rfl];obtain⟨x,hx⟩:=ahL hr hb (Fo hl ha hra) h64.h3 g3 (by show crs (certAll _ _).now b<=0;rw[e3.2.2.1];exact hp)
  have ep:(l5 a l).clock.pts=l:=e3.2.1;rw[ep] at hx;exact BL (Ui hc hr hb hab rfl hx)
 .have hm:dw 4 l a=⟨4,zKH,zKT,zHT,l6 a l⟩:=by unfold dw yy;rw[ac (by decide),ac (by decide),ac (by decide),ad hba]
  rw[hm] at hc h64 g4|-;rw[ac (by decide),ac (by decide),ac (by decide)];obtain⟨x,hx⟩:=ahM hr hb (Fm hl ha hra) h64.h4 g4 (by show crs (certAll _ _).now b<=0;rw[e4.2.2.1];exact hp)
  have ep:(l6 a l).clock.pts=l:=e4.2.1;rw[ep] at hx;exact BL (Uj hc hr hb hab rfl hx)
end
def evE (tag:Int)(l:List Pt)(a b:Rt):Int×Int:=
 if¬(tag=1\/tag=2\/tag=3\/tag=4) then(0,2) else if eE l a≠0 then(0,eE l a) else if cO b≠0 then(0,cO b) else if crs b a<0 then(0,44) else((((evX tag l a b).getD []).length:Int),evO (evX tag l a b))
def Jb {tag:Int}{l:List Pt}{a b:Rt}(hg:tag=1\/tag=2\/tag=3\/tag=4)(hn:eE l a=0)(hab:cO b=0)(hp:¬crs b a<0):evE tag l a b=((((evX tag l a b).getD []).length:Int),evO (evX tag l a b)):=by
 unfold evE;rw[ac (λh=>h hg),ac (λh=>h hn),ac (λh=>h hab),ac hp]
def Wq {l:List Pt}{a:Rt}(h:eE l a=0):bE l a=0/\ cO a=0:=by
 unfold eE at h;split at h
 .exact⟨by assumption,h⟩
 .contradiction
def DM {b:Rt}(h:cO b=0):rok b=true:=by
 unfold cO at h;cases hr:rok b with
 |true=>rfl
 |false=>rw[hr] at h;cases h
def Wr {tag:Int}{l:List Pt}{a:Rt}(hg:tag=1\/tag=2\/tag=3\/tag=4):nW tag l a=[CHO (l7 (dw tag l a) (eE l a)),.i64 (eE l a)]:=ad hg
def s7 {e:Int}:(!decide (e=0))=decide (e≠0):=by simp
def Jc (tag:Int){l:List Pt}{a b:Rt}(ha:aQ a)(hb:aQ b)(h10:l.length<=10\/gk l≠0):Ans D 9 [.v (.int .u8 tag),F l,R a,R b] [.i64 (evE tag l a b).1,.i64 (evE tag l a b).2]:=by
 have m1:=phi (c20 tag (l:=l) ha);refine am ?_;unfold Yf;by_cases hg:tag=1\/tag=2\/tag=3\/tag=4
 .rw[Wr hg] at m1;by_cases hn:eE l a=0
  .obtain⟨hba,haa⟩:=Wq hn;have h10:l.length<=10:=h10.resolve_right λh=>by
    unfold bE at hba;split at hba
    .contradiction
    .exact h hba
   have hk:l7 (dw tag l a) 0=dw tag l a:=rfl;rw[hn,hk] at m1;have hc:=phi (Ja hg ha hba haa h10);by_cases hab:cO b=0
   .by_cases hp:crs b a<0
    .obtain⟨g,h64⟩:=Fq hg ha hba h10;obtain⟨o1,o2,o3⟩:=JU hg ha hba haa;have m2:=phi (ahf h64 g o1 (DM hab) hb hab (by rw[o3];exact hp));have e:evE tag l a b=(0,44):=by unfold evE;rw[ac (λh=>h hg),ac (λh=>h hn),ac (λh=>h hab),ad hp]
     simp[EV,bv,bm,m1,m2,gN,e]
    .obtain⟨x,hx⟩:=Tp hg ha hba haa h10 hb (DM hab) hab (by have:=eS a b;omega);have m2:=phi hx;simp[EV,bv,bm,m1,m2,gN,Jb hg hn hab hp]
   .have m2:=phi (d15 (t:=b) hc hb hab);have e:evE tag l a b=(0,cO b):=by unfold evE;rw[ac (λh=>h hg),ac (λh=>h hn),ad hab]
    simp[EV,bv,bm,m1,m2,gN,e]
  .have e:evE tag l a b=(0,eE l a):=by unfold evE;rw[ac (λh=>h hg),ad hn]
   simp[EV,bv,bm,m1,gN,e,hn]
 .have hm:nW tag l a=[CHO zCH,.i64 2]:=ac hg;rw[hm] at m1;have e:evE tag l a b=(0,2):=by unfold evE;rw[ad hg]
  simp[EV,bv,bm,m1,gN,e]
open Go.RowKit Go.Shelf
attribute [local go_sem] Oper.semAt_some
def ig (p:Pt):List Value:=[.int .i64 p.id,.int .i64 p.a,.int .i64 p.b]
def Tq (F:Fence)(n:Nat)(h:F.fn 116)(hro:F.round=none)(v:Value)(w:World):
  CallsIn F n Tryz.prog 116 #[.agg #[v]] w λe w'=>e= .returned (.func (.func 214) #[] #[.pointer (some ⟨w.heap.size,0,none⟩)])/\ w'=w.alloc (.cells #[v] 24):=by
 refine callsIn_of_wp Tryz.func116 rfl h ?_ hro;simp only[Tryz.ntmps116,ga,aV,cL,Nat.reduceAdd,Nat.reduceSub,j9,kb,mG,kK,aO,aU]
 gi_wp2
 go_ret
 exact⟨rfl,rfl⟩
abbrev PP2 (l:List Pt):={x:Pt×Pt//∃i j:Nat,i<j/\ l[i]?=some x.1/\ l[j]?=some x.2}
def M7 {l:List Pt}(x:PP2 l):Array Value:=#[.agg (ig x.1.1).toArray,.agg (ig x.1.2).toArray]
def hdP (l:List Pt)(i:Nat):List (Pt×Pt):=(List.range i).flatMap λa=>(l.drop (a+1)).map λq=>((l[a]?).getD ⟨0,0,0⟩,q)
def Jd (l:List Pt)(i:Nat):hdP l (i+1)=hdP l i++(l.drop (i+1)).map λq=>((l[i]?).getD ⟨0,0,0⟩,q):=by
 unfold hdP;rw[oz,kN];simp
def Kw (l:List Pt):∀k,(hdP l k).length<=k*l.length
 |0=>cV _
 |k+1=>by
  have:=Kw l k;rw[Jd,aC,ai,b9,b6];omega
structure Kq (n₀:Nat)(W W':World):Prop where
 below:Below n₀ W W'
 keep:∀(k:Nat) (cs:Array Value) (t:TypeId) (fz:Nat×Nat),W.heap[k]?=some (.cells cs t fz)->t=72\/t=24->W'.heap[k]?=some (.cells cs t fz)
def Kq.trans {n₀:Nat}{A B C:World}(h:Kq n₀ A B)(k:Kq n₀ B C):Kq n₀ A C:=⟨h.below.trans k.below,λi cs t fz hi ht=>k.keep i cs t fz (h.keep i cs t fz hi ht) ht⟩
def Kq.refl (n₀:Nat)(W:World):Kq n₀ W W:=⟨Below.refl _ _,λ_ _ _ _ h _=>h⟩
def Kq.alloc {n₀:Nat}{A W:World}(h:Kq n₀ A W)(hn:n₀<=W.heap.size)(o:Obj):Kq n₀ A (W.alloc o):=h.trans ⟨(Below.refl _ _).alloc hn o,λk _ _ _ hk _=>(Below.heap_alloc W o k (bA.1 hk).1).trans hk⟩
structure RowAt (n₀:Nat)(W:World)(b off:Nat)(l:List Pt):Prop where
 lt:l≠[]->b<n₀
 c0:∀(j:Nat) (p:Pt),l[j]?=some p->W.cell? ⟨b,off+j*3,none⟩=some (.int .i64 p.id)
 c1:∀(j:Nat) (p:Pt),l[j]?=some p->W.cell? ⟨b,off+j*3+1,none⟩=some (.int .i64 p.a)
 c2:∀(j:Nat) (p:Pt),l[j]?=some p->W.cell? ⟨b,off+j*3+2,none⟩=some (.int .i64 p.b)
def RowAt.below {n₀:Nat}{A B:World}{b off:Nat}{l:List Pt}(h:RowAt n₀ A b off l)(k:Below n₀ A B):RowAt n₀ B b off l:=
 have ne:∀{j:Nat} {p:Pt},l[j]?=some p->b<n₀:=λe=>h.lt λhl=>by rw[hl] at e;cases e
 ⟨h.lt,λj p e=>(k.cell (p:=⟨b,off+j*3,none⟩) (ne e)).trans (h.c0 j p e),λj p e=>(k.cell (p:=⟨b,off+j*3+1,none⟩) (ne e)).trans (h.c1 j p e),λj p e=>(k.cell (p:=⟨b,off+j*3+2,none⟩) (ne e)).trans (h.c2 j p e)⟩
set_option maxHeartbeats 4000000 in
def aeO (F:Fence)(n:Nat)(hf:F.fn 214)(hro:F.round=none)(hn:1<=n)(z Bs n₀ b off cap:Nat)(l:List Pt)(hl:l.length<=64)(hcap:l.length<=cap)(J Jx:List (PP2 l)->World->Prop)
  (hJ:∀pre W W',J pre W->W.grownBy W' none->J pre W')
  (hY:∀pre x W,J pre W->pre.length<5000->YieldAt F (n-1) Tryz.prog z (M7 x) W λe W'=>
   (e= .returned (.bool true)/\ J (pre++[x]) W'/\ Kq n₀ W W')\/(e= .returned (.bool false)/\ Jx (pre++[x]) W'))
  (W:World) (hn₀:n₀<=W.heap.size) (fz:Nat×Nat) (hBs:W.heap[Bs]?=some (.cells #[.slice (some ⟨b,off,none⟩) l.length cap] 24 fz)) (hc:RowAt n₀ W b off l) (h0:J [] W):
  CallsIn F n Tryz.prog 214 #[.func (.yield z) #[] #[],.pointer (some ⟨Bs,0,none⟩)] W λe W'=>(∃v,e= .returned v)/\
   ((∃ys,ys.map Subtype.val=hdP l l.length/\ J ys W')\/(∃pre,Jx pre W')):=by
 have hb0:W.cell? ⟨Bs,0,none⟩=some (.slice (some ⟨b,off,none⟩) l.length cap):=by simp[World.cell?,hBs]
 refine callsIn_of_wp Tryz.func214 rfl hf ?_ hro;simp only[Tryz.ntmps214,ga,aV,cL,Nat.reduceAdd,Nat.reduceSub,j9,kb,mG,kK,aO,aU]
 gi_wp2
 gi_loopw [10] (λi wr=>∃(k:Nat) (ys:List (PP2 l)),k<=l.length/\ i= .int .i64 k/\ ys.map Subtype.val=hdP l k/\ J ys wr/\ Kq n₀ W wr)
  (λi _=>l.length-(intOf i).toNat)
 case atStart=>exact⟨0,[],cV _,rfl,rfl,h0,Kq.refl _ _⟩
 case round=>
  rename World=>wo
  obtain⟨k,ys,hk,rfl,hys,hJ1,hnx⟩:=hrel;by_cases hlt:k<l.length
  .obtain⟨p,hp⟩:∃p,l[k]?=some p:=⟨l[k],ah _⟩;have hc':=hc.below hnx.below;have f0:=hc'.c0 k p hp;have f1:=hc'.c1 k p hp;have f2:=hc'.c2 k p hp;have hz:=hnx.below.size;have hb1:=hnx.keep _ _ _ _ hBs (.inr rfl);have hb:wo.cell? ⟨Bs,0,none⟩=some (.slice (some ⟨b,off,none⟩) l.length cap):=by simp[World.cell?,hb1]
   have hBl:Bs<wo.heap.size:=(bA.1 hb1).1;have hne:¬Bs=wo.heap.size:=by omega
   have hne':¬wo.heap.size=Bs:=by omega
   have hK1:Kq n₀ W (wo.alloc (.cells #[.int .i64 p.id,.int .i64 p.a,.int .i64 p.b] 72)):=hnx.alloc (by omega) _;have hbx:(wo.alloc (.cells #[.int .i64 p.id,.int .i64 p.a,.int .i64 p.b] 72)).heap[wo.heap.size]?=some (.cells #[.int .i64 p.id,.int .i64 p.a,.int .i64 p.b] 72 (0,0)):=World.alloc_heap_new wo _;have hJ2:J ys (wo.alloc (.cells #[.int .i64 p.id,.int .i64 p.a,.int .i64 p.b] 72)):=hJ _ _ _ hJ1 (World.grownBy_alloc _ _ _);have next:hdP l (k+1)=hdP l k++(l.drop (k+1)).map λq=>(p,q):=by rw[Jd,hp];rfl
   by_cases hcx:cap=k+1
   .have hl1:l.length=k+1:=by omega
    gi_wp2
    gi_loopw [21] (λi w1=>i= .int .i64 0/\ J ys w1/\ Kq n₀ W w1) (λ_ _=>0)
    case atStart=>exact⟨rfl,hJ2,hK1⟩
    case round=>
     obtain⟨rfl,hJ3,hK3⟩:=hrel
     gi_wp2
     go_roundw
     case rel=>exact⟨k+1,ys,by omega,by simp,by rw[next,hys,tN (by omega)];simp,hJ3,hK3⟩
     case measure=>simp[intOf];omega
   gi_wp2
   gi_loopw [21] (λi w1=>∃(m:Nat) (zs:List (PP2 l)),m<=l.length-(k+1)/\ i= .int .i64 m/\ zs.map Subtype.val=hdP l k++((l.drop (k+1)).take m).map (λq=>(p,q))/\ J zs w1/\ Kq n₀ W w1/\ w1.heap[wo.heap.size]?=some (.cells #[.int .i64 p.id,.int .i64 p.a,.int .i64 p.b] 72 (0,0)))
    (λi _=>l.length-(k+1)-(intOf i).toNat)
   case atStart=>exact⟨0,ys,cV _,rfl,by simp[hys],hJ2,hK1,hbx⟩
   case round=>
    obtain⟨m,zs,hm,rfl,hzs,hJ3,hK3,hbx3⟩:=hrel;by_cases hlm:m<l.length-(k+1)
    .obtain⟨q,hq⟩:∃q,l[k+1+m]?=some q:=⟨l[k+1+m],ah _⟩;have hc3:=hc.below hK3.below;have g0:=hc3.c0 _ q hq;have g1:=hc3.c1 _ q hq;have g2:=hc3.c2 _ q hq;have e0:off+(k+1+m)*3=off+(k+1)*3+m*3:=by omega
     rw[e0] at g0 g1 g2;have hz3:=hK3.below.size;have hbl3:wo.heap.size<wr.heap.size:=(bA.1 hbx3).1;have b0:wr.cell? ⟨wo.heap.size,0,none⟩=some (.int .i64 p.id):=by simp[World.cell?,hbx3]
     have b1:wr.cell? ⟨wo.heap.size,1,none⟩=some (.int .i64 p.a):=by simp[World.cell?,hbx3]
     have b2:wr.cell? ⟨wo.heap.size,2,none⟩=some (.int .i64 p.b):=by simp[World.cell?,hbx3]
     have hlen:zs.length<5000:=by
      have e:=aW List.length hzs;have h1:=Kw l k;have h2:k*l.length<=64*64:=ee (by omega) hl;rw[ai,aC,ai,aP] at e;omega
     have hzs1:(zs++[(⟨(p,q),k,k+1+m,by omega,hp,hq⟩:PP2 l)]).map Subtype.val=hdP l k++((l.drop (k+1)).take (m+1)).map (λq=>(p,q)):=by
      have hx1:(l.drop (k+1)).take (m+1)=(l.drop (k+1)).take m++[q]:=by
       rw[cC,fN,hq];rfl
      rw[dQ,hzs,hx1];simp
     have hK4:Kq n₀ W (wr.alloc (.cells #[.int .i64 q.id,.int .i64 q.a,.int .i64 q.b] 72)):=hK3.alloc (by omega) _;have hbx4:(wr.alloc (.cells #[.int .i64 q.id,.int .i64 q.a,.int .i64 q.b] 72)).heap[wo.heap.size]?=some (.cells #[.int .i64 p.id,.int .i64 p.a,.int .i64 p.b] 72 (0,0)):=(Below.heap_alloc _ _ _ hbl3).trans hbx3;obtain⟨fn,tmps,assign,body,hy,hR⟩:=hY zs ⟨(p,q),k,k+1+m,by omega,hp,hq⟩ (wr.alloc (.cells #[.int .i64 q.id,.int .i64 q.a,.int .i64 q.b] 72)) (hJ _ _ _ hJ3 (World.grownBy_alloc _ _ _)) hlen
     dsimp only[M7,ig] at hy
     gi_wp2
     refine hR.mono ?_;rintro e W3 (⟨rfl,hJ5,hk5⟩|⟨rfl,hx⟩)
     .gi_wp2
      go_roundw
      case rel=>exact⟨m+1,_,by omega,by simp,hzs1,hJ5,hK4.trans hk5,hk5.keep _ _ _ _ hbx4 (.inl rfl)⟩
      case measure=>simp[intOf];omega
     .gi_wp2
      refine bodyPost_ret (results_none rfl _ _ _) rfl ?_;exact⟨⟨_,rfl⟩,.inr ⟨_,hx⟩⟩
    .have hme:m=l.length-(k+1):=by omega
     gi_wp2
     go_roundw
     case rel=>exact⟨k+1,zs,by omega,by simp,by rw[next,hzs,bk (by simp;omega)],hJ3,hK3⟩
     case measure=>simp[intOf];omega
  .obtain rfl:k=l.length:=by omega
   gi_wp2
   go_end0
   exact⟨⟨_,rfl⟩,.inl ⟨ys,hys,hJ1⟩⟩
set_option maxHeartbeats 1000000 in
def acS (F:Fence)(n:Nat)(hf:F.fn 214)(hro:F.round=none)(z Bs:Nat)(J:World->Prop)(W:World)(hBs:W.cell? ⟨Bs,0,none⟩=some (.slice none 0 0))(h0:J W):
  CallsIn F n Tryz.prog 214 #[.func (.yield z) #[] #[],.pointer (some ⟨Bs,0,none⟩)] W λe W'=>(∃v,e= .returned v)/\ J W':=by
 refine callsIn_of_wp Tryz.func214 rfl hf ?_ hro;simp only[Tryz.ntmps214,ga,aV,cL,Nat.reduceAdd,Nat.reduceSub,j9,kb,mG,kK,aO,aU]
 gi_wp2
 gi_loopw [10] (λi wr=>i= .int .i64 0/\ J wr) (λ_ _=>0)
 case atStart=>exact⟨rfl,h0⟩
 case round=>
  obtain⟨rfl,hJ⟩:=hrel
  gi_wp2
  go_end0
  exact⟨⟨_,rfl⟩,hJ⟩
def M8 (n₀:Nat)(W:World)(v:Value)(l:List Pt):Prop:=(v= .slice none 0 0/\ l=[])\/∃b off cap,v= .slice (some ⟨b,off,none⟩) l.length cap/\ l.length<=cap/\ RowAt n₀ W b off l
def Ts (F:Fence)(n:Nat)(hf:F.fn 214)(hro:F.round=none)(hn:1<=n)(Bs n₀:Nat)(v:Value)(l:List Pt)(hl:l.length<=64)(w:World)(hn₀:n₀<=w.heap.size)(hBs:w.heap[Bs]?=some (.cells #[v] 24 (0,0)))(hv:M8 n₀ w v l):
  SeqStopsK F n Tryz.prog 214 #[.pointer (some ⟨Bs,0,none⟩)] (M7 (l:=l)) (Kq n₀) (λys=>ys.map Subtype.val=hdP l l.length) (λ_=>True) 5000 w:=λz J Jx W hW hJ _ hY h0=>by
 have hb:W.heap[Bs]?=some (.cells #[v] 24 (0,0)):=(hW.block Bs (bA.1 hBs).1).trans hBs;rcases hv with⟨rfl,rfl⟩|⟨b,off,cap,rfl,hcap,hr⟩
 .refine(acS F n hf hro z Bs (J []) W (by simp[World.cell?,hb]) h0).mono ?_;rintro e W' ⟨h1,h2⟩;exact⟨h1,.inl ⟨[],rfl,h2⟩⟩
 .refine(aeO F n hf hro hn z Bs n₀ b off cap l hl hcap J Jx (λpre W W' h hg=>hJ pre W W' none h hg λr e=>by cases e) hY W (bz hn₀ hW.size) (0,0) hb (hr.below (hW.mono hn₀)) h0).mono ?_;rintro e W' ⟨h1,⟨ys,h2,h3⟩|⟨pre,h2⟩⟩
  .exact⟨h1,.inl ⟨ys,h2,h3⟩⟩
  .exact⟨h1,.inr ⟨pre,trivial,h2⟩⟩
open Go.Sort Go.Shelf
def aeP {p q:Pt}(hp:p.ok=true)(hq:q.ok=true)(hi:p.id≠q.id)(hb:p.b=q.b):Ans D 117 [PP p,PP q] [R ⟨0,0⟩,.i64 6]:=by
 have ht:aQ ⟨0,1⟩:=⟨⟨by decide,by decide⟩,⟨by decide,by decide⟩⟩;have h1:=phi (KO (p:=p) (q:=q) ht);rw[ln hp hq (by decide) hi] at h1;refine am ?_;unfold RQ;simp[km,bm,mI,wS,EV,h1,hb]
def ahN (a b c:Int):Ans D 219 [.sl [[.i64 a],[.i64 b],[.i64 c]]] [.i64 (if a=0 then(if b=0 then c else b) else a)]:=by
 refine an ⟨4,?_⟩;unfold RX;have w0:IntKind.i64.wrap (0+1)=1:=by decide
 have w1:IntKind.i64.wrap (1+1)=2:=by decide
 have e0:RF.ev (.tix 1) [.sl [[.i64 a],[.i64 b],[.i64 c]],.v (.int .i64 0)]=some (.i64 0):=rfl;have e1:RF.ev (.tix 1) [.sl [[.i64 a],[.i64 b],[.i64 c]],.v (.int .i64 1)]=some (.i64 1):=rfl;have e2:RF.ev (.tix 1) [.sl [[.i64 a],[.i64 b],[.i64 c]],.v (.int .i64 2)]=some (.i64 2):=rfl;have g0:RF.ev (.elt 0 0) [.sl [[.i64 a],[.i64 b],[.i64 c]],.v (.int .i64 0)]=some (.i64 a):=rfl;have g1:RF.ev (.elt 0 0) [.sl [[.i64 a],[.i64 b],[.i64 c]],.v (.int .i64 1)]=some (.i64 b):=rfl;have g2:RF.ev (.elt 0 0) [.sl [[.i64 a],[.i64 b],[.i64 c]],.v (.int .i64 2)]=some (.i64 c):=rfl;have h2:([[PV.i64 a],[PV.i64 b],[PV.i64 c]].length:Int)=3:=rfl;have w2:IntKind.i64.wrap (2+1)=3:=by decide
 simp only[EV,bC,Gy,Gz,e0,e1,e2,g0,g1,g2,w0,w1,w2,aV,cL];by_cases ha:a=0
 .by_cases hb:b=0
  .by_cases hc:c=0<;>simp[ha,hb,hc]
  .simp[ha,hb]
 .simp[ha]
def CU (x y:Mt):Int:=if sgn (crs x.time y.time)=0 then(if sgn (x.i-y.i)=0 then sgn (x.j-y.j) else sgn (x.i-y.i)) else sgn (crs x.time y.time)
def Ws (x y:Mt):decide (CU x y<0)=ltM x y:=by
 unfold CU ltM sgn
 grind
def MP (m:Mt):PV:= .agg (j7 m)
def acT (m:Mt):RF.ev (.shape 4) [MP m]=some (MP m):=rfl
def pMt (m:Mt):RF.ev (.part 0 2) [MP m]=some (R m.time):=rfl
def ahO (m:Mt):RF.ev (.cell 2) [MP m]=some (.i64 m.i):=rfl
def ahP (m:Mt):RF.ev (.cell 3) [MP m]=some (.i64 m.j):=rfl
def Tt {a b:Rt}(ha:aQ a)(hb:aQ b)(ra:rok a=true)(rb:rok b=true):Ans D 115 [R a,R b] [.i64 (sgn (crs a b))]:=by
 have m:=phi (qe ha hb);rw[ra,rb,ad (by rfl)] at m;refine am ?_;unfold Y7;simp[EV,bm,m]
def ahQ {x y:Mt}(hx:rok x.time=true/\ aQ x.time)(hy:rok y.time=true/\ aQ y.time):Ans D 119 [MP x,MP y] [.i64 (CU x y)]:=by
 have m1:=phi (Tt hx.2 hy.2 hx.1 hy.1);have b3:RF.ev (.bs 3 [KP.z] [0,1,2]) [.i64 (sgn (crs x.time y.time)),.i64 (sgn (x.i-y.i)),.i64 (sgn (x.j-y.j))]=some (.sl [[.i64 (sgn (crs x.time y.time))],[.i64 (sgn (x.i-y.i))],[.i64 (sgn (x.j-y.j))]]):=rfl;have s3:RF.ev .sub [.sl [[.i64 (sgn (crs x.time y.time))],[.i64 (sgn (x.i-y.i))],[.i64 (sgn (x.j-y.j))]],.v (.int .i64 0),.v (.int .i64 3)]=some (.sl [[.i64 (sgn (crs x.time y.time))],[.i64 (sgn (x.i-y.i))],[.i64 (sgn (x.j-y.j))]]):=rfl;refine am ?_;unfold Y8 CU;simp only[ay,acT,pMt,m1,ahO,ahP,EV,phi (uX _ _),b3,s3,phi (ahN _ _ _)]
def S0 (g:Nat):Bool:=IP [95,115,117,119,166,192,193,213,215,216,219,220,244,278,279,280,281,299,310,328,360,362,363,395,421] g
def acU:(tab.all λe=>!S0 e.1||eT S0 e.2)=true:=by kernel_rfl
def eX {α:Type}:∀{l:List (Nat×α)} {g:Nat} {a:α},Go.Sym.look l g=some a->(g,a)∈l
 |[],_,_,h=>by cases h
 |(x,b)::l,g,a,h=>by
  rw[dZ] at h;split at h
  .rename_i e;subst e;cases h;exact bR ..
  .exact aN _ (eX h)
def acV (g:Nat)(k:K)(hg:S0 g=true)(h:D.T g=some k):eT S0 k=true:=by
 have:=aS.1 acU _ (eX h);simpa [hg] using this
def D1:Dt:={D with X:=λ_ _=>none,loud:=false}
def ahR:DtOk D1 where
 T:=λg k h=>Nb.ok g k h
 X:=λg vs rs _ h=>by cases h
 fol:=by kernel_rfl
def Je:∀{l:List Nat} {g:Nat},IP l g=true->g∈l
 |[],_,h=>by cases h
 |x::l,g,h=>by
  unfold IP at h;cases e:Nat.beq x g with
  |true=>rw[bg e];exact bR ..
  |false=>rw[e] at h;exact aN _ (Je h)
def noX:∀g,S0 g=true->D.X g=λ_=>none:=λg hg=>by
 have h:=Je hg;simp only[bh,List.not_mem_nil,or_false] at h;rcases h with rfl|rfl|rfl|rfl|rfl|rfl|rfl|rfl|rfl|rfl|rfl|rfl|rfl|rfl|rfl|rfl|rfl|rfl|rfl|rfl|rfl|rfl|rfl|rfl|rfl<;>(funext vs;rfl)
def inW {g:FuncId}{vs rs:List PV}(hg:S0 g=true)(h:Ans D g vs rs):iN D1.toDcf g vs rs:=
 UW ahR (Te false (Td (S:=S0) noX acV hg h))
def tK (t:Rt):List PV:=[.i64 t.num,.i64 t.den]
def z7 (t:Rt):(tK t).length=2:=rfl
def U7 (t:Rt):cF 0 2 (tK t)=some (R t):=rfl
def mz (l:List Pt)(a b:Rt):Int:=if gk l≠0 then gk l else if(rok a&& rok b)=true then(if 0<crs a b then 2 else 0) else 8
def ahS {l:List Pt}{a b:Rt}(ha:aQ a)(hb:aQ b):Ans D 47 [F l,sl tK [a,b]] [.i64 (mz l a b)]:=by
 have m1:=phi (te l);refine an ⟨4,?_⟩;unfold Ys;simp only[ay,bv,m1,EV,ai];unfold mz;by_cases h:gk l=0
 rotate_left
 .simp[h]
 .simp only[h,aA,aJ,aw,ax,fg,cJ];have I:∀t∈[a,b],aQ t:=by simp[ha,hb]
  refine(cz (l:=[a,b]) (p:=rok) (st:=λi=>[.i64 (i:Int)]) (r:=some [.i64 8]) (fin:=some [.i64 (if 0<crs a b then 2 else 0)]) (λi t self ht _=>?_) (λhg self=>?_) (by simp)).trans ?_
  .have hi:=aL ht;unfold FA;simp only[ay,aU,aO,aX ht (z7 t),aM ht,U7,EV,aa,ai,bi hi,phi (c43 (I t (au ht))),up1 (show i<1000000000 by simp at hi;omega)]
   cases rok t<;>rfl
  .have g1:rok a=true:=aS.1 hg a (by simp);have g2:rok b=true:=aS.1 hg b (by simp);have m2:=phi (Tt ha hb g1 g2);have q0:=aX (f:=tK) (l:=[a,b]) (i:=0) rfl (z7 a);have q1:=aX (f:=tK) (l:=[a,b]) (i:=1) rfl (z7 b);have e0:=aM (f:=tK) (l:=[a,b]) (i:=0) (o:=0) (n:=2) rfl;have e1:=aM (f:=tK) (l:=[a,b]) (i:=1) (o:=0) (n:=2) rfl;unfold FA;simp only[ay,aU,aO,EV,aa,bP,ai,NW,aV,cL];have n0:(((0:Nat):Int))=0:=rfl;have n1:(((1:Nat):Int))=1:=rfl;rw[n0] at q0 e0;rw[n1] at q1 e1;simp only[ay,q0,q1,e0,e1,U7,m2,EV,NV];by_cases hc:0<crs a b
   .rw[ad hc];have:=qR.2 hc;simp[EV,this]
   .rw[ac hc];have:¬0<sgn (crs a b):=λh=>hc (qR.1 h);simp[EV,this]
  .simp only[dF,yg,kq];split<;>rfl
def wC (m:Mt):(j7 m).length=4:=rfl
def U8 (m:Mt):cF 0 4 (j7 m)=some (MP m):=rfl
def aeQ (m:Mt):cF 0 2 (j7 m)=some (R m.time):=rfl
def ahT {m:Mt}{t:Rt}(hm:rok m.time=true/\ aQ m.time)(ht:aQ t)(hr:rok t=true):Ans D 121 [MP m,R t] [.i64 (if 0<crs m.time t then 1 else-1)]:=by
 have m1:=phi (Tt hm.2 ht hm.1 hr);refine am ?_;unfold Y9;simp only[ay,acT,bm,pMt,m1,EV];by_cases hc:0<crs m.time t
 .have:=qR.2 hc;simp[hc,this]
 .have:¬0<sgn (crs m.time t):=λh=>hc (qR.1 h);simp[hc,this]
def CV {α:Type}{p:α->Bool}{N:Nat}{f:JT}{K0:K}{e:List PV}{l:List α}(hs:∀(i j:Nat) (a b:α),i<j->l[i]?=some a->l[j]?=some b->p b=true->p a=true)
  (key:∀(i j:Nat) (a:α) (self:JT),i<j->j<=l.length->l[(i+j)/2]?=some a->den (bL D) N K0 ([f]++[self]) (e++[.i64 (i:Int),.i64 (j:Int)])=if p a=true then self [.i64 (((i+j)/2+1:Nat):Int),.i64 (j:Int)] else self [.i64 (i:Int),.i64 (((i+j)/2:Nat):Int)])
  (out:∀(i j:Nat) (self:JT),¬i<j->den (bL D) N K0 ([f]++[self]) (e++[.i64 (i:Int),.i64 (j:Int)])=f [.i64 (i:Int)]):∀(m i j:Nat),j-i<m->i<=j->j<=l.length->(∀(k:Nat) (a:α),l[k]?=some a->(k<i->p a=true)/\(j<=k->p a=false))->
  ∃P,(P<=l.length/\∀(k:Nat) (a:α),l[k]?=some a->(k<P->p a=true)/\(P<=k->p a=false))/\ dW (bL D) N K0 [f] e m [.i64 (i:Int),.i64 (j:Int)]=f [.i64 (P:Int)]
 |0,i,j,h,_,_,_=>by omega
 |m+1,i,j,h,hij,hj,hb=>by
  rw[bC];by_cases hlt:i<j
  .obtain⟨a,ha⟩:∃a,l[(i+j)/2]?=some a:=⟨l[(i+j)/2]'(by omega),ah _⟩;rw[key i j a _ hlt hj ha];by_cases c:p a=true
   .rw[ad c];refine CV hs key out m _ j (by omega) (by omega) hj λk q hq=>⟨λhk=>?_,(hb k q hq).2⟩;by_cases e:k=(i+j)/2
    .subst e;rw[ha] at hq;cases hq;exact c
    .exact hs k _ q a (by omega) hq ha c
   .rw[ac c];refine CV hs key out m i _ (by omega) (by omega) (by omega) λk q hq=>⟨(hb k q hq).1,λhk=>?_⟩;by_cases e:k=(i+j)/2
    .subst e;rw[ha] at hq;cases hq;simpa using c
    .cases hp:p q with
     |false=>rfl
     |true=>exact absurd (hs _ k a q (by omega) ha hq hp) c
  .exact⟨i,⟨by omega,λk a ha=>⟨(hb k a ha).1,λh=>(hb k a ha).2 (by omega)⟩⟩,out i j _ hlt⟩
def yd {α:Type}{p:α->Bool}:∀{l:List α} {P:Nat},P<=l.length->(∀(k:Nat) (a:α),l[k]?=some a->(k<P->p a=true)/\(P<=k->p a=false))->P=l.countP p
 |[],P,h,_=>by simp at h;simp[h]
 |a::l,P,h,hb=>by
  have h0:=hb 0 a rfl;rw[dr];cases P with
  |zero=>
   rw[ac (by rw[h0.2 (aB _)];simp)];have:=yd (p:=p) (l:=l) (P:=0) (cV _) λk x hx=>⟨λh=>by omega,λ_=>(hb (k+1) x hx).2 (by omega)⟩;omega
  |succ P=>
   rw[ad (h0.1 (by omega))];have:=yd (p:=p) (l:=l) (P:=P) (by simpa using h) λk x hx=>⟨λh=>(hb (k+1) x hx).1 (by omega),λh=>(hb (k+1) x hx).2 (by omega)⟩
   omega
def fk (t:Rt)(m:Mt):Bool:=decide (crs m.time t<=0)
def Srt (l:List Mt):Prop:=∀(i j:Nat) (x y:Mt),i<j->l[i]?=some x->l[j]?=some y->crs x.time y.time<=0
def Tu {l:List Mt}{t:Rt}(hs:Srt l)(hk:∀m∈l,rok m.time=true/\ aQ m.time)(hr:rok t=true):∀(i j:Nat) (a b:Mt),i<j->l[i]?=some a->l[j]?=some b->fk t b=true->fk t a=true:=λi j a b hij ha hb h=>by
 unfold fk at h|-;exact aq (tY (hk a (au ha)).1 (hk b (au hb)).1 hr (hs i j a b hij ha hb) (aT h))
def acW {l:List Mt}{t:Rt}(hs:Srt l)(hk:∀m∈l,rok m.time=true/\ aQ m.time)(hn:l.length<=5000)(ht:aQ t)(hr:rok t=true):Ans D 49 [sl j7 l,R t] [.i64 ((l.countP (fk t):Nat):Int)]:=by
 refine an ⟨5001,?_⟩;unfold Yt;simp only[ay,bm,EV,ai];have call:=λ(m:Mt) (hm:m∈l)=>phi (ahT (hk m hm) ht hr);obtain⟨P,⟨h1,h2⟩,h3⟩:=CV (p:=fk t) (N:=5001) (f:=oZ (bL D) 5001 FB [] [sl j7 l,R t,R t,.i64 (l.length:Int)]) (K0:=AD) (e:=[sl j7 l,R t,R t,.i64 (l.length:Int)]) (l:=l) (Tu hs hk hr) (λi j m self hij hj hm=>by
  unfold AD;simp only[aU,aO,EV,aa,bi hij,KV (show i<1000000 by omega) (show j<1000000 by omega),cI (show-9223372036854775808<=(((i+j)/2:Nat):Int) by omega) (by omega),ay,aX hm (wC m),aM hm,U8,call m (au hm),NY,up1 (show(i+j)/2<1000000000 by omega)]
  unfold fk;by_cases c:0<crs m.time t
  .simp[c,show¬crs m.time t<=0 by omega]
  .simp[c,show crs m.time t<=0 by omega]) (λi j self hij=>by
  unfold AD;simp only[aU,aO,EV,aa,ac (show¬(i:Int)<(j:Int) by omega)]) 5001 0 l.length (by omega) (cV _) (aB _) (λk a ha=>⟨λh=>by omega,λh=>by have:=aL ha;omega⟩)
 have e:=yd h1 h2;have n0:(((0:Nat):Int))=0:=rfl;rw[n0] at h3;rw[h3];subst e;show den _ _ _ _ _=_
 unfold FB;simp only[aU,aO,EV,aa,ay,NX];by_cases c:l.countP (fk t)<l.length
 .obtain⟨m,hm⟩:∃m,l[l.countP (fk t)]?=some m:=⟨l[l.countP (fk t)],ah _⟩;rw[ad (by omega)];simp only[aX hm (wC m),aM hm,U8,call m (au hm),EV,ay]
 .rw[ac (by omega)]
open Go.Shelf Go.RowKit Go.Lib Go.Sort
def Jf {w w':World}(h:Frm w.heap.size (D1.lf none w) w w'):∃q os,w'=Go.Sort.grow (w.drewN q) os:=by
 have hl:∀B,¬D1.lf none w B:=λB h=>h.elim (λ⟨_,h⟩=>by cases h) λh=>by cases h.1
 obtain⟨h1,h2,h3,h4,h5,h6⟩:=h;have h6:=h6 (hl _);refine⟨w'.drawn-w.drawn,w'.heap.extract w.heap.size w'.heap.size,?_⟩;have hh:w'.heap=w.heap++w'.heap.extract w.heap.size w'.heap.size:=by
  apply Array.ext_getElem?;intro k;by_cases hk:k<w.heap.size
  .rw[qn hk];exact h5 k hk (hl _)
  .rw[Array.getElem?_append_right (by omega),Array.getElem?_extract];by_cases hk2:k<w'.heap.size
   .rw[ad (by omega)]
    congr 1
    omega
   .rw[ac (by omega),tL (by omega)]
 cases w';cases w;simp only at h1 h2 h3 h6 hh;subst h1 h2 h3;unfold Go.Sort.grow World.drewN;simp only at*;rw[<-hh]
 congr 1
 omega
def lF {w:World}{S:Nat->Prop}{v:Value}{k:IntKind}{n:Int}(h:RT w S v (.v (.int k n))):v= .int k n:=by
 cases h with
 |v h=>rfl
def jt (m:Mt):List Value:=[.int .i64 m.time.num,.int .i64 m.time.den,.int .i64 m.i,.int .i64 m.j]
def U9 {w:World}{S:Nat->Prop}(m:Mt):RT w S (.agg (jt m).toArray) (MP m):= .agg (.cons (.v rfl) (.cons (.v rfl) (.cons (.v rfl) (.cons (.v rfl) .nil)))) rfl
def QT {w:World}{S:Nat->Prop}(p:Pt):RT w S (.agg (ig p).toArray) (PP p):= .agg (.cons (.v rfl) (.cons (.v rfl) (.cons (.v rfl) .nil))) rfl
def aeR {x y:Mt}(hx:rok x.time=true/\ aQ x.time)(hy:rok y.time=true/\ aQ y.time)(w:World):
  Calls Tryz.prog 119 #[.agg (jt x).toArray,.agg (jt y).toArray] w λe w'=>e= .returned (.int .i64 (CU x y))/\∃q os,w'=Go.Sort.grow (w.drewN q) os:=by
 obtain⟨fn,h1,_,_,_,h5⟩:=(inW (by decide) (ahQ hx hy)).plain (by kernel_rfl);have hf:D1.toDcf.P.funcs[119]?=some Tryz.f119:=Tryz.func119;rw[hf] at h1;cases h1;refine(h5 w (λ_=>False) _ (.cons (U9 x) (.cons (U9 y) .nil)) (λ_ h=>h.elim)).mono ?_;rintro e w' ⟨u,S',us,Bs,rfl,a⟩;have hr:=a.rr;have hs:D1.toDcf.slots 119=[]:=by kernel_rfl
 rw[show Tryz.f119.resultTypes.toList=[3] from rfl,hs] at hr
 have a3:bT D1.toDcf.P 3=some false:=by kernel_rfl
 cases hr with
 |cons hr ht=>
  cases ht;unfold RR at hr;rw[a3] at hr;rcases hr with⟨_,_,h,_⟩|h
  .have e:=lF h;subst e;have:=a.u;exact⟨by rw[this];rfl,Jf a.fr⟩
  .cases h
def metR (p q:Pt):Rt×Int:=if p.b=q.b then(⟨0,0⟩,6) else((rT p q).time,0)
def aeS {p q:Pt}(hp:p.ok=true)(hq:q.ok=true)(hi:p.id≠q.id):Ans D 117 [PP p,PP q] [R (metR p q).1,.i64 (metR p q).2]:=by
 unfold metR;by_cases hb:p.b=q.b
 .rw[ad hb];exact aeP hp hq hi hb
 .rw[ac hb];exact WX hp hq hi hb
def aeT {p q:Pt}(hp:p.ok=true)(hq:q.ok=true)(hi:p.id≠q.id)(w:World):
  Calls Tryz.prog 117 #[.agg (ig p).toArray,.agg (ig q).toArray] w λe w'=>e= .returned (.tuple #[.agg #[.int .i64 (metR p q).1.num,.int .i64 (metR p q).1.den],.int .i64 (metR p q).2])/\∃n os,w'=Go.Sort.grow (w.drewN n) os:=by
 obtain⟨fn,h1,_,_,_,h5⟩:=(inW (by decide) (aeS hp hq hi)).plain (by kernel_rfl);have hf:D1.toDcf.P.funcs[117]?=some Tryz.f117:=Tryz.func117;rw[hf] at h1;cases h1;refine(h5 w (λ_=>False) _ (.cons (QT p) (.cons (QT q) .nil)) (λ_ h=>h.elim)).mono ?_;rintro e w' ⟨u,S',us,Bs,rfl,a⟩;have hr:=a.rr;have hs:D1.toDcf.slots 117=[]:=by kernel_rfl
 rw[show Tryz.f117.resultTypes.toList=[26,27] from rfl,hs] at hr
 have a26:bT D1.toDcf.P 26=some true:=by kernel_rfl
 have a27:bT D1.toDcf.P 27=some false:=by kernel_rfl
 generalize metR p q=z at hr|-;cases hr with
 |cons hr h2=>
  cases h2 with
  |cons h2 h3=>
   cases h3;unfold RR at hr h2;rw[a26] at hr;rw[a27] at h2;obtain⟨b,cs,rfl,e,_,hr⟩:=hr;cases e;rcases hr with⟨_,_,hr⟩|hr
   .rcases h2 with⟨_,_,h2,_⟩|h2
    .have e2:=lF h2;subst e2;obtain⟨b⟩:=b;cases hr with
     |cons q1 hr=>
      cases hr with
      |cons q2 hr=>
       cases hr;have e3:=lF q1;have e4:=lF q2;subst e3 e4;have:=a.u;exact⟨by rw[this];rfl,Jf a.fr⟩
    .cases h2
   .obtain⟨b⟩:=b;simp only at hr;cases hr
def MOk (m:Mt):Prop:=rok m.time=true/\ aQ m.time
def ltM_iff {x y:Mt}:ltM x y=true↔crs x.time y.time<0\/crs x.time y.time=0/\(x.i<y.i\/x.i=y.i/\ x.j<y.j):=by
 unfold ltM;simp
def Kx (x:Mt):ltM x x=false:=by
 rw[qr];intro h;have z:crs x.time x.time=0:=by unfold crs;omega
 rcases ltM_iff.1 h with h|⟨_,h|⟨_,h⟩⟩<;>omega
def BM {x y z:Mt}(hx:MOk x)(hy:MOk y)(hz:MOk z)(h:ltM x y=true)(k:ltM y z=true):ltM x z=true:=by
 have d1:=eJ hx.1;have d2:=eJ hy.1;have d3:=eJ hz.1;obtain⟨c1,c2⟩:=tT (a:=x.time) (b:=y.time) (c:=z.time) (by omega) (by omega) (by omega) (by rcases ltM_iff.1 h with h|h<;>omega) (by rcases ltM_iff.1 k with h|h<;>omega)
 refine ltM_iff.2 ?_;by_cases e:crs x.time z.time=0
 .right
  obtain⟨e1,e2⟩:=c2 e;refine⟨e,?_⟩;rcases ltM_iff.1 h with h|⟨_,h⟩<;>rcases ltM_iff.1 k with k|⟨_,k⟩<;>omega
 .left;omega
def Ky {x y:Mt}(hx:MOk x)(hy:MOk y)(h:ltM x y=false)(k:ltM y x=false):x=y:=by
 have h:¬ltM x y=true:=by simp[h]
 have k:¬ltM y x=true:=by simp[k]
 rw[ltM_iff] at h k;have n:=eS x.time y.time;have e:=BI hx.1 hy.1 (by omega);obtain⟨a,b,c⟩:=x;obtain⟨a',b',c'⟩:=y;simp only at e h k n;subst e;have z:crs a a=0:=by unfold crs;omega
 have:b=b'/\ c=c':=by omega
 rw[this.1,this.2]
def z8 {α:Type}{z:Nat}(hz:0<z)(f:α->List Value)(hf:∀x,(f x).length=z):∀(l:List α) (i j:Nat),j<z->(l.flatMap f)[i*z+j]?=(l[i]?).bind λx=>(f x)[j]?
 |[],i,j,_=>by simp
 |a::l,0,j,hj=>by
  rw[du,aG (by rw[hf];omega)];simp
 |a::l,i+1,j,hj=>by
  have e:(i+1)*z+j=z+(i*z+j):=by rw[b6];omega
  rw[e,du,bH (by rw[hf];omega),hf,sA,z8 hz f hf l i j hj];rfl
def QU {α:Type}{z:Nat}(f:α->List Value)(hf:∀x,(f x).length=z)(l:List α):(l.flatMap f).length=l.length*z:=by
 induction l with
 |nil=>simp
 |cons a l ih=>rw[du,aC,hf,ih,aV,b6];omega
def BN {α:Type}[Inhabited α]{z:Nat}(hz:0<z)(f:α->List Value)(hf:∀x,(f x).length=z)(d:Array α):(flatK f z d).toList=d.toList.flatMap f:=by
 apply cU;intro n;by_cases hn:n<d.size*z
 .have h1:(flatK f z d).toList[n]?=some (flatK f z d)[n]!:=by
   rw[bK,dl (by simpa using hn),iS _ n (by simpa using hn)]
  rw[h1,get_flatK f z d n hn];have e:n=n/z*z+n% z:=by have:=Nat.div_add_mod n z;rw[sm] at this;omega
  have hi:n/z<d.size:=Nat.div_lt_of_lt_mul (by rw[sm];exact hn);have hj0:n% z<z:=wI _ hz
  conv=>rhs;rw[e,z8 hz f hf d.toList (n/z) (n% z) hj0]
  rw[bK,dl hi,iS d (n/z) hi];show _=(f (d[n/z]'hi))[n% z]?
  have hj:n% z<(f (d[n/z]'hi)).length:=by rw[hf];exact hj0
  rw[ah hj,iS (f (d[n/z]'hi)) (n% z) hj]
 .rw[bF (by rw[dh,size_flatK];omega),bF (by rw[QU f hf,dh];omega)]
def DS (F arr:Array Value)(h:F.size<=arr.size):(putCells id 0 F arr).toList.take F.size=F.toList:=by
 apply cU;intro k;by_cases hk:k<F.size
 .rw[c7 hk,bK];unfold putCells;rw[uK,dl (by omega)];simp[hk]
 .rw[bF (by simp;omega),bF (by simp;omega)]
def Wt {α:Type}[Inhabited α]{z:Nat}(hz0:0<z){enc:α->List Value}(he:∀x,(enc x).length=z){w:World}{B n:Nat}{dm:Array α}{os:Array Obj}{arr:Array Value}(hrow:Row w B arr)(hB:B<w.heap.size)(hs:dm.size*z<=arr.size):
  ∃arr',Row (sortWorldK enc z w B 0 n dm os) B arr'/\ arr'.size=arr.size/\ arr'.toList.take (dm.size*z)=dm.toList.flatMap enc:=by
 obtain⟨ty,fz,hg,hun⟩:=hrow;have hz:(putCells id 0 (flatK enc z dm) arr).size=arr.size:=by simp[putCells]
 refine⟨putCells id 0 (flatK enc z dm) arr,⟨ty,fz,?_,by rw[hz];exact hun⟩,hz,?_⟩
 .unfold sortWorldK;rw[heap_grow_old _ _ (by rw[size_putRowK];exact hB)];show(w.heap.modify B _)[B]?=_
  rw[fM,ad rfl,hg];rfl
 .have:=DS (flatK enc z dm) arr (by rw[size_flatK];exact hs);rw[size_flatK,BN hz0 enc he] at this;exact this
def QV {α:Type}[Inhabited α]{z:Nat}(enc:α->List Value)(w:World)(B n:Nat)(dm:Array α)(os:Array Obj){n₀:Nat}(hn:n₀<=w.heap.size)(hB:n₀<=B):Below n₀ w (sortWorldK enc z w B 0 n dm os):=by
 refine⟨rfl,rfl,rfl,?_,λk h1=>?_⟩
 .unfold sortWorldK;rw[size_grow,size_putRowK];show w.heap.size<=w.heap.size+_
  omega
 .unfold sortWorldK;rw[heap_grow_old _ _ (by rw[size_putRowK];show k<w.heap.size;omega)]
  show(w.heap.modify B _)[k]?=_
  rw[fM,ac (by omega)]
def QW {α:Type}[Inhabited α]{z:Nat}(enc:α->List Value)(w:World)(B n:Nat)(dm:Array α)(os:Array Obj){k:Nat}(hk:k<w.heap.size)(hB:k≠B):(sortWorldK enc z w B 0 n dm os).heap[k]?=w.heap[k]?:=by
 unfold sortWorldK;rw[heap_grow_old _ _ (by rw[size_putRowK];exact hk)];show(w.heap.modify B _)[k]?=_
 rw[fM,ac (λe=>hB e.symm)]
def Wu {ms:List Mt}(hv:∀m∈ms,MOk m)(hne:ms≠[])(hlen:ms.length<=5000){w:World}{B cap:Nat}{arr:Array Value}(hrow:Row w B arr)(hB:B<w.heap.size)(hcap:ms.length<=cap)(hsz:cap*4<=arr.size)(hcells:arr.toList.take (ms.length*4)=ms.flatMap jt):
  Calls Tryz.prog 118 #[.slice (some ⟨B,0,none⟩) ms.length cap,.func (.func 119) #[] #[]] w λe w'=>e= .returned (.tuple #[])/\(∃arr',Row w' B arr'/\ cap*4<=arr'.size/\ arr'.toList.take (ms.length*4)=(ms.mergeSort λx y=>!ltM y x).flatMap jt)/\(∀n₀,n₀<=w.heap.size->n₀<=B->Below n₀ w w')/\∀k,k<w.heap.size->k≠B->w'.heap[k]?=w.heap[k]?:=by
 obtain⟨ty,fz,hg,hun⟩:=hrow;obtain⟨p0,hp0⟩:∃p,p∈ms:=qQ ms hne
 let α:={p:Mt//p∈ms}
 haveI:Inhabited α:=⟨⟨p0,hp0⟩⟩
 let enc:α->List Value:=λx=>jt x.1
 let cf:α->α->Int:=λx y=>CU x.1 y.1
 have hlt:∀x y:α,ltOf cf x y=ltM x.1 y.1:=λx y=>Ws x.1 y.1;have tot:∀x y:α,ltM x.1 y.1=false->ltM y.1 x.1=false->x=y:=λx y a c=>Subtype.ext (Ky (hv _ x.2) (hv _ y.2) a c);have hO:SWO (ltOf cf):=⟨λx=>by rw[hlt];exact Kx _,λx y z a c=>by rw[hlt] at*;exact BM (hv _ x.2) (hv _ y.2) (hv _ z.2) a c,λx y z a c=>by
  rw[hlt] at*;cases e:ltM x.1 z.1 with
  |false=>rfl
  |true=>
   cases e1:ltM y.1 x.1 with
   |false=>rw[tot x y a e1,c] at e;cases e
   |true=>rw[BM (hv _ y.2) (hv _ x.2) (hv _ z.2) e1 e] at c;cases c⟩
 have hT:∀x y,ltOf cf x y=false->ltOf cf y x=false->x=y:=λx y a c=>by
  rw[hlt] at a c;exact tot x y a c
 let d:Array α:=ms.attach.toArray
 have hd:d.size=ms.length:=by rw[show d.size=ms.attach.length from ga ..,List.length_attach]
 have hdl:d.toList.map Subtype.val=ms:=by simp[d]
 have hfl:(flatK enc 4 d).toList=ms.flatMap jt:=by
  rw[BN (by decide) enc (λ_=>rfl) d]
  conv=>rhs;rw[<-hdl,sc]
 have hBig:ms.length*4<=arr.size:=by omega
 have hH:HoldsK enc 4 w B 0 d:=λj hj=>by
  rw[size_flatK,hd] at hj;have hj':j<(flatK enc 4 d).size:=by rw[size_flatK,hd];exact hj
  have e1:(flatK enc 4 d).toList[j]?=some (flatK enc 4 d)[j]!:=by
   rw[bK,dl hj',iS _ j hj']
  rw[hfl,<-hcells,c7 hj] at e1;refine⟨?_,?_⟩
  .simp only[World.cell?,hg,cj];rw[<-bK,e1];rfl
  .have:=hun j (by omega);simp only[World.frozen?,hg,cj];simpa using this
 have hcmp:CmpLays Tryz.prog 119 #[] enc 4 cf B 0 d.size w:=λm os dk hs x y=>aeR (hv _ x.2) (hv _ y.2) _;have key:=AnyQ.slices_SortFunc_total U4 4 Tryz.isAgg41 Tryz.sizeOf41 enc (λ_=>rfl) (λx v hv=>by simp[enc,jt] at hv;rcases hv with rfl|rfl|rfl|rfl<;>rfl) cf hO 119 #[] B 0 cap d w (enters_of Tryz.func119 (by kernel_rfl) rfl) hcmp hH hB (by rw[hd];omega) hT
 rw[hd] at key;refine Calls.mono (show Calls Tryz.prog 118 _ _ _ from key) ?_
 rintro e w' ⟨rfl,n,os,rfl⟩;refine⟨rfl,?_,λn₀ h1 h2=>QV enc w B n _ os h1 h2,λk h1 h2=>QW enc w B n _ os h1 h2⟩;have hdm:(d.toList.mergeSort λx y=>!(ltOf cf) y x).toArray.size=ms.length:=by
  rw[ga,gY,dh,hd]
 obtain⟨arr',r1,r2,r3⟩:=Wt (z:=4) (by decide) (enc:=enc) (λ_=>rfl) (n:=n) (os:=os) (dm:=(d.toList.mergeSort λx y=>!(ltOf cf) y x).toArray) (⟨ty,fz,hg,hun⟩:Row w B arr) hB (by rw[hdm];exact hBig);refine⟨arr',r1,by omega,?_⟩;rw[hdm] at r3;rw[r3];have hm:(d.toList.mergeSort λx y=>!(ltOf cf) y x).map Subtype.val=ms.mergeSort λx y=>!ltM y x:=by
  rw[List.map_mergeSort (s:=λp q=>!ltM q p) (λx _ y _=>by rw[hlt]),hdl]
 rw[<-hm,sc]
def DN (p:Option Addr)(cap:Nat)(fv:Value)(w:World):Calls Tryz.prog 118 #[.slice p 0 cap,fv] w λe w'=>e= .returned (.tuple #[])/\ w'=w:=AnyF.slices_SortFunc_none U4 p cap fv w
def ahU {l:List Pt}(h:okF l):Ans D 48 [F l] [sl j7 (srtM l)]:=by
 have h0:D.T 48=none:=by kernel_rfl
 refine UV h0 ?_;show xV [F l]=some [sl j7 (srtM l)]
 exact Wj h
def CW {l:List Pt}(h:okF l):(rawM l).length<=5000:=by
 have h1:=zB l;have h0:=h.1;have h2:l.length*(l.length-1)<=64*64:=ee h0 (by omega);omega
def Kz (l:List Pt):(srtM l).length=(rawM l).length:=gY _
def Wv {l:List Pt}{m:Mt}:m∈srtM l↔m∈rawM l:=(kO _ _).mem_iff
def yU {l:List Pt}(h:okF l):∀m∈srtM l,rok m.time=true/\ aQ m.time:=λm hm=>zA h (Wv.1 hm)
def QX {l:List Pt}(f:Mt->Bool):(srtM l).countP f=(rawM l).countP f:=(kO _ _).countP_eq f
def lt_of {x y:Mt}(h:ltM y x=false):crs x.time y.time<=0:=by
 have h:¬ltM y x=true:=by simp[h]
 rw[ltM_iff] at h;have n:=eS x.time y.time;omega
def KA {l:List Pt}(h:okF l):Srt (srtM l):=by
 let α:={m:Mt//m∈rawM l}
 have ok:∀x:α,MOk x.1:=λx=>zA h x.2;have hm:((rawM l).attach.mergeSort λx y=>!ltM y.1 x.1).map Subtype.val=srtM l:=by
  unfold srtM;rw[List.map_mergeSort (s:=λp q=>!ltM q p) (λx _ y _=>rfl),List.attach_map_subtype_val]
 have hs:=mj (le:=λx y:α=>!ltM y.1 x.1) (λa b c h1 h2=>by
  cases e:ltM c.1 a.1 with
  |false=>rfl
  |true=>
   have h1:ltM b.1 a.1=false:=by simpa using h1
   have h2:ltM c.1 b.1=false:=by simpa using h2
   cases e1:ltM a.1 b.1 with
   |true=>rw[BM (ok c) (ok a) (ok b) e e1] at h2;cases h2
   |false=>
    have:=Ky (ok a) (ok b) e1 h1;rw[this] at e;rw[e] at h2;cases h2) (λa b=>by
  cases e:ltM b.1 a.1 with
  |false=>rfl
  |true=>
   cases e1:ltM a.1 b.1 with
   |false=>rfl
   |true=>
    have:=BM (ok a) (ok b) (ok a) e1 e;rw[Kx] at this;cases this) (rawM l).attach
 intro i j x y hij hi hj;rw[<-hm] at hi hj;rw[a8] at hi hj;cases ei:((rawM l).attach.mergeSort λx y=>!ltM y.1 x.1)[i]? with
 |none=>rw[ei] at hi;cases hi
 |some x'=>
  cases ej:((rawM l).attach.mergeSort λx y=>!ltM y.1 x.1)[j]? with
  |none=>rw[ej] at hj;cases hj
  |some y'=>
   rw[ei] at hi;rw[ej] at hj;cases hi;cases hj;obtain⟨i1,i2⟩:=aD.1 ei;obtain⟨j1,j2⟩:=aD.1 ej;have:=dM.1 hs i j i1 j1 hij;rw[i2,j2] at this;exact lt_of (by simpa using this)
def M9 (l:List Pt)(a b:Rt):List Mt:=((srtM l).drop ((srtM l).countP (fk a))).take ((srtM l).countP (fk b)-(srtM l).countP (fk a))
def qm (l:List Pt)(a b:Rt):List Mt:=if mz l a b=0 then M9 l a b else []
def KB {l:List Pt}{a b:Rt}(h:mz l a b=0):okF l/\ rok a=true/\ rok b=true/\ crs a b<=0:=by
 unfold mz at h;split at h
 .contradiction
 .rename_i hf;split at h
  .rename_i hr;split at h
   .cases h
   .rw[aH] at hr;exact⟨eL.1 (by omega),hr.1,hr.2,by omega⟩
  .cases h
def KC {l:List Pt}(h:okF l){a b:Rt}(ha:rok a=true)(hb:rok b=true)(hab:crs a b<=0):(srtM l).countP (fk a)<=(srtM l).countP (fk b):=wx λm hm he=>by
 unfold fk at he|-;exact aq (tY (yU h m hm).1 ha hb (aT he) hab)
def Jg {l:List Pt}(h:okF l){a b:Rt}(ha:rok a=true)(hb:rok b=true)(hab:crs a b<=0):(M9 l a b).length=(rawM l).countP (LJ a b):=by
 have h1:=KC h ha hb hab;have h2:=gX (p:=fk b) (l:=srtM l);unfold M9;rw[aP,b9,<-QX];have e:=yb (p:=fk b) (q:=fk a) (l:=srtM l) λm hm he=>by
  unfold fk at he|-;exact aq (tY (yU h m hm).1 ha hb (aT he) hab)
 have e2:(srtM l).countP (λm=>fk b m&& !fk a m)=(srtM l).countP (LJ a b):=List.countP_congr λm _=>by
  unfold fk LJ Uf;have:=eS a m.time;simp;omega
 omega
def acX {l:List Pt}{a b:Rt}(ha:aQ a)(hb:aQ b):Ans D 16 [F l,R a,R b] [sl j7 (qm l a b),.i64 (mz l a b)]:=by
 have m1:=phi (ahS (l:=l) ha hb);have e1:RF.ev (.bs 2 [KP.z,KP.z] [0,1]) [R a,R b]=some (sl tK [a,b]):=rfl;have e2:RF.ev .sub [sl tK [a,b],.v (.int .i64 0),.v (.int .i64 2)]=some (sl tK [a,b]):=rfl;refine am ?_;unfold Yj qm;simp only[ay,bv,bm,e1,e2,m1,EV];by_cases h:mz l a b=0
 .obtain⟨hl,hra,hrb,hab⟩:=KB h;have m2:=phi (ahU hl);have m3:=phi (acW (KA hl) (yU hl) (by rw[Kz];exact CW hl) ha hra);have m4:=phi (acW (KA hl) (yU hl) (by rw[Kz];exact CW hl) hb hrb);have h1:=KC hl hra hrb hab;have h2:=gX (p:=fk b) (l:=srtM l);have b1:RF.ev .bnd [.v (.int .i64 (((srtM l).countP (fk b):Nat):Int)),.v (.int .i64 (((srtM l).length:Nat):Int))]=some (.i64 (((srtM l).countP (fk b):Nat):Int)):=by rw[j5,ad ⟨by omega,by omega⟩]
  have b2:RF.ev .bnd [.v (.int .i64 (((srtM l).countP (fk a):Nat):Int)),.v (.int .i64 (((srtM l).countP (fk b):Nat):Int))]=some (.i64 (((srtM l).countP (fk a):Nat):Int)):=by rw[j5,ad ⟨by omega,by omega⟩]
  have b0:RF.ev .bnd [.v (.int .i64 (((srtM l).countP (fk b):Nat):Int)),.v (.int .i64 (((srtM l).countP (fk b):Nat):Int))]=some (.i64 (((srtM l).countP (fk b):Nat):Int)):=by rw[j5,ad ⟨by omega,by omega⟩]
  have b3:RF.ev (.tsub 4) [sl j7 (srtM l),.v (.int .i64 (((srtM l).countP (fk a):Nat):Int)),.v (.int .i64 (((srtM l).countP (fk b):Nat):Int))]=some (sl j7 (M9 l a b)):=by
   show RF.ev (.tsub 4) [.sl ((srtM l).map j7),_,_]=_
   rw[xT,ad ⟨by omega,by omega,by rw[ai];omega,by cases srtM l<;>rfl,by decide⟩];rw[aF,aF,<-wL,<-wM];rfl
  rw[h,ad rfl];simp only[m2,m3,m4,EV,aA,aJ,aw,ax,ai,b1,b0,b2,b3]
 .have:(!decide (mz l a b=0))=true:=by simp[h]
  rw[ac h];simp only[this,az,EV];rfl
def ahV {l:List Pt}{a b:Rt}(ha:aQ a)(hb:aQ b):Ans D 41 [F l,R a,R b] [.i64 ((qm l a b).length:Int),.i64 (mz l a b)]:=by
 have m1:=phi (acX (l:=l) ha hb);refine am ?_;unfold Yn;simp only[ay,bv,bm,m1,EV,ai]
def Jh (tag:Int)(l:List Pt)(a b:Rt):Int×Int:=if(evE tag l a b).2=0 then(((qm l a b).length:Int)-(evE tag l a b).1,mz l a b) else(0,(evE tag l a b).2)
def KD {E:Rt->List Crt}{t:Rt}:∀(n:Nat) (c:Clock) (out:List Crt) (d:Clock) (out':List Crt),adv E t n c out=some (some (d,out'))->out'.length<=out.length+n
 |0,_,_,_,_,h=>by cases h
 |n+1,c,out,d,out',h=>by
  unfold adv at h;split at h
  .cases h;omega
  .split at h
   .have:=KD n _ _ _ _ h;rw[aC,aK] at this;omega
   .cases h
def Ji {t:Rt}:∀(n:Nat) (c:Clock) (hp:List Int) (out:List Crt) (d:Clock) (hq:List Int) (out':List Crt),oo t n c hp out=some (some (d,hq,out'))->out'.length<=out.length+n
 |0,_,_,_,_,_,_,h=>by cases h
 |n+1,c,hp,out,d,hq,out',h=>by
  unfold oo at h;split at h
  .cases h;omega
  .split at h
   .have:=Ji n _ _ _ _ _ _ h;rw[aC,aK] at this;omega
   .cases h
def Jj {E:Rt->List Crt}{t:Rt}{c:Clock}:(((fd E t c).map (·.2)).getD []).length<=30000000:=by
 unfold fd;cases h:adv E t 5000 c [] with
 |none=>simp
 |some r=>
  cases r with
  |none=>simp
  |some z=>
   have:=KD _ _ _ z.1 z.2 h;simp at this|-;omega
def acY {t:Rt}{c:Clock}{hp:List Int}:(((qh t c hp).map (·.2.2)).getD []).length<=30000000:=by
 unfold qh;cases h:oo t 30000000 c hp [] with
 |none=>simp
 |some r=>
  cases r with
  |none=>simp
  |some z=>
   have:=Ji _ _ _ _ z.1 z.2.1 z.2.2 h;simp at this|-;omega
def Ww (tag:Int)(l:List Pt)(a b:Rt):((evX tag l a b).getD []).length<=30000000:=by
 unfold evX;split
 .exact acY
 split
 .exact Jj
 split
 .exact Jj
 .exact Jj
def CX (tag:Int)(l:List Pt)(a b:Rt):0<=(evE tag l a b).1/\(evE tag l a b).1<=30000000:=by
 have:=Ww tag l a b;unfold evE;split
 .decide
 split
 .exact⟨pB _,by simp only;omega⟩
 split
 .exact⟨pB _,by simp only;omega⟩
 split
 .decide
 .exact⟨by simp only;omega,by simp only;omega⟩
def Jk {l:List Pt}{a b:Rt}:(qm l a b).length<=5000:=by
 unfold qm;split
 .rename_i h;obtain⟨hl,ha,hb,hab⟩:=KB h;have:=CW hl;rw[Jg hl ha hb hab];exact bz gX this
 .exact cV _
def ahW (tag:Int){l:List Pt}{a b:Rt}(ha:aQ a)(hb:aQ b)(h10:l.length<=10\/gk l≠0):Ans D 11 [.v (.int .u8 tag),F l,R a,R b] [.i64 (Jh tag l a b).1,.i64 (Jh tag l a b).2]:=by
 have m1:=phi (Jc tag (l:=l) ha hb h10);have m2:=phi (ahV (l:=l) ha hb);obtain⟨q1,q2⟩:=CX tag l a b;have q3:=Jk (l:=l) (a:=a) (b:=b);have hw:=cI (show-9223372036854775808<=((qm l a b).length:Int)-(evE tag l a b).1 by omega) (by omega)
 refine am ?_;unfold Yg Jh;simp only[ay,bv,bm,m1,m2,EV,hw];by_cases h:(evE tag l a b).2=0
 .simp[h]
 .simp[h]
def yV (a b:Rt):Int:=if rok a=true then okE (rok b) else 8
def ahX {a b:Rt}(ha:aQ a)(hb:aQ b):Ans D 45 [R a,R b] [.i64 (yV a b)]:=by
 have m1:=phi (Ey ha);have m2:=phi (Ey hb);refine am ?_;unfold Yq yV;simp only[ay,bm,m1,m2,EV];cases rok a<;>simp[okE,EV]
def wD (l:List Pt)(a b:Rt):Prop:=l.length<=10/\ okF l/\ rok a=true/\ rok b=true/\ cO a=0/\ cO b=0/\ crs a b<=0
open Classical in
def acZ {l:List Pt}{a b:Rt}(ha:aQ a)(hb:aQ b):Ans D 14 [F l,R a,R b] [.bool (decide (wD l a b))]:=by
 have m1:=phi (W1 l);have m2:=phi (ahX ha hb);have m3:=phi (c64 ha);have m4:=phi (c64 hb);have m5:=phi (WQ ha hb);have no:¬wD l a b->(some [PV.v (.bool false)]:Option (List PV))=some [.bool (decide (wD l a b))]:=λh=>by rw[ak h]
 refine am ?_;unfold Yi;simp only[ay,bv,bm,cG,EV,ai,aa,cw];by_cases h1:(10:Int)<(l.length:Int)
 .rw[ad h1];exact no λh=>by have:=h.1;omega
 rw[ac h1];simp only[ay,m1,EV,bne_iff_ne,fg];by_cases h2:gk l=0
 rotate_left
 .rw[s7];simp only[h2,fg,db,aA,az];exact no λh=>h2 (eL.2 h.2.1)
 rw[s7];simp only[h2,fg,cJ,aY,aw,ax,m2,EV];by_cases h3:rok a=true/\ rok b=true
 rotate_left
 .have hE:yV a b≠0:=by
   unfold yV;split
   .rename_i h;intro e;exact h3 ⟨h,Ae.1 e⟩
   .decide
  rw[s7];simp only[fg,hE,db,aA,az];exact no λh=>h3 ⟨h.2.2.1,h.2.2.2.1⟩
 have hE:yV a b=0:=by unfold yV;rw[ad h3.1,h3.2];rfl
 rw[s7];simp only[hE,fg,cJ,aY,aw,ax,m3,EV];by_cases h4:cO a=0
 rotate_left
 .rw[s7];simp only[fg,h4,db,aA,az];exact no λh=>h4 h.2.2.2.2.1
 rw[s7];simp only[h4,fg,cJ,aY,aw,ax,m4,EV];by_cases h5:cO b=0
 rotate_left
 .rw[s7];simp only[fg,h5,db,aA,az];exact no λh=>h5 h.2.2.2.2.2.1
 rw[s7];simp only[h5,fg,cJ,aY,aw,ax,m5,EV];have hi:decide (wD l a b)=decide (sgn (crs a b)<=0):=by
  have hp:wD l a b↔sgn (crs a b)<=0:=by
   have hs:0<sgn (crs a b)↔0<crs a b:=qR;constructor
   .rintro⟨_,_,_,_,_,_,h⟩;have:¬0<sgn (crs a b):=λk=>by have:=hs.1 k;omega
    omega
   .intro h;have:¬0<crs a b:=λk=>by have:=hs.2 k;omega
    exact⟨by omega,eL.1 h2,h3.1,h3.2,h4,h5,by omega⟩
  exact cD.2 hp
 rw[hi]
open Classical in
def Jl (ms:List Mt)(i:Nat):Prop:=∀x y:Mt,ms[i]?=some x->ms[i+1]?=some y->y.time≠x.time
def wE (l:List Pt)(a b:Rt):Prop:=mz l a b=0/\∀i,i<(qm l a b).length-1->Jl (qm l a b) i
open Classical in
def ahY {l:List Pt}{a b:Rt}(ha:aQ a)(hb:aQ b):Ans D 18 [F l,R a,R b] [.bool (decide (wE l a b))]:=by
 have m1:=phi (acX (l:=l) ha hb);have hlen:=Jk (l:=l) (a:=a) (b:=b);refine an ⟨5002,?_⟩;unfold Yk;simp only[ay,bv,bm,m1,EV];generalize hms:qm l a b=ms at hlen|-;refine(eV (n:=ms.length-1) (st:=λi=>[.i64 ((i+1:Nat):Int)]) (P:=Jl ms) (fin:=some [.bool (decide (mz l a b=0))]) (r:=some [.bool false]) (λi self hi _=>?_) (λ_ self=>?_) (by omega)).trans ?_
 .obtain⟨x,hx⟩:∃x,ms[i]?=some x:=⟨ms[i]'(by omega),ah _⟩;obtain⟨y,hy⟩:∃y,ms[i+1]?=some y:=⟨ms[i+1]'(by omega),ah _⟩;have hP:Jl ms i↔¬y.time=x.time:=⟨λh=>h x y hx hy,λh x' y' hx' hy'=>by rw[hx] at hx';rw[hy] at hy';cases hx';cases hy';exact h⟩;have hup:=up1 (show i+1<1000000000 by omega)
  have hdn:IntKind.i64.wrap (((i+1:Nat):Int)-1)=((i:Nat):Int):=by rw[cI (by omega) (by omega)];omega
  refine bV ?_ (show(if¬y.time=x.time then self [.i64 ((i+1+1:Nat):Int)] else some [.bool false])=_ by by_cases c:y.time=x.time<;>simp[hP,c])
  unfold Fx;simp only[ay,aU,aO,EV,ai,aa,bi (show i+1<ms.length by omega),aX hy (wC y),aM hy,hdn,aX hx (wC x),aM hx,aeQ,Ra,hup]
  by_cases c:y.time=x.time<;>simp[c]
 .unfold Fx;simp only[ay,aU,aO,EV,ai,aa,ac (show¬((ms.length-1+1:Nat):Int)<(ms.length:Int) by omega),NS]
 .have hD:wE l a b↔mz l a b=0/\∀i,i<ms.length-1->Jl ms i:=by
   unfold wE;rw[hms]
  by_cases c:∀j,j<ms.length-1->Jl ms j
  .rw[ad c];by_cases e:mz l a b=0
   .rw[aq e,aq (hD.2 ⟨e,c⟩)]
   .rw[ak e,ak (λh=>e (hD.1 h).1)]
  .rw[ac c,ak (λh=>c (hD.1 h).2)]
def Et (c:Clock)(x:Crt):Bool:=(Nat.beq c.certs.list.length 200||decide (c.certs.next=1000000))||((fT c x).2&& !jX c.agenda.slots)
def QY (c:Clock)(x:Crt):nc c x↔Et c x=true:=by
 unfold nc Et;simp
def BO:List Crt->Clock->Option Clock
 |[],c=>some c
 |x::xs,c=>match c.certs.list.any λh=>decide (h.cert=x) with
  |true=>BO xs c
  |false=>match Et c x with
   |true=>none
   |false=>BO xs (j8 c x)
def Jm:∀(es:List Crt) (c:Clock),addL es c=BO es c
 |[],c=>rfl
 |x::xs,c=>by
  unfold addL BO;cases h:c.certs.list.any λh=>decide (h.cert=x) with
  |true=>simp only[az];exact Jm xs c
  |false=>
   cases k:Et c x with
   |true=>simp[(QY c x).2 k]
   |false=>
    have hf:¬nc c x:=λh=>by
     rw[(QY c x).1 h] at k;exact Bool.noConfusion k
    simp only[aw,ax,ac hf];exact Jm xs _
def Jn (es:List Crt)(c:Clock):Option Clock:=BO es (dropL es c.certs.list c)
def KE (es:List Crt)(c:Clock):dt es c=Jn es c:=Jm _ _
def CY (E:Rt->List Crt)(t:Rt):Nat->Clock->List Crt->Option (Option (Clock×List Crt))
 |0,_,_=>none
 |n+1,c,out=>match er c t with
  |none=>some (some (c,out))
  |some e=>match Jn (E e.time) (di c e) with
   |some d=>CY E t n d (out++[dV c e])
   |none=>some none
def Eu (E:Rt->List Crt)(t:Rt):∀(n:Nat) (c:Clock) (out:List Crt),adv E t n c out=CY E t n c out
 |0,_,_=>rfl
 |n+1,c,out=>by
  unfold adv CY;simp only[KE,Eu E t n];rfl
def Ev (t:Rt):Nat->Clock->List Int->List Crt->Option (Option (Clock×List Int×List Crt))
 |0,_,_,_=>none
 |n+1,c,hp,out=>match er c t with
  |none=>some (some (c,hp,out))
  |some e=>match Jn (cX (yT hp (dV c e))) (di c e) with
   |some d=>Ev t n d (yT hp (dV c e)) (out++[dV c e])
   |none=>some none
def QZ (t:Rt):∀(n:Nat) (c:Clock) (hp:List Int) (out:List Crt),oo t n c hp out=Ev t n c hp out
 |0,_,_,_=>rfl
 |n+1,c,hp,out=>by
  unfold oo Ev;simp only[KE,QZ t n];rfl
def dB:List Pt:=[⟨1,0,2⟩,⟨2,6,-1⟩,⟨5,0,0⟩]
def t0:Rt:=⟨0,1⟩
def t6:Rt:=⟨6,1⟩
def Tv:Option Nat:=((Ev t6 30000000 (kR t0 dB).clock (kR t0 dB).heap []).getD none).map λz=>z.2.2.length
def Tw:Option Nat:=((CY (edT dB (cM dB)) t6 5000 (iJ t0 dB).clock []).getD none).map λz=>z.2.length
def Tx:Option Nat:=((CY (λt=>edgsT (cart t dB).nodes dB.length) t6 5000 (l5 t0 dB).clock []).getD none).map λz=>z.2.length
def Ty:Option Nat:=((CY (λt=>cv dB (cS t dB)) t6 5000 (l6 t0 dB).clock []).getD none).map λz=>z.2.length
def Wx:Tv=some 1:=by kernel_rfl
def aeU:(evX 1 dB t0 t6).map List.length=some 1:=by
 have e:(evX 1 dB t0 t6).map List.length=Tv:=by
  unfold evX qh Tv;rw[ad rfl,QZ,pf];rfl
 exact e.trans Wx
def Wy:Tw=some 1:=by kernel_rfl
def aeV:(evX 2 dB t0 t6).map List.length=some 1:=by
 have e:(evX 2 dB t0 t6).map List.length=Tw:=by
  unfold evX fd Tw;rw[ac (by decide),ad rfl,Eu,pf];rfl
 exact e.trans Wy
def Wz:Tx=some 2:=by kernel_rfl
def aeW:(evX 3 dB t0 t6).map List.length=some 2:=by
 have e:(evX 3 dB t0 t6).map List.length=Tx:=by
  unfold evX fd Tx;rw[ac (by decide),ac (by decide),ad rfl,Eu,pf];rfl
 exact e.trans Wz
def WA:Ty=some 1:=by kernel_rfl
def aeX:(evX 4 dB t0 t6).map List.length=some 1:=by
 have e:(evX 4 dB t0 t6).map List.length=Ty:=by
  unfold evX fd Ty;rw[ac (by decide),ac (by decide),ac (by decide),Eu,pf];rfl
 exact e.trans WA
def DO:okF dB:=⟨by decide,by decide,λi p q hp hq=>by
 match i with
 |0=>cases hp;cases hq;decide
 |1=>cases hp;cases hq;decide
 |2=>cases hq
 |i+3=>cases hp⟩
def Jo:gk dB=0:=eL.2 DO
def Q0:eE dB t0=0:=by
 have h:bE dB t0=0:=by unfold bE;rw[ad Jo];decide
 unfold eE;rw[ad h];decide
def s8 {tag:Int}{n:Nat}(hg:tag=1\/tag=2\/tag=3\/tag=4)(h:(evX tag dB t0 t6).map List.length=some n):evE tag dB t0 t6=((n:Int),0):=by
 rw[Jb hg Q0 (by decide) (by decide)];cases e:evX tag dB t0 t6 with
 |none=>rw[e] at h;cases h
 |some out=>
  rw[e] at h;have h:out.length=n:=by simpa using h
  rw[<-h];rfl
def c8 {n:Nat}(h:n<=64):Ans D 15 [.i64 (n:Int)] [.i64 ((n*(n-1)/2:Nat):Int),.i64 0]:=by
 refine am ?_;unfold k8;have h1:¬((n:Int)<0):=by omega
 have h2:¬((64:Int)<(n:Int)):=by omega
 have hm:((n*(n-1):Nat):Int)=(n:Int)*((n:Int)-1):=by
  cases n with
  |zero=>rfl
  |succ n=>simp
 have hb:n*(n-1)<=64*64:=ee h (by omega);have hw1:=cI (show-9223372036854775808<=(n:Int)-1 by omega) (by omega)
 have hw2:=cI (show-9223372036854775808<=(n:Int)*((n:Int)-1) by rw[<-hm];omega) (by rw[<-hm];omega)
 have hq:((n:Int)*((n:Int)-1)).tdiv 2=((n*(n-1)/2:Nat):Int):=by
  rw[<-hm];rfl
 have hw3:=cI (show-9223372036854775808<=((n*(n-1)/2:Nat):Int) by omega) (by omega)
 have hq2:dq .quo .i64 ((n:Int)*((n:Int)-1)) .i64 2=some (.i64 ((n*(n-1)/2:Nat):Int)):=by rw[Ep,ac (by decide),hq,hw3]
 simp only[ay,EV,aa,cw,ac h1,ac h2,hw1,hw2,hq2]
def ahZ:Ans D 43 [] [F dB]:=by
 refine am ?_;unfold Yo;rfl
def ac0 (n:Int):Ans D 44 [.i64 n] [R ⟨n,1⟩]:=by
 refine am ?_;unfold Yp;rfl
def Q1:(rawM dB).countP (LJ t0 t6)=2:=by kernel_rfl
def DQ:mz dB t0 t6=0:=by
 unfold mz;rw[ac (by rw[Jo];decide)];decide
def Q2:(qm dB t0 t6).length=2:=by
 unfold qm;rw[ad DQ,Jg DO (by decide) (by decide) (by decide)];exact Q1
def qN {tag:Int}{n:Nat}(h:evE tag dB t0 t6=((n:Int),0)):Jh tag dB t0 t6=(2-(n:Int),0):=by
 unfold Jh;rw[h,ad rfl,Q2,DQ];rfl
def in0:aQ t0:=⟨⟨by decide,by decide⟩,⟨by decide,by decide⟩⟩
def in6:aQ t6:=⟨⟨by decide,by decide⟩,⟨by decide,by decide⟩⟩
def ah0:Ans D 13 [] [.bool true]:=by
 have m15:bL D 15 [.i64 64]=some [.i64 2016,.i64 0]:=phi (c8 (n:=64) (by decide));have m43:=phi ahZ;have a0:bL D 44 [.i64 0]=some [R t0]:=phi (ac0 0);have a6:bL D 44 [.i64 6]=some [R t6]:=phi (ac0 6);have ev:=λ(tag:Int)=>phi (Jc tag (l:=dB) in0 in6 (.inl (by decide)));have sp:=λ(tag:Int)=>phi (ahW tag (l:=dB) in0 in6 (.inl (by decide)));have e1:=s8 (tag:=1) (.inl rfl) aeU;have e2:=s8 (tag:=2) (.inr (.inl rfl)) aeV;have e3:=s8 (tag:=3) (.inr (.inr (.inl rfl))) aeW;have e4:=s8 (tag:=4) (.inr (.inr (.inr rfl))) aeX;have two:∀{k n:Int} {x:Int×Int},x=(k,n)->some [PV.i64 x.1,PV.i64 x.2]=some [PV.i64 k,PV.i64 n]:=λh=>by rw[h]
 have v1:=(ev 1).trans (two e1);have v2:=(ev 2).trans (two e2);have v3:=(ev 3).trans (two e3);have v4:=(ev 4).trans (two e4);have p1:=(sp 1).trans (two (qN e1));have p2:=(sp 2).trans (two (qN e2));have p3:=(sp 3).trans (two (qN e3));have p4:=(sp 4).trans (two (qN e4));have n1:(((1:Nat):Int))=1:=rfl;have n2:(((2:Nat):Int))=2:=rfl;have s1:(2:Int)-1=1:=rfl;have s2:(2:Int)-2=0:=rfl;rw[n1] at v1 v2 v4 p1 p2 p4;rw[n2] at v3 p3;rw[s1] at p1 p2 p4;rw[s2] at p3;have w0:IntKind.i64.wrap 0=0:=by decide
 have w1:IntKind.i64.wrap 1=1:=by decide
 have u2:IntKind.u8.wrap 2=2:=by decide
 have u3:IntKind.u8.wrap 3=3:=by decide
 have u4:IntKind.u8.wrap 4=4:=by decide
 have u5:IntKind.u8.wrap 5=5:=by decide
 refine an ⟨7,?_⟩;unfold Yh;simp only[EV,m15,bC,NN,NO,NQ,NR,m43,a0,a6,v1,v2,v3,v4,p1,p2,p3,p4];simp[EV,bC,w0,w1,u2,u3,u4,u5,v1,v2,v3,v4,p1,p2,p3,p4,m43,a0,a6]
def Eof (tag:Int)(l:List Pt):Rt->List Crt:=if tag=2 then edT l (cM l) else if tag=3 thenλt=>edgsT (cart t l).nodes l.length elseλt=>cv l (cS t l)
structure EFacts (l:List Pt)(E:Rt->List Crt):Prop where
 ok:∀t,EdgOk l (E t)
 led:∀t,∀e∈E t,leads t (be l e.high) (be l e.low)=true
 n:∀t,(E t).length<=64
 same:∀s u,(∀x∈E u,leads s (be l x.high) (be l x.low)=true)->E s=E u
def EFacts.h {l:List Pt}{E:Rt->List Crt}(F:EFacts l E):EdgH l E:=⟨λt _ _=>let q:=F.ok t;⟨q.ok,q.low,q.high⟩,λt _ _ x hx=>F.led t x hx⟩
def Q3 {tag:Int}(hg:tag=2\/tag=3\/tag=4){l:List Pt}(hl:okF l):EFacts l (Eof tag l):=by
 obtain⟨f0,f1,f2⟩:=lZ hl;have h64:=hl.1;rcases hg with rfl|rfl|rfl
 .refine⟨λt=>jN (t:=t) hl f1 f2 dJ (eg hl),λt e he=>?_,λt=>?_,λs u h=>?_⟩
  .obtain⟨b1,b2,b3⟩:=iv (t:=t) hl f1 f2 dJ (eg hl);exact(iu (b:=bracketOf t l (cM l)) hl b2 dJ b3 he).2.2
  .obtain⟨b1,_,_⟩:=iv (t:=t) hl f1 f2 dJ (eg hl);have:=jW (bracketOf t l (cM l)).wins (cM l) (bracketOf t l (cM l)).wins.length;show(edsB _ _ _).length<=64
   omega
  .show edT l (cM l) s=edT l (cM l) u
   unfold edT;rw[I3 (t:=u) (t':=s) hl f1 f2 dJ (eg hl) h]
 .refine⟨λt=>lA (t:=t) hl,λt e he=>(fU hl he).2.2,λt=>?_,λs u h=>?_⟩
  .have:=jM (cart t l).nodes l.length;show(edgsT _ _).length<=64
   omega
  .show edgsT (cart s l).nodes l.length=edgsT (cart u l).nodes l.length
   rw[M3 (t:=u) (t':=s) hl h]
 .refine⟨λt=>lz (t:=t) hl,λt e he=>(eW hl he).2.2,λt=>?_,λs u h=>?_⟩
  .have h1:(cv l (cS t l)).length<=(l.zip (cS t l)).length:=sf _ _;rw[kZ] at h1;show(cv _ _).length<=64
   omega
  .show cv l (cS s l)=cv l (cS u l)
   rw[To (t:=u) (t':=s) hl h]
def Jp {tag:Int}(hg:tag=2\/tag=3\/tag=4)(l:List Pt)(a b:Rt):evX tag l a b=(fd (Eof tag l) b (certAll (newC l a) (Eof tag l a))).map (·.2):=by
 rcases hg with rfl|rfl|rfl<;>rfl
section
variable {l:List Pt}{E:Rt->List Crt}(hl:okF l)(F:EFacts l E){a:Rt}(ha:aQ a)(hra:rok a=true)
include hl F ha hra
theorem Aa:Stl l (certAll (newC l a) (E a))/\(certAll (newC l a) (E a)).now=a/\(∀x∈E a,∃y∈(certAll (newC l a) (E a)).certs.list,y.cert=x)/\∀y∈(certAll (newC l a) (E a)).certs.list,y.cert∈E a:=by
 have hE:=F.ok a;obtain⟨h1,h2,h3,h4⟩:=gr hE hl ha hra (F.led a);obtain⟨q1,q2⟩:=Az h1 (by rw[h3];exact ha) hE.nd h4;rw[h2] at q1;exact⟨q1,h3,q2,zD h1.2.2.1 hE.nd h4⟩
theorem CZ {b:Rt}(hrb:rok b=true)(hab:crs a b<=0):∃d out,fd E b (certAll (newC l a) (E a))=some (d,out)/\ out.length+eI b l<=eI a l:=by
 obtain⟨h1,h2,_,_⟩:=Aa hl F ha hra;have hf:=sL hl a;have hn:=F.n a;obtain⟨d,out,q1,q2⟩:=Fu F.h F.n hrb 5000 (certAll (newC l a) (E a)) [] (E a).length h1 (by rw[h2];exact hab) (Yd (l:=l) (t:=a) (E a)) (by rw[h2];omega) (by rw[h2];exact hf);rw[oR hl F.h h1] at q1;rw[h2] at q2;exact⟨d,out,by cases q1':fd E b (certAll (newC l a) (E a)) with|none=>(rw[q1'] at q1;cases q1)|some z=>(rw[q1'] at q1;cases q1;rfl),by simpa using q2⟩
end
def Tz {tag:Int}(hg:tag=2\/tag=3\/tag=4){l:List Pt}(hl:okF l){a s t:Rt}(ha:aQ a)(hs:aQ s)(hra:rok a=true)(hrs:rok s=true)(hrt:rok t=true)(h1:crs a s<=0)(h2:crs s t<=0):∃o1 o2 o3,evX tag l a t=some o1/\ evX tag l a s=some o2/\ evX tag l s t=some o3/\ o1.length=o2.length+o3.length:=by
 have F:=Q3 hg hl;obtain⟨p1,p2,p3,p4⟩:=Aa hl F ha hra;obtain⟨q1,q2,q3,q4⟩:=Aa hl F hs hrs;obtain⟨d1,o1,e1,_⟩:=CZ hl F ha hra hrt (tY hra hrs hrt h1 h2);obtain⟨d2,o2,e2,_⟩:=CZ hl F ha hra hrs h1;obtain⟨d3,o3,e3,_⟩:=CZ hl F hs hrs hrt h2;refine⟨o1,o2,o3,by rw[Jp hg,e1];rfl,by rw[Jp hg,e2];rfl,by rw[Jp hg,e3];rfl,?_⟩;exact NI hl F.h hrs hrt h2 p1 (by rw[p2];exact p3) (by rw[p2];exact p4) (by rw[p2];exact h1) q1 q2 q3 q4 (λu _ h=>F.same s u h) e1 e2 e3
def Ab {tag:Int}(hg:tag=1\/tag=2\/tag=3\/tag=4){l:List Pt}{a b:Rt}(hl:okF l)(hra:rok a=true)(haa:cO a=0)(hab:cO b=0)(hp:crs a b<=0){out:List Crt}(h:evX tag l a b=some out):evE tag l a b=((out.length:Int),0):=by
 have hn:eE l a=0:=by
  have hb:bE l a=0:=by unfold bE;rw[ad (eL.2 hl),hra];rfl
  unfold eE;rw[ad hb,haa]
 rw[Jb hg hn hab (by have:=eS a b;omega),h];rfl
open Classical in
def Na {tag:Int}{l:List Pt}{a m b:Rt}(ha:aQ a)(hm:aQ m)(hb:aQ b):Ans D 5 [.v (.int .u8 tag),F l,R a,R m,R b] [.bool true]:=by
 have m13:=phi ah0;have f1:=phi (acZ (l:=l) ha hm);have f2:=phi (acZ (l:=l) hm hb);refine am ?_;unfold Ye;simp only[ay,bv,bm,m13,EV,aa,cw];by_cases h1:tag<2
 .rw[ad h1]
 rw[ac h1];by_cases h2:4<tag
 .simp only[EV,aa,h2,az]
 simp only[EV,aa,h2,ax,f1];by_cases h3:wD l a m
 rotate_left
 .simp only[h3,aY,bZ,az,EV]
 simp only[h3,aA,aJ,aw,ax,f2,EV];by_cases h4:wD l m b
 rotate_left
 .simp only[h4,aY,bZ,az,EV]
 obtain⟨p1,p2,p3,p4,p5,p6,p7⟩:=h3;obtain⟨_,_,_,q4,_,q6,q7⟩:=id h4;have hg:tag=2\/tag=3\/tag=4:=by omega
 have hg':tag=1\/tag=2\/tag=3\/tag=4:= .inr hg;obtain⟨o1,o2,o3,e1,e2,e3,hsum⟩:=Tz hg p2 ha hm p3 p4 q4 p7 q7;have x1:=Ab hg' p2 p3 p5 q6 (tY p3 p4 q4 p7 q7) e1;have x2:=Ab hg' p2 p3 p5 p6 p7 e2;have x3:=Ab hg' p2 p4 p6 q6 q7 e3;have c1:=phi (Jc tag (l:=l) ha hb (.inl p1));have c2:=phi (Jc tag (l:=l) ha hm (.inl p1));have c3:=phi (Jc tag (l:=l) hm hb (.inl p1));have b1:=CX tag l a m;have b2:=CX tag l m b;rw[x2] at b1;rw[x3] at b2;rw[x1] at c1;rw[x2] at c2;rw[x3] at c3;have d1:=phi (ahY (l:=l) ha hb);have hw:=cI (show-9223372036854775808<=(o2.length:Int)+(o3.length:Int) by omega) (by simp only at b1 b2;omega)
 have hs:(o1.length:Int)=(o2.length:Int)+(o3.length:Int):=by omega
 have hge:(o2.length:Int)<=(o1.length:Int):=by omega
 simp only[h4,aA,aJ,aw,ax,c1,c2,c3,d1,EV,hw,hs,NM,bB];have hge':(o2.length:Int)<=(o2.length:Int)+(o3.length:Int):=by omega
 by_cases hd:wE l a b<;>simp[hd,hge']
section
variable {l:List Pt}(hl:okF l){a b:Rt}(hra:rok a=true)(hrb:rok b=true)
include hl hra hrb
omit hl hra hrb in
omit hra hrb in
end
open Go.RowKit Go.Shelf Go.Lib
attribute [local go_sem] Oper.semAt_some
def msF (pre:List (Pt×Pt)):List Mt:=(pre.filter λx=>decide (x.1.b≠x.2.b)).map λx=>rT x.1 x.2
def WC (pre:List (Pt×Pt)){p q:Pt}(h:p.b≠q.b):msF (pre++[(p,q)])=msF pre++[rT p q]:=by simp[msF,h]
def TA (pre:List (Pt×Pt)){p q:Pt}(h:p.b=q.b):msF (pre++[(p,q)])=msF pre:=by simp[msF,h]
def WD (pre:List (Pt×Pt)):(msF pre).length<=pre.length:=by
 unfold msF;rw[ai];exact fO _ _
def WE (a b:List (Pt×Pt)):msF (a++b)=msF a++msF b:=by simp[msF]
def TB (p:Pt)(l:List Pt)(i:Nat):hdP (p::l) (i+1)=l.map (λq=>(p,q))++hdP l i:=by
 unfold hdP;rw[List.range_succ_eq_map,du,sc];rfl
def KF:∀l:List Pt,msF (hdP l l.length)=rawM l
 |[]=>rfl
 |p::l=>by
  rw[aV,TB,WE,KF l];rw[rawM];unfold msF;rw[List.filter_map,List.map_map];rfl
def Kq.grown {n₀:Nat}{A W W':World}(h:Kq n₀ A W)(hn:n₀<=W.heap.size)(g:W.grownBy W' none):Kq n₀ A W':=
 ⟨h.below.grown g hn (λk e=>by cases e),λk cs t fz hk ht=>by
  have:=h.keep k cs t fz hk ht;exact(g.block k (bA.1 this).1 (λe=>by cases e)).trans this⟩
def Kq.putObj {n₀:Nat}{w:World}(hn:n₀<=w.heap.size)(W:World)(l:Nat)(o o':Obj)(hl:w.heap.size<=l)(h:W.heap[l]?=some o)(ho:o.isCells=false)(hw:o.isWalk=false):Kq n₀ W (W.putObj l o'):=
 ⟨belowK_b hn W l o o' hl h ho hw,λk cs t fz hk _=>(World.putObj_heap_other (λe=>by subst e;rw[hk] at h;cases h;cases ho)).trans hk⟩
def Kq.setCell {n₀:Nat}{A W:World}(h:Kq n₀ A W){B:Nat}{t:TypeId}{v:Value}(hB:n₀<=B)(hb:Boxed W B t v)(h1:t≠72)(h2:t≠24)(u:Value):Kq n₀ A (W.setCell ⟨B,0,none⟩ u):=
 ⟨h.below.setCell (p:=⟨B,0,none⟩) hB u,λk cs t' fz hk ht=>by
  have hk':=h.keep k cs t' fz hk ht;refine(Below.heap_setCell _ _ _ k (λe=>?_)).trans hk';have hb:W.heap[B]?=_:=hb;rw[show k=B from e] at hk'
  rw[hk'] at hb;cases hb;exact ht.elim h1 h2⟩
def Kq.appended {W w1:World}{n₀ B:Nat}{v v':Value}{k:Nat}{xs:List Value}{tmp:Obj}(hv:Boxed W B 36 v)(hrow:W.ownsRow n₀ 41 4 v k xs)(hgrow:(W.alloc tmp).grownBy w1 v.ownBlock)(hb:Below n₀ W (w1.setCell ⟨B,0,none⟩ v')):
  Kq n₀ W (w1.setCell ⟨B,0,none⟩ v'):=
 ⟨hb,λj cs t fz hj ht=>by
  have hv:W.heap[B]?=_:=hv;have hjB:j≠B:=λe=>by subst e;rw[hj] at hv;cases hv;revert ht;decide
  refine(Below.heap_setCell _ _ _ j hjB).trans ?_;have hlt:=(bA.1 hj).1;refine(hgrow.block j (by simp;omega) (λe=>?_)).trans ((Below.heap_alloc _ _ _ hlt).trans hj);rcases hrow.2 with⟨rfl,_⟩|⟨g,cap,cur,rfl,_,hgb,_⟩
  .cases e
  .have e:j=g:=by simpa [Value.ownBlock] using e
   subst e;rw[hj] at hgb;cases hgb
   revert ht
   decide⟩
def WG {W W':World}{n:Nat}{os:Array Obj}(h:W'=Go.Sort.grow (W.drewN n) os):W.grownBy W' none:=by
 subst h;exact⟨rfl,rfl,rfl,by simp[World.drewN],λk hk _=>Go.Sort.heap_grow_old _ _ hk⟩
def At3 (W:World)(B:Nat)(p:Pt):Prop:=W.heap[B]?=some (.cells (ig p).toArray 72 (0,0))
def At3.lt {W:World}{B:Nat}{p:Pt}(h:At3 W B p):B<W.heap.size:=(bA.1 h).1
def At3.kept {W W':World}{B:Nat}{p:Pt}{row:Option Nat}(h:At3 W B p)(hg:W.grownBy W' row)(hne:some B≠row):At3 W' B p:=(hg.block B h.lt hne).trans h
def KG (B:Nat)(p:Pt):Own (λ(_:Unit) W=>At3 W B p):=λ_ X Y row hs hg hrow=>
 hs.kept hg (λe'=>by obtain⟨o,ho,hc⟩:=hrow B e'.symm;rw[show X.heap[B]?=_ from hs] at ho;cases ho;cases hc)
def At3.alloc {W:World}{B:Nat}{p:Pt}(h:At3 W B p)(o:Obj):At3 (W.alloc o) B p:=(Below.heap_alloc _ _ _ h.lt).trans h
def At3.c0 {W:World}{B:Nat}{p:Pt}(h:At3 W B p):W.cell? ⟨B,0,none⟩=some (.int .i64 p.id):=by simp[World.cell?,show W.heap[B]?=_ from h,ig]
def At3.c1 {W:World}{B:Nat}{p:Pt}(h:At3 W B p):W.cell? ⟨B,1,none⟩=some (.int .i64 p.a):=by simp[World.cell?,show W.heap[B]?=_ from h,ig]
def At3.c2 {W:World}{B:Nat}{p:Pt}(h:At3 W B p):W.cell? ⟨B,2,none⟩=some (.int .i64 p.b):=by simp[World.cell?,show W.heap[B]?=_ from h,ig]
def ac1:(Tryz.prog.info? 41).map (λi=>(i.zero,i.size,i.bytes))=some (some (.agg #[.int .i64 0,.int .i64 0,.int .i64 0,.int .i64 0]),4,32):=by kernel_rfl
attribute [local go_sem] Oper.semAt_some
def MsV (n₀:Nat)(W:World)(v:Value)(ms:List Mt):Prop:=W.ownsRow n₀ 41 4 v ms.length (ms.flatMap jt)
def TC {n₀:Nat}{ms:List Mt}(hv:∀m∈ms,MOk m)(hlen:ms.length<=5000){W:World}{v:Value}(h:MsV n₀ W v ms)(hn:n₀<=W.heap.size):
  Calls Tryz.prog 118 #[v,.func (.func 119) #[] #[]] W λe W'=>e= .returned (.tuple #[])/\ Below n₀ W W'/\(∀k,k<W.heap.size->some k≠v.ownBlock->W'.heap[k]?=W.heap[k]?)/\
   ((ms=[]/\ v= .slice none 0 0)\/∃B cap arr,v= .slice (some ⟨B,0,none⟩) ms.length cap/\ ms.length<=cap/\ cap*4<=arr.size/\ Row W' B arr/\ n₀<=B/\ B<W'.heap.size/\ arr.toList.take (ms.length*4)=(ms.mergeSort λx y=>!ltM y x).flatMap jt):=by
 obtain⟨h1,⟨rfl,h2⟩|⟨g,cap,cur,rfl,hg,hgb,q1,q2,q3,q4⟩⟩:=h
 .have e:ms=[]:=cH.1 h2;refine(DN none 0 _ W).mono ?_;rintro e' W' ⟨rfl,rfl⟩;exact⟨rfl,Below.refl _ _,λ_ _ _=>rfl,.inl ⟨e,rfl⟩⟩
 .have hB:g<W.heap.size:=(bA.1 hgb).1;have hr:Go.Sym.Row W g cur:=⟨_,_,hgb,λi _ h=>by omega⟩;by_cases e:ms=[]
  .subst e;refine(DN _ cap _ W).mono ?_;rintro e' W' ⟨rfl,rfl⟩;exact⟨rfl,Below.refl _ _,λ_ _ _=>rfl,.inr ⟨g,cap,cur,rfl,q1,by omega,hr,hg,hB,by simp⟩⟩
  .refine(Wu hv e hlen hr hB q1 (by omega) q4).mono ?_;rintro e' W' ⟨rfl,⟨arr',r1,r2,r3⟩,r4,r5⟩;obtain⟨ty,fz,hg',_⟩:=id r1;exact⟨rfl,r4 n₀ hn hg,λk hk hne=>r5 k hk λe=>hne (by rw[e];rfl),.inr ⟨g,cap,arr',rfl,q1,r2,r1,hg,(bA.1 hg').1,r3⟩⟩
def Q4 {W W':World}{base e size k:Nat}{v:Value}{xs:List Value}(h:W.ownsRow base e size v k xs)(hg:W.grownBy W' none):W'.ownsRow base e size v k xs:=by
 refine h.kept hg ?_;rcases h.2 with⟨rfl,_⟩|⟨g,cap,cur,rfl,_⟩
 .exact .inl rfl
 .exact .inr (λe=>by cases e)
def Q5 (W:World)(cs:List Value)(t:TypeId)(j:Nat)(u:Value)(h:cs[j]?=some u):(W.alloc (.cells cs.toArray t)).cell? (Addr.add ⟨W.heap.size,0,none⟩ j)=some u:=by
 have:=World.alloc_heap_new W (.cells cs.toArray t);unfold World.cell? Addr.add;by_cases e:j=0
 .subst e;rw[ad rfl];dsimp only;rw[this];simp[h]
 .rw[ac e];dsimp only;rw[this];simp[h]
def ac2 (p q:Pt)(r:Rt)(e:Int):Prop:=metR p q=(r,e)/\(e=0->p.b≠q.b/\ r=(rT p q).time)/\(e≠0->p.b=q.b)
def ah1 (p q:Pt):ac2 p q (metR p q).1 (metR p q).2:=by
 refine⟨rfl,λh=>?_,λh=>?_⟩
 .unfold metR at h|-;by_cases hb:p.b=q.b
  .rw[ad hb] at h;cases h
  .rw[ac hb];exact⟨hb,rfl⟩
 .unfold metR at h;by_cases hb:p.b=q.b
  .exact hb
  .rw[ac hb] at h;exact absurd rfl h
set_option maxHeartbeats 1000000 in
def TD {l:List Pt}(h:okF l){w:World}{v:Value}(hv:M8 w.heap.size w v l):
  Calls Tryz.prog 48 #[.agg #[v]] w λe w'=>∃u,e= .returned u/\ Below w.heap.size w w'/\
   ((rawM l=[]/\ u= .slice none 0 0)\/∃B cap arr,u= .slice (some ⟨B,0,none⟩) (rawM l).length cap/\(rawM l).length<=cap/\ cap*4<=arr.size/\ Go.Sym.Row w' B arr/\ w.heap.size<=B/\ B<w'.heap.size/\ arr.toList.take ((rawM l).length*4)=(srtM l).flatMap jt):=by
 have hl64:l.length<=64:=h.1;have hpt:∀{i:Nat} {p:Pt},l[i]?=some p->p.ok=true:=λhi=>dH h hi;have hraw:(rawM l).length<=5000:=by
  have h1:=zB l;have h2:l.length*(l.length-1)<=64*64:=ee hl64 (by omega);omega
 obtain⟨i0,hi,hz0,hz1,hz2⟩:=info_parts ac1;obtain⟨F,hFe⟩:∃F,F=Fence.wide:=⟨_,rfl⟩;have hFf:∀f,F.fn f:=λf=>by subst hFe;trivial
 have hFr:F.round=none:=by subst hFe;rfl
 have toF:∀{f:FuncId} {args:Array Value} {W:World} {R:Ending->World->Prop} (n:Nat),Calls Tryz.prog f args W R->CallsIn F n Tryz.prog f args W R:=λn h=>by subst hFe;exact callsIn_wide.2 h
 refine(callsIn_wide (n:=12)).1 ?_;rw[<-hFe];clear hFe;have g48:=hFf 48;have g116:=hFf 116;have g117:=hFf 117;have g118:=hFf 118;refine callsIn_of_wp_marks Tryz.func48 rfl g48 ?_ hFr;simp only[Tryz.ntmps48,ga,aV,cL,Nat.reduceAdd,Nat.reduceSub,j9,kb,mG,kK,aO,aU]
 gi_wp2_with (gi_at_call 116;refine(Tq F (12-1) g116 hFr _ _).mono ?_;rintro e w' ⟨rfl,rfl⟩)
 have bO:=(Boxed.new (w.alloc (.cells #[v] 24)) 36 (.slice none 0 0)).alloc (.cells #[v] 24);have bN:=World.alloc_heap_new ((w.alloc (.cells #[v] 24)).alloc (.cells #[.slice none 0 0] 36)) (.cells #[v] 24);simp only[World.size_alloc] at bO bN;have hB0:Below w.heap.size w (((w.alloc (.cells #[v] 24)).alloc (.cells #[.slice none 0 0] 36)).alloc (.cells #[v] 24)):=(((Below.refl _ w).alloc (aB _) _).alloc (by simp) _).alloc (by simp;omega) _;have hsz:(((w.alloc (.cells #[v] 24)).alloc (.cells #[.slice none 0 0] 36)).alloc (.cells #[v] 24)).heap.size=w.heap.size+3:=by simp
 obtain⟨W0,hW0⟩:∃W0,((w.alloc (.cells #[v] 24)).alloc (.cells #[.slice none 0 0] 36)).alloc (.cells #[v] 24)=W0:=⟨_,rfl⟩;rw[hW0] at bO bN hB0 hsz|-;clear hW0;have hv0:M8 w.heap.size W0 v l:=hv.imp id λ⟨b,off,cap,h1,h2,h3⟩=>⟨b,off,cap,h1,h2,h3.below hB0⟩;refine wpIn_rangeFunc_ownH hFr (by decide) (gf:=214) (lb:=#[.pointer (some ⟨w.heap.size+1+1,0,none⟩)]) rfl (hFf 214) (enters_of Tryz.func214 (by kernel_rfl) rfl)
  (Ts F (12-1) (hFf 214) hFr (by decide) (w.heap.size+1+1) w.heap.size v l hl64 W0 (by omega) bN hv0) (λh k=>h.trans k) (Kq.putObj (by omega)) (Below.refl _ _) (λ_=>rfl)
  (λpre W=>(∃u,Boxed W (w.heap.size+1) 36 u/\ W.ownsRow w.heap.size 41 4 u (msF (pre.map Subtype.val)).length ((msF (pre.map Subtype.val)).flatMap jt)/\ True)/\ Below w.heap.size w W)
  (λ_ _ _=>False)
  (OwnFrom.and (Own.from (holdsRow_own w.heap.size (w.heap.size+1) 36 41 4 (λpre:List (PP2 l)=>(msF (pre.map Subtype.val)).length) (λpre=>(msF (pre.map Subtype.val)).flatMap jt) (λ_ _=>True)) _) (ownFrom_below (aB _) (by omega)))
  (λ_ _ _ _ _ hs _ _=>hs)
  ⟨⟨_,bO,World.ownsRow_nil _ _ _ _,trivial⟩,hB0⟩
  (λx a' W=>∃B1 B2,w.heap.size+1<B1/\ w.heap.size+1<B2/\ At3 W B1 x.1.1/\ At3 W B2 x.1.2/\ a'={tmps:=#[.agg #[v],.pointer (some ⟨w.heap.size,0,none⟩),.slice none 0 0,.pointer (some ⟨w.heap.size+1,0,none⟩),.pointer (some ⟨B1,0,none⟩),.pointer (some ⟨B2,0,none⟩),undef,undef,.agg #[v],.func (.func 214) #[] #[.pointer (some ⟨w.heap.size+1+1,0,none⟩)],.agg (ig x.1.1).toArray,.agg (ig x.1.2).toArray,undef,undef,undef,undef,undef,undef,undef,undef,undef,undef,undef,undef,undef,undef,undef,undef,undef,undef,undef,undef],defers:=[]})
  (λx a' _ X Y row hs hg hr=>by
   obtain⟨B1,B2,e1,e2,e3,e4,e5⟩:=hs;exact⟨B1,B2,e1,e2,KG B1 _ () X Y row e3 hg (λr e=>(hr r e).2),KG B2 _ () X Y row e4 hg (λr e=>(hr r e).2),e5⟩)
  ?assign ?body ?done ?stop
 case assign=>
  rintro lp pre ⟨⟨p,q⟩,hx⟩ W K ⟨⟨u,hu,hrow,_⟩,hB1⟩ hK;have hs1:=hB1.size;have hlt:=hu.lt
  dsimp only[M7,ig]
  gi_wp2
  have g1:W.grownBy (W.alloc (.cells (ig p).toArray 72)) none:=World.grownBy_alloc _ _ _;have g2:(W.alloc (.cells (ig p).toArray 72)).grownBy ((W.alloc (.cells (ig p).toArray 72)).alloc (.cells (ig q).toArray 72)) none:=World.grownBy_alloc _ _ _;have a1:At3 (W.alloc (.cells (ig p).toArray 72)) W.heap.size p:=World.alloc_heap_new W _;have a2:At3 ((W.alloc (.cells (ig p).toArray 72)).alloc (.cells (ig q).toArray 72)) (W.heap.size+1) q:=by
   have:=World.alloc_heap_new (W.alloc (.cells (ig p).toArray 72)) (.cells (ig q).toArray 72);rwa [World.size_alloc] at this
  refine hK _ _ ((KeepsFrom.trans ((KeepsOthers.alloc _ _).from _) ((KeepsOthers.alloc _ _).from _))) (((Kq.refl _ W).alloc (by omega) _).alloc (by simp;omega) _) ⟨⟨u,(hu.alloc _).alloc _,(hrow.alloc _).alloc _,trivial⟩,(hB1.alloc (by omega) _).alloc (by simp;omega) _⟩ ⟨W.heap.size,W.heap.size+1,by omega,by omega,a1.alloc _,a2,rfl⟩
 case body=>
  rintro lp pre ⟨⟨p,q⟩,i,j,hij,hpi,hqj⟩ a' W _ _ ⟨⟨u,hu,hrow,_⟩,hB1⟩ ⟨B1,B2,e1,e2,a1,a2,rfl⟩ hlt;have hp:p.ok=true:=hpt hpi;have hq:q.ok=true:=hpt hqj;have hid:p.id≠q.id:=λe=>by
   have h1:=(cW h.2.2).inj (au hpi) (au hqj) e;have h2:=ri h.2.2 hpi;have h3:=ri h.2.2 hqj;rw[h1] at h2;omega
  have hml:(msF (pre.map Subtype.val)).length<=5000:=bz (WD _) (by rw[ai];omega);have hs1:=hB1.size;have b10:=a1.c0;have b11:=a1.c1;have b12:=a1.c2;have b20:=a2.c0;have b21:=a2.c1;have b22:=a2.c2;obtain⟨r,x,hmc⟩:∃r x,ac2 p q r x:=⟨_,_,ah1 p q⟩;have hcon:∀(n:Nat) (W:World),CallsIn (F.inRound lp) n Tryz.prog 117 #[.agg #[.int .i64 p.id,.int .i64 p.a,.int .i64 p.b],.agg #[.int .i64 q.id,.int .i64 q.a,.int .i64 q.b]] W λe w'=>e= .returned (.tuple #[.agg #[.int .i64 r.num,.int .i64 r.den],.int .i64 x])/\ W.grownBy w' none:=λn W=>by
   refine CallsIn.inRound lp (toF n ((aeT hp hq hid W).mono ?_));rintro e w' ⟨h1,n,os,h2⟩;rw[hmc.1] at h1;exact⟨h1,WG h2⟩
  gi_wp2_with (first
   |(gi_at_call 117;refine(hcon _ _).mono ?_;rintro e w1 ⟨rfl,hg⟩;have hu1:=hu.kept hg (by simp);have hr1:=Q4 hrow hg;have hk1:KeepsFrom W0.heap.size W w1:=((KeepsOthers.of_grownBy hg (λj o ej hj=>by cases ej)).from _);have hq1:=(Kq.refl w.heap.size W).grown hs1 hg;have c10:=(a1.kept hg (by simp)).c0;have c20:=(a2.kept hg (by simp)).c0;have l10:=(a1.kept hg (by simp)).lt;have l20:=(a2.kept hg (by simp)).lt;have cu:=hu1.cell;have hs2:=hg.size;have hs2':w.heap.size<=w1.heap.size:=bz hs1 hs2;have hul:=hu1.lt)
   |(gi_at_builtin;refine wpListIn_append_own _ rfl _ _ 36 rfl w.heap.size 41 i0 _ 4 32 Tryz.underlying36 hi hz0 hz1 hz2 rfl (by decide) _ _ _ rfl ((hr1.alloc _).alloc _) ⟨w1.heap.size+1,0,none⟩ 1 1 (jt ⟨r,p.id,q.id⟩) rfl rfl ?c1 ?c2 ?c3 ?c4 ?c5 ?_
     case c1=>intro j u hj;have:=Q5 (w1.alloc (.cells #[.int .i64 r.num,.int .i64 r.den] 26)) (jt ⟨r,p.id,q.id⟩) 41 j u hj;rwa [World.size_alloc] at this
     case c2=>simp[jt,Value.oneCell']
     case c3=>have:(5000:Nat)<maxLen:=by decide
              omega
     case c4=>omega
     case c5=>simp;omega
     intro v' w2 hown' hgrow _;obtain⟨g',cap',rfl⟩:=ownsRow_succ hown';obtain⟨hv1,hv2,hr2,hk2,hb2⟩:=(hu1.alloc (.cells #[.int .i64 r.num,.int .i64 r.den] 26)).appended (by decide) (hr1.alloc _) (by simp;omega) (by omega) hown' hgrow;have hq2:=Kq.appended (hu1.alloc (.cells #[.int .i64 r.num,.int .i64 r.den] 26)) (hr1.alloc _) hgrow hb2;have hc1:=hv1.cell;have hf1:=hv1.frozen))
  .have hx:x=0:=by
    have:(x==0)=true:=by assumption
    simpa using this
   obtain⟨hb,hr⟩:=hmc.2.1 hx;have hqa:=(hq1.alloc hs2' (.cells #[.int .i64 r.num,.int .i64 r.den] 26)).trans hq2;refine⟨(hk1.trans ((KeepsOthers.alloc _ _).from _)).trans (hk2.from _),hqa,⟨_,hv2,?_,trivial⟩,hB1.trans hqa.below⟩;have e:(pre++[(⟨(p,q),i,j,hij,hpi,hqj⟩:PP2 l)]).map Subtype.val=pre.map Subtype.val++[(p,q)]:=by simp
   have em:(⟨r,p.id,q.id⟩:Mt)=rT p q:=by rw[hr];rfl
   rw[e,WC _ hb,aC,kN,List.flatMap_singleton,<-em];exact hr2
  .have hx:x≠0:=by
    have:(x==0)=false:=by first|assumption|simp_all
    simpa using this
   have hb:=hmc.2.2 hx;have hqa:=hq1.alloc hs2' (.cells #[.int .i64 r.num,.int .i64 r.den] 26);refine⟨hk1.trans ((KeepsOthers.alloc _ _).from _),hqa,⟨_,hu1.alloc _,?_,trivial⟩,hB1.trans hqa.below⟩;have e:(pre++[(⟨(p,q),i,j,hij,hpi,hqj⟩:PP2 l)]).map Subtype.val=pre.map Subtype.val++[(p,q)]:=by simp
   rw[e,TA _ hb];exact hr1.alloc _
 case done=>
  rintro D ys W hD hys ⟨⟨u,hu,hrow,_⟩,hB1⟩ hK;rw[hys,KF] at hrow;have hc:=hu.cell;have hs1:=hB1.size;have hcon:=toF (12-1) (TC (λm hm=>zA h hm) hraw hrow hs1)
  gi_wp2_with (gi_at_call 118;refine hcon.mono ?_;rintro e w' ⟨rfl,hb,hk,hfin⟩;have hu1:Boxed w' (w.heap.size+1) 36 u:=(hk _ hu.lt (hu.not_row (by decide) hrow)).trans hu;have cu:=hu1.cell)
  have hDn:some D≠u.ownBlock:=λe=>by
   rcases hrow.2 with⟨rfl,_⟩|⟨g,cap,cur,rfl,_,hgb,_⟩
   .cases e
   .obtain rfl:D=g:=by simpa [Value.ownBlock] using e
    rw[hK] at hgb;cases hgb
  have hK':=(hk D (bA.1 hK).1 hDn).trans hK;refine⟨by simp,.inl ⟨_,_,rfl,run_takeDeferred hK',?_⟩⟩;refine⟨_,results_tmp rfl _ _ _,u,rfl,hB1.trans (hb.trans (belowK_b (w:=w) (aB _) w' D _ _ (by omega) hK' rfl rfl)),?_⟩;refine hfin.imp id ?_;rintro⟨B,cap,arr,q1,q2,q3,⟨ty,fz,q4,q5⟩,q6,q7,q8⟩;have hne:B≠D:=λe=>by
   subst e;rw[hK'] at q4;cases q4
  exact⟨B,cap,arr,q1,q2,q3,⟨ty,fz,(World.putObj_heap_other hne).trans q4,q5⟩,q6,by simpa using q7,q8⟩
 case stop=>
  rintro D c pre W _ _ h _;exact h.elim
open Go.Shelf Go.RowKit Go.Lib
def ac3 {w:World}{S:Nat->Prop}{v:Value}{cs:List PV}(h:RT w S v (.agg cs)):∃a:Array Value,v= .agg a/\ RTs w S a.toList cs:=by
 cases h with
 |agg h _=>exact⟨_,rfl,h⟩
def Jq {w:World}{S:Nat->Prop}:∀{l:List Pt} {vs:List Value},RTs w S vs (l.map row).flatten->vs=l.flatMap ig
 |[],_,h=>by cases h;rfl
 |p::l,_,h=>by
  rw[bQ,d9] at h;have h:RTs w S _ (.i64 p.id:: .i64 p.a:: .i64 p.b::(l.map row).flatten):=h;cases h with
  |cons h1 h=>
   cases h with
   |cons h2 h=>
    cases h with
    |cons h3 h=>
     rw[lF h1,lF h2,lF h3,Jq h];rfl
def Q6 {w:World}{S:Nat->Prop}:∀{l:List Mt},RTs w S (l.flatMap jt) (l.map j7).flatten
 |[]=> .nil
 |_::_=> .cons (.v rfl) (.cons (.v rfl) (.cons (.v rfl) (.cons (.v rfl) Q6)))
def WH {w:World}{S:Nat->Prop}{v:Value}{l:List Pt}(h:RT w S v (sl row l))(hS:∀B,S B->B<w.heap.size):M8 w.heap.size w v l:=by
 unfold sl at h;generalize he:PV.sl (l.map row)=x at h;cases h with
 |v=>cases he
 |agg=>cases he
 |nil h=>
  have hl:l=[]:=by simpa using he
  subst hl;rcases h with rfl|⟨b,o,rfl⟩
  .exact .inl ⟨rfl,rfl⟩
  .exact .inr ⟨b,o,0,rfl,aB _,⟨λh=>absurd rfl h,λj p e=>by simp at e,λj p e=>by simp at e,λj p e=>by simp at e⟩⟩
 |sl hB hg hz hn hc hr hE=>
  rename_i B o n cap z arr ty fz els;cases he;rw[ai] at hn;subst hn;refine .inr ⟨B,o,cap,rfl,hc,?_⟩;by_cases hl:l=[]
  .subst hl;exact⟨λh=>absurd rfl h,λj p e=>by simp at e,λj p e=>by simp at e,λj p e=>by simp at e⟩
  .have hz3:z=3:=by
    cases l with
    |nil=>exact absurd rfl hl
    |cons p l=>exact(hr (row p) (by simp)).1.symm
   subst hz3;have hcells:=Jq hE;have key:∀(j k:Nat) (p:Pt),k<3->l[j]?=some p->w.cell? ⟨B,o+(j*3+k),none⟩=(ig p)[k]?:=λj k p hk hp=>by
    have h1:=z8 (by decide:0<3) ig (λ_=>rfl) l j k hk;rw[hp,<-hcells] at h1;have hj:=(aD.1 hp).1;rw[c7 (by omega),fN,bK] at h1;simp only[World.cell?,hg];simpa using h1
   refine⟨λ_=>hS B hB,λj p hp=>?_,λj p hp=>?_,λj p hp=>?_⟩
   .exact key j 0 p (by decide) hp
   .exact key j 1 p (by decide) hp
   .exact key j 2 p (by decide) hp
def WI {vs rs:List PV}(hx:xV vs=some rs):iN D.toDcf 48 vs rs:=by
 obtain⟨l,rfl,h,rfl⟩:=Qz hx;refine⟨Tryz.f48,Tryz.func48,by simp[Tryz.f48],by decide,by kernel_rfl,?_⟩;rw[show D.toDcf.lend 48=none by kernel_rfl]
 intro w S vs hvs hS;obtain⟨vs⟩:=vs;cases hvs with
 |cons h1 hvs=>
  cases hvs;obtain⟨a,rfl,g1⟩:=ac3 h1;obtain⟨a⟩:=a;cases g1 with
  |cons hv g1=>
   cases g1;refine(TD h (WH hv hS)).mono ?_;rintro e w' ⟨u,rfl,hb,hu⟩;have hlen:(srtM l).length=(rawM l).length:=gY _;have hz:=hb.size;have hblk:∀B,B<w.heap.size->w'.heap[B]?=w.heap[B]?:=hb.block;have hs:D.toDcf.slots 48=[]:=by kernel_rfl
   have a36:bT D.toDcf.P 36=some false:=by kernel_rfl
   have hfr:Frm w.heap.size (D.toDcf.lf none w) w w':=⟨hb.os,hb.tape,hb.output,hz,λk h1 _=>hblk k h1,λh=>absurd (.inr ⟨by kernel_rfl,aB _⟩) h⟩;have fin:∀S':Nat->Prop,RT w' S' u (sl j7 (srtM l))->(∀B,S B->S' B)->(∀B,S' B->B<w'.heap.size)->(∀B,S' B->S B\/w.heap.size<=B)->∃u' S' us Bs,Ending.returned u= .returned u'/\ Aft D.toDcf Tryz.f48 48 w S (D.toDcf.lf none w) (λ_=>False) [sl j7 (srtM l)] u' w' S' us Bs:=λS' r1 r3 r4 r5=>by
    refine⟨_,S',[u],[],rfl,⟨rfl,?_,mi,(λ_ h=>by cases h),⟨r3,λB hB=>hblk B (hS B hB)⟩,r4,λB hB=>(r5 B hB).imp_right .inl,hfr⟩⟩;rw[show Tryz.f48.resultTypes.toList=[36] from rfl,hs]
    refine .cons (Bs:=[]) ?_ .nil;unfold RR;rw[a36];exact .inl ⟨rfl,rfl,r1,rfl⟩
   rcases hu with⟨hl,rfl⟩|⟨B,cap,arr,rfl,q1,q2,⟨ty,fz,q4,q5⟩,q6,q7,q8⟩
   .refine fin S ?_ (λ_ h=>h) (λB hB=>bW (hS B hB) hz) λB hB=> .inl hB;rw[show srtM l=[] from cH.1 (by rw[hlen,hl];rfl)]
    exact .nil (.inl rfl)
   .refine fin (λb=>S b\/b=B) ?_ (λ_ h=> .inl h) (λb hB=>hB.elim (λh=>bW (hS b h) hz) λe=>by omega) λb hB=>hB.elim .inl λe=> .inr (by omega);refine .sl (z:=4) (.inr rfl) q4 (by omega) (by rw[ai];exact hlen) q1 (λr hr=>?_) ?_
    .obtain⟨m,_,rfl⟩:=bf.1 hr;exact⟨rfl,rfl⟩
    .rw[dP,q8];exact Q6
end Go.Proofs.YtoeigdpfcnaaeaaGreat
