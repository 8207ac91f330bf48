import Derived.Test.YtfghdmmapmdcgaaGreatF1
import Derived.Test.YtfghdmmapmdcgaaGreatE1
import Derived.Test.YtfghdmmapmdcgaaGreatC1
import Derived.Test.YtfghdmmapmdcgaaGreatR1
import Derived.Test.YtfghdmmapmdcgaaGreatC3
set_option linter.unusedVariables false
set_option linter.unusedSimpArgs false
set_option linter.defProp false
noncomputable section
namespace Go.Proofs.YtfghdmmapmdcgaaGreat
open Go.Sym Bnd
set_option maxRecDepth 100000
def e21:decide ((2:Int)=1)=false:=rfl
def e31:decide ((3:Int)=1)=false:=rfl
def e32:decide ((3:Int)=2)=false:=rfl
def e41:decide ((4:Int)=1)=false:=rfl
def e42:decide ((4:Int)=2)=false:=rfl
def e43:decide ((4:Int)=3)=false:=rfl
section
variable {c:Choice}{p:Pt}{id:Int}{e:Int}
def b29 (hc:aY D 26 [CHO c]=some [.i64 8]):Ans D 29 [CHO c,PP p] [CHO zCH,.i64 8]:=by
 refine am ?_;unfold k29;simp[er,bz,hc,EV];rfl
def ae4 (hc:aY D 26 [CHO c]=some [.i64 0])(t1:c.tag=1){k:KHeap}(h:Ans D 85 [KH c.heap,PP p] [KH k,.i64 e]):Ans D 29 [CHO c,PP p] [CHO (eL ⟨1,k,c.tourn,c.heater,c.hanger⟩ e),.i64 e]:=by
 have m3:=phi h;refine am ?_;unfold k29;simp only[er,bz,hc,EV,az,aE,aq,aw,cCH,t1,aA,qy,m3,dz,kG,f8,Nat.reduceLeDiff,AZ,yY,phi (c59 _ _)]
def ae5 (hc:aY D 26 [CHO c]=some [.i64 0])(t1:c.tag=2){k:KTourn}(h:Ans D 86 [KT c.tourn,PP p] [KT k,.i64 e]):Ans D 29 [CHO c,PP p] [CHO (eL ⟨2,c.heap,k,c.heater,c.hanger⟩ e),.i64 e]:=by
 have m3:=phi h;refine am ?_;unfold k29;simp[er,bz,hc,EV,cCH,t1,e21,qz,m3,gu,tX,f8,Ew,AZ,yZ,phi (c59 _ _)]
def ae6 (hc:aY D 26 [CHO c]=some [.i64 0])(t1:c.tag=3){k:Heater}(h:Ans D 87 [HT c.heater,PP p] [HT k,.i64 e]):Ans D 29 [CHO c,PP p] [CHO (eL ⟨3,c.heap,c.tourn,k,c.hanger⟩ e),.i64 e]:=by
 have m3:=phi h;refine am ?_;unfold k29;simp only[er,bz,hc,EV,az,aE,aq,aw,cCH,t1,u8E,e31,e32,aA,qA,m3,gC,tY,f8,Nat.reduceLeDiff,aC,L1,Ew,AZ,y6,phi (c59 _ _)]
def ae7 (hc:aY D 26 [CHO c]=some [.i64 0])(t1:c.tag=4){k:KHeap}(h:Ans D 88 [KH c.hanger,PP p] [KH k,.i64 e]):Ans D 29 [CHO c,PP p] [CHO (eL ⟨4,c.heap,c.tourn,c.heater,k⟩ e),.i64 e]:=by
 have m3:=phi h;refine am ?_;unfold k29;simp only[er,bz,hc,EV,az,aE,aq,aw,cCH,t1,u8E,e41,e42,e43,aA,qB,m3,dz,kG,f8,Nat.reduceLeDiff,aC,L1,Ew,AZ,y7,phi (c59 _ _)]
def b31 (hc:aY D 26 [CHO c]=some [.i64 8]):Ans D 31 [CHO c,.i64 id] [CHO zCH,.i64 8]:=by
 refine am ?_;unfold k31;simp[er,hc,EV];rfl
def ae8 (hc:aY D 26 [CHO c]=some [.i64 0])(t1:c.tag=1){k:KHeap}(h:Ans D 93 [KH c.heap,.i64 id] [KH k,.i64 e]):Ans D 31 [CHO c,.i64 id] [CHO (eL ⟨1,k,c.tourn,c.heater,c.hanger⟩ e),.i64 e]:=by
 have m3:=phi h;refine am ?_;unfold k31;simp only[er,hc,EV,az,aE,aq,aw,cCH,t1,aA,qy,m3,dz,kG,f8,Nat.reduceLeDiff,aC,A1,yY,phi (c59 _ _)]
def ae9 (hc:aY D 26 [CHO c]=some [.i64 0])(t1:c.tag=2){k:KTourn}(h:Ans D 94 [KT c.tourn,.i64 id] [KT k,.i64 e]):Ans D 31 [CHO c,.i64 id] [CHO (eL ⟨2,c.heap,k,c.heater,c.hanger⟩ e),.i64 e]:=by
 have m3:=phi h;refine am ?_;unfold k31;simp only[er,hc,EV,az,aE,aq,aw,cCH,t1,u8E,e21,aA,qz,m3,gu,tX,f8,Nat.reduceLeDiff,aC,Ey,A1,yZ,phi (c59 _ _)]
def afa (hc:aY D 26 [CHO c]=some [.i64 0])(t1:c.tag=3){k:Heater}(h:Ans D 95 [HT c.heater,.i64 id] [HT k,.i64 e]):Ans D 31 [CHO c,.i64 id] [CHO (eL ⟨3,c.heap,c.tourn,k,c.hanger⟩ e),.i64 e]:=by
 have m3:=phi h;refine am ?_;unfold k31;simp only[er,hc,EV,az,aE,aq,aw,cCH,t1,u8E,e31,e32,aA,qA,m3,gC,tY,f8,Nat.reduceLeDiff,aC,L3,Ey,A1,y6,phi (c59 _ _)]
def afb (hc:aY D 26 [CHO c]=some [.i64 0])(t1:c.tag=4){k:KHeap}(h:Ans D 96 [KH c.hanger,.i64 id] [KH k,.i64 e]):Ans D 31 [CHO c,.i64 id] [CHO (eL ⟨4,c.heap,c.tourn,c.heater,k⟩ e),.i64 e]:=by
 have m3:=phi h;refine am ?_;unfold k31;simp[er,hc,EV,cCH,t1,u8E,e41,e42,e43,qB,m3,dz,kG,f8,L3,Ey,A1,y7,phi (c59 _ _)]
def b33 (hc:aY D 26 [CHO c]=some [.i64 8]):Ans D 33 [CHO c,PP p] [CHO zCH,.i64 8]:=by
 refine am ?_;unfold k33;simp[er,bz,hc,EV];rfl
def afc (hc:aY D 26 [CHO c]=some [.i64 0])(t1:c.tag=1){k:KHeap}(h:Ans D 101 [KH c.heap,PP p] [KH k,.i64 e]):Ans D 33 [CHO c,PP p] [CHO (eL ⟨1,k,c.tourn,c.heater,c.hanger⟩ e),.i64 e]:=by
 have m3:=phi h;refine am ?_;unfold k33;simp only[er,bz,hc,EV,az,aE,aq,aw,cCH,t1,aA,qy,m3,dz,kG,f8,Nat.reduceLeDiff,aC,A3,yY,phi (c59 _ _)]
def afd (hc:aY D 26 [CHO c]=some [.i64 0])(t1:c.tag=2){k:KTourn}(h:Ans D 102 [KT c.tourn,PP p] [KT k,.i64 e]):Ans D 33 [CHO c,PP p] [CHO (eL ⟨2,c.heap,k,c.heater,c.hanger⟩ e),.i64 e]:=by
 have m3:=phi h;refine am ?_;unfold k33;simp only[er,bz,hc,EV,az,aE,aq,aw,cCH,t1,u8E,e21,aA,qz,m3,gu,tX,f8,Nat.reduceLeDiff,aC,EA,A3,yZ,phi (c59 _ _)]
def afe (hc:aY D 26 [CHO c]=some [.i64 0])(t1:c.tag=3){k:Heater}(h:Ans D 103 [HT c.heater,PP p] [HT k,.i64 e]):Ans D 33 [CHO c,PP p] [CHO (eL ⟨3,c.heap,c.tourn,k,c.hanger⟩ e),.i64 e]:=by
 have m3:=phi h;refine am ?_;unfold k33;simp[er,bz,hc,EV,cCH,t1,u8E,e31,e32,qA,m3,gC,tY,f8,L5,EA,A3,y6,phi (c59 _ _)]
def aff (hc:aY D 26 [CHO c]=some [.i64 0])(t1:c.tag=4){k:KHeap}(h:Ans D 104 [KH c.hanger,PP p] [KH k,.i64 e]):Ans D 33 [CHO c,PP p] [CHO (eL ⟨4,c.heap,c.tourn,c.heater,k⟩ e),.i64 e]:=by
 have m3:=phi h;refine am ?_;unfold k33;simp only[er,bz,hc,EV,az,aE,aq,aw,cCH,t1,u8E,e41,e42,e43,aA,qB,m3,dz,kG,f8,Nat.reduceLeDiff,aC,L5,EA,A3,y7,phi (c59 _ _)]
def b30 (hc:aY D 27 [CHO c]=some [.i64 8]):Ans D 30 [CHO c,PP p] [CHO zCH,.i64 8]:=by
 refine am ?_;unfold k30;simp[er,bz,hc,EV];rfl
def afg (hc:aY D 27 [CHO c]=some [.i64 0])(t1:c.tag=1){k:KHeap}(h:Ans D 89 [KH c.heap,PP p] [KH k,.i64 e]):Ans D 30 [CHO c,PP p] [CHO (eL ⟨1,k,c.tourn,c.heater,c.hanger⟩ e),.i64 e]:=by
 have m3:=phi h;refine am ?_;unfold k30;simp[ax,er,bz,hc,EV,cCH,t1,u8E,qy,m3,dz,kG,f8,A0,yY,phi (c65 _ _)]
def afh (hc:aY D 27 [CHO c]=some [.i64 0])(t1:c.tag=2){k:KTourn}(h:Ans D 90 [KT c.tourn,PP p] [KT k,.i64 e]):Ans D 30 [CHO c,PP p] [CHO (eL ⟨2,c.heap,k,c.heater,c.hanger⟩ e),.i64 e]:=by
 have m3:=phi h;refine am ?_;unfold k30;simp[er,bz,hc,EV,cCH,t1,e21,qz,m3,gu,tX,f8,Ex,A0,yZ,phi (c65 _ _)]
def afi (hc:aY D 27 [CHO c]=some [.i64 0])(t1:c.tag=3){k:Heater}(h:Ans D 91 [HT c.heater,PP p] [HT k,.i64 e]):Ans D 30 [CHO c,PP p] [CHO (eL ⟨3,c.heap,c.tourn,k,c.hanger⟩ e),.i64 e]:=by
 have m3:=phi h;refine am ?_;unfold k30;simp only[er,bz,hc,EV,az,aE,aq,aw,cCH,t1,u8E,e31,e32,aA,qA,m3,gC,tY,f8,Nat.reduceLeDiff,aC,L2,Ex,A0,y6,phi (c65 _ _)]
def afj (hc:aY D 27 [CHO c]=some [.i64 0])(t1:c.tag=4){k:KHeap}(h:Ans D 92 [KH c.hanger,PP p] [KH k,.i64 e]):Ans D 30 [CHO c,PP p] [CHO (eL ⟨4,c.heap,c.tourn,c.heater,k⟩ e),.i64 e]:=by
 have m3:=phi h;refine am ?_;unfold k30;simp[er,bz,hc,EV,cCH,t1,u8E,e41,e42,e43,qB,m3,dz,kG,f8,US,L2,Ex,A0,y7,phi (c65 _ _)]
def b32 (hc:aY D 27 [CHO c]=some [.i64 8]):Ans D 32 [CHO c,.i64 id] [CHO zCH,.i64 8]:=by
 refine am ?_;unfold k32;simp[er,hc,EV];rfl
def afk (hc:aY D 27 [CHO c]=some [.i64 0])(t1:c.tag=1){k:KHeap}(h:Ans D 97 [KH c.heap,.i64 id] [KH k,.i64 e]):Ans D 32 [CHO c,.i64 id] [CHO (eL ⟨1,k,c.tourn,c.heater,c.hanger⟩ e),.i64 e]:=by
 have m3:=phi h;refine am ?_;unfold k32;simp[er,hc,EV,cCH,t1,qy,m3,dz,kG,f8,A2,yY,phi (c65 _ _)]
def afl (hc:aY D 27 [CHO c]=some [.i64 0])(t1:c.tag=2){k:KTourn}(h:Ans D 98 [KT c.tourn,.i64 id] [KT k,.i64 e]):Ans D 32 [CHO c,.i64 id] [CHO (eL ⟨2,c.heap,k,c.heater,c.hanger⟩ e),.i64 e]:=by
 have m3:=phi h;refine am ?_;unfold k32;simp[er,hc,EV,cCH,t1,u8E,e21,qz,m3,gu,tX,f8,Ez,A2,yZ,phi (c65 _ _)]
def afm (hc:aY D 27 [CHO c]=some [.i64 0])(t1:c.tag=3){k:Heater}(h:Ans D 99 [HT c.heater,.i64 id] [HT k,.i64 e]):Ans D 32 [CHO c,.i64 id] [CHO (eL ⟨3,c.heap,c.tourn,k,c.hanger⟩ e),.i64 e]:=by
 have m3:=phi h;refine am ?_;unfold k32;simp only[er,hc,EV,az,aE,aq,aw,cCH,t1,u8E,e31,e32,aA,qA,m3,gC,tY,f8,Nat.reduceLeDiff,aC,L4,Ez,A2,y6,phi (c65 _ _)]
def afn (hc:aY D 27 [CHO c]=some [.i64 0])(t1:c.tag=4){k:KHeap}(h:Ans D 100 [KH c.hanger,.i64 id] [KH k,.i64 e]):Ans D 32 [CHO c,.i64 id] [CHO (eL ⟨4,c.heap,c.tourn,c.heater,k⟩ e),.i64 e]:=by
 have m3:=phi h;refine am ?_;unfold k32;simp[er,hc,EV,cCH,t1,u8E,e41,e42,e43,qB,m3,dz,kG,f8,UT,L4,Ez,A2,y7,phi (c65 _ _)]
def b34 (hc:aY D 27 [CHO c]=some [.i64 8]):Ans D 34 [CHO c,PP p] [CHO zCH,.i64 8]:=by
 refine am ?_;unfold k34;simp[er,bz,hc,EV];rfl
def afo (hc:aY D 27 [CHO c]=some [.i64 0])(t1:c.tag=1){k:KHeap}(h:Ans D 105 [KH c.heap,PP p] [KH k,.i64 e]):Ans D 34 [CHO c,PP p] [CHO (eL ⟨1,k,c.tourn,c.heater,c.hanger⟩ e),.i64 e]:=by
 have m3:=phi h;refine am ?_;unfold k34;simp[er,bz,hc,EV,cCH,t1,qy,m3,dz,kG,f8,A4,yY,phi (c65 _ _)]
def afp (hc:aY D 27 [CHO c]=some [.i64 0])(t1:c.tag=2){k:KTourn}(h:Ans D 106 [KT c.tourn,PP p] [KT k,.i64 e]):Ans D 34 [CHO c,PP p] [CHO (eL ⟨2,c.heap,k,c.heater,c.hanger⟩ e),.i64 e]:=by
 have m3:=phi h;refine am ?_;unfold k34;simp only[er,bz,hc,EV,az,aE,aq,aw,cCH,t1,u8E,e21,aA,qz,m3,gu,tX,f8,Nat.reduceLeDiff,aC,EB,A4,yZ,phi (c65 _ _)]
def afq (hc:aY D 27 [CHO c]=some [.i64 0])(t1:c.tag=3){k:Heater}(h:Ans D 107 [HT c.heater,PP p] [HT k,.i64 e]):Ans D 34 [CHO c,PP p] [CHO (eL ⟨3,c.heap,c.tourn,k,c.hanger⟩ e),.i64 e]:=by
 have m3:=phi h;refine am ?_;unfold k34;simp only[er,bz,hc,EV,az,aE,aq,aw,cCH,t1,u8E,e31,e32,aA,qA,m3,gC,tY,f8,Nat.reduceLeDiff,aC,L6,EB,A4,y6,phi (c65 _ _)]
def afr (hc:aY D 27 [CHO c]=some [.i64 0])(t1:c.tag=4){k:KHeap}(h:Ans D 108 [KH c.hanger,PP p] [KH k,.i64 e]):Ans D 34 [CHO c,PP p] [CHO (eL ⟨4,c.heap,c.tourn,c.heater,k⟩ e),.i64 e]:=by
 have m3:=phi h;refine am ?_;unfold k34;simp[er,bz,hc,EV,cCH,t1,u8E,e41,e42,e43,qB,m3,dz,kG,f8,UU,L6,EB,A4,y7,phi (c65 _ _)]
end
def j9 {l:List Pt}:hY l↔(l.map Pt.id).Pairwise (· <·):=by
 rw[gk,ec];constructor
 .intro h i j hi hj hij;exact iE h hij (ah hi) (ah hj)
 .intro h i p q hp hq
  grind
def iM (p:Pt):List Pt->List Pt
 |[]=>[p]
 |q::l=>if p.id<q.id then p::q::l else q::iM p l
def ins_mem {p x:Pt}:∀{l:List Pt},x∈iM p l↔x=p\/x∈l
 |[]=>by simp[iM]
 |q::l=>by
  unfold iM;split
  .simp
  .rw[bB,ins_mem (l:=l),bB]
   grind
def KZ {p:Pt}:∀{l:List Pt},(iM p l).length=l.length+1
 |[]=>rfl
 |q::l=>by
  unfold iM;split
  .rfl
  .rw[bA,KZ];rfl
def D7 {p:Pt}:∀{l:List Pt},(l.map Pt.id).Pairwise (· <·)->(∀q∈l,q.id≠p.id)->((iM p l).map Pt.id).Pairwise (· <·)
 |[],_,_=>by simp[iM]
 |q::l,h,hn=>by
  rw[bN,dp] at h;have hq:=hn q (by simp);unfold iM;split
  .rename_i c;rw[bN,dp];refine⟨λa ha=>?_,by rw[bN,dp];exact h⟩;rw[bN,bB] at ha;rcases ha with rfl|ha
   .exact c
   .have:=h.1 a ha;omega
  .rw[bN,dp];refine⟨λa ha=>?_,D7 h.2 λx hx=>hn x (bJ _ hx)⟩;obtain⟨x,hx,rfl⟩:=bh.1 ha;rcases ins_mem.1 hx with rfl|hx
   .omega
   .exact h.1 _ (bh.2 ⟨x,hx,rfl⟩)
def pJ {l:List Pt}:ru l=true↔∀p∈l,p.ok=true:=by unfold ru;rw[aV]
def adh {l:List Pt}{p:Pt}(h:okF l)(hp:p.ok=true)(hn:∀q∈l,q.id≠p.id)(h64:l.length≠64):okF (iM p l):=by
 obtain⟨h1,h2,h3⟩:=h;refine⟨by rw[KZ];omega,pJ.2 λx hx=>?_,j9.2 (D7 (j9.1 h3) hn)⟩;rcases ins_mem.1 hx with rfl|hx
 .exact hp
 .exact pJ.1 h2 x hx
def adi {l:List Pt}(h:okF l)(f:Pt->Bool):okF (l.filter f):=by
 obtain⟨h1,h2,h3⟩:=h;refine⟨bM (eZ ..) h1,pJ.2 λx hx=>pJ.1 h2 x (bE.1 hx).1,j9.2 ?_⟩;exact(j9.1 h3).sublist (iQ.map _)
def Dm {l:List Pt}{i:Nat}{p q:Pt}(hi:l[i]?=some q)(e:q.id=p.id):(l.set i p).map Pt.id=l.map Pt.id:=by
 apply cG
 grind
def adj {l:List Pt}{i:Nat}{p q:Pt}(h:okF l)(hp:p.ok=true)(hi:l[i]?=some q)(e:q.id=p.id):okF (l.set i p):=by
 obtain⟨h1,h2,h3⟩:=h;refine⟨by rw[aH];exact h1,pJ.2 λx hx=>?_,j9.2 (by rw[Dm hi e];exact j9.1 h3)⟩;rcases b6 hx with hx|rfl
 .exact pJ.1 h2 x hx
 .exact hp
def JK {p:Pt}:∀{l:List Pt} {P:Nat},LB l p.id P->(∀q∈l,q.id≠p.id)->l.take P++p::l.drop P=iM p l
 |[],P,h,_=>by
  have:P=0:=by have:=h.1;simpa using this
  subst this;rfl
 |q::l,0,h,hn=>by
  have:=(h.2 0 q rfl).2 (aC _);have:=hn q (by simp);unfold iM;rw[ad (by omega)];rfl
 |q::l,P+1,h,hn=>by
  have:=(h.2 0 q rfl).1 (by omega);unfold iM;rw[ac (by omega),gB,List.drop_succ_cons,bf];rw[JK (l:=l) (P:=P) ⟨by have:=h.1;simpa using this,λk x hx=>?_⟩ λx hx=>hn x (bJ _ hx)]
  have:=h.2 (k+1) x hx;exact⟨λhk=>this.1 (by omega),λhk=>this.2 (by omega)⟩
def dO (l:List Pt)(p:Pt):Int:=if eO l=0 then if p.ok=true then if 0<=pos l p.id then 14 else if l.length=64 then 18 else 0 else 8 else eO l
def putF (l:List Pt)(p:Pt):List Pt:=if dO l p=0 then iM p l else []
def dw (l:List Pt)(id:Int):Int:=if eO l=0 then if 0<=pos l id then 0 else 6 else eO l
def iN (id:Int)(p:Pt):Bool:=!decide (p.id=id)
def takeF (l:List Pt)(id:Int):List Pt:=if dw l id=0 then l.filter (iN id) else []
def eM (l:List Pt)(p:Pt):Int:=if eO l=0 then if p.ok=true then if 0<=pos l p.id then 0 else 6 else 8 else eO l
def chgF (l:List Pt)(p:Pt):List Pt:=if eM l p=0 then l.set (pos l p.id).toNat p else []
def fK {l:List Pt}{p:Pt}(h:dO l p=0):okF l/\ okF (putF l p)/\(∀q∈l,q.id≠p.id):=by
 unfold putF;rw[ad h];unfold dO at h;split at h
 .rename_i h1;have hl:=eu.1 h1;split at h
  .rename_i h2;split at h
   .cases h
   .rename_i h3;split at h
    .cases h
    .rename_i h4;have hn:∀q∈l,q.id≠p.id:=by
      rcases pos_cases l p.id with⟨_,hn⟩|⟨i,q,hp,he,e⟩
      .exact hn
      .omega
     exact⟨hl,adh hl h2 hn h4,hn⟩
  .cases h
 .grind
def zJ {l:List Pt}(h:hY l){i:Nat}{p:Pt}(hp:l[i]?=some p):l.eraseIdx i=l.filter (iN p.id):=by
 have hids:=j9.1 h;induction l generalizing i with
 |nil=>simp at hp
 |cons q l ih=>
  rw[bN,dp] at hids;cases i with
  |zero=>
   simp at hp;subst hp;rw[List.eraseIdx_cons_zero,dU (by simp[iN])];refine(ee.2 λx hx=>?_).symm;have:=hids.1 x.id (bh.2 ⟨x,hx,rfl⟩);simp[iN];omega
  |succ i=>
   have:=hids.1 p.id (bh.2 ⟨p,ay hp,rfl⟩);rw[List.eraseIdx_cons_succ,dV (by simp[iN];omega),ih (j9.2 hids.2) hp hids.2]
def fX {l:List Pt}{id:Int}(h:dw l id=0):okF l/\ okF (takeF l id)/\∃(i:Nat) (p:Pt),l[i]?=some p/\ p.id=id/\ pos l id=(i:Nat):=by
 unfold takeF;rw[ad h];unfold dw at h;split at h
 .rename_i h1;have hl:=eu.1 h1;split at h
  .rename_i h2;rcases pos_cases l id with⟨e,_⟩|hp
   .omega
   .exact⟨hl,adi hl _,hp⟩
  .cases h
 .grind
def js {l:List Pt}{p:Pt}(h:eM l p=0):okF l/\ okF (chgF l p)/\∃(i:Nat) (q:Pt),l[i]?=some q/\ q.id=p.id/\ pos l p.id=(i:Nat):=by
 unfold chgF;rw[ad h];unfold eM at h;split at h
 .rename_i h1;have hl:=eu.1 h1;split at h
  .rename_i h0;split at h
   .rename_i h2;rcases pos_cases l p.id with⟨e,_⟩|⟨i,q,hp,he,e⟩
    .omega
    .refine⟨hl,?_,i,q,hp,he,e⟩;rw[e,aG];exact adj hl h0 hp he
   .cases h
  .cases h
 .grind
def ir (h:List Int)(i k:Nat)(a b:Int):List Int:=(h.set i b).set k a
def lO {h:List Int}{i k:Nat}{a b:Int}(ha:h[i]?=some a)(hb:h[k]?=some b):(ir h i k a b).Perm h:=by
 unfold ir
 grind
section
variable (t:Rt)(l:List Pt)
def ea:Nat->List Int->Nat->List Int×Nat
 |0,h,i=>(h,i)
 |n+1,h,i=>match h[i]?,h[(i-1)/2]? with
  |some a,some b=>if 0<i/\ leads t (ptOf l a) (ptOf l b)=true then ea n (ir h i ((i-1)/2) a b) ((i-1)/2) else(h,i)
  |_,_=>(h,i)
def nA (h:List Int)(i:Nat):Nat:=match h[2*i+1]?,h[2*i+2]? with
 |some a,some b=>if leads t (ptOf l b) (ptOf l a)=true then 2*i+2 else 2*i+1
 |_,_=>2*i+1
def nxtL (h:List Int)(i:Nat):Nat:=match h[i]?,h[nA t l h i]? with
 |some a,some b=>if leads t (ptOf l b) (ptOf l a)=true then nA t l h i else i
 |_,_=>i
def iP:Nat->List Int->Nat->List Int
 |0,h,_=>h
 |n+1,h,i=>match h[i]?,h[nxtL t l h i]? with
  |some a,some b=>if nxtL t l h i=i then h else iP n (ir h i (nxtL t l h i) a b) (nxtL t l h i)
  |_,_=>h
end
variable {t:Rt}{l:List Pt}
def zr:∀(n:Nat) (h:List Int) (i:Nat),(ea t l n h i).1=lY t l n h i
 |0,h,i=>rfl
 |n+1,h,i=>by
  unfold ea lY;cases h[i]? with
  |none=>rfl
  |some a=>
   cases h[(i-1)/2]? with
   |none=>rfl
   |some b=>
    simp only;split
    .exact zr n _ _
    .rfl
def wK:∀(n:Nat) (h:List Int) (i:Nat) (v:Int),h[i]?=some v->(ea t l n h i).1[(ea t l n h i).2]?=some v/\(ea t l n h i).2<=i
 |0,h,i,v,hv=>⟨hv,aC _⟩
 |n+1,h,i,v,hv=>by
  unfold ea;rw[hv];cases hb:h[(i-1)/2]? with
  |none=>exact⟨hv,aC _⟩
  |some b=>
   simp only;split
   .have h3:=(aD.1 hb).1;have:=wK n (ir h i ((i-1)/2) v b) ((i-1)/2) v (by unfold ir;rw[be (by rw[aH];exact h3)]);exact⟨this.1,by omega⟩
   .exact⟨hv,aC _⟩
def oR (n:Nat)(h:List Int)(i:Nat):(ea t l n h i).1.Perm h:=by rw[zr];exact qf n h i
def Rm (h:List Int)(i:Nat):nA t l h i=2*i+1\/(nA t l h i=2*i+2/\ 2*i+2<h.length):=by
 unfold nA
 grind
def JL (h:List Int)(i:Nat):nxtL t l h i=i\/(nxtL t l h i=nA t l h i/\ nA t l h i<h.length/\ i<nA t l h i):=by
 unfold nxtL;have:=Rm (t:=t) (l:=l) h i
 grind
def D8:∀(n:Nat) (h:List Int) (i:Nat),(iP t l n h i).Perm h
 |0,h,i=> .refl _
 |n+1,h,i=>by
  unfold iP;split
  .rename_i a b ha hb;split
   .exact .refl _
   .exact(D8 n _ _).trans (lO ha hb)
  .exact .refl _
def oT (t:Rt)(l:List Pt)(h:List Int)(i:Nat):List Int:=iP t l h.length (ea t l (i+1) h i).1 (ea t l (i+1) h i).2
def nP {h:List Int}{i:Nat}:(oT t l h i).Perm h:=(D8 _ _ _).trans (oR _ _ _)
def jK {l:List Pt}(h:okF l){hp:List Int}(hl:hp.length=l.length)(hin:∀x∈hp,inF l x=true)(hnd:hp.Nodup):hp.Perm (l.map Pt.id):=
 jI hnd (λx hx=>ey.1 (hin x hx)) (by rw[ai];omega)
def Dn {l:List Pt}{p:Pt}:((iM p l).map Pt.id).Perm (l.map Pt.id++[p.id]):=by
 induction l with
 |nil=>simp[iM]
 |cons q l ih=>
  unfold iM
  grind
def fy (hp:List Int)(i:Nat):List Int:=match hp[hp.length-1]? with
 |some z=>(hp.set i z).take (hp.length-1)
 |none=>hp
def Cd {hp:List Int}{i:Nat}{v:Int}(hv:hp[i]?=some v):(fy hp i++[v]).Perm hp:=by
 have hi:=bb hv;obtain⟨q,z,rfl⟩:∃q z,hp=q++[z]:=by
  rcases ib hp with h|⟨q,z,h⟩
  .grind
  .grind
 unfold fy;simp only[aB,aQ,d6]
 grind
def T3 {l:List Pt}(h:hY l){id:Int}{i:Nat}{p:Pt}(hp:l[i]?=some p)(e:p.id=id):((l.filter (iN id)).map Pt.id++[id]).Perm (l.map Pt.id):=by
 have e1:=zJ h hp;have e2:l=l.take i++p::l.drop (i+1):=by
  rw[<-(aD.1 hp).2,List.getElem_cons_drop,dN]
 grind
def atT (e:Evt)(t:Rt):Evt:=⟨t,e.number,e.hnd⟩
def jE (a:Agenda)(i:Nat)(t:Rt):Agenda:=match a.heap[i]? with
 |some e=>
  let u:=upS (i+1) (a.heap.set i (atT e t)) a.wher i
  let d:=dr a.heap.length u.1 u.2.1 u.2.2
  ⟨a.slots,d.1,d.2⟩
 |none=>a
def adk {a:Agenda}(h:dX a){i:Nat}{e:Evt}(he:a.heap[i]?=some e){t:Rt}(ht:rok t=true):
  dX (jE a i t)/\(jE a i t).heap.Perm (a.heap.set i (atT e t))/\(jE a i t).wher.length=a.wher.length:=by
 have hs:=cZ.1 h.1;have hP:=jW hs h.2.1;have hl:=h.2.1.2.1;have hO:=xC h;have hi:=bb he;have hr:∀x∈a.heap,mj x:=h.2.2.1;have hrk:∀x∈a.heap,rok x.time=true:=λx hx=>(hr x hx).1;obtain⟨f,hf⟩:∃f,f=atT e t:=⟨_,rfl⟩;have hfh:f.hnd=e.hnd:=by rw[hf];rfl
 have hfn:f.number=e.number:=by rw[hf];rfl
 have hfr:rok f.time=true:=by rw[hf];exact ht
 have G:∀m,(a.heap.set i f)[m]?=if m=i then some f else a.heap[m]?:=λm=>by
  grind
 have hnum:(a.heap.set i f).map (·.number)=a.heap.map (·.number):=by
  apply cG
  grind
 have hw:Plc a.slots (a.heap.set i f) a.wher:=by
  refine⟨hP.len,λm g hg=>?_,λk hk=>?_,hP.off⟩
  .rw[G] at hg;by_cases q:m=i
   .subst q;rw[ad rfl] at hg;cases hg;rw[hfh];exact hP.at_ m e he
   .rw[ac q] at hg;exact hP.at_ m g hg
  .obtain⟨m,g,v,g1,g2,g3,g4⟩:=hP.of_ k hk;by_cases q:m=i
   .subst q;rw[he] at g2;cases g2;exact⟨m,f,v,g1,by rw[G,ad rfl],g3,by rw[hfh];exact g4⟩
   .exact⟨m,g,v,g1,by rw[G,ac q];exact g2,g3,g4⟩
 have hev:∀x∈a.heap.set i f,mj x:=λx hx=>by
  rcases b6 hx with h1|h1
  .exact hr x h1
  .rw[h1];have:=hr e (ay he);unfold mj at this|-;rw[hfn];exact⟨hfr,this.2⟩
 have fin:∀(h1:List Evt) (w1:List Int),Ord h1->h1.Perm (a.heap.set i f)->Plc a.slots h1 w1->dX ⟨a.slots,h1,w1⟩/\ h1.Perm (a.heap.set i f)/\ w1.length=a.wher.length:=λh1 w1 o p q=>by
  have pl:=p.length_eq;rw[aH] at pl;refine⟨⟨cZ.2 hs,Fy q ?_,λx hx=>hev x (p.mem_iff.1 hx),?_,λc x p' hx hp'=>?_⟩,p,?_⟩
  .show h1.length+a.slots.free.length=a.slots.uses.length
   omega
  .have:=(p.map (·.number)).nodup_iff.2 (by rw[hnum];exact h.2.2.2.1);exact this
  .exact o (c+1) x p' (by omega) hx (by simpa using hp')
  .rw[q.len,hP.len]
 unfold jE;rw[he];simp only;rw[<-hf];have hrs:∀x∈a.heap.set i f,rok x.time=true:=λx hx=>(hev x hx).1;have her:rok e.time=true:=hrk e (ay he);have kidp:∀(c:Nat) (x p:Evt),0<i->0<c->(c-1)/2=i->a.heap[c]?=some x->a.heap[(i-1)/2]?=some p->evLess x p=false:=λc x p i0 c0 hc hx hp'=>
  qN (hrk x (ay hx)) her (hrk p (ay hp')) (hO c x e c0 hx (by rw[hc];exact he)) (hO i e p i0 he hp')
 have other:∀(c:Nat) (x p:Evt),0<c->c≠i->(c-1)/2≠i->(a.heap.set i f)[c]?=some x->(a.heap.set i f)[(c-1)/2]?=some p->evLess x p=false:=λc x p c0 cn pn hx hp'=>by
  rw[G,ac cn] at hx;rw[G,ac pn] at hp';exact hO c x p c0 hx hp'
 have hfi:(a.heap.set i f)[i]?=some f:=by rw[G,ad rfl]
 have hlen:(a.heap.set i f).length=a.heap.length:=aH;by_cases hc:∃p,0<i/\ a.heap[(i-1)/2]?=some p/\ evLess f p=true
 .obtain⟨p,i0,hpp,hfp⟩:=hc;obtain⟨q1,q2,q3,_,_⟩:=xB (s:=a.slots) (i+1) (a.heap.set i f) _ i (by omega) (by omega) hrs ⟨λc x q c0 cn hx hq'=>by
   by_cases a1:(c-1)/2=i
   .rw[G,ad a1] at hq';cases hq';rw[G,ac cn] at hx;exact xz hfr (hrk p (ay hpp)) (hrk x (ay hx)) hfp (kidp c x p i0 c0 a1 hx hpp)
   .exact other c x q c0 cn a1 hx hq',λc x q i0 c0 hc hx hq'=>by
   rw[G,ac (by omega)] at hx;rw[G,ac (by omega)] at hq';exact kidp c x q i0 c0 hc hx hq'⟩ hw
  rw[D5 q1];exact fin _ _ q1 q2 q3
 .have hu:upS (i+1) (a.heap.set i f) a.wher i=(a.heap.set i f,a.wher,i):=by
   unfold upS;rw[hfi];cases hpp:(a.heap.set i f)[(i-1)/2]? with
   |none=>rfl
   |some p=>
    simp only;rw[ac];rintro⟨i0,hfp⟩;rw[G,ac (by omega)] at hpp;exact hc ⟨p,i0,hpp,hfp⟩
  rw[hu];obtain⟨q1,q2,q3⟩:=Ax (s:=a.slots) a.heap.length (a.heap.set i f) _ i (by omega) (by omega) hrs ⟨λc x q c0 cn hx hq'=>by
   by_cases a1:c=i
   .subst a1;rw[hfi] at hx;cases hx;rw[G,ac (by omega)] at hq';cases hl':evLess f q with
    |false=>rfl
    |true=>exact absurd ⟨q,c0,hq',hl'⟩ hc
   .exact other c x q c0 a1 cn hx hq',λc x q i0 c0 hc hx hq'=>by
   rw[G,ac (by omega)] at hx;rw[G,ac (by omega)] at hq';exact kidp c x q i0 c0 hc hx hq'⟩ hw
  exact fin _ _ q1 q2 q3
def Rn {α β:Type}{R:α->β->Prop}{us:List α}{vs:List β}(h:F2 R us vs):∀{xs:List α} {ys:List β},F2 R xs ys->F2 R (xs++us) (ys++vs)
 |_,_,.nil=>h
 |_,_,.cons r t=> .cons r (Rn h t)
def K3 {α β:Type}{R S:α->β->Prop}:∀{xs:List α} {ys:List β},(∀a,∀b∈ys,R a b->S a b)->F2 R xs ys->F2 S xs ys
 |_,_,_,.nil=> .nil
 |_,_,h,.cons r t=> .cons (h _ _ (gY ..) r) (K3 (λa b hb=>h a b (bJ _ hb)) t)
def l8 (c:Clock)(n:Int):Option Due:=c.due.find? λd=>decide (d.number=n)
def frA (a:Agenda):List Int:=a.slots.free.dropLast
def fiA (a:Agenda):Nat:=((a.slots.free.getLast?).getD 0).toNat
def uA (a:Agenda):Int:=(a.slots.uses[fiA a]?).getD 0
def wL (a:Agenda)(t:Rt)(n:Int):Agenda:=gJ a (frA a) (fiA a) (uA a) t n
def wM (a:Agenda)(n:Int):Due:=⟨n,⟨fiA a,uA a+1⟩⟩
def Do {a:Agenda}(h:dX a)(ho:gc a.slots=true):a.slots.free=frA a++[(fiA a:Int)]/\ a.slots.uses[fiA a]?=some (uA a)/\ uA a<1000000:=by
 obtain⟨fr,i,u,e,hu,hm⟩:=yH (cZ.1 h.1) ho;have e1:frA a=fr:=by unfold frA;rw[e];simp
 have e2:fiA a=i:=by unfold fiA;rw[e];simp
 have e3:uA a=u:=by unfold uA;rw[e2,hu];rfl
 grind
def plA (a:Agenda)(j:Int):Nat:=((a.wher[j.toNat]?).getD 0).toNat
def failG (c:Clock)(g:List Pt)(x:Crt):Rt×Bool:=ef c.now (ptOf g x.high) (ptOf g x.low)
def altS (c:Clock)(g:List Pt)(s:Agenda×List Due)(x:Held):Option (Agenda×List Due):=
 match(failG c g x.cert).2,l8 c x.number with
 |true,some d=>some (jE s.1 (plA s.1 d.hnd.index) (failG c g x.cert).1,s.2++[d])
 |true,none=>if gc s.1.slots=true then some (wL s.1 (failG c g x.cert).1 x.number,s.2++[wM s.1 x.number]) else none
 |false,some d=>some (kx s.1 (plA s.1 d.hnd.index) d.hnd.index.toNat,s.2)
 |false,none=>some s
def tJ (c:Clock)(g:List Pt):Option Clock:=match foldO (altS c g) (c.agenda,[]) c.certs.list with
 |some s=>some ⟨c.now,g,c.certs,s.1,s.2⟩
 |none=>none
def adl (c:Clock)(g:List Pt)(a:Agenda)(d:Due)(x:Held):Prop:=d.number=x.number/\(⟨(failG c g x.cert).1,x.number,d.hnd⟩:Evt)∈a.heap
def l9 (c:Clock)(x:Held):Bool:=(l8 c x.number).isSome
def ET (c:Clock)(g:List Pt)(x:Held):Bool:=(failG c g x.cert).2
structure AInv (c:Clock)(g:List Pt)(k:Nat)(s:Agenda×List Due):Prop where
 ok:dX s.1
 len:s.1.wher.length=200
 e64:∀e∈s.1.heap,aX e.time
 due:F2 (adl c g s.1) s.2 ((c.certs.list.take k).filter (ET c g))
 old:∀d∈c.due,(∃x∈c.certs.list.drop k,x.number=d.number)->∃t,(⟨t,d.number,d.hnd⟩:Evt)∈s.1.heap
 cnt:s.1.heap.length=s.2.length+((c.certs.list.drop k).filter (l9 c)).length
 num:∀e∈s.1.heap,(∃x∈c.certs.list.take k,x.number=e.number)\/∃d∈c.due,d.number=e.number
def oU {c:Clock}{n:Int}:(∀d,l8 c n=some d->d∈c.due/\ d.number=n)/\(l8 c n=none->∀d∈c.due,d.number≠n):=by
 constructor
 .intro d h;exact⟨eX h,by simpa using jw h⟩
 .intro h d hd;simpa using gX.1 h d hd
def Ro {c:Clock}(h:bx c){k:Nat}{x:Held}(hx:c.certs.list[k]?=some x):(∀y∈c.certs.list.take k,y.number<x.number)/\∀y∈c.certs.list.drop (k+1),x.number<y.number:=by
 constructor
 .intro y hy;obtain⟨j,hj⟩:=aL.1 hy;have hji:j<k:=by have:=bb hj;rw[aK] at this;omega
  rw[fw hji] at hj;exact tW h.2.2.1 k j y x hji hj hx
 .intro y hy;obtain⟨j,hj⟩:=aL.1 hy;rw[eE] at hj;exact tW h.2.2.1 _ k x y (by omega) hx hj
def uT {α:Type}{l:List α}{k:Nat}{x:α}(hx:l[k]?=some x):l.drop k=x::l.drop (k+1):=by
 rw[cB (bb hx),(aD.1 hx).2]
def Dp {α:Type}{l:List α}{k:Nat}{x:α}(hx:l[k]?=some x):l.take (k+1)=l.take k++[x]:=by
 rw[cH,hx];rfl
def Ce {c:Clock}{g:List Pt}{k:Nat}{s:Agenda×List Due}(I:AInv c g k s){x:Held}(hx:c.certs.list[k]?=some x){d:Due}(hd:l8 c x.number=some d):
  ∃(i j:Nat) (u:Int) (e:Evt),plA s.1 d.hnd.index=i/\ s.1.heap[i]?=some e/\ e.hnd=⟨(j:Int),u⟩/\ d.hnd=⟨(j:Int),u⟩/\ e.number=x.number:=by
 obtain⟨h1,h2⟩:=oU.1 d hd;obtain⟨t,ht⟩:=I.old d h1 ⟨x,by rw[uT hx];simp,h2.symm⟩;obtain⟨i,hi⟩:=aL.1 ht;obtain⟨j,u,e1,e2,e3,e4⟩:=(jW (cZ.1 I.ok.1) I.ok.2.1).at_ i _ hi;unfold plA
 grind
def wN {c:Clock}{g:List Pt}{k:Nat}{s:Agenda×List Due}(h:bx c)(I:AInv c g k s){x:Held}(hx:c.certs.list[k]?=some x){a:Agenda}{r:List Due}(ok:dX a)(len:a.wher.length=200)(e64:∀e∈a.heap,aX e.time)
  (keep:∀e∈s.1.heap,e.number≠x.number->e∈a.heap) (back:∀e∈a.heap,e∈s.1.heap\/e.number=x.number) (due:F2 (adl c g a) r ([x].filter (ET c g))) (cnt:a.heap.length+([x].filter (l9 c)).length=s.1.heap.length+r.length):AInv c g (k+1) (a,s.2++r):=by
 obtain⟨n1,n2⟩:=Ro h hx;refine⟨ok,len,e64,?_,λd hd ⟨y,hy,e⟩=>?_,?_,λe he=>?_⟩
 .rw[Dp hx,jv];refine Rn due (K3 (λd y hy ⟨r1,r2⟩=>⟨r1,keep _ r2 ?_⟩) I.due)
  grind
 .obtain⟨t,ht⟩:=I.old d hd ⟨y,by rw[uT hx];simp[hy],e⟩
  grind
 .have:=I.cnt;rw[uT hx] at this
  grind
 .rw[Dp hx];rcases back e he with h1|h1
  .rcases I.num e h1 with⟨y,hy,e'⟩|h2
   .exact .inl ⟨y,by simp[hy],e'⟩
   .exact .inr h2
  .exact .inl ⟨x,by simp,h1.symm⟩
def Dq {c:Clock}{g:List Pt}{k:Nat}{s:Agenda×List Due}(h:bx c)(I:AInv c g k s){x:Held}(hx:c.certs.list[k]?=some x)(hd:l8 c x.number=none):x.number∉s.1.heap.map (·.number):=λhm=>by
 obtain⟨e,he,hn⟩:=bh.1 hm;rcases I.num e he with⟨y,hy,e'⟩|⟨d,hd',e'⟩
 .have:=(Ro h hx).1 y hy;omega
 .exact oU.2 hd d hd' (by omega)
def JM {c:Clock}(h:bx c){k:Nat}{x:Held}(hx:c.certs.list[k]?=some x):x.cert.ok/\ 0<=x.number/\ x.number<=1000000:=by
 have h3:=h.2.2.1;have:=h3.2.2.1;have q:=h3.2.2.2 k x hx
 grind
def Az {c:Clock}{g:List Pt}(h:bx c)(hn:aX c.now)(hg:okF g)(hk:∀x∈c.certs.list,cT g x=true){k:Nat}{x:Held}(hx:c.certs.list[k]?=some x)(hf:(failG c g x.cert).2=true):rok (failG c g x.cert).1=true/\ aX (failG c g x.cert).1:=by
 have:=hk x (ay hx);unfold cT at this;rw[aM] at this;exact ri hg hn h.1 this.1 this.2 hf
def AA {c:Clock}{g:List Pt}{k:Nat}{s s':Agenda×List Due}(h:bx c)(hn:aX c.now)(hg:okF g)(hk:∀x∈c.certs.list,cT g x=true)(I:AInv c g k s){x:Held}(hx:c.certs.list[k]?=some x)(hs:altS c g s x=some s'):AInv c g (k+1) s':=by
 have fo:=Az h hn hg hk hx;obtain⟨_,x0,x1⟩:=JM h hx;unfold altS at hs;cases hf:(failG c g x.cert).2 with
 |true=>
  obtain⟨f1,f2⟩:=fo hf;have ff:[x].filter (ET c g)=[x]:=by rw[dV (by exact hf)];rfl
  cases hd:l8 c x.number with
  |some d=>
   have fd:[x].filter (l9 c)=[x]:=by rw[dV (by unfold l9;rw[hd];rfl)];rfl
   rw[hf,hd] at hs;cases hs;obtain⟨i,j,u,e,e1,e2,e3,e4,e5⟩:=Ce I hx hd;rw[e1];obtain⟨q1,q2,q3⟩:=adk I.ok e2 f1;have hi:=bb e2;refine wN h I hx q1 (q3.trans I.len) (λy hy=>?_) (λy hy hne=>q2.mem_iff.2 ?_) (λy hy=>?_) ?_ ?_
   .rcases b6 (q2.mem_iff.1 hy) with h1|h1
    .exact I.e64 y h1
    .rw[h1];exact f2
   .obtain⟨m,hm⟩:=aL.1 hy;refine ay (i:=m) ?_;rw[bG (λq=>hne ?_)]
    .exact hm
    .subst q;rw[hm] at e2;cases e2;exact e5
   .rcases b6 (q2.mem_iff.1 hy) with h1|h1
    .exact .inl h1
    .exact .inr (by rw[h1];exact e5)
   .rw[ff];refine .cons ⟨(oU.1 d hd).2,q2.mem_iff.2 ?_⟩ .nil;refine ay (i:=i) ?_;rw[be hi];unfold atT;rw[e5,e3,e4]
   .have:=q2.length_eq;rw[aH] at this;rw[fd,this];rfl
  |none=>
   have fd:[x].filter (l9 c)=[]:=by rw[dU (by unfold l9;rw[hd];simp)];rfl
   rw[hf,hd] at hs;simp only at hs;split at hs
   .rename_i ho;cases hs;obtain⟨o1,o2,o3⟩:=Do I.ok ho;obtain⟨q1,q2,q3⟩:=yS I.ok o1 o2 o3 (t:=(failG c g x.cert).1) (n:=x.number) ⟨f1,x0,x1⟩ (Dq h I hx hd);refine wN h I hx q1 (q3.trans I.len) (λy hy=>?_) (λy hy hne=>q2.mem_iff.2 (dg _ hy)) (λy hy=>?_) ?_ ?_
    .rcases b9.1 (q2.mem_iff.1 hy) with h1|h1
     .exact I.e64 y h1
     .rw[cg.1 h1];exact f2
    .rcases b9.1 (q2.mem_iff.1 hy) with h1|h1
     .exact .inl h1
     .exact .inr (by rw[cg.1 h1])
    .rw[ff];exact .cons ⟨rfl,q2.mem_iff.2 (fZ _ (cg.2 rfl))⟩ .nil
    .have:=q2.length_eq;rw[aB,aQ] at this;rw[fd];exact this
   .cases hs
 |false=>
  have ff:[x].filter (ET c g)=[]:=by rw[dU (by show¬(failG c g x.cert).2=true;rw[hf];simp)];rfl
  cases hd:l8 c x.number with
  |some d=>
   have fd:[x].filter (l9 c)=[x]:=by rw[dV (by unfold l9;rw[hd];rfl)];rfl
   rw[hf,hd] at hs;cases hs;obtain⟨i,j,u,e,e1,e2,e3,e4,e5⟩:=Ce I hx hd;have ej:d.hnd.index.toNat=j:=by rw[e4];simp
   rw[e1,ej];obtain⟨q1,q2,q3⟩:=Rl I.ok e2 e3;rw[<-aR s.2];refine wN h I hx q1 (q3.trans I.len) (λy hy=>I.e64 y (q2.mem_iff.1 (dg _ hy))) (λy hy hne=>?_) (λy hy=> .inl (q2.mem_iff.1 (dg _ hy))) ?_ ?_
   .rcases b9.1 (q2.mem_iff.2 hy) with h1|h1
    .exact h1
    .exact absurd (by rw[cg.1 h1];exact e5) hne
   .rw[ff];exact .nil
   .have:=q2.length_eq;rw[aB,aQ] at this;rw[fd];exact this
  |none=>
   have fd:[x].filter (l9 c)=[]:=by rw[dU (by unfold l9;rw[hd];simp)];rfl
   rw[hf,hd] at hs;cases hs;have:=wN h I hx (a:=s.1) (r:=[]) I.ok I.len I.e64 (λy hy _=>hy) (λy hy=> .inl hy) (by rw[ff];exact .nil) (by rw[fd];rfl);rw[aR] at this;exact this
def Rp {c:Clock}(h:bx c){x:Held}(hx:x∈c.certs.list):(fT c x.cert).2=l9 c x:=by
 obtain⟨h1,h2,h3,h4,h5,h6,h7,h8⟩:=pI.1 h;have hnd:=AQ h3;cases hd:l8 c x.number with
 |some d=>
  obtain⟨m,e⟩:=oU.1 d hd;obtain⟨y,hy,r1,_⟩:=Dk h8 d m;obtain⟨y1,y2⟩:=bE.1 hy;have:=D6 (nu:=λx:Held=>x.number) hnd hx y1 (by show x.number=y.number;omega)
  unfold l9
  grind
 |none=>
  unfold l9;rw[hd];cases hf:(fT c x.cert).2 with
  |false=>rfl
  |true=>
   have hm:x∈c.certs.list.filter λx=>(fT c x.cert).2:=bE.2 ⟨hx,hf⟩;have:∀{xs:List Due} {ys:List Held},F2 (Di c) xs ys->∀b∈ys,∃a∈xs,Di c a b:=by
    intro xs ys h;induction h with
    |nil=>intro b hb;cases hb
    |cons r _ ih=>
     grind
   obtain⟨d,hd',r1,_⟩:=this h8 x hm;exact absurd r1 (oU.2 hd d hd')
def yI {c:Clock}(g:List Pt)(h:bx c)(hn:aX c.now):AInv c g 0 (c.agenda,[]):=by
 have h64:=(yG h hn).2;have hat:=λd hd=>Cc h (d:=d) hd;have hnum:=(qe h).1;obtain⟨h1,h2,h3,h4,h5,h6,h7,h8⟩:=pI.1 h;refine⟨h4,h5,h64,.nil,λd hd _=>?_,?_,λe he=> .inr ?_⟩
 .obtain⟨i,j,u,e,w1,w2,w3,w4,w5,_⟩:=hat d hd;refine⟨e.time,?_⟩;have:=ay w2;rw[w4,<-w3,<-w5];exact this
 .have e:=jR λx hx=>(Rp h hx).symm;simp;rw[h6,e,JH h8]
 .have:=hnum.mem_iff.2 (bh.2 ⟨e,he,rfl⟩)
  grind
def T4 {c:Clock}{g:List Pt}{s:Agenda×List Due}(h:bx c)(hg:okF g)(hk:∀x∈c.certs.list,cT g x=true)(I:AInv c g c.certs.list.length s):bx ⟨c.now,g,c.certs,s.1,s.2⟩:=by
 refine pI.2 ⟨h.1,hg,h.2.2.1,I.ok,I.len,?_,hk,?_⟩
 .have:=I.cnt
  grind
 .have:=I.due;rw[cW] at this;exact this
def JN {c:Clock}{g:List Pt}(h:bx c)(hn:aX c.now)(hg:okF g)(hk:∀x∈c.certs.list,cT g x=true):∀(r k:Nat) (s s':Agenda×List Due),k+r=c.certs.list.length->AInv c g k s->foldO (altS c g) s (c.certs.list.drop k)=some s'->AInv c g c.certs.list.length s'
 |0,k,s,s',e,I,hf=>by
  rw[cD (by omega)] at hf;cases hf;rw[<-e];exact I
 |r+1,k,s,s',e,I,hf=>by
  obtain⟨x,hx⟩:∃x,c.certs.list[k]?=some x:=⟨c.certs.list[k]'(by omega),ah _⟩;rw[uT hx,foldO] at hf;cases hs:altS c g s x with
  |none=>rw[hs] at hf;cases hf
  |some y=>
   rw[hs] at hf;exact JN h hn hg hk r (k+1) y s' (by omega) (AA h hn hg hk I hx hs) hf
def JO {c d:Clock}{g:List Pt}(h:bx c)(hn:aX c.now)(hg:okF g)(hk:∀x∈c.certs.list,cT g x=true)(hd:tJ c g=some d):bx d/\ d.now=c.now/\ d.pts=g/\ d.certs=c.certs:=by
 unfold tJ at hd;cases hf:foldO (altS c g) (c.agenda,[]) c.certs.list with
 |none=>rw[hf] at hd;cases hd
 |some s=>
  rw[hf] at hd;cases hd;exact⟨T4 h hg hk (JN h hn hg hk c.certs.list.length 0 _ s (by omega) (yI g h hn) (by rw[cL];exact hf)),rfl,rfl,rfl⟩
def EPr (e:Evt):PV:= .agg [.i64 e.number,.i64 e.hnd.index,.i64 e.hnd.use]
def T5 (e:Evt):RF.ev (.part 2 3) [EP e]=some (EPr e):=rfl
def T6 (t:Rt):RF.ev (.part 0 2) [R t]=some (R t):=rfl
def Nl (t:Rt)(e:Evt):RF.ev .agg [R t,EPr e]=some (EP (atT e t)):=rfl
def JP {N:Nat}{f0:JT}{t:Rt}{e:Evt}{e0 e1 e2 e3 e4 e6 e7 e8 e9 e10 e11 e12 e13 e14 e15 e17 e19:PV}{n W:Nat}(hn:n<=1000)(hf:GoodE W (atT e t)):∀(r i m:Nat) (hp:List Evt) (wh:List Int),i<=r->r<m->i<n->hp.length=n->wh.length=W->(∀x∈hp,GoodE W x)->
  cS (aY D) N ul [f0] [e0,e1,e2,e3,e4,R t,e6,e7,e8,e9,e10,e11,e12,e13,e14,e15,.i64 (n:Int),e17,.i64 (W:Int),e19,EP e] m [.i64 (i:Int),sl bO hp,sl I1 wh]=f0 [sl bO (dM (atT e t) r hp wh i).1,sl I1 (dM (atT e t) r hp wh i).2.1,.i64 ((dM (atT e t) r hp wh i).2.2:Int)]
 |0,i,m,hp,wh,hi,hm,hiH,hl,hw,hg=>by
  obtain⟨m,rfl⟩:∃m',m=m'+1:=⟨m-1,by omega⟩;have:i=0:=by omega
  subst this;rw[bc];unfold ul dM;simp only[EV,aa];rw[ac (by omega)]
 |r+1,i,m,hp,wh,hi,hm,hiH,hl,hw,hg=>by
  obtain⟨m,rfl⟩:∃m',m=m'+1:=⟨m-1,by omega⟩;obtain⟨p,hp'⟩:∃p,hp[(i-1)/2]?=some p:=⟨hp[(i-1)/2]'(by omega),ah _⟩;have E:dM (atT e t) (r+1) hp wh i=if 0<i/\ evLess (atT e t) p=true then dM (atT e t) r (hp.set i p) (wh.set p.hnd.index.toNat (i:Int)) ((i-1)/2) else(hp,wh,i):=by rw[dM,hp']
  rw[E,bc];by_cases h0:0<i
  rotate_left
  .rw[ac (λh=>h0 h.1)];unfold ul;simp only[EV,aa];rw[ac (by omega)]
  .obtain⟨p64,prk,jp,pj,pW⟩:=hg p (ay hp');have ih:=JP (N:=N) (f0:=f0) (e0:=e0) (e1:=e1) (e2:=e2) (e3:=e3) (e4:=e4) (e6:=e6) (e7:=e7) (e8:=e8) (e9:=e9) (e10:=e10) (e11:=e11) (e12:=e12) (e13:=e13) (e14:=e14) (e15:=e15) (e17:=e17) (e19:=e19) hn hf r ((i-1)/2) m (hp.set i p) (wh.set p.hnd.index.toNat (i:Int)) (by omega) (by omega) (by omega) (by rw[aH];exact hl) (by rw[aH];exact hw) (λx hx=>by
    rcases b6 hx with h1|h1
    .exact hg x h1
    .rw[h1];exact⟨p64,prk,jp,pj,pW⟩)
   have cm:=phi (tu (x:=atT e t) (y:=p) hf.t64 p64 hf.rok prk);have q2:=tC h0 (by omega);have s1:=lX (l:=hp) (i:=i) (by omega) p;have s3:=dQ (l:=wh) (i:=jp) (by omega) (i:Int);generalize hkk:ul=kk at ih;subst hkk;unfold ul;simp[EV];rw[ad (by omega)];simp only[EV,q2,ixM (show(i-1)/2<n by omega),aJ hp',eU,T6,T5,Nl,cm,aa,kL]
   by_cases hc:evLess (atT e t) p=true
   .rw[ad hc,ad ⟨h0,hc⟩];simp[EV,fN,q2,ixM hiH,ixM (show(i-1)/2<n by omega),aJ hp',eU,ax,ly,s1,xE,pj,ixM pW,s3]
    rw[pj,aG] at ih;exact ih
   .rw[ac hc,ac (λq=>hc q.2)]
def Cf {N:Nat}{f0:JT}{t:Rt}{e:Evt}{e0 e1 e2 e3 e4 e6 e7 e8 e9 e10 e11 e12 e13 e14 e15 e17 e19 e21 e22 e23 e24 e25:PV}{n W:Nat}(hn:n<=1000)(hf:GoodE W (atT e t)):∀(r i m:Nat) (hp:List Evt) (wh:List Int),n<=r+i->r<m->i<n->hp.length=n->wh.length=W->(∀x∈hp,GoodE W x)->
  cS (aY D) N Bp [f0] [e0,e1,e2,e3,e4,R t,e6,e7,e8,e9,e10,e11,e12,e13,e14,e15,.i64 (n:Int),e17,.i64 (W:Int),e19,EP e,e21,e22,e23,e24,e25] m [.i64 (i:Int),sl bO hp,sl I1 wh,.i64 ((2*i+1:Nat):Int)]=f0 [sl bO (d9 (atT e t) r hp wh i).1,sl I1 (d9 (atT e t) r hp wh i).2.1,.i64 ((d9 (atT e t) r hp wh i).2.2:Int)]
 |0,i,m,hp,wh,hi,hm,hiH,hl,hw,hg=>by omega
 |r+1,i,m,hp,wh,hi,hm,hiH,hl,hw,hg=>by
  obtain⟨m,rfl⟩:∃m',m=m'+1:=⟨m-1,by omega⟩;have ih:=λ(k:Nat) (p:Evt) (hk:hp[k]?=some p) (hki:i<k)=>Cf (N:=N) (f0:=f0) (e0:=e0) (e1:=e1) (e2:=e2) (e3:=e3) (e4:=e4) (e6:=e6) (e7:=e7) (e8:=e8) (e9:=e9) (e10:=e10) (e11:=e11) (e12:=e12) (e13:=e13) (e14:=e14) (e15:=e15) (e17:=e17) (e19:=e19) (e21:=e21) (e22:=e22) (e23:=e23) (e24:=e24) (e25:=e25) hn hf r k m (hp.set i p) (wh.set p.hnd.index.toNat (i:Int)) (by omega) (by omega) (by have:=bb hk;omega) (by rw[aH];exact hl) (by rw[aH];exact hw) (λx hx=>by
    rcases b6 hx with h1|h1
    .exact hg x h1
    .rw[h1];exact hg p (ay hk))
  rw[bc];have fin:∀(a b c d:PV) (kk:Nat),kid hp i=kk->kk<n->den (aY D) N HZ [f0,λvs=>cS (aY D) N Bp [f0] [e0,e1,e2,e3,e4,R t,e6,e7,e8,e9,e10,e11,e12,e13,e14,e15,.i64 (n:Int),e17,.i64 (W:Int),e19,EP e,e21,e22,e23,e24,e25] m vs] ([e0,e1,e2,e3,e4,R t,e6,e7,e8,e9,e10,e11,e12,e13,e14,e15,.i64 (n:Int),e17,.i64 (W:Int),e19,EP e,e21,e22,e23,e24,e25]++[.i64 (i:Int),sl bO hp,sl I1 wh,.i64 ((2*i+1:Nat):Int),a,b,c,d,.i64 (kk:Int)])=f0 [sl bO (d9 (atT e t) (r+1) hp wh i).1,sl I1 (d9 (atT e t) (r+1) hp wh i).2.1,.i64 ((d9 (atT e t) (r+1) hp wh i).2.2:Int)]:=λa b c d kk hkk hk=>by
   subst hkk;have ko:=mN hp i;obtain⟨p,hp'⟩:∃p,hp[kid hp i]?=some p:=⟨hp[kid hp i]'(by omega),ah _⟩;obtain⟨p64,prk,jp,pj,pW⟩:=hg p (ay hp');have E:d9 (atT e t) (r+1) hp wh i=if evLess p (atT e t)=true then d9 (atT e t) r (hp.set i p) (wh.set p.hnd.index.toNat (i:Int)) (kid hp i) else(hp,wh,i):=by rw[d9,hp']
   have ih':=ih _ p hp' (by omega);have cm:=phi (tu (x:=p) (y:=atT e t) p64 hf.t64 prk hf.rok);have s1:=lX (l:=hp) (i:=i) (by omega) p;have s3:=dQ (l:=wh) (i:=jp) (by omega) (i:Int);have w1:IntKind.i64.wrap (2*(kid hp i:Int))=((2*kid hp i:Nat):Int):=by rw[bV (by omega) (by omega)];omega
   rw[E];unfold HZ;simp[EV,ixM hk,aJ hp',eU,T6,T5,Nl,cm];by_cases hc:evLess p (atT e t)=true
   .rw[ad hc,ac (by have:=(kL p (atT e t)).2 hc;omega)];simp only[EV,ixM hiH,ax,ly,s1,xE,pj,ixM pW,s3,w1,up1 (show 2*kid hp i<1000000000 by omega)]
    rw[pj,aG] at ih';exact ih'
   .rw[ac hc,ad (by have:=Cy (show evLess p (atT e t)=false by simpa using hc);omega)]
  simp only[bf,aT] at fin;unfold Bp;simp only[EV,aa];by_cases h1:2*i+1<n
  .rw[ad (by omega)];simp only[EV,aa,up1 (show 2*i+1<1000000000 by omega)]
   obtain⟨e',he⟩:∃e,hp[2*i+1]?=some e:=⟨hp[2*i+1]'(by omega),ah _⟩;by_cases h2:2*i+1+1<n
   .rw[ad (by omega)];obtain⟨g,hg'⟩:∃e,hp[2*i+1+1]?=some e:=⟨hp[2*i+1+1]'(by omega),ah _⟩;have a1:=hg e' (ay he);have b1:=hg g (ay hg');have cm:=phi (tu (x:=g) (y:=e') b1.t64 a1.t64 b1.rok a1.rok);have kE:kid hp i=if evLess g e'=true then 2*i+2 else 2*i+1:=by unfold kid;rw[he,show hp[2*i+2]?=some g from hg']
    simp only[EV,up1 (show 2*i+1<1000000000 by omega),ixM h1,ixM h2,aJ he,aJ hg',eU,ax,cm]
    unfold H1;simp only[EV,aa,up1 (show 2*i+1<1000000000 by omega),kL]
    by_cases hc:evLess g e'=true
    .rw[ad hc];rw[ad hc] at kE;exact fin _ _ _ _ (2*i+1+1) kE h2
    .rw[ac hc];rw[ac hc] at kE;exact fin _ _ _ _ (2*i+1) kE h1
   .rw[ac (by omega)];unfold H1;simp only[EV,aq,aw];exact fin _ _ _ _ (2*i+1) (by unfold kid;rw[he,show hp[2*i+2]?=none from aZ (by omega)]) h1
  .rw[ac (by omega)];have:d9 (atT e t) (r+1) hp wh i=(hp,wh,i):=by
    have ko:=mN hp i;rw[d9,aZ (by omega)]
   rw[this]
open Classical in
def ahQ {a:Agenda}(h:dX a){i j:Nat}{u:Int}{e:Evt}(he:a.heap[i]?=some e)(hh:e.hnd=⟨(j:Int),u⟩)(h64:∀e∈a.heap,aX e.time){t:Rt}(hr:rok t=true)(ht:aX t):Ans D 316 [AG a,HD ⟨j,u⟩,R t] [AG (jE a i t),.i64 0]:=by
 have hs:=cZ.1 h.1;have hP:=jW hs h.2.1;have hsm:=vK h;have n2:=hs.n2;have hl:=h.2.1.2.1;have hi:=bb he;obtain⟨j',u',e1,e2,e3,e4⟩:=hP.at_ i e he;rw[hh] at e1;simp only[Hnd.mk.injEq] at e1;have:j'=j:=by omega
 subst this;have hw:=bb e4;have good:∀x∈a.heap,GoodE a.wher.length x:=λx hx'=>by
  obtain⟨k,hk⟩:=aL.1 hx';obtain⟨j,v,g1,_,_,g4⟩:=hP.at_ k x hk;exact⟨h64 x hx',(h.2.2.1 x hx').1,j,by rw[g1],bb g4⟩
 have hf:GoodE a.wher.length (atT e t):=⟨ht,hr,j',by show(e.hnd).index=_;rw[hh],hw⟩
 have m1:=phi (Fe (xD h) h64);rw[au h] at m1;have m2:=phi (c43 ht);rw[hr] at m2;have e0:okE true=0:=rfl;rw[e0] at m1 m2;have mx:RF.ev (.mm true) [.v (.int .i64 0),.v (.int .i64 0)]=some (.i64 0):=rfl;have hls:∀(l:List Int),l.length=a.wher.length->RF.ev .sub [sl I1 l,.v (.int .i64 0),.v (.int .i64 (a.wher.length:Int))]=some (sl I1 l):=λl hl=>by
  have:=bF (f:=I1) (l:=l)
  grind
 obtain⟨hU,wU,iU,hUe⟩:∃hU wU iU,dM (atT e t) (i+1) a.heap a.wher i=(hU,wU,iU):=⟨_,_,_,rfl⟩;obtain⟨hV,wV,iV,hVe⟩:∃hV wV iV,d9 (atT e t) a.heap.length hU wU iU=(hV,wV,iV):=⟨_,_,_,rfl⟩;obtain⟨u1,u2,u3,u4⟩:=xG (f:=atT e t) (i+1) a.heap a.wher i hi;rw[hUe] at u1 u2 u3 u4;simp only at u1 u2 u3 u4;obtain⟨v1,v2,v3⟩:=xH (f:=atT e t) a.heap.length hU wU iU (by omega);rw[hVe] at v1 v2 v3;simp only at v1 v2 v3;have up:=yT (x:=atT e t) (i+1) a.heap a.wher i hi;rw[hUe] at up;simp only at up;have dnn:=yE (x:=atT e t) a.heap.length hU wU iU (by omega);rw[hVe] at dnn;simp only at dnn;have whe:a.wher.set (atT e t).hnd.index.toNat (i:Int)=a.wher:=by
  have:(atT e t).hnd.index.toNat=j':=by show e.hnd.index.toNat=_;rw[hh];rfl
  rw[this];apply cG;intro m;by_cases q:m=j'
  .subst q;rw[be hw,e4]
  .rw[bG (λe=>q e.symm)]
 rw[whe] at up;have hR:jE a i t=⟨a.slots,hV.set iV (atT e t),wV.set j' (iV:Int)⟩:=by
  unfold jE;rw[he];simp only;rw[up];simp only;rw[dnn];have:(atT e t).hnd.index.toNat=j':=by show e.hnd.index.toNat=_;rw[hh];rfl
  rw[this]
 have w1:IntKind.i64.wrap (2*(iU:Int))=((2*iU:Nat):Int):=by rw[bV (by omega) (by omega)];omega
 refine an ⟨1001,?_⟩;unfold abr;simp only[ax,ga,lz,xK,m1,m2,mx,EV,az,aE,aq,aw,phi (Yg h he hh h64),phi (Sa hsm),d7,gt,ai,ixM hi,aJ he,eU];refine(JP (N:=1001) (n:=a.heap.length) (W:=a.wher.length) (by omega) hf (i+1) i 1001 a.heap a.wher (by omega) (by omega) hi rfl rfl good).trans ?_;rw[hUe];unfold P4;simp only[EV,w1,up1 (show 2*iU<1000000000 by omega)]
 refine(Cf (N:=1001) (n:=a.heap.length) (W:=a.wher.length) (by omega) hf a.heap.length iU 1001 hU wU (by omega) (by omega) (by omega) u1 u2 (λx hx=>good x (u4 x hx))).trans ?_;rw[hVe];have s1:=lX (l:=hV) (i:=iV) (by omega) (atT e t);have s4:=dQ (l:=wV) (i:=j') (by omega) (iV:Int);have s5:=bF (f:=bO) (l:=hV.set iV (atT e t));rw[aH,v1,u1] at s5;have pj:e.hnd.index=(j':Int):=by rw[hh]
 unfold P3;simp only[EV,ax,ixM (show iV<a.heap.length by omega),T6,T5,Nl,s1,xE,pj,ixM hw,s4,pAG,s5,hls _ (show(wV.set j' (iV:Int)).length=a.wher.length by rw[aH];omega),rM,hR]
def JQ {N:Nat}{f0 f1:JT}{e0 e1 e2 e3 e4 e5 e6 e7 e8 e9 e10 e11 e12 e13 e14 e16 e18 e19 e20 e21 e22:PV}{n W:Nat}(hn:n<=1000):∀(r i m:Nat) (hp:List Evt) (wh:List Int),i<=r->r<m->i<n->hp.length=n->wh.length=W->(∀x∈hp,GoodE W x)->
  cS (aY D) N ut [f0,f1] [e0,e1,e2,e3,e4,e5,e6,e7,e8,e9,e10,e11,e12,e13,e14,.i64 (n:Int),e16,.i64 (W:Int),e18,e19,e20,e21,e22] m [.i64 (i:Int),sl bO hp,sl I1 wh]=f1 [.i64 ((upS r hp wh i).2.2:Int),sl bO (upS r hp wh i).1,sl I1 (upS r hp wh i).2.1]
 |0,i,m,hp,wh,hi,hm,hiH,hl,hw,hg=>by
  obtain⟨m,rfl⟩:∃m',m=m'+1:=⟨m-1,by omega⟩;have:i=0:=by omega
  subst this;rw[bc];unfold ut upS;simp only[EV,aa];rw[ac (by omega)]
 |r+1,i,m,hp,wh,hi,hm,hiH,hl,hw,hg=>by
  obtain⟨m,rfl⟩:∃m',m=m'+1:=⟨m-1,by omega⟩;obtain⟨e,he⟩:∃e,hp[i]?=some e:=⟨hp[i]'(by omega),ah _⟩;obtain⟨p,hp'⟩:∃p,hp[(i-1)/2]?=some p:=⟨hp[(i-1)/2]'(by omega),ah _⟩;have E:upS (r+1) hp wh i=if 0<i/\ evLess e p=true then upS r (dZ hp i ((i-1)/2) e p) (fF wh i ((i-1)/2) e p) ((i-1)/2) else(hp,wh,i):=by rw[upS,he,hp']
  rw[E,bc];by_cases h0:0<i
  rotate_left
  .rw[ac (λh=>h0 h.1)];unfold ut;simp only[EV,aa];rw[ac (by omega)]
  .obtain⟨p64,prk,jp,pj,pW⟩:=hg p (ay hp');obtain⟨e64,erk,je,ej,eW⟩:=hg e (ay he);have ih:=JQ (N:=N) (f0:=f0) (f1:=f1) (e0:=e0) (e1:=e1) (e2:=e2) (e3:=e3) (e4:=e4) (e5:=e5) (e6:=e6) (e7:=e7) (e8:=e8) (e9:=e9) (e10:=e10) (e11:=e11) (e12:=e12) (e13:=e13) (e14:=e14) (e16:=e16) (e18:=e18) (e19:=e19) (e20:=e20) (e21:=e21) (e22:=e22) (n:=n) (W:=W) hn r ((i-1)/2) m (dZ hp i ((i-1)/2) e p) (fF wh i ((i-1)/2) e p) (by omega) (by omega) (by omega) (by rw[pu];exact hl) (by rw[pw];exact hw) (vP he hp' hg);have cm:=phi (xn (x:=e) (y:=p) e64 p64);have q2:=tC h0 (by omega);have s1:=lX (l:=hp) (i:=i) (by omega) p;have s2:RF.ev (.set 0) [sl bO (hp.set i p),.v (.int .i64 (((i-1)/2:Nat):Int)),EP e]=some (sl bO (dZ hp i ((i-1)/2) e p)):=lX (l:=hp.set i p) (i:=(i-1)/2) (by rw[aH];omega) e;have a1:(dZ hp i ((i-1)/2) e p)[i]?=some p:=by rw[swp_get he hp',ac (by omega),ad rfl]
   have a2:(dZ hp i ((i-1)/2) e p)[(i-1)/2]?=some e:=by rw[swp_get he hp',ad rfl]
   have s3:=dQ (l:=wh) (i:=jp) (by omega) (i:Int);have s4:=dQ (l:=wh.set jp (i:Int)) (i:=je) (by rw[aH];omega) (((i-1)/2:Nat):Int);have eW':fF wh i ((i-1)/2) e p=(wh.set jp (i:Int)).set je (((i-1)/2:Nat):Int):=by unfold fF;rw[pj,ej];rfl
   generalize hkk:ut=kk at ih;subst hkk;unfold ut;simp[EV];rw[ad (by omega)];simp only[EV,fN,q2,ixM hiH,ixM (show(i-1)/2<n by omega),aJ hp',aJ he,eU,ax,cm]
   by_cases hc:evLess e p=true
   .rw[ad hc,ad ⟨h0,hc⟩];simp only[EV,fN,q2,ixM hiH,ixM (show(i-1)/2<n by omega),aJ hp',aJ he,eU,ax,ly,s1,s2,aJ a1,aJ a2,vw,pj,ej,ixM pW,ixM eW,s3,s4]
    rw[eW'] at ih|-;exact ih
   .rw[ac hc,ac (λq=>hc q.2)]
def Cg {N:Nat}{f0:JT}{e0 e1 e2 e3 e4 e5 e6 e7 e8 e9 e10 e11 e12 e13 e14 e16 e18 e19 e20 e21 e22 e23 e24 e25:PV}{n W:Nat}(hn:n<=1000):∀(r i m:Nat) (hp:List Evt) (wh:List Int),n<=r+i->r<m->i<n->hp.length=n->wh.length=W->(∀x∈hp,GoodE W x)->
  cS (aY D) N Bv [f0] [e0,e1,e2,e3,e4,e5,e6,e7,e8,e9,e10,e11,e12,e13,e14,.i64 (n:Int),e16,.i64 (W:Int),e18,e19,e20,e21,e22,e23,e24,e25] m [.i64 (i:Int),sl bO hp,sl I1 wh]=f0 [sl bO (dr r hp wh i).1,sl I1 (dr r hp wh i).2]
 |0,i,m,hp,wh,hi,hm,hiH,hl,hw,hg=>by omega
 |r+1,i,m,hp,wh,hi,hm,hiH,hl,hw,hg=>by
  obtain⟨m,rfl⟩:∃m',m=m'+1:=⟨m-1,by omega⟩;obtain⟨e,he⟩:∃e,hp[i]?=some e:=⟨hp[i]'(by omega),ah _⟩;obtain⟨e64,erk,je,ej,eW⟩:=hg e (ay he);have ih:=λ(k:Nat) (p:Evt) (hk:hp[k]?=some p) (hki:i<k)=>Cg (N:=N) (f0:=f0) (e0:=e0) (e1:=e1) (e2:=e2) (e3:=e3) (e4:=e4) (e5:=e5) (e6:=e6) (e7:=e7) (e8:=e8) (e9:=e9) (e10:=e10) (e11:=e11) (e12:=e12) (e13:=e13) (e14:=e14) (e16:=e16) (e18:=e18) (e19:=e19) (e20:=e20) (e21:=e21) (e22:=e22) (e23:=e23) (e24:=e24) (e25:=e25) (n:=n) (W:=W) hn r k m (dZ hp i k e p) (fF wh i k e p) (by omega) (by omega) (by have:=bb hk;omega) (by rw[pu];exact hl) (by rw[pw];exact hw) (vP he hk hg);have ko:=mN hp i;rw[bc];have fin:∀(a b c d d' d'':PV) (kk:Nat),kid hp i=kk->kk<n->den (aY D) N Iq [f0,λvs=>cS (aY D) N Bv [f0] [e0,e1,e2,e3,e4,e5,e6,e7,e8,e9,e10,e11,e12,e13,e14,.i64 (n:Int),e16,.i64 (W:Int),e18,e19,e20,e21,e22,e23,e24,e25] m vs] ([e0,e1,e2,e3,e4,e5,e6,e7,e8,e9,e10,e11,e12,e13,e14,.i64 (n:Int),e16,.i64 (W:Int),e18,e19,e20,e21,e22,e23,e24,e25]++[.i64 (i:Int),sl bO hp,sl I1 wh,a,b,c,d,d',d'',.i64 (kk:Int)])=f0 [sl bO (dr (r+1) hp wh i).1,sl I1 (dr (r+1) hp wh i).2]:=λa b c d d' d'' kk hkk hk=>by
   subst hkk;obtain⟨p,hp'⟩:∃p,hp[kid hp i]?=some p:=⟨hp[kid hp i]'(by omega),ah _⟩;obtain⟨p64,prk,jp,pj,pW⟩:=hg p (ay hp');have E:dr (r+1) hp wh i=if evLess p e=true then dr r (dZ hp i (kid hp i) e p) (fF wh i (kid hp i) e p) (kid hp i) else(hp,wh):=by rw[dr,he,hp']
   have ih':=ih _ p hp' (by omega);have cm:=phi (xn (x:=p) (y:=e) p64 e64);have s1:=lX (l:=hp) (i:=i) (by omega) p;have s2:RF.ev (.set 0) [sl bO (hp.set i p),.v (.int .i64 (kid hp i:Int)),EP e]=some (sl bO (dZ hp i (kid hp i) e p)):=lX (l:=hp.set i p) (i:=kid hp i) (by rw[aH];omega) e;have a1:(dZ hp i (kid hp i) e p)[i]?=some p:=by rw[swp_get he hp',ac (by omega),ad rfl]
   have a2:(dZ hp i (kid hp i) e p)[kid hp i]?=some e:=by rw[swp_get he hp',ad rfl]
   have s3:=dQ (l:=wh) (i:=jp) (by omega) (i:Int);have s4:=dQ (l:=wh.set jp (i:Int)) (i:=je) (by rw[aH];omega) (kid hp i:Int);have eW':fF wh i (kid hp i) e p=(wh.set jp (i:Int)).set je (kid hp i:Int):=by unfold fF;rw[pj,ej];rfl
   rw[E];unfold Iq;simp[EV,ixM hk,ixM hiH,aJ hp',aJ he,eU,cm];by_cases hc:evLess p e=true
   .rw[ad hc];simp only[hc,aE,aq,aw,EV,ixM hk,ixM hiH,aJ hp',aJ he,eU,ax,ly,s1,s2,aJ a1,aJ a2,vw,pj,ej,ixM pW,ixM eW,s3,s4];rw[eW'] at ih'|-;exact ih'
   .rw[ac hc];have hc:evLess p e=false:=by simpa using hc
    simp only[hc,bI,aA,EV]
  simp only[bf,aT] at fin;have w1:IntKind.i64.wrap (2*(i:Int))=((2*i:Nat):Int):=by rw[bV (by omega) (by omega)];omega
  unfold Bv;simp only[EV,aa,w1,up1 (show 2*i<1000000000 by omega),up1 (show 2*i+1<1000000000 by omega),bk]
  by_cases h1:2*i+1<n
  .rw[ac (by omega)];obtain⟨p,hp'⟩:∃e,hp[2*i+1]?=some e:=⟨hp[2*i+1]'(by omega),ah _⟩;by_cases h2:2*i+1+1<n
   .rw[ad (by omega)];obtain⟨g,hg'⟩:∃e,hp[2*i+1+1]?=some e:=⟨hp[2*i+1+1]'(by omega),ah _⟩;have p1:=hg p (ay hp');have b1:=hg g (ay hg');have cm:=phi (xn (x:=g) (y:=p) b1.t64 p1.t64);have kE:kid hp i=if evLess g p=true then 2*i+2 else 2*i+1:=by unfold kid;rw[hp',show hp[2*i+2]?=some g from hg']
    simp only[EV,up1 (show 2*i+1<1000000000 by omega),ixM h1,ixM h2,aJ hp',aJ hg',eU,ax,cm]
    unfold Ir;simp only[EV,aa,up1 (show 2*i+1<1000000000 by omega)]
    by_cases hc:evLess g p=true
    .rw[ad hc];rw[ad hc] at kE;exact fin _ _ _ _ _ _ (2*i+1+1) kE h2
    .rw[ac hc];rw[ac hc] at kE;exact fin _ _ _ _ _ _ (2*i+1) kE h1
   .rw[ac (by omega)];unfold Ir;simp only[EV,aq,aw];exact fin _ _ _ _ _ _ (2*i+1) (by unfold kid;rw[hp',show hp[2*i+2]?=none from aZ (by omega)]) h1
  .rw[ad (by omega)];have:dr (r+1) hp wh i=(hp,wh):=by rw[dr,he,aZ (by omega)]
   rw[this]
def setT {l:List Evt}{i:Nat}{e:Evt}(h:l[i]?=some e)(t:Rt):RF.ev (.set 0) [sl bO l,.v (.int .i64 (i:Int)),R t]=some (sl bO (l.set i (atT e t))):=by
 have hs:lE (bO e) 0 [.i64 t.num,.i64 t.den]=bO (atT e t):=rfl;rw[qY,ad (by omega),aG,aW,h];simp[show(R t).cells=[.i64 t.num,.i64 t.den] from rfl,show(bO e).length=5 from rfl]
 simp_all
def qo (s:Slots)(hp:List Evt)(wh:List Int):RF.ev .agg [sl I1 s.uses,sl B1 s.used,sl I1 s.free,sl bO hp,sl I1 wh]=some (AG ⟨s,hp,wh⟩):=rfl
open Classical in
def ahR {a:Agenda}(h:dX a){i j:Nat}{u:Int}{e:Evt}(he:a.heap[i]?=some e)(hh:e.hnd=⟨(j:Int),u⟩)(h64:∀e∈a.heap,aX e.time){t:Rt}(hr:rok t=true)(ht:aX t):Ans D 372 [AG a,HD ⟨j,u⟩,R t] [AG (jE a i t)]:=by
 have hs:=cZ.1 h.1;have hP:=jW hs h.2.1;have hsm:=vK h;have n2:=hs.n2;have hl:=h.2.1.2.1;have hi:=bb he;obtain⟨j',u',e1,e2,e3,e4⟩:=hP.at_ i e he;rw[hh] at e1;simp only[Hnd.mk.injEq] at e1;have:j'=j:=by omega
 subst this;have hw:=bb e4;have good:∀x∈a.heap,GoodE a.wher.length x:=λx hx'=>by
  obtain⟨k,hk⟩:=aL.1 hx';obtain⟨j,v,g1,_,_,g4⟩:=hP.at_ k x hk;exact⟨h64 x hx',(h.2.2.1 x hx').1,j,by rw[g1],bb g4⟩
 have hf:GoodE a.wher.length (atT e t):=⟨ht,hr,j',by show(e.hnd).index=_;rw[hh],hw⟩
 have goods:∀x∈a.heap.set i (atT e t),GoodE a.wher.length x:=λx hx=>by
  grind
 have hls:∀(l:List Int),l.length=a.wher.length->RF.ev .sub [sl I1 l,.v (.int .i64 0),.v (.int .i64 (a.wher.length:Int))]=some (sl I1 l):=λl hl=>by
  have:=bF (f:=I1) (l:=l)
  grind
 have t1:=bF (f:=I1) (l:=a.slots.uses);have t2:=bF (f:=B1) (l:=a.slots.used);have t3:=bF (f:=I1) (l:=a.slots.free);obtain⟨u1,u2,u3,u4⟩:=Ae (i+1) (a.heap.set i (atT e t)) a.wher i (by rw[aH];exact hi);obtain⟨hU,wU,iU,hUe⟩:∃hU wU iU,upS (i+1) (a.heap.set i (atT e t)) a.wher i=(hU,wU,iU):=⟨_,_,_,rfl⟩;rw[hUe] at u1 u2 u3 u4;simp only[aH] at u1 u2 u3 u4;obtain⟨hV,wV,hVe⟩:∃hV wV,dr a.heap.length hU wU iU=(hV,wV):=⟨_,_,rfl⟩;obtain⟨v1,v2⟩:=xJ a.heap.length hU wU iU;rw[hVe] at v1 v2;simp only at v1 v2;have hR:jE a i t=⟨a.slots,hV,wV⟩:=by
  unfold jE;rw[he];simp only;rw[hUe];simp only;rw[hVe]
 have s5:=bF (f:=bO) (l:=hV);rw[v1,u1] at s5;refine an ⟨1001,?_⟩;unfold ab5;simp only[ax,ga,lz,xK,phi (LM hsm),cAG0,cAG1,cAG2,d7,gt,m9,EV,ai,ixM hw,aJ e4,bZ,ixM hi,setT he];refine l7 ?_ ?_
 all_goals
  simp only[EV];refine(JQ (N:=1001) (n:=a.heap.length) (W:=a.wher.length) (by omega) (i+1) i 1001 (a.heap.set i (atT e t)) a.wher (by omega) (by omega) hi aH rfl goods).trans ?_;rw[hUe]
  first|unfold Qv|unfold Ky
  simp only[EV];refine(Cg (N:=1001) (n:=a.heap.length) (W:=a.wher.length) (by omega) a.heap.length iU 1001 hU wU (by omega) (by omega) (by omega) u1 u2 (λx hx=>goods x (u4 x hx))).trans ?_;rw[hVe];unfold Qu;simp only[EV,ax,t1,t2,t3,s5,hls _ (v2.trans u2),qo,hR]
section
variable {Φ:PhT}{N:Nat}{b:K}{J:List JT}{e:List PV}{α β:Type}{l:List α}
def D9 {g:β->α->Option β}{I:Nat->β->Prop}{S:β->Nat->List PV}{fin:β->Option (List PV)}{r:Option (List PV)}{x:β}(h0:I 0 x)(hi:∀i a acc acc',l[i]?=some a->I i acc->g acc a=some acc'->I (i+1) acc')(hs:∀i a acc self,l[i]?=some a->I i acc->den Φ N b (J++[self]) (e++S acc i)=match g acc a with|some acc'=>self (S acc' (i+1))|none=>r)
  (hf:∀acc self,I l.length acc->den Φ N b (J++[self]) (e++S acc l.length)=fin acc) {m:Nat} (hm:l.length<m):cS Φ N b J e m (S x 0)=match foldO g x l with|some acc=>fin acc|none=>r:=by
 have:∀(n i m:Nat) acc,i+n=l.length->n<m->I i acc->cS Φ N b J e m (S acc i)=match foldO g acc (l.drop i) with|some acc=>fin acc|none=>r:=by
  intro n;induction n with
  |zero=>
   intro i m acc h hm hI;obtain⟨m,rfl⟩:∃m',m=m'+1:=⟨m-1,by omega⟩;have:i=l.length:=by omega
   subst this;rw[bc,List.drop_length];exact hf _ _ hI
  |succ n ih=>
   intro i m acc h hm hI;obtain⟨m,rfl⟩:∃m',m=m'+1:=⟨m-1,by omega⟩;obtain⟨a,ha⟩:∃a,l[i]?=some a:=⟨l[i]'(by omega),ah _⟩;rw[bc,hs i a acc _ ha hI,uT ha,foldO]
   grind
 grind
end
def ahS {a:Agenda}(h:dX a)(ho:gc a.slots=true){t:Rt}{n:Int}(hx:rok t=true/\ 0<=n/\ n<=1000000)(hn:n∉a.heap.map (·.number))(ht:aX t)(h64:∀e∈a.heap,aX e.time):Ans D 317 [AG a,R t,.i64 n] [AG (wL a t n),HD (wM a n).hnd,.i64 0]:=by
 obtain⟨o1,o2,o3⟩:=Do h ho;exact Yb h o1 o2 o3 hx hn ht h64
def ahT {a:Agenda}(h:dX a)(ho:gc a.slots=true){t:Rt}{n:Int}(hx:rok t=true/\ 0<=n/\ n<=1000000)(hn:n∉a.heap.map (·.number))(ht:aX t)(h64:∀e∈a.heap,aX e.time):Ans D 374 [AG a,R t,.i64 n] [AG (wL a t n),HD (wM a n).hnd]:=by
 obtain⟨o1,o2,o3⟩:=Do h ho;exact X9 h o1 o2 o3 hx hn ht h64
def pH0:RF.ev (.part 0 2) [H0]=some H0:=rfl
def adm (n:Int):RF.ev .agg [.i64 n,H0]=some (DP ⟨n,⟨0,0⟩⟩):=rfl
def ahU:RF.ev (.cell 0) [AGz]=some (.sl []):=rfl
def ahV:RF.ev (.cell 1) [AGz]=some (.sl []):=rfl
def ahW:RF.ev (.cell 2) [AGz]=some (.sl []):=rfl
def ahX:RF.ev (.cell 3) [AGz]=some (.sl []):=rfl
def ahY:RF.ev (.cell 4) [AGz]=some (.sl []):=rfl
def Nn:(!decide ((18:Int)=0))=true:=rfl
def lP (c:Clock)(g:List Pt):List PV:=match tJ c g with
 |some d=>[CL d,.i64 0]
 |none=>[CLz,.i64 18]
def K4 {c:Clock}{g:List Pt}{k:Nat}{s:Agenda×List Due}(h:bx c)(I:AInv c g k s):s.2.length<=200:=by
 have h1:=JH I.due;have h3:=h.2.2.1.1
 grind
open Classical in
def adn {c:Clock}{g:List Pt}(h:bx c)(hn:aX c.now)(hg:okF g)(hk:∀x∈c.certs.list,cT g x=true):den (aY D) 1001 SG [] [CL c,F g]=some (lP c g):=by
 have hcs:=kX h;have hs:=yW h;have h64:=hg.1;have hl:=h.2.2.1.1;have m1:=phi (yP (yG h hn) (qQ h));rw[au h,show okE true=0 from rfl] at m1
 have m2:=phi (vr g);rw[eu.2 hg] at m2;unfold SG;simp only[ax,db,aO,m1,m2,EV,az,aE,aq,aw,fu,ai];refine(cw (m:=1001) (l:=c.certs.list) (p:=λ_=>true) (st:=λi=>[.i64 (i:Int)]) (r:=none) (fin:=some (lP c g)) (λi x self hx _=>?_) (λ_ self=>?_) (by omega)).trans (ad (by simp))
 .have hkx:=hk x (ay hx);unfold cT at hkx;rw[aM] at hkx;have p1:=pq hg hkx.1;have p2:=pq hg hkx.2;unfold G7;simp only[ax,fu,aS hx (fi _),aJ hx,iS,rG,rH,phi (zT hg _),Fz,EV,ai,aa,bi (aN hx),aj p1,aj p2,aq,aw,aA,up1 (show i<1000000000 by have:=aN hx;omega)]
 .unfold G7;simp only[EV,aa,bK];unfold Pp;simp only[ax,phi (Fv hcs),db,cU,b8,phi (d67 (l:=g) (by omega)),fu,mq,mu,mw,jB,jU,EV,ai];refine(D9 (m:=1001) (l:=c.certs.list) (g:=altS c g) (I:=AInv c g) (S:=λs k=>[sl I1 s.1.slots.uses,sl B1 s.1.slots.used,sl I1 s.1.slots.free,sl bO s.1.heap,sl I1 s.1.wher,sl cE s.2,.i64 (s.2.length:Int),.i64 (k:Int)]) (x:=(c.agenda,[])) (r:=some [CLz,.i64 18]) (fin:=λs=>some [CL ⟨c.now,g,c.certs,s.1,s.2⟩,.i64 0]) (yI g h hn) (λi a acc acc' ha hI hs=>AA h hn hg hk hI ha hs) (λi x s self hx hI=>?_) (λs self hI=>?_) (by omega)).trans ?_
  .obtain⟨cok,n0,n1⟩:=JM h hx;have hkx:=hk x (ay hx);unfold cT at hkx;rw[aM] at hkx;have m3:=phi (Lv (x:=x.cert) hg hn);rw[ad (Cz hg h.1 cok hkx.1 hkx.2)] at m3;have m3:aY D 246 [F g,CP x.cert,R c.now]=some [R (failG c g x.cert).1,.bool (failG c g x.cert).2,.i64 0]:=m3;have fo:=Az h hn hg hk hx;have inew:=Dq h hI hx;have sl2:=K4 h hI;have app:∀d:Due,RF.ev (.app 24 3) [sl cE s.2,.v (.int .i64 (s.2.length:Int)),sl cE [d]]=some (sl cE (s.2++[d])):=λd=>fh (f:=cE) (l:=s.2) (k:=[d]) (bytes:=24) (z:=3) (by simp;omega) iT;have E:altS c g s x=match(failG c g x.cert).2,l8 c x.number with
    |true,some d=>some (jE s.1 (plA s.1 d.hnd.index) (failG c g x.cert).1,s.2++[d])
    |true,none=>if gc s.1.slots=true then some (wL s.1 (failG c g x.cert).1 x.number,s.2++[wM s.1 x.number]) else none
    |false,some d=>some (kx s.1 (plA s.1 d.hnd.index) d.hnd.index.toNat,s.2)
    |false,none=>some s:=rfl
   rw[E];generalize failG c g x.cert=fg at m3 fo;obtain⟨ft,fb⟩:=fg;unfold G6;simp only[bf,aT,EV,aa,bi (aN hx),ax,fu,aS hx (fi _),aJ hx,iS,pHP,fq,m3,xK,cU,ii,ai];cases hd:l8 c x.number with
   |some d=>
    obtain⟨dm,dn⟩:=oU.1 d hd;obtain⟨k,hk'⟩:=aL.1 dm;have cP:=Yj hs hcs.due hk';rw[dn] at cP;obtain⟨i',j,u,e,e1,e2,e3,e4,e5⟩:=Ce hI hx hd;have ej:d.hnd.index.toNat=j:=by rw[e4];simp
    have cP:=phi cP;cases fb with
    |true=>
     obtain⟨f1,f2⟩:=fo rfl;have m4:=phi (ahQ hI.ok e2 e3 hI.e64 f1 f2);rw[<-e4,<-e1] at m4;have m4:aY D 316 [AG ⟨s.1.slots,s.1.heap,s.1.wher⟩,HD d.hnd,R ft]=some [AG (jE s.1 (plA s.1 d.hnd.index) ft),.i64 0]:=m4;simp only[cP,EV,aA];unfold xP;simp only[EV,aA,ax,cU,aS hk' (iT d),aJ hk',sL,qo,m4,ga,Fa,z8,vM,app,ai,cAG0,cAG1,cAG2,d7,gt];unfold uh;simp only[EV,az,aE,aq,aw,up1 (show i<1000000000 by have:=aN hx;omega)]
    |false=>
     have m4:=phi (Yh hI.ok e2 e3 hI.e64);rw[<-e4,<-ej,<-e1] at m4;have m4:aY D 297 [AG ⟨s.1.slots,s.1.heap,s.1.wher⟩,HD d.hnd]=some [AG (kx s.1 (plA s.1 d.hnd.index) d.hnd.index.toNat),EP e,.i64 0]:=m4;simp only[cP,EV,aq,aw];unfold xP;simp only[EV,aq,aw,aA,ax,cU,aS hk' (iT d),aJ hk',sL,qo,m4,ga,ai,cAG0,cAG1,cAG2,d7,gt];unfold G5;simp only[EV];unfold xO;simp only[EV];unfold uh;simp only[EV,az,aE,aq,aw,up1 (show i<1000000000 by have:=aN hx;omega)]
   |none=>
    obtain⟨P,cP⟩:=UB hs hcs.due (oU.2 hd);have cP:=phi cP;cases fb with
    |true=>
     obtain⟨f1,f2⟩:=fo rfl;simp only[cP,EV,aA];unfold xP;simp only[EV,aq,aw,aA];by_cases ho:gc s.1.slots=true
     .have m4:=phi (ahS hI.ok ho ⟨f1,n0,n1⟩ (inew hd) f2 hI.e64);have m4:aY D 317 [AG ⟨s.1.slots,s.1.heap,s.1.wher⟩,R ft,.i64 x.number]=some [AG (wL s.1 ft x.number),HD (wM s.1 x.number).hnd,.i64 0]:=m4;rw[ad ho];simp only[qo,ii,m4,EV,ax,ga,lz,pHD,Em,z8,vM,app,ai,cAG0,cAG1,cAG2,d7,gt];unfold xO;simp only[EV];unfold uh;simp only[EV,az,aE,aq,aw,up1 (show i<1000000000 by have:=aN hx;omega)]
      rfl
     .have m4:=phi (UH hI.ok (by simpa using ho) ⟨f1,n0,n1⟩ (inew hd) f2 hI.e64)
      have m4:aY D 317 [AG ⟨s.1.slots,s.1.heap,s.1.wher⟩,R ft,.i64 x.number]=some [AGz,H0,.i64 18]:=m4;rw[ac ho];simp only[qo,ii,m4,EV,ax,UG,Sl,pH0,adm,z8,vM,app,ai,ahU,ahV,ahW,ahX,ahY];unfold xO;simp only[EV];unfold uh;simp only[EV,Nn,aA,mK]
    |false=>
     simp only[cP,EV,aq,aw];unfold xP;simp only[EV,aq,aw];unfold G5;simp only[EV,aq,aw];unfold xO;simp only[EV,aq,aw];unfold uh;simp only[EV,az,aE,aq,aw,up1 (show i<1000000000 by have:=aN hx;omega)]
  .have s0:=bF (f:=row) (l:=g);unfold G6;simp only[EV,aa,bK];unfold Po;simp only[EV,ax,fq,mh,s0,yX];rfl
  .unfold lP tJ;cases foldO (altS c g) (c.agenda,[]) c.certs.list with
   |none=>rfl
   |some s=>rfl
def ahZ {c:Clock}{g:List Pt}(h:bx c)(hn:aX c.now)(hg:okF g)(hk:∀x∈c.certs.list,cT g x=true):Ans D 235 [CL c,F g] (lP c g):=by
 have key:=adn h hn hg hk;unfold lP at key|-;cases hr:tJ c g with
 |none=>rw[hr] at key;exact an ⟨1001,key⟩
 |some d=>rw[hr] at key;exact an ⟨1001,key⟩
open Classical in
def ado {c:Clock}{g:List Pt}(h:bx c)(hn:aX c.now)(hg:okF g)(hk:∀x∈c.certs.list,cT g x=true):den (aY D) 1001 SK [] [CL c,F g]=some (lP c g):=by
 have hcs:=kX h;have hs:=yW h;have h64:=hg.1;have hl:=h.2.2.1.1;have gp:∀k:Nat,decide ((k:Int)>=0)=true:=λk=>au (by omega);have gn:decide ((-1:Int)>=0)=false:=rfl;unfold SK;simp only[ax,db,aO,phi (tz hcs),phi (R8 (l:=g) (by omega)),b8,EV,cU,mq,mu,mw,jB,jU,ai];refine(D9 (m:=1001) (l:=c.certs.list) (g:=altS c g) (I:=AInv c g) (S:=λs k=>[sl I1 s.1.slots.uses,sl B1 s.1.slots.used,sl I1 s.1.slots.free,sl bO s.1.heap,sl I1 s.1.wher,sl cE s.2,.i64 (s.2.length:Int),.i64 (k:Int)]) (x:=(c.agenda,[])) (r:=some [CLz,.i64 18]) (fin:=λs=>some [CL ⟨c.now,g,c.certs,s.1,s.2⟩,.i64 0]) (yI g h hn) (λi a acc acc' ha hI hs=>AA h hn hg hk hI ha hs) (λi x s self hx hI=>?_) (λs self hI=>?_) (by omega)).trans ?_
 .obtain⟨cok,n0,n1⟩:=JM h hx;have hkx:=hk x (ay hx);unfold cT at hkx;rw[aM] at hkx;have m3:=phi (Lu (x:=x.cert) hg hn hkx.1 hkx.2);have m3:aY D 261 [F g,CP x.cert,R c.now]=some [R (failG c g x.cert).1,.bool (failG c g x.cert).2]:=m3;have fo:=Az h hn hg hk hx;have inew:=Dq h hI hx;have sl2:=K4 h hI;have hop:=phi (Sb (cZ.1 hI.ok.1));have app:∀d:Due,RF.ev (.app 24 3) [sl cE s.2,.v (.int .i64 (s.2.length:Int)),sl cE [d]]=some (sl cE (s.2++[d])):=λd=>fh (f:=cE) (l:=s.2) (k:=[d]) (bytes:=24) (z:=3) (by simp;omega) iT;have E:altS c g s x=match(failG c g x.cert).2,l8 c x.number with
   |true,some d=>some (jE s.1 (plA s.1 d.hnd.index) (failG c g x.cert).1,s.2++[d])
   |true,none=>if gc s.1.slots=true then some (wL s.1 (failG c g x.cert).1 x.number,s.2++[wM s.1 x.number]) else none
   |false,some d=>some (kx s.1 (plA s.1 d.hnd.index) d.hnd.index.toNat,s.2)
   |false,none=>some s:=rfl
  rw[E];generalize failG c g x.cert=fg at m3 fo;obtain⟨ft,fb⟩:=fg;have up:=up1 (show i<1000000000 by have:=aN hx;omega)
  unfold HX;simp only[bf,aT,EV,aa,bi (aN hx),ax,fu,aS hx (fi _),aJ hx,iS,pHP,fq,m3,xK,ii,ai];cases hd:l8 c x.number with
  |some d=>
   obtain⟨dm,dn⟩:=oU.1 d hd;obtain⟨k,hk'⟩:=aL.1 dm;have cP:=Ym hs hcs.due hk';rw[dn] at cP;obtain⟨i',j,u,e,e1,e2,e3,e4,e5⟩:=Ce hI hx hd;have ej:d.hnd.index.toNat=j:=by rw[e4];simp
   have cP:=phi cP;cases fb with
   |true=>
    obtain⟨f1,f2⟩:=fo rfl;have m4:=phi (ahR hI.ok e2 e3 hI.e64 f1 f2);rw[<-e4,<-e1] at m4;have m4:aY D 372 [AG ⟨s.1.slots,s.1.heap,s.1.wher⟩,HD d.hnd,R ft]=some [AG (jE s.1 (plA s.1 d.hnd.index) ft)]:=m4;simp only[cP,EV,ax,pHP,fq,m3,xK,aA,gp];unfold xV;simp only[EV,aA,ax,cU,aS hk' (iT d),aJ hk',sL,qo,m4,ga,Fa,z8,vM,app,ai,cAG0,cAG1,cAG2,d7,gt];unfold xU;simp only[EV,aE,aq,aw];unfold xT;simp only[EV,aq,aw];unfold xS;simp only[EV,aE,aq,aw,aA,gp,ax,ii,rG,rH,cR0,cR1];unfold xR;simp only[EV,up]
   |false=>
    have m4:=phi (Yn hI.ok e2 e3 hI.e64);rw[<-e4,<-ej,<-e1] at m4;have m4:aY D 371 [AG ⟨s.1.slots,s.1.heap,s.1.wher⟩,HD d.hnd]=some [AG (kx s.1 (plA s.1 d.hnd.index) d.hnd.index.toNat)]:=m4;simp only[cP,EV,ax,pHP,fq,m3,xK,aq,aw];unfold xV;simp only[EV,aq,aw];unfold xU;simp only[EV,bI,gp,aA];unfold xT;simp only[EV,aA,ax,cU,aS hk' (iT d),aJ hk',sL,qo,m4,ga,ai,cAG0,cAG1,cAG2,d7,gt];unfold xS;simp only[EV,bI,aA,ax,ii,rG,rH,cR0,cR1];unfold xR;simp only[EV,up]
  |none=>
   have cP:=phi (UC (c:=c) hcs.due (oU.2 hd));cases fb with
   |true=>
    obtain⟨f1,f2⟩:=fo rfl;simp only[cP,EV,ax,pHP,fq,m3,xK,aA,gn];unfold xV;simp only[EV,aq,aw];unfold xU;simp only[EV,aE,aq,aw];unfold xT;simp only[EV,aq,aw];unfold xS;by_cases ho:gc s.1.slots=true
    .have m4:=phi (ahT hI.ok ho ⟨f1,n0,n1⟩ (inew hd) f2 hI.e64);have m4:aY D 374 [AG ⟨s.1.slots,s.1.heap,s.1.wher⟩,R ft,.i64 x.number]=some [AG (wL s.1 ft x.number),HD (wM s.1 x.number).hnd]:=m4;rw[ad ho];rw[ho] at hop;simp only[EV,aE,aq,aw,gn,ax,yR,hop,qo,ii,rG,rH,cR0,cR1,m4,ga,lz,pHD,Em,z8,vM,app,ai,cAG0,cAG1,cAG2,d7,gt];unfold xR;simp only[EV,up];rfl
    .rw[ac ho];have ho':gc s.1.slots=false:=by simpa using ho
     rw[ho'] at hop;simp only[EV,aE,bI,aq,aw,aA,gn,ax,yR,hop,mK]
   |false=>
    simp only[cP,EV,ax,pHP,fq,m3,xK,aq,aw];unfold xV;simp only[EV,aq,aw];unfold xU;simp only[EV,bI,gn,aA];unfold xT;simp only[EV,aq,aw];unfold xS;simp only[EV,bI,aA,ax,ii,rG,rH,cR0,cR1];unfold xR;simp only[EV,up]
 .have s0:=bF (f:=row) (l:=g);unfold HX;simp only[EV,ax,fu,ai,aa,bK];unfold P1;simp only[EV,ax,oc,od,rK,fu,s0,yX];rfl
 .unfold lP tJ;cases foldO (altS c g) (c.agenda,[]) c.certs.list with
  |none=>rfl
  |some s=>rfl
def ah0 {c:Clock}{g:List Pt}(h:bx c)(hn:aX c.now)(hg:okF g)(hk:∀x∈c.certs.list,cT g x=true):Ans D 310 [CL c,F g] (lP c g):=by
 have key:=ado h hn hg hk;unfold lP at key|-;cases hr:tJ c g with
 |none=>rw[hr] at key;exact an ⟨1001,key⟩
 |some d=>rw[hr] at key;exact an ⟨1001,key⟩
def uU (c:Clock)(g:List Pt):Option Clock:=if c.pts=g then some c else tJ c g
def renewG (g:List Pt)(es:List Crt)(c:Clock):Option Clock:=match uU (dropL es c.certs.list c) g with
 |some d=>addL es d
 |none=>none
def eC (g:List Pt)(es:List Crt)(c:Clock):List PV:=match renewG g es c with
 |some d=>[CL d,.i64 0]
 |none=>[CLz,.i64 18]
def Dr {c:Clock}{g:List Pt}{es:List Crt}(h:bx c)(hE:EdgF g es):∀x∈(dropL es c.certs.list c).certs.list,cT g x=true:=by
 intro x hx;rw[(gM es c.certs.list c h).2.2] at hx;obtain⟨h1,h2⟩:=bE.1 hx;have:=aV.1 h2 x h1;simp[cY] at this;unfold cT;rw[hE.low _ this,hE.high _ this];rfl
def Rq {c d:Clock}{g:List Pt}(h:bx c)(hn:aX c.now)(hg:okF g)(hk:∀x∈c.certs.list,cT g x=true)(e:uU c g=some d):bx d/\ d.now=c.now/\ d.pts=g/\ d.certs=c.certs:=by
 unfold uU at e;split at e
 .grind
 .exact JO h hn hg hk e
def tg {c d:Clock}{g:List Pt}{es:List Crt}(hg:okF g)(hE:EdgF g es)(h:bx c)(hn:aX c.now)(e:renewG g es c=some d):bx d/\ d.now=c.now/\ d.pts=g:=by
 obtain⟨q1,_,_⟩:=gM es c.certs.list c h;have hk:=Dr h hE;have n1:=qg (es:=es) h hn c.certs.list;have nw:=q1.now;unfold renewG at e;cases hf:uU (dropL es c.certs.list c) g with
 |none=>rw[hf] at e;cases e
 |some b=>
  rw[hf] at e;obtain⟨a1,a2,a3,_⟩:=Rq q1.ok n1 hg hk hf;have:=Dl (l:=g) hE a1 (by rw[a2];exact n1) a3 e;exact⟨this.ok,(this.now.trans a2).trans nw,this.pts.trans a3⟩
def afs {c:Clock}{g:List Pt}{es:List Crt}(h:bx c)(hn:aX c.now)(hg:okF g)(hE:EdgF g es)(hl:es.length<=1000):Ans D 140 [CL c,F g,sl bT es] (eC g es c):=by
 obtain⟨q1,_,_⟩:=gM es c.certs.list c h;have hk:=Dr h hE;have n1:=qg (es:=es) h hn c.certs.list;have key:den (aY D) 1001 Ss [] [CL c,F g,sl bT es]=some (eC g es c):=by
  unfold Ss;simp only[ax,db,aO,oc,od,m8,rK,fu,mq,mu,mw,jB,jU,cU,EV,ai];refine(V0 (N:=1001) h hn hl).trans ?_;unfold eC renewG;generalize dropL es c.certs.list c=a at q1 hk n1;have ha:=q1.ok;have hpl:=(kX ha).pts;have e234:=phi (ag2 (l:=a.pts) (k:=g) (by omega));unfold Or uU;simp only[stC,bf,aT,EV,ax,b8,e234];by_cases hp:a.pts=g
  .simp only[hp,az,aE,aq,aw,aA,EV];unfold FZ;simp only[EV,ai];rw[<-hp] at hE|-;refine(vQ hE hl (aC _) es.length 0 1001 a (by omega) (by omega) ha n1 rfl).trans ?_;rw[cL];cases addL es a with
   |none=>rfl
   |some d=>
    unfold FW;simp only[stC,EV,ax,kW]
  .have m:=phi (ahZ ha n1 hg hk);unfold lP at m;simp only[hp,bw,bI,aA,aw,EV,ax,kW,m];cases hd:tJ a g with
   |none=>
    simp only[EV,ax,km,Nn,aA,mK]
   |some b=>
    obtain⟨a1,a2,a3,_⟩:=JO ha n1 hg hk hd;simp only[EV,ax,db,az,aE,aq,aw,oc,od,m8,rK,fu,mq,mu,mw,jB,jU,cU];unfold FZ;simp only[EV,ai];refine(vQ hE hl (aC _) es.length 0 1001 b (by omega) (by omega) a1 (by rw[a2];exact n1) a3).trans ?_;rw[cL];cases addL es b with
    |none=>rfl
    |some d=>
     unfold FW;simp only[stC,EV,ax,kW]
 unfold eC at key|-;cases hr:renewG g es c with
 |none=>rw[hr] at key;exact an ⟨1001,key⟩
 |some d=>rw[hr] at key;exact an ⟨1001,key⟩
def EU {c:Clock}{g:List Pt}{es:List Crt}(h:bx c)(hn:aX c.now)(hg:okF g)(hE:EdgF g es)(hl:es.length<=1000):Ans D 227 [CL c,F g,sl bT es] (eC g es c):=by
 obtain⟨q1,_,_⟩:=gM es c.certs.list c h;have hk:=Dr h hE;have n1:=qg (es:=es) h hn c.certs.list;have key:den (aY D) 1001 SE [] [CL c,F g,sl bT es]=some (eC g es c):=by
  unfold SE;simp only[ax,db,aO,phi (tz (kX h)),oc,od,m8,rK,fu,mq,mu,mw,jB,jU,cU,EV,ai];refine(V1 (N:=1001) h hn hl).trans ?_;unfold eC renewG;generalize dropL es c.certs.list c=a at q1 hk n1;have ha:=q1.ok;have hpl:=(kX ha).pts;have cz:RF.ev (.cell 10) [CLz]=some (.sl []):=rfl;have s0:=qT a;have e234:=phi (c28 (l:=a.pts) (k:=g) (by omega));unfold Pi uU;simp only[stC,bf,aT,EV,ax,vF,e234];by_cases hp:a.pts=g
  .simp only[hp,az,aE,aq,aw,aA,EV];unfold GX;simp only[EV,ai];rw[<-hp] at hE|-;refine(vR hE hl es.length 0 1001 a (by omega) (by omega) ha n1 rfl).trans ?_;rw[cL];cases addL es a with
   |none=>rfl
   |some d=>
    have s0:=qT d;unfold GV;simp only[stC,EV,ax,s0,kW]
  .have m:=phi (ah0 ha n1 hg hk);unfold lP at m;simp only[hp,bw,bI,aA,aw,EV,ax,s0,kW,m];cases hd:tJ a g with
   |none=>
    simp only[EV,ax,km,cz,Nn,aA,mK]
   |some b=>
    obtain⟨a1,a2,a3,_⟩:=JO ha n1 hg hk hd;simp only[EV,ax,db,az,aE,aq,aw,oc,od,m8,rK,fu,mq,mu,mw,jB,jU,cU];unfold GX;simp only[EV,ai];refine(vR hE hl es.length 0 1001 b (by omega) (by omega) a1 (by rw[a2];exact n1) a3).trans ?_;rw[cL];cases addL es b with
    |none=>rfl
    |some d=>
     have s0:=qT d;unfold GV;simp only[stC,EV,ax,s0,kW]
 unfold eC at key|-;cases hr:renewG g es c with
 |none=>rw[hr] at key;exact an ⟨1001,key⟩
 |some d=>rw[hr] at key;exact an ⟨1001,key⟩
open Classical in
def W7 {c:Clock}{g:List Pt}{es:List Crt}(h:bx c)(hn0:aX c.now)(hg:okF g)(hE:EdgOk g es):den (aY D) 1001 SD [] [CL c,F g,sl bT es]=some (eC g es c):=by
 have hl:=hg;have hlen:=hE.len;have m1:=phi (yP (yG h hn0) (qQ h));rw[au h,show okE true=0 from rfl] at m1
 have m2:=phi (vr g);rw[eu.2 hl] at m2;unfold SD;simp only[ax,db,aO,m1,m2,EV,az,aE,aq,aw,ai];refine(cw (m:=1001) (l:=es) (p:=λ_=>true) (st:=λi=>[.i64 (i:Int)]) (r:=none) (fin:=some (eC g es c)) (λi x self hx _=>?_) (λ_ self=>?_) (by omega)).trans (ad (by simp))
 .obtain⟨o1,o2,o3,o4,o5⟩:=hE.ok x (ay hx);unfold GN;simp only[ax,aS hx (jz _),aJ hx,tq,nY,nZ,EV,aa,bi (aN hx),cJ,up1 (show i<1000000000 by have:=aN hx;omega)]
  grind
 .unfold GN;simp only[EV,aa,bK];unfold O7;simp only[EV,ai];refine(cw (m:=1001) (l:=es) (p:=λ_=>true) (st:=λi=>[.i64 (i:Int)]) (r:=none) (fin:=some (eC g es c)) (λi x self hx _=>?_) (λ_ self=>?_) (by omega)).trans (ad (by simp))
  .have hn:x∉es.take i:=λhm=>by
    obtain⟨j,hj⟩:=aL.1 hm;have hji:j<i:=by have:=aN hj;rw[aK] at this;omega
    rw[fw hji] at hj;have:=dE.1 hE.nd j i x hj hx;omega
   have m3:=phi (zW (l:=es.take i) x (by rw[aK];omega));rw[aj hn] at m3;have hi:=aN hx;unfold GM;simp only[ax,aS hx (jz _),aJ hx,tq,ag3 (show i<=es.length by omega),ad3 (show i<=es.length by omega),m3,EV,ai,aa,bi hi,aq,aw,aA,up1 (show i<1000000000 by omega)]
  .unfold GM;simp only[EV,aa,bK];unfold O6;simp only[EV,ai];refine(cw (m:=1001) (l:=es) (p:=λ_=>true) (st:=λi=>[.i64 (i:Int)]) (r:=none) (fin:=some (eC g es c)) (λi x self hx _=>?_) (λ_ self=>?_) (by omega)).trans (ad (by simp))
   .obtain⟨a,p,a1,a2,_⟩:=vN hl (hE.low x (ay hx));obtain⟨b,q,b1,b2,_⟩:=vN hl (hE.high x (ay hx));have n1:=phi (E9 hl a1);have n2:=phi (E9 hl b1);rw[a2] at n1;rw[b2] at n2;unfold GL;simp only[ax,aS hx (jz _),aJ hx,tq,nY,nZ,n1,n2,CB,EV,ai,aa,bi (aN hx),az,aE,aq,aw,aA,up1 (show i<1000000000 by have:=aN hx;omega)]
   .unfold GL;simp only[EV,aa,bK];unfold O5;have m4:=phi (afs h hn0 hg ⟨hE.ok,hE.low,hE.high⟩ (by omega));have pz:RF.ev (.part 0 11) [CLz]=some CLz:=rfl;unfold eC at m4|-;cases hr:renewG g es c with
    |none=>
     rw[hr] at m4;simp only[EV,ax,phi (XZ (kX h)),m4,km,pz]
    |some d=>
     rw[hr] at m4;simp only[EV,ax,phi (XZ (kX h)),m4,db,og]
def EW {c:Clock}{g:List Pt}{es:List Crt}(h:bx c)(hn:aX c.now)(hg:okF g)(hE:EdgOk g es):Ans D 217 [CL c,F g,sl bT es] (eC g es c):=by
 have key:=W7 h hn hg hE;unfold eC at key|-;cases hr:renewG g es c with
 |none=>rw[hr] at key;exact an ⟨1001,key⟩
 |some d=>rw[hr] at key;exact an ⟨1001,key⟩
def Ch (g:List Pt)(c:Clock)(pl:List Int):List PV:=match renewG g (edsB (bracketOf c.now g pl).wins pl (bracketOf c.now g pl).wins.length) c with
 |some d=>[KT ⟨d,bracketOf c.now g pl⟩,.i64 0]
 |none=>[KTz,.i64 18]
def Ci (g:List Pt)(c:Clock):List PV:=match renewG g (edgsT (cart c.now g).nodes g.length) c with
 |some d=>[HT ⟨d,cart c.now g⟩,.i64 0]
 |none=>[HTz,.i64 18]
def uV (g:List Pt)(c:Clock):List PV:=match renewG g (edgesU g (upsO c.now g)) c with
 |some d=>[KH ⟨d,upsO c.now g⟩,.i64 0]
 |none=>[KHz,.i64 18]
section
variable {c:Clock}{g:List Pt}(h:bx c)(hn:aX c.now)(hg:okF g)
include h hn hg
theorem No {pl:List Int}(h1:1<=pl.length)(h2:pl.length<=64)(hv:∀x∈pl,dR g x)(ho:iC pl):Ans D 145 [CL c,F g,sl I1 pl] (Ch g c pl):=by
 have hl:=hg;have hE:=xF (t:=c.now) hl h1 h2 hv ho;obtain⟨b1,b2,b3⟩:=qR (t:=c.now) hl h1 h2 hv ho;have mb:=phi (XQ (b:=bracketOf c.now g pl) (by rw[b1];show pl.length=_;omega) (by show pl.length<=70;omega) (λi hi=>(b2.2 i hi).1) (λj=>lD hl (brk_val (b:=bracketOf c.now g pl) b2 hv j)))
 have mb:aY D 176 [BR (bracketOf c.now g pl)]=some [sl bT (edsB (bracketOf c.now g pl).wins pl (bracketOf c.now g pl).wins.length)]:=mb;have m2:=phi (EU h hn hg ⟨hE.ok,hE.low,hE.high⟩ (by have:=hE.len;omega));unfold eC at m2;unfold Ch;cases hr:renewG g (edsB (bracketOf c.now g pl).wins pl (bracketOf c.now g pl).wins.length) c with
 |none=>
  rw[hr] at m2;refine am ?_;unfold Sv;simp[db,aO,fq,phi (Ye hl hn h1 h2 hv),kg,mb,m2,EV,km,g18,Yp]
 |some d=>
  rw[hr] at m2;refine am ?_;unfold Sv;simp only[ax,db,aO,fq,phi (Ye hl hn h1 h2 hv),kg,mb,m2,EV,az,aE,aq,aw,og,Sj,Uz]
theorem Np:Ans D 148 [CL c,F g] (Ci g c):=by
 have hl:=hg;have hE:=Ac (t:=c.now) hl;have mb:=phi (XL (x:=cart c.now g) (vC hl) (by rw[lB hl];have:=hl.1;omega));rw[lB hl] at mb;have m2:=phi (EU h hn hg ⟨hE.ok,hE.low,hE.high⟩ (by have:=hE.len;omega));unfold eC at m2;unfold Ci;cases hr:renewG g (edgsT (cart c.now g).nodes g.length) c with
 |none=>
  rw[hr] at m2;refine am ?_;unfold Sw;simp[db,aO,fq,phi (R4 hl hn),qx,mb,m2,EV,km,Yq]
 |some d=>
  rw[hr] at m2;refine am ?_;unfold Sw;simp[db,aO,fq,phi (R4 hl hn),qx,mb,m2,EV,og,FA,Ep]
theorem Nq:Ans D 126 [CL c,F g] (uV g c):=by
 have hl:=hg;have hE:=Ab (t:=c.now) hl;have m2:=phi (EW h hn hg hE);unfold eC at m2;unfold uV;cases hr:renewG g (edgesU g (upsO c.now g)) c with
 |none=>
  rw[hr] at m2;refine am ?_;unfold Sq;simp[db,aO,fq,phi (RY hl hn h.1),m2,EV,km,NT]
 |some d=>
  rw[hr] at m2;refine am ?_;unfold Sq;simp[db,aO,fq,phi (RY hl hn h.1),m2,EV,og,Uy]
theorem Nr:Ans D 149 [CL c,F g] (uV g c):=by
 have hl:=hg;have hE:=Ab (t:=c.now) hl;have m2:=phi (EU h hn hg ⟨hE.ok,hE.low,hE.high⟩ (by have:=hE.len;omega));unfold eC at m2;unfold uV;cases hr:renewG g (edgesU g (upsO c.now g)) c with
 |none=>
  rw[hr] at m2;refine am ?_;unfold Sy;simp[db,aO,fq,phi (RV hl hn),phi (RW (l:=g) (up:=upsO c.now g) (rf c.now g).symm (by have:=hl.1;omega)),m2,EV,km,NT]
 |some d=>
  rw[hr] at m2;refine am ?_;unfold Sy;simp[db,aO,fq,phi (RV hl hn),phi (RW (l:=g) (up:=upsO c.now g) (rf c.now g).symm (by have:=hl.1;omega)),m2,EV,og,Uy]
end
def pP3 (p:Pt):RF.ev (.part 0 3) [PP p]=some (PP p):=rfl
section
variable {l:List Pt}{t:Rt}(h:okF l)
include h
theorem tK {a:Int}(ha:inF l a=true):aY D 248 [F l,.i64 a]=some [PP (ptOf l a),.i64 0]:=by
 obtain⟨i,p,a1,a2,a3⟩:=vN h ha;have:=phi (E9 h a1)
 grind
theorem JR (ht:aX t)(hr:rok t=true){a b:Int}(ha:inF l a=true)(hb:inF l b=true)(hne:a≠b):aY D 249 [PP (ptOf l a),PP (ptOf l b),R t]=some [.bool (leads t (ptOf l a) (ptOf l b)),.i64 0]:=by
 obtain⟨i,p,a1,a2,a3⟩:=vN h ha;obtain⟨j,q,b1,b2,b3⟩:=vN h hb;rw[a3,b3];have:=phi (E6 (p:=p) (q:=q) ht);rw[ad (lu (eQ h a1) (eQ h b1) hr (by rw[a2,b2];exact hne))] at this;exact this
end
def p7 {hp tl:List Int}{i:Nat}(hi:i<hp.length)(x:Int):RF.ev (.set 0) [sl I1 (hp++tl),.v (.int .i64 (i:Int)),.v (.int .i64 x)]=some (sl I1 (hp.set i x++tl)):=by
 rw[dQ (by rw[aB];omega),pb _ _ hi]
def hZ {hp tl:List Int}{i:Nat}{a:Int}(h:hp[i]?=some a):(hp++tl)[i]?=some a:=by rw[aI (bb h)];exact h
def Ns {hp tl:List Int}:RF.ev .sub [sl I1 (hp++tl),.v (.int .i64 0),.v (.int .i64 (hp.length:Int))]=some (sl I1 hp):=by
 rw[td,ad ⟨by omega,by omega,by rw[ai,aB];omega⟩,aG]
 grind
def oV (g:List Pt)(c:Clock)(hp:List Int):KHeap×Int:=match renewG g (dY hp) c with
 |some d=>(⟨d,hp⟩,0)
 |none=>(zKH,18)
def mU (g:List Pt)(c:Clock)(hp:List Int):List PV:=[KH (oV g c hp).1,.i64 (oV g c hp).2]
def kt {t:Rt}{l:List Pt}{h:List Int}{i:Nat}{a b:Int}(ha:h[2*i+1]?=some a)(hb:h[2*i+2]?=some b):nA t l h i=if leads t (ptOf l b) (ptOf l a)=true then 2*i+2 else 2*i+1:=by
 unfold nA;rw[ha,hb]
def kn {t:Rt}{l:List Pt}{h:List Int}{i:Nat}(hb:h[2*i+2]?=none):nA t l h i=2*i+1:=by
 unfold nA
 grind
def nt {t:Rt}{l:List Pt}{h:List Int}{i k:Nat}{a b:Int}(hk:nA t l h i=k)(ha:h[i]?=some a)(hb:h[k]?=some b):nxtL t l h i=if leads t (ptOf l b) (ptOf l a)=true then k else i:=by
 unfold nxtL;rw[hk,ha,hb]
def nn {t:Rt}{l:List Pt}{h:List Int}{i k:Nat}(hk:nA t l h i=k)(hb:h[k]?=none):nxtL t l h i=i:=by
 unfold nxtL
 grind
def adp {l:List Pt}{t:Rt}(h:okF l)(ht:aX t)(hr:rok t=true){N:Nat}{f0:JT}{e0 e1 e2 e3 e4 e5 e6 e7 e8 e10 e11 e12 e13 e14 e15 e16 e17 e20:PV}{tl:List Int}{H:Nat}(hH:H<=1000):∀(r i m:Nat) (hp:List Int),i<=r->r<m->i<H->hp.length=H->(∀x∈hp,inF l x=true)->hp.Nodup->
  cS (aY D) N y8 [f0] [e0,e1,e2,e3,e4,e5,e6,e7,e8,F l,e10,e11,e12,e13,e14,e15,e16,e17,.i64 (H:Int),R t,e20] m [sl I1 (hp++tl),.i64 (i:Int)]=f0 [.i64 ((ea t l r hp i).2:Int),sl I1 ((ea t l r hp i).1++tl)]
 |0,i,m,hp,hi,hm,hiH,hl,hin,hnd=>by
  obtain⟨m,rfl⟩:∃m',m=m'+1:=⟨m-1,by omega⟩;have:i=0:=by omega
  subst this;rw[bc];unfold y8 ea;simp only[EV,aa];rw[ac (by omega)]
 |r+1,i,m,hp,hi,hm,hiH,hl,hin,hnd=>by
  obtain⟨m,rfl⟩:∃m',m=m'+1:=⟨m-1,by omega⟩;obtain⟨a,ha⟩:∃a,hp[i]?=some a:=⟨hp[i],ah _⟩;obtain⟨b,hb⟩:∃b,hp[(i-1)/2]?=some b:=⟨hp[(i-1)/2]'(by omega),ah _⟩;have E:ea t l (r+1) hp i=if 0<i/\ leads t (ptOf l a) (ptOf l b)=true then ea t l r (ir hp i ((i-1)/2) a b) ((i-1)/2) else(hp,i):=by rw[ea,ha,hb]
  rw[E,bc];by_cases h0:0<i
  rotate_left
  .rw[ac (λh=>h0 h.1)];unfold y8;simp only[EV,aa];rw[ac (by omega)]
  .have pm:=lO ha hb;have hne:a≠b:=λe=>by
    have:=dE.1 hnd i ((i-1)/2) a ha (by rw[e];exact hb);omega
   have i1:=hin a (ay ha);have i2:=hin b (ay hb);have ih:=adp (l:=l) (t:=t) h ht hr (N:=N) (f0:=f0) (e0:=e0) (e1:=e1) (e2:=e2) (e3:=e3) (e4:=e4) (e5:=e5) (e6:=e6) (e7:=e7) (e8:=e8) (e10:=e10) (e11:=e11) (e12:=e12) (e13:=e13) (e14:=e14) (e15:=e15) (e16:=e16) (e17:=e17) (e20:=e20) (tl:=tl) (H:=H) hH r ((i-1)/2) m (ir hp i ((i-1)/2) a b) (by omega) (by omega) (by omega) (by rw[pm.length_eq];exact hl) (λx hx=>hin x (pm.mem_iff.1 hx)) (pm.nodup_iff.2 hnd);have q2:=tC h0 (by omega);have s1:=p7 (tl:=tl) (show i<hp.length by omega) b
   have s2:RF.ev (.set 0) [sl I1 (hp.set i b++tl),.v (.int .i64 (((i-1)/2:Nat):Int)),.v (.int .i64 a)]=some (sl I1 (ir hp i ((i-1)/2) a b++tl)):=p7 (by rw[aH];omega) a;generalize hkk:y8=kk at ih;subst hkk;unfold y8;simp[EV];rw[ad (by omega)];simp only[EV,q2,ixM hiH,ixM (show(i-1)/2<H by omega),aJ (hZ (tl:=tl) ha),aJ (hZ (tl:=tl) hb),bZ,ax,tK h i1,tK h i2,CB,pP3,JR h ht hr i1 i2 hne]
   cases hc:leads t (ptOf l a) (ptOf l b) with
   |false=>
    simp only[aq,aw,eF,EV]
   |true=>
    simp only[h0,fx,aA,EV,fN,q2,ixM hiH,ixM (show(i-1)/2<H by omega),aJ (hZ (tl:=tl) ha),aJ (hZ (tl:=tl) hb),bZ,ax,s1,s2]
    exact ih
def adq {l:List Pt}{t:Rt}(h:okF l)(ht:aX t)(hr:rok t=true){N:Nat}{f0 f1:JT}{e0 e1 e2 e3 e4 e5 e6 e7 e9 e10 e11 e12 e13 e14 e15 e16 e17 e18 e19 e20 e22:PV}{tl:List Int}{H:Nat}(hH:H<=1000):∀(r i m:Nat) (hp:List Int),i<=r->r<m->i<H->hp.length=H->(∀x∈hp,inF l x=true)->hp.Nodup->
  cS (aY D) N y9 [f0,f1] [e0,e1,e2,e3,e4,e5,e6,e7,F l,e9,e10,e11,e12,e13,e14,e15,e16,e17,e18,e19,e20,.i64 (H:Int),e22,R t] m [sl I1 (hp++tl),.i64 (i:Int)]=f1 [.i64 ((ea t l r hp i).2:Int),sl I1 ((ea t l r hp i).1++tl)]
 |0,i,m,hp,hi,hm,hiH,hl,hin,hnd=>by
  obtain⟨m,rfl⟩:∃m',m=m'+1:=⟨m-1,by omega⟩;have:i=0:=by omega
  subst this;rw[bc];unfold y9 ea;simp only[EV,aa];rw[ac (by omega)]
 |r+1,i,m,hp,hi,hm,hiH,hl,hin,hnd=>by
  obtain⟨m,rfl⟩:∃m',m=m'+1:=⟨m-1,by omega⟩;obtain⟨a,ha⟩:∃a,hp[i]?=some a:=⟨hp[i],ah _⟩;obtain⟨b,hb⟩:∃b,hp[(i-1)/2]?=some b:=⟨hp[(i-1)/2]'(by omega),ah _⟩;have E:ea t l (r+1) hp i=if 0<i/\ leads t (ptOf l a) (ptOf l b)=true then ea t l r (ir hp i ((i-1)/2) a b) ((i-1)/2) else(hp,i):=by rw[ea,ha,hb]
  rw[E,bc];by_cases h0:0<i
  rotate_left
  .rw[ac (λh=>h0 h.1)];unfold y9;simp only[EV,aa];rw[ac (by omega)]
  .have pm:=lO ha hb;have hne:a≠b:=λe=>by
    have:=dE.1 hnd i ((i-1)/2) a ha (by rw[e];exact hb);omega
   have i1:=hin a (ay ha);have i2:=hin b (ay hb);have ih:=adq (l:=l) (t:=t) h ht hr (N:=N) (f0:=f0) (f1:=f1) (e0:=e0) (e1:=e1) (e2:=e2) (e3:=e3) (e4:=e4) (e5:=e5) (e6:=e6) (e7:=e7) (e9:=e9) (e10:=e10) (e11:=e11) (e12:=e12) (e13:=e13) (e14:=e14) (e15:=e15) (e16:=e16) (e17:=e17) (e18:=e18) (e19:=e19) (e20:=e20) (e22:=e22) (tl:=tl) (H:=H) hH r ((i-1)/2) m (ir hp i ((i-1)/2) a b) (by omega) (by omega) (by omega) (by rw[pm.length_eq];exact hl) (λx hx=>hin x (pm.mem_iff.1 hx)) (pm.nodup_iff.2 hnd);have q2:=tC h0 (by omega);have s1:=p7 (tl:=tl) (show i<hp.length by omega) b
   have s2:RF.ev (.set 0) [sl I1 (hp.set i b++tl),.v (.int .i64 (((i-1)/2:Nat):Int)),.v (.int .i64 a)]=some (sl I1 (ir hp i ((i-1)/2) a b++tl)):=p7 (by rw[aH];omega) a;generalize hkk:y9=kk at ih;subst hkk;unfold y9;simp[EV];rw[ad (by omega)];simp only[EV,q2,ixM hiH,ixM (show(i-1)/2<H by omega),aJ (hZ (tl:=tl) ha),aJ (hZ (tl:=tl) hb),bZ,ax,tK h i1,tK h i2,CB,pP3,JR h ht hr i1 i2 hne]
   cases hc:leads t (ptOf l a) (ptOf l b) with
   |false=>
    simp only[aq,aw,eF,EV]
   |true=>
    simp only[h0,fx,aA,EV,fN,q2,ixM hiH,ixM (show(i-1)/2<H by omega),aJ (hZ (tl:=tl) ha),aJ (hZ (tl:=tl) hb),bZ,ax,s1,s2]
    exact ih
def VI {l:List Pt}{t:Rt}(h:okF l)(ht:aX t)(hr:rok t=true){N:Nat}{f0:JT}{e0 e1 e2 e3 e4 e5 e6 e7 e8 e10 e11 e12 e15 e16 e17 e18:PV}{tl:List Int}{H:Nat}(hH:H<=1000):∀(r i m:Nat) (hp:List Int),i<=r->r<m->i<H->hp.length=H->(∀x∈hp,inF l x=true)->hp.Nodup->
  cS (aY D) N t6 [f0] [e0,e1,e2,e3,e4,e5,e6,e7,e8,F l,e10,e11,e12,.i64 (H:Int),R t,e15,e16,e17,e18] m [sl I1 (hp++tl),.i64 (i:Int)]=f0 [.i64 ((ea t l r hp i).2:Int),sl I1 ((ea t l r hp i).1++tl)]
 |0,i,m,hp,hi,hm,hiH,hl,hin,hnd=>by
  obtain⟨m,rfl⟩:∃m',m=m'+1:=⟨m-1,by omega⟩;have:i=0:=by omega
  subst this;rw[bc];unfold t6 ea;simp only[EV,aa];rw[ac (by omega)]
 |r+1,i,m,hp,hi,hm,hiH,hl,hin,hnd=>by
  obtain⟨m,rfl⟩:∃m',m=m'+1:=⟨m-1,by omega⟩;obtain⟨a,ha⟩:∃a,hp[i]?=some a:=⟨hp[i],ah _⟩;obtain⟨b,hb⟩:∃b,hp[(i-1)/2]?=some b:=⟨hp[(i-1)/2]'(by omega),ah _⟩;have E:ea t l (r+1) hp i=if 0<i/\ leads t (ptOf l a) (ptOf l b)=true then ea t l r (ir hp i ((i-1)/2) a b) ((i-1)/2) else(hp,i):=by rw[ea,ha,hb]
  rw[E,bc];by_cases h0:0<i
  rotate_left
  .rw[ac (λh=>h0 h.1)];unfold t6;simp only[EV,aa];rw[ac (by omega)]
  .have pm:=lO ha hb;have hne:a≠b:=λe=>by
    have:=dE.1 hnd i ((i-1)/2) a ha (by rw[e];exact hb);omega
   have i1:=hin a (ay ha);have i2:=hin b (ay hb);have ih:=VI (l:=l) (t:=t) h ht hr (N:=N) (f0:=f0) (e0:=e0) (e1:=e1) (e2:=e2) (e3:=e3) (e4:=e4) (e5:=e5) (e6:=e6) (e7:=e7) (e8:=e8) (e10:=e10) (e11:=e11) (e12:=e12) (e15:=e15) (e16:=e16) (e17:=e17) (e18:=e18) (tl:=tl) (H:=H) hH r ((i-1)/2) m (ir hp i ((i-1)/2) a b) (by omega) (by omega) (by omega) (by rw[pm.length_eq];exact hl) (λx hx=>hin x (pm.mem_iff.1 hx)) (pm.nodup_iff.2 hnd);have q2:=tC h0 (by omega);have s1:=p7 (tl:=tl) (show i<hp.length by omega) b
   have s2:RF.ev (.set 0) [sl I1 (hp.set i b++tl),.v (.int .i64 (((i-1)/2:Nat):Int)),.v (.int .i64 a)]=some (sl I1 (ir hp i ((i-1)/2) a b++tl)):=p7 (by rw[aH];omega) a;generalize hkk:t6=kk at ih;subst hkk;unfold t6;simp[EV];rw[ad (by omega)];simp only[EV,q2,ixM hiH,ixM (show(i-1)/2<H by omega),aJ (hZ (tl:=tl) ha),aJ (hZ (tl:=tl) hb),bZ,ax,tK h i1,tK h i2,CB,pP3,JR h ht hr i1 i2 hne]
   cases hc:leads t (ptOf l a) (ptOf l b) with
   |false=>
    simp only[aq,aw,eF,EV]
   |true=>
    simp only[h0,fx,aA,EV,fN,q2,ixM hiH,ixM (show(i-1)/2<H by omega),aJ (hZ (tl:=tl) ha),aJ (hZ (tl:=tl) hb),bZ,ax,s1,s2]
    exact ih
section
variable {l:List Pt}{t:Rt}{N:Nat}{f0 f1 f2:JT}{e0 e1 e2 e3 e4 e5 e6 e7 e9 e10 e11 e12 e13 e14 e15 e16 e17 e18 e19 e20 e22 e24 e25:PV}{tl hp:List Int}{H i:Nat}
def adr (h:okF l)(ht:aX t)(hr:rok t=true)(hi:i<1000){b c:Nat}{x y:Int}(hc:c<H)(hb:b<H)(hci:c<=2*i+2)(hx:hp[b]?=some x)(hy:hp[c]?=some y)(ix:inF l x=true)(iy:inF l y=true)(hne:y≠x)(self:JT):
  den (aY D) N vT ([f0,f1,f2]++[self]) ([e0,e1,e2,e3,e4,e5,e6,e7,F l,e9,e10,e11,e12,e13,e14,e15,e16,e17,e18,e19,e20,.i64 (H:Int),e22,R t,e24,e25,sl I1 (hp++tl),.i64 (i:Int),.i64 ((2*i:Nat):Int),.i64 ((2*i+1:Nat):Int)]++[.i64 (b:Int),.i64 (c:Int)])=self [.i64 ((if leads t (ptOf l y) (ptOf l x)=true then c else b:Nat):Int),.i64 ((c+1:Nat):Int)]:=by
 have w1:IntKind.i64.wrap (2*(i:Int))=((2*i:Nat):Int):=by rw[bV (by omega) (by omega)];omega
 have w2:IntKind.i64.wrap (((2*i:Nat):Int)+2)=((2*i+2:Nat):Int):=by rw[bV (by omega) (by omega)];omega
 unfold vT;simp only[bf,aT,EV,w1,w2,aa];rw[ad (by omega),ad (by omega)];simp only[EV,ixM hc,ixM hb,aJ (hZ (tl:=tl) hx),aJ (hZ (tl:=tl) hy),bZ,ax,tK h ix,tK h iy,CB,pP3,JR h ht hr iy ix hne];unfold Vd;cases leads t (ptOf l y) (ptOf l x) with
 |false=>simp only[aq,aw,EV,up1 (show c<1000000000 by omega)]
 |true=>simp only[aA,EV,up1 (show c<1000000000 by omega)]
def T7 (hi:i<1000){b c:Nat}(hc:2*i+2<c\/H<=c)(self:JT):∃v1 v2 v3 v4 v5:PV,
  den (aY D) N vT ([f0,f1,f2]++[self]) ([e0,e1,e2,e3,e4,e5,e6,e7,F l,e9,e10,e11,e12,e13,e14,e15,e16,e17,e18,e19,e20,.i64 (H:Int),e22,R t,e24,e25,sl I1 (hp++tl),.i64 (i:Int),.i64 ((2*i:Nat):Int),.i64 ((2*i+1:Nat):Int)]++[.i64 (b:Int),.i64 (c:Int)])=f2 [v1,.i64 (b:Int),v2,v3,v4,v5]:=by
 have w1:IntKind.i64.wrap (2*(i:Int))=((2*i:Nat):Int):=by rw[bV (by omega) (by omega)];omega
 have w2:IntKind.i64.wrap (((2*i:Nat):Int)+2)=((2*i+2:Nat):Int):=by rw[bV (by omega) (by omega)];omega
 unfold vT;simp only[bf,aT,EV,w1,w2,aa];by_cases h1:c<=2*i+2
 .rw[ad (by omega),ac (by omega)]
  grind
 .rw[ac (by omega)]
  grind
def ah1 (h:okF l)(ht:aX t)(hr:rok t=true)(hH:H<=1000)(hi:i<H)(hl:hp.length=H)(hin:∀x∈hp,inF l x=true)(hnd:hp.Nodup)(m:Nat):∃v1 v2 v3 v4 v5:PV,
  cS (aY D) N vT [f0,f1,f2] [e0,e1,e2,e3,e4,e5,e6,e7,F l,e9,e10,e11,e12,e13,e14,e15,e16,e17,e18,e19,e20,.i64 (H:Int),e22,R t,e24,e25,sl I1 (hp++tl),.i64 (i:Int),.i64 ((2*i:Nat):Int),.i64 ((2*i+1:Nat):Int)] (m+3) [.i64 (i:Int),.i64 ((2*i+1:Nat):Int)]=f2 [v1,.i64 ((nxtL t l hp i:Nat):Int),v2,v3,v4,v5]:=by
 obtain⟨x,hx⟩:∃a,hp[i]?=some a:=⟨hp[i]'(by omega),ah _⟩;have ne:∀(j k:Nat) (y z:Int),hp[j]?=some y->hp[k]?=some z->j≠k->y≠z:=λj k y z hy hz q e=>q (dE.1 hnd j k y hy (by rw[e];exact hz));have im:∀(j:Nat) (y:Int),hp[j]?=some y->inF l y=true:=λj y hy=>hin y (ay hy);by_cases h1:2*i+1<H
 rotate_left
 .rw[nn (kn (aZ (by omega))) (aZ (by omega)),bc];exact T7 (by omega) (.inr (by omega)) _
 obtain⟨y,hy⟩:∃a,hp[2*i+1]?=some a:=⟨hp[2*i+1]'(by omega),ah _⟩;rw[bc,adr h ht hr (by omega) h1 hi (by omega) hx hy (im _ _ hx) (im _ _ hy) (ne _ _ _ _ hy hx (by omega))];by_cases h2:2*i+2<H
 rotate_left
 .rw[nt (kn (aZ (by omega))) hx hy,bc];exact T7 (by omega) (.inr (by omega)) _
 obtain⟨z,hz⟩:∃a,hp[2*i+2]?=some a:=⟨hp[2*i+2]'(by omega),ah _⟩;have key:∀(b:Nat) (v:Int),b<H->hp[b]?=some v->b≠2*i+2->(if leads t (ptOf l z) (ptOf l v)=true then 2*i+1+1 else b)=nxtL t l hp i->∃v1 v2 v3 v4 v5:PV,cS (aY D) N vT [f0,f1,f2] [e0,e1,e2,e3,e4,e5,e6,e7,F l,e9,e10,e11,e12,e13,e14,e15,e16,e17,e18,e19,e20,.i64 (H:Int),e22,R t,e24,e25,sl I1 (hp++tl),.i64 (i:Int),.i64 ((2*i:Nat):Int),.i64 ((2*i+1:Nat):Int)] (m+2) [.i64 (b:Int),.i64 ((2*i+1+1:Nat):Int)]=f2 [v1,.i64 ((nxtL t l hp i:Nat):Int),v2,v3,v4,v5]:=λb v hb hv hne e=>by
  rw[bc,adr h ht hr (by omega) h2 hb (by omega) hv hz (im _ _ hv) (im _ _ hz) (ne _ _ _ _ hz hv (by omega)),e,bc];exact T7 (by omega) (.inl (by omega)) _
 have ids:∀(j:Nat) (v:Int),hp[j]?=some v->(ptOf l v).id=v:=λj v hv=>by
  obtain⟨_,p,_,a2,a3⟩:=vN h (im j v hv);rw[a3,a2]
 by_cases c1:leads t (ptOf l y) (ptOf l x)=true
 .rw[ad c1];refine key (2*i+1) y h1 hy (by omega) ?_;by_cases c2:leads t (ptOf l z) (ptOf l y)=true
  .rw[ad c2,nt (k:=2*i+2) (by rw[kt hy hz,ad c2]) hx hz,ad (jJ c2 c1)]
  .rw[ac c2,nt (k:=2*i+1) (by rw[kt hy hz,ac c2]) hx hy,ad c1]
 .rw[ac c1];refine key i x hi hx (by omega) ?_;by_cases c2:leads t (ptOf l z) (ptOf l y)=true
  .rw[nt (k:=2*i+2) (by rw[kt hy hz,ad c2]) hx hz]
  .rw[nt (k:=2*i+1) (by rw[kt hy hz,ac c2]) hx hy,ac c1,ac];intro c3;have e1:leads t (ptOf l x) (ptOf l y)=true:=(leads_total (by rw[ids _ _ hx,ids _ _ hy];exact ne _ _ _ _ hx hy (by omega))).resolve_right c1;exact c2 (jJ c3 e1)
end
def ads {l:List Pt}{t:Rt}(h:okF l)(ht:aX t)(hr:rok t=true){N:Nat}(hN:1001<=N){f0:JT}{e0 e1 e2 e3 e4 e5 e6 e7 e9 e10 e11 e12 e13 e14 e15 e16 e17 e18 e19 e20 e22 e24 e25:PV}{tl:List Int}{H:Nat}(hH:H<=1000):∀(r i m:Nat) (hp:List Int),H<=r+i->r<m->i<H->hp.length=H->(∀x∈hp,inF l x=true)->hp.Nodup->
  cS (aY D) N EE [f0] [e0,e1,e2,e3,e4,e5,e6,e7,F l,e9,e10,e11,e12,e13,e14,e15,e16,e17,e18,e19,e20,.i64 (H:Int),e22,R t,e24,e25] m [sl I1 (hp++tl),.i64 (i:Int)]=f0 [sl I1 (iP t l r hp i++tl)]
 |0,i,m,hp,hi,hm,hiH,hl,hin,hnd=>by omega
 |r+1,i,m,hp,hi,hm,hiH,hl,hin,hnd=>by
  obtain⟨m,rfl⟩:∃m',m=m'+1:=⟨m-1,by omega⟩;obtain⟨N,rfl⟩:∃n,N=n+3:=⟨N-3,by omega⟩;have hk:=JL (t:=t) (l:=l) hp i;obtain⟨a,ha⟩:∃a,hp[i]?=some a:=⟨hp[i],ah _⟩;obtain⟨b,hb⟩:∃b,hp[nxtL t l hp i]?=some b:=⟨hp[nxtL t l hp i]'(by omega),ah _⟩;have E:iP t l (r+1) hp i=if nxtL t l hp i=i then hp else iP t l r (ir hp i (nxtL t l hp i) a b) (nxtL t l hp i):=by rw[iP,ha,hb]
  have pm:=lO ha hb;have ih:=λq:¬nxtL t l hp i=i=>ads (l:=l) (t:=t) h ht hr (N:=N+3) hN (f0:=f0) (e0:=e0) (e1:=e1) (e2:=e2) (e3:=e3) (e4:=e4) (e5:=e5) (e6:=e6) (e7:=e7) (e9:=e9) (e10:=e10) (e11:=e11) (e12:=e12) (e13:=e13) (e14:=e14) (e15:=e15) (e16:=e16) (e17:=e17) (e18:=e18) (e19:=e19) (e20:=e20) (e22:=e22) (e24:=e24) (e25:=e25) (tl:=tl) (H:=H) hH r (nxtL t l hp i) m (ir hp i (nxtL t l hp i) a b) (by omega) (by omega) (by omega) (by rw[pm.length_eq];exact hl) (λx hx=>hin x (pm.mem_iff.1 hx)) (pm.nodup_iff.2 hnd);have s1:=p7 (tl:=tl) (show i<hp.length by omega) b
  have s2:RF.ev (.set 0) [sl I1 (hp.set i b++tl),.v (.int .i64 ((nxtL t l hp i:Nat):Int)),.v (.int .i64 a)]=some (sl I1 (ir hp i (nxtL t l hp i) a b++tl)):=p7 (by rw[aH];omega) a;have w1:IntKind.i64.wrap (2*(i:Int))=((2*i:Nat):Int):=by rw[bV (by omega) (by omega)];omega
  rw[E,bc];generalize hkk:EE=kk at ih;subst hkk;unfold EE;simp only[EV,w1,up1 (show 2*i<1000000000 by omega)]
  obtain⟨v1,v2,v3,v4,v5,hv⟩:=ah1 (l:=l) (t:=t) (N:=N+3) (tl:=tl) (hp:=hp) (H:=H) (i:=i) h ht hr hH hiH hl hin hnd N;refine hv.trans ?_;unfold Vc;simp[EV];by_cases q:nxtL t l hp i=i
  .rw[ad (by omega),ad q]
  .rw[ac (by omega),ac q,<-ih q];simp[EV,ixM hiH,ixM (show nxtL t l hp i<H by omega),aJ (hZ (tl:=tl) ha),aJ (hZ (tl:=tl) hb),bZ,s1,s2]
   rfl
section
variable {l:List Pt}{t:Rt}{N:Nat}{f0 f1:JT}{e0 e1 e2 e3 e4 e5 e6 e7 e8 e10 e11 e12 e15 e16 e17 e18 e19 e20:PV}{tl hp:List Int}{H i:Nat}
def VJ (h:okF l)(ht:aX t)(hr:rok t=true)(hi:i<1000){b c:Nat}{x y:Int}(hc:c<H)(hb:b<H)(hci:c<=2*i+2)(hx:hp[b]?=some x)(hy:hp[c]?=some y)(ix:inF l x=true)(iy:inF l y=true)(hne:y≠x)(self:JT):
  den (aY D) N rO ([f0,f1]++[self]) ([e0,e1,e2,e3,e4,e5,e6,e7,e8,F l,e10,e11,e12,.i64 (H:Int),R t,e15,e16,e17,e18,e19,e20,sl I1 (hp++tl),.i64 (i:Int),.i64 ((2*i:Nat):Int),.i64 ((2*i+1:Nat):Int)]++[.i64 (b:Int),.i64 (c:Int)])=self [.i64 ((if leads t (ptOf l y) (ptOf l x)=true then c else b:Nat):Int),.i64 ((c+1:Nat):Int)]:=by
 have w1:IntKind.i64.wrap (2*(i:Int))=((2*i:Nat):Int):=by rw[bV (by omega) (by omega)];omega
 have w2:IntKind.i64.wrap (((2*i:Nat):Int)+2)=((2*i+2:Nat):Int):=by rw[bV (by omega) (by omega)];omega
 unfold rO;simp only[aT,EV,w1,w2,aa];rw[ad (by omega),ad (by omega)];simp only[EV,ixM hc,ixM hb,aJ (hZ (tl:=tl) hx),aJ (hZ (tl:=tl) hy),bZ,ax,tK h ix,tK h iy,CB,pP3,JR h ht hr iy ix hne];unfold N4;cases leads t (ptOf l y) (ptOf l x) with
 |false=>simp only[aq,aw,EV,up1 (show c<1000000000 by omega)]
 |true=>simp only[aA,EV,up1 (show c<1000000000 by omega)]
def Nt (hi:i<1000){b c:Nat}(hc:2*i+2<c\/H<=c)(self:JT):∃v1 v2 v3 v4 v5:PV,
  den (aY D) N rO ([f0,f1]++[self]) ([e0,e1,e2,e3,e4,e5,e6,e7,e8,F l,e10,e11,e12,.i64 (H:Int),R t,e15,e16,e17,e18,e19,e20,sl I1 (hp++tl),.i64 (i:Int),.i64 ((2*i:Nat):Int),.i64 ((2*i+1:Nat):Int)]++[.i64 (b:Int),.i64 (c:Int)])=f1 [v1,.i64 (b:Int),v2,v3,v4,v5]:=by
 have w1:IntKind.i64.wrap (2*(i:Int))=((2*i:Nat):Int):=by rw[bV (by omega) (by omega)];omega
 have w2:IntKind.i64.wrap (((2*i:Nat):Int)+2)=((2*i+2:Nat):Int):=by rw[bV (by omega) (by omega)];omega
 unfold rO;simp only[bf,aT,EV,w1,w2,aa];by_cases h1:c<=2*i+2
 .rw[ad (by omega),ac (by omega)]
  grind
 .rw[ac (by omega)]
  grind
def afu (h:okF l)(ht:aX t)(hr:rok t=true)(hH:H<=1000)(hi:i<H)(hl:hp.length=H)(hin:∀x∈hp,inF l x=true)(hnd:hp.Nodup)(m:Nat):∃v1 v2 v3 v4 v5:PV,
  cS (aY D) N rO [f0,f1] [e0,e1,e2,e3,e4,e5,e6,e7,e8,F l,e10,e11,e12,.i64 (H:Int),R t,e15,e16,e17,e18,e19,e20,sl I1 (hp++tl),.i64 (i:Int),.i64 ((2*i:Nat):Int),.i64 ((2*i+1:Nat):Int)] (m+3) [.i64 (i:Int),.i64 ((2*i+1:Nat):Int)]=f1 [v1,.i64 ((nxtL t l hp i:Nat):Int),v2,v3,v4,v5]:=by
 obtain⟨x,hx⟩:∃a,hp[i]?=some a:=⟨hp[i]'(by omega),ah _⟩;have ne:∀(j k:Nat) (y z:Int),hp[j]?=some y->hp[k]?=some z->j≠k->y≠z:=λj k y z hy hz q e=>q (dE.1 hnd j k y hy (by rw[e];exact hz));have im:∀(j:Nat) (y:Int),hp[j]?=some y->inF l y=true:=λj y hy=>hin y (ay hy);by_cases h1:2*i+1<H
 rotate_left
 .rw[nn (kn (aZ (by omega))) (aZ (by omega)),bc];exact Nt (by omega) (.inr (by omega)) _
 obtain⟨y,hy⟩:∃a,hp[2*i+1]?=some a:=⟨hp[2*i+1]'(by omega),ah _⟩;rw[bc,VJ h ht hr (by omega) h1 hi (by omega) hx hy (im _ _ hx) (im _ _ hy) (ne _ _ _ _ hy hx (by omega))];by_cases h2:2*i+2<H
 rotate_left
 .rw[nt (kn (aZ (by omega))) hx hy,bc];exact Nt (by omega) (.inr (by omega)) _
 obtain⟨z,hz⟩:∃a,hp[2*i+2]?=some a:=⟨hp[2*i+2]'(by omega),ah _⟩;have key:∀(b:Nat) (v:Int),b<H->hp[b]?=some v->b≠2*i+2->(if leads t (ptOf l z) (ptOf l v)=true then 2*i+1+1 else b)=nxtL t l hp i->∃v1 v2 v3 v4 v5:PV,cS (aY D) N rO [f0,f1] [e0,e1,e2,e3,e4,e5,e6,e7,e8,F l,e10,e11,e12,.i64 (H:Int),R t,e15,e16,e17,e18,e19,e20,sl I1 (hp++tl),.i64 (i:Int),.i64 ((2*i:Nat):Int),.i64 ((2*i+1:Nat):Int)] (m+2) [.i64 (b:Int),.i64 ((2*i+1+1:Nat):Int)]=f1 [v1,.i64 ((nxtL t l hp i:Nat):Int),v2,v3,v4,v5]:=λb v hb hv hne e=>by
  rw[bc,VJ h ht hr (by omega) h2 hb (by omega) hv hz (im _ _ hv) (im _ _ hz) (ne _ _ _ _ hz hv (by omega)),e,bc];exact Nt (by omega) (.inl (by omega)) _
 have ids:∀(j:Nat) (v:Int),hp[j]?=some v->(ptOf l v).id=v:=λj v hv=>by
  obtain⟨_,p,_,a2,a3⟩:=vN h (im j v hv);rw[a3,a2]
 by_cases c1:leads t (ptOf l y) (ptOf l x)=true
 .rw[ad c1];refine key (2*i+1) y h1 hy (by omega) ?_;by_cases c2:leads t (ptOf l z) (ptOf l y)=true
  .rw[ad c2,nt (k:=2*i+2) (by rw[kt hy hz,ad c2]) hx hz,ad (jJ c2 c1)]
  .rw[ac c2,nt (k:=2*i+1) (by rw[kt hy hz,ac c2]) hx hy,ad c1]
 .rw[ac c1];refine key i x hi hx (by omega) ?_;by_cases c2:leads t (ptOf l z) (ptOf l y)=true
  .rw[nt (k:=2*i+2) (by rw[kt hy hz,ad c2]) hx hz]
  .rw[nt (k:=2*i+1) (by rw[kt hy hz,ac c2]) hx hy,ac c1,ac];intro c3;have e1:leads t (ptOf l x) (ptOf l y)=true:=(leads_total (by rw[ids _ _ hx,ids _ _ hy];exact ne _ _ _ _ hx hy (by omega))).resolve_right c1;exact c2 (jJ c3 e1)
end
def VK {l:List Pt}{t:Rt}(h:okF l)(ht:aX t)(hr:rok t=true){k:KHeap}{N:Nat}(hN:1001<=N){e0 e1 e3 e4 e5 e6 e7 e8 e10 e11 e12 e15 e16 e17 e18 e19 e20:PV}{tl:List Int}{H:Nat}(hH:H<=1000):∀(r i m:Nat) (hp:List Int),H<=r+i->r<m->i<H->hp.length=H->(∀x∈hp,inF l x=true)->hp.Nodup->(∀hq:List Int,hq.Perm hp->aY D 183 [CL k.clock,F l,sl I1 hq]=some (mU l k.clock hq))->
  cS (aY D) N A7 [] [e0,e1,KH k,e3,e4,e5,e6,e7,e8,F l,e10,e11,e12,.i64 (H:Int),R t,e15,e16,e17,e18,e19,e20] m [sl I1 (hp++tl),.i64 (i:Int)]=some (mU l k.clock (iP t l r hp i))
 |0,i,m,hp,hi,hm,hiH,hl,hin,hnd,hG=>by omega
 |r+1,i,m,hp,hi,hm,hiH,hl,hin,hnd,hG=>by
  obtain⟨m,rfl⟩:∃m',m=m'+1:=⟨m-1,by omega⟩;obtain⟨N,rfl⟩:∃n,N=n+3:=⟨N-3,by omega⟩;have hk:=JL (t:=t) (l:=l) hp i;obtain⟨a,ha⟩:∃a,hp[i]?=some a:=⟨hp[i],ah _⟩;obtain⟨b,hb⟩:∃b,hp[nxtL t l hp i]?=some b:=⟨hp[nxtL t l hp i]'(by omega),ah _⟩;have E:iP t l (r+1) hp i=if nxtL t l hp i=i then hp else iP t l r (ir hp i (nxtL t l hp i) a b) (nxtL t l hp i):=by rw[iP,ha,hb]
  have pm:=lO ha hb;have ih:=λq:¬nxtL t l hp i=i=>VK (l:=l) (t:=t) h ht hr (k:=k) (N:=N+3) hN (e0:=e0) (e1:=e1) (e3:=e3) (e4:=e4) (e5:=e5) (e6:=e6) (e7:=e7) (e8:=e8) (e10:=e10) (e11:=e11) (e12:=e12) (e15:=e15) (e16:=e16) (e17:=e17) (e18:=e18) (e19:=e19) (e20:=e20) (tl:=tl) (H:=H) hH r (nxtL t l hp i) m (ir hp i (nxtL t l hp i) a b) (by omega) (by omega) (by omega) (by rw[pm.length_eq];exact hl) (λx hx=>hin x (pm.mem_iff.1 hx)) (pm.nodup_iff.2 hnd) (λhq hqp=>hG hq (hqp.trans pm));have s1:=p7 (tl:=tl) (show i<hp.length by omega) b
  have s2:RF.ev (.set 0) [sl I1 (hp.set i b++tl),.v (.int .i64 ((nxtL t l hp i:Nat):Int)),.v (.int .i64 a)]=some (sl I1 (ir hp i (nxtL t l hp i) a b++tl)):=p7 (by rw[aH];omega) a;have s3:=Ns (hp:=hp) (tl:=tl);rw[hl] at s3;have m1:=hG hp (.refl _);have w1:IntKind.i64.wrap (2*(i:Int))=((2*i:Nat):Int):=by rw[bV (by omega) (by omega)];omega
  rw[E,bc];generalize hkk:A7=kk at ih;subst hkk;unfold A7;simp only[EV,w1,up1 (show 2*i<1000000000 by omega)]
  obtain⟨v1,v2,v3,v4,v5,hv⟩:=afu (l:=l) (t:=t) (N:=N+3) (tl:=tl) (hp:=hp) (H:=H) (i:=i) h ht hr hH hiH hl hin hnd N;refine hv.trans ?_;unfold N3;simp[EV];by_cases q:nxtL t l hp i=i
  .rw[ad (by omega),ad q];unfold mU at m1|-;simp[EV,pKH,s3,m1,dz]
  .rw[ac (by omega),ac q,<-ih q];simp[EV,ixM hiH,ixM (show nxtL t l hp i<H by omega),aJ (hZ (tl:=tl) ha),aJ (hZ (tl:=tl) hb),bZ,s1,s2]
   rfl
def T8 {i:Nat}(h:i<1000000):de .quo .i64 (i:Int) .i64 2=some (.v (.int .i64 ((i/2:Nat):Int))):=by
 rw[ER,ac (by decide),iu (by omega),bV (by omega) (by omega)];rfl
def adt {l:List Int}(hl:l.length<=1000):Ans D 276 [sl I1 l] [sl bT (dY l)]:=by
 have mn:IntKind.i64.wrap ((l.length:Int)-min 1 (l.length:Int))=((l.length-1:Nat):Int):=by
  rw[bV (by omega) (by omega)];omega
 refine an ⟨1001,?_⟩;unfold aaQ;simp only[EV,ai,mmN,mn];refine dP (m:=1001) (n:=l.length-1) (st:=λi=>[sl bT (iG l i),.i64 ((iG l i).length:Int),.i64 (i:Int)]) (fin:=some [sl bT (dY l)]) (λi self hi=>?_) (λself=>?_) (by omega)
 .have h1:=ew (l:=l) (i:=i+1) (by omega);have h2:=ew (l:=l) (i:=i/2) (by omega);unfold Hw;simp only[fN,T8 (show i<1000000 by omega),aS h1 (bS _),aJ h1,bZ,aS h2 (bS _),aJ h2,qC,bsC,mQ,EV,ai,aa,bi hi,
   fh (f:=bT) (l:=iG l i) (k:=[⟨nthI l (i+1),nthI l (i/2)⟩]) (bytes:=16) (z:=2) (by rw[mH];simp;omega) jz,up1 (show i<1000000000 by omega),<-xp]
 .unfold Hw;simp only[EV,aa,bK];unfold PM;simp only[bF,EV];rfl
def K5 (l:List Int):RF.ev .sub [sl bT (dY l),.v (.int .i64 0),.v (.int .i64 ((dY l).length:Int))]=some (sl bT (dY l)):=bF
def nQ:RF.ev .agg [.i64 0,.i64 0,.sl [],.i64 0,.sl [],.sl [],.sl [],.sl [],.sl [],.sl [],.sl [],.sl []]=some (KH zKH):=rfl
section
variable {c:Clock}{g:List Pt}(h:bx c)(hn:aX c.now)(hg:okF g){hp:List Int}(pm:hp.Perm (g.map Pt.id))
include h hn hg pm
theorem T9:Ans D 183 [CL c,F g,sl I1 hp] (mU g c hp):=by
 have hl:hp.length<=1000:=by rw[pm.length_eq,ai];have:=hg.1;omega
 have m2:=phi (EW h hn hg (Aa hg pm));unfold eC at m2;unfold mU oV;refine am ?_;unfold ZX;cases hr:renewG g (dY hp) c with
 |none=>
  rw[hr] at m2;simp[db,aO,phi (adt hl),m2,EV,km,g18,nQ]
 |some d=>
  rw[hr] at m2;simp only[ax,db,aO,phi (adt hl),m2,EV,og,az,aE,aq,aw,NU]
theorem Ua:Ans D 191 [CL c,F g,sl I1 hp] (mU g c hp):=by
 have hl:hp.length<=1000:=by rw[pm.length_eq,ai];have:=hg.1;omega
 have hE:=Aa hg pm;have m2:=phi (EU h hn hg ⟨hE.ok,hE.low,hE.high⟩ (by have:=hE.len;omega));unfold eC at m2;unfold mU oV;refine am ?_;unfold Z1;cases hr:renewG g (dY hp) c with
 |none=>
  rw[hr] at m2;simp[db,aO,phi (RU hl),K5,m2,EV,km,g18,nQ]
 |some d=>
  rw[hr] at m2;simp only[ax,db,aO,phi (RU hl),ai,K5,m2,EV,og,az,aE,aq,aw,NU]
end
section
variable {l:List Pt}{t:Rt}(h:okF l)(ht:aX t)
include h ht
theorem Ea {N:Nat}{f0:JT}{e0 e1 e2 e3 e6:PV}{H:Nat}(hH:H<=1000)(hf:∀hq:List Int,hq.length=H->f0 [sl I1 hq]=some [sl I1 hq]):∀(r i m:Nat) (hp:List Int),H<=r+i->r<m->i<H->hp.length=H->(∀x∈hp,inF l x=true)->hp.Nodup->
  cS (aY D) N uj [f0] [e0,e1,e2,e3,F l,R t,e6,.i64 (H:Int)] m [.i64 (i:Int),sl I1 hp]=some [sl I1 (iP t l r hp i)]
 |0,i,m,hp,hi,hm,hiH,hl,hin,hnd=>by omega
 |r+1,i,m,hp,hi,hm,hiH,hl,hin,hnd=>by
  obtain⟨m,rfl⟩:∃m',m=m'+1:=⟨m-1,by omega⟩;have hk:=JL (t:=t) (l:=l) hp i;have ki:=Rm (t:=t) (l:=l) hp i;obtain⟨a,ha⟩:∃a,hp[i]?=some a:=⟨hp[i],ah _⟩;obtain⟨b,hb⟩:∃b,hp[nxtL t l hp i]?=some b:=⟨hp[nxtL t l hp i]'(by omega),ah _⟩;have E:iP t l (r+1) hp i=if nxtL t l hp i=i then hp else iP t l r (ir hp i (nxtL t l hp i) a b) (nxtL t l hp i):=by rw[iP,ha,hb]
  have pm:=lO ha hb;have ih:=λq:¬nxtL t l hp i=i=>Ea (N:=N) (f0:=f0) (e0:=e0) (e1:=e1) (e2:=e2) (e3:=e3) (e6:=e6) (H:=H) hH hf r (nxtL t l hp i) m (ir hp i (nxtL t l hp i) a b) (by omega) (by omega) (by omega) (by rw[pm.length_eq];exact hl) (λx hx=>hin x (pm.mem_iff.1 hx)) (pm.nodup_iff.2 hnd);have im:∀(j:Nat) (y:Int),hp[j]?=some y->inF l y=true:=λj y hy=>hin y (ay hy);have w1:IntKind.i64.wrap (2*(i:Int))=((2*i:Nat):Int):=by rw[bV (by omega) (by omega)];omega
  have u1:=up1 (show 2*i<1000000000 by omega)
  have u2:=up1 (show 2*i+1<1000000000 by omega)
  have s0:RF.ev .sub [sl I1 hp,.v (.int .i64 0),.v (.int .i64 (H:Int))]=some (sl I1 hp):=by rw[<-hl];exact bF
  rw[E,bc];have last:∀(v0 v1 v2 v3 v4 v5 v6 v7:PV) (k:Nat),nA t l hp i=k->k<H->den (aY D) N HI [f0,λvs=>cS (aY D) N uj [f0] [e0,e1,e2,e3,F l,R t,e6,.i64 (H:Int)] m vs] [e0,e1,e2,e3,F l,R t,e6,.i64 (H:Int),.i64 (i:Int),sl I1 hp,v0,v1,v2,v3,v4,v5,v6,v7,.i64 (k:Int)]=some [sl I1 (if nxtL t l hp i=i then hp else iP t l r (ir hp i (nxtL t l hp i) a b) (nxtL t l hp i))]:=λv0 v1 v2 v3 v4 v5 v6 v7 k hkk hkH=>by
   obtain⟨x,hx⟩:∃a,hp[k]?=some a:=⟨hp[k]'(by omega),ah _⟩;have en:=nt hkk ha hx;have cm:=phi (Si h ht (im _ _ hx) (im _ _ ha));unfold HI;simp only[EV,ixM hkH,ixM hiH,aJ hx,aJ ha,bZ,cm];by_cases hc:leads t (ptOf l x) (ptOf l a)=true
   .rw[ad hc] at en;have hne:¬nxtL t l hp i=i:=by omega
    have hb':=hb;rw[en,hx] at hb';cases hb';rw[ac hne,<-ih hne,hc,en];have s1:=dQ (l:=hp) (i:=i) (by omega) b;have s2:RF.ev (.set 0) [sl I1 (hp.set i b),.v (.int .i64 (k:Int)),.v (.int .i64 a)]=some (sl I1 (ir hp i k a b)):=dQ (by rw[aH];omega) a;simp[EV,ixM hkH,bZ,s1,s2]
   .rw[ac hc] at en;have hc:leads t (ptOf l x) (ptOf l a)=false:=by simpa using hc
    rw[ad en,hc];simp only[bI,aA,EV,s0]
  by_cases h1:2*i+1<H
  rotate_left
  .have:nxtL t l hp i=i:=nn (kn (aZ (by omega))) (aZ (by omega));rw[ad this];unfold uj;simp only[bf,aT,EV,w1,u1,aa];rw[ac (by omega)];exact hf hp hl
  .obtain⟨y,hy⟩:∃a,hp[2*i+1]?=some a:=⟨hp[2*i+1]'(by omega),ah _⟩;generalize hkk:uj=kk at ih;subst hkk;unfold uj;simp only[bf,aT,EV,w1,u1,u2,aa];rw[ad (by omega)];by_cases h2:2*i+1+1<H
   .obtain⟨z,hz⟩:∃a,hp[2*i+1+1]?=some a:=⟨hp[2*i+1+1]'(by omega),ah _⟩;have cm:=phi (Si h ht (im _ _ hz) (im _ _ hy));have ek:=kt (t:=t) (l:=l) hy hz;rw[ad (by omega)];simp only[EV,ixM h1,ixM h2,aJ hy,aJ hz,bZ,cm,ax,u2];unfold HJ;simp only[EV,u2];by_cases hc:leads t (ptOf l z) (ptOf l y)=true
    .rw[ad hc] at ek|-;exact last _ _ _ _ _ _ _ _ _ ek h2
    .rw[ac hc] at ek|-;exact last _ _ _ _ _ _ _ _ _ ek h1
   .rw[ac (by omega)];unfold HJ;simp only[EV,aq,aw];exact last _ _ _ _ _ _ _ _ _ (kn (aZ (by omega))) h1
theorem ah2 {hp:List Int}{i:Nat}(hi:i<hp.length)(hH:hp.length<=900)(hin:∀x∈hp,inF l x=true)(hnd:hp.Nodup):Ans D 284 [F l,R t,sl I1 hp,.i64 (i:Int)] [sl I1 (iP t l hp.length hp i)]:=by
 refine an ⟨1001,?_⟩;unfold aaX;simp[aO,bU,gy (l:=hp) (f:=I1) (bytes:=8) (z:=1) (by omega) bS,EV];refine Ea h ht (N:=1001) (H:=hp.length) (by omega) (λhq hl=>?_) hp.length i 1001 hp (by omega) (by omega) hi rfl hin hnd;have s0:=bF (f:=I1) (l:=hq);rw[hl] at s0;unfold PU;simp only[EV,s0]
theorem adu {hp:List Int}{i:Nat}(hi:i<hp.length)(hH:hp.length<=900)(hin:∀x∈hp,inF l x=true)(hnd:hp.Nodup):Ans D 200 [F l,R t,sl I1 hp,.i64 (i:Int)] [sl I1 (oT t l hp i)]:=by
 obtain⟨v,hv⟩:∃a,hp[i]?=some a:=⟨hp[i],ah _⟩;obtain⟨p1,p2⟩:=wK (t:=t) (l:=l) (i+1) hp i v hv;have pm:=oR (t:=t) (l:=l) (i+1) hp i;have m1:=phi (Yd h ht hi hH hin);rw[<-zr] at m1;have m2:=phi (So (pm.nodup_iff.2 hnd) (by rw[pm.length_eq];omega) p1);have m3:=phi (ah2 h ht (i:=(ea t l (i+1) hp i).2) (by have:=bb p1;exact this) (by rw[pm.length_eq];omega) (λx hx=>hin x (pm.mem_iff.1 hx)) (pm.nodup_iff.2 hnd));have s0:=bF (f:=I1) (l:=oT t l hp i);rw[pm.length_eq] at m3;refine am ?_;unfold Z5;unfold oT at s0|-;simp[aO,bU,aS hv (bS _),aJ hv,bZ,m1,m2,m3,s0,EV]
end
def jt:RF.ev .agg [.sl []]=some (F []):=rfl
def Nu {l:List Pt}{id:Int}(h:okF l)(hn:∀q∈l,q.id≠id):∃P:Nat,LB l id P/\ Ans D 271 [F l,.i64 id] [.i64 (P:Int),.bool false]:=by
 obtain⟨P,hL,h2,h1⟩:=rE (e0:=F l) (id:=id) h.2.2 (by have:=h.1;omega);have e1:decide (0<=pos l id)=false:=aj (by rw[zR hn];omega);refine⟨P,hL,an ⟨1001,?_⟩⟩;unfold SI;simp[aO,b8,EV];refine(h1 _ xQ [] rfl).trans ?_;simp[xQ,EV,e1]
def VM (l:List Pt)(id:Int):∃n:Int,Ans D 281 [F l,.i64 id] [.i64 n,.i64 (dw l id)]/\(dw l id=0->n=pos l id):=by
 have h0:=phi (vr l);unfold dw;by_cases h:eO l=0
 .rw[h] at h0;have hl:=eu.1 h;rcases pos_cases l id with⟨e,hn⟩|⟨i,p,hp,he,e⟩
  .obtain⟨P,_,hP⟩:=Nu hl hn;refine⟨0,an ⟨1,?_⟩,by simp[h,e]⟩;unfold Mu;simp[aO,EV,h0,phi hP,h,e]
  .subst he;refine⟨i,?_,by simp[e]⟩;have:=Xx hl hp
   grind
 .refine⟨0,an ⟨1,?_⟩,by simp[h]⟩;unfold Mu;simp[aO,EV,h0,h]
def ah3 {l:List Pt}{i:Nat}(hi:i<l.length)(hl:l.length<=1000):Ans D 282 [.sl [],.i64 (i:Int),.i64 ((i+1:Nat):Int),sl row l] [sl row (l.eraseIdx i),.sl []]:=by
 have h1:=eS hi;have ne:decide ((i:Int)=((i+1:Nat):Int))=false:=aj (by omega);have ap:(l.eraseIdx i++l.drop (l.length-1)).length=l.length:=by rw[aB,h1,bu];omega
 have bs:RF.ev .bnd [.v (.int .i64 ((i:Int)+((l.length-(i+1):Nat):Int))),.v (.int .i64 (l.length:Int))]=some (.i64 ((i:Int)+((l.length-(i+1):Nat):Int))):=by rw[jO,ad ⟨by omega,by omega⟩]
 refine am ?_;unfold aaV;simp only[EV,ai,kP (aC l.length),kP (show i+1<=l.length by omega),kP (show i<=i+1 by omega),kP (show i<=l.length by omega),ne,aq,aw,dl1 (f:=row) hi,dl2 (f:=row) bY hi hl,ap,bu,bs,dl3 (f:=row) [KP.z,KP.z,KP.z] hi,dl4 (f:=row) [KP.z,KP.z,KP.z] hi]
def ah4 {l:List Pt}{P:Nat}(p:Pt)(hP:P<=l.length)(hl:l.length<=1000):Ans D 272 [.sl [],.i64 (P:Int),sl row [p],sl row l] [sl row (l.take P++p::l.drop P),.sl []]:=by
 have h0:D.T 272=none:=by kernel_rfl
 refine Vy h0 ?_;show JB 3 272 272 [.sl [],.v (.int .i64 (P:Int)),.sl [row p],.sl (l.map row)]=_
 unfold JB;simp only[ai];rw[ad ⟨by omega,by omega,by omega,rfl⟩,aG];simp
def Nv (l:List Pt)(id:Int):Ans D 194 [F l,.i64 id] [F (takeF l id),.i64 (dw l id)]:=by
 obtain⟨n,hn,hp⟩:=VM l id;refine am ?_;unfold Z3 takeF;by_cases h:dw l id=0
 .obtain⟨h1,h2,i,p,q1,q2,q3⟩:=fX h;have hi:=aN q1;have h64:=h1.1;rw[h] at hn;rw[hp h,q3] at hn;have e:=zJ h1.2.2 q1;rw[q2] at e;have s1:=bF (f:=row) (l:=l.eraseIdx i);rw[ad h,<-e,h];simp only[ax,aO,phi hn,EV,az,aE,aq,aw,b8,phi (d67 (l:=l) (by omega)),up1 (show i<1000000000 by omega),phi (ah3 hi (by omega)),ai,s1,vF]
 .rw[ac h];simp[ax,aO,phi hn,EV,h,jt]
def Nw (l:List Pt)(p:Pt):Ans D 181 [F l,PP p] [F (putF l p),.i64 (dO l p)]:=by
 have m1:=phi (vr l);have m2:=phi (K9 p);refine am ?_;unfold ZW putF;by_cases h:eO l=0
 rotate_left
 .have e:dO l p=eO l:=ac h;rw[e,ac h];simp[ax,aO,bz,m1,EV,h,jt]
 rw[h] at m1;cases hp:p.ok with
 |false=>
  rw[hp,show okE false=8 from rfl] at m2
  have e:dO l p=8:=by unfold dO;rw[ad h,hp];rfl
  rw[e,ac (by decide)];simp[ax,aO,bz,m1,m2,EV,jt]
 |true=>
  rw[hp,show okE true=0 from rfl] at m2
  have hl:=eu.1 h;have h64:=hl.1;rcases pos_cases l p.id with⟨e,hn⟩|⟨i,q,hq,he,e⟩
  .obtain⟨P,hL,hP⟩:=Nu hl hn;by_cases h4:l.length=64
   .have e:dO l p=18:=by unfold dO;rw[ad h,ad hp,ac (by omega),ad h4]
    rw[e,ac (by decide)];simp[ax,aO,bz,m1,m2,EV,jt,dl,phi hP,b8,h4]
   .have e:dO l p=0:=by unfold dO;rw[ad h,ad hp,ac (by omega),ac h4]
    have s1:=bF (f:=row) (l:=iM p l);have e4:decide ((l.length:Int)=64)=false:=aj (by omega);rw[e,ad rfl];simp only[ax,aO,bz,m1,m2,EV,az,aE,aq,aw,dl,phi hP,b8,ai,e4,phi (d67 (l:=l) (by omega)),bsP,vA,phi (ah4 p hL.1 (by omega)),JK hL hn,s1,vF]
  .have hP:=Xw hl hq;rw[he] at hP;have e:dO l p=14:=by unfold dO;rw[ad h,ad hp,ad (by rw[e];omega)]
   rw[e,ac (by decide)];simp[ax,aO,bz,m1,m2,EV,jt,dl,phi hP]
def Ny (l:List Pt)(p:Pt):Ans D 202 [F l,PP p] [F (chgF l p),.i64 (eM l p)]:=by
 have m1:=phi (vr l);have m2:=phi (K9 p);refine am ?_;unfold Z7 chgF;by_cases h:eO l=0
 rotate_left
 .have e:eM l p=eO l:=ac h;rw[e,ac h];simp[ax,aO,bz,m1,EV,h,jt]
 rw[h] at m1;cases hp:p.ok with
 |false=>
  rw[hp,show okE false=8 from rfl] at m2
  have e:eM l p=8:=by unfold eM;rw[ad h,hp];rfl
  rw[e,ac (by decide)];simp[ax,aO,bz,m1,m2,EV,jt]
 |true=>
  rw[hp,show okE true=0 from rfl] at m2
  obtain⟨n,hn,hq⟩:=VM l p.id;have et:eM l p=dw l p.id:=by unfold eM dw;rw[ad h,ad hp,ad h]
  rw[et];by_cases h0:dw l p.id=0
  .obtain⟨h1,h2,i,q,q1,q2,q3⟩:=fX h0;have hi:=aN q1;have h64:=h1.1;rw[h0] at hn;rw[hq h0,q3] at hn;have st:RF.ev (.set 0) [sl row l,.v (.int .i64 (i:Int)),PP p]=some (sl row (l.set i p)):=by
    have hs:lE (row q) 0 (row p)=row p:=rfl;rw[qY,ad (by omega),aG,aW,q1];simp only[cf,show(PP p).cells=row p from rfl,show(row p).length=3 from rfl,show(row q).length=3 from rfl]
    simp[hs,jZ]
   have s1:=bF (f:=row) (l:=l.set i p);rw[aH] at s1;rw[h0,ad rfl,q3,aG];simp only[ax,aO,bz,m1,m2,EV,az,aE,aq,aw,dl,phi hn,b8,ai,phi (d67 (l:=l) (by omega)),ixM hi,st,s1,vF]
  .rw[ac h0];simp[ax,aO,bz,m1,m2,EV,dl,phi hn,h0,jt]
def Nz {l:List Pt}{p:Pt}(h:l.length<=1000):RF.ev (.app 24 3) [sl row l,.v (.int .i64 (l.length:Int)),sl row [p]]=some (sl row (l++[p])):=fh (k:=[p]) (by simp;omega) bY
def ah5 {l:List Pt}(hl:l.length<=1000)(id:Int):Ans D 283 [F l,.i64 id] [F (l.filter (iN id))]:=by
 have e0:([.sl [],.v (.int .i64 0),.v (.int .i64 0)]:List PV)=[sl row ((l.take 0).filter (iN id)),.i64 (((l.take 0).filter (iN id)).length:Int),.i64 ((0:Nat):Int)]:=rfl;refine an ⟨1001,?_⟩;unfold aaW;simp only[ax,aO,EV];rw[e0];refine dP (m:=1001) (n:=l.length) (st:=λi=>[sl row ((l.take i).filter (iN id)),.i64 (((l.take i).filter (iN id)).length:Int),.i64 (i:Int)]) (fin:=some [F (l.filter (iN id))]) (λi self hi=>?_) (λself=>?_) (by omega)
 .obtain⟨q,hq⟩:∃q,l[i]?=some q:=⟨l[i],ah _⟩;have hf:=eZ (iN id) (l.take i);rw[aK] at hf;have e:(l.take (i+1)).filter (iN id)=if q.id=id then(l.take i).filter (iN id) else(l.take i).filter (iN id)++[q]:=by
   rw[cH,hq,jv];by_cases c:q.id=id<;>simp[iN,c]
  rw[e];unfold HH;simp only[ax,b8,EV,ai,aa,bi hi,aS hq (bY q),aJ hq,pP,aF,ak];by_cases c:q.id=id
  .rw[ac (by simpa using c),ad c]
   simp only[EV,HG,up1 (show i<1000000000 by omega)]
  .rw[ad (by simpa using c),ac c]
   simp only[ax,b8,aS hq (bY q),aJ hq,gr,bsP,vA,Nz (p:=q) (show((l.take i).filter (iN id)).length<=1000 by omega),EV,ai,HG,up1 (show i<1000000000 by omega)]
 .have s1:=bF (f:=row) (l:=l.filter (iN id));unfold HH;simp only[ax,b8,EV,ai,aa,bK,cW,PT,s1,vF]
def NA (l:List Pt)(id:Int):Ans D 198 [F l,.i64 id] [F (takeF l id),.i64 (dw l id)]:=by
 have m1:=phi (Lk l);refine am ?_;unfold Z4 takeF;by_cases h:eO l=0
 rotate_left
 .have e:dw l id=eO l:=ac h;rw[e,ac h];simp[ax,aO,m1,EV,h,jt]
 have h64:=(eu.1 h).1;rw[h] at m1;by_cases h2:0<=pos l id
 .have e:dw l id=0:=by unfold dw;rw[ad h,ad h2]
  rw[e,ad rfl];have n0:decide (pos l id<0)=false:=aj (by omega);simp only[ax,aO,m1,EV,az,aE,aq,aw,phi (me (l:=l) (by omega) id),n0,phi (ah5 (l:=l) (by omega) id)]
 .have e:dw l id=6:=by unfold dw;rw[ad h,ac h2]
  rw[e,ac (by decide)];have n0:decide (pos l id<0)=true:=au (by omega);simp only[ax,aO,m1,EV,az,aE,aq,aw,aA,phi (me (l:=l) (by omega) id),n0,jt]
def NB (l:List Pt)(p:Pt):Ans D 205 [F l,PP p] [F (chgF l p),.i64 (eM l p)]:=by
 have m1:=phi (Lk l);have m2:=phi (Rx p);refine am ?_;unfold Z8 chgF;by_cases h:eO l=0
 rotate_left
 .have e:eM l p=eO l:=ac h;rw[e,ac h];simp[ax,aO,bz,m1,EV,h,jt]
 have h64:=(eu.1 h).1;rw[h] at m1;cases hp:p.ok with
 |false=>
  rw[hp,show okE false=8 from rfl] at m2
  have e:eM l p=8:=by unfold eM;rw[ad h,hp];rfl
  rw[e,ac (by decide)];simp[ax,aO,bz,m1,m2,EV,jt]
 |true=>
  rw[hp,show okE true=0 from rfl] at m2
  have m3:=phi (me (l:=l) (by omega) p.id);rcases pos_cases l p.id with⟨e,hn⟩|⟨i,q,q1,he,e⟩
  .have e':eM l p=6:=by unfold eM;rw[ad h,ad hp,ac (by omega)]
   rw[e',ac (by decide)];rw[e] at m3;simp[ax,aO,bz,m1,m2,m3,EV,jt,dl]
  .have hi:=aN q1;have e':eM l p=0:=by unfold eM;rw[ad h,ad hp,ad (by omega)]
   have st:RF.ev (.set 0) [sl row l,.v (.int .i64 (i:Int)),PP p]=some (sl row (l.set i p)):=by
    have hs:lE (row q) 0 (row p)=row p:=rfl;rw[qY,ad (by omega),aG,aW,q1];simp only[cf,show(PP p).cells=row p from rfl,show(row p).length=3 from rfl,show(row q).length=3 from rfl]
    simp[hs,jZ]
   have s1:=bF (f:=row) (l:=l.set i p);rw[aH] at s1;have n0:decide (((i:Nat):Int)<0)=false:=aj (by omega);rw[e',ad rfl,e,aG];rw[e] at m3;simp only[ax,aO,bz,m1,m2,m3,EV,az,aE,aq,aw,dl,n0,phi (R8 (l:=l) (by omega)),b8,ai,ixM hi,st,s1,vF]
def ky (p:Pt)(l:List Pt)(P i:Nat):List Pt:=if P<i then l.take P++p::(l.take i).drop P else l.take i
def JS {p:Pt}{l:List Pt}{P i:Nat}(h:P<=l.length)(hi:i<=l.length):(ky p l P i).length<=i+1:=by
 unfold ky
 grind
def NC (l:List Pt)(p:Pt):Ans D 190 [F l,PP p] [F (putF l p),.i64 (dO l p)]:=by
 have m1:=phi (Lk l);have m2:=phi (Rx p);refine an ⟨1001,?_⟩;unfold Z0 putF;by_cases h:eO l=0
 rotate_left
 .have e:dO l p=eO l:=ac h;rw[e,ac h];simp[ax,aO,bz,m1,EV,h,jt]
 have hl:=eu.1 h;have h64:=hl.1;rw[h] at m1;cases hp:p.ok with
 |false=>
  rw[hp,show okE false=8 from rfl] at m2
  have e:dO l p=8:=by unfold dO;rw[ad h,hp];rfl
  rw[e,ac (by decide)];simp[ax,aO,bz,m1,m2,EV,jt]
 |true=>
  rw[hp,show okE true=0 from rfl] at m2
  have m3:=phi (me (l:=l) (by omega) p.id);rcases pos_cases l p.id with⟨e,hn⟩|⟨i,q,q1,he,e⟩
  rotate_left
  .have e':dO l p=14:=by unfold dO;rw[ad h,ad hp,ad (by omega)]
   have n0:decide (((i:Nat):Int)>=0)=true:=au (by omega);rw[e',ac (by decide)];rw[e] at m3;simp only[ax,aO,bz,m1,m2,m3,EV,az,aE,aq,aw,dl,n0,aA,jt]
  rw[e] at m3;have n0:decide ((-1:Int)>=0)=false:=rfl;by_cases h4:l.length=64
  .have e':dO l p=18:=by unfold dO;rw[ad h,ad hp,ac (by omega),ad h4]
   rw[e',ac (by decide)];simp only[ax,aO,bz,m1,m2,m3,EV,az,aE,aq,aw,dl,n0,b8,ai,show((l.length:Nat):Int)=64 by omega,aA,jt]
  .have e':dO l p=0:=by unfold dO;rw[ad h,ad hp,ac (by omega),ac h4]
   have e4:decide ((l.length:Int)=64)=false:=aj (by omega);obtain⟨P,hL,_⟩:=Nu hl hn;have hP:=hL.1;have ins:=JK hL hn;rw[e',ad rfl];simp only[ax,aO,bz,m1,m2,m3,EV,az,aE,aq,aw,dl,n0,b8,ai,e4];have e0:([.sl [],.v (.int .i64 0),.v (.bool false),.v (.int .i64 0)]:List PV)=[sl row (ky p l P 0),.i64 ((ky p l P 0).length:Int),.bool (decide (P<0)),.i64 ((0:Nat):Int)]:=rfl;rw[e0];refine dP (m:=1001) (n:=l.length) (st:=λi=>[sl row (ky p l P i),.i64 ((ky p l P i).length:Int),.bool (decide (P<i)),.i64 (i:Int)]) (fin:=some [F (iM p l),.i64 0]) (λi self hi=>?_) (λself=>?_) (by omega)
   .obtain⟨q,hq⟩:∃q,l[i]?=some q:=⟨l[i],ah _⟩;have hb:=hL.2 i q hq;have hne:=hn q (ay hq);have hlen:=JS (p:=p) (l:=l) (P:=P) (i:=i) hP (by omega);have tk:l.take (i+1)=l.take i++[q]:=by rw[cH,hq];rfl
    have k3:∀(o:List Pt) (c:Bool) (w a b a1 a2 a3:PV),o.length<=1000->o++[q]=ky p l P (i+1)->c=decide (P<i+1)->den (aY D) 1001 Gz [oC (aY D) 1001 Gy [] [F l,PP p,F l,PP p,.i64 0,.bool false,.i64 0,.bool false,.i64 p.id,.i64 (-1),.bool false,sl row l,.i64 (l.length:Int),.bool false],self] ([F l,PP p,F l,PP p,.i64 0,.bool false,.i64 0,.bool false,.i64 p.id,.i64 (-1),.bool false,sl row l,.i64 (l.length:Int),.bool false]++[sl row (ky p l P i),.i64 ((ky p l P i).length:Int),w,.i64 (i:Int),a1,a2,a3,a,b,sl row o,.i64 (o.length:Int),.bool c])=self [sl row (ky p l P (i+1)),.i64 ((ky p l P (i+1)).length:Int),.bool (decide (P<i+1)),.i64 ((i+1:Nat):Int)]:=λo c w a b a1 a2 a3 ho e1 e2=>by
     unfold Gz;simp only[bf,aT,ax,b8,aS hq (bY q),aJ hq,gr,bsP,vA,Nz (p:=q) ho,EV,ai,up1 (show i<1000000000 by omega),e1,e2]
    simp only[bf,aT] at k3;unfold GB;simp only[ax,b8,EV,ai,aa,bi hi];by_cases c1:P<i
    .have d1:decide (P<i)=true:=au c1;simp only[d1,aE,aq,aw,EV];unfold GA;simp only[EV,aq,aw];refine k3 _ _ _ _ _ _ _ _ (by omega) ?_ (by rw[au (by omega)]);unfold ky;rw[ad c1,ad (by omega),tk,ph (by simp;omega)];simp
    .have d1:decide (P<i)=false:=aj c1;simp only[d1,bI,aA,ax,b8,aS hq (bY q),aJ hq,pP,EV,dl];unfold GA;simp only[EV,aa];by_cases c2:i=P
     .subst c2;have:=hb.2 (aC _);rw[ad (by omega)];simp only[bsP,vA,Nz (l:=ky p l i i) (p:=p) (by omega),EV,ai];refine k3 _ _ _ _ _ _ _ _ (by simp;omega) ?_ (by rw[au (by omega)]);unfold ky;rw[ac c1,ad (by omega),tk,ia (by rw[aK];omega)];simp
     .have:=hb.1 (by omega);rw[ac (by omega)];refine k3 _ _ _ _ _ _ _ _ (by omega) ?_ (by rw[aj (by omega)]);unfold ky;rw[ac c1,ac (by omega),tk]
   .have hlen:=JS (p:=p) (l:=l) (P:=P) (i:=l.length) hP (aC _);have s1:=bF (f:=row) (l:=iM p l);unfold GB;simp only[ax,b8,EV,ai,aa,bK];unfold Gy;by_cases c1:P<l.length
    .have d1:decide (P<l.length)=true:=au c1;have eo:ky p l P l.length=iM p l:=by unfold ky;rw[ad c1,cW];exact ins
     simp only[d1,aE,aq,aw,EV,eo,Gx,s1,vF]
    .have d1:decide (P<l.length)=false:=aj c1;have eo:ky p l P l.length=l:=by unfold ky;rw[ac c1,cW]
     have eP:P=l.length:=by omega
     subst eP;rw[cW,List.drop_length] at ins;simp only[d1,bI,aA,EV,eo,bsP,vA,Nz (l:=l) (p:=p) (by omega),ins,ai,Gx,s1,vF]
def fO {g:List Pt}(hg:okF g){hp:List Int}(pm:hp.Perm (g.map Pt.id)):(∀x∈hp,inF g x=true)/\ hp.Nodup/\ hp.length<=64:=
 ⟨λx hx=>ey.2 (pm.mem_iff.1 hx),pm.nodup_iff.2 (dD hg.2.2),by rw[pm.length_eq,ai];exact hg.1⟩
def wO (k:KHeap)(p:Pt):KHeap×Int:=if dO k.clock.pts p=0 then oV (putF k.clock.pts p) k.clock (lY k.clock.now (putF k.clock.pts p) (k.heap.length+1) (k.heap++[p.id]) k.heap.length) else(zKH,dO k.clock.pts p)
def sg (k:KHeap)(id:Int):Nat:=(lj (λy=>decide (id=y)) k.heap).toNat
def qZ (k:KHeap)(id:Int):KHeap×Int:=if dw k.clock.pts id=0 then oV (takeF k.clock.pts id) k.clock (if sg k id<k.heap.length-1 then oT k.clock.now (takeF k.clock.pts id) (fy k.heap (sg k id)) (sg k id) else fy k.heap (sg k id)) else(zKH,dw k.clock.pts id)
def wP (k:KHeap)(p:Pt):KHeap×Int:=if eM k.clock.pts p=0 then oV (chgF k.clock.pts p) k.clock (oT k.clock.now (chgF k.clock.pts p) k.heap (sg k p.id)) else(zKH,eM k.clock.pts p)
def adv (x:Int):RF.ev (.bs 1 [KP.z] [0]) [.v (.int .i64 x)]=some (sl I1 [x]):=rfl
section
variable {k:KHeap}(hk:gP k)(hn:aX k.clock.now)
include hk
theorem JU {p:Pt}(he:dO k.clock.pts p=0):(k.heap++[p.id]).Perm ((putF k.clock.pts p).map Pt.id):=by
 have e:putF k.clock.pts p=iM p k.clock.pts:=ad he;rw[e];exact((jK hk.1.2.1 hk.2.1 hk.2.2.1 hk.2.2.2.1).append_right _).trans Dn.symm
include hn
open Classical in
theorem c85 (hchk:Ans D 77 [KH k] [.i64 0])(p:Pt):Ans D 85 [KH k,PP p] [KH (wO k p).1,.i64 (wO k p).2]:=by
 have m1:=phi hchk;have m2:=phi (Nw k.clock.pts p);have hp:=jK hk.1.2.1 hk.2.1 hk.2.2.1 hk.2.2.2.1;obtain⟨_,_,hlen⟩:=fO hk.1.2.1 hp;refine an ⟨1001,?_⟩;unfold k85 wO;by_cases he:dO k.clock.pts p=0
 rotate_left
 .rw[ac he];simp[ax,dz,bz,aO,f7,m1,m2,EV,he,nQ]
 .obtain⟨o1,o2,o3⟩:=fK he;have pm:=JU hk he;obtain⟨f1,f2,f3⟩:=fO o2 pm;rw[he] at m2;rw[ad he];generalize putF k.clock.pts p=g at*;have ap:=fh (f:=I1) (l:=k.heap) (k:=[p.id]) (bytes:=8) (z:=1) (by simp;omega) bS;have dn:=qO (n:=k.heap.length) (by omega);simp only[ax,dz,bz,aO,f7,vO,m1,m2,EV,az,aE,aq,aw,Af,phi (ml (l:=k.heap) (by omega)),dl,adv,kV,ap,ai,aB,aQ,dn];have up:=λf0 e0 e1 e2 e3 e4 e5 e6 e7 e8 e10 e11 e12 e13 e14 e15 e16 e17 e20=>adp (l:=g) (t:=k.clock.now) o2 hn hk.1.1 (N:=1001) (f0:=f0) (e0:=e0) (e1:=e1) (e2:=e2) (e3:=e3) (e4:=e4) (e5:=e5) (e6:=e6) (e7:=e7) (e8:=e8) (e10:=e10) (e11:=e11) (e12:=e12) (e13:=e13) (e14:=e14) (e15:=e15) (e16:=e16) (e17:=e17) (e20:=e20) (tl:=[]) (H:=k.heap.length+1) (by omega) (k.heap.length+1) k.heap.length 1001 (k.heap++[p.id]) (by omega) (by omega) (by omega) (by simp) f1 f2;simp only[aR] at up;refine(up _ _ _ _ _ _ _ _ _ _ _ _ _ _ _ _ _ _ _).trans ?_;have pr:=oR (t:=k.clock.now) (l:=g) (k.heap.length+1) (k.heap++[p.id]) k.heap.length;have m3:=phi (T9 hk.1 hn o2 (pr.trans pm));have s0:=bF (f:=I1) (l:=(ea k.clock.now g (k.heap.length+1) (k.heap++[p.id]) k.heap.length).1);rw[pr.length_eq,aB,aQ] at s0;rw[<-zr];unfold mU at m3;unfold Vb;simp only[EV,ax,pKH,s0,m3,dz]
theorem c89 (hchk:Ans D 81 [KH k] [.i64 0])(p:Pt):Ans D 89 [KH k,PP p] [KH (wO k p).1,.i64 (wO k p).2]:=by
 have m1:=phi hchk;have m2:=phi (NC k.clock.pts p);have hp:=jK hk.1.2.1 hk.2.1 hk.2.2.1 hk.2.2.2.1;obtain⟨_,_,hlen⟩:=fO hk.1.2.1 hp;refine an ⟨1001,?_⟩;unfold k89 wO;by_cases he:dO k.clock.pts p=0
 rotate_left
 .rw[ac he];simp[ax,dz,bz,aO,f7,m1,m2,EV,he,nQ]
 .obtain⟨o1,o2,o3⟩:=fK he;have pm:=JU hk he;obtain⟨f1,f2,f3⟩:=fO o2 pm;rw[he] at m2;rw[ad he];generalize putF k.clock.pts p=g at*;have ap:=fh (f:=I1) (l:=k.heap) (k:=[p.id]) (bytes:=8) (z:=1) (by simp;omega) bS;have dn:=qO (n:=k.heap.length) (by omega);have s0:=bF (f:=I1) (l:=k.heap++[p.id]);rw[aB,aQ] at s0;have m4:=phi (Yd (l:=g) (t:=k.clock.now) o2 hn (hp:=k.heap++[p.id]) (i:=k.heap.length) (by simp) (by omega) f1);have pr:=qf (t:=k.clock.now) (l:=g) (k.heap.length+1) (k.heap++[p.id]) k.heap.length;have m3:=phi (Ua hk.1 hn o2 (pr.trans pm));unfold mU at m3;simp only[ax,dz,bz,aO,f7,vO,m1,m2,EV,az,aE,aq,aw,Af,gy (l:=k.heap) (f:=I1) (bytes:=8) (z:=1) (by omega) bS,dl,adv,kV,ap,ai,aB,aQ,dn,pKH,s0,m4,m3,qS]
end
def Rr {hp:List Int}{i:Nat}{z:Int}(hi:i<hp.length)(hz:hp[hp.length-1]?=some z):hp.set i z=fy hp i++[z]:=by
 have e:fy hp i=(hp.set i z).take (hp.length-1):=by unfold fy;rw[hz]
 have h3:=cH (l:=hp.set i z) (i:=hp.length-1)
 grind
def Eb {hp:List Int}{i:Nat}(hi:i<hp.length):(fy hp i).length=hp.length-1:=by
 have:=(Cd (hp:=hp) (i:=i) (ah hi)).length_eq
 grind
section
variable {k:KHeap}(hk:gP k)
include hk
theorem sj {id:Int}(hi:id∈k.clock.pts.map Pt.id):∃m:Nat,k.heap[m]?=some id/\ sg k id=m/\ lj (λy=>decide (id=y)) k.heap=(m:Int):=by
 have hp:=jK hk.1.2.1 hk.2.1 hk.2.2.1 hk.2.2.2.1;obtain⟨m,hm⟩:=aL.1 (hp.mem_iff.2 hi);have e:=aeb hk.2.2.2.1 hm;exact⟨m,hm,by unfold sg;rw[e];simp,e⟩
theorem Ds {id:Int}{m:Nat}(he:dw k.clock.pts id=0)(hm:k.heap[m]?=some id):(fy k.heap m).Perm ((takeF k.clock.pts id).map Pt.id):=by
 have hp:=jK hk.1.2.1 hk.2.1 hk.2.2.1 hk.2.2.2.1;have e:takeF k.clock.pts id=k.clock.pts.filter (iN id):=ad he;obtain⟨_,_,i,p,q1,q2,_⟩:=fX he;have h1:=Cd hm;have h2:=T3 hk.1.2.1.2.2 q1 q2;rw[e];exact(List.perm_append_right_iff [id]).1 ((h1.trans hp).trans h2.symm)
theorem JV {p:Pt}(he:eM k.clock.pts p=0):k.heap.Perm ((chgF k.clock.pts p).map Pt.id):=by
 have hp:=jK hk.1.2.1 hk.2.1 hk.2.2.1 hk.2.2.2.1;have e:chgF k.clock.pts p=k.clock.pts.set (pos k.clock.pts p.id).toNat p:=ad he;obtain⟨_,_,i,q,q1,q2,q3⟩:=js he;rw[e,q3,aG,Dm q1 q2];exact hp
variable (hn:aX k.clock.now)
include hn
open Classical in
theorem c93 (hchk:Ans D 77 [KH k] [.i64 0])(id:Int):Ans D 93 [KH k,.i64 id] [KH (qZ k id).1,.i64 (qZ k id).2]:=by
 have m1:=phi hchk;have m2:=phi (Nv k.clock.pts id);have hp:=jK hk.1.2.1 hk.2.1 hk.2.2.1 hk.2.2.2.1;obtain⟨_,_,hlen⟩:=fO hk.1.2.1 hp;refine an ⟨1001,?_⟩;unfold k93 qZ;by_cases he:dw k.clock.pts id=0
 rotate_left
 .rw[ac he];simp[ax,dz,aO,f7,m1,m2,EV,he,nQ]
 .obtain⟨o1,o2,i',p',t1,t2,_⟩:=fX he;obtain⟨m,hm,pl,ix⟩:=sj hk (id:=id) (bh.2 ⟨p',ay t1,t2⟩);have pm:=Ds hk he hm;have hml:=bb hm;obtain⟨f1,f2,f3⟩:=fO o2 pm;have c1:=phi (Ff (l:=k.heap) id (by omega));rw[ix] at c1;rw[he] at m2;rw[ad he,pl];generalize takeF k.clock.pts id=g at*;obtain⟨z,hz⟩:∃z,k.heap[k.heap.length-1]?=some z:=⟨k.heap[k.heap.length-1]'(by omega),ah _⟩;have dn:IntKind.i64.wrap ((k.heap.length:Int)-1)=((k.heap.length-1:Nat):Int):=by rw[bV (by omega) (by omega)];omega
  have st:=dQ (l:=k.heap) (i:=m) hml z;rw[Rr hml hz] at st;have tl:=Eb hml;have bd:=kP (show k.heap.length-1<=k.heap.length by omega)
  have s1:=bF (f:=I1) (l:=k.heap);have fl:RF.ev .flat [.v (.int .i64 (m:Int))]=some (.i64 (m:Int)):=rfl;simp only[ax,dz,aO,f7,vO,m1,m2,EV,az,aE,aq,aw,Af,phi (ml (l:=k.heap) (by omega)),ai,s1,c1,fl,dn,ixM (show k.heap.length-1<k.heap.length by omega),aJ hz,bZ,ixM hml,st,bd,aa]
  have fin:∀(hq:List Int) (v0 v1 v2:PV),hq.Perm (fy k.heap m)->∀v3 v4 v5 v6 v7 v8 v9 v10 v11 v12 v13 v14 v15 v16 v17:PV,den (aY D) 1001 Mg [] [v0,v1,KH k,v3,v4,v5,v6,v7,F g,v9,v10,v11,v12,v13,v14,v15,v16,v17,v2,v8,sl I1 (fy k.heap m++[z]),.v (.int .i64 ((k.heap.length-1:Nat):Int)),.v (.bool (decide ((m:Int)<((k.heap.length-1:Nat):Int)))),sl I1 (hq++[z])]=some [KH (oV g k.clock hq).1,.i64 (oV g k.clock hq).2]:=λhq v0 v1 v2 hqp v3 v4 v5 v6 v7 v8 v9 v10 v11 v12 v13 v14 v15 v16 v17=>by
   have m3:=phi (T9 hk.1 hn o2 (hqp.trans pm));unfold mU at m3;have s0:=Ns (hp:=hq) (tl:=[z]);rw[hqp.length_eq,tl] at s0;unfold Mg;simp only[EV,ax,pKH,s0,m3,dz]
  by_cases hlt:m<k.heap.length-1
  rotate_left
  .rw[ac (by omega),ac hlt];exact fin _ _ _ _ (.refl _) _ _ _ _ _ _ _ _ _ _ _ _ _ _ _
  .rw[ad (by omega),ad hlt];refine(adq (l:=g) (t:=k.clock.now) o2 hn hk.1.1 (N:=1001) (tl:=[z]) (H:=k.heap.length-1) (by omega) (m+1) m 1001 (fy k.heap m) (by omega) (by omega) hlt tl f1 f2).trans ?_;obtain⟨r1,r2⟩:=wK (t:=k.clock.now) (l:=g) (m+1) (fy k.heap m) m _ (ah (by omega));have pr:=oR (t:=k.clock.now) (l:=g) (m+1) (fy k.heap m) m;unfold Ve;simp only[EV];refine(ads (l:=g) (t:=k.clock.now) o2 hn hk.1.1 (N:=1001) (by omega) (tl:=[z]) (H:=k.heap.length-1) (by omega) (fy k.heap m).length (ea k.clock.now g (m+1) (fy k.heap m) m).2 1001 (ea k.clock.now g (m+1) (fy k.heap m) m).1 (by omega) (by omega) (by omega) (by rw[pr.length_eq,tl]) (λx hx=>f1 x (pr.mem_iff.1 hx)) (pr.nodup_iff.2 f2)).trans ?_;exact fin (oT k.clock.now g (fy k.heap m) m) _ _ _ nP _ _ _ _ _ _ _ _ _ _ _ _ _ _ _
theorem c97 (hchk:Ans D 81 [KH k] [.i64 0])(id:Int):Ans D 97 [KH k,.i64 id] [KH (qZ k id).1,.i64 (qZ k id).2]:=by
 have m1:=phi hchk;have m2:=phi (NA k.clock.pts id);have hp:=jK hk.1.2.1 hk.2.1 hk.2.2.1 hk.2.2.2.1;obtain⟨_,_,hlen⟩:=fO hk.1.2.1 hp;refine an ⟨1001,?_⟩;unfold k97 qZ;by_cases he:dw k.clock.pts id=0
 rotate_left
 .rw[ac he];simp[ax,dz,aO,f7,m1,m2,EV,he,nQ]
 .obtain⟨o1,o2,i',p',t1,t2,_⟩:=fX he;obtain⟨m,hm,pl,ix⟩:=sj hk (id:=id) (bh.2 ⟨p',ay t1,t2⟩);have pm:=Ds hk he hm;have hml:=bb hm;obtain⟨f1,f2,f3⟩:=fO o2 pm;have c1:=phi (So (l:=k.heap) hk.2.2.2.1 (by omega) hm);rw[he] at m2;rw[ad he,pl];generalize takeF k.clock.pts id=g at*;obtain⟨z,hz⟩:∃z,k.heap[k.heap.length-1]?=some z:=⟨k.heap[k.heap.length-1]'(by omega),ah _⟩;have dn:IntKind.i64.wrap ((k.heap.length:Int)-1)=((k.heap.length-1:Nat):Int):=by rw[bV (by omega) (by omega)];omega
  have tl:=Eb hml;have bd:=kP (show k.heap.length-1<=k.heap.length by omega)
  have ts:=Ur (fr:=k.heap.take (k.heap.length-1)) (k:=k.heap.drop (k.heap.length-1));rw[dN,aK,bH (by omega)] at ts;have ap:=gy (l:=k.heap.take (k.heap.length-1)) (f:=I1) (bytes:=8) (z:=1) (by rw[aK];omega) bS;have lt':(k.heap.take (k.heap.length-1)).length=k.heap.length-1:=by rw[aK];omega
  have et:fy k.heap m=(k.heap.take (k.heap.length-1)).set m z:=by
   unfold fy;rw[hz];exact wZ
  simp only[ax,dz,aO,f7,vO,m1,m2,EV,az,aE,aq,aw,Af,ai,c1,dn,bd,ts,ap,lt',aa];have fin:∀(hq:List Int) (v0 v1:PV),hq.Perm (fy k.heap m)->∀v3 v4 v5 v6 v7 v9 v10 v11 v12 v13 v14 v15 v16 v17 v18 v19 v20 v21:PV,den (aY D) 1001 Mj [] [v0,v1,KH k,v3,v4,v5,v6,v7,F g,v9,v10,v11,v12,v13,v14,v15,v16,v17,v18,v19,v20,v21,sl I1 hq,.v (.int .i64 ((k.heap.length-1:Nat):Int))]=some [KH (oV g k.clock hq).1,.i64 (oV g k.clock hq).2]:=λhq v0 v1 hqp v3 v4 v5 v6 v7 v9 v10 v11 v12 v13 v14 v15 v16 v17 v18 v19 v20 v21=>by
   have m3:=phi (Ua hk.1 hn o2 (hqp.trans pm));unfold mU at m3;have s0:=bF (f:=I1) (l:=hq);rw[hqp.length_eq,tl] at s0;unfold Mj;simp only[EV,ax,pKH,s0,m3,dz,qS]
  by_cases hlt:m<k.heap.length-1
  rotate_left
  .have e1:fy k.heap m=k.heap.take (k.heap.length-1):=by
    rw[et,sF (by omega)]
   rw[ac (by omega),ac hlt,<-e1];exact fin _ _ _ (.refl _) _ _ _ _ _ _ _ _ _ _ _ _ _ _ _ _ _ _
  .rw[ad (by omega),ad hlt];have st:=dQ (l:=k.heap.take (k.heap.length-1)) (i:=m) (by omega) z;rw[<-et] at st;have s0:=bF (f:=I1) (l:=fy k.heap m);rw[tl] at s0;have m4:=phi (adu (l:=g) (t:=k.clock.now) o2 hn (hp:=fy k.heap m) (i:=m) (by omega) (by omega) f1 f2);have fl:RF.ev .flatL [sl I1 (oT k.clock.now g (fy k.heap m) m)]=some (sl I1 (oT k.clock.now g (fy k.heap m) m)):=Ej _;have ln:(oT k.clock.now g (fy k.heap m) m).length=k.heap.length-1:=by rw[nP.length_eq,tl]
   simp only[EV,ax,Af,aS hz (bS _),aJ hz,bZ,ixM hlt,st,vO,s0,m4,fl,ai,ln];exact fin _ _ _ nP _ _ _ _ _ _ _ _ _ _ _ _ _ _ _ _ _ _
open Classical in
theorem ah6 (hchk:Ans D 77 [KH k] [.i64 0])(p:Pt):Ans D 101 [KH k,PP p] [KH (wP k p).1,.i64 (wP k p).2]:=by
 have m1:=phi hchk;have m2:=phi (Ny k.clock.pts p);have hp:=jK hk.1.2.1 hk.2.1 hk.2.2.1 hk.2.2.2.1;obtain⟨_,_,hlen⟩:=fO hk.1.2.1 hp;refine an ⟨1001,?_⟩;unfold Y3 wP;by_cases he:eM k.clock.pts p=0
 rotate_left
 .rw[ac he];simp[ax,dz,bz,aO,f7,m1,m2,EV,he,nQ]
 .obtain⟨o1,o2,i',p',t1,t2,_⟩:=js he;obtain⟨m,hm,pl,ix⟩:=sj hk (id:=p.id) (bh.2 ⟨p',ay t1,t2⟩);have pm:=JV hk he;have hml:=bb hm;obtain⟨f1,f2,f3⟩:=fO o2 pm;have c1:=phi (Ff (l:=k.heap) p.id (by omega));rw[ix] at c1;rw[he] at m2;rw[ad he,pl];generalize chgF k.clock.pts p=g at*;have s1:=bF (f:=I1) (l:=k.heap);have fl:RF.ev .flat [.v (.int .i64 (m:Int))]=some (.i64 (m:Int)):=rfl;simp only[ax,dz,bz,aO,f7,vO,m1,m2,EV,az,aE,aq,aw,Af,phi (ml (l:=k.heap) (by omega)),dl,ai,s1,c1,fl];have up:=λe0 e1 e2 e3 e4 e5 e6 e7 e8 e10 e11 e12 e15 e16 e17 e18 (f0:JT)=>VI (l:=g) (t:=k.clock.now) o2 hn hk.1.1 (N:=1001) (f0:=f0) (e0:=e0) (e1:=e1) (e2:=e2) (e3:=e3) (e4:=e4) (e5:=e5) (e6:=e6) (e7:=e7) (e8:=e8) (e10:=e10) (e11:=e11) (e12:=e12) (e15:=e15) (e16:=e16) (e17:=e17) (e18:=e18) (tl:=[]) (H:=k.heap.length) (by omega) (m+1) m 1001 k.heap (by omega) (by omega) hml rfl f1 f2;simp only[aR] at up;refine(up _ _ _ _ _ _ _ _ _ _ _ _ _ _ _ _ _).trans ?_;obtain⟨r1,r2⟩:=wK (t:=k.clock.now) (l:=g) (m+1) k.heap m _ (ah (by omega));have pr:=oR (t:=k.clock.now) (l:=g) (m+1) k.heap m;unfold N5;simp only[EV];have sk:=λe0 e1 e3 e4 e5 e6 e7 e8 e10 e11 e12 e15 e16 e17 e18 e19 e20=>VK (l:=g) (t:=k.clock.now) o2 hn hk.1.1 (k:=k) (N:=1001) (by omega) (e0:=e0) (e1:=e1) (e3:=e3) (e4:=e4) (e5:=e5) (e6:=e6) (e7:=e7) (e8:=e8) (e10:=e10) (e11:=e11) (e12:=e12) (e15:=e15) (e16:=e16) (e17:=e17) (e18:=e18) (e19:=e19) (e20:=e20) (tl:=[]) (H:=k.heap.length) (by omega) k.heap.length (ea k.clock.now g (m+1) k.heap m).2 1001 (ea k.clock.now g (m+1) k.heap m).1 (by omega) (by omega) (by omega) pr.length_eq (λx hx=>f1 x (pr.mem_iff.1 hx)) (pr.nodup_iff.2 f2) (λhq hqp=>phi (T9 hk.1 hn o2 ((hqp.trans pr).trans pm)));simp only[aR] at sk;exact sk _ _ _ _ _ _ _ _ _ _ _ _ _ _ _ _ _
theorem ah7 (hchk:Ans D 81 [KH k] [.i64 0])(p:Pt):Ans D 105 [KH k,PP p] [KH (wP k p).1,.i64 (wP k p).2]:=by
 have m1:=phi hchk;have m2:=phi (NB k.clock.pts p);have hp:=jK hk.1.2.1 hk.2.1 hk.2.2.1 hk.2.2.2.1;obtain⟨_,_,hlen⟩:=fO hk.1.2.1 hp;refine an ⟨1001,?_⟩;unfold Y7 wP;by_cases he:eM k.clock.pts p=0
 rotate_left
 .rw[ac he];simp[ax,dz,bz,aO,f7,m1,m2,EV,he,nQ]
 .obtain⟨o1,o2,i',p',t1,t2,_⟩:=js he;obtain⟨m,hm,pl,ix⟩:=sj hk (id:=p.id) (bh.2 ⟨p',ay t1,t2⟩);have pm:=JV hk he;have hml:=bb hm;obtain⟨f1,f2,f3⟩:=fO o2 pm;have c1:=phi (So (l:=k.heap) hk.2.2.2.1 (by omega) hm);rw[he] at m2;rw[ad he,pl];generalize chgF k.clock.pts p=g at*;have s1:=bF (f:=I1) (l:=oT k.clock.now g k.heap m);have m4:=phi (adu (l:=g) (t:=k.clock.now) o2 hn (hp:=k.heap) (i:=m) hml (by omega) f1 f2);have m3:=phi (Ua hk.1 hn o2 ((nP (t:=k.clock.now) (l:=g) (h:=k.heap) (i:=m)).trans pm));unfold mU at m3;simp only[ax,dz,bz,aO,f7,vO,pKH,m1,m2,EV,az,aE,aq,aw,Af,dl,ai,c1,m4,s1,m3,qS]
end
end Go.Proofs.YtfghdmmapmdcgaaGreat
namespace Bnd
open Go
section
variable {ld:Nat->Nat->Bool}
def Rs {n:Nat}(L:Lin ld n){root:Int}{l:List (Int×Int)}(C:se ld n root l){i:Nat}(hi:i<n)(hr:root≠(i:Int)):∃j,Below l i j:=by
 obtain⟨C1,C2,C3⟩:=C;obtain⟨x,hx⟩:∃x,l[i]?=some x:=⟨l[i]'(by omega),ah _⟩;obtain⟨a,b,hlo,hhi,_,_⟩:=C3 i x hx;obtain⟨a1,a2,a3⟩:=hlo;obtain⟨b1,b2,b3,b4⟩:=hhi;have led:∀m,a<=m->m<b->m≠i->ld i m=true:=λm m1 m2 m3=>by
  rcases L.total i m hi (by omega) (by omega) with g|g
  .exact g
  .grind
 have top:B8 ld a b i:=⟨a1,b1,led⟩;have far:∀k,ld k i=true->∀m,a<=m->m<b->ld m k=false:=λk hk m m1 m2=>by
  by_cases e:m=i
  .rw[e];exact L.asymm _ _ hk
  .exact L.asymm _ _ (L.trans _ _ _ hk (led m m1 m2 e))
 have up:b<n->ld b i=true->(a=0\/ld (a-1) b=true)->∃j,Below l i j:=λhb hl ha=>by
  obtain⟨y,hy⟩:∃y,l[b]?=some y:=⟨l[b]'(by omega),ah _⟩;obtain⟨c,d,k1,k2,k3,k4⟩:=C3 b y hy;have lo:Df ld b a:=⟨by omega,λj j1 j2=>far b hl j j1 j2,ha⟩;rw[uR k1 lo] at k3;exact⟨b,y,hy,.inl (nN L k3 (.inr ⟨i,rfl,top⟩))⟩
 have dn:0<a->ld (a-1) i=true->(b=n\/ld b (a-1)=true)->∃j,Below l i j:=λha hl hb=>by
  obtain⟨y,hy⟩:∃y,l[a-1]?=some y:=⟨l[a-1]'(by omega),ah _⟩;obtain⟨c,d,k1,k2,k3,k4⟩:=C3 (a-1) y hy;have hi':Dg ld n (a-1) b:=⟨by omega,b2,λj j1 j2=>far (a-1) hl j (by omega) j2,hb⟩;rw[uS k2 hi',show a-1+1=a by omega] at k4
  exact⟨a-1,y,hy,.inr (nN L k4 (.inr ⟨i,rfl,top⟩))⟩
 by_cases h1:a=0
 .by_cases h2:b=n
  .subst h1;subst h2;exact absurd (nN L C1 (.inr ⟨i,rfl,top⟩)) hr
  .exact up (by omega) (b4.resolve_left h2) (.inl h1)
 .have al:=a3.resolve_left h1;by_cases h2:b=n
  .exact dn (by omega) al (.inl h2)
  .have bl:=b4.resolve_left h2;rcases L.total (a-1) b (by omega) (by omega) (by omega) with g|g
   .exact up (by omega) bl (.inr g)
   .exact dn (by omega) al (.inr g)
def Ub {n:Nat}(L:Lin ld n){root:Int}{l:List (Int×Int)}(C:se ld n root l){i:Nat}(hi:i<n)(hr:root=(i:Int)):¬∃j,Below l i j:=by
 rintro⟨j,hj⟩;have hjn:j<n:=by obtain⟨x,hx,_⟩:=hj;have:=(aD.1 hx).1;have:=C.2.1;omega
 have h1:=(pZ L C hj).1;rcases C.1 with⟨_,e⟩|⟨k,e,t1,t2,t3⟩
 .omega
 .have:k=i:=by omega
  subst this;have hne:j≠k:=λe=>by subst e;rw[L.asymm _ _ h1] at h1;cases h1
  have:=t3 j (by omega) hjn hne;rw[L.asymm _ _ h1] at this;cases this
end
end Bnd
namespace Go.Proofs.YtfghdmmapmdcgaaGreat
open Go.Sym Bnd
set_option maxRecDepth 100000
def Ru {l:List Pt}{t:Rt}(h:okF l){i:Nat}(hi:i<l.length):((cart t l).root=(i:Int)->(cart t l).nodes.findIdx? (nodC i)=none)/\((cart t l).root≠(i:Int)->∃k,(cart t l).nodes.findIdx? (nodC i)=some k):=by
 have L:=fU (t:=t) h.2.2;have C:=oI L;have toB:∀k,(cart t l).nodes.findIdx? (nodC i)=some k->Below (cmake (ldF t l) l.length).2.2 i k:=λk e=>by
  obtain⟨e1,e2,_⟩:=bD.1 e;exact qL h (ah e1) e2
 constructor
 .intro e;cases hf:(cart t l).nodes.findIdx? (nodC i) with
  |none=>rfl
  |some k=>exact absurd ⟨k,toB k hf⟩ (Ub L C hi e)
 .intro e;cases hf:(cart t l).nodes.findIdx? (nodC i) with
  |some k=>exact⟨k,rfl⟩
  |none=>
   obtain⟨j,x,hx,hc⟩:=Rs L C hi e;obtain⟨n,a1,a2,a3,_⟩:=ik h hx;rw[eb] at hf;have:=hf n (ay a1);rw[j4 a2 a3] at this;exact absurd hc (of_decide_eq_false this)
def Uc {l:List Pt}{t:Rt}(h:okF l):Ans D 279 [TR (cart t l)] [sl bT (edgsT (cart t l).nodes l.length)]:=by
 have hone:=vC (t:=t) h;have hlk:=Kq (t:=t) h;have hl:=h.1;have hlen:(cmake (ldF t l) l.length).2.2.length=l.length:=(gR (fU (t:=t) h.2.2) l.length (by omega)).len;have hnl:(cart t l).nodes.length=l.length:=lB h;refine an ⟨1001,?_⟩;unfold aaT;have rp:=xu (n:=(cart t l).nodes.length) (by omega);simp only[ax,qx,iZ,EV,ai,rp,aP];generalize hLK:(cmake (ldF t l) l.length).2.2=lk at*;have e1:([sl I1 (List.replicate (cart t l).nodes.length 0),.v (.int .i64 0)]:List PV)=[sl I1 (upArr (lk.take 0) 0 (List.replicate (cart t l).nodes.length 0)),.i64 ((0:Nat):Int)]:=rfl;rw[e1];refine dP (m:=1001) (n:=(cart t l).nodes.length) (st:=λi=>[sl I1 (upArr (lk.take i) 0 (List.replicate (cart t l).nodes.length 0)),.i64 (i:Int)]) (fin:=some [sl bT (edgsT (cart t l).nodes l.length)]) (λi self hi=>?_) (λself=>?_) (by omega)
 .obtain⟨x,hx⟩:∃x,lk[i]?=some x:=⟨lk[i]'(by omega),ah _⟩;obtain⟨nd,a1,a2,a3,_⟩:=ik (t:=t) h (by rw[hLK];exact hx);obtain⟨b1,b2⟩:=hlk x (ay hx);have hnext:upArr (lk.take (i+1)) 0 (List.replicate (cart t l).nodes.length 0)=upArr [x] i (upArr (lk.take i) 0 (List.replicate (cart t l).nodes.length 0)):=by
   rw[cH,hx];show upArr (lk.take i++[x]) 0 _=_
   rw[xw,aK,bX,bH (by omega)]
  have hul:(upArr (lk.take i) 0 (List.replicate (cart t l).nodes.length 0)).length=(cart t l).nodes.length:=by rw[yB];simp
  rw[hnext];generalize upArr (lk.take i) 0 (List.replicate (cart t l).nodes.length 0)=u at hul;have pN:RF.ev (.part 1 2) [NP nd]=some (.agg [.i64 x.1,.i64 x.2]):=by rw[<-a2,<-a3];rfl
  unfold HF;simp only[EV,aa,bi hi,ax,iZ,aS a1 (ke _),aJ a1,xl,pN]
  let us:Nat->List Int:=λj=>match j with|0=>u|1=>(if 0<=x.1 then u.set x.1.toNat i else u)|_=>(if 0<=x.2 then(if 0<=x.1 then u.set x.1.toNat i else u).set x.2.toNat i else(if 0<=x.1 then u.set x.1.toNat i else u))
  have hus:∀j,(us j).length=(cart t l).nodes.length:=λj=>by
   match j with
   |0=>exact hul
   |1=>simp only[us];split<;>simp[hul]
   |j+2=>simp only[us];repeat' split
         all_goals simp[hul]
  refine(dP (m:=1001) (n:=2) (st:=λj=>[sl I1 (us j),.i64 (j:Int)]) (fin:=self [sl I1 (us 2),.i64 ((i+1:Nat):Int)]) (λj self' hj=>?_) (λself'=>?_) (by omega)).trans rfl
  .obtain⟨c,hc,haix,hu⟩:∃c:Int,c<l.length/\ RF.ev (.aix 1 2 0) [.agg [.i64 x.1,.i64 x.2],.i64 (j:Int)]=some (.i64 c)/\ us (j+1)=(if 0<=c then(us j).set c.toNat i else us j):=by
    match j,hj with
    |0,_=>exact⟨x.1,b1,rfl,rfl⟩
    |1,_=>exact⟨x.2,b2,rfl,rfl⟩
   unfold HE;have l2:decide ((j:Int)<2)=true:=au (by omega);simp only[EV,l2,cQ,aA,haix,aa,bk];rw[hu];by_cases c0:0<=c
   .obtain⟨m,rfl⟩:=rF c0;rw[ad c0,ad c0,aG];simp only[EV,ixM (show m<(cart t l).nodes.length by omega),dQ (l:=us j) (i:=m) (by rw[hus];omega),HC,up1 (show j<1000000000 by omega)]
   .rw[ac c0,ac c0];simp only[EV,HC,up1 (show j<1000000000 by omega)]
  .unfold HE;simp only[EV,show decide (((2:Nat):Int)<2)=false from rfl,aq,aw,PS,up1 (show i<1000000000 by omega)]
 unfold HF;simp only[EV,aa,bK,PR,ax,iZ,ai];rw[bv (by omega)];have hU:∀i,i<(cart t l).nodes.length->(upArr lk 0 (List.replicate (cart t l).nodes.length 0))[i]?=match(cart t l).nodes.findIdx? (nodC i) with|some k=>some ((k:Nat):Int)|none=>some 0:=λi hi=>by
  rw[yC lk 0 _ i (by simpa using hi) ?_,<-hLK,DA h i]
  .cases(cart t l).nodes.findIdx? (nodC i) with
   |none=>simp only;rw[eK,ad hi]
   |some k=>simp only[bX]
  .intro k x hk hc k' x' hk' hc';rw[<-hLK] at hk hk';obtain⟨n,a1,a2,a3,_⟩:=ik h hk;obtain⟨n',b1,b2,b3,_⟩:=ik h hk';exact hone i k k' n n' a1 (by rw[j4 a2 a3];exact au hc) b1 (by rw[j4 b2 b3];exact au hc')
 generalize upArr lk 0 (List.replicate (cart t l).nodes.length 0)=U at hU;have e2:([PV.sl [],.v (.int .i64 0),.v (.int .i64 0)]:List PV)=[sl bT (edgsT (cart t l).nodes 0),.i64 ((edgsT (cart t l).nodes 0).length:Int),.i64 ((0:Nat):Int)]:=rfl;rw[e2];refine dP (m:=1001) (n:=(cart t l).nodes.length) (st:=λi=>[sl bT (edgsT (cart t l).nodes i),.i64 ((edgsT (cart t l).nodes i).length:Int),.i64 (i:Int)]) (fin:=some [sl bT (edgsT (cart t l).nodes l.length)]) (λi self hi=>?_) (λself=>?_) (by omega)
 .obtain⟨n,hn⟩:∃n,(cart t l).nodes[i]?=some n:=⟨(cart t l).nodes[i],ah _⟩;have hel:=lA (cart t l).nodes i;have hu:=hU i hi;obtain⟨r1,r2⟩:=Ru (t:=t) h (i:=i) (by omega);have cR:RF.ev (.cell 0) [TR (cart t l)]=some (.i64 (cart t l).root):=rfl;rw[n9];unfold tw;unfold HB;by_cases hr:(cart t l).root=(i:Int)
  .have e:=r1 hr;rw[e] at hu|-;have d1:decide ((i:Int)=(cart t l).root)=true:=au hr.symm;simp only[aR];simp only[EV,aa,bi hi,ax,iZ,cR,aS hn (ke _),aJ hn,xl,d1,aE,aq,aw,HA,up1 (show i<1000000000 by omega)]
  .obtain⟨k,e⟩:=r2 hr;rw[e] at hu|-;have d1:decide ((i:Int)=(cart t l).root)=false:=aj λq=>hr q.symm;obtain⟨hk,_,_⟩:=bD.1 e;have hm:=ah hk;have cN:RF.ev (.cell 0) [NP n]=some (.i64 n.id):=rfl;have ap:=fh (f:=bT) (l:=edgsT (cart t l).nodes i) (k:=[⟨n.id,(cart t l).nodes[k].id⟩]) (bytes:=16) (z:=2) (by simp;omega) jz;simp only[EV,aa,bi hi,ax,iZ,cR,aS hn (ke _),aJ hn,xl,d1,bI,aA,ixM hi,aJ hu,bZ,aS hm (ke _),aJ hm,LI,cN,qC,bsC,mQ,ap,ai,HA,up1 (show i<1000000000 by omega),nf hn,nf hm]
 .unfold HB;simp only[EV,aa,bK,PQ,ax,bF,hnl]
def wQ (g:List Pt)(c:Clock):KHeap×Int:=match renewG g (edgesU g (upsO c.now g)) c with
 |some d=>(⟨d,upsO c.now g⟩,0)
 |none=>(zKH,18)
def qG (g:List Pt)(c:Clock):Heater×Int:=match renewG g (edgsT (cart c.now g).nodes g.length) c with
 |some d=>(⟨d,cart c.now g⟩,0)
 |none=>(zHT,18)
def rz (g:List Pt)(c:Clock):uV g c=[KH (wQ g c).1,.i64 (wQ g c).2]:=by
 unfold uV wQ;cases renewG g (edgesU g (upsO c.now g)) c<;>rfl
def Du (g:List Pt)(c:Clock):Ci g c=[HT (qG g c).1,.i64 (qG g c).2]:=by
 unfold Ci qG;cases renewG g (edgsT (cart c.now g).nodes g.length) c<;>rfl
def uW:RF.ev .agg [.i64 0,.i64 0,.sl [],.i64 0,.sl [],.sl [],.sl [],.sl [],.sl [],.sl [],.sl [],.sl []]=some (KH zKH):=rfl
def oW:RF.ev .agg [.i64 0,.i64 0,.sl [],.i64 0,.sl [],.sl [],.sl [],.sl [],.sl [],.sl [],.sl [],.i64 0,.sl []]=some (HT zHT):=rfl
def zt (x:Tree):RF.ev (.shape 2) [TR x]=some (TR x):=rfl
def AB {c:Clock}{g:List Pt}(h:bx c)(hn:aX c.now)(hg:okF g):aY D 217 [CL c,F g,sl bT (edgsT (cart c.now g).nodes g.length)]=some (eC g (edgsT (cart c.now g).nodes g.length) c):=by
 have m:=phi (EW h hn hg (Ac (t:=c.now) hg))
 grind
def q8 (k:KHeap)(p:Pt):KHeap×Int:=if dO k.clock.pts p=0 then wQ (putF k.clock.pts p) k.clock else(zKH,dO k.clock.pts p)
def q9 (k:Heater)(p:Pt):Heater×Int:=if dO k.clock.pts p=0 then qG (putF k.clock.pts p) k.clock else(zHT,dO k.clock.pts p)
def oX (k:KHeap)(id:Int):KHeap×Int:=if dw k.clock.pts id=0 then wQ (takeF k.clock.pts id) k.clock else(zKH,dw k.clock.pts id)
def oY (k:Heater)(id:Int):Heater×Int:=if dw k.clock.pts id=0 then qG (takeF k.clock.pts id) k.clock else(zHT,dw k.clock.pts id)
def ra (k:KHeap)(p:Pt):KHeap×Int:=if eM k.clock.pts p=0 then wQ (chgF k.clock.pts p) k.clock else(zKH,eM k.clock.pts p)
def rb (k:Heater)(p:Pt):Heater×Int:=if eM k.clock.pts p=0 then qG (chgF k.clock.pts p) k.clock else(zHT,eM k.clock.pts p)
section
def c88 {k:KHeap}(h:bx k.clock)(hn:aX k.clock.now)(hchk:Ans D 80 [KH k] [.i64 0])(p:Pt):Ans D 88 [KH k,PP p] [KH (q8 k p).1,.i64 (q8 k p).2]:=by
 have m1:=phi hchk;have m2:=phi (Nw k.clock.pts p);refine am ?_;unfold k88 q8;by_cases he:dO k.clock.pts p=0
 rotate_left
 .rw[ac he];simp[dz,bz,aO,f7,m1,m2,EV,he,uW]
 .obtain⟨o1,o2,_⟩:=fK he;rw[he] at m2;rw[ad he];have m3:=phi (Nq h hn o2);rw[rz] at m3;simp only[ax,dz,bz,aO,f7,m1,m2,EV,az,aE,aq,aw,pKH,m3,qS]
def c96 {k:KHeap}(h:bx k.clock)(hn:aX k.clock.now)(hchk:Ans D 80 [KH k] [.i64 0])(id:Int):Ans D 96 [KH k,.i64 id] [KH (oX k id).1,.i64 (oX k id).2]:=by
 have m1:=phi hchk;have m2:=phi (Nv k.clock.pts id);refine am ?_;unfold k96 oX;by_cases he:dw k.clock.pts id=0
 rotate_left
 .rw[ac he];simp[ax,dz,aO,f7,m1,m2,EV,he,uW]
 .obtain⟨o1,o2,_⟩:=fX he;rw[he] at m2;rw[ad he];have m3:=phi (Nq h hn o2);rw[rz] at m3;simp only[ax,dz,aO,f7,m1,m2,EV,az,aE,aq,aw,pKH,m3,qS]
def ah8 {k:KHeap}(h:bx k.clock)(hn:aX k.clock.now)(hchk:Ans D 80 [KH k] [.i64 0])(p:Pt):Ans D 104 [KH k,PP p] [KH (ra k p).1,.i64 (ra k p).2]:=by
 have m1:=phi hchk;have m2:=phi (Ny k.clock.pts p);refine am ?_;unfold Y6 ra;by_cases he:eM k.clock.pts p=0
 rotate_left
 .rw[ac he];simp[ax,dz,bz,aO,f7,m1,m2,EV,he,uW]
 .obtain⟨o1,o2,_⟩:=js he;rw[he] at m2;rw[ad he];have m3:=phi (Nq h hn o2);rw[rz] at m3;simp only[ax,dz,bz,aO,f7,m1,m2,EV,az,aE,aq,aw,pKH,m3,qS]
def c92 {k:KHeap}(h:bx k.clock)(hn:aX k.clock.now)(hchk:Ans D 84 [KH k] [.i64 0])(p:Pt):Ans D 92 [KH k,PP p] [KH (q8 k p).1,.i64 (q8 k p).2]:=by
 have m1:=phi hchk;have m2:=phi (NC k.clock.pts p);refine am ?_;unfold k92 q8;by_cases he:dO k.clock.pts p=0
 rotate_left
 .rw[ac he];simp[ax,dz,bz,aO,f7,m1,m2,EV,he,uW]
 .obtain⟨o1,o2,_⟩:=fK he;rw[he] at m2;rw[ad he];have m3:=phi (Nr h hn o2);rw[rz] at m3;simp only[ax,dz,bz,aO,f7,m1,m2,EV,az,aE,aq,aw,pKH,m3,qS]
def ah9 {k:KHeap}(h:bx k.clock)(hn:aX k.clock.now)(hchk:Ans D 84 [KH k] [.i64 0])(id:Int):Ans D 100 [KH k,.i64 id] [KH (oX k id).1,.i64 (oX k id).2]:=by
 have m1:=phi hchk;have m2:=phi (NA k.clock.pts id);refine am ?_;unfold Y2 oX;by_cases he:dw k.clock.pts id=0
 rotate_left
 .rw[ac he];simp[ax,dz,aO,f7,m1,m2,EV,he,uW]
 .obtain⟨o1,o2,_⟩:=fX he;rw[he] at m2;rw[ad he];have m3:=phi (Nr h hn o2);rw[rz] at m3;simp only[ax,dz,aO,f7,m1,m2,EV,az,aE,aq,aw,pKH,m3,qS]
def aia {k:KHeap}(h:bx k.clock)(hn:aX k.clock.now)(hchk:Ans D 84 [KH k] [.i64 0])(p:Pt):Ans D 108 [KH k,PP p] [KH (ra k p).1,.i64 (ra k p).2]:=by
 have m1:=phi hchk;have m2:=phi (NB k.clock.pts p);refine am ?_;unfold Za ra;by_cases he:eM k.clock.pts p=0
 rotate_left
 .rw[ac he];simp[ax,dz,bz,aO,f7,m1,m2,EV,he,uW]
 .obtain⟨o1,o2,_⟩:=js he;rw[he] at m2;rw[ad he];have m3:=phi (Nr h hn o2);rw[rz] at m3;simp only[ax,dz,bz,aO,f7,m1,m2,EV,az,aE,aq,aw,pKH,m3,qS]
def c87 {k:Heater}(h:bx k.clock)(hn:aX k.clock.now)(hchk:Ans D 79 [HT k] [.i64 0])(p:Pt):Ans D 87 [HT k,PP p] [HT (q9 k p).1,.i64 (q9 k p).2]:=by
 have m1:=phi hchk;have m2:=phi (Nw k.clock.pts p);refine am ?_;unfold k87 q9;by_cases he:dO k.clock.pts p=0
 rotate_left
 .rw[ac he];simp[ax,gC,bz,aO,kj,m1,m2,EV,he,oW]
 .obtain⟨o1,o2,_⟩:=fK he;rw[he] at m2;rw[ad he];have m3:=phi (LH o2 hn h.1);have m4:=phi (Uc (t:=k.clock.now) o2);have m5:=AB h hn o2;unfold eC at m5;unfold qG;cases hr:renewG (putF k.clock.pts p) (edgsT (cart k.clock.now (putF k.clock.pts p)).nodes (putF k.clock.pts p).length) k.clock with
  |none=>
   rw[hr] at m5;simp only[ax,gC,bz,aO,kj,yU,m1,m2,EV,az,aE,aq,aw,pHT,m3,zt,m4,m5,km,g18,aA,oW]
  |some d=>
   rw[hr] at m5;simp only[ax,gC,bz,aO,kj,yU,m1,m2,EV,az,aE,aq,aw,pHT,m3,zt,m4,m5,db,og,FA,Ep]
def c95 {k:Heater}(h:bx k.clock)(hn:aX k.clock.now)(hchk:Ans D 79 [HT k] [.i64 0])(id:Int):Ans D 95 [HT k,.i64 id] [HT (oY k id).1,.i64 (oY k id).2]:=by
 have m1:=phi hchk;have m2:=phi (Nv k.clock.pts id);refine am ?_;unfold k95 oY;by_cases he:dw k.clock.pts id=0
 rotate_left
 .rw[ac he];simp[ax,gC,aO,kj,m1,m2,EV,he,oW]
 .obtain⟨o1,o2,_⟩:=fX he;rw[he] at m2;rw[ad he];have m3:=phi (LH o2 hn h.1);have m4:=phi (Uc (t:=k.clock.now) o2);have m5:=AB h hn o2;unfold eC at m5;unfold qG;cases hr:renewG (takeF k.clock.pts id) (edgsT (cart k.clock.now (takeF k.clock.pts id)).nodes (takeF k.clock.pts id).length) k.clock with
  |none=>
   rw[hr] at m5;simp only[ax,gC,aO,kj,yU,m1,m2,EV,az,aE,aq,aw,pHT,m3,zt,m4,m5,km,g18,aA,oW]
  |some d=>
   rw[hr] at m5;simp only[ax,gC,aO,kj,yU,m1,m2,EV,az,aE,aq,aw,pHT,m3,zt,m4,m5,db,og,FA,Ep]
def aib {k:Heater}(h:bx k.clock)(hn:aX k.clock.now)(hchk:Ans D 79 [HT k] [.i64 0])(p:Pt):Ans D 103 [HT k,PP p] [HT (rb k p).1,.i64 (rb k p).2]:=by
 have m1:=phi hchk;have m2:=phi (Ny k.clock.pts p);refine am ?_;unfold Y5 rb;by_cases he:eM k.clock.pts p=0
 rotate_left
 .rw[ac he];simp[ax,gC,bz,aO,kj,m1,m2,EV,he,oW]
 .obtain⟨o1,o2,_⟩:=js he;rw[he] at m2;rw[ad he];have m3:=phi (LH o2 hn h.1);have m4:=phi (Uc (t:=k.clock.now) o2);have m5:=AB h hn o2;unfold eC at m5;unfold qG;cases hr:renewG (chgF k.clock.pts p) (edgsT (cart k.clock.now (chgF k.clock.pts p)).nodes (chgF k.clock.pts p).length) k.clock with
  |none=>
   rw[hr] at m5;simp only[ax,gC,bz,aO,kj,yU,m1,m2,EV,az,aE,aq,aw,pHT,m3,zt,m4,m5,km,g18,aA,oW]
  |some d=>
   rw[hr] at m5;simp only[ax,gC,bz,aO,kj,yU,m1,m2,EV,az,aE,aq,aw,pHT,m3,zt,m4,m5,db,og,FA,Ep]
def c91 {k:Heater}(h:bx k.clock)(hn:aX k.clock.now)(hchk:Ans D 83 [HT k] [.i64 0])(p:Pt):Ans D 91 [HT k,PP p] [HT (q9 k p).1,.i64 (q9 k p).2]:=by
 have m1:=phi hchk;have m2:=phi (NC k.clock.pts p);refine am ?_;unfold k91 q9;by_cases he:dO k.clock.pts p=0
 rotate_left
 .rw[ac he];simp[ax,gC,bz,aO,kj,m1,m2,EV,he,oW]
 .obtain⟨o1,o2,_⟩:=fK he;rw[he] at m2;rw[ad he];have m3:=phi (Np h hn o2);rw[Du] at m3;simp only[ax,gC,bz,aO,kj,m1,m2,EV,az,aE,aq,aw,pHT,m3,LP]
def c99 {k:Heater}(h:bx k.clock)(hn:aX k.clock.now)(hchk:Ans D 83 [HT k] [.i64 0])(id:Int):Ans D 99 [HT k,.i64 id] [HT (oY k id).1,.i64 (oY k id).2]:=by
 have m1:=phi hchk;have m2:=phi (NA k.clock.pts id);refine am ?_;unfold k99 oY;by_cases he:dw k.clock.pts id=0
 rotate_left
 .rw[ac he];simp[ax,gC,aO,kj,m1,m2,EV,he,oW]
 .obtain⟨o1,o2,_⟩:=fX he;rw[he] at m2;rw[ad he];have m3:=phi (Np h hn o2);rw[Du] at m3;simp only[ax,gC,aO,kj,m1,m2,EV,az,aE,aq,aw,pHT,m3,LP]
def aic {k:Heater}(h:bx k.clock)(hn:aX k.clock.now)(hchk:Ans D 83 [HT k] [.i64 0])(p:Pt):Ans D 107 [HT k,PP p] [HT (rb k p).1,.i64 (rb k p).2]:=by
 have m1:=phi hchk;have m2:=phi (NB k.clock.pts p);refine am ?_;unfold Y9 rb;by_cases he:eM k.clock.pts p=0
 rotate_left
 .rw[ac he];simp[ax,gC,bz,aO,kj,m1,m2,EV,he,oW]
 .obtain⟨o1,o2,_⟩:=js he;rw[he] at m2;rw[ad he];have m3:=phi (Np h hn o2);rw[Du] at m3;simp only[ax,gC,bz,aO,kj,m1,m2,EV,az,aE,aq,aw,pHT,m3,LP]
end
def AC (pl:List Int)(id:Int):List Int:=match pl.findIdx? (λv=>decide (v<0)) with
 |some i=>pl.set i id
 |none=>pl++id::List.replicate (pl.length-1) (-1)
def offP (pl:List Int)(id:Int):List Int:=pl.map λv=>if v=id then-1 else v
def keptP (pl:List Int):List Int:=pl.filter λx=>decide (0<=x)
def lf (pl:List Int)(id:Int):List Int:=if 1<pl.length/\ 4*(keptP (offP pl id)).length<=pl.length then keptP (offP pl id)++List.replicate (pl.length/2-(keptP (offP pl id)).length) (-1) else offP pl id
structure PlOk (g:List Pt)(pl:List Int):Prop where
 n1:1<=pl.length
 n64:pl.length<=64
 val:∀x∈pl,dR g x
 one:iC pl
def Cj {pl:List Int}(h:iC pl):(keptP pl).Nodup:=by
 rw[gT] at h;unfold keptP;induction pl with
 |nil=>simp
 |cons a l ih=>
  have ih:=ih λi j x hx hi hj=>by have:=h (i+1) (j+1) x hx (by simpa using hi) (by simpa using hj);omega
  rw[cy];split
  .rename_i ha;rw[cd];refine⟨λhm=>?_,ih⟩;obtain⟨j,hj⟩:=aL.1 (bE.1 hm).1;have:=h 0 (j+1) a (by simpa using ha) (by simp) (by simpa using hj)
   omega
  .exact ih
def Ud {l:List Pt}{pl:List Int}(h1:∀x∈pl,dR l x)(ho:iC pl)(hc:(keptP pl).length=l.length):(keptP pl).Perm (l.map Pt.id):=
 jI (Cj ho) (λx hx=>by
  obtain⟨a,b⟩:=bE.1 hx;rcases h1 x a with e|e
  .simp at b;omega
  .exact ey.1 e) (by rw[ai];omega)
def JW {id:Int}(h0:0<=id):∀pl:List Int,keptP (offP pl id)=(keptP pl).filter λx=>!decide (x=id)
 |[]=>rfl
 |a::l=>by
  have ih:=JW h0 l;unfold keptP offP at ih|-;rw[bN,cy,ih,cy];by_cases e:a=id
  .subst e;rw[ad rfl,ac (by decide),ad (by simpa using h0),dU (by simp)]
  .rw[ac e];by_cases c:0<=a
   .rw[ad (by simpa using c),ad (by simpa using c),dV (by simp[e])]
   .rw[ac (by simpa using c),ac (by simpa using c)]
def uX (pl:List Int)(id:Int):(offP pl id).length=pl.length:=by simp[offP]
def W8 {pl:List Int}{id:Int}{i:Nat}(ho:iC pl)(h0:0<=id)(hi:pl[i]?=some id):pl.set i (-1)=offP pl id:=by
 rw[gT] at ho;apply cG;unfold offP
 grind
section
variable {k:KTourn}(hk:eH k)
include hk
theorem sn:1<=k.brk.places.length/\ k.brk.places.length<=64:=⟨hk.2.1.1.1.1,hk.2.1.1.1.2.1⟩
theorem adw:(keptP k.brk.places).Perm (k.clock.pts.map Pt.id):=Ud hk.2.2.2.1 hk.2.1.1.2.1 hk.2.2.2.2.1
theorem adx {x:Int}(h0:0<=x)(hx:x∈k.brk.places):x∈k.clock.pts.map Pt.id:=by
 rcases hk.2.2.2.1 x hx with e|e
 .omega
 .exact ey.1 e
theorem JX {p:Pt}(he:dO k.clock.pts p=0):PlOk (putF k.clock.pts p) (AC k.brk.places p.id):=by
 obtain⟨o1,o2,o3⟩:=fK he;have e:putF k.clock.pts p=iM p k.clock.pts:=ad he;have hid:∀x,dR k.clock.pts x->dR (putF k.clock.pts p) x:=λx hx=>by
  rcases hx with h|h
  .exact .inl h
  .exact .inr (ey.2 (by rw[e,Dn.mem_iff];simp[ey.1 h]))
 have hpv:dR (putF k.clock.pts p) p.id:= .inr (ey.2 (by rw[e,Dn.mem_iff];simp));have hnew:∀j,k.brk.places[j]?≠some p.id:=λj hj=>by
  have p0:=(ji o2 p (by rw[e];exact ins_mem.2 (.inl rfl))).1;obtain⟨q,hq,hn⟩:=bh.1 (adx hk p0 (ay hj))
  grind
 obtain⟨l1,l2⟩:=sn hk;have ho:=gT.1 hk.2.1.1.2.1;have hv:=hk.2.2.2.1;unfold AC;cases hf:k.brk.places.findIdx? (λv=>decide (v<0)) with
 |some i=>
  simp only;refine⟨by rw[aH];exact l1,by rw[aH];exact l2,λx hx=>?_,gT.2 λa b x h0 ha hb=>?_⟩
  .grind
  .grind
 |none=>
  simp only;have hall:∀x∈k.brk.places,0<=x:=λx hx=>by
   grind
  have hkp:(keptP k.brk.places).length=k.brk.places.length:=by
   unfold keptP;rw[ee.2 λx hx=>by simpa using hall x hx]
  have hc:=hk.2.2.2.2.1;have hcl:(keptP k.brk.places).length=k.clock.pts.length:=hc;have hlt:k.clock.pts.length≠64:=by
   have:=he;unfold dO at this
   grind
  have hsz:k.brk.places.length<=32:=by
   have:=hk.2.2.1;unfold szd at this;simp at this;omega
  refine⟨by simp;omega,by simp;omega,λx hx=>?_,gT.2 λa b x h0 ha hb=>?_⟩
  .rcases b9.1 hx with h|h
   .exact hid x (hv x h)
   .rcases bB.1 h with h|h
    .rw[h];exact hpv
    .exact .inl (d5.1 h).2
  .have key:∀a:Nat,(k.brk.places++p.id::List.replicate (k.brk.places.length-1) (-1))[a]?=some x->k.brk.places[a]?=some x\/(a=k.brk.places.length/\ x=p.id):=λa ha=>by
    by_cases c:a<k.brk.places.length
    .rw[aI c] at ha;exact .inl ha
    .rw[bL (by omega),List.getElem?_cons] at ha;split at ha
     .exact .inr ⟨by omega,(lh ha).symm⟩
     .have:=(d5.1 (ay ha)).2;omega
   have n1:=hnew a;have n2:=hnew b;have:=ho a b x h0;rcases key a ha with h1|⟨h1,h1'⟩<;>rcases key b hb with h2|⟨h2,h2'⟩
   .exact this h1 h2
   .rw[h2'] at h1;exact absurd h1 n1
   .rw[h1'] at h2;exact absurd h2 n2
   .omega
theorem JY {id:Int}(he:dw k.clock.pts id=0):(keptP (offP k.brk.places id)).length=(takeF k.clock.pts id).length/\ 0<=id/\ id∈k.brk.places:=by
 obtain⟨o1,o2,i,p,q1,q2,_⟩:=fX he;have h0:0<=id:=by have:=(ji o1 p (ay q1)).1;omega
 have pm:=adw hk;have e:takeF k.clock.pts id=k.clock.pts.filter (iN id):=ad he;refine⟨?_,h0,?_⟩
 .rw[JW h0,(pm.filter _).length_eq,List.filter_map,ai,e];rfl
 .have:=pm.mem_iff.2 (bh.2 ⟨p,ay q1,q2⟩);exact(bE.1 this).1
theorem zu {id:Int}(he:dw k.clock.pts id=0):PlOk (takeF k.clock.pts id) (lf k.brk.places id):=by
 obtain⟨o1,o2,i,p,q1,q2,_⟩:=fX he;obtain⟨_,h0,hm⟩:=JY hk he;have e:takeF k.clock.pts id=k.clock.pts.filter (iN id):=ad he;obtain⟨l1,l2⟩:=sn hk;have ho:=gT.1 hk.2.1.1.2.1;have hv:=hk.2.2.2.1;have hval:∀x∈offP k.brk.places id,dR (takeF k.clock.pts id) x:=λx hx=>by
  obtain⟨v,hv',e'⟩:=bh.1 hx;split at e'
  .exact .inl e'.symm
  .rename_i hne;subst e';rcases hv v hv' with h|h
   .exact .inl h
   .obtain⟨q,hq,hn⟩:=bh.1 (ey.1 h);exact .inr (ey.2 (by rw[e];exact bh.2 ⟨q,bE.2 ⟨hq,by simp[iN];omega⟩,hn⟩))
 have hon:iC (offP k.brk.places id):=gT.2 λa b x hx ha hb=>by
  unfold offP at ha hb
  grind
 unfold lf;split
 .rename_i hc;obtain⟨c1,c2⟩:=hc;have nd:=Cj hon;refine⟨by rw[aB,aP];omega,by rw[aB,aP];omega,λx hx=>?_,gT.2 λa b x hx ha hb=>?_⟩
  .rcases b9.1 hx with h|h
   .exact hval x (bE.1 h).1
   .exact .inl (d5.1 h).2
  .have key:∀a:Nat,(keptP (offP k.brk.places id)++List.replicate (k.brk.places.length/2-(keptP (offP k.brk.places id)).length) (-1))[a]?=some x->(keptP (offP k.brk.places id))[a]?=some x:=λa ha=>by
    by_cases c:a<(keptP (offP k.brk.places id)).length
    .rw[aI c] at ha;exact ha
    .rw[bL (by omega)] at ha;have:=(d5.1 (ay ha)).2;omega
   exact dE.1 nd a b x (key a ha) (key b hb)
 .exact⟨by rw[uX];exact l1,by rw[uX];exact l2,hval,hon⟩
theorem JZ {p:Pt}(he:eM k.clock.pts p=0):PlOk (chgF k.clock.pts p) k.brk.places:=by
 obtain⟨o1,o2,i,q,q1,q2,q3⟩:=js he;have e:chgF k.clock.pts p=k.clock.pts.set (pos k.clock.pts p.id).toNat p:=ad he;have ids:(chgF k.clock.pts p).map Pt.id=k.clock.pts.map Pt.id:=by rw[e,q3,aG,Dm q1 q2]
 obtain⟨l1,l2⟩:=sn hk;refine⟨l1,l2,λx hx=>?_,hk.2.1.1.2.1⟩;rcases hk.2.2.2.1 x hx with h|h
 .exact .inl h
 .exact .inr (ey.2 (by rw[ids];exact ey.1 h))
end
def J1 (l:List Int):List PV:=[sl I1 l]
def ady (l:List Int):(J1 l).length=1:=rfl
def adz (l:List Int):cF 0 0 (J1 l)=some (sl I1 l):=rfl
def VN {L S:List Int}{n:Nat}(h:n+S.length<=L.length)(hL:L.length<=1000):RF.ev (.appK 8 1) [sl I1 L,.v (.int .i64 (n:Int)),sl I1 S]=some (sl I1 (L.take n++S++L.drop (n+S.length))):=by
 show(if(0:Int)<=n/\(n:Int)<=((L.map I1).length:Nat)/\((n:Int).toNat+(S.map I1).length)*8<=140737488355328/\ dK 1 (S.map I1)=true then some (PV.sl ((L.map I1).take (n:Int).toNat++S.map I1++(L.map I1).drop ((n:Int).toNat+(S.map I1).length))) else none)=_
 have he:dK 1 (S.map I1)=true:=by
  cases S with
  |nil=>rfl
  |cons a k=>simp[dK,bS]
 rw[ad ⟨by omega,by rw[ai];omega,by simp;omega,he⟩];simp_all
def K6 {ls:List (List Int)}{i:Nat}{x:List Int}(hx:ls[i]?=some x):(ls.take (i+1)).flatten=(ls.take i).flatten++x:=by
 rw[cH,hx,da];simp
def K7 (ls:List (List Int))(i:Nat):(ls.take i).flatten.length<=ls.flatten.length:=by
 conv=>rhs;rw[<-dN i ls,da,aB]
 omega
def aid {ls:List (List Int)}(h0:0<ls.flatten.length)(h1:ls.flatten.length<=1000)(h2:ls.length<=1000):Ans D 358 [.sl (ls.map J1)] [sl I1 ls.flatten]:=by
 have key:den (aY D) 1001 SO [] [.sl (ls.map J1)]=some [sl I1 ls.flatten]:=by
  unfold SO;simp only[EV,ai];refine dP (m:=1001) (n:=ls.length) (st:=λi=>[.i64 ((ls.take i).flatten.length:Int),.i64 (i:Int)]) (fin:=some [sl I1 ls.flatten]) (λi self hi=>?_) (λself=>?_) (by omega)
  .obtain⟨x,hx⟩:∃x,ls[i]?=some x:=⟨ls[i],ah _⟩;have f1:=K6 hx;have f2:=K7 ls (i+1);rw[f1,aB] at f2;have w:IntKind.i64.wrap (((ls.take i).flatten.length:Int)+(x.length:Int))=(((ls.take i).flatten++x).length:Int):=by rw[aB,bV (by omega) (by omega)];omega
   have n0:decide ((((ls.take i).flatten++x).length:Int)<0)=false:=aj (by omega);rw[f1];unfold If;simp only[EV,aa,bi hi,aS hx (ady _),aJ hx,adz,ai,w,n0,aq,aw,up1 (show i<1000000000 by omega)]
  .have w0:IntKind.i64.wrap (0-0)=0:=rfl;have w1:IntKind.i64.wrap ((ls.flatten.length:Int)-0)=(ls.flatten.length:Int):=by rw[bV (by omega) (by omega)];omega
   have n0:decide ((ls.flatten.length:Int)<0)=false:=aj (by omega);have p0:decide ((ls.flatten.length:Int)>0)=true:=au (by omega);have b0:RF.ev .bnd [.v (.int .i64 0),.v (.int .i64 0)]=some (.i64 0):=rfl;have b1:RF.ev .bnd [.v (.int .i64 0),.v (.int .i64 (ls.flatten.length:Int))]=some (.i64 0):=by rw[jO,ad ⟨by omega,by omega⟩]
   have rp:=xu (n:=ls.flatten.length) (by omega);have ap:RF.ev (.app 8 1) [.sl [],.v (.int .i64 0),sl I1 (List.replicate ls.flatten.length 0)]=some (sl I1 (List.replicate ls.flatten.length 0)):=gy (l:=List.replicate ls.flatten.length 0) (f:=I1) (bytes:=8) (z:=1) (by rw[aP];omega) bS;unfold If;simp only[EV,aa,bK,cW];unfold Ql;simp only[EV,n0,aq,aw,w0,w1,p0,aA,b0,rp,ap,ai,aP,b1];unfold Qk;simp only[EV,ai];have e0:([sl I1 (List.replicate ls.flatten.length 0),.v (.int .i64 (ls.flatten.length:Int)),.v (.int .i64 0),.v (.int .i64 0)]:List PV)=[sl I1 ((ls.take 0).flatten++List.replicate (ls.flatten.length-(ls.take 0).flatten.length) 0),.i64 (ls.flatten.length:Int),.i64 ((ls.take 0).flatten.length:Int),.i64 ((0:Nat):Int)]:=rfl;refine(bj _ e0).trans ?_;refine dP (m:=1001) (n:=ls.length) (st:=λi=>[sl I1 ((ls.take i).flatten++List.replicate (ls.flatten.length-(ls.take i).flatten.length) 0),.i64 (ls.flatten.length:Int),.i64 ((ls.take i).flatten.length:Int),.i64 (i:Int)]) (fin:=some [sl I1 ls.flatten]) (λi self hi=>?_) (λself=>?_) (by omega)
   .obtain⟨x,hx⟩:∃x,ls[i]?=some x:=⟨ls[i],ah _⟩;have f1:=K6 hx;have f2:=K7 ls (i+1);rw[f1,aB] at f2;generalize ls.flatten.length=T at*;rw[f1];generalize (ls.take i).flatten=pre at*;have ap:=VN (L:=pre++List.replicate (T-pre.length) 0) (S:=x) (n:=pre.length) (by simp;omega) (by simp;omega);have e1:(pre++List.replicate (T-pre.length) 0).take pre.length++x++(pre++List.replicate (T-pre.length) 0).drop (pre.length+x.length)=(pre++x)++List.replicate (T-(pre++x).length) 0:=by
     rw[cI rfl,kC,cD (by omega),aT,xb,aB]
     congr 2
     omega
    rw[e1] at ap;have ln:((pre++x)++List.replicate (T-(pre++x).length) 0).length=T:=by simp;omega
    have sm:((pre.length:Int)+(x.length:Int))=((pre++x).length:Int):=by rw[aB];omega
    unfold Ie;simp only[EV,aa,bi hi,aS hx (ady _),aJ hx,adz,ap,ai,ln,sm,up1 (show i<1000000000 by omega)]
   .have s0:=bF (f:=I1) (l:=ls.flatten);unfold Ie;simp only[EV,aa,bK,cW,fL,xe,aR];unfold Qj;simp only[EV,s0]
 exact an ⟨1001,key⟩
def aie {a b:List Int}(h0:0<b.length)(ha:a.length<=400)(hb:b.length<=400):Ans D 358 [.sl [[sl I1 a],[sl I1 b]]] [sl I1 (a++b)]:=by
 have:=aid (ls:=[a,b]) (by simp;omega) (by simp;omega) (by simp);have e:[a,b].flatten=a++b:=by simp
 rw[e] at this;exact this
def mX (w a:Int):List Crt:=if 0<=a/\ a≠w then [⟨a,w⟩] else []
def Dv (w a b:Int):Prop:=(0<=a->0<=b->(w=a\/w=b)/\ a≠b)/\(0<=a->b<0->w=a)/\(a<0->0<=b->w=b)
def Ue {w a b:Int}(h:Dv w a b):mX w a++mX w b=if 0<=a/\ 0<=b then [⟨a+b-w,w⟩] else []:=by
 obtain⟨h1,h2,h3⟩:=h;unfold mX
 grind
def aif {b:Brk}(h1:b.places.length=b.wins.length+1)(h2:b.places.length<=70)(hm:∀i,i<b.wins.length->Dv (nodeV b.wins b.places i) (nodeV b.wins b.places (2*i+1)) (nodeV b.wins b.places (2*i+2))):Ans D 278 [BR b] [sl bT (edsB b.wins b.places b.wins.length)]:=by
 have m1:=phi (aie (a:=b.wins) (b:=b.places) (by omega) (by omega) (by omega));have bs:RF.ev (.bs 2 [(.sl [])] [0,1]) [sl I1 b.wins,sl I1 b.places]=some (.sl [[sl I1 b.wins],[sl I1 b.places]]):=rfl;have sb:RF.ev .sub [.sl [[sl I1 b.wins],[sl I1 b.places]],.v (.int .i64 0),.v (.int .i64 2)]=some (.sl [[sl I1 b.wins],[sl I1 b.places]]):=rfl;have cB0:RF.ev (.cell 0) [BR b]=some (sl I1 b.places):=rfl;have cB1:RF.ev (.cell 1) [BR b]=some (sl I1 b.wins):=rfl;have al:(b.wins++b.places).length=2*b.wins.length+1:=by rw[aB];omega
 have nv:∀j,j<2*b.wins.length+1->(b.wins++b.places)[j]?=some (nodeV b.wins b.places j):=λj hj=>by
  obtain⟨q1,q2⟩:=sO (w:=b.wins) (p:=b.places) (j:=j) (by omega)
  grind
 refine an ⟨1001,?_⟩;unfold aaS;simp only[ax,kg,cB0,cB1,bs,sb,m1,Ej,EV,ai,al];have e0:([PV.sl [],.v (.int .i64 0),.v (.int .i64 0)]:List PV)=[sl bT (edsB b.wins b.places 0),.i64 ((edsB b.wins b.places 0).length:Int),.i64 ((0:Nat):Int)]:=rfl;rw[e0];refine(dP (m:=1001) (n:=b.wins.length) (st:=λi=>[sl bT (edsB b.wins b.places i),.i64 ((edsB b.wins b.places i).length:Int),.i64 (i:Int)]) (fin:=some [sl bT (edsB b.wins b.places b.wins.length)]) (λi self hi=>?_) (λself=>?_) (by omega))
 .have hx:b.wins[i]?=some (nodeV b.wins b.places i):=(sO (w:=b.wins) (p:=b.places) (j:=i) (by omega)).1 hi;have hel:=lC b.wins b.places i;have nx:edsB b.wins b.places (i+1)=edsB b.wins b.places i++(mX (nodeV b.wins b.places i) (nodeV b.wins b.places (2*i+1))++mX (nodeV b.wins b.places i) (nodeV b.wins b.places (2*i+2))):=by
   rw[Ue (hm i hi),qd];rfl
  have n1:=nv (2*i+1) (by omega);have n2:=nv (2*i+2) (by omega);rw[nx];generalize nodeV b.wins b.places i=w at hx|-;generalize nodeV b.wins b.places (2*i+1)=p at n1|-;generalize nodeV b.wins b.places (2*i+2)=q at n2|-;generalize edsB b.wins b.places i=es at hel|-;have up3:IntKind.i64.wrap (((2*i:Nat):Int)+3)=((2*i+3:Nat):Int):=by rw[bV (by omega) (by omega)];omega
  have w0:IntKind.i64.wrap (2*(i:Int))=((2*i:Nat):Int):=by rw[bV (by omega) (by omega)];omega
  unfold Hz;simp only[EV,aa,bi hi,ax,cB1,aS hx (bS _),aJ hx,bZ,w0,up1 (show 2*i<1000000000 by omega),up3,kP (show 2*i+3<=2*b.wins.length+1 by omega),kP (show 2*i+1<=2*i+3 by omega)]
  have s1:(0:Int)+((2*i+1:Nat):Int)=((2*i+1:Nat):Int):=by omega
  have s2:((2*i+3:Nat):Int)-((2*i+1:Nat):Int)=((2:Nat):Int):=by omega
  rw[s1,s2]
  let ll:Nat->List Crt:=λj=>match j with|0=>[]|1=>mX w p|_=>mX w p++mX w q
  have e1:([sl bT es,.i64 (es.length:Int),.v (.int .i64 0)]:List PV)=[sl bT (es++ll 0),.i64 ((es++ll 0).length:Int),.i64 ((0:Nat):Int)]:=by simp[ll]
  rw[e1];have lo:∀v,(mX w v).length<=1:=λv=>by unfold mX;split<;>simp
  refine(dP (m:=1001) (n:=2) (st:=λj=>[sl bT (es++ll j),.i64 ((es++ll j).length:Int),.i64 (j:Int)]) (fin:=self [sl bT (es++ll 2),.i64 ((es++ll 2).length:Int),.i64 ((i+1:Nat):Int)]) (λj self' hj=>?_) (λself'=>?_) (by omega)).trans rfl
  .obtain⟨v,hv,hl,hle⟩:∃v,(b.wins++b.places)[2*i+1+j]?=some v/\ ll (j+1)=ll j++mX w v/\(ll j).length<=1:=by
    match j,hj with
    |0,_=>exact⟨p,n1,rfl,di _⟩
    |1,_=>exact⟨q,n2,rfl,lo p⟩
   have l2:decide ((j:Int)<((2:Nat):Int))=true:=au (by omega);have sm:((2*i+1:Nat):Int)+(j:Int)=((2*i+1+j:Nat):Int):=by omega
   have ap:=fh (f:=bT) (l:=es++ll j) (k:=[⟨v,w⟩]) (bytes:=16) (z:=2) (by simp;omega) jz;rw[hl,<-aU];unfold mX;unfold Hy;simp only[EV,l2,aA,ixM hj,sm,aJ hv,bZ,bk,aa];by_cases c1:0<=v
   .rw[ad c1];unfold Hx;by_cases c2:v=w
    .have d2:(!decide (v=w))=false:=by simp[c2]
     rw[ac (λh=>h.2 c2),aR];simp only[EV,d2,aq,aw,Bn,up1 (show j<1000000000 by omega)]
    .have d2:(!decide (v=w))=true:=by simp[c2]
     rw[ad ⟨c1,c2⟩];simp only[EV,d2,aA,qC,bsC,mQ,ap,ai,Bn,up1 (show j<1000000000 by omega)]
   .rw[ac c1,ac (λh=>c1 h.1),aR];unfold Hx;simp only[EV,aq,aw,Bn,up1 (show j<1000000000 by omega)]
  .unfold Hy;simp only[EV,show decide (((2:Nat):Int)<((2:Nat):Int))=false from rfl,aq,aw,PO,up1 (show i<1000000000 by omega)]
 .unfold Hz;simp only[EV,aa,bK,PN,bF]
def wR (x:Int):RF.ev (.bs 1 [KP.z] [0]) [.v (.int .i64 x)]=some (sl I1 [x]):=rfl
def apI {l:List Int}{x:Int}(h:l.length<=1000):RF.ev (.app 8 1) [sl I1 l,.v (.int .i64 (l.length:Int)),sl I1 [x]]=some (sl I1 (l++[x])):=fh (f:=I1) (l:=l) (k:=[x]) (bytes:=8) (z:=1) (by simp;omega) bS
def aig {pl:List Int}(h1:1<=pl.length)(h2:pl.length<=64)(id:Int):Ans D 193 [sl I1 pl,.i64 id] [sl I1 (AC pl id)]:=by
 have key:den (aY D) 1001 Sz [] [sl I1 pl,.i64 id]=some [sl I1 (AC pl id)]:=by
  have w0:IntKind.i64.wrap (2*(pl.length:Int))=((2*pl.length:Nat):Int):=by rw[bV (by omega) (by omega)];omega
  unfold Sz;simp only[gy (l:=pl) (f:=I1) (bytes:=8) (z:=1) (by omega) bS,EV,ai];refine(jy (m:=1001) (l:=pl) (p:=λv=>decide (v<0)) (st:=λi=>[.i64 (i:Int)]) (ret:=λi=>some [sl I1 (pl.set i id)]) (fin:=some [sl I1 (pl++id::List.replicate (pl.length-1) (-1))]) (λi v self hv=>?_) (λself=>?_) (by omega)).trans ?_
  .have hi:=aN hv;have s0:=bF (f:=I1) (l:=pl.set i id);rw[aH] at s0;unfold GD;simp only[EV,aa,bi hi,ixM hi,aJ hv,bZ,dQ hi,s0,up1 (show i<1000000000 by omega)]
  .unfold GD;simp only[EV,aa,bK];unfold O1;simp only[wR,kV,apI (show pl.length<=1000 by omega),EV,ai]
   have e0:pl++[id]=pl++id::List.replicate 0 (-1):=rfl;rw[e0];refine dP (m:=1001) (n:=pl.length-1) (st:=λt=>[sl I1 (pl++id::List.replicate t (-1)),.i64 ((pl++id::List.replicate t (-1)).length:Int)]) (fin:=some [sl I1 (pl++id::List.replicate (pl.length-1) (-1))]) (λt self ht=>?_) (λself=>?_) (by omega)
   .have ln:(pl++id::List.replicate t (-1)).length=pl.length+1+t:=by simp;omega
    have e1:pl++id::List.replicate (t+1) (-1)=(pl++id::List.replicate t (-1))++[-1]:=by simp[pa]
    rw[e1];have ap:=apI (l:=pl++id::List.replicate t (-1)) (x:= -1) (by omega);generalize pl++id::List.replicate t (-1)=q at ln ap;unfold GC;simp only[EV,ai,w0,aa];rw[ad (by omega)];simp only[wR,kV,ap,EV,ai]
   .have ln:(pl++id::List.replicate (pl.length-1) (-1)).length=2*pl.length:=by simp;omega
    generalize pl++id::List.replicate (pl.length-1) (-1)=q at ln;have s0:=bF (f:=I1) (l:=q);unfold GC;simp only[EV,ai,w0,aa];rw[ac (by omega)];unfold O0;simp only[EV,s0]
  .unfold AC;cases pl.findIdx? λv=>decide (v<0)<;>rfl
 exact an ⟨1001,key⟩
def aih {pl:List Int}(h1:1<=pl.length)(h2:pl.length<=64)(id:Int):Ans D 201 [sl I1 pl,.i64 id] [sl I1 (lf pl id)]:=by
 have kl:∀q:List Int,(keptP q).length<=q.length:=λq=>eZ _ _;refine an ⟨1001,?_⟩;unfold Z6;simp only[EV];have e0:([PV.sl [],.v (.int .i64 0),.sl [],.v (.int .i64 0),.v (.int .i64 0)]:List PV)=[sl I1 (offP (pl.take 0) id),.i64 ((offP (pl.take 0) id).length:Int),sl I1 (keptP (offP (pl.take 0) id)),.i64 ((keptP (offP (pl.take 0) id)).length:Int),.i64 ((0:Nat):Int)]:=rfl;rw[e0];refine dP (m:=1001) (n:=pl.length) (st:=λi=>[sl I1 (offP (pl.take i) id),.i64 ((offP (pl.take i) id).length:Int),sl I1 (keptP (offP (pl.take i) id)),.i64 ((keptP (offP (pl.take i) id)).length:Int),.i64 (i:Int)]) (fin:=some [sl I1 (lf pl id)]) (λi self hi=>?_) (λself=>?_) (by omega)
 .obtain⟨v,hv⟩:∃v,pl[i]?=some v:=⟨pl[i],ah _⟩;have l1:(offP (pl.take i) id).length<=64:=by rw[uX,aK];omega
  have l3:=kl (offP (pl.take i) id);have n1:offP (pl.take (i+1)) id=offP (pl.take i) id++[if v=id then-1 else v]:=by
   rw[Dp hv];unfold offP;rw[fJ];rfl
  have n2:keptP (offP (pl.take (i+1)) id)=keptP (offP (pl.take i) id)++keptP [if v=id then-1 else v]:=by rw[n1];unfold keptP;rw[jv]
  rw[n2,n1];generalize keptP (offP (pl.take i) id)=ks at l3|-;generalize offP (pl.take i) id=qs at l1 l3|-;have key:∀(z:Int) (b:Bool),den (aY D) 1001 GI [oC (aY D) 1001 GG [] [sl I1 pl,.i64 id],self] [sl I1 pl,.i64 id,sl I1 qs,.i64 (qs.length:Int),sl I1 ks,.i64 (ks.length:Int),.i64 (i:Int),.i64 (pl.length:Int),.bool (decide ((i:Int)<(pl.length:Int))),.i64 (i:Int),.i64 v,.bool b,.i64 z]=self [sl I1 (qs++[z]),.i64 ((qs++[z]).length:Int),sl I1 (ks++keptP [z]),.i64 ((ks++keptP [z]).length:Int),.i64 ((i+1:Nat):Int)]:=λz b=>by
   have a1:=apI (l:=qs) (x:=z) (by omega);have a2:=apI (l:=ks) (x:=z) (by omega);unfold GI keptP;simp only[wR,kV,a1,EV,ai,bk,aa];by_cases c:0<=z
   .rw[ad c,dV (by simpa using c)]
    simp only[wR,kV,a2,EV,ai,GH,up1 (show i<1000000000 by omega),List.filter_nil]
   .rw[ac c,dU (by simpa using c)]
    simp only[EV,GH,up1 (show i<1000000000 by omega),List.filter_nil,aR]
  unfold GJ;simp only[bf,aT,EV,ai,aa,bi hi,aS hv (bS _),aJ hv,bZ];by_cases c:v=id
  .rw[ad c,ad c];exact key (-1) _
  .rw[ac c,ac c];exact key v _
 .unfold GJ;simp only[EV,ai,aa,bK,cW];have l1:=uX pl id;have l3:=kl (offP pl id);have s0:=bF (f:=I1) (l:=offP pl id);have w0:IntKind.i64.wrap (4*((keptP (offP pl id)).length:Int))=((4*(keptP (offP pl id)).length:Nat):Int):=by rw[bV (by omega) (by omega)];omega
  unfold GG lf;simp only[EV,ai,aa,w0,cJ];by_cases c1:pl.length=1
  .rw[ad (by omega),ac (by omega)];simp only[s0,EV]
  rw[ac (by omega)];by_cases c2:4*(keptP (offP pl id)).length<=pl.length
  rotate_left
  .rw[ad (by omega),ac (by omega)];simp only[s0,EV]
  rw[ac (by omega),ad ⟨by omega,c2⟩];generalize keptP (offP pl id)=ks at l3 c2|-;have e0:ks=ks++List.replicate 0 (-1):=by simp
  have e1:([sl I1 ks,.i64 (ks.length:Int)]:List PV)=[sl I1 (ks++List.replicate 0 (-1)),.i64 ((ks++List.replicate 0 (-1)).length:Int)]:=by rw[<-e0]
  have q2:=T8 (i:=pl.length) (by omega);refine(bj _ e1).trans ?_;refine dP (m:=1001) (n:=pl.length/2-ks.length) (st:=λt=>[sl I1 (ks++List.replicate t (-1)),.i64 ((ks++List.replicate t (-1)).length:Int)]) (fin:=some [sl I1 (ks++List.replicate (pl.length/2-ks.length) (-1))]) (λt self ht=>?_) (λself=>?_) (by omega)
  .have ln:(ks++List.replicate t (-1)).length=ks.length+t:=by simp
   have e1:ks++List.replicate (t+1) (-1)=(ks++List.replicate t (-1))++[-1]:=by simp[pa]
   rw[e1];have ap:=apI (l:=ks++List.replicate t (-1)) (x:= -1) (by omega);generalize ks++List.replicate t (-1)=q at ln ap;unfold GF;simp only[EV,fN,ai,q2,aa];rw[ad (by omega)];simp only[wR,kV,ap,EV,ai]
  .have ln:(ks++List.replicate (pl.length/2-ks.length) (-1)).length=pl.length/2:=by simp;omega
   generalize ks++List.replicate (pl.length/2-ks.length) (-1)=q at ln;have s0:=bF (f:=I1) (l:=q);unfold GF;simp only[EV,fN,ai,q2,aa];rw[ac (by omega)];unfold O3;simp only[EV,s0]
def jL (g:List Pt)(c:Clock)(pl:List Int):KTourn×Int:=match renewG g (edsB (bracketOf c.now g pl).wins pl (bracketOf c.now g pl).wins.length) c with
 |some d=>(⟨d,bracketOf c.now g pl⟩,0)
 |none=>(zKT,18)
def Dw (g:List Pt)(c:Clock)(pl:List Int):Ch g c pl=[KT (jL g c pl).1,.i64 (jL g c pl).2]:=by
 unfold Ch jL;cases renewG g (edsB (bracketOf c.now g pl).wins pl (bracketOf c.now g pl).wins.length) c<;>rfl
def sq:RF.ev .agg [.i64 0,.i64 0,.sl [],.i64 0,.sl [],.sl [],.sl [],.sl [],.sl [],.sl [],.sl [],.sl [],.sl []]=some (KT zKT):=rfl
def VO (x:Brk):RF.ev (.shape 2) [BR x]=some (BR x):=rfl
def sw (k:KTourn):RF.ev (.cell 11) [KT k]=some (sl I1 k.brk.places):=rfl
def tL (k:KTourn)(p:Pt):KTourn×Int:=if dO k.clock.pts p=0 then jL (putF k.clock.pts p) k.clock (AC k.brk.places p.id) else(zKT,dO k.clock.pts p)
def p8 (k:KTourn)(id:Int):KTourn×Int:=if dw k.clock.pts id=0 then jL (takeF k.clock.pts id) k.clock (lf k.brk.places id) else(zKT,dw k.clock.pts id)
def tM (k:KTourn)(p:Pt):KTourn×Int:=if eM k.clock.pts p=0 then jL (chgF k.clock.pts p) k.clock k.brk.places else(zKT,eM k.clock.pts p)
def Uf {c:Clock}{g:List Pt}{pl:List Int}(h:bx c)(hn:aX c.now)(hg:okF g)(P:PlOk g pl):Ans D 185 [CL c,F g,sl I1 pl] [KT (jL g c pl).1,.i64 (jL g c pl).2]:=by
 obtain⟨h1,h2,hv,ho⟩:=P;have m1:=phi (XP hg hn h.1 h1 h2 hv ho);have m1:aY D 218 [F g,R c.now,sl I1 pl]=some [BR (bracketOf c.now g pl),.i64 0]:=m1;have hE:=xF (t:=c.now) hg h1 h2 hv ho;obtain⟨b1,b2,b3⟩:=qR (t:=c.now) hg h1 h2 hv ho;have mt:∀i,i<(bracketOf c.now g pl).wins.length->Dv (nodeV (bracketOf c.now g pl).wins (bracketOf c.now g pl).places i) (nodeV (bracketOf c.now g pl).wins (bracketOf c.now g pl).places (2*i+1)) (nodeV (bracketOf c.now g pl).wins (bracketOf c.now g pl).places (2*i+2)):=λi hi=>by
  have hf:=b3 i hi;have hx:∀x∈edB (bracketOf c.now g pl).wins pl i,x.ok:=λx hx=>hE.ok x (sE.2 ⟨i,dW.2 hi,hx⟩);have e:(bracketOf c.now g pl).places=pl:=rfl;rw[e];unfold edB at hx;generalize nodeV (bracketOf c.now g pl).wins pl i=w at hf hx;generalize nodeV (bracketOf c.now g pl).wins pl (2*i+1)=a at hf hx;generalize nodeV (bracketOf c.now g pl).wins pl (2*i+2)=b at hf hx;unfold wonI at hf;refine⟨λha hb=>?_,λha hb=>?_,λha hb=>?_⟩
  .rw[ad ⟨ha,hb⟩] at hx;have ok:=hx _ (cg.2 rfl);have hne:=ok.2.2.2.2;simp only at hne;rw[ac (by omega),ac (by omega)] at hf;split at hf
   .exact⟨.inl hf,by omega⟩
   .exact⟨.inr hf,by omega⟩
  .rw[ac (by omega),ad hb] at hf;exact hf
  .rw[ad ha] at hf;exact hf
 have m2:=phi (aif (b:=bracketOf c.now g pl) (by rw[b1];show pl.length=_;omega) (by show pl.length<=70;omega) mt)
 have m2:aY D 278 [BR (bracketOf c.now g pl)]=some [sl bT (edsB (bracketOf c.now g pl).wins pl (bracketOf c.now g pl).wins.length)]:=m2;have m3:=phi (EW h hn hg hE);unfold eC at m3;unfold jL;refine am ?_;unfold ZZ;cases hr:renewG g (edsB (bracketOf c.now g pl).wins pl (bracketOf c.now g pl).wins.length) c with
 |none=>
  rw[hr] at m3;simp only[ax,db,aO,fq,m1,VO,m2,m3,EV,km,g18,aA,sq]
 |some d=>
  rw[hr] at m3;simp only[ax,db,aO,fq,m1,VO,m2,m3,EV,az,aE,aq,aw,og,Sj,Uz]
def J0:∀{pl:List Int},(∀x∈pl,-1<=x)->(pl.findIdx? λy=>decide (-1=y))=pl.findIdx? λv=>decide (v<0)
 |[],_=>rfl
 |a::l,h=>by
  have ih:=J0 (pl:=l) λx hx=>h x (bJ _ hx);have:=h a (gY ..);rw[jx,jx,ih];have e:decide (-1=a)=decide (a<0):=by rw[d4,aa,aa];omega
  rw[e]
section
variable {k:KTourn}(hk:eH k)(hn:aX k.clock.now)
include hk hn
open Classical in
theorem c86 (hchk:Ans D 78 [KT k] [.i64 0])(p:Pt):Ans D 86 [KT k,PP p] [KT (tL k p).1,.i64 (tL k p).2]:=by
 have m1:=phi hchk;have m2:=phi (Nw k.clock.pts p);obtain⟨l1,l2⟩:=sn hk;refine am ?_;unfold k86 tL;by_cases he:dO k.clock.pts p=0
 rotate_left
 .rw[ac he];simp[ax,gu,bz,aO,lZ,m1,m2,EV,he,sq]
 .obtain⟨o1,o2,o3⟩:=fK he;have P:=JX hk he;have m3:=phi (Uf hk.1 hn o2 P);rw[he] at m2;rw[ad he];generalize putF k.clock.pts p=g at*;have c1:=phi (Ff (l:=k.brk.places) (-1) (by omega));have s1:=bF (f:=I1) (l:=k.brk.places);have fl:∀m:Int,RF.ev .flat [.v (.int .i64 m)]=some (.i64 m):=λ_=>rfl;have bnd:∀x∈k.brk.places,-1<=x:=λx hx=>(lD hk.1.2.1 (hk.2.2.2.1 x hx)).1;have ns:=J0 bnd;unfold lj at c1;rw[ns] at c1;unfold AC at m3|-;cases hf:k.brk.places.findIdx? (λv=>decide (v<0)) with
  |some i=>
   rw[hf] at c1 m3;simp only[Option.elim_some] at c1 m3|-;have hi:i<k.brk.places.length:=(bD.1 hf).1;have n0:decide (((i:Nat):Int)<0)=false:=aj (by omega);have s2:=bF (f:=I1) (l:=k.brk.places.set i p.id);rw[aH] at s2;simp only[ax,gu,bz,aO,lZ,m1,m2,EV,az,aE,aq,aw,sw,phi (ml (l:=k.brk.places) (by omega)),ai,s1,c1,fl,n0];unfold Mf;simp only[EV,ax,ixM hi,dl,dQ hi,pKT,s2,m3,gu]
  |none=>
   rw[hf] at c1 m3;simp only[Option.elim_none] at c1 m3|-;have n0:decide ((-1:Int)<0)=true:=rfl;have m4:=phi (X5 (n:=k.brk.places.length) l1 (by omega));have ap:=fh (f:=I1) (l:=k.brk.places) (k:=List.replicate k.brk.places.length (-1)) (bytes:=8) (z:=1) (by simp;omega) bS;have s3:=bF (f:=I1) (l:=List.replicate k.brk.places.length (-1));rw[aP] at s3;have e1:(k.brk.places++List.replicate k.brk.places.length (-1)).set k.brk.places.length p.id=k.brk.places++p.id::List.replicate (k.brk.places.length-1) (-1):=by
    rw[nR _ _ (aC _),fL];obtain⟨m,hm⟩:∃m,k.brk.places.length=m+1:=⟨k.brk.places.length-1,by omega⟩;rw[hm,kT];rfl
   have st:=dQ (l:=k.brk.places++List.replicate k.brk.places.length (-1)) (i:=k.brk.places.length) (by rw[aB,aP];omega) p.id;rw[e1] at st;have s2:=bF (f:=I1) (l:=k.brk.places++p.id::List.replicate (k.brk.places.length-1) (-1));have ln:(k.brk.places++p.id::List.replicate (k.brk.places.length-1) (-1)).length=k.brk.places.length+k.brk.places.length:=by simp;omega
   rw[ln] at s2;simp only[ax,gu,bz,aO,lZ,m1,m2,EV,az,aE,aq,aw,sw,phi (ml (l:=k.brk.places) (by omega)),ai,s1,c1,fl,n0,aA,wR,kV,m4,Ej,aP,s3,ap,aB];unfold Mf;simp only[EV,ax,ixM (show k.brk.places.length<k.brk.places.length+k.brk.places.length by omega),dl,st,pKT,s2,m3,gu]
theorem c90 (hchk:Ans D 82 [KT k] [.i64 0])(p:Pt):Ans D 90 [KT k,PP p] [KT (tL k p).1,.i64 (tL k p).2]:=by
 have m1:=phi hchk;have m2:=phi (NC k.clock.pts p);obtain⟨l1,l2⟩:=sn hk;refine am ?_;unfold k90 tL;by_cases he:dO k.clock.pts p=0
 rotate_left
 .rw[ac he];simp[ax,gu,bz,aO,lZ,m1,m2,EV,he,sq]
 .obtain⟨o1,o2,o3⟩:=fK he;have P:=JX hk he;have m3:=phi (No hk.1 hn o2 P.n1 P.n64 P.val P.one);rw[Dw] at m3;rw[he] at m2;rw[ad he];simp only[ax,gu,bz,aO,lZ,pKT,m1,m2,EV,az,aE,aq,aw,sw,dl,phi (aig l1 l2 p.id),m3,Er]
theorem c98 (hchk:Ans D 82 [KT k] [.i64 0])(id:Int):Ans D 98 [KT k,.i64 id] [KT (p8 k id).1,.i64 (p8 k id).2]:=by
 have m1:=phi hchk;have m2:=phi (NA k.clock.pts id);obtain⟨l1,l2⟩:=sn hk;refine am ?_;unfold k98 p8;by_cases he:dw k.clock.pts id=0
 rotate_left
 .rw[ac he];simp[ax,gu,aO,lZ,m1,m2,EV,he,sq]
 .obtain⟨o1,o2,o3⟩:=fX he;have P:=zu hk he;have m3:=phi (No hk.1 hn o2 P.n1 P.n64 P.val P.one);rw[Dw] at m3;rw[he] at m2;rw[ad he];simp only[ax,gu,aO,lZ,pKT,m1,m2,EV,az,aE,aq,aw,sw,phi (aih l1 l2 id),m3,Er]
open Classical in
theorem aii (hchk:Ans D 78 [KT k] [.i64 0])(p:Pt):Ans D 102 [KT k,PP p] [KT (tM k p).1,.i64 (tM k p).2]:=by
 have m1:=phi hchk;have m2:=phi (Ny k.clock.pts p);refine am ?_;unfold Y4 tM;by_cases he:eM k.clock.pts p=0
 rotate_left
 .rw[ac he];simp[ax,gu,bz,aO,lZ,m1,m2,EV,he,sq]
 .obtain⟨o1,o2,o3⟩:=js he;have m3:=phi (Uf hk.1 hn o2 (JZ hk he));rw[he] at m2;rw[ad he];simp only[ax,gu,bz,aO,lZ,pKT,m1,m2,EV,az,aE,aq,aw,sw,m3,Er]
theorem aij (hchk:Ans D 82 [KT k] [.i64 0])(p:Pt):Ans D 106 [KT k,PP p] [KT (tM k p).1,.i64 (tM k p).2]:=by
 have m1:=phi hchk;have m2:=phi (NB k.clock.pts p);refine am ?_;unfold Y8 tM;by_cases he:eM k.clock.pts p=0
 rotate_left
 .rw[ac he];simp[ax,gu,bz,aO,lZ,m1,m2,EV,he,sq]
 .obtain⟨o1,o2,o3⟩:=js he;have P:=JZ hk he;have m3:=phi (No hk.1 hn o2 P.n1 P.n64 P.val P.one);rw[Dw] at m3;rw[he] at m2;rw[ad he];simp only[ax,gu,bz,aO,lZ,pKT,m1,m2,EV,az,aE,aq,aw,sw,m3,Er]
end
def W9 {pl:List Int}{id:Int}(h:∀x∈pl,-1<=x):∀x∈offP pl id,-1<=x:=λx hx=>by
 obtain⟨v,hv,e⟩:=bh.1 hx;have:=h v hv;split at e<;>omega
section
variable {k:KTourn}(hk:eH k)(hn:aX k.clock.now)
include hk hn
open Classical in
theorem c94 (hchk:Ans D 78 [KT k] [.i64 0])(id:Int):Ans D 94 [KT k,.i64 id] [KT (p8 k id).1,.i64 (p8 k id).2]:=by
 have m1:=phi hchk;have m2:=phi (Nv k.clock.pts id);obtain⟨l1,l2⟩:=sn hk;refine an ⟨1001,?_⟩;unfold k94 p8;by_cases he:dw k.clock.pts id=0
 rotate_left
 .rw[ac he];simp[ax,gu,aO,lZ,m1,m2,EV,he,sq]
 .obtain⟨o1,o2,o3⟩:=fX he;obtain⟨cnt,h0,hm⟩:=JY hk he;obtain⟨m,hm⟩:=aL.1 hm;have hml:=bb hm;have m3:=phi (Uf hk.1 hn o2 (zu hk he));have P:=zu hk he;rw[he] at m2;rw[ad he];generalize takeF k.clock.pts id=g at*;have so:=W8 hk.2.1.1.2.1 h0 hm;have st:=dQ (l:=k.brk.places) (i:=m) hml (-1);rw[so] at st;have ql:=uX k.brk.places id;have c1:=phi (Ff (l:=k.brk.places) id (by omega));have ix:lj (λy=>decide (id=y)) k.brk.places=(m:Int):=by
   have:k.brk.places.findIdx? (λy=>decide (id=y))=some m:=by
    obtain⟨e1,e2⟩:=aD.1 hm;rw[bD];refine⟨e1,by rw[e2];simp,λj hj e=>?_⟩;simp at e;have:=gT.1 hk.2.1.1.2.1 j m id h0 (by rw[ah (sH hj e1),e]) hm;omega
   unfold lj;rw[this];rfl
  rw[ix] at c1;have s1:=bF (f:=I1) (l:=k.brk.places);have fl:∀m:Int,RF.ev .flat [.v (.int .i64 m)]=some (.i64 m):=λ_=>rfl;have cF0:RF.ev (.cell 0) [F g]=some (sl row g):=rfl;have gl:=o2.1;have w4:IntKind.i64.wrap (4*(g.length:Int))=((4*g.length:Nat):Int):=by rw[bV (by omega) (by omega)];omega
  have gq:(offP k.brk.places id)[m]?=some (-1):=by rw[<-so,be hml]
  have e3:(keptP (offP k.brk.places id)).length=g.length:=cnt;have fin:∀(L:List Int) (n:Nat) (v18:PV),L.length=k.brk.places.length->L.take n=lf k.brk.places id->n=(lf k.brk.places id).length->∀v0 v1 v3 v4 v5 v6 v7 v9 v10 v11 v12 v13 v14 v15 v16 v17 v20:PV,den (aY D) 1001 Mh [] [v0,v1,KT k,v3,v4,v5,v6,v7,F g,v9,v10,v11,v12,v13,v14,v15,v16,v17,v18,sl I1 L,v20,.v (.int .i64 (n:Int))]=some [KT (jL g k.clock (lf k.brk.places id)).1,.i64 (jL g k.clock (lf k.brk.places id)).2]:=λL n v18 hL ht hn' v0 v1 v3 v4 v5 v6 v7 v9 v10 v11 v12 v13 v14 v15 v16 v17 v20=>by
   have s0:=Ns (hp:=L.take n) (tl:=L.drop n);rw[dN,aK,bH (by have:=bj List.length ht;rw[aK] at this;omega),ht] at s0;unfold Mh;simp only[EV,ax,pKT,s0,m3,gu]
  simp only[ax,gu,aO,lZ,m1,m2,EV,az,aE,aq,aw,sw,phi (ml (l:=k.brk.places) (by omega)),ai,s1,c1,fl,ixM hml,st,cF0,w4];have noC:¬(1<k.brk.places.length/\ 4*(keptP (offP k.brk.places id)).length<=k.brk.places.length)->lf k.brk.places id=offP k.brk.places id:=λh=>by unfold lf;rw[ac h]
  have out:∀b:Bool,¬(1<k.brk.places.length/\ 4*(keptP (offP k.brk.places id)).length<=k.brk.places.length)->b=false->True:=λ_ _ _=>trivial;by_cases c1:1<k.brk.places.length
  rotate_left
  .have e:=noC (λh=>c1 h.1);have d1:decide ((k.brk.places.length:Int)>1)=false:=aj (by omega);simp only[d1,EV,aq,aw];unfold A6;simp only[EV,aq,aw];exact fin (offP k.brk.places id) k.brk.places.length _ ql (by rw[e,<-ql,cW]) (by rw[e,ql]) _ _ _ _ _ _ _ _ _ _ _ _ _ _ _ _ _
  have d1:decide ((k.brk.places.length:Int)>1)=true:=au (by omega);by_cases c2:4*g.length<=k.brk.places.length
  rotate_left
  .have e:=noC (λh=>c2 (by rw[<-e3];exact h.2));have d2:decide (((4*g.length:Nat):Int)<=(k.brk.places.length:Int))=false:=aj (by omega);simp only[d1,EV,aA,d2];unfold A6;simp only[EV,aq,aw];exact fin (offP k.brk.places id) k.brk.places.length _ ql (by rw[e,<-ql,cW]) (by rw[e,ql]) _ _ _ _ _ _ _ _ _ _ _ _ _ _ _ _ _
  have d2:decide (((4*g.length:Nat):Int)<=(k.brk.places.length:Int))=true:=au (by omega);have eT:lf k.brk.places id=keptP (offP k.brk.places id)++List.replicate (k.brk.places.length/2-(keptP (offP k.brk.places id)).length) (-1):=by
   unfold lf;rw[ad ⟨c1,by rw[e3];exact c2⟩]
  simp only[d1,EV,aA,d2];unfold A6;simp only[EV,aA];rw[eT] at fin|-;rw[<-ql] at c1 c2 fin|-;have qn:=W9 (id:=id) (λx hx=>(lD hk.1.2.1 (hk.2.2.2.1 x hx)).1:∀x∈k.brk.places,-1<=x);have l2':(offP k.brk.places id).length<=64:=by omega
  generalize offP k.brk.places id=q at*;have kq:(keptP q).length<=q.length:=eZ _ _;obtain⟨fk,hfk⟩:∃fk,fk=keptP q:=⟨_,rfl⟩;rw[<-hfk] at e3 kq eT fin|-;refine(cw (m:=1001) (l:=q) (p:=λx=>!decide (x<0)) (st:=λi=>[.i64 (i:Int)]) (r:=some [KT (jL g k.clock (fk++List.replicate (q.length/2-fk.length) (-1))).1,.i64 (jL g k.clock (fk++List.replicate (q.length/2-fk.length) (-1))).2]) (fin:=some [KT (jL g k.clock (fk++List.replicate (q.length/2-fk.length) (-1))).1,.i64 (jL g k.clock (fk++List.replicate (q.length/2-fk.length) (-1))).2]) (λi a self ha hp=>?_) (λhall self=>?_) (by omega)).trans (ite_self _)
  .have hi:=aN ha;unfold Vh;simp only[EV,aa,bi hi,ixM hi,aJ ha,bZ,up1 (show i<1000000000 by omega)]
   by_cases c:a<0
   rotate_left
   .rw[ac c,ad (by simp;omega)]
   .rw[ad c,ac (show¬(i:Int)= -1 by omega),ac (by simp[c])]
    have hend:=xy ha c hp (q.length-(i+1)) (by omega);refine(dP (m:=1001) (n:=q.length-(i+1)) (st:=λt=>[sl I1 (cpt q i t).1,.i64 ((cpt q i t).2:Int),.i64 ((i+1+t:Nat):Int)]) (fin:=some [KT (jL g k.clock (fk++List.replicate (q.length/2-fk.length) (-1))).1,.i64 (jL g k.clock (fk++List.replicate (q.length/2-fk.length) (-1))).2]) (λt self ht=>?_) (λself=>?_) (by omega))
    .obtain⟨q1,q2,_,q4⟩:=xy ha c hp t (by omega);have hx:=ew (l:=q) (i:=i+1+t) (by omega);have hy:=q4 (i+1+t) (aC _);rw[hx] at hy;have hz:cpt q i (t+1)=if 0<=nthI q (i+1+t) then((cpt q i t).1.set (cpt q i t).2 (nthI q (i+1+t)),(cpt q i t).2+1) else cpt q i t:=rfl
     rw[hz];generalize cpt q i t=s at q1 q2 hy;generalize nthI q (i+1+t)=x at hy;unfold Mi;simp only[EV,aa,bi (show i+1+t<q.length by omega),ixM (show i+1+t<q.length by omega),aJ hy,bZ,ixM (show s.2<q.length by omega),dQ (l:=s.1) (i:=s.2) (by omega),up1 (show s.2<1000000000 by omega),Vg,up1 (show i+1+t<1000000000 by omega)]
     by_cases c0:x<0
     .rw[ac (by simp[c0]),ac (by omega)];rfl
     .rw[ad (by simp[c0]),ad (by omega)];rfl
    .rw[show i+1+(q.length-(i+1))=q.length by omega,cW] at hend
     rw[show i+1+(q.length-(i+1))=q.length by omega]
     generalize cpt q i (q.length-(i+1))=s at hend;obtain⟨L,n⟩:=s;obtain⟨q1,q2,q3,q4⟩:=hend;simp only at q1 q2 q3;have q3:L.take n=fk:=by rw[q3,hfk];rfl
     have hn':n=fk.length:=by rw[<-q3,aK];omega
     subst hn';have cl:=XS (L:=L) (a:=fk.length) (n:=q.length-fk.length) (by omega);rw[q3] at cl;have bn:RF.ev .bnd [.v (.int .i64 (fk.length:Int)),.v (.int .i64 (q.length:Int))]=some (.i64 (fk.length:Int)):=by rw[jO,ad ⟨by omega,by omega⟩]
     have dd:(q.length:Int)-(fk.length:Int)=((q.length-fk.length:Nat):Int):=by omega
     have q2':=T8 (i:=q.length) (by omega);have dh:IntKind.i64.wrap (((q.length/2:Nat):Int)-(fk.length:Int))=((q.length/2-fk.length:Nat):Int):=by rw[bV (by omega) (by omega)];omega
     have m4:=phi (X5 (n:=q.length/2-fk.length) (by omega) (by omega));have s3:=bF (f:=I1) (l:=List.replicate (q.length/2-fk.length) (-1));rw[aP] at s3;have ap:=VN (L:=fk++List.replicate (q.length-fk.length) 0) (S:=List.replicate (q.length/2-fk.length) (-1)) (n:=fk.length) (by simp;omega) (by simp;omega);rw[cI rfl] at ap;have sm:(fk.length:Int)+((q.length/2-fk.length:Nat):Int)=((fk.length+(q.length/2-fk.length):Nat):Int):=by omega
     unfold Mi;simp only[EV,aa,ac (show¬((q.length:Nat):Int)<((q.length:Nat):Int) by omega)]
     unfold Vf;simp only[EV,bn,yK,dd,cl,fN,q2',dh,wR,kV,ax,m4,Ej,ai,aP,s3,ap,sm];refine fin _ _ _ ?_ ?_ ?_ _ _ _ _ _ _ _ _ _ _ _ _ _ _ _ _ _
     .simp;omega
     .rw[cI (by simp)]
     .simp
  .exfalso;have:=aV.1 hall (-1) (ay gq);simp at this
end
end Go.Proofs.YtfghdmmapmdcgaaGreat
