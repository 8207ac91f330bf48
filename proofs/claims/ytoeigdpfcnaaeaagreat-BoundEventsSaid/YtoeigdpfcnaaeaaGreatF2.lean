import Derived.Test.YtoeigdpfcnaaeaaGreatF1
import Derived.Test.YtoeigdpfcnaaeaaGreatC3
import Derived.Test.YtoeigdpfcnaaeaaGreatE1
set_option linter.unusedVariables false
set_option linter.unusedSimpArgs false
set_option linter.defProp false
noncomputable section
namespace Go.Proofs.YtoeigdpfcnaaeaaGreat
open Go.Sym Bnd
set_option maxRecDepth 100000
def vD (n:Int):sgn n<0↔n<0:=by
 unfold sgn
 grind
section
variable {t:Rt}(hr:rok t=true)(ht:aS t)
include hr ht
theorem aj4 {k:KHeap}(hchk:Ans D 68 [KH k] [.i64 0])(hk:rok k.c.n=true)(hn:aS k.c.n)(hp:crs t k.c.n<0):Ans D 96 [KH k,R t] [KHz,.sl [],.i64 44]:=by
 have m1:=phi hchk;have m2:=phi (c43 ht);rw[hr,show okE true=0 from rfl] at m2
 have m3:=phi (rD ht hn);rw[hr,hk] at m3;have ng:=(vD _).2 hp;have pR0:RF.ev (.part 0 2) [KH k]=some (R k.c.n):=rfl;refine am ?_;unfold k45;simp[gc,ea,m1,m2,EV,pR0,m3,ng,pD]
theorem aj5 {k:KHeap}(hchk:Ans D 71 [KH k] [.i64 0])(hk:rok k.c.n=true)(hn:aS k.c.n)(hp:crs t k.c.n<0):Ans D 99 [KH k,R t] [KHz,.sl [],.i64 44]:=by
 have m1:=phi hchk;have m2:=phi (c43 ht);rw[hr,show okE true=0 from rfl] at m2
 have m3:=phi (rD ht hn);rw[hr,hk] at m3;have ng:=(vD _).2 hp;have pR0:RF.ev (.part 0 2) [KH k]=some (R k.c.n):=rfl;refine am ?_;unfold k48;simp[gc,ea,m1,m2,EV,pR0,m3,ng,pD]
theorem aj6 {k:KTourn}(hchk:Ans D 69 [KT k] [.i64 0])(hk:rok k.c.n=true)(hn:aS k.c.n)(hp:crs t k.c.n<0):Ans D 97 [KT k,R t] [KTz,.sl [],.i64 44]:=by
 have m1:=phi hchk;have m2:=phi (c43 ht);rw[hr,show okE true=0 from rfl] at m2
 have m3:=phi (rD ht hn);rw[hr,hk] at m3;have ng:=(vD _).2 hp;have pR0:RF.ev (.part 0 2) [KT k]=some (R k.c.n):=rfl;refine am ?_;unfold k46;simp[mI,ea,m1,m2,EV,pR0,m3,ng,yr]
theorem aj7 {k:Heater}(hchk:Ans D 70 [HT k] [.i64 0])(hk:rok k.c.n=true)(hn:aS k.c.n)(hp:crs t k.c.n<0):Ans D 98 [HT k,R t] [HTz,.sl [],.i64 44]:=by
 have m1:=phi hchk;have m2:=phi (c43 ht);rw[hr,show okE true=0 from rfl] at m2
 have m3:=phi (rD ht hn);rw[hr,hk] at m3;have ng:=(vD _).2 hp;have pR0:RF.ev (.part 0 2) [HT k]=some (R k.c.n):=rfl;refine am ?_;unfold k47;simp[mJ,ea,m1,m2,EV,pR0,m3,ng,yu]
end
def aj8 {c:Clock}{t:Rt}(hr:rok t=true)(ht:aS t)(hn:aS c.n):Ans D 105 [CL c,R t] [.i64 (if crs t c.n<0 then 44 else 0)]:=by
 have m2:=phi (ql ht);rw[hr,show okE true=0 from rfl] at m2
 refine am ?_;unfold abk;simp[bX,ea,m2,EV,eZ,phi (Do ht hn),vD];split<;>rfl
def yz (c:Choice)(t:Rt):Int:=if cH t=0 then if crs t (jz c).n<0 then 44 else 0 else cH t
def c49 {c:Choice}{t:Rt}(ht:aS t)(hn:aS (jz c).n):Ans D 39 [CHO c,R t] [.i64 (yz c t)]:=by
 have m1:=phi (ql ht);have m2:=phi (c64 ht);have n8:decide ((8:Int)=0)=false:=rfl;have n2:decide ((2:Int)=0)=false:=rfl;refine am ?_;unfold k49 yz;cases hr:rok t with
 |false=>
  have e:cH t=8:=by unfold cH;rw[hr];rfl
  rw[hr,show okE false=8 from rfl] at m1
  simp[dt,ea,m1,EV,n8,e,show¬(8:Int)=0 by decide]
 |true=>
  rw[hr,show okE true=0 from rfl] at m1
  have m3:=phi (aj8 hr ht hn);have e2:cH t=0\/cH t=2:=by
   unfold cH
   grind
  rcases e2 with e|e
  .rw[e] at m2|-;simp only[ay,dt,ea,m1,EV,aA,aF,au,aw,m2,phi (c13 c),m3,az]
  .rw[e] at m2|-;simp only[ay,dt,ea,m1,EV,aA,aF,au,aw,m2,n2,bA,az,show¬(2:Int)=0 by decide,be]
def gx (l:List PV)(i:Nat):PV:=l.getD i (.i64 0)
def FI {l:List PV}{i:Nat}(h:i<l.length):RF.ev (.cell i) [.agg l]=some (gx l i):=by
 show l[i]?=_
 unfold gx;rw[ai h,List.getD_eq_getElem?_getD,ai h];rfl
def kn (c:Choice){i:Nat}(h1:1<=i)(h2:i<=50):RF.ev (.cell i) [CHO c]=some (gx (bf c) i):=FI (show i<51 by omega)
def qX (k:KHeap){i:Nat}(h:i<=11):RF.ev (.cell i) [KH k]=some (gx (khC k) i):=FI (show i<12 by omega)
def BM (k:KTourn){i:Nat}(h:i<=12):RF.ev (.cell i) [KT k]=some (gx (ktC k) i):=FI (show i<13 by omega)
def BN (k:Heater){i:Nat}(h:i<=12):RF.ev (.cell i) [HT k]=some (gx (htC k) i):=FI (show i<13 by omega)
def jA (c:Choice)(L:PV)(e:Int):List PV:=if e=0 then [CHO c,L,.i64 0] else [CHO zCH,.sl [],.i64 e]
def mQ {c:Choice}{L:PV}{e:Int}:(jA c L e).length=3:=by unfold jA;split<;>rfl
section
variable (g:Int)(c:Choice)
def WP (k:KHeap):RF.ev .agg [.v (.int .u8 g),gx (khC k) 0,gx (khC k) 1,gx (khC k) 2,gx (khC k) 3,gx (khC k) 4,gx (khC k) 5,gx (khC k) 6,gx (khC k) 7,gx (khC k) 8,gx (khC k) 9,gx (khC k) 10,gx (khC k) 11,gx (bf c) 13,gx (bf c) 14,gx (bf c) 15,gx (bf c) 16,gx (bf c) 17,gx (bf c) 18,gx (bf c) 19,gx (bf c) 20,gx (bf c) 21,gx (bf c) 22,gx (bf c) 23,gx (bf c) 24,gx (bf c) 25,gx (bf c) 26,gx (bf c) 27,gx (bf c) 28,gx (bf c) 29,gx (bf c) 30,gx (bf c) 31,gx (bf c) 32,gx (bf c) 33,gx (bf c) 34,gx (bf c) 35,gx (bf c) 36,gx (bf c) 37,gx (bf c) 38,gx (bf c) 39,gx (bf c) 40,gx (bf c) 41,gx (bf c) 42,gx (bf c) 43,gx (bf c) 44,gx (bf c) 45,gx (bf c) 46,gx (bf c) 47,gx (bf c) 48,gx (bf c) 49,gx (bf c) 50]=some (CHO ⟨g,k,c.o,c.x,c.g⟩):=rfl
def WQ (k:KTourn):RF.ev .agg [.v (.int .u8 g),gx (bf c) 1,gx (bf c) 2,gx (bf c) 3,gx (bf c) 4,gx (bf c) 5,gx (bf c) 6,gx (bf c) 7,gx (bf c) 8,gx (bf c) 9,gx (bf c) 10,gx (bf c) 11,gx (bf c) 12,gx (ktC k) 0,gx (ktC k) 1,gx (ktC k) 2,gx (ktC k) 3,gx (ktC k) 4,gx (ktC k) 5,gx (ktC k) 6,gx (ktC k) 7,gx (ktC k) 8,gx (ktC k) 9,gx (ktC k) 10,gx (ktC k) 11,gx (ktC k) 12,gx (bf c) 26,gx (bf c) 27,gx (bf c) 28,gx (bf c) 29,gx (bf c) 30,gx (bf c) 31,gx (bf c) 32,gx (bf c) 33,gx (bf c) 34,gx (bf c) 35,gx (bf c) 36,gx (bf c) 37,gx (bf c) 38,gx (bf c) 39,gx (bf c) 40,gx (bf c) 41,gx (bf c) 42,gx (bf c) 43,gx (bf c) 44,gx (bf c) 45,gx (bf c) 46,gx (bf c) 47,gx (bf c) 48,gx (bf c) 49,gx (bf c) 50]=some (CHO ⟨g,c.heap,k,c.x,c.g⟩):=rfl
def WS (k:Heater):RF.ev .agg [.v (.int .u8 g),gx (bf c) 1,gx (bf c) 2,gx (bf c) 3,gx (bf c) 4,gx (bf c) 5,gx (bf c) 6,gx (bf c) 7,gx (bf c) 8,gx (bf c) 9,gx (bf c) 10,gx (bf c) 11,gx (bf c) 12,gx (bf c) 13,gx (bf c) 14,gx (bf c) 15,gx (bf c) 16,gx (bf c) 17,gx (bf c) 18,gx (bf c) 19,gx (bf c) 20,gx (bf c) 21,gx (bf c) 22,gx (bf c) 23,gx (bf c) 24,gx (bf c) 25,gx (htC k) 0,gx (htC k) 1,gx (htC k) 2,gx (htC k) 3,gx (htC k) 4,gx (htC k) 5,gx (htC k) 6,gx (htC k) 7,gx (htC k) 8,gx (htC k) 9,gx (htC k) 10,gx (htC k) 11,gx (htC k) 12,gx (bf c) 39,gx (bf c) 40,gx (bf c) 41,gx (bf c) 42,gx (bf c) 43,gx (bf c) 44,gx (bf c) 45,gx (bf c) 46,gx (bf c) 47,gx (bf c) 48,gx (bf c) 49,gx (bf c) 50]=some (CHO ⟨g,c.heap,c.o,k,c.g⟩):=rfl
def WT (k:KHeap):RF.ev .agg [.v (.int .u8 g),gx (bf c) 1,gx (bf c) 2,gx (bf c) 3,gx (bf c) 4,gx (bf c) 5,gx (bf c) 6,gx (bf c) 7,gx (bf c) 8,gx (bf c) 9,gx (bf c) 10,gx (bf c) 11,gx (bf c) 12,gx (bf c) 13,gx (bf c) 14,gx (bf c) 15,gx (bf c) 16,gx (bf c) 17,gx (bf c) 18,gx (bf c) 19,gx (bf c) 20,gx (bf c) 21,gx (bf c) 22,gx (bf c) 23,gx (bf c) 24,gx (bf c) 25,gx (bf c) 26,gx (bf c) 27,gx (bf c) 28,gx (bf c) 29,gx (bf c) 30,gx (bf c) 31,gx (bf c) 32,gx (bf c) 33,gx (bf c) 34,gx (bf c) 35,gx (bf c) 36,gx (bf c) 37,gx (bf c) 38,gx (khC k) 0,gx (khC k) 1,gx (khC k) 2,gx (khC k) 3,gx (khC k) 4,gx (khC k) 5,gx (khC k) 6,gx (khC k) 7,gx (khC k) 8,gx (khC k) 9,gx (khC k) 10,gx (khC k) 11]=some (CHO ⟨g,c.heap,c.o,c.x,k⟩):=rfl
end
section
variable {c:Choice}{t:Rt}{L:PV}{e:Int}
def NU (hc:bx D 27 [CHO c]=some [.i64 0])(hr:rok t=true)(ht:aS t)(ha:cH t=0)(t1:c.tag=1){k:KHeap}(h:Ans D 96 [KH c.heap,R t] [KH k,L,.i64 e]):Ans D 37 [CHO c,R t] (jA ⟨1,k,c.o,c.x,c.g⟩ L e):=by
 have m1:=phi (c43 ht);rw[hr,show okE true=0 from rfl] at m1
 have m2:=phi (c44 ht);rw[ha] at m2;have m3:=phi h;refine an (hl:=mQ) ⟨1,?_⟩;unfold k15 jA;by_cases he:e=0
 .subst he;simp only[ay,dt,ea,hc,m1,m2,EV,aA,aF,au,aw,cCH,t1,u8E,az,Dw,m3,gc,qX,kn,Nat.reduceLeDiff,aB,sf,WP]
 .have de:decide (e=0)=false:=ak he;simp only[ay,dt,ea,hc,m1,m2,EV,aA,aF,au,aw,cCH,t1,u8E,az,Dw,m3,gc,qX,kn,Nat.reduceLeDiff,aB,sf,de,bA,rH,ac he];rfl
def NV (hc:bx D 27 [CHO c]=some [.i64 0])(hr:rok t=true)(ht:aS t)(ha:cH t=0)(t1:c.tag=2){k:KTourn}(h:Ans D 97 [KT c.o,R t] [KT k,L,.i64 e]):Ans D 37 [CHO c,R t] (jA ⟨2,c.heap,k,c.x,c.g⟩ L e):=by
 have m1:=phi (c43 ht);rw[hr,show okE true=0 from rfl] at m1
 have m2:=phi (c44 ht);rw[ha] at m2;have m3:=phi h;refine an (hl:=mQ) ⟨1,?_⟩;unfold k15 jA;have d21:decide ((2:Int)=1)=false:=rfl;by_cases he:e=0
 .subst he;simp only[ay,dt,ea,hc,m1,m2,EV,aA,aF,au,aw,cCH,t1,u8E,d21,az,Dx,m3,mI,BM,kn,Nat.reduceLeDiff,aB,xf,sf,WQ]
 .have de:decide (e=0)=false:=ak he;simp only[ay,dt,ea,hc,m1,m2,EV,aA,aF,au,aw,cCH,t1,u8E,d21,az,Dx,m3,mI,BM,kn,Nat.reduceLeDiff,aB,xf,sf,de,bA,rH,ac he];rfl
def NW (hc:bx D 27 [CHO c]=some [.i64 0])(hr:rok t=true)(ht:aS t)(ha:cH t=0)(t1:c.tag=3){k:Heater}(h:Ans D 98 [HT c.x,R t] [HT k,L,.i64 e]):Ans D 37 [CHO c,R t] (jA ⟨3,c.heap,c.o,k,c.g⟩ L e):=by
 have m1:=phi (c43 ht);rw[hr,show okE true=0 from rfl] at m1
 have m2:=phi (c44 ht);rw[ha] at m2;have m3:=phi h;refine an (hl:=mQ) ⟨1,?_⟩;unfold k15 jA;have d31:decide ((3:Int)=1)=false:=rfl;have d32:decide ((3:Int)=2)=false:=rfl;by_cases he:e=0
 .subst he;simp only[ay,dt,ea,hc,m1,m2,EV,aA,aF,au,aw,cCH,t1,u8E,d31,d32,az,Dy,m3,mJ,BN,kn,Nat.reduceLeDiff,aB,BQ,xf,sf,WS]
 .have de:decide (e=0)=false:=ak he;simp only[ay,dt,ea,hc,m1,m2,EV,aA,aF,au,aw,cCH,t1,u8E,d31,d32,az,Dy,m3,mJ,BN,kn,Nat.reduceLeDiff,aB,BQ,xf,sf,de,bA,rH,ac he];rfl
def NX (hc:bx D 27 [CHO c]=some [.i64 0])(hr:rok t=true)(ht:aS t)(ha:cH t=0)(t1:c.tag=4){k:KHeap}(h:Ans D 99 [KH c.g,R t] [KH k,L,.i64 e]):Ans D 37 [CHO c,R t] (jA ⟨4,c.heap,c.o,c.x,k⟩ L e):=by
 have m1:=phi (c43 ht);rw[hr,show okE true=0 from rfl] at m1
 have m2:=phi (c44 ht);rw[ha] at m2;have m3:=phi h;refine an (hl:=mQ) ⟨1,?_⟩;unfold k15 jA;have d41:decide ((4:Int)=1)=false:=rfl;have d42:decide ((4:Int)=2)=false:=rfl;have d43:decide ((4:Int)=3)=false:=rfl;by_cases he:e=0
 .subst he;simp only[ay,dt,ea,hc,m1,m2,EV,aA,aF,au,aw,cCH,t1,u8E,d41,d42,d43,az,Dz,m3,gc,qX,kn,Nat.reduceLeDiff,aB,BQ,xf,sf,WT]
 .have de:decide (e=0)=false:=ak he;simp only[ay,dt,ea,hc,m1,m2,EV,aA,aF,au,aw,cCH,t1,u8E,d41,d42,d43,az,Dz,m3,gc,qX,kn,Nat.reduceLeDiff,aB,BQ,xf,sf,de,bA,rH,ac he];rfl
def agW (t1:c.tag=1){k:KHeap}(h:Ans D 106 [KH c.heap,R t] [KH k,L,.i64 e]):Ans D 40 [CHO c,R t] (jA ⟨1,k,c.o,c.x,c.g⟩ L e):=by
 have m3:=phi h;refine an (hl:=mQ) ⟨1,?_⟩;unfold k50 jA;by_cases he:e=0
 .subst he;simp only[ay,dt,ea,EV,aA,aF,au,aw,cCH,t1,u8E,az,Dw,m3,gc,qX,kn,Nat.reduceLeDiff,aB,sg,WP]
 .have de:decide (e=0)=false:=ak he;simp only[ay,dt,ea,EV,aA,aF,au,aw,cCH,t1,u8E,az,Dw,m3,gc,qX,kn,Nat.reduceLeDiff,aB,sg,de,bA,rH,ac he];rfl
def agX (t1:c.tag=2){k:KTourn}(h:Ans D 107 [KT c.o,R t] [KT k,L,.i64 e]):Ans D 40 [CHO c,R t] (jA ⟨2,c.heap,k,c.x,c.g⟩ L e):=by
 have m3:=phi h;refine an (hl:=mQ) ⟨1,?_⟩;unfold k50 jA;have d21:decide ((2:Int)=1)=false:=rfl;by_cases he:e=0
 .subst he;simp only[ay,dt,ea,EV,aA,aF,au,aw,cCH,t1,u8E,d21,az,Dx,m3,mI,BM,kn,Nat.reduceLeDiff,aB,xg,sg,WQ]
 .have de:decide (e=0)=false:=ak he;simp only[ay,dt,ea,EV,aA,aF,au,aw,cCH,t1,u8E,d21,az,Dx,m3,mI,BM,kn,Nat.reduceLeDiff,aB,xg,sg,de,bA,rH,ac he];rfl
def agY (t1:c.tag=3){k:Heater}(h:Ans D 108 [HT c.x,R t] [HT k,L,.i64 e]):Ans D 40 [CHO c,R t] (jA ⟨3,c.heap,c.o,k,c.g⟩ L e):=by
 have m3:=phi h;refine an (hl:=mQ) ⟨1,?_⟩;unfold k50 jA;have d31:decide ((3:Int)=1)=false:=rfl;have d32:decide ((3:Int)=2)=false:=rfl;by_cases he:e=0
 .subst he;simp only[ay,dt,ea,EV,aA,aF,au,aw,cCH,t1,u8E,d31,d32,az,Dy,m3,mJ,BN,kn,Nat.reduceLeDiff,aB,BT,xg,sg,WS]
 .have de:decide (e=0)=false:=ak he;simp only[ay,dt,ea,EV,aA,aF,au,aw,cCH,t1,u8E,d31,d32,az,Dy,m3,mJ,BN,kn,Nat.reduceLeDiff,aB,BT,xg,sg,de,bA,rH,ac he];rfl
def agZ (t1:c.tag=4){k:KHeap}(h:Ans D 109 [KH c.g,R t] [KH k,L,.i64 e]):Ans D 40 [CHO c,R t] (jA ⟨4,c.heap,c.o,c.x,k⟩ L e):=by
 have m3:=phi h;refine an (hl:=mQ) ⟨1,?_⟩;unfold k50 jA;have d41:decide ((4:Int)=1)=false:=rfl;have d42:decide ((4:Int)=2)=false:=rfl;have d43:decide ((4:Int)=3)=false:=rfl;by_cases he:e=0
 .subst he;simp only[ay,dt,ea,EV,aA,aF,au,aw,cCH,t1,u8E,d41,d42,d43,az,Dz,m3,gc,qX,kn,Nat.reduceLeDiff,aB,N6,BT,xg,sg,WT]
 .have de:decide (e=0)=false:=ak he;simp only[ay,dt,ea,EV,aA,aF,au,aw,cCH,t1,u8E,d41,d42,d43,az,Dz,m3,gc,qX,kn,Nat.reduceLeDiff,aB,N6,BT,xg,sg,de,bA,rH,ac he];rfl
end
def FJ {c:Clock}{t:Rt}(h:gW c):gW (atC c t):=by obtain⟨h1,h2,h3,h4⟩:=h;exact⟨h1,h2,h3,h4⟩
section
variable {t:Rt}(hr:rok t=true)(ht:aS t)
include hr ht
open Classical in
theorem go1 {bb:Nat}{k:KHeap}(hk:iR k)(h64:fb k.c)(hg:gKh bb k=false)(hp:crs k.c.n t<=0):∃(x:KHeap) (out:List Crt) (e:Int),(Ans D 96 [KH k,R t] [KH x,sl crow out,.i64 e]/\ Ans D 106 [KH k,R t] [KH x,sl crow out,.i64 e])/\(gW x.c/\ x.heap.length<=1000)/\ out.length<=30000000:=by
 have h:=Ha hk h64;have hl:=h.ok.2.1;have hchk:=c77 h64 hg;rw[aq hk] at hchk;have a:=c45 hchk h hr ht hp;have b:=aj3 h hr ht hp;have ha:=DM hl (t:=t) h;unfold goK at a b;cases hgo:pE t k.c k.heap with
 |none=>rw[hgo] at a b;exact⟨zKH,[],18,⟨a,b⟩,⟨yp,b8 _⟩,b8 _⟩
 |some z=>
  obtain⟨d,hq,out⟩:=z;rw[hgo] at a b ha;obtain⟨q1,q2,q3,q5⟩:=xW hl 30000000 k.c k.heap [] d hq out h hp ha;exact⟨⟨atC d t,hq⟩,out,0,⟨a,b⟩,⟨FJ (qL q1.ok),by have:=q1.len;have:=hl.1;show hq.length<=1000;omega⟩,by simpa using q5⟩
open Classical in
theorem go2 {bb:Nat}{k:KTourn}(hk:fk k)(h64:fb k.c)(hg:gKt bb k=false)(hp:crs k.c.n t<=0):∃(x:KTourn) (out:List Crt) (e:Int),(Ans D 97 [KT k,R t] [KT x,sl crow out,.i64 e]/\ Ans D 107 [KT k,R t] [KT x,sl crow out,.i64 e])/\(gW x.c/\ x.b.p.length<=1000/\ x.b.w.length<=1000)/\ out.length<=30000000:=by
 obtain⟨h,hu,⟨h1,h2,ho⟩,hall⟩:=EO hk h64;have hl:=h.ok.2.1;have hv:=hk.2.2.2.1;have hchk:=c78 h64 hg;rw[aq hk] at hchk;have a:=c46 h hu h1 h2 hv ho hr ht hp hchk;have b:=aj1 h hu h1 h2 hv ho hr ht hp hall;have ha:=nF hl (sF hl h1 h2 hv ho) (t:=t) h;have e:edT k.c.p k.b.p=λt=>edsB (bracketOf t k.c.p k.b.p).w k.b.p (bracketOf t k.c.p k.b.p).w.length:=rfl;unfold goT at a b;rw[e] at a b;cases hgo:fG (λt=>edsB (bracketOf t k.c.p k.b.p).w k.b.p (bracketOf t k.c.p k.b.p).w.length) t k.c with
 |none=>rw[hgo] at a b;exact⟨zKT,[],18,⟨a,b⟩,⟨yp,b8 _,b8 _⟩,b8 _⟩
 |some z=>
  obtain⟨d,out⟩:=z;rw[hgo] at a b ha;obtain⟨q1,q2,q3,_,q5⟩:=lR (sF hl h1 h2 hv ho) 5000 k.c [] d out h hp ha;have wl:=(gA (t:=t) hl h1 h2 hv ho).1;exact⟨⟨atC d t,bracketOf t k.c.p k.b.p⟩,out,0,⟨a,b⟩,⟨FJ (qL q1.ok),by show k.b.p.length<=1000;omega,by show(bracketOf t k.c.p k.b.p).w.length<=1000;omega⟩,by rw[cw] at q5;omega⟩
open Classical in
theorem go3 {bb:Nat}{k:Heater}(hk:jO k)(h64:fb k.c)(hg:gHt bb k=false)(hp:crs k.c.n t<=0):∃(x:Heater) (out:List Crt) (e:Int),(Ans D 98 [HT k,R t] [HT x,sl crow out,.i64 e]/\ Ans D 108 [HT k,R t] [HT x,sl crow out,.i64 e])/\(gW x.c/\ x.t.n.length<=1000)/\ out.length<=30000000:=by
 obtain⟨h,hall⟩:=G9 hk h64;have hl:=h.ok.2.1;have hchk:=c79 h64 hg;rw[aq hk] at hchk;have a:=c47 hchk h hk.2.1.symm hr ht hp;have b:=aj0 h hk.2.1.symm hall hr ht hp;have ha:=nF hl (vB hl) (t:=t) h;unfold goH at a b;cases hgo:fG (λt=>edgsT (cart t k.c.p).n k.c.p.length) t k.c with
 |none=>rw[hgo] at a b;exact⟨zHT,[],18,⟨a,b⟩,⟨yp,b8 _⟩,b8 _⟩
 |some z=>
  obtain⟨d,out⟩:=z;rw[hgo] at a b ha;obtain⟨q1,q2,q3,_,q5⟩:=lR (vB hl) 5000 k.c [] d out h hp ha;exact⟨⟨atC d t,cart t k.c.p⟩,out,0,⟨a,b⟩,⟨FJ (qL q1.ok),by show(cart t k.c.p).n.length<=1000;rw[jl hl];have:=hl.1;omega⟩,by rw[cw] at q5;omega⟩
open Classical in
theorem go4 {bb:Nat}{k:KHeap}(hk:jN k)(h64:fb k.c)(hg:gKh bb k=false)(hp:crs k.c.n t<=0):∃(x:KHeap) (out:List Crt) (e:Int),(Ans D 99 [KH k,R t] [KH x,sl crow out,.i64 e]/\ Ans D 109 [KH k,R t] [KH x,sl crow out,.i64 e])/\(gW x.c/\ x.heap.length<=1000)/\ out.length<=30000000:=by
 obtain⟨h,hall⟩:=G8 hk h64;have hl:=h.ok.2.1;have hchk:=c80 h64 hg;rw[aq hk] at hchk;have a:=c48 hchk h hk.2.1.symm hr ht hp;have b:=ajZ h hk.2.1.symm hall hr ht hp;have ha:=nF hl (vA hl) (t:=t) h;unfold goU at a b;cases hgo:fG (λt=>cG k.c.p (cF t k.c.p)) t k.c with
 |none=>rw[hgo] at a b;exact⟨zKH,[],18,⟨a,b⟩,⟨yp,b8 _⟩,b8 _⟩
 |some z=>
  obtain⟨d,out⟩:=z;rw[hgo] at a b ha;obtain⟨q1,q2,q3,_,q5⟩:=lR (vA hl) 5000 k.c [] d out h hp ha;exact⟨⟨atC d t,cF t k.c.p⟩,out,0,⟨a,b⟩,⟨FJ (qL q1.ok),by show(cF t k.c.p).length<=1000;rw[oR];have:=hl.1;omega⟩,by rw[cw] at q5;omega⟩
end
def ag0 {bb:Nat}{c:Choice}(hg:gCh bb c=false):ChW c:=by
 obtain⟨g1,g2,g3,g4⟩:=wP hg;obtain⟨b1,b2,b3⟩:=vq g2;have hh:=Bw g3;exact⟨We g1,⟨Fs b1,by omega,by omega⟩,⟨Fs hh.1,by have:=hh.2;omega⟩,We g4⟩
section
variable {c:Choice}{t:Rt}
def Wnt (c:Choice)(t:Rt)(f g:FuncId):Prop:=∃(x:Choice) (out:List Crt) (e:Int),(Ans D f [CHO c,R t] [CHO x,sl crow out,.i64 e]/\ Ans D g [CHO c,R t] [CHO x,sl crow out,.i64 e])/\ ChW x/\ out.length<=30000000
def BO {f g:FuncId}{x:Choice}{out:List Crt}{e:Int}(h1:Ans D f [CHO c,R t] (jA x (sl crow out) e))(h2:Ans D g [CHO c,R t] (jA x (sl crow out) e))(hx:ChW x)(ho:out.length<=30000000):Wnt c t f g:=by
 unfold jA at h1 h2;by_cases he:e=0
 .rw[ad he] at h1 h2;exact⟨x,out,0,⟨h1,h2⟩,hx,ho⟩
 .rw[ac he] at h1 h2;exact⟨zCH,[],e,⟨h1,h2⟩,agw,b8 _⟩
open Classical in
def aj9 {bb:Nat}(h64:Cho64 c)(hg:gCh bb c=false)(hok:qK c)(hr:rok t=true)(ht:aS t)(ha:cH t=0)(hp:crs (jz c).n t<=0):Wnt c t 37 40:=by
 obtain⟨g1,g2,g3,g4⟩:=wP hg;obtain⟨w1,w2,w3,w4⟩:=ag0 hg;have hc:=phi (c26 h64 hg);rw[aq hok,aah] at hc;have hq:=hok.2.1;unfold fJ at hq;unfold jz at hp;by_cases t1:c.tag=1
 .rw[ad t1] at hq hp;obtain⟨x,out,e,⟨a,b⟩,hx,ho⟩:=go1 hr ht hq h64.h1 g1 hp;exact BO (NU hc hr ht ha t1 a) (agW t1 b) ⟨hx,w2,w3,w4⟩ ho
 rw[ac t1] at hq hp;by_cases t2:c.tag=2
 .rw[ad t2] at hq hp;obtain⟨x,out,e,⟨a,b⟩,hx,ho⟩:=go2 hr ht hq h64.h2 g2 hp;exact BO (NV hc hr ht ha t2 a) (agX t2 b) ⟨w1,hx,w3,w4⟩ ho
 rw[ac t2] at hq hp;by_cases t3:c.tag=3
 .rw[ad t3] at hq hp;obtain⟨x,out,e,⟨a,b⟩,hx,ho⟩:=go3 hr ht hq h64.h3 g3 hp;exact BO (NW hc hr ht ha t3 a) (agY t3 b) ⟨w1,w2,hx,w4⟩ ho
 rw[ac t3] at hq hp;by_cases t4:c.tag=4
 .rw[ad t4] at hq;obtain⟨x,out,e,⟨a,b⟩,hx,ho⟩:=go4 hr ht hq h64.h4 g4 hp;exact BO (NX hc hr ht ha t4 a) (agZ t4 b) ⟨w1,w2,w3,hx⟩ ho
 .grind
open Classical in
def aka {bb:Nat}(h64:Cho64 c)(hg:gCh bb c=false)(hok:qK c)(hr:rok t=true)(ht:aS t)(ha:cH t=0)(hp:crs t (jz c).n<0):Ans D 37 [CHO c,R t] [CHO zCH,.sl [],.i64 44]:=by
 obtain⟨g1,g2,g3,g4⟩:=wP hg;have hc:=phi (c26 h64 hg);rw[aq hok,aah] at hc;have hq:=hok.2.1;unfold fJ at hq;unfold jz at hp;by_cases t1:c.tag=1
 .rw[ad t1] at hq hp;have hchk:=c77 h64.h1 g1;rw[aq hq] at hchk;exact NU (k:=zKH) (e:=44) hc hr ht ha t1 (aj4 hr ht hchk hq.1.1 h64.h1.1 hp)
 rw[ac t1] at hq hp;by_cases t2:c.tag=2
 .rw[ad t2] at hq hp;have hchk:=c78 h64.h2 g2;rw[aq hq] at hchk;exact NV (k:=zKT) (e:=44) hc hr ht ha t2 (aj6 hr ht hchk hq.1.1 h64.h2.1 hp)
 rw[ac t2] at hq hp;by_cases t3:c.tag=3
 .rw[ad t3] at hq hp;have hchk:=c79 h64.h3 g3;rw[aq hq] at hchk;exact NW (k:=zHT) (e:=44) hc hr ht ha t3 (aj7 hr ht hchk hq.1.1 h64.h3.1 hp)
 rw[ac t3] at hq hp;by_cases t4:c.tag=4
 .rw[ad t4] at hq;have hchk:=c80 h64.h4 g4;rw[aq hq] at hchk;exact NX (k:=zKH) (e:=44) hc hr ht ha t4 (aj5 hr ht hchk hq.1.1 h64.h4.1 hp)
 .rw[ac t4] at hq;exact hq.elim
def n8:decide ((8:Int)=0)=false:=rfl
def n2:decide ((2:Int)=0)=false:=rfl
def d15 (hc:bx D 27 [CHO c]=some [.i64 0])(ht:aS t)(ha:cH t≠0):Ans D 37 [CHO c,R t] [CHO zCH,.sl [],.i64 (cH t)]:=by
 have m1:=phi (c43 ht);have m2:=phi (c44 ht);refine am ?_;unfold k15;cases hr:rok t with
 |false=>
  have e:cH t=8:=by unfold cH;rw[hr];rfl
  rw[hr,show okE false=8 from rfl] at m1
  simp only[ay,dt,ea,hc,m1,EV,aA,aF,au,aw,n8,bA,az,rH,e];rfl
 |true=>
  have e:cH t=2:=(asked_two hr).resolve_left ha;rw[hr,show okE true=0 from rfl] at m1
  rw[e] at m2|-;simp only[ay,dt,ea,hc,m1,m2,EV,aA,aF,au,aw,n2,bA,az,rH];rfl
end
end Go.Proofs.YtoeigdpfcnaaeaaGreat
