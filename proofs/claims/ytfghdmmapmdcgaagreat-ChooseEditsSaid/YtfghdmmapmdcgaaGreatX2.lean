import Derived.Test.YtfghdmmapmdcgaaGreatX1
import Derived.Test.YtfghdmmapmdcgaaGreatF1
set_option linter.unusedVariables false
set_option linter.unusedSimpArgs false
set_option linter.defProp false
noncomputable section
namespace Go.Proofs.YtfghdmmapmdcgaaGreat
open Go.Sym Bnd
set_option maxRecDepth 100000
def th:gW zKH.clock/\ zKH.heap.length<=1000:=⟨Ad,di _⟩
def EX:gW zKT.clock/\ zKT.brk.places.length<=1000/\ zKT.brk.wins.length<=1000:=⟨Ad,di _,di _⟩
def EY:gW zHT.clock/\ zHT.tree.nodes.length<=1000:=⟨Ad,di _⟩
section
variable {c:Clock}{g:List Pt}(h:bx c)(hn:aX c.now)(hg:okF g)
include h hn hg
theorem J2 {hp:List Int}(pm:hp.Perm (g.map Pt.id)):gW (oV g c hp).1.clock/\(oV g c hp).1.heap.length<=1000:=by
 have hE:=Aa hg pm;unfold oV;cases hr:renewG g (dY hp) c with
 |none=>exact th
 |some d=>exact⟨qQ (tg hg ⟨hE.ok,hE.low,hE.high⟩ h hn hr).1,by show hp.length<=1000;rw[pm.length_eq,ai];have:=hg.1;omega⟩
theorem J3:gW (wQ g c).1.clock/\(wQ g c).1.heap.length<=1000:=by
 have hE:=Ab (t:=c.now) hg;unfold wQ;cases hr:renewG g (edgesU g (upsO c.now g)) c with
 |none=>exact th
 |some d=>exact⟨qQ (tg hg ⟨hE.ok,hE.low,hE.high⟩ h hn hr).1,by show(upsO c.now g).length<=1000;rw[rf];have:=hg.1;omega⟩
theorem J4:gW (qG g c).1.clock/\(qG g c).1.tree.nodes.length<=1000:=by
 have hE:=Ac (t:=c.now) hg;unfold qG;cases hr:renewG g (edgsT (cart c.now g).nodes g.length) c with
 |none=>exact EY
 |some d=>exact⟨qQ (tg hg ⟨hE.ok,hE.low,hE.high⟩ h hn hr).1,by show(cart c.now g).nodes.length<=1000;rw[lB hg];have:=hg.1;omega⟩
theorem J5 {pl:List Int}(P:PlOk g pl):gW (jL g c pl).1.clock/\(jL g c pl).1.brk.places.length<=1000/\(jL g c pl).1.brk.wins.length<=1000:=by
 have hE:=xF (t:=c.now) hg P.n1 P.n64 P.val P.one;have h2:=P.n64;have wl:=(qR (t:=c.now) hg P.n1 P.n64 P.val P.one).1;unfold jL;cases hr:renewG g (edsB (bracketOf c.now g pl).wins pl (bracketOf c.now g pl).wins.length) c with
 |none=>exact EX
 |some d=>exact⟨qQ (tg hg ⟨hE.ok,hE.low,hE.high⟩ h hn hr).1,by show pl.length<=1000;omega,by show(bracketOf c.now g pl).wins.length<=1000;omega⟩
end
def Edt (c:Choice)(v:PV)(f g:FuncId):Prop:=∃(x:Choice) (e:Int),(Ans D f [CHO c,v] [CHO x,.i64 e]/\ Ans D g [CHO c,v] [CHO x,.i64 e])/\ ChW x
def kJ {c:Choice}{v:PV}{f g:FuncId}{x:Choice}{e:Int}(h1:Ans D f [CHO c,v] [CHO (eL x e),.i64 e])(h2:Ans D g [CHO c,v] [CHO (eL x e),.i64 e])(hx:ChW x):Edt c v f g:=by
 refine⟨_,_,⟨h1,h2⟩,?_⟩;unfold eL;split
 .exact hx
 .exact Es
def adA {k:KHeap}(hk:gP k)(hn:aX k.clock.now)(p:Pt):gW (wO k p).1.clock/\(wO k p).1.heap.length<=1000:=by
 unfold wO;by_cases he:dO k.clock.pts p=0
 rotate_left
 .rw[ac he];exact th
 .obtain⟨o1,o2,o3⟩:=fK he;rw[ad he];exact J2 hk.1 hn o2 ((qf _ _ _).trans (JU hk he))
def adB {k:KTourn}(hk:eH k)(hn:aX k.clock.now)(p:Pt):gW (tL k p).1.clock/\(tL k p).1.brk.places.length<=1000/\(tL k p).1.brk.wins.length<=1000:=by
 unfold tL;by_cases he:dO k.clock.pts p=0
 rotate_left
 .rw[ac he];exact EX
 .obtain⟨o1,o2,o3⟩:=fK he;rw[ad he];exact J5 hk.1 hn o2 (JX hk he)
def adC {k:KHeap}(hk:bx k.clock)(hn:aX k.clock.now)(p:Pt):gW (q8 k p).1.clock/\(q8 k p).1.heap.length<=1000:=by
 unfold q8;by_cases he:dO k.clock.pts p=0
 rotate_left
 .rw[ac he];exact th
 .obtain⟨o1,o2,o3⟩:=fK he;rw[ad he];exact J3 hk hn o2
def adD {k:Heater}(hk:bx k.clock)(hn:aX k.clock.now)(p:Pt):gW (q9 k p).1.clock/\(q9 k p).1.tree.nodes.length<=1000:=by
 unfold q9;by_cases he:dO k.clock.pts p=0
 rotate_left
 .rw[ac he];exact EY
 .obtain⟨o1,o2,o3⟩:=fK he;rw[ad he];exact J4 hk hn o2
open Classical in
def adE {c:Choice}(h64:Cho64 c)(hg:gCh c=false)(p:Pt):Edt c (PP p) 29 30:=by
 obtain⟨g1,g2,g3,g4⟩:=sQ hg;obtain⟨w1,w2,w3,w4⟩:=Eu hg;have m26:=phi (c26 h64 hg);have m27:=phi (c27 h64 hg);by_cases hok:ob c
 rotate_left
 .rw[aj hok] at m26 m27;exact⟨zCH,8,⟨b29 m26,b30 m27⟩,Es⟩
 rw[au hok,Sk] at m26 m27;have hq:=hok.2.1;unfold fv at hq;by_cases t1:c.tag=1
 .rw[ad t1] at hq;have x1:=c77 h64.h1 g1;have x2:=c81 h64.h1 g1;rw[au hq] at x1 x2;exact kJ (ae4 m26 t1 (c85 hq h64.h1.1 x1 p)) (afg m27 t1 (c89 hq h64.h1.1 x2 p)) ⟨adA hq h64.h1.1 p,w2,w3,w4⟩
 rw[ac t1] at hq;by_cases t2:c.tag=2
 .rw[ad t2] at hq;have x1:=c78 h64.h2 g2;have x2:=c82 h64.h2 g2;rw[au hq] at x1 x2;exact kJ (ae5 m26 t2 (c86 hq h64.h2.1 x1 p)) (afh m27 t2 (c90 hq h64.h2.1 x2 p)) ⟨w1,adB hq h64.h2.1 p,w3,w4⟩
 rw[ac t2] at hq;by_cases t3:c.tag=3
 .rw[ad t3] at hq;have x1:=c79 h64.h3 g3;have x2:=c83 h64.h3 g3;rw[au hq] at x1 x2;exact kJ (ae6 m26 t3 (c87 hq.1 h64.h3.1 x1 p)) (afi m27 t3 (c91 hq.1 h64.h3.1 x2 p)) ⟨w1,w2,adD hq.1 h64.h3.1 p,w4⟩
 rw[ac t3] at hq;by_cases t4:c.tag=4
 .rw[ad t4] at hq;have x1:=c80 h64.h4 g4;have x2:=c84 h64.h4 g4;rw[au hq] at x1 x2;exact kJ (ae7 m26 t4 (c88 hq.1 h64.h4.1 x1 p)) (afj m27 t4 (c92 hq.1 h64.h4.1 x2 p)) ⟨w1,w2,w3,adC hq.1 h64.h4.1 p⟩
 .rw[ac t4] at hq;exact hq.elim
def Xa {k:KHeap}(hk:gP k)(hn:aX k.clock.now)(id:Int):gW (qZ k id).1.clock/\(qZ k id).1.heap.length<=1000:=by
 unfold qZ;by_cases he:dw k.clock.pts id=0
 rotate_left
 .rw[ac he];exact th
 .obtain⟨o1,o2,o3⟩:=fX he;rw[ad he];obtain⟨i,p',t1,t2,_⟩:=o3;obtain⟨m,hm,pl,ix⟩:=sj hk (id:=id) (bh.2 ⟨p',ay t1,t2⟩);have pm:=Ds hk he hm;rw[pl];refine J2 hk.1 hn o2 ?_;split
  .exact nP.trans pm
  .exact pm
def Xc {k:KTourn}(hk:eH k)(hn:aX k.clock.now)(id:Int):gW (p8 k id).1.clock/\(p8 k id).1.brk.places.length<=1000/\(p8 k id).1.brk.wins.length<=1000:=by
 unfold p8;by_cases he:dw k.clock.pts id=0
 rotate_left
 .rw[ac he];exact EX
 .obtain⟨o1,o2,o3⟩:=fX he;rw[ad he];exact J5 hk.1 hn o2 (zu hk he)
def Xd {k:KHeap}(hk:bx k.clock)(hn:aX k.clock.now)(id:Int):gW (oX k id).1.clock/\(oX k id).1.heap.length<=1000:=by
 unfold oX;by_cases he:dw k.clock.pts id=0
 rotate_left
 .rw[ac he];exact th
 .obtain⟨o1,o2,o3⟩:=fX he;rw[ad he];exact J3 hk hn o2
def Xe {k:Heater}(hk:bx k.clock)(hn:aX k.clock.now)(id:Int):gW (oY k id).1.clock/\(oY k id).1.tree.nodes.length<=1000:=by
 unfold oY;by_cases he:dw k.clock.pts id=0
 rotate_left
 .rw[ac he];exact EY
 .obtain⟨o1,o2,o3⟩:=fX he;rw[ad he];exact J4 hk hn o2
open Classical in
def Xf {c:Choice}(h64:Cho64 c)(hg:gCh c=false)(id:Int):Edt c (.i64 id) 31 32:=by
 obtain⟨g1,g2,g3,g4⟩:=sQ hg;obtain⟨w1,w2,w3,w4⟩:=Eu hg;have m26:=phi (c26 h64 hg);have m27:=phi (c27 h64 hg);by_cases hok:ob c
 rotate_left
 .rw[aj hok] at m26 m27;exact⟨zCH,8,⟨b31 m26,b32 m27⟩,Es⟩
 rw[au hok,Sk] at m26 m27;have hq:=hok.2.1;unfold fv at hq;by_cases t1:c.tag=1
 .rw[ad t1] at hq;have x1:=c77 h64.h1 g1;have x2:=c81 h64.h1 g1;rw[au hq] at x1 x2;exact kJ (ae8 m26 t1 (c93 hq h64.h1.1 x1 id)) (afk m27 t1 (c97 hq h64.h1.1 x2 id)) ⟨Xa hq h64.h1.1 id,w2,w3,w4⟩
 rw[ac t1] at hq;by_cases t2:c.tag=2
 .rw[ad t2] at hq;have x1:=c78 h64.h2 g2;have x2:=c82 h64.h2 g2;rw[au hq] at x1 x2;exact kJ (ae9 m26 t2 (c94 hq h64.h2.1 x1 id)) (afl m27 t2 (c98 hq h64.h2.1 x2 id)) ⟨w1,Xc hq h64.h2.1 id,w3,w4⟩
 rw[ac t2] at hq;by_cases t3:c.tag=3
 .rw[ad t3] at hq;have x1:=c79 h64.h3 g3;have x2:=c83 h64.h3 g3;rw[au hq] at x1 x2;exact kJ (afa m26 t3 (c95 hq.1 h64.h3.1 x1 id)) (afm m27 t3 (c99 hq.1 h64.h3.1 x2 id)) ⟨w1,w2,Xe hq.1 h64.h3.1 id,w4⟩
 rw[ac t3] at hq;by_cases t4:c.tag=4
 .rw[ad t4] at hq;have x1:=c80 h64.h4 g4;have x2:=c84 h64.h4 g4;rw[au hq] at x1 x2;exact kJ (afb m26 t4 (c96 hq.1 h64.h4.1 x1 id)) (afn m27 t4 (ah9 hq.1 h64.h4.1 x2 id)) ⟨w1,w2,w3,Xd hq.1 h64.h4.1 id⟩
 .rw[ac t4] at hq;exact hq.elim
def adF {k:KHeap}(hk:gP k)(hn:aX k.clock.now)(p:Pt):gW (wP k p).1.clock/\(wP k p).1.heap.length<=1000:=by
 unfold wP;by_cases he:eM k.clock.pts p=0
 rotate_left
 .rw[ac he];exact th
 .obtain⟨o1,o2,o3⟩:=js he;rw[ad he];exact J2 hk.1 hn o2 (nP.trans (JV hk he))
def adG {k:KTourn}(hk:eH k)(hn:aX k.clock.now)(p:Pt):gW (tM k p).1.clock/\(tM k p).1.brk.places.length<=1000/\(tM k p).1.brk.wins.length<=1000:=by
 unfold tM;by_cases he:eM k.clock.pts p=0
 rotate_left
 .rw[ac he];exact EX
 .obtain⟨o1,o2,o3⟩:=js he;rw[ad he];exact J5 hk.1 hn o2 (JZ hk he)
def adH {k:KHeap}(hk:bx k.clock)(hn:aX k.clock.now)(p:Pt):gW (ra k p).1.clock/\(ra k p).1.heap.length<=1000:=by
 unfold ra;by_cases he:eM k.clock.pts p=0
 rotate_left
 .rw[ac he];exact th
 .obtain⟨o1,o2,o3⟩:=js he;rw[ad he];exact J3 hk hn o2
def adI {k:Heater}(hk:bx k.clock)(hn:aX k.clock.now)(p:Pt):gW (rb k p).1.clock/\(rb k p).1.tree.nodes.length<=1000:=by
 unfold rb;by_cases he:eM k.clock.pts p=0
 rotate_left
 .rw[ac he];exact EY
 .obtain⟨o1,o2,o3⟩:=js he;rw[ad he];exact J4 hk hn o2
open Classical in
def adJ {c:Choice}(h64:Cho64 c)(hg:gCh c=false)(p:Pt):Edt c (PP p) 33 34:=by
 obtain⟨g1,g2,g3,g4⟩:=sQ hg;obtain⟨w1,w2,w3,w4⟩:=Eu hg;have m26:=phi (c26 h64 hg);have m27:=phi (c27 h64 hg);by_cases hok:ob c
 rotate_left
 .rw[aj hok] at m26 m27;exact⟨zCH,8,⟨b33 m26,b34 m27⟩,Es⟩
 rw[au hok,Sk] at m26 m27;have hq:=hok.2.1;unfold fv at hq;by_cases t1:c.tag=1
 .rw[ad t1] at hq;have x1:=c77 h64.h1 g1;have x2:=c81 h64.h1 g1;rw[au hq] at x1 x2;exact kJ (afc m26 t1 (ah6 hq h64.h1.1 x1 p)) (afo m27 t1 (ah7 hq h64.h1.1 x2 p)) ⟨adF hq h64.h1.1 p,w2,w3,w4⟩
 rw[ac t1] at hq;by_cases t2:c.tag=2
 .rw[ad t2] at hq;have x1:=c78 h64.h2 g2;have x2:=c82 h64.h2 g2;rw[au hq] at x1 x2;exact kJ (afd m26 t2 (aii hq h64.h2.1 x1 p)) (afp m27 t2 (aij hq h64.h2.1 x2 p)) ⟨w1,adG hq h64.h2.1 p,w3,w4⟩
 rw[ac t2] at hq;by_cases t3:c.tag=3
 .rw[ad t3] at hq;have x1:=c79 h64.h3 g3;have x2:=c83 h64.h3 g3;rw[au hq] at x1 x2;exact kJ (afe m26 t3 (aib hq.1 h64.h3.1 x1 p)) (afq m27 t3 (aic hq.1 h64.h3.1 x2 p)) ⟨w1,w2,adI hq.1 h64.h3.1 p,w4⟩
 rw[ac t3] at hq;by_cases t4:c.tag=4
 .rw[ad t4] at hq;have x1:=c80 h64.h4 g4;have x2:=c84 h64.h4 g4;rw[au hq] at x1 x2;exact kJ (aff m26 t4 (ah8 hq.1 h64.h4.1 x1 p)) (afr m27 t4 (aia hq.1 h64.h4.1 x2 p)) ⟨w1,w2,w3,adH hq.1 h64.h4.1 p⟩
 .rw[ac t4] at hq;exact hq.elim
def c6n {c:Choice}{p:Pt}{id:Int}(h64:Cho64 c):Ans D 6 [CHO c,PP p,.i64 id] [.bool true]:=by
 refine am ?_;unfold k6;cases hg:gCh c with
 |true=>
  have m7:=phi (c7 c);rw[hg] at m7;simp[er,bz,m7,EV]
 |false=>
  have m7:=phi (c7 c);obtain⟨x1,e1,⟨p1,q1⟩,y1⟩:=adE h64 hg p;obtain⟨x2,e2,⟨p2,q2⟩,y2⟩:=Xf h64 hg id;obtain⟨x3,e3,⟨p3,q3⟩,y3⟩:=adJ h64 hg p;simp[ax,er,bz,m7,EV,phi (c14 hg),phi p1,phi q1,phi p2,phi q2,phi p3,phi q3,phi (c17 y1),phi (c17 y2),phi (c17 y3),phi (c17 (Eu hg)),Yu]
end Go.Proofs.YtfghdmmapmdcgaaGreat
