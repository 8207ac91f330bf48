import Derived.Test.YtndgdhbpojakpaaGreatE1
import Derived.Test.YtndgdhbpojakpaaGreatR1
set_option linter.unusedVariables false
set_option linter.unusedSimpArgs false
set_option linter.defProp false
noncomputable section
namespace Go.Proofs.YtndgdhbpojakpaaGreat
open Go.Sym Bnd
set_option maxRecDepth 100000
section
variable {α:Type}{nu:α->Int}
def Asc (nu:α->Int)(l:List α):Prop:=l.Pairwise λa b=>nu a<nu b
def xc {l:List α}(h:Asc nu l){i j:Nat}{a b:α}(hij:i<j)(ha:l[i]?=some a)(hb:l[j]?=some b):nu a<nu b:=by
 unfold Asc at h;rw[d6] at h
 grind
def LBn (nu:α->Int)(l:List α)(id:Int)(m:Nat):Prop:=m<=l.length/\∀(k:Nat) (p:α),l[k]?=some p->(k<m->nu p<id)/\(m<=k->id<=nu p)
def uX {N:Nat}{f:JT}{K0:K}{e:List PV}{l:List α}{id:Int}(hs:Asc nu l)
  (key:∀(i j:Nat) (p:α) (self:JT),i<j->j<=l.length->l[(i+j)/2]?=some p->den (PhiS D) N K0 ([f]++[self]) (e++[.i64 (i:Int),.i64 (j:Int)])=if nu p<id then self [.i64 (((i+j)/2+1:Nat):Int),.i64 (j:Int)] else self [.i64 (i:Int),.i64 (((i+j)/2:Nat):Int)])
  (out:∀(i j:Nat) (self:JT),¬i<j->den (PhiS D) N K0 ([f]++[self]) (e++[.i64 (i:Int),.i64 (j:Int)])=f [.i64 (i:Int)]):∀(m i j:Nat),j-i<m->i<=j->j<=l.length->(∀(k:Nat) (p:α),l[k]?=some p->(k<i->nu p<id)/\(j<=k->id<=nu p))->
  ∃P,LBn nu l id P/\ denW (PhiS D) N K0 [f] e m [.i64 (i:Int),.i64 (j:Int)]=f [.i64 (P:Int)]
 |0,i,j,h,_,_,_=>by omega
 |m+1,i,j,h,hij,hj,hb=>by
  rw[bG];by_cases hlt:i<j
  .obtain⟨p,hp⟩:∃p,l[(i+j)/2]?=some p:=⟨l[(i+j)/2]'(by omega),ak _⟩;rw[key i j p _ hlt hj hp];by_cases c:nu p<id
   .rw[ad c];refine uX hs key out m _ j (by omega) (by omega) hj λk q hq=>⟨λhk=>?_,(hb k q hq).2⟩;by_cases e:k=(i+j)/2
    .subst e;rw[hp] at hq;cases hq;exact c
    .have:=xc hs (show k<(i+j)/2 by omega) hq hp;omega
   .rw[ac c];refine uX hs key out m i _ (by omega) (by omega) (by omega) λk q hq=>⟨(hb k q hq).1,λhk=>?_⟩;by_cases e:k=(i+j)/2
    .subst e;rw[hp] at hq;cases hq;omega
    .have:=xc hs (show(i+j)/2<k by omega) hp hq;omega
  .exact⟨i,⟨by omega,λk p hp=>⟨(hb k p hp).1,λh=>(hb k p hp).2 (by omega)⟩⟩,out i j _ hlt⟩
def Tc {l:List α}{id:Int}{P i:Nat}{a:α}(h:LBn nu l id P)(hs:Asc nu l)(ha:l[i]?=some a)(e:nu a=id):P=i:=by
 obtain⟨h1,h2⟩:=h;by_cases c:i<P
 .grind
 .by_cases d:P<i
  .have hi:=cy ha;obtain⟨b,hb⟩:∃b,l[P]?=some b:=⟨l[P]'(by omega),ak _⟩;have:=(h2 P b hb).2 (aD _);have:=xc hs d hb ha;omega
  .omega
end
def ltS (a b:Int):(sgn (a-b)<0)=(a<b):=by
 unfold sgn
 grind
def eqS (a b:Int):(sgn (a-b)=0)=(a=b):=by
 unfold sgn
 grind
def tE {c:Certs}(h:cU c):Asc (·.number) c.list:=(Mw.1 h).2.2.2.2.imp λh=>h.1
open Classical in
def ac6 {c:Certs}{i:Nat}{x:Held}(h:cU c)(hx:c.list[i]?=some x):Ans D 145 [CS c,.i64 x.number] [.i64 (i:Int),.i64 0]:=by
 have hl:=h.1;have hs:=tE h;have m1:=phi (GH (c:=c) (by omega));rw[aq h] at m1;have e0:okE true=0:=rfl;rw[e0] at m1;obtain⟨P,h1,h2⟩:=uX (N:=1001) (f:=mD (PhiS D) 1001 tJ [] [CS c,.i64 x.number,CS c,.i64 0,.bool false,sl hrow c.list,.i64 (c.list.length:Int)]) (K0:=o8) (e:=[CS c,.i64 x.number,CS c,.i64 0,.bool false,sl hrow c.list,.i64 (c.list.length:Int)]) (l:=c.list) (nu:=(·.number)) (id:=x.number) hs (λi j p self hij hj hp=>by
  unfold o8;simp only[dR,bV,EV,aa,bc hij,MM (show i<1000000 by omega) (show j<1000000 by omega),cz (show-9223372036854775808<=(((i+j)/2:Nat):Int) by omega) (by omega),au,eb,aO hp (eV p),aL hp,jn,iW,phi (td _ _),Cu,up1 (show(i+j)/2<1000000000 by omega),ltS]) (λi j self hij=>by
  unfold o8;simp only[dR,bV,EV,aa];rw[ac (by omega)]) 1001 0 c.list.length (by omega) (by omega) (aD _) (λk p hp=>⟨λh=>by omega,λh=>by have:=cy hp;omega⟩)
 have:=Tc h1 hs hx rfl;subst this;have hP:=cy hx;refine an ⟨1001,?_⟩;unfold Nt;simp only[au,im,m1,eb,EV,aj,az,aJ,aw,ax];refine h2.trans ?_;unfold tJ;simp only[EV,aa];rw[ad (by omega)];simp only[EV,au,eb,aO hx (eV x),aL hx,jn,iW,phi (td _ _),xl,eqS,az,aJ,aw,ax]
def Qu {α:Type}{nu:α->Int}{l:List α}(hs:Asc nu l){i:Nat}{a:α}(ha:l[i]?=some a):l.findIdx? (λb=>decide (nu b=nu a))=some i:=by
 obtain⟨h1,h2⟩:=aC.1 ha;rw[b8];refine⟨h1,by rw[h2];simp,λj hj h=>?_⟩;have:=xc hs hj (ak (Nat.lt_trans hj h1)) ha
 grind
def ac7 {c:Certs}{i:Nat}{x:Held}(h:cU c)(hx:c.list[i]?=some x):Ans D 102 [CS c,.i64 x.number] [.i64 (i:Int)]:=by
 have hl:=h.1;refine an ⟨1001,?_⟩;unfold Np;simp[im,EV];refine(ji (m:=1001) (l:=c.list) (p:=λb=>decide (b.number=x.number)) (st:=λi=>[.i64 (i:Int)]) (ret:=λi=>some [.i64 (i:Int)]) (fin:=some [.i64 (-1)]) (λk g self hg=>?_) (λself=>?_) (by omega)).trans ?_
 .unfold tI;simp only[eb,EV,aj,aa,bc (aK hg),aO hg (eV _),aL hg,GA,up1 (show k<1000000000 by have:=aK hg;omega)]
 .unfold tI;simp[eb,EV,B3]
 .rw[Qu (tE h) hx];rfl
def C0:Crt:=⟨0,0⟩
def ZX:RF.ev .agg [.i64 0,.i64 0]=some (CP C0):=rfl
def At (c:Clock):RF.ev .sub [sl cF c.due,.v (.int .i64 0),.v (.int .i64 (c.due.length:Int))]=some (sl cF c.due):=bm
def G6 (c:Clock):RF.ev (.part 0 10) [CL c]=some (.agg ((clC c).take 10)):=rfl
def IY (c:Clock)(u:List Int):RF.ev .agg [.agg ((clC c).take 10),sl cF c.due,sl I1 u]=some (KH ⟨c,u⟩):=rfl
def Td (c:Clock)(b:Brk):RF.ev .agg [.agg ((clC c).take 10),sl cF c.due,BR b]=some (KT ⟨c,b⟩):=rfl
def Te (c:Clock)(b:Tree):RF.ev .agg [.agg ((clC c).take 10),sl cF c.due,TR b]=some (HT ⟨c,b⟩):=rfl
def c39 {k:KHeap}(h:CSm k.clock)(hh:k.heap.length<=1000):Ans D 62 [KH k] [KH k]:=by
 have s0:=At k.clock;refine am ?_;unfold k39;simp[jX,pKH,phi (tw h),cV,dw,cKH,fM (l:=k.heap) (f:=I1) (bytes:=8) (z:=1) (by omega) bJ,EV,bm,G6,IY]
def c42 {k:KHeap}(h:CSm k.clock)(hh:k.heap.length<=1000):Ans D 65 [KH k] [KH k]:=by
 have s0:=At k.clock;refine am ?_;unfold k42;simp[jX,pKH,phi (tw h),cV,dw,cKH,fM (l:=k.heap) (f:=I1) (bytes:=8) (z:=1) (by omega) bJ,EV,bm,G6,IY]
def ac8 {b:Brk}(h1:b.places.length<=1000)(h2:b.wins.length<=1000):Ans D 113 [BR b] [BR b]:=by
 refine am ?_;unfold Uc;simp[iY,me,gH,fM (l:=b.places) (f:=I1) (bytes:=8) (z:=1) (by omega) bJ,fM (l:=b.wins) (f:=I1) (bytes:=8) (z:=1) (by omega) bJ,EV,bm];rfl
def ac9 {x:Tree}(h:x.nodes.length<=1000):Ans D 114 [TR x] [TR x]:=by
 refine am ?_;unfold Ud;simp[oU,MQ,js,fM (l:=x.nodes) (f:=cL) (bytes:=24) (z:=3) (by omega) jU,EV,bm];rfl
def c40 {k:KTourn}(h:CSm k.clock)(h1:k.brk.places.length<=1000)(h2:k.brk.wins.length<=1000):Ans D 63 [KT k] [KT k]:=by
 have s0:=At k.clock;refine am ?_;unfold k40;simp[qo,pKT,phi (tw h),cV,dw,vY,phi (ac8 h1 h2),iY,acQ,EV,G6,s0,Td]
def c41 {k:Heater}(h:CSm k.clock)(h1:k.tree.nodes.length<=1000):Ans D 64 [HT k] [HT k]:=by
 have s0:=At k.clock;refine am ?_;unfold k41;simp[qp,pHT,phi (tw h),cV,dw,GB,phi (ac9 h1),oU,acR,EV,G6,s0,Te]
def kf {c:Clock}(h:gCl c=false):CSm c:=by
 unfold gCl gF gAg gSl at h;simp at h;exact⟨by omega,by omega,⟨⟨by omega,by omega,by omega⟩,by omega,by omega⟩,by omega⟩
def c14 {c:Choice}(h:gCh c=false):Ans D 32 [CHO c] [CHO c]:=by
 unfold gCh gKh gKt gHt at h;simp at h;obtain⟨⟨⟨⟨a1,a2⟩,b1,b2,b3⟩,d1,d2⟩,e1,e2⟩:=h;have p12:∀k:KHeap,RF.ev (.part 0 12) [KH k]=some (KH k):=λ_=>rfl;have p13:∀k:KTourn,RF.ev (.part 0 13) [KT k]=some (KT k):=λ_=>rfl;have p14:∀k:Heater,RF.ev (.part 0 13) [HT k]=some (HT k):=λ_=>rfl;have ag:RF.ev .agg [.v (.int .u8 c.tag),KH c.heap,KT c.tourn,HT c.heater,KH c.hanger]=some (CHO c):=rfl;refine am ?_;unfold k14;simp only[au,eG,yr,yu,yw,yx,phi (c39 (kf a1) (by omega)),phi (c40 (kf b1) (by omega) (by omega)),phi (c41 (kf d1) (by omega)),phi (c42 (kf e1) (by omega)),jX,qo,qp,cCH,p12,p13,p14,EV,ag]
end Go.Proofs.YtndgdhbpojakpaaGreat
