import Derived.Test.YtoeigdpfcnaaeaaGreatC1
import Derived.Test.YtoeigdpfcnaaeaaGreatP1
set_option linter.unusedVariables false
set_option linter.unusedSimpArgs false
set_option linter.defProp false
noncomputable section
namespace Go.Proofs.YtoeigdpfcnaaeaaGreat
open Go.Sym Bnd
set_option maxRecDepth 100000
section
variable {α:Type}[DecidableEq α]{ks:List Ck}{kc:α->List PV}
def tW (hl:∀a,(kc a).length=ks.length)(he:∀a b,eqL ks (kc a) (kc b)=some (decide (a=b)))(v:PV)(k:α):∀seen:List α,dU ks (kc k) (seen.map λa=>kc a++[v])=some (if k∈seen then some [v] else none)
 |[]=>by simp[dU,he]
 |a::l=>by
  simp only[bH,dU];rw[ic (hl a),he,oY (hl a)];by_cases e:a=k
  .subst e;simp
  .rw[ak e];simp only;rw[tW hl he v k l]
   congr 1
   have:(k∈a::l)↔k∈l:=by simp[show k≠a fromλh=>e h.symm]
   simp[this]
def vP (hl:∀a,(kc a).length=ks.length)(he:∀a b,eqL ks (kc a) (kc b)=some (decide (a=b)))(v:PV)(k:α):∀seen:List α,k∉seen->jl ks (kc k) [v] (seen.map λa=>kc a++[v])=some ((seen++[k]).map λa=>kc a++[v])
 |[],_=>by simp[jl,he]
 |a::l,h=>by
  simp only[bH,aQ,jl];rw[ic (hl a),he,ak (λe=>h (by simp[e]))];simp only;rw[vP hl he v k l (λe=>h (by simp[e]))]
end
abbrev T1:PV:= .bool true
def Nm (seen:List Int):PV:= .sl (seen.map λn=>[.i64 n]++[T1])
def Cm (seen:List Crt):PV:= .sl (seen.map λc=>crow c++[T1])
def eqN (a b:Int):eqL [.i] [.i64 a] [.i64 b]=some (decide (a=b)):=by
 simp[eqL,eqC]
def XI (a b:Crt):eqL [.i,.i] (crow a) (crow b)=some (decide (a=b)):=by
 have h:=xp a b;injection h with h
 injection h with h
 injection h with h
 rw[<-h];rfl
def af3 (seen:List Int)(k:Int):RF.ev (.mget [.i] [.v (.bool false)]) [Nm seen,.v (.int .i64 k)]=some (.bool (decide (k∈seen))):=by
 have h:=tW (ks:=[.i]) (kc:=λn:Int=>[.i64 n]) (λ_=>rfl) eqN T1 k seen;unfold Nm;simp only[RF.ev,show(PV.v (.int .i64 k)).cells=[.i64 k] from rfl,h]
 by_cases e:k∈seen
 .simp[e];rfl
 .simp[e];rfl
def af4 (seen:List Int){k:Int}(h:k∉seen):RF.ev (.mset [.i] 1) [Nm seen,.v (.int .i64 k),.v (.bool true)]=some (Nm (seen++[k])):=by
 have h:=vP (ks:=[.i]) (kc:=λn:Int=>[.i64 n]) (λ_=>rfl) eqN T1 k seen h;unfold Nm;simp only[RF.ev,show(PV.v (.int .i64 k)).cells=[.i64 k] from rfl,show(PV.v (.bool true)).cells=[T1] from rfl,h]
 rfl
def adL (seen:List Crt)(k:Crt):RF.ev (.mget [.i,.i] [.v (.bool false)]) [Cm seen,CP k]=some (.bool (decide (k∈seen))):=by
 have h:=tW (ks:=[.i,.i]) (kc:=crow) (λ_=>rfl) XI T1 k seen;unfold Cm;simp[RF.ev,show(CP k).cells=crow k from rfl,h]
 by_cases e:k∈seen
 .simp[e];rfl
 .simp[e];rfl
def adM (seen:List Crt){k:Crt}(h:k∉seen):RF.ev (.mset [.i,.i] 1) [Cm seen,CP k,.v (.bool true)]=some (Cm (seen++[k])):=by
 have h:=vP (ks:=[.i,.i]) (kc:=crow) (λ_=>rfl) XI T1 k seen h;unfold Cm;simp[RF.ev,show(CP k).cells=crow k from rfl,show(PV.v (.bool true)).cells=[T1] from rfl,h]
 rfl
def ny {α:Type}{f:α->List PV}{bytes z:Nat}{l:List α}(h:l.length*bytes<=140737488355328)(hz:∀a,(f a).length=z):RF.ev (.app bytes z) [.sl [],.v (.int .i64 0),.sl (l.map f)]=some (.sl (l.map f)):=by
 have:=gt (f:=f) (l:=[]) (k:=l) (bytes:=bytes) (z:=z) (by simpa using h) hz
 grind
def Lx {l:List Bool}(hl:l.length<=1000):Ans D 368 [sl B1 l] [sl B1 l]:=by
 refine am ?_;unfold ab2;simp only[EV,ai,aa];have h1:den (bK D) 1 H4 [] [sl B1 l,.i64 (l.length:Int),.bool (decide ((l.length:Int)=0))]=some [sl B1 l]:=by
  unfold H4;simp[EV,ny (l:=l) (f:=B1) (bytes:=1) (z:=1) (by omega) vG,ct]
 by_cases h:(l.length:Int)=0
 .have:l=[]:=bJ (by omega);subst this;rw[ad h];exact pD rfl h1
 .grind
def af5 {l:List Bool}(_:0<l.length)(hl:l.length<=1000):Ans D 368 [sl B1 l] [sl B1 l]:=Lx hl
def qD {l:List Int}(hl:l.length<=1000):Ans D 153 [sl I1 l] [sl I1 l]:=by
 refine am ?_;unfold Z4;simp only[EV,ai,aa];have h1:den (bK D) 1 GG [] [sl I1 l,.i64 (l.length:Int),.bool (decide ((l.length:Int)=0))]=some [sl I1 l]:=by
  unfold GG;simp[EV,ny (l:=l) (f:=I1) (bytes:=8) (z:=1) (by omega) cF,ct]
 by_cases h:(l.length:Int)=0
 .have:l=[]:=bJ (by omega);subst this;rw[ad h];exact pD rfl h1
 .grind
def Co {α:Type}[DecidableEq α](v:α)(l:List α):l.any (λy=>decide (v=y))=decide (v∈l):=by
 grind
def af6 {l:List Bool}(v:Bool)(hl:l.length<=1000):Ans D 432 [sl B1 l,.bool v] [.i64 (qA (λy=>decide (v=y)) l)]:=by
 refine an ⟨1001,?_⟩;unfold acu;simp[EV];refine(pd (m:=1001) (l:=l) (p:=λy=>decide (v=y)) (st:=λi=>[.i64 (i:Int)]) (ret:=λi=>some [.i64 (i:Int)]) (fin:=some [.i64 (-1)]) (λi a self ha=>?_) (λself=>?_) (by omega)).trans Em
 .unfold Ie;simp only[aX ha (vG _),aN ha,vF,EV,aa,bh (aL ha),up1 (show i<1000000000 by have:=aL ha;omega),beq_iff_eq]
 .unfold Ie;simp[EV,Qh]
def af7 {l:List Bool}(v:Bool)(hl:l.length<=1000):Ans D 393 [sl B1 l,.bool v] [.bool (decide (v∈l))]:=by
 refine am ?_;unfold ach;simp[EV,phi (af6 v hl),zH,Co]
open Classical in
def Ly {s:Slots}(hg:gSl s=false):Ans D 324 [SL s] [.i64 (okE (decide s.okR))]:=by
 unfold gSl at hg;simp only[eO,aj] at hg;rw[show decide s.okR=decide s.okP from cI.2 (Slots.ok_iff s).symm]
 have no:∀h:¬s.okP,(some [PV.v (.int .i64 8)]:Option (List PV))=some [.i64 (okE (decide s.okP))]:=λh=>by rw[ak h];rfl
 refine an ⟨1001,?_⟩;unfold abx;simp only[ay,j7,j8,mJ,j9,EV,ai,aa,aE,aj];by_cases h1:s.uses.length<1
 .rw[ad (by omega)];exact no (λh=>by have:=h.1;omega)
 rw[ac (by omega)];by_cases h2:200<s.uses.length
 .rw[ad (by omega)];exact no (λh=>by have:=h.2.1;omega)
 rw[ac (by omega)];by_cases h3:s.used.length=s.uses.length
 rotate_left
 .rw[ad (by omega)];exact no (λh=>h3 h.2.2.1)
 rw[ac (by omega)];simp only[phi (af5 (l:=s.used) (by omega) (by omega)),EV,ai,ay,j9];refine(vN (m:=1001) (l:=s.free) (g:=λl x=>if 0<=x/\ x<l.length/\ l[x.toNat]?=some false then some (l.set x.toNat true) else none) (I:=λl=>l.length=s.uses.length) (S:=λl i=>[sl B1 l,.i64 (i:Int)]) (r:=some [.i64 8])
  (fin:=λacc=>some [.i64 (okE (decide s.okP))]) (x:=s.used) h3 (λa acc acc' hI hg=>?_) (λi x acc self hx hI=>?_) (λacc self hI hm=>?_) (by omega)).trans ?_
 .split at hg
  .cases hg;simpa using hI
  .cases hg
 .unfold CE;have hi:=aL hx;simp only[ay,j9,aX hx (cF _),aN hx,cV,EV,ai,aa,bh hi,bA,show((0:Int)<=(i:Int)) by omega,az]
  by_cases c1:x<0
  .rw[ad c1,ac (by omega)]
  .rw[ac c1];by_cases c2:(s.uses.length:Int)<=x
   .rw[ad c2,ac (by rw[hI];omega)]
   .rw[ac c2];obtain⟨n,rfl⟩:=tV (show 0<=x by omega)
    obtain⟨b,hb⟩:∃b,acc[n]?=some b:=⟨acc[n]'(by omega),ah _⟩;simp only[ay,j9,aX hx (cF _),aN hx,cV,ixM (show n<s.used.length by omega),aN hb,vF,Lt (show n<acc.length by omega),EV,up1 (show i<1000000000 by omega)]
    cases b with
    |true=>
     rw[ad rfl,ad (show decide ((0:Int)<=(i:Int))=true from aq (by omega)),ac (λg=>by have:=g.2.2;rw[aF,hb] at this;cases this)]
    |false=>rw[ac (by simp),ad ⟨by omega,by omega,by rw[aF];exact hb⟩,aF]
 .rw[<-oj] at hm;have su:RF.ev .sub [sl B1 acc,.v (.int .i64 0),.v (.int .i64 (s.used.length:Int))]=some (sl B1 acc):=by rw[h3,<-hI];exact ct
  unfold CE;simp only[ay,EV,aa,bP,P3,su,j8,ai,phi (af7 (l:=acc) false (by omega)),bA,show¬((0:Int)<= -1) by omega,ax]
  by_cases c1:false∈acc
  .simp only[c1,az];exact no (λh=>by
    obtain⟨l,e1,e2⟩:=h.2.2.2.1;rw[hm] at e1;cases e1;exact e2 c1)
  simp only[c1,ax];refine(eQ (m:=1001) (n:=s.uses.length) (P:=λi=>∀u,s.uses[i]?=some u->0<=u/\ u<=1000000/\¬(u=0/\ s.used[i]?=some true)) (st:=λi=>[.i64 (i:Int)]) (r:=some [.i64 8]) (fin:=some [.i64 0]) (λi self hi _=>?_) (λ_ self=>?_) (by omega)).trans ?_
  .obtain⟨u,hu⟩:∃u,s.uses[i]?=some u:=⟨s.uses[i],ah _⟩;obtain⟨b,hb⟩:∃b,s.used[i]?=some b:=⟨s.used[i]'(by omega),ah _⟩;have hP:(∀u',s.uses[i]?=some u'->0<=u'/\ u'<=1000000/\¬(u'=0/\ s.used[i]?=some true))↔(0<=u/\ u<=1000000/\¬(u=0/\ b=true)):=by
    rw[hu,hb];simp
   unfold HJ;simp only[hP,ay,j8,mJ,aX hu (cF _),aN hu,cV,aX hb (vG _),aN hb,vF,EV,aa,bh hi,P1,up1 (show i<1000000000 by omega)]
   by_cases c1:u<0
   .simp only[ad c1,az];rw[ac (by omega)]
   simp only[ac c1];by_cases c2:1000000<u
   .simp only[ad c2,az];rw[ac (by omega)]
   simp only[ac c2];by_cases c3:u=0
   .simp only[ad c3];cases b with
    |true=>simp[c3]
    |false=>simp[c3]
   .simp only[ac c3,aw,ax];rw[ad ⟨by omega,by omega,λh=>c3 h.1⟩]
  .unfold HJ;simp only[EV,aa,bP,P0]
  .by_cases hr:s.okP
   .rw[ad (λi _=>hr.2.2.2.2 i),aq hr];rfl
   .rw[ac (λh=>hr ⟨by omega,by omega,h3,⟨acc,hm,c1⟩,λi u hu=>h i (aL hu) u hu⟩),ak hr];rfl
 .rw[<-oj];cases hm:oQ s.used s.free with
  |some l=>rfl
  |none=>
   exact no (λh=>by
    obtain⟨l,e1,_⟩:=h.2.2.2.1;rw[hm] at e1;cases e1)
def zJ (x y:Evt):Int:=if sgn (crs x.time y.time)=0 then sgn (x.number-y.number) else sgn (crs x.time y.time)
def pf (x y:Evt):zJ x y<0↔evLess x y=true:=by
 unfold zJ evLess;have:=lE x.number y.number
 grind
def zK {x y:Evt}(hx:aS x.time)(hy:aS y.time)(rx:rok x.time=true)(ry:rok y.time=true):Ans D 325 [EP x,EP y] [.i64 (zJ x y)]:=by
 have e:=phi (qB hx hy);rw[rx,ry,fF,ad rfl] at e;have bs:RF.ev (.bs 2 [KP.z] [0,1]) [.v (.int .i64 (sgn (crs x.time y.time))),.v (.int .i64 (sgn (x.number-y.number)))]=some (.sl [[.i64 (sgn (crs x.time y.time))],[.i64 (sgn (x.number-y.number))]]):=rfl;have su:∀a b:List PV,RF.ev .sub [.sl [a,b],.v (.int .i64 0),.v (.int .i64 2)]=some (.sl [a,b]):=λa b=>rfl;refine am ?_;unfold aby zJ;simp[iv,pEP,vO,EV,e,phi (vE _ _),bs,su,phi (orr _ _)]
def pQ (c:Certs):Nat->Int
 |0=> -1
 |i+1=>((c.list[i]?).map Held.number).getD (-1)
def AB (c:Certs)(j:Nat)(h:Held):Prop:=h.cert.ok/\(∀k,k<j->∀g,c.list[k]?=some g->g.cert≠h.cert)/\ pQ c j<h.number/\ h.number<c.next
def Nw {c:Certs}(h1:c.list.length<=200)(h2:0<=c.next)(h3:c.next<=1000000):(∀j h,c.list[j]?=some h->AB c j h)↔dB c:=by
 constructor
 .intro h;have nn:∀(j:Nat) (g:Held),c.list[j]?=some g->0<=g.number:=by
   intro j;induction j with
   |zero=>intro g hg;have:=(h 0 g hg).2.2.1;simp only[pQ] at this;omega
   |succ j ih=>
    intro g hg;obtain⟨p,hp⟩:∃p,c.list[j]?=some p:=⟨c.list[j]'(by have:=aL hg;omega),ah _⟩;have h5:=(h (j+1) g hg).2.2.1;simp only[pQ,hp,cj,cA] at h5
    grind
  refine⟨h1,h2,h3,λi x hx=>⟨(h i x hx).1,nn i x hx,(h i x hx).2.2.2,λg hi hg=>?_,(h i x hx).2.1⟩⟩;obtain⟨i,rfl⟩:∃k,i=k+1:=⟨i-1,by omega⟩;have:=(h (i+1) x hx).2.2.1;rw[di] at hg;simp only[pQ,hg,cj,cA] at this;exact this
 .rintro⟨_,_,_,h⟩ j x hx;obtain⟨a1,a2,a3,a4,a5⟩:=h j x hx;refine⟨a1,a5,?_,a3⟩;cases j with
  |zero=>simp only[pQ];omega
  |succ j=>
   obtain⟨p,hp⟩:∃p,c.list[j]?=some p:=⟨c.list[j]'(by have:=aL hx;omega),ah _⟩;simp only[pQ,hp,cj,cA];exact a4 p (by omega) (by simpa using hp)
def Fc {c:Certs}{i:Nat}{k:Crt}:k∉(c.list.take i).map (·.cert)↔∀j,j<i->∀g,c.list[j]?=some g->g.cert≠k:=by
 constructor
 .intro h j hj g hg e;exact h (bb.2 ⟨g,aI.2 ⟨j,by rw[cH hj];exact hg⟩,e⟩)
 .intro h hm;obtain⟨g,hg,e⟩:=bb.1 hm;obtain⟨j,hj⟩:=aI.1 hg
  grind
open Classical in
def Lz {c:Certs}(hl:c.list.length<=1000):Ans D 239 [CS c] [.i64 (okE (decide (dB c)))]:=by
 refine an ⟨1001,?_⟩;unfold aaE;have no:∀h:¬dB c,(some [PV.v (.int .i64 8)]:Option (List PV))=some [.i64 (okE (decide (dB c)))]:=λh=>by rw[ak h];rfl
 simp only[ay,kQ,od,gj,EV,ai,aa,cx];by_cases h1:200<c.list.length
 .rw[ad (by omega)];exact no (λh=>by have:=h.1;omega)
 rw[ac (by omega)];by_cases h2:c.next<0
 .rw[ad h2];exact no (λh=>by have:=h.2.1;omega)
 rw[ac h2];by_cases h3:1000000<c.next
 .rw[ad h3];exact no (λh=>by have:=h.2.2.1;omega)
 rw[ac h3];refine(eQ (n:=c.list.length) (P:=λi=>∀h,c.list[i]?=some h->AB c i h) (st:=λi=>[Cm ((c.list.take i).map (·.cert)),.i64 (pQ c i),.i64 (i:Int)]) (r:=some [.i64 8]) (fin:=some [.i64 0]) (λi self hi _=>?_) (λ_ self=>?_) (by omega)).trans ?_
 .obtain⟨h,hh⟩:∃h,c.list[i]?=some h:=⟨c.list[i],ah _⟩;have hP:(∀h',c.list[i]?=some h'->AB c i h')↔AB c i h:=⟨λx=>x h hh,λx h' e=>by rw[hh] at e;cases e;exact x⟩;have hs:(c.list.take (i+1)).map (·.cert)=(c.list.take i).map (·.cert)++[h.cert]:=by
   rw[cG,hh];simp
  have hn:pQ c (i+1)=h.number:=by simp only[pQ,hh,cj,cA]
  unfold Hg;simp only[hP,hs,hn,ay,od,gj,aX hh (gP _),aN hh,lG,pHP,lI,phi (RJ _),adL,EV,ai,aa,bh hi,aE,aj,bA];by_cases a1:h.cert.ok
  rotate_left
  .rw[ad a1,ac (λx=>a1 x.1)]
  rw[ac (kL a1)];by_cases a2:h.cert∈(c.list.take i).map (·.cert)
  .rw[ad a2,ac (λx=>absurd a2 (Fc.2 x.2.1))]
  rw[ac a2];by_cases a3:h.number<=pQ c i
  .rw[ad a3,ac (λx=>by have:=x.2.2.1;omega)]
  rw[ac a3];by_cases a4:c.next<=h.number
  .rw[ad a4,ac (λx=>by have:=x.2.2.2;omega)]
  rw[ac a4,ad ⟨a1,Fc.1 a2,by omega,by omega⟩];simp only[ay,pHP,lI,adM _ a2,EV,up1 (show i<1000000000 by omega)]
 .unfold Hg;simp only[ay,gj,EV,ai,aa,bP,Pw]
 .have:(∀i,i<c.list.length->∀h,c.list[i]?=some h->AB c i h)↔dB c:=by
   rw[<-Nw (by omega) (by omega) (by omega)];exact⟨λh i x hx=>h i (aL hx) x hx,λh i _=>h i⟩
  by_cases hr:dB c
  .rw[ad (this.2 hr),aq hr];rfl
  .rw[ac (λh=>hr (this.1 h)),ak hr];rfl
def adN (p q:Hnd):RF.ev (.eqv [.i,.i]) [HD p,HD q]=some (.bool (decide (p=q))):=by
 obtain⟨a,b⟩:=p;obtain⟨c,d⟩:=q;show some (PV.bool (decide (a=c)&&(decide (b=d)&& true)))=_
 simp_all
open Classical in
def Fe {a:Agenda}(hg:gAg a=false)(h64:∀e∈a.heap,aS e.time):Ans D 240 [AG a] [.i64 (okE (decide (eV a)))]:=by
 have hgs:=hg;unfold gAg at hgs;simp only[eO,aj] at hgs;have hsl:a.slots.uses.length<=210/\ a.slots.used.length<=210/\ a.slots.free.length<=210:=by
  have:=hgs.1.1;unfold gSl at this
  grind
 have cAG0:RF.ev (.cell 0) [AG a]=some (sl I1 a.slots.uses):=rfl;have cAG1:RF.ev (.cell 1) [AG a]=some (sl B1 a.slots.used):=rfl;have cAG2:RF.ev (.cell 2) [AG a]=some (sl I1 a.slots.free):=rfl;have no:∀h:¬eV a,(some [PV.v (.int .i64 8)]:Option (List PV))=some [.i64 (okE (decide (eV a)))]:=λh=>by rw[ak h];rfl
 refine an ⟨1001,?_⟩;unfold aaF;simp only[ay,jN,pAG,cAG1,cAG2,fI,mK,EV,ai,phi (Ly hgs.1.1),qb,aa,aE,aj,cM (show-9223372036854775808<=(a.slots.used.length:Int)-(a.slots.free.length:Int) by omega) (by omega)]
 by_cases q1:a.slots.okR
 rotate_left
 .rw[ad (by rw[ak q1];decide)];exact no (λh=>q1 h.1)
 rw[ac (by rw[aq q1];decide)];obtain⟨g1,g2,g3,g4,_⟩:=id q1;by_cases q2:a.wher.length=a.slots.used.length
 rotate_left
 .rw[ad (by omega)];exact no (λh=>q2 (by rw[h.2.1.1,g3]))
 rw[ac (by omega)];by_cases q3:a.heap.length+a.slots.free.length=a.slots.used.length
 rotate_left
 .rw[ad (by omega)];exact no (λh=>q3 (by rw[h.2.1.2.1,g3]))
 rw[ac (by omega)];refine(eQ (n:=a.wher.length) (P:=λi=>∀(b:Bool) (w u:Int),a.slots.used[i]?=some b->a.wher[i]?=some w->a.slots.uses[i]?=some u->if b=true then 0<=w/\∃e,a.heap[w.toNat]?=some e/\ e.hnd=⟨i,u⟩ else w= -1) (st:=λi=>[.i64 (i:Int)]) (r:=some [.i64 8]) (fin:=some [.i64 (okE (decide (eV a)))]) (λi self hi _=>?_) (λhall self=>?_) (by omega)).trans ?_
 .obtain⟨u,hu⟩:∃u,a.slots.uses[i]?=some u:=⟨a.slots.uses[i]'(by omega),ah _⟩;obtain⟨b,hb⟩:∃b,a.slots.used[i]?=some b:=⟨a.slots.used[i]'(by omega),ah _⟩;obtain⟨w,hw⟩:∃w,a.wher[i]?=some w:=⟨a.wher[i]'(by omega),ah _⟩;have hP:(∀(b':Bool) (w' u':Int),a.slots.used[i]?=some b'->a.wher[i]?=some w'->a.slots.uses[i]?=some u'->if b'=true then 0<=w'/\∃e,a.heap[w'.toNat]?=some e/\ e.hnd=⟨i,u'⟩ else w'= -1)↔(if b=true then 0<=w/\∃e,a.heap[w.toNat]?=some e/\ e.hnd=⟨i,u⟩ else w= -1):=
   ⟨λh=>h b w u hb hw hu,λh b' w' u' h1 h2 h3=>by rw[hu] at h3;rw[hb] at h1;rw[hw] at h2;cases h1;cases h2;cases h3;exact h⟩
  have nxt:=up1 (show i<1000000000 by omega)
  unfold Hk;simp only[hP,ay,cAG1,fI,mK,aX hb (vG _),aN hb,vF,aX hw (cF _),aN hw,cV,EV,ai,aa,bh hi];cases b with
  |false=>
   simp only[bY,az,aw,ax,EV,aE,aj];by_cases c1:w= -1
   .rw[ac (by omega),ad c1];unfold Hj;simp only[EV,nxt]
   .rw[ad c1,ac c1]
  |true=>
   simp only[aJ,aw,ax,az,bA];by_cases c1:w<0
   .rw[ad c1,ac (by omega)]
   rw[ac c1];obtain⟨n,rfl⟩:=tV (show 0<=w by omega)
   by_cases c2:a.heap.length<=n
   .rw[ad (by omega),ac (λh=>by
     obtain⟨_,e,he,_⟩:=h;have:=aL he;omega)]
   rw[ac (by omega)];obtain⟨e,he⟩:∃e,a.heap[n]?=some e:=⟨a.heap[n]'(by omega),ah _⟩;have ag:RF.ev .agg [.v (.int .i64 (i:Int)),.v (.int .i64 u)]=some (HD ⟨i,u⟩):=rfl;simp only[ay,cAG0,fI,aX he (j4 _),aN he,Uc,aX hu (cF _),aN hu,cV,ag,adN,EV,aF,aE,aj];by_cases c3:e.hnd=⟨i,u⟩
   .rw[ac (kL c3),ad ⟨by omega,e,he,c3⟩];unfold Hj;simp only[EV,nxt]
   .rw[ad c3,ac (λh=>by
     obtain⟨_,e',he',h'⟩:=h;rw[he] at he';cases he';exact c3 h')]
 .have hpl:qd a:=⟨by omega,by omega,λi b w u hb hw hu=>hall i (aL hw) b w u hb hw hu⟩;unfold Hk;simp only[EV,aa,bP];unfold Py;simp only[ay,fI,EV,ai];refine(eQ (n:=a.heap.length) (P:=λi=>∀e,a.heap[i]?=some e->pe e/\(∀k,k<i->∀e',a.heap[k]?=some e'->e'.number≠e.number)/\∀p,0<i->a.heap[(i-1)/2]?=some p->evLess e p=false) (st:=λi=>[Nm ((a.heap.take i).map (·.number)),.i64 (i:Int)]) (r:=some [.i64 8]) (fin:=some [.i64 0]) (λi self hi hbef=>?_) (λ_ self=>?_) (by omega)).trans ?_
  .obtain⟨e,he⟩:∃e,a.heap[i]?=some e:=⟨a.heap[i],ah _⟩;have hP:(∀e',a.heap[i]?=some e'->pe e'/\(∀k,k<i->∀x,a.heap[k]?=some x->x.number≠e'.number)/\∀p,0<i->a.heap[(i-1)/2]?=some p->evLess e' p=false)↔(pe e/\(∀k,k<i->∀x,a.heap[k]?=some x->x.number≠e.number)/\∀p,0<i->a.heap[(i-1)/2]?=some p->evLess e p=false):=
    ⟨λh=>h e he,λh e' h1=>by rw[he] at h1;cases h1;exact h⟩
   have hs:(a.heap.take (i+1)).map (·.number)=(a.heap.take i).map (·.number)++[e.number]:=by
    rw[cG,he];simp
   have hseen:e.number∉(a.heap.take i).map (·.number)↔∀k,k<i->∀x,a.heap[k]?=some x->x.number≠e.number:=by
    constructor
    .intro h j hj g hg e';exact h (bb.2 ⟨g,aI.2 ⟨j,by rw[cH hj];exact hg⟩,e'⟩)
    .intro h hm;obtain⟨g,hg,e'⟩:=bb.1 hm;obtain⟨j,hj⟩:=aI.1 hg;rw[gV] at hj;split at hj
     .exact h j (by assumption) g hj e'
     .cases hj
   unfold Hi;simp only[hP,hs,ay,fI,aX he (j4 _),aN he,iY,pEP,vO,phi (c43 (h64 e (au he))),qb,af3,EV,ai,aa,bh hi,cx];by_cases c1:rok e.time=true
   rotate_left
   .rw[ac c1,ac (λh=>c1 h.1.1)]
   rw[ad c1];by_cases c2:e.number<0
   .rw[ad c2,ac (λh=>by have:=h.1.2;omega)]
   rw[ac c2];by_cases c3:1000000<e.number
   .rw[ad c3,ac (λh=>by have:=h.1.2;omega)]
   rw[ac c3];by_cases c4:e.number∈(a.heap.take i).map (·.number)
   .rw[ad c4,ac (λh=>absurd c4 (hseen.2 h.2.1))]
   rw[ac c4];have nxt:=up1 (show i<1000000000 by omega)
   simp only[ay,vO,af4 _ c4,EV,aa];cases i with
   |zero=>
    rw[ac (by omega),ad ⟨⟨c1,by omega,by omega⟩,hseen.1 c4,λp h=>absurd h (dl _)⟩];unfold Hh;simp only[EV,aw,ax,nxt]
   |succ j=>
    obtain⟨p,hp⟩:∃p,a.heap[j/2]?=some p:=⟨a.heap[j/2]'(by omega),ah _⟩;have rp:rok p.time=true:=(hbef (j/2) (by omega) p hp).1.1;rw[ad (by omega)];simp only[ay,mq,Lu (show j<1000000 by omega),fI,aX hp (j4 _),aN hp,iY,phi (zK (h64 e (au he)) (h64 p (au hp)) c1 rp),EV]
    unfold Hh;simp only[EV,aa,nxt];by_cases c5:zJ e p<0
    .rw[ad c5,ac (λh=>by
      have:=h.2.2 p (by omega) (by simpa using hp)
      rw[(pf e p).1 c5] at this;cases this)]
    .rw[ac c5,ad ⟨⟨c1,by omega,by omega⟩,hseen.1 c4,λq _ hq=>by
      rw[di,hp] at hq;cases hq;cases h:evLess e p with
      |false=>rfl
      |true=>exact absurd ((pf e p).2 h) c5⟩]
  .unfold Hi;simp only[EV,aa,bP,Px]
  .have:(∀i,i<a.heap.length->∀e,a.heap[i]?=some e->pe e/\(∀k,k<i->∀e',a.heap[k]?=some e'->e'.number≠e.number)/\∀p,0<i->a.heap[(i-1)/2]?=some p->evLess e p=false)↔eV a:=by
    constructor
    .intro h;refine⟨q1,hpl,λe he=>?_,?_,λi e p he hp=>?_⟩
     .obtain⟨i,hi⟩:=aI.1 he;exact(h i (aL hi) e hi).1
     .rw[pE];intro i j x hj hi hjx;rw[ba,bM] at hi hjx;obtain⟨e,he,rfl⟩:=hi;obtain⟨e',he',h'⟩:=hjx;exact(h i (aL he) e he).2.1 j hj e' he' h'
     .exact(h (i+1) (aL he) e he).2.2 p (by omega) (by rw[di];exact hp)
    .rintro⟨_,_,h3,h4,h5⟩ i hi e he;rw[pE] at h4;refine⟨h3 e (au he),λk hk e' he' hn=>?_,λp hp0 hp=>?_⟩
     .exact h4 i k e.number hk (by rw[ba,he];rfl) (by rw[ba,he',cj,hn])
     .obtain⟨j,rfl⟩:∃j,i=j+1:=⟨i-1,by omega⟩;exact h5 j e p he (by rw[di] at hp;exact hp)
   by_cases hr:eV a
   .rw[ad (this.2 hr),aq hr];rfl
   .rw[ac (λh=>hr (this.1 h)),ak hr];rfl
 .by_cases hall:∀i,i<a.wher.length->∀(b:Bool) (w u:Int),a.slots.used[i]?=some b->a.wher[i]?=some w->a.slots.uses[i]?=some u->if b=true then 0<=w/\∃e,a.heap[w.toNat]?=some e/\ e.hnd=⟨i,u⟩ else w= -1
  .rw[ad hall]
  .rw[ac hall];exact no (λh=>hall λi _=>h.2.1.2.2 i)
def AC {c:Clock}(h:okF c.pts)(hr:rok c.now=true){x:Held}(hx:x.cert.ok):kO (ptOf c.pts x.cert.high) (ptOf c.pts x.cert.low) c.now=0↔dW c.pts x=true:=by
 unfold dW;rw[aH];constructor
 .intro h0;obtain⟨h1,h2,_,_⟩:=Cf h0;have go:∀id,(ptOf c.pts id).ok=true->inF c.pts id=true:=λid hp=>by
   cases e:inF c.pts id with
   |true=>rfl
   |false=>rw[Dl (J1 e)] at hp;simp[Pt.ok] at hp
  grind
 .rintro⟨h1,h2⟩;obtain⟨i,p,a1,a2,a3,a4⟩:=d5 h h1;obtain⟨j,q,b1,b2,b3,b4⟩:=d5 h h2;rw[a4,b4];exact lF (dC h b1) (dC h a1) hr (by rw[a2,b2];exactλe=>hx.2.2.2.2 e.symm)
def adO {d:Due}{rest:List Due}:RF.ev (.tsub 3) [sl cW (d::rest),.v (.int .i64 1),.v (.int .i64 ((rest.length+1:Nat):Int))]=some (sl cW rest):=by
 rw[yj,ad ⟨by omega,by omega,by simp,by simp[eg,cW],by decide⟩];simp;exact bj (by simp)
def af8 {n:Nat}:RF.ev .bnd [.v (.int .i64 1),.v (.int .i64 ((n+1:Nat):Int))]=some (.i64 1):=by
 rw[kr,ad ⟨by omega,by omega⟩]
def af9 (e:Rt)(n:Int)(h:Hnd):RF.ev .agg [R e,.i64 n,HD h]=some (EP ⟨e,n,h⟩):=rfl
open Classical in
def vQ {c:Clock}(h64:fJ c)(hg:gW c):Ans D 147 [CL c] [.i64 (okE (decide (bC c)))]:=by
 obtain⟨hg1,hg2,hg3,hga⟩:=hg;have hg':=hga;unfold gAg gSl at hg';simp only[eO,aj] at hg';have no:∀h:¬bC c,(some [PV.v (.int .i64 8)]:Option (List PV))=some [.i64 (okE (decide (bC c)))]:=λh=>by rw[ak h];rfl
 have b4:∀w x y z:Int,RF.ev (.bs 4 [KP.z] [0,1,2,3]) [.i64 w,.i64 x,.i64 y,.i64 z]=some (sl I1 [w,x,y,z]):=λ_ _ _ _=>rfl;refine an ⟨1001,?_⟩;unfold ZW;simp only[ay,c9,gQ,iu,rQ,oe,b4,EV,phi (c43 h64.1),phi (tR _),phi (Lz (c:=c.certs) (by omega)),phi (Fe hga h64.2)];refine(cD (m:=1001) (l:=[okE (rok c.now),gn c.pts,okE (decide (dB c.certs)),okE (decide (eV c.agenda))]) (p:=λe=>decide (e=0)) (st:=λi=>[.i64 (i:Int)]) (r:=some [.i64 8]) (fin:=some [.i64 (okE (decide (bC c)))]) (λi e self he _=>?_) (λhall self=>?_) (by simp)).trans ?_
 .have hi:i<4:=by simpa using aL he
  unfold GC;have i4:RF.ev .ix [.i64 (i:Int),.v (.int .i64 4)]=some (.i64 (i:Int)):=by rw[ade,ad (by omega)]
  have l4:decide ((i:Int)<4)=true:=aq (by omega);simp only[EV,l4,df,az,i4,aN he,cV,up1 (show i<1000000000 by omega),aE,aa]
  by_cases e0:e=0
  .rw[aq e0,ac (by simp),ad e0]
  .rw[ak e0,ad rfl,ac e0]
 .simp only[dI,yC,kJ,aH,aa,Ay] at hall;obtain⟨h1,h2,h3,h5⟩:=hall;have h2':=eE.1 h2;unfold GC;have l4:decide (((4:Nat):Int)<4)=false:=by decide
  simp only[aV,cQ,cp,Nat.reduceAdd,EV,l4,aw,ax];unfold OP;simp only[ay,jC,mL,og,fB,EV,ai,aE,aj];by_cases h6:c.agenda.wher.length=200
  .rw[ac (by omega)];by_cases h7:c.agenda.heap.length=c.due.length
   .rw[ac (by omega)];refine(vN (m:=1001) (l:=c.certs.list) (b:=A9) (g:=dZ c) (I:=λ_=>True) (S:=λleft i=>[sl cW left,.i64 (i:Int)]) (r:=some [.i64 8]) (fin:=λleft=>some [.i64 (if left=[] then 0 else 8)]) (x:=c.due) trivial (λ_ _ _ _ _=>trivial) (λi h left self hh _=>?_) (λleft self _ hm=>?_) (by omega)).trans ?_
    .have hx:h.cert.ok:=(h3.2.2.2 i h hh).1;have hk:=AC h2' h1 hx;have hw:=phi (RK (x:=h.cert) (t:=c.now) h2' h64.1);unfold A9 dZ;generalize hF:cL c.now (ptOf c.pts h.cert.high) (ptOf c.pts h.cert.low)=FT at hw|-;by_cases hkn:dW c.pts h=true
     .rw[ad (hk.2 hkn)] at hw;rw[ad hkn];simp only[ay,jC,fB,gQ,iu,oe,aX hh (gP _),aN hh,lG,pHP,lI,bm,hw,EV,ai,aa,bh (aL hh),bA,aE,aA,aJ,aw,ax];cases hF2:FT.2 with
      |false=>
       simp only[df,az,aw,ax];simp only[ay,lI,Cj,Cl,oa,ob,EV,GB,up1 (show i<1000000000 by have:=aL hh;omega)]
      |true=>
       simp only[qr,ax,az];cases left with
       |nil=>rw[ad (by simp)]
       |cons d rest=>
        have d0:(d::rest)[0]?=some d:=rfl;have t0':RF.ev (.tix 3) [sl cW (d::rest),.v (.int .i64 0)]=some (.i64 ((0:Nat):Int)):=aX d0 (vI _);rw[ac (by simp;omega)];simp only[ay,t0',aN d0,Ue,Lv,rS,lI,EV,aE,aj,aa,bA];by_cases n1:d.number=h.number
        .rw[ac (by simp[n1])];by_cases n2:d.hnd.index<0
         .rw[ad n2,ac (λy=>by have:=y.2.1.1;omega)]
         .rw[ac n2];by_cases n3:200<=d.hnd.index
          .rw[ad n3,ac (λy=>by
            have:=aL y.2.1.2.2;have:=h5.2.1.1;omega)]
          .rw[ac n3];obtain⟨ix,hix⟩:=tV (show 0<=d.hnd.index by omega)
           obtain⟨w,hwh⟩:∃w,c.agenda.wher[ix]?=some w:=⟨c.agenda.wher[ix]'(by omega),ah _⟩;obtain⟨b,hb⟩:∃b,c.agenda.slots.used[ix]?=some b:=⟨c.agenda.slots.used[ix]'(by have:=h5.2.1.1;have:=h5.1.2.2.1;omega),ah _⟩;obtain⟨u,hu⟩:∃u,c.agenda.slots.uses[ix]?=some u:=⟨c.agenda.slots.uses[ix]'(by have:=h5.2.1.1;omega),ah _⟩;have hpl:=h5.2.1.2.2 ix b w u hb hwh hu;simp only[ay,mL,og,rS,hix,aX hwh (cF _),aN hwh,cV,EV,aa];by_cases n4:w<0
           .rw[ad n4,ac (λy=>by
             have hl:=y.2.1.2.1;rw[hix,aF,hb] at hl;cases hl;rw[ad rfl] at hpl;have:=hpl.1;omega)]
           .rw[ac n4];have hbt:b=true:=by
             cases b with
             |true=>rfl
             |false=>rw[ac (by simp)] at hpl;omega
            subst hbt;rw[ad rfl] at hpl;obtain⟨_,e,he,hex⟩:=hpl;obtain⟨n,rfl⟩:=tV (show 0<=w by omega)
            rw[aF] at he;have hD:pP c.agenda d h.number FT.1↔e=⟨FT.1,h.number,d.hnd⟩:=by
             constructor
             .intro y;have hl:=y.2.1.2.2;rw[hix,aF,hu] at hl;have:=y.2.2 ix n e hix hwh he;obtain⟨e1,e2,e3⟩:=e;simp only at this hex;rw[this.1,this.2,hex];obtain⟨d1,d2,d3⟩:=d;simp only at hix hl;simp only[bX] at hl;rw[hix,hl]
             .intro y;subst y;simp only at hex;refine⟨n1,⟨by omega,by rw[hix,aF];exact hb,by rw[hix,aF,hu,hex]⟩,λi' n' e' y1 y2 y3=>?_⟩;rw[hix] at y1;have:ix=i':=by omega
              subst this;rw[hwh] at y2;have:(n:Int)=n':=by simpa using y2
              have:n=n':=by omega
              subst this;rw[he] at y3;cases y3;exact⟨rfl,rfl⟩
            have pR:RF.ev (.part 0 2) [R FT.1]=some (R FT.1):=rfl;have pH2:RF.ev (.part 0 2) [HD d.hnd]=some (HD d.hnd):=rfl;simp only[ay,mL,aX he (j4 _),aN he,iY,pR,pH2,lI,af9,afV,EV,aE,aj];by_cases n5:e=⟨FT.1,h.number,d.hnd⟩
            .rw[ac (by simp[n5]),ad (hD.2 n5)];simp only[ay,aV,ai,af8,adO,lI,Cj,Cl,oa,ob,EV,GB,up1 (show i<1000000000 by have:=aL hh;omega)]
            .rw[ad n5,ac (λy=>n5 (hD.1 y))]
        .rw[ad n1,ac (λy=>n1 y.1)]
     .rw[ac (λy=>hkn (hk.1 y))] at hw;rw[ac hkn];simp only[ay,jC,fB,gQ,iu,oe,aX hh (gP _),aN hh,lG,pHP,lI,bm,hw,EV,ai,aa,bh (aL hh),aE,aj];rw[ad (λy=>hkn (hk.1 y))]
    .unfold A9;simp only[EV,ai,aa,bP,OO,cx];cases left with
     |nil=>rw[ac (by simp),ad rfl]
     |cons d rest=>rw[ad (by simp),ac (by simp)]
    .cases hm:ey (dZ c) c.due c.certs.list with
     |none=>exact no (λh=>by rw[h.2.2.2.2.2.2] at hm;cases hm)
     |some left=>
      cases left with
      |nil=>rw[aq (show bC c from⟨h1,h2',h3,h5,h6,h7,hm⟩)];rfl
      |cons d rest=>exact no (λh=>by rw[h.2.2.2.2.2.2] at hm;cases hm)
   .rw[ad (by omega)];exact no (λh=>h7 h.2.2.2.2.2.1)
  .rw[ad (by omega)];exact no (λh=>h6 h.2.2.2.2.1)
 .simp only[dI,yC,kJ,aH,aa,Ay];split
  .rfl
  .rename_i hn;exact no (λh=>hn ⟨h.1,eE.2 h.2.1,h.2.2.1,h.2.2.2.1⟩)
open Classical in
def LA {c:Clock}(h64:fJ c)(hg:gCl c=false):Ans D 147 [CL c] [.i64 (okE (decide (bC c)))]:=vQ h64 (adG hg)
def RM {l:List Int}(v:Int)(hl:l.length<=1000):Ans D 178 [sl I1 l,.i64 v] [.i64 (qA (λy=>decide (v=y)) l)]:=by
 refine an ⟨1001,?_⟩;unfold aae;simp[EV];refine(pd (m:=1001) (l:=l) (p:=λy=>decide (v=y)) (st:=λi=>[.i64 (i:Int)]) (ret:=λi=>some [.i64 (i:Int)]) (fin:=some [.i64 (-1)]) (λi a self ha=>?_) (λself=>?_) (by omega)).trans Em
 .unfold GW;simp only[aX ha (cF _),aN ha,cV,EV,aa,bh (aL ha),up1 (show i<1000000000 by have:=aL ha;omega)]
 .unfold GW;simp[EV,Pa]
def aga {l:List Int}(v:Int)(hl:l.length<=1000):Ans D 148 [sl I1 l,.i64 v] [.bool (decide (v∈l))]:=by
 refine am ?_;unfold ZX;simp[EV,phi (RM v hl),zH,Co]
def agb {l:List Crt}(v:Crt)(hl:l.length<=1000):Ans D 242 [sl crow l,CP v] [.i64 (qA (λy=>decide (v=y)) l)]:=by
 refine an ⟨1001,?_⟩;unfold aaH;simp[kP,EV];refine(pd (m:=1001) (l:=l) (p:=λy=>decide (v=y)) (st:=λi=>[.i64 (i:Int)]) (ret:=λi=>some [.i64 (i:Int)]) (fin:=some [.i64 (-1)]) (λi a self ha=>?_) (λself=>?_) (by omega)).trans Em
 .unfold Hl;simp only[aX ha (iZ _),aN ha,tT,xp,EV,aa,bh (aL ha),up1 (show i<1000000000 by have:=aL ha;omega)]
 .unfold Hl;simp[EV,Pz]
def xq {l:List Crt}(v:Crt)(hl:l.length<=1000):Ans D 150 [sl crow l,CP v] [.bool (decide (v∈l))]:=by
 refine am ?_;unfold ZY;simp[kP,EV,phi (agb v hl),zH,Co]
def JustP (c:Clock)(edges:List Crt):Prop:=edges.length=c.certs.list.length/\∀h∈c.certs.list,h.cert∈edges
def RN {l k:List Int}(hl:l.length<=1000):Ans D 160 [sl I1 l,sl I1 k] [.bool (decide (l=k))]:=by
 refine an ⟨1001,?_⟩;unfold Z8;simp only[EV,ai,aE,aj];by_cases h:l.length=k.length
 .rw[ac (by omega)];refine Az h (cD (l:=l.zip k) (st:=λi=>[.i64 (i:Int)]) (λi x self hx _=>?_) (λ_ self=>?_) (by rw[jb h];omega))
  .obtain⟨hp,hq⟩:=mb hx;unfold GH;simp only[aX hp (cF _),aN hp,aX hq (cF _),aN hq,cV,EV,aa,aE,aj,bh (aL hp),up1 (show i<1000000000 by have:=aL hp;omega)]
   grind
  .rw[jb h];unfold GH;simp only[EV,aa,bP,O1]
 .rw[ad (by omega),ak (λe=>h (by rw[e]))]
def agc {l k:List Nod}(hl:l.length<=1000):Ans D 163 [sl dG l,sl dG k] [.bool (decide (l=k))]:=by
 refine an ⟨1001,?_⟩;unfold aaa;simp only[EV,ai,aE,aj];by_cases h:l.length=k.length
 .rw[ac (by omega)];refine Az h (cD (l:=l.zip k) (st:=λi=>[.i64 (i:Int)]) (λi x self hx _=>?_) (λ_ self=>?_) (by rw[jb h];omega))
  .obtain⟨hp,hq⟩:=mb hx;unfold GN;simp only[aX hp (oc _),aN hp,aX hq (oc _),aN hq,Fa,XA,EV,aa,aE,aj,bh (aL hp),up1 (show i<1000000000 by have:=aL hp;omega)]
   grind
  .rw[jb h];unfold GN;simp only[EV,aa,bP,O6]
 .rw[ad (by omega),ak (λe=>h (by rw[e]))]
def nthI (l:List Int)(i:Nat):Int:=(l[i]?).getD 0
def eT {l:List Int}{i:Nat}(h:i<l.length):l[i]?=some (nthI l i):=by
 unfold nthI
 grind
def jP (l:List Int)(n:Nat):List Crt:=(List.range n).map λi=>⟨nthI l (i+1),nthI l (i/2)⟩
def jD (l:List Int)(n:Nat):(jP l n).length=n:=by simp[jP]
def Ff (l:List Int)(n:Nat):jP l (n+1)=jP l n++[⟨nthI l (n+1),nthI l (n/2)⟩]:=by
 unfold jP;rw[o7,dT];rfl
def b7 (l:List Int):List Crt:=jP l (l.length-1)
def vR (a b:Int):RF.ev .agg [.i64 a,.i64 b]=some (CP ⟨a,b⟩):=rfl
def bsC (c:Crt):RF.ev (.bs 1 [KP.z,KP.z] [0]) [CP c]=some (sl crow [c]):=rfl
def qR (c:Crt):RF.ev .sub [sl crow [c],.v (.int .i64 0),.v (.int .i64 1)]=some (sl crow [c]):=rfl
def XJ {l:List Int}(hl:l.length<=1000):∃N,den (bK D) N Sq [] [sl I1 l]=some [sl crow (b7 l)]:=by
 refine⟨1001,?_⟩;unfold Sq;simp[EV];refine gm (m:=1001) (n:=l.length-1) (st:=λi=>[sl crow (jP l i),.i64 ((jP l i).length:Int),.i64 ((i+1:Nat):Int)]) (λi self hi=>?_) (λself=>?_) (by omega)
 .have h1:=eT (l:=l) (i:=i+1) (by omega);have h2:=eT (l:=l) (i:=i/2) (by omega);unfold GD;simp only[aX h1 (cF _),aN h1,cV,aX h2 (cF _),aN h2,vR,bsC,qR,Lu (show i<1000000 by omega),mq,EV,ai,aa,bh (show i+1<l.length by omega),
   gt (f:=crow) (l:=jP l i) (k:=[⟨nthI l (i+1),nthI l (i/2)⟩]) (bytes:=16) (z:=2) (by rw[jD];simp;omega) iZ,up1 (show i+1<1000000000 by omega),<-Ff]
 .unfold GD;simp only[EV,ai,aa];rw[ac (by omega)];unfold OQ;simp only[ct,EV];rfl
def RP {l:List Int}(hl:l.length<=1000):Ans D 149 [sl I1 l] [sl crow (b7 l)]:=an (XJ hl)
def agd {l:List Int}(hl:l.length<=1000):Ans D 136 [sl I1 l] [sl crow (b7 l)]:=an (XJ hl)
def JustR (c:Clock)(edges:List Crt):Prop:=c.certs.list.length=edges.length/\∀e∈edges,(∃h∈c.certs.list,h.cert=e)/\ leads c.now (ptOf c.pts e.high) (ptOf c.pts e.low)=true
open Classical in
def LC {c:Clock}{edges:List Crt}(hF:okF c.pts)(h64:aS c.now)(hl:edges.length<=1000)(hc:c.certs.list.length<=1000)(hin:∀e∈edges,inF c.pts e.low=true/\ inF c.pts e.high=true):Ans D 135 [CL c,sl crow edges] [.bool (decide (JustR c edges))]:=by
 refine an ⟨1001,?_⟩;unfold ZJ;simp only[ay,c9,jC,EV,ai,aE,aj];by_cases h1:c.certs.list.length=edges.length
 .rw[ac (by omega)];refine(cD (m:=1001) (l:=edges) (p:=λe=>(c.certs.list.any λh=>decide (h.cert=e))&& leads c.now (ptOf c.pts e.high) (ptOf c.pts e.low)) (st:=λi=>[.i64 (i:Int)]) (r:=some [.bool false]) (fin:=some [.bool true]) (λi e self he _=>?_) (λ_ self=>?_) (by omega)).trans ?_
  .obtain⟨a1,a2⟩:=hin e (au he);unfold Gk;simp only[ay,gQ,iu,rQ,aX he (iZ _),aN he,tT,phi (XF (c:=c.certs) (x:=e) hc),phi (af0 (x:=e) hF h64 a1 a2),EV,ai,aa,bh (aL he),up1 (show i<1000000000 by have:=aL he;omega)]
   grind
  .unfold Gk;simp only[EV,ai,aa,bP,Oz]
  .have:(edges.all λe=>(c.certs.list.any λh=>decide (h.cert=e))&& leads c.now (ptOf c.pts e.high) (ptOf c.pts e.low))=decide (JustR c edges):=by
    rw[dX,aa];unfold JustR;simp[h1]
   rw[this];cases decide (JustR c edges)<;>rfl
 .rw[ad (by omega),ak (λh=>h1 h.1)]
def JN {c:Certs}(h:dB c):(c.list.map (·.cert)).Nodup:=by
 rw[pE];intro i j x hj hi e;rw[ba,bM] at hi e;obtain⟨a,ha,rfl⟩:=hi;obtain⟨b,hb,e⟩:=e;exact(h.2.2.2 i a ha).2.2.2.2 j hj b hb e
def Fg {c:Clock}{edges:List Crt}(hc:dB c.certs)(hn:edges.Nodup)(Q:Crt->Prop):
  (edges.length=c.certs.list.length/\∀h∈c.certs.list,h.cert∈edges/\ Q h.cert)↔(c.certs.list.length=edges.length/\∀e∈edges,(∃h∈c.certs.list,h.cert=e)/\ Q e):=by
 have key:=λh:(c.certs.list.map (·.cert)).length=edges.length=>TL (JN hc) hn h Q
 grind
def tf {c:Clock}{edges:List Crt}(hc:dB c.certs)(hn:edges.Nodup)(hQ:∀e∈edges,leads c.now (ptOf c.pts e.high) (ptOf c.pts e.low)=true):JustP c edges↔JustR c edges:=by
 unfold JustP JustR;rw[<-Fg hc hn]
 grind
def J2 {l:List Int}{i:Nat}(h:i<l.length):nthI l i∈l:=au (eT h)
def nO {l:List Int}{e:Crt}(h:e∈b7 l):e.low∈l/\ e.high∈l:=by
 obtain⟨i,hi,rfl⟩:=bb.1 h;rw[cR] at hi;exact⟨J2 (by omega),J2 (by omega)⟩
def tX {l:List Int}(h:l.Nodup):(b7 l).Nodup:=by
 rw[dr];intro i j x hi hj;unfold b7 jP at hi hj;rw[ba,bM] at hi hj;obtain⟨a,ha,rfl⟩:=hi;obtain⟨b,hb,e⟩:=hj;have ha':=aL ha;have hb':=aL hb;rw[mR] at ha' hb';rw[iW ha'] at ha;rw[iW hb'] at hb;cases ha;cases hb;simp at e;have:=dr.1 h (i+1) (j+1) (nthI l (i+1)) (eT (by omega)) (by rw[<-e.1];exact eT (by omega));omega
def iJ (k:KHeap):Prop:=bC k.clock/\ k.heap.length=k.clock.pts.length/\(∀x∈k.heap,inF k.clock.pts x=true)/\ k.heap.Nodup/\ JustR k.clock (b7 k.heap)
def gq {l:List Pt}{x:Int}:inF l x=true↔x∈l.map Pt.id:=by
 constructor
 .intro h;have h:=aT h;rcases pos_cases l x with⟨e,_⟩|⟨i,p,h1,h2,h3⟩
  .omega
  .grind
 .intro h;obtain⟨p,hp,rfl⟩:=bb.1 h;cases e:inF l p.id with
  |true=>rfl
  |false=>exact absurd rfl (J1 e p hp)
def uA {k:KHeap}(h:gKh k=false):gCl k.clock=false/\ k.heap.length<=70:=by
 unfold gKh at h
 grind
def gT {c:Clock}(h:gCl c=false):c.certs.list.length<=40:=by
 unfold gCl at h
 grind
open Classical in
def c81 {k:KHeap}(h64:fJ k.clock)(hg:gKh k=false):Ans D 61 [KH k] [.i64 (okE (decide (iJ k)))]:=by
 obtain⟨g1,g2⟩:=uA hg;have no:∀h:¬iJ k,(some [PV.v (.int .i64 8)]:Option (List PV))=some [.i64 (okE (decide (iJ k)))]:=λh=>by rw[ak h];rfl
 have cKH2:RF.ev (.cell 2) [KH k]=some (sl row k.clock.pts):=rfl;have pKH2:RF.ev (.part 2 1) [KH k]=some (F k.clock.pts):=rfl;refine an ⟨1001,?_⟩;unfold k81;simp only[ay,jO,pKH,cKH,cKH2,EV,ai,phi (Lw h64 g1),ja,aE,aj,aa];by_cases h1:bC k.clock
 .rw[ad h1];by_cases h2:k.heap.length=k.clock.pts.length
  .rw[ac (by omega)];have hF:=h1.2.1;refine(eQ (m:=1001) (n:=k.heap.length) (P:=λi=>∀x,k.heap[i]?=some x->inF k.clock.pts x=true/\∀j,j<i->∀y,k.heap[j]?=some y->y≠x) (st:=λi=>[.i64 (i:Int)]) (r:=some [.i64 8]) (fin:=some [.i64 (okE (decide (iJ k)))]) (λi self hi _=>?_) (λhall self=>?_) (by omega)).trans ?_
   .have hx:=eT hi;generalize nthI k.heap i=x at hx;have hP:(∀x',k.heap[i]?=some x'->inF k.clock.pts x'=true/\∀j,j<i->∀y,k.heap[j]?=some y->y≠x')↔(inF k.clock.pts x=true/\∀j,j<i->∀y,k.heap[j]?=some y->y≠x):=
     ⟨λh=>h x hx,λh x' e=>by rw[hx] at e;cases e;exact h⟩
    unfold Me;simp only[hP,ay,cKH,pKH2,aX hx (cF _),aN hx,cV,phi (tS (l:=k.clock.pts) (by have:=hF.1;omega) x),EV,ai,aa,bh hi];by_cases c1:pos k.clock.pts x<0
    .rw[ad c1,ac (λy=>by have:=aT y.1;omega)]
    .rw[ac c1];have c1':inF k.clock.pts x=true:=aq (by omega);refine(eQ (m:=1001) (n:=i) (P:=λj=>∀y,k.heap[j]?=some y->y≠x) (st:=λi=>[.i64 (i:Int)]) (r:=some [.i64 8]) (fin:=self [.i64 ((i+1:Nat):Int)]) (λj self' hj _=>?_) (λ_ self'=>?_) (by omega)).trans ?_
     .have hy:=eT (l:=k.heap) (i:=j) (by omega);generalize nthI k.heap j=y at hy;have hQ:(∀y',k.heap[j]?=some y'->y'≠x)↔y≠x:=⟨λh=>h y hy,λh y' e=>by rw[hy] at e;cases e;exact h⟩;unfold Md;simp only[hQ,ay,cKH,aX hx (cF _),aN hx,aX hy (cF _),aN hy,cV,EV,aa,bh hj,up1 (show j<1000000000 by omega)]
      by_cases c4:y=x
      .rw[ad c4,ac (by simp[c4])]
      .rw[ac c4,ad c4]
     .unfold Md;simp only[EV,aa,bP,UT,up1 (show i<1000000000 by omega)]
     .by_cases hq:∀j,j<i->∀y,k.heap[j]?=some y->y≠x
      .rw[ad hq,ad ⟨c1',hq⟩]
      .rw[ac hq,ac (λy=>hq y.2)]
   .have hin:∀x∈k.heap,inF k.clock.pts x=true:=λx hx=>by
     obtain⟨i,hi⟩:=aI.1 hx;exact(hall i (aL hi) x hi).1
    have hnd:k.heap.Nodup:=pE.2 λi j x hj hi e=>(hall i (aL hi) x hi).2 j hj x e rfl;unfold Me;simp only[ay,cKH,EV,ai,aa,bP,US,pKH,ct,phi (agd (l:=k.heap) (by omega)),phi (LC (c:=k.clock) (edges:=b7 k.heap) hF h64.1 (by unfold b7;rw[jD];omega) (by have:=gT g1;omega) (λe he=>⟨hin _ (nO he).1,hin _ (nO he).2⟩)),aE,aj];by_cases hj:JustR k.clock (b7 k.heap)
    .rw[ac (by simp[hj]),aq (show iJ k from⟨h1,h2,hin,hnd,hj⟩)];rfl
    .rw[ad hj];exact no (λh=>hj h.2.2.2.2)
   .by_cases hq:∀i,i<k.heap.length->∀x,k.heap[i]?=some x->inF k.clock.pts x=true/\∀j,j<i->∀y,k.heap[j]?=some y->y≠x
    .rw[ad hq]
    .rw[ac hq];refine no (λh=>hq λi hi x hx=>⟨h.2.2.1 x (au hx),λj hj y hy e=>?_⟩);subst e;exact pE.1 h.2.2.2.1 i j y hj hx hy
  .rw[ad (by omega)];exact no (λh=>h2 h.2.1)
 .rw[ac h1];exact no (λh=>h1 h.1)
def Fh {l:List Pt}{h:List Int}(hs:js l)(hl:h.length=l.length):(∀p∈l,p.id∈h)↔((∀x∈h,inF l x=true)/\ h.Nodup):=by
 constructor
 .intro a;have hp:=lV (l:=l.map Pt.id) (k:=h) (cT hs) (λx hx=>by obtain⟨p,hp,rfl⟩:=bb.1 hx;exact a p hp) (by rw[ai];omega);exact⟨λx hx=>gq.2 (hp.mem_iff.2 hx),hp.nodup_iff.1 (cT hs)⟩
 .rintro⟨a,b⟩ p hp;have hp':=lV (l:=h) (k:=l.map Pt.id) b (λx hx=>gq.1 (a x hx)) (by rw[ai];omega)
  grind
open Classical in
def c77 {k:KHeap}(h64:fJ k.clock)(hg:gKh k=false):Ans D 68 [KH k] [.i64 (okE (decide (iJ k)))]:=by
 obtain⟨g1,g2⟩:=uA hg;have no:∀h:¬iJ k,(some [PV.v (.int .i64 8)]:Option (List PV))=some [.i64 (okE (decide (iJ k)))]:=λh=>by rw[ak h];rfl
 have cKH2:RF.ev (.cell 2) [KH k]=some (sl row k.clock.pts):=rfl;have cKH4:RF.ev (.cell 4) [KH k]=some (sl hrow k.clock.certs.list):=rfl;have pKH2:RF.ev (.part 2 1) [KH k]=some (F k.clock.pts):=rfl;have pKH0:RF.ev (.part 0 2) [KH k]=some (R k.clock.now):=rfl;have el:(b7 k.heap).length=k.heap.length-1:=by unfold b7;rw[jD]
 refine an ⟨1001,?_⟩;unfold k77;simp only[ay,jO,pKH,cKH,cKH2,EV,ai,phi (LA h64 g1),ja,aE,aj,aa];by_cases h1:bC k.clock
 .rw[ad h1];by_cases h2:k.heap.length=k.clock.pts.length
  .rw[ac (by omega)];have hF:=h1.2.1;refine(cD (m:=1001) (l:=k.clock.pts) (p:=λp=>decide (p.id∈k.heap)) (st:=λi=>[.i64 (i:Int)]) (r:=some [.i64 8]) (fin:=some [.i64 (okE (decide (iJ k)))]) (λi p self hp _=>?_) (λhall self=>?_) (by omega)).trans ?_
   .unfold Mh;simp only[ay,cKH,cKH2,gM,aX hp (b5 _),aN hp,gN,phi (aga (l:=k.heap) p.id (by omega)),EV,aa,bh (aL hp),up1 (show i<1000000000 by have:=aL hp;omega)]
    grind
   .have hall:∀p∈k.clock.pts,p.id∈k.heap:=λp hp=>aT (aU.1 hall p hp);obtain⟨hin,hnd⟩:=(Fh hF.2.2 h2).1 hall;unfold Mh;simp only[ay,cKH,cKH4,EV,ai,aa,bP,UW,phi (RP (l:=k.heap) (by omega)),aE,aj];by_cases h3:(b7 k.heap).length=k.clock.certs.list.length
    .rw[ac (by omega)];have hJ:=Fg (c:=k.clock) h1.2.2.1 (tX hnd) (λe=>leads k.clock.now (ptOf k.clock.pts e.high) (ptOf k.clock.pts e.low)=true);refine(cD (m:=1001) (l:=k.clock.certs.list) (p:=λh=>decide (h.cert∈b7 k.heap)&& leads k.clock.now (ptOf k.clock.pts h.cert.high) (ptOf k.clock.pts h.cert.low)) (st:=λi=>[.i64 (i:Int)]) (r:=some [.i64 8]) (fin:=some [.i64 0]) (λi h self hh _=>?_) (λ_ self=>?_) (by have:=gT g1;omega)).trans ?_
     .unfold Mg;simp only[ay,cKH4,pKH0,pKH2,Cj,Cl,pHP,aX hh (gP _),aN hh,lG,phi (xq (l:=b7 k.heap) h.cert (by omega)),EV,aa,bh (aL hh),up1 (show i<1000000000 by have:=aL hh;have:=gT g1;omega)]
      by_cases c1:h.cert∈b7 k.heap
      .obtain⟨m1,m2⟩:=nO c1;obtain⟨i1,p,a1,a2,a3,a4⟩:=d5 hF (hin _ m1);obtain⟨j1,q,b1,b2,b3,b4⟩:=d5 hF (hin _ m2);have hne:q.id≠p.id:=by rw[a2,b2];exactλe=>(h1.2.2.1.2.2.2 i h hh).1.2.2.2.2 e.symm
       have hA:=phi (Xx hF h64.1 h1.1 b1 a1 hne);rw[a2,b2] at hA;simp only[c1,aA,aJ,aw,ax,fG,ay,Cj,Cl,pKH0,pKH2,hA,a4,b4,EV,up1 (show i<1000000000 by have:=aL hh;have:=gT g1;omega)]
       cases leads k.clock.now q p<;>simp
      .simp[c1]
     .unfold Mg;simp only[EV,aa,bP,UV]
     .have:(k.clock.certs.list.all λh=>decide (h.cert∈b7 k.heap)&& leads k.clock.now (ptOf k.clock.pts h.cert.high) (ptOf k.clock.pts h.cert.low))=true↔iJ k:=by
       rw[aU];simp only[aH,aa];constructor
       .intro h;exact⟨h1,h2,hin,hnd,hJ.1 ⟨h3,h⟩⟩
       .intro h;exact(hJ.2 h.2.2.2.2).2
      by_cases hr:iJ k
      .rw[ad (this.2 hr),aq hr];rfl
      .rw[ac (λh=>hr (this.1 h)),ak hr];rfl
    .rw[ad (by omega)];exact no (λh=>h3 h.2.2.2.2.1.symm)
   .by_cases hq:(k.clock.pts.all λp=>decide (p.id∈k.heap))=true
    .rw[ad hq]
    .rw[ac hq];refine no (λh=>hq (aU.2 λp hp=>aq ((Fh hF.2.2 h2).2 ⟨h.2.2.1,h.2.2.2.1⟩ p hp)))
  .rw[ad (by omega)];exact no (λh=>h2 h.2.1)
 .rw[ac h1];exact no (λh=>h1 h.1)
def AD {α:Type}(p:α->Bool):∀(l:List α) (n:Nat),l.foldl (λn q=>if p q=true then n+1 else n) n=n+(l.filter p).length
 |[],n=>rfl
 |a::l,n=>by
  rw[da,AD p l,cO];cases p a
  .rfl
  .simp;omega
def age {l:List Pt}{t:Rt}(h:okF l)(ht:aS t){i:Nat}{p:Pt}(hp:l[i]?=some p):Ans D 322 [F l,PP p,R t] [.i64 (rank t l p:Nat)]:=by
 have hl:=h.1;refine an ⟨1001,?_⟩;unfold abq;simp only[ay,bv,kH,bm,EV];have e0:([PV.v (.int .i64 0),.v (.int .i64 0)]:List PV)=[.i64 ((0:Nat):Int),.i64 ((0:Nat):Int)]:=rfl;rw[e0];refine(jB (m:=1001) (l:=l) (g:=λn q=>if(decide (q.id≠p.id)&& leads t q p)=true then n+1 else n) (I:=λi n=>n<=i) (S:=λn i=>[.i64 ((n:Nat):Int),.i64 (i:Int)]) (fin:=λn=>some [.i64 ((n:Nat):Int)]) (x:=0) (aB _) (λi a acc _ h=>by split<;>omega) (λi q acc self hq hI=>?_) (λacc self _=>?_) (by omega)).1.trans ?_
 .unfold HI;have hi:=aL hq;simp only[ay,cq,gM,aX hq (b5 _),aN hq,gN,te,EV,ai,aa,bh hi,aE,aj,PY,phi (E7 (dC h hq) (dC h hp) ht)];by_cases c1:q.id=p.id
  .rw[ac (by simp[c1])];simp only[aw,ax,EV,Bh,up1 (show i<1000000000 by omega)]
   simp[c1]
  .rw[ad c1];cases leads t q p with
   |true=>simp only[az,EV,Bh,up1 (show i<1000000000 by omega),up1 (show acc<1000000000 by omega)];simp[c1]
   |false=>simp only[aw,ax,EV,Bh,up1 (show i<1000000000 by omega)];simp
 .unfold HI;simp only[ay,cq,EV,ai,aa,bP,PX]
 .rw[AD (λq=>decide (q.id≠p.id)&& leads t q p),cp];rfl
def xr (t:Rt)(l:List Pt):∀(ps:List Pt) (out:List Int),Bnd.ordered t l ps out=ps.foldl (λout p=>out.set (rank t l p) p.id) out
 |[],out=>rfl
 |p::ps,out=>by unfold Bnd.ordered;rw[xr t l ps,da]
def J3 {t:Rt}{l:List Pt}{p:Pt}(h:p∈l):rank t l p<l.length:=by
 unfold rank;rw[List.length_filter_lt_length_iff_exists]
 grind
def Cp {n:Nat}(h:n<=1000):RF.ev (.rep [KP.z] 8) [.v (.int .i64 (n:Int)),.v (.int .i64 (n:Int))]=some (sl I1 (List.replicate n 0)):=by
 rw[Nf,ad ⟨by omega,by omega,by omega,by omega⟩,aF];show _=some (PV.sl ((List.replicate n 0).map I1))
 rw[qy];rfl
def iK {l:List Int}{i:Nat}(h:i<l.length)(x:Int):RF.ev (.set 0) [sl I1 l,.v (.int .i64 (i:Int)),.v (.int .i64 x)]=some (sl I1 (l.set i x)):=by
 rw[ze,ad (by omega),aF,ba,ah h];exact aW (λx=>some (PV.sl x)) (oZ (f:=I1) (l:=l) (i:=i) (a:=x)).symm
def agf {l:List Pt}{t:Rt}(h:okF l)(ht:aS t):Ans D 238 [F l,R t] [sl I1 ((oP t l).map Pt.id)]:=by
 have hl:=h.1;refine an ⟨1001,?_⟩;unfold aaD;simp[bv,bm,cq,Cp (show l.length<=1000 by omega),EV]
 refine(jB (m:=1001) (l:=l) (g:=λout p=>out.set (rank t l p) p.id) (I:=λ_ out=>out.length=l.length) (S:=λout i=>[sl I1 out,.i64 (i:Int)]) (fin:=λout=>some [sl I1 out]) (x:=List.replicate l.length 0) (by simp) (λi a acc _ h=>by simpa using h) (λi p acc self hp hI=>?_) (λacc self hI=>?_) (by omega)).1.trans ?_
 .unfold Hf;simp only[cq,aX hp (b5 _),aN hp,gN,te,EV,ai,aa,bh (aL hp),phi (age h ht hp),ixM (J3 (au hp)),iK (show rank t l p<acc.length by rw[hI];exact J3 (au hp)),up1 (show i<1000000000 by have:=aL hp;omega)]
 .unfold Hf;have:=ct (f:=I1) (l:=acc);rw[hI] at this;simp only[ay,cq,EV,ai,aa,bP,Pv,this]
 .rw[<-xr,Nk (cT h.2.2) (by simp)]
def mM (x:Int×Int):List PV:=[.i64 x.1,.i64 x.2]
def XK (x:Int×Int):(mM x).length=2:=rfl
def adP (x:Int×Int):cB 0 0 (mM x)=some (.i64 x.1):=rfl
def adQ (x:Int×Int):cB 1 0 (mM x)=some (.i64 x.2):=rfl
def Dm (l:List Int)(d:Nat):(gZ l d 0).length+(gZ l d 1).length<=l.length:=by
 unfold gZ;induction l with
 |nil=>simp
 |cons x l ih=>
  grind
def tg:∀(n:Nat) (l:List Int) (f:Int) (d:Nat),l.length<=n->(iA l f d).length<=l.length
 |0,l,f,d,h=>by
  have hl:l=[]:=cJ.1 (by omega);subst hl;unfold iA;simp
 |n+1,[],f,d,_=>by unfold iA;simp
 |n+1,o::os,f,d,h=>by
  unfold iA;simp at h|-;have h0:=wR (l:=os) (d:=d) (b:=0);have h1:=wR (l:=os) (d:=d) (b:=1);have a:=tg n (gZ os d 0) o (d+1) (by omega);have b:=tg n (gZ os d 1) o (d+1) (by omega);have:=Dm os d;omega
def zm {α:Type}(p:α->Bool):∀(l acc:List α),l.foldl (λacc x=>if p x=true then acc++[x] else acc) acc=acc++l.filter p
 |[],acc=>by simp
 |a::l,acc=>by
  rw[da,zm p l,cO];cases p a<;>simp
def bsI (x:Int):RF.ev (.bs 1 [KP.z] [0]) [.i64 x]=some (sl I1 [x]):=rfl
def th (x:Int):RF.ev .sub [sl I1 [x],.v (.int .i64 0),.v (.int .i64 1)]=some (sl I1 [x]):=rfl
def XL {x:Int}(h:0<=x)(d:Nat):dx .shr .i64 x .i64 (d:Int)=some (.v (.int .i64 (x.fdiv (2^(min d 64)))))/\ dx .rem .i64 (x.fdiv (2^(min d 64))) .i64 2=some (.v (.int .i64 (fA x d))):=by
 constructor
 .rw[Ng,ac (by omega),aF];rfl
 .rw[ER,ac (by decide)];unfold fA;have:0<=x.fdiv (2^(min d 64)):=by
   rw[il _ (sO (zF (by decide)))];exact Int.ediv_nonneg h (sO (zF (by decide)))
  grind
def agh:∀(n:Nat) (os:List Int) (f:Int) (d:Nat),os.length<=n->n<=1000->d+n<=10000->(∀x∈os,0<=x)->Ans D 237 [sl I1 os,.i64 f,.i64 (d:Int)] [sl mM (iA os f d)]:=by
 intro n;induction n with
 |zero=>
  intro os f d h _ _ _;have hl:os=[]:=cJ.1 (by omega);subst hl;refine an ⟨1001,?_⟩;unfold Ms iA;simp only[EV,ai,cQ,fL,aA,az];rfl
 |succ n ih=>
  intro os f d h hn hd h0;cases os with
  |nil=>
   refine an ⟨1001,?_⟩;unfold Ms iA;simp only[EV,ai,cQ,fL,aA,az];rfl
  |cons o os=>
   simp only[aV] at h;have hlen:=Dm os d;have hs:∀b,(gZ os d b).length<=n/\∀x∈gZ os d b,0<=x:=λb=>⟨by have:=wR (l:=os) (d:=d) (b:=b);omega,λx hx=>h0 x (aO _ (bk.1 hx).1)⟩;have hr:=λb=>tg n (gZ os d b) o (d+1) (hs b).1;have hh:=λb=>phi (ih (gZ os d b) o (d+1) (hs b).1 (by omega) (by omega) (hs b).2);have o0:(o::os)[0]?=some o:=rfl;have tx0:RF.ev (.tix 1) [sl I1 (o::os),.v (.int .i64 0)]=some (.i64 ((0:Nat):Int)):=aX o0 (cF _);have ag:RF.ev .agg [.i64 o,.i64 f]=some (.agg (mM (o,f))):=rfl;have bs:RF.ev (.bs 1 [KP.z,KP.z] [0]) [.agg (mM (o,f))]=some (sl mM [(o,f)]):=rfl
   let outs:Nat->List (Int×Int):=λi=>match i with|0=>[(o,f)]|1=>[(o,f)]++iA (gZ os d 0) o (d+1)|_=>[(o,f)]++iA (gZ os d 0) o (d+1)++iA (gZ os d 1) o (d+1)
   refine an ⟨1001,?_⟩;unfold Ms;have ne:decide (((o::os).length:Int)=0)=false:=ak (by simp;omega);simp only[tx0,aN o0,cV,ag,bs,EV,ai,ne,aw,ax];refine(gm (m:=1001) (n:=2) (st:=λi=>[sl mM (outs i),.i64 ((outs i).length:Int),.i64 (i:Int)]) (fin:=some [sl mM (outs 2)]) (λi self hi=>?_) (λself=>?_) (by omega)).trans ?_
   .unfold He;have l2:decide ((i:Int)<2)=true:=aq (by omega);simp only[EV,l2,df,az];have e0:([PV.sl [],.v (.int .i64 0),.v (.int .i64 1)]:List PV)=[sl I1 ([]:List Int),.i64 ((([]:List Int).length:Nat):Int),.i64 ((0+1:Nat):Int)]:=rfl;rw[e0];refine(jB (m:=1001) (l:=os) (g:=λacc x=>if decide (fA x d=(i:Int))=true then acc++[x] else acc) (I:=λi acc=>acc.length<=i) (S:=λacc k=>[sl I1 acc,.i64 (acc.length:Int),.i64 ((k+1:Nat):Int)]) (fin:=λacc=>den (bK D) 1001 Hc [pC (bK D) 1001 Hb [] [sl I1 (o::os),.i64 f,.i64 (d:Int),.v (.int .i64 ((o::os).length:Int)),.v (.bool false),.i64 ((0:Nat):Int),.i64 o,.agg (mM (o,f)),sl mM [(o,f)]],self] [sl I1 (o::os),.i64 f,.i64 (d:Int),.v (.int .i64 ((o::os).length:Int)),.v (.bool false),.i64 ((0:Nat):Int),.i64 o,.agg (mM (o,f)),sl mM [(o,f)],sl mM (outs i),.i64 ((outs i).length:Int),.i64 (i:Int),.v (.bool true),.i64 ((os.length+1:Nat):Int),sl I1 acc,.i64 (acc.length:Int),.v (.int .i64 ((o::os).length:Int)),.v (.bool (decide (((os.length+1:Nat):Int)<((o::os).length:Int))))]) (x:=[]) (by simp) (λi a acc _ h=>by
     split
     .rw[aD,aK];omega
     .omega) (λk x acc self' hx hI=>?_) (λacc self' hI=>?_) (by omega)).1.trans ?_
    .have hx':(o::os)[k+1]?=some x:=by simpa using hx
     have hk:=aL hx;obtain⟨b1,b2⟩:=XL (h0 x (aO _ (au hx))) d;unfold Hd;simp only[aX hx' (cF _),aN hx',cV,mq,b1,b2,EV,ai,aa,bh (show k+1<(o::os).length by simp;omega),Bf]
     by_cases c1:fA x d=(i:Int)
     .rw[ad c1,ad c1];simp only[aX hx' (cF _),aN hx',cV,bsI,th,gt (f:=I1) (l:=acc) (k:=[x]) (bytes:=8) (z:=1) (by simp;omega) cF,EV,ai,Bf,up1 (show k+1<1000000000 by omega)]
     .rw[ac c1,ac c1];simp only[EV,Bf,up1 (show k+1<1000000000 by omega)]
    .unfold Hd;simp only[EV,ai,aa];rw[ac (by simp)]
    .rw[zm (λx=>decide (fA x d=(i:Int))),aM];have hi2:=hh (i:Int);have he:(List.filter (λx=>decide (fA x d=(i:Int))) os)=gZ os d (i:Int):=rfl;rw[he];unfold Hc;have ho:(outs i).length<=2000:=by
      have:=hr 0
      match i,hi with
      |0,_=>simp[outs]
      |1,_=>simp[outs];omega
     have hn1:outs i++iA (gZ os d (i:Int)) o (d+1)=outs (i+1):=by
      match i,hi with
      |0,_=>rfl
      |1,_=>rfl
     have hd1:IntKind.i64.wrap ((d:Int)+1)=((d+1:Nat):Int):=up1 (by omega);simp only[tx0,aN o0,cV,ct,EV,hd1,hi2,gt (f:=mM) (l:=outs i) (k:=iA (gZ os d (i:Int)) o (d+1)) (bytes:=16) (z:=2) (by have:=hr (i:Int);have:=(hs (i:Int)).1;omega) XK,ai,hn1,up1 (show i<1000000000 by omega)]
   .unfold He;simp only[EV,show decide (((2:Nat):Int)<2)=false from rfl,aw,ax,Hb,ct]
   .unfold iA;simp only[outs,aQ,aM]
def LD {t:Rt}:∀(n:Nat) (l:List Pt) (f:Int) (d:Nat),l.length<=n->Ids l->((d9 t l f d).map (·.1)).Nodup:=by
 intro n;induction n with
 |zero=>
  intro l f d h _;have:l=[]:=cJ.1 (by omega);subst this;rw[d9];simp
 |succ n ih=>
  intro l f d h hi;cases l with
  |nil=>rw[d9];simp
  |cons p l=>
   simp only[aV] at h;have hmem:∀(bt:Int) (x:Pt),x∈side (p::l) (dh t l p).id d bt->x∈p::l/\ x.id≠(dh t l p).id/\ fA x.id d=bt:=λbt x hx=>by
    unfold side at hx
    grind
   have hs:∀bt:Int,(side (p::l) (dh t l p).id d bt).length<=n:=λbt=>by
    have:=pG (t:=t) (p:=p) (l:=l) (d:=d) (b:=bt);omega
   have hid:∀bt:Int,Ids (side (p::l) (dh t l p).id d bt):=λbt=>hi.filter _;have fac:=λbt:Int=>p8 (t:=t) n (side (p::l) (dh t l p).id d bt) (dh t l p).id (d+1) (hs bt) (hid bt);rw[d9,bH,dT,bZ,eU]
   grind
def J4 {k v:Int}:∀{ps:List (Int×Int)},(∀x∈ps,x.1≠k)->luk ps k v=v
 |[],_=>rfl
 |x::ps,h=>by
  show luk ps k (if x.1=k then x.2 else v)=v
  rw[ac (h x (by simp))];exact J4 λy hy=>h y (by simp[hy])
def Hm (ps:List (Int×Int)):PV:= .sl (ps.map λx=>[.i64 x.1,.i64 x.2])
def Uf {k v:Int}:∀(ps:List (Int×Int)),(∀x∈ps,x.1≠k)->jl [.i] [.i64 k] [.i64 v] (ps.map λx=>[.i64 x.1,.i64 x.2])=some ((ps++[(k,v)]).map λx=>[.i64 x.1,.i64 x.2])
 |[],_=>by simp[jl,eqN]
 |a::l,h=>by
  simp only[bH,aQ,jl];rw[show([PV.i64 a.1,.i64 a.2].take [Ck.i].length)=[.i64 a.1] from rfl,eqN,ak (h a (by simp))]
  simp only;rw[Uf l (λx hx=>h x (by simp[hx]))]
def agi {ps:List (Int×Int)}{k v:Int}(h:∀x∈ps,x.1≠k):RF.ev (.mset [.i] 1) [Hm ps,.v (.int .i64 k),.v (.int .i64 v)]=some (Hm (ps++[(k,v)])):=by
 unfold Hm;simp[RF.ev,show(PV.v (.int .i64 k)).cells=[.i64 k] from rfl,show(PV.v (.int .i64 v)).cells=[.i64 v] from rfl,Uf ps h]
 rfl
def Ug {k:Int}:∀(ps:List (Int×Int)),(ps.map (·.1)).Nodup->∀v,∃r,dU [.i] [.i64 k] (ps.map λx=>[.i64 x.1,.i64 x.2])=some r/\ r.getD [.i64 v]=[.i64 (luk ps k v)]
 |[],_,v=>⟨none,by simp[dU,eqN],rfl⟩
 |a::l,h,v=>by
  rw[bH,bZ] at h;simp only[bH,dU];rw[show([PV.i64 a.1,.i64 a.2].take [Ck.i].length)=[.i64 a.1] from rfl,eqN]
  by_cases e:a.1=k
  .rw[aq e];refine⟨some [.i64 a.2],rfl,?_⟩;show [PV.i64 a.2]=[.i64 (luk l k (if a.1=k then a.2 else v))]
   rw[ad e,J4 λy hy e'=>h.1 (by rw[e,<-e'];exact bb.2 ⟨y,hy,rfl⟩)]
  .rw[ak e];obtain⟨r,h1,h2⟩:=Ug l h.2 v;refine⟨r,h1,?_⟩;show _=[PV.i64 (luk l k (if a.1=k then a.2 else v))]
   rw[ac e,h2]
def agj {ps:List (Int×Int)}{k:Int}(h:(ps.map (·.1)).Nodup):RF.ev (.mget [.i] [KP.z]) [Hm ps,.v (.int .i64 k)]=some (.i64 (luk ps k 0)):=by
 obtain⟨r,h1,h2⟩:=Ug ps h 0 (k:=k);unfold Hm;simp only[RF.ev,show(PV.v (.int .i64 k)).cells=[.i64 k] from rfl,h1]
 exact aW (λx=>some (Ig x)) h2
def agk {a:Int}(h0:0<=a)(h1:a<4611686018427387904):dx .and .i64 a .i64 1=some (.v (.int .i64 (a% 2))):=by
 rw[Vs]
 congr 3
 have e:(BitVec.ofInt IntKind.i64.bits a&&& BitVec.ofInt IntKind.i64.bits 1).toNat=a.toNat% 2:=by
  show(BitVec.ofInt 64 a&&& BitVec.ofInt 64 1).toNat=_
  grind
 rw[e,cM (by omega) (by omega)];omega
def agl {x:Int}(h:0<=x)(h1:x<4611686018427387904)(d:Nat):dx .shr .i64 x .i64 (d:Int)=some (.v (.int .i64 (x.fdiv (2^(min d 64)))))/\ dx .and .i64 (x.fdiv (2^(min d 64))) .i64 1=some (.v (.int .i64 (fA x d))):=by
 refine⟨(XL h d).1,?_⟩;have hp:(0:Int)<2^(min d 64):=zF (by decide);rw[il _ (sO hp)];have h2:=Int.ediv_nonneg h (sO hp);have h3:x/2^(min d 64)<=x:=Int.ediv_le_self _ h;rw[agk h2 (by omega)];unfold fA
 grind
def bit_two (x:Int)(d:Nat):fA x d=0\/fA x d=1:=by
 unfold fA;omega
def qS {α:Type}(p q:α->Bool):∀(l a b:List α),l.foldl (λ(acc:List α×List α) x=>if p x=true then(acc.1++[x],acc.2) else if q x=true then(acc.1,acc.2++[x]) else acc) (a,b)=(a++l.filter p,b++l.filter λx=>!p x&& q x)
 |[],a,b=>by simp
 |x::l,a,b=>by
  rw[da,cO,cO];cases hp:p x with
  |true=>simp[qS p q l]
  |false=>
   cases hq:q x with
   |true=>simp[qS p q l]
   |false=>simp[qS p q l]
def Dn (t:Rt):∀(l:List Pt) (b:Pt),l.foldl (λb p=>if leads t p b=true then p else b) b=dh t l b
 |[],_=>rfl
 |p::l,b=>by rw[da,Dn t l];rfl
def agm (p:Pt):RF.ev .agg [.v (.int .i64 p.id),.v (.int .i64 p.a),.v (.int .i64 p.b)]=some (PP p):=rfl
def bsP (p:Pt):RF.ev (.bs 1 [KP.z,KP.z,KP.z] [0]) [PP p]=some (sl row [p]):=rfl
def Uh (p:Pt):RF.ev .sub [sl row [p],.v (.int .i64 0),.v (.int .i64 1)]=some (sl row [p]):=rfl
def agn {t:Rt}(ht:aS t)(hr:rok t=true):∀(n:Nat) (l:List Pt) (f:Int) (d:Nat) (ps:List (Int×Int)),l.length<=n->n<=1000->d+n<=10000->(∀p∈l,p.ok=true)->Ids l->(∀x∈ps,∀p∈l,x.1≠p.id)->Ans D 257 [sl row l,R t,.i64 f,.i64 (d:Int),.sl [],Hm ps] [Hm (ps++d9 t l f d)]:=by
 intro n;induction n with
 |zero=>
  intro l f d ps h _ _ _ _ _;have hl:l=[]:=cJ.1 (by omega);subst hl;refine am ?_;unfold Mv;rw[d9,aZ];simp only[ay,bm,EV,ai,cQ,fL,aA,az]
 |succ n ih=>
  intro l f d ps h hn hd hok hids hps;cases l with
  |nil=>
   refine am ?_;unfold Mv;rw[d9,aZ];simp only[ay,bm,EV,ai,cQ,fL,aA,az]
  |cons p0 l=>
   simp only[aV] at h;have hbn:∀p∈p0::l,0<=p.id/\ p.id<=65535:=λp hp=>by have:=Pt.bnd (hok p hp);omega
   have htop:dh t l p0∈p0::l:=by
    rcases topP_mem t l p0 with e|e
    .rw[e];simp
    .simp[e]
   have o0:(p0::l)[0]?=some p0:=rfl;have tx0:RF.ev (.tix 3) [sl row (p0::l),.v (.int .i64 0)]=some (.i64 ((0:Nat):Int)):=aX o0 (b5 _);have bn:RF.ev .bnd [.v (.int .i64 1),.v (.int .i64 (((p0::l).length:Nat):Int))]=some (.i64 1):=by rw[kr,ad ⟨by omega,by simp;omega⟩]
   have ts:RF.ev (.tsub 3) [sl row (p0::l),.v (.int .i64 1),.v (.int .i64 (((p0::l).length:Nat):Int))]=some (sl row l):=by
    rw[yj,ad ⟨by omega,by simp;omega,by simp,rfl,by decide⟩];simp[bj]
   have ne:decide (((p0::l).length:Int)=0)=false:=ak (by simp;omega);refine an ⟨1001,?_⟩;unfold Mv;simp only[ay,bm,tx0,aN o0,gN,bn,ts,gM,uz,mU,EV,ai,ne,aw,ax];refine(jB (m:=1001) (l:=l) (g:=λb p=>if leads t p b=true then p else b) (I:=λi b=>b=p0\/∃j,j<i/\ l[j]?=some b) (S:=λb i=>[.i64 b.id,.i64 b.a,.i64 b.b,.i64 (i:Int)]) (fin:=λb=>den (bK D) 1001 Ht [] [sl row (p0::l),R t,.i64 f,.i64 (d:Int),.sl [],Hm ps,R t,.v (.int .i64 (((p0::l).length:Nat):Int)),.v (.bool false),.i64 ((0:Nat):Int),PP p0,.v (.int .i64 (((p0::l).length:Nat):Int)),.i64 1,sl row l,.v (.int .i64 ((l.length:Nat):Int)),.i64 b.id,.i64 b.a,.i64 b.b]) (x:=p0) (.inl rfl) (λi a b ha hI=>?_) (λi p b self hp hI=>?_) (λb self hI=>?_) (by omega)).1.trans ?_
   .split
    .exact .inr ⟨i,gE _,ha⟩
    .exact hI.imp id λ⟨j,h1,h2⟩=>⟨j,Nat.lt_succ_of_lt h1,h2⟩
   .have hlt:=aL hp;have hpm:p∈p0::l:=by simp[au hp]
    have hbm:b∈p0::l:=by
     rcases hI with e|⟨j,_,e⟩
     .rw[e];simp
     .simp[au e]
    have hne:p.id≠b.id:=λe=>by
     have e:=hids.inj hpm hbm e;subst e;unfold Ids at hids;rcases hI with e|⟨j,hj,e⟩
     .subst e;exact(bZ.1 hids).1 (bb.2 ⟨_,au hp,rfl⟩)
     .have:=dr.1 (bZ.1 hids).2 j i p.id (by rw[ba,e];rfl) (by rw[ba,hp];rfl);omega
    have hA:=phi (Lh (p:=p) (q:=b) ht);rw[ad (lF (hok p hpm) (hok b hbm) hr hne)] at hA;unfold Hu;simp only[ay,aX hp (b5 _),aN hp,gN,agm,hA,gM,uz,mU,EV,aa,bh hlt,PJ,up1 (show i<1000000000 by omega)]
    cases leads t p b<;>simp
   .unfold Hu;simp only[EV,aa,bP]
   .rw[Dn];generalize htt:dh t l p0=tp at htop;have hseen:∀x∈ps,x.1≠tp.id:=λx hx=>hps x hx tp htop;unfold Ht;simp only[ay,agi hseen,EV,ai];have e0:([PV.sl [],.v (.int .i64 0),.sl [],.v (.int .i64 0),.v (.int .i64 0)]:List PV)=[sl row ([]:List Pt),.i64 ((([]:List Pt).length:Nat):Int),sl row ([]:List Pt),.i64 ((([]:List Pt).length:Nat):Int),.i64 ((0:Nat):Int)]:=rfl;rw[e0];refine(jB (m:=1001) (l:=p0::l) (g:=λ(acc:List Pt×List Pt) x=>if(decide (x.id≠tp.id)&& decide (fA x.id d=0))=true then(acc.1++[x],acc.2) else if(decide (x.id≠tp.id)&& decide (fA x.id d=1))=true then(acc.1,acc.2++[x]) else acc) (I:=λi acc=>acc.1.length<=i/\ acc.2.length<=i) (S:=λacc i=>[sl row acc.1,.i64 (acc.1.length:Int),sl row acc.2,.i64 (acc.2.length:Int),.i64 (i:Int)]) (fin:=λacc=>den (bK D) 1001 Hr [] [sl row (p0::l),R t,.i64 f,.i64 (d:Int),.sl [],Hm ps,R t,.v (.int .i64 (((p0::l).length:Nat):Int)),.v (.bool false),.i64 ((0:Nat):Int),PP p0,.v (.int .i64 (((p0::l).length:Nat):Int)),.i64 1,sl row l,.v (.int .i64 ((l.length:Nat):Int)),.i64 tp.id,.i64 tp.a,.i64 tp.b,Hm (ps++[(tp.id,f)]),.v (.int .i64 (((p0::l).length:Nat):Int)),sl row acc.1,.i64 (acc.1.length:Int),sl row acc.2,.i64 (acc.2.length:Int)]) (x:=(([],[]):List Pt×List Pt)) ⟨aB _,aB _⟩ (λi a acc _ hI=>?_) (λi x acc self hx hI=>?_) (λacc self hI=>?_) (by simp;omega)).1.trans ?_
    .split
     .exact⟨by simp;omega,by show acc.2.length<=_;have:=hI.2;omega⟩
     .split
      .exact⟨by show acc.1.length<=_;have:=hI.1;omega,by simp;omega⟩
      .exact⟨by have:=hI.1;omega,by have:=hI.2;omega⟩
    .have hlt:=aL hx;have hl1:(p0::l).length<=1000:=by simp;omega
     have hxb:=hbn x (au hx);obtain⟨b1,b2⟩:=agl hxb.1 (by omega) d;unfold Hs;simp only[ay,aX hx (b5 _),aN hx,gN,gM,mq,b1,b2,EV,ai,aa,bh hlt,Bg,up1 (show i<1000000000 by omega),aE,aj]
     by_cases c1:x.id=tp.id
     .simp only[c1,cy,ax,eZ,aY,mD,aw]
     .simp only[c1,dg,az,eZ,aA,fG,aa];rcases bit_two x.id d with c2|c2
      .simp only[c2,az,ay,bsP,Uh,gt (f:=row) (l:=acc.1) (k:=[x]) (bytes:=24) (z:=3) (by simp;omega) b5,EV,ai,Bg,up1 (show i<1000000000 by omega)]
      .simp only[c2,show¬((1:Int)=0) by decide,ax,az,aA,ay,bsP,Uh,gt (f:=row) (l:=acc.2) (k:=[x]) (bytes:=24) (z:=3) (by simp;omega) b5,EV,ai,Bg,up1 (show i<1000000000 by omega)]
    .unfold Hs;simp only[EV,aa,bP]
    .rw[qS];have s0:(p0::l).filter (λx=>decide (x.id≠tp.id)&& decide (fA x.id d=0))=side (p0::l) tp.id d 0:=rfl;have s1:(p0::l).filter (λx=>!(decide (x.id≠tp.id)&& decide (fA x.id d=0))&&(decide (x.id≠tp.id)&& decide (fA x.id d=1)))=side (p0::l) tp.id d 1:=by
      unfold side;refine jM λx _=>?_;by_cases c1:x.id=tp.id
      .simp[c1]
      .rcases bit_two x.id d with c2|c2<;>simp[c1,c2]
     rw[s0,s1,aM,aM];have hm:∀(b:Int) (x:Pt),x∈side (p0::l) tp.id d b->x∈p0::l/\ x.id≠tp.id/\ fA x.id d=b:=λb x hx=>by
      obtain⟨h1,h2⟩:=bk.1 hx;simp only[aH,aa] at h2;exact⟨h1,h2.1,h2.2⟩
     have hsl:∀b:Int,(side (p0::l) tp.id d b).length<=n:=λb=>by
      have:=pG (t:=t) (p:=p0) (l:=l) (d:=d) (b:=b);rw[htt] at this;omega
     have hsi:∀b:Int,Ids (side (p0::l) tp.id d b):=λb=>hids.filter _;have r0:=phi (ih (side (p0::l) tp.id d 0) tp.id (d+1) (ps++[(tp.id,f)]) (hsl 0) (by omega) (by omega) (λp hp=>hok p (hm 0 p hp).1) (hsi 0) (λx hx p hp=>by
      rcases bR.1 hx with hx|hx
      .exact hps x hx p (hm 0 p hp).1
      .simp only[cd] at hx;subst hx;exactλe=>(hm 0 p hp).2.1 e.symm))
     have r1:=phi (ih (side (p0::l) tp.id d 1) tp.id (d+1) (ps++[(tp.id,f)]++d9 t (side (p0::l) tp.id d 0) tp.id (d+1)) (hsl 1) (by omega) (by omega) (λp hp=>hok p (hm 1 p hp).1) (hsi 1) (λx hx p hp=>by
      rcases bR.1 hx with hx|hx
      .rcases bR.1 hx with hx|hx
       .exact hps x hx p (hm 1 p hp).1
       .simp only[cd] at hx;subst hx;exactλe=>(hm 1 p hp).2.1 e.symm
      .obtain⟨q,hq,e,_⟩:=p8 (t:=t) n _ tp.id (d+1) (hsl 0) (hsi 0) x hx;intro e';have:=hids.inj (hm 0 q hq).1 (hm 1 p hp).1 (e.trans e');subst this;have h1:=(hm 0 q hq).2.2;rw[(hm 1 q hp).2.2] at h1;cases h1))
     have hd1:IntKind.i64.wrap ((d:Int)+1)=((d+1:Nat):Int):=up1 (by omega);unfold Hr;simp only[EV,hd1,ct,r0,r1];rw[d9,htt];simp[be]
def iw (t:Rt)(l:List Pt):List (Int×Int):=d9 t l (-1) 0
def cX (t:Rt)(l:List Pt):List Int:=l.map λp=>luk (iw t l) p.id 0
def Fi {l:List Pt}(hs:js l):∀(ps:List (Int×Int)) (out:List Int),out.length=l.length->(∀x∈ps,∃p∈l,p.id=x.1)->∀(i:Nat) (p:Pt) (v:Int),l[i]?=some p->out[i]?=some v->(ps.foldl (λout x=>out.set (pos l x.1).toNat x.2) out)[i]?=some (luk ps p.id v)
 |[],out,_,_,i,p,v,_,hv=>hv
 |x::ps,out,ho,hm,i,p,v,hp,hv=>by
  rw[da];unfold luk;rw[da];obtain⟨q,hq,hqx⟩:=hm x (by simp);obtain⟨j,hj⟩:=aI.1 hq;have hpos:pos l x.1=j:=by rw[<-hqx];exact rP hs hj
  refine Fi hs ps _ (by simpa using ho) (λy hy=>hm y (aO _ hy)) i p _ hp ?_
  rw[hpos,aF];by_cases e:i=j
  .subst e;rw[hp] at hj;cases hj;rw[ad hqx.symm,bi (by have:=aL hp;omega)]
  .rw[bx (by omega),ac (λh=>e ?_)]
   .exact hv
   .exact dr.1 (cT hs) i j p.id (by rw[ba,hp];rfl) (by rw[ba,hj,cj,hqx,h])
def Fj (l:List Pt):∀(ps:List (Int×Int)) (out:List Int),(ps.foldl (λout x=>out.set (pos l x.1).toNat x.2) out).length=out.length
 |[],out=>rfl
 |x::ps,out=>by rw[da,Fj l ps,a8]
def md {l:List Pt}(h:okF l):∀p∈l,0<=p.id/\ p.id<=65535:=λp hp=>by
 obtain⟨i,hi⟩:=aI.1 hp;have:=Pt.bnd (dC h hi);omega
def ago {l:List Pt}{t:Rt}(h:okF l)(ht:aS t):Ans D 145 [F l,R t] [sl I1 (cX t l)]:=by
 have hl:=h.1;have hh:=phi (agh 64 ((oP t l).map Pt.id) (-1) 0 (by rw[ai,(jt t l).length_eq];omega) (by omega) (by omega) (λx hx=>by
  obtain⟨p,hp,rfl⟩:=bb.1 hx;exact(md h p ((jt t l).mem_iff.1 hp)).1))
 rw[KF 64 l (oP t l) (-1) 0 hl (jt t l) (yq (cT h.2.2)) (cT h.2.2)] at hh;have hlen:(iw t l).length<=64:=by
  have:=tg 64 ((oP t l).map Pt.id) (-1) 0 (by rw[ai,(jt t l).length_eq];omega);rw[KF 64 l (oP t l) (-1) 0 hl (jt t l) (yq (cT h.2.2)) (cT h.2.2),ai,(jt t l).length_eq] at this;unfold iw;omega
 have hkey:∀x∈iw t l,∃p∈l,p.id=x.1:=λx hx=>by
  obtain⟨p,hp,e,_⟩:=p8 64 l (-1) 0 hl (cT h.2.2) x hx
  grind
 refine an ⟨1001,?_⟩;unfold ZU;have z0:PV.v (.int .i64 0)= .i64 ((0:Nat):Int):=rfl;have hh':bK D 237 [sl I1 ((oP t l).map Pt.id),.v (.int .i64 (-1)),.v (.int .i64 0)]=some [sl mM (iw t l)]:=hh;simp only[ay,bv,bm,cq,phi (agf h ht),hh',Cp (show l.length<=1000 by omega),EV,ai,aR]
 refine(jB (m:=1001) (l:=iw t l) (g:=λout x=>out.set (pos l x.1).toNat x.2) (I:=λ_ out=>out.length=l.length) (S:=λout i=>[sl I1 out,.i64 (i:Int)]) (fin:=λout=>some [sl I1 out]) (x:=List.replicate l.length 0) (by simp) (λi a acc _ h=>by simpa using h) (λi x acc self hx hI=>?_) (λacc self hI=>?_) (by omega)).1.trans ?_
 .obtain⟨p,hp,e⟩:=hkey x (au hx);obtain⟨j,hj⟩:=aI.1 hp;have hpos:pos l x.1=j:=by rw[<-e];exact rP h.2.2 hj
  have hAt:=phi (tS (l:=l) (by omega) x.1);rw[hpos] at hAt;unfold Gz;simp only[ay,aX hx (XK _),aN hx,adP,adQ,hAt,ixM (aL hj),iK (show j<acc.length by rw[hI];exact aL hj),EV,ai,aa,bh (aL hx),up1 (show i<1000000000 by have:=aL hx;omega)]
  rw[hpos,aF]
 .unfold Gz;have:=ct (f:=I1) (l:=acc);rw[hI] at this;simp only[EV,ai,aa,bP,OM,this]
 .congr 4
  refine cZ λi=>?_;by_cases hi:i<l.length
  .have hp:=ah hi;rw[Fi h.2.2 (iw t l) _ (by simp) hkey i _ 0 hp (by rw[eJ,ad hi])];unfold cX;rw[ba,hp];rfl
  .rw[bD (by rw[Fj];simp;omega),bD (by unfold cX;simp;omega)]
def cw (l:List Pt)(up:List Int):List Crt:=(l.zip up).filterMap λx=>if 0<=x.2 then some ⟨x.1.id,x.2⟩ else none
def J5 {α β:Type}(f:α->Option β):∀(l:List α) (acc:List β),l.foldl (λacc x=>acc++(f x).toList) acc=acc++l.filterMap f
 |[],acc=>by simp
 |a::l,acc=>by
  rw[da,J5 f l,kX];cases f a<;>simp
def agp {l:List Pt}{up:List Int}(hl:l.length=up.length)(hb:l.length<=1000):Ans D 146 [F l,sl I1 up] [sl crow (cw l up)]:=by
 refine an ⟨1001,?_⟩;unfold ZV;simp only[ay,bv,EV];have e0:([PV.sl [],.v (.int .i64 0),.v (.int .i64 0)]:List PV)=[sl crow ([]:List Crt),.i64 ((([]:List Crt).length:Nat):Int),.i64 ((0:Nat):Int)]:=rfl;rw[e0];refine(jB (m:=1001) (l:=l.zip up) (g:=λacc x=>acc++(if 0<=x.2 then some (Crt.mk x.1.id x.2) else none).toList) (I:=λi acc=>acc.length<=i) (S:=λacc i=>[sl crow acc,.i64 (acc.length:Int),.i64 (i:Int)]) (fin:=λacc=>some [sl crow acc]) (x:=[]) (by simp) (λi a acc _ h=>?_) (λi x acc self hx hI=>?_) (λacc self hI=>?_) (by rw[jb hl];omega)).1.trans ?_
 .grind
 .obtain⟨hp,hq⟩:=mb hx;have hi:=aL hp;unfold GA;simp only[ay,cq,aX hp (b5 _),aN hp,te,aX hq (cF _),aN hq,cV,EV,ai,aa,bh (aL hq),bA,A8];by_cases c:0<=x.2
  .rw[ad c];simp only[ay,cq,aX hp (b5 _),aN hp,te,aX hq (cF _),aN hq,cV,vR,bsC,qR,gt (f:=crow) (l:=acc) (k:=[⟨x.1.id,x.2⟩]) (bytes:=16) (z:=2) (by simp;omega) iZ,EV,ai,A8,up1 (show i<1000000000 by omega),c,az,Option.toList]
  .rw[ac c];simp only[EV,A8,up1 (show i<1000000000 by omega),c,ax,Option.toList,aZ]
 .rw[jb hl,hl];unfold GA;simp only[EV,ai,aa,bP,ON,ct]
 .rw[J5 (λx:Pt×Int=>if 0<=x.2 then some (Crt.mk x.1.id x.2) else none)]
  rfl
def vS {l:List Pt}{up:List Int}{e:Crt}:e∈cw l up↔∃(i:Nat) (p:Pt) (u:Int),l[i]?=some p/\ up[i]?=some u/\ 0<=u/\ e=⟨p.id,u⟩:=by
 unfold cw;rw[List.mem_filterMap];constructor
 .rintro⟨x,hx,h⟩;obtain⟨i,hi⟩:=aI.1 hx;obtain⟨h1,h2⟩:=mb hi
  grind
 .rintro⟨i,p,u,h1,h2,h3,rfl⟩;refine⟨(p,u),au (i:=i) ?_,ad h3⟩
  grind
def ol:∀{l:List Pt} {up:List Int},Ids l->(cw l up).Nodup
 |[],_,_=>by simp[cw]
 |p::l,[],_=>by simp[cw]
 |p::l,u::us,h=>by
  have ih:=ol (l:=l) (up:=us) h.tail;unfold cw at ih|-;rw[List.zip_cons_cons,kX];by_cases c:0<=u
  .simp only[c,az];rw[bZ];refine⟨λhm=>?_,ih⟩;obtain⟨i,q,v,h1,h2,h3,h4⟩:=vS.1 (show(⟨p.id,u⟩:Crt)∈cw l us from hm)
   simp at h4;refine(bZ.1 h).1 ?_;show p.id∈l.map Pt.id
   rw[h4.1];exact bb.2 ⟨q,au h1,rfl⟩
  .simp only[c,ax];exact ih
def jQ (k:KHeap):Prop:=bC k.clock/\ cX k.clock.now k.clock.pts=k.heap/\ JustR k.clock (cw k.clock.pts (cX k.clock.now k.clock.pts))
def yG (t:Rt)(l:List Pt):(cX t l).length=l.length:=by simp[cX]
def fg {l:List Pt}{t:Rt}(h:okF l){e:Crt}(he:e∈cw l (cX t l)):inF l e.low=true/\ inF l e.high=true/\ leads t (ptOf l e.high) (ptOf l e.low)=true:=by
 obtain⟨i,p,u,h1,h2,h3,rfl⟩:=vS.1 he;unfold cX at h2;rw[ba,h1,cj,bX] at h2;have hpm:=au h1;obtain⟨f,hf⟩:=Nl 64 l (-1) 0 h.1 (cT h.2.2) (λp hp=>(md h p hp).1) p hpm;have hmem:(p.id,u)∈iw t l:=by
  rcases luk_mem (ps:=iw t l) (k:=p.id) (v:=0) with e|e
  .rw[h2] at e;have:=C9 (ps:=iw t l) (k:=p.id) (v:=0) ⟨f,hf⟩
   grind
  .grind
 obtain⟨p',hp',e1,e2⟩:=p8 64 l (-1) 0 h.1 (cT h.2.2) (p.id,u) hmem;simp only at e1 e2;have:=(cT h.2.2).inj hp' hpm e1;subst this;rcases e2 with e2|⟨q,hq,e3,e4⟩
 .omega
 .refine⟨gq.2 (bb.2 ⟨p',hpm,rfl⟩),gq.2 (bb.2 ⟨q,hq,e3⟩),?_⟩;obtain⟨j,hj⟩:=aI.1 hq;rw[<-e3,gO h hj,gO h h1];exact e4
open Classical in
def c84 {k:KHeap}(h64:fJ k.clock)(hg:gKh k=false):Ans D 64 [KH k] [.i64 (okE (decide (jQ k)))]:=by
 obtain⟨g1,g2⟩:=uA hg;have no:∀h:¬jQ k,(some [PV.v (.int .i64 8)]:Option (List PV))=some [.i64 (okE (decide (jQ k)))]:=λh=>by rw[ak h];rfl
 have pKH2:RF.ev (.part 2 1) [KH k]=some (F k.clock.pts):=rfl;have pKH0:RF.ev (.part 0 2) [KH k]=some (R k.clock.now):=rfl;refine an ⟨1001,?_⟩;unfold k84;simp only[ay,jO,pKH,EV,phi (Lw h64 g1),ja,aE,aj];by_cases h1:bC k.clock
 .have hF:=h1.2.1;have hl:=hF.1;rw[aq h1,ad rfl];simp only[ay,pKH,pKH2,pKH0,cKH,phi (ago hF h64.1),phi (afQ (l:=cX k.clock.now k.clock.pts) (k:=k.heap) (by rw[yG];omega)),phi (agp (l:=k.clock.pts) (up:=cX k.clock.now k.clock.pts) (yG _ _).symm (by omega)),EV,aE,aj];by_cases h2:cX k.clock.now k.clock.pts=k.heap
  .rw[ac (by simp[h2])];have hel:(cw k.clock.pts (cX k.clock.now k.clock.pts)).length<=1000:=by
    unfold cw
    grind
   simp only[ay,EV,phi (LC (c:=k.clock) (edges:=cw k.clock.pts (cX k.clock.now k.clock.pts)) hF h64.1 hel (by have:=gT g1;omega) (λe he=>⟨(fg hF he).1,(fg hF he).2.1⟩)),aE,aj];by_cases h3:JustR k.clock (cw k.clock.pts (cX k.clock.now k.clock.pts))
   .rw[ac (by simp[h3]),aq (show jQ k from⟨h1,h2,h3⟩)];rfl
   .rw[ad h3];exact no (λh=>h3 h.2.2)
  .rw[ad h2];exact no (λh=>h2 h.2.1)
 .rw[ak h1,ac (by simp)];exact no (λh=>h1 h.1)
def zn {t:Rt}{l:List Pt}(h:okF l):((iw t l).map (·.1)).Nodup:=LD l.length l (-1) 0 (aB _) (cT h.2.2)
def nz (g:Pt->Int)(k:List Pt):List Crt:=k.filterMap λp=>if 0<=g p then some ⟨p.id,g p⟩ else none
def AE (g:Pt->Int):∀k:List Pt,cw k (k.map g)=nz g k
 |[]=>rfl
 |x::k=>by
  have:=AE g k;unfold cw nz at this|-;rw[bH,List.zip_cons_cons,kX,kX,this]
def RQ (g:Pt->Int)(k:List Pt):(nz g k).length<=k.length:=sS ..
def Fk {l:List Pt}{t:Rt}(h:okF l)(ht:aS t)(hr:rok t=true):Ans D 165 [F l,R t] [sl I1 (cX t l),sl crow (cw l (cX t l))]:=by
 have hl:=h.1;have h0:=phi (agn ht hr l.length l (-1) 0 [] (aB _) (by omega) (by omega) (λp hp=>aU.1 h.2.1 p hp) (cT h.2.2) (λx hx=>by cases hx));rw[aM] at h0;have e0:Hm []= .sl []:=rfl;rw[e0] at h0;have hgt:∀k:Int,RF.ev (.mget [.i] [KP.z]) [Hm (iw t l),.v (.int .i64 k)]=some (.i64 (luk (iw t l) k 0)):=λk=>agj (zn h);have hh:bK D 257 [sl row l,R t,.v (.int .i64 (-1)),.v (.int .i64 0),.sl [],.sl []]=some [Hm (iw t l)]:=h0;unfold cX;rw[AE];generalize hg:(λp:Pt=>luk (iw t l) p.id 0)=g;have hgp:∀p:Pt,luk (iw t l) p.id 0=g p:=λp=>by rw[<-hg]
 refine an ⟨1001,?_⟩;unfold aab;simp only[ay,bv,bm,cq,hh,EV,ai];have st0:([PV.sl [],.v (.int .i64 0),.sl [],.v (.int .i64 0),.v (.int .i64 0)]:List PV)=[sl I1 (([]:List Pt).map g),.i64 ((([]:List Pt).length:Nat):Int),sl crow (nz g []),.i64 (((nz g []).length:Nat):Int),.i64 ((0:Nat):Int)]:=rfl;rw[st0];refine(jB (m:=1001) (l:=l) (g:=λacc x=>acc++[x]) (I:=λi acc=>acc.length<=i) (S:=λacc i=>[sl I1 (acc.map g),.i64 (acc.length:Int),sl crow (nz g acc),.i64 ((nz g acc).length:Int),.i64 (i:Int)]) (fin:=λacc=>some [sl I1 (acc.map g),sl crow (nz g acc)]) (x:=[]) (aB _) (λi a acc _ hI=>by simp;omega) (λi p acc self hp hI=>?_) (λacc self hI=>?_) (by omega)).1.trans ?_
 .have hlt:=aL hp;have hel:=RQ g acc;have a1:=gt (f:=I1) (l:=acc.map g) (k:=[g p]) (bytes:=8) (z:=1) (by simp;omega) cF;rw[ai] at a1;have hs:acc.map g++[g p]=(acc++[p]).map g:=by simp
  have nxt:=up1 (show i<1000000000 by omega)
  unfold GP;simp only[ay,cq,aX hp (b5 _),aN hp,gN,gM,hgt,hgp,bsI,th,a1,hs,EV,ai,aD,aK,aa,bh hlt,bA];by_cases c1:0<=g p
  .have he:nz g (acc++[p])=nz g acc++[⟨p.id,g p⟩]:=by
    unfold nz;rw[vw];simp[c1]
   rw[ad c1];simp only[ay,gM,hgt,hgp,vR,bsC,qR,he,gt (f:=crow) (l:=nz g acc) (k:=[⟨p.id,g p⟩]) (bytes:=16) (z:=2) (by simp;omega) iZ,EV,ai,aD,aK,GO,nxt]
  .have he:nz g (acc++[p])=nz g acc:=by
    unfold nz;rw[vw];simp[c1]
   rw[ac c1];simp only[EV,GO,nxt,he]
 .unfold GP;have a1:RF.ev .sub [sl I1 (acc.map g),.v (.int .i64 0),.v (.int .i64 (acc.length:Int))]=some (sl I1 (acc.map g)):=by
   have:=ct (f:=I1) (l:=acc.map g);rwa [ai] at this
  simp only[EV,aa,bP,O7,a1,ct]
 .have:∀(k a:List Pt),k.foldl (λacc x=>acc++[x]) a=a++k:=by
   intro k;induction k with
   |nil=>intro a;simp
   |cons x k ih=>intro a;rw[da,ih];simp
  rw[this,aM]
open Classical in
def c80 {k:KHeap}(h64:fJ k.clock)(hg:gKh k=false):Ans D 71 [KH k] [.i64 (okE (decide (jQ k)))]:=by
 obtain⟨g1,g2⟩:=uA hg;have no:∀h:¬jQ k,(some [PV.v (.int .i64 8)]:Option (List PV))=some [.i64 (okE (decide (jQ k)))]:=λh=>by rw[ak h];rfl
 have pKH2:RF.ev (.part 2 1) [KH k]=some (F k.clock.pts):=rfl;have pKH0:RF.ev (.part 0 2) [KH k]=some (R k.clock.now):=rfl;have cKH4:RF.ev (.cell 4) [KH k]=some (sl hrow k.clock.certs.list):=rfl;have cc:=gT g1;refine an ⟨1001,?_⟩;unfold k80;simp only[ay,jO,pKH,EV,phi (LA h64 g1),ja,aE,aj];by_cases h1:bC k.clock
 .have hF:=h1.2.1;have hl:=hF.1;rw[aq h1,ad rfl];simp only[ay,pKH,pKH2,pKH0,cKH,cKH4,phi (Fk hF h64.1 h1.1),phi (RN (l:=cX k.clock.now k.clock.pts) (k:=k.heap) (by rw[yG];omega)),EV,ai,aE,aj];by_cases h2:cX k.clock.now k.clock.pts=k.heap
  .rw[ac (by simp[h2])];have hel:(cw k.clock.pts (cX k.clock.now k.clock.pts)).length<=1000:=by
    unfold cw
    grind
   have hJ:=tf (c:=k.clock) h1.2.2.1 (ol (up:=cX k.clock.now k.clock.pts) (cT hF.2.2)) (λe he=>(fg hF he).2.2);by_cases h3:(cw k.clock.pts (cX k.clock.now k.clock.pts)).length=k.clock.certs.list.length
   .rw[ac (by omega)];refine(cD (m:=1001) (l:=k.clock.certs.list) (p:=λh=>decide (h.cert∈cw k.clock.pts (cX k.clock.now k.clock.pts))) (st:=λi=>[.i64 (i:Int)]) (r:=some [.i64 8]) (fin:=some [.i64 0]) (λi h self hh _=>?_) (λ_ self=>?_) (by omega)).trans ?_
    .unfold Mk;simp only[ay,cKH4,pHP,aX hh (gP _),aN hh,lG,phi (xq h.cert hel),EV,aa,bh (aL hh),up1 (show i<1000000000 by have:=aL hh;omega)]
     by_cases c1:h.cert∈cw k.clock.pts (cX k.clock.now k.clock.pts)<;>simp[c1]
    .unfold Mk;simp only[EV,aa,bP,U1]
    .have:(k.clock.certs.list.all λh=>decide (h.cert∈cw k.clock.pts (cX k.clock.now k.clock.pts)))=true↔jQ k:=by
      rw[aU];simp only[aa];exact⟨λh=>⟨h1,h2,hJ.1 ⟨h3,h⟩⟩,λh=>(hJ.2 h.2.2).2⟩
     by_cases hr:jQ k
     .rw[ad (this.2 hr),aq hr];rfl
     .rw[ac (λh=>hr (this.1 h)),ak hr];rfl
   .rw[ad (by omega)];exact no (λh=>h3 h.2.2.1.symm)
  .rw[ad h2];exact no (λh=>h2 h.2.1)
 .rw[ak h1,ac (by simp)];exact no (λh=>h1 h.1)
def ldF (t:Rt)(l:List Pt)(i j:Nat):Bool:=leads t ((l[i]?).getD ⟨0,0,0⟩) ((l[j]?).getD ⟨0,0,0⟩)
def yH {t:Rt}{l:List Pt}{i j:Nat}{p q:Pt}(hp:l[i]?=some p)(hq:l[j]?=some q):ldF t l i j=leads t p q:=by
 unfold ldF;rw[hp,hq];rfl
def fP {t:Rt}{l:List Pt}(hs:js l):Lin (ldF t l) l.length where
 asymm:=λi j h=>fy h
 trans:=λi j k h1 h2=>jH h1 h2
 total:=λi j hi hj hne=>by
  unfold ldF;refine leads_total ?_;rw[ah hi,ah hj];intro e;refine hne (dr.1 (cT hs) i j l[i].id ?_ ?_)
  .rw[ba,ah hi];rfl
  .rw[ba,ah hj,cj];exact aW some e.symm
def mkN (l:List Pt)(lk:List (Int×Int)):List Nod:=(l.zip lk).map λx=>⟨x.1.id,x.2.1,x.2.2⟩
def gu (l:List Pt)(lk:List (Int×Int))(h:lk.length<=l.length):(mkN l lk).length=lk.length:=by simp[mkN];omega
def kM {l:List Pt}{lk:List (Int×Int)}{i:Nat}{p:Pt}{x:Int×Int}(hp:l[i]?=some p)(hx:lk[i]?=some x):(mkN l lk)[i]?=some ⟨p.id,x.1,x.2⟩:=by
 unfold mkN
 grind
def cart (t:Rt)(l:List Pt):Tree:=⟨(cmake (ldF t l) l.length).2.1,mkN l (cmake (ldF t l) l.length).2.2⟩
def agq {l:List Pt}{t:Rt}(h:okF l)(ht:aS t)(hr:rok t=true):Ans D 345 [F l,R t] [.i64 0]:=by
 have h1:=phi (tR l);rw[eE.2 h] at h1;have h2:=phi (c43 ht);rw[hr] at h2;have e0:okE true=0:=rfl;rw[e0] at h2;refine am ?_;unfold abI;simp[bv,bm,EV,h1,h2]
def ti (l:List Nat):List Int:=l.map λn:Nat=>(n:Int)
def Fl {l:List Pt}{t:Rt}(h:okF l)(ht:aS t)(hr:rok t=true){N:Nat}{i:Nat}{p:Pt}(hp:l[i]?=some p){f0 f1 f2:JT}{e0 e1 e4 e5 e6 e7 e8 e9 e10 e13 e14 e15 e16 e17:PV}{E:List Int}(hE:E.length<=1000):∀(rem:List Nat) (m:Nat) (left:Int),rem.length<m->(∀(k:Nat) (e:Nat),rem.reverse[k]?=some e->E[k]?=some (e:Int))->(∀e∈rem,e<i)->rem.length<=E.length->
  dY (bK D) N xJ [f0,f1,f2] [e0,e1,F l,R t,e4,e5,e6,e7,e8,e9,e10,sl I1 E,.i64 (E.length:Int),e13,e14,e15,e16,e17,PP p] m [.i64 (rem.length:Int),.i64 left]=
   f2 [.i64 (popAll (ldF t l) i rem left).2,.i64 ((popAll (ldF t l) i rem left).1.length:Int),.bool (decide (0<(popAll (ldF t l) i rem left).1.length))]
 |[],m,left,hm,_,_,_=>by
  obtain⟨m,rfl⟩:∃m',m=m'+1:=⟨m-1,by omega⟩;rw[bB];unfold xJ popAll;simp only[EV,cQ,aa];rw[ac (by omega)];rfl
 |e::es,m,left,hm,hk,hlt,hEl=>by
  obtain⟨m,rfl⟩:∃m',m=m'+1:=⟨m-1,by omega⟩;have hee:=hk es.length e (by rw[mT,bG (by simp)];simp);simp at hm hEl;obtain⟨q,hq⟩:∃q,l[e]?=some q:=⟨l[e]'(by have:=hlt e (by simp);have:=aL hp;omega),ah _⟩;have hne:q.id≠p.id:=by have:=jh h.2.2 (hlt e (by simp)) hq hp;omega
  have hA:=phi (Lh (p:=q) (q:=p) ht);rw[ad (lF (dC h hq) (dC h hp) hr hne),<-yH hq hp] at hA;have ih:=Fl h ht hr (N:=N) hp (f0:=f0) (f1:=f1) (f2:=f2) (e0:=e0) (e1:=e1) (e4:=e4) (e5:=e5) (e6:=e6) (e7:=e7) (e8:=e8) (e9:=e9) (e10:=e10) (e13:=e13) (e14:=e14) (e15:=e15) (e16:=e16) (e17:=e17) hE es m (e:Int) (by omega) (λk e' hke=>hk k e' (by
   rw[mT,aG (aL hke)];exact hke)) (λx hx=>hlt x (aO _ hx)) (by omega)
  rw[bB];generalize hkk:xJ=kk at ih;subst hkk;unfold xJ popAll;have d1:IntKind.i64.wrap (((es.length+1:Nat):Int)-1)=(es.length:Int):=vB (by omega);have bn:RF.ev .bnd [.v (.int .i64 (es.length:Int)),.v (.int .i64 (E.length:Int))]=some (.i64 (es.length:Int)):=by rw[kr,ad ⟨by omega,by omega⟩]
  have g0:decide ((0:Int)<((es.length+1:Nat):Int))=true:=aq (by omega);simp only[EV,aV,g0,df,az,d1,ixM (show es.length<es.length+1 by omega),aN hee,cV,ay,cq,aX hq (b5 _),aN hq,gN,hA,bn]
  cases hL:ldF t l e i with
  |true=>
   simp only[az,aV];rw[show decide (0<es.length+1)=true from aq (by omega)]
  |false=>
   simp;exact ih
def Ny {l:List Nat}{k e:Nat}(h:l[k]?=some e):(ti l)[k]?=some (e:Int):=by
 unfold ti;rw[ba,h];rfl
def Ui {l:List Nod}{i:Nat}{n:Nod}(h:l[i]?=some n)(r:Int):RF.ev (.set 2) [sl dG l,.v (.int .i64 (i:Int)),.v (.int .i64 r)]=some (sl dG (l.set i ⟨n.id,n.left,r⟩)):=by
 rw[ze,ad (by omega),aF,ba,h];exact aW (λx=>some (PV.sl x)) (oZ (f:=dG) (l:=l) (i:=i) (a:=⟨n.id,n.left,r⟩)).symm
def bsN (n:Nod):RF.ev (.bs 1 [KP.z,KP.z,KP.z] [0]) [NP n]=some (sl dG [n]):=rfl
def LF (n:Nod):RF.ev .sub [sl dG [n],.v (.int .i64 0),.v (.int .i64 1)]=some (sl dG [n]):=rfl
def RS (a b c:Int):RF.ev .agg [.i64 a,.i64 b,.i64 c]=some (NP ⟨a,b,c⟩):=rfl
def J6 {l:List Pt}{lk:List (Int×Int)}{e:Nat}{p:Pt}{x:Int×Int}{r:Int}(hp:l[e]?=some p)(hx:lk[e]?=some x):(mkN l lk).set e ⟨p.id,x.1,r⟩=mkN l (lk.modify e λx=>(x.1,r)):=by
 refine cZ λk=>?_;by_cases hk:k<l.length/\ k<lk.length
 .have h1:=ah hk.1;have h2:=ah hk.2;by_cases e':k=e
  .subst e';rw[bi (by simp[mkN];omega)];rw[kM hp (x:=(x.1,r)) (by rw[gl,hx];rfl)]
  .rw[bx (by omega),kM h1 h2,kM h1 (x:=lk[k]) (by rw[eI _ _ (by omega)];exact h2)]
 .rw[bD (by simp[mkN];omega),bD (by simp[mkN];omega)]
def Cq {l:List Pt}{lk:List (Int×Int)}{p:Pt}{x:Int×Int}(hp:l[lk.length]?=some p):mkN l lk++[⟨p.id,x.1,x.2⟩]=mkN l (lk++[x]):=by
 unfold mkN;have hlt:=aL hp;have:l.zip (lk++[x])=l.zip lk++[(p,x)]:=by
  have h1:l=l.take lk.length++l.drop lk.length:=(hZ _ _).symm;have h2:l.drop lk.length=p::l.drop (lk.length+1):=by
   rw[c7 hlt,(aC.1 hp).2]
  rw[h1,List.zip_append (by rw[aP];omega),h2];rw[<-aZ lk];rw[aZ]
  conv=>rhs;rw[show l.take lk.length++p::l.drop (lk.length+1)=l.take lk.length++([p]++l.drop (lk.length+1)) from rfl]
  rw[show lk=lk++[] by simp,List.zip_append (by rw[aP,aZ];omega)]
  simp
 rw[this,dT];rfl
def Nz (l:List Nat)(n:Nat):ti (l++[n])=ti l++[(n:Int)]:=by simp[ti]
def ce (t:Rt)(l:List Pt):Nat->List Int
 |0=>[]
 |i+1=>(ce t l i).take (popAll (ldF t l) i (cmake (ldF t l) i).1 (-1)).1.length++[(i:Int)]++(ce t l i).drop ((popAll (ldF t l) i (cmake (ldF t l) i).1 (-1)).1.length+1)
def LG (ld:Nat->Nat->Bool)(i:Nat)(s:List Nat×Int×List (Int×Int)):(tL ld i s).1=i::(popAll ld i s.1 (-1)).1:=by
 unfold tL
 grind
def Uj (t:Rt)(l:List Pt):∀i,(ce t l i).take (cmake (ldF t l) i).1.length=ti (cmake (ldF t l) i).1.reverse/\(cmake (ldF t l) i).1.length<=(ce t l i).length/\(ce t l i).length<=i
 |0=>⟨rfl,aB _,aB _⟩
 |i+1=>by
  obtain⟨h1,h2,h3⟩:=Uj t l i;have hs:cmake (ldF t l) (i+1)=tL (ldF t l) i (cmake (ldF t l) i):=rfl;rw[hs,LG];obtain⟨gone,p1,_⟩:=oO (ld:=ldF t l) i (cmake (ldF t l) i).1 (-1);unfold ce;generalize (popAll (ldF t l) i (cmake (ldF t l) i).1 (-1)).1=kept at p1;generalize (cmake (ldF t l) i).1=edge at p1 h1 h2;have hk:kept.length<=edge.length:=by rw[p1,aD];omega
  have h4:(ce t l i).take kept.length=ti kept.reverse:=by
   have:(ce t l i).take kept.length=((ce t l i).take edge.length).take kept.length:=by rw[dF,bF hk]
   rw[this,h1,p1,xj];unfold ti;rw[dT,ic (by simp)]
  have hl:((ce t l i).take kept.length).length=kept.length:=by rw[aP];omega
  refine⟨?_,?_,?_⟩
  .rw[fe (by simp;omega),bj (by simp;omega),h4,mT,Nz]
  .simp;omega
  .simp;omega
def cst (t:Rt)(l:List Pt)(i:Nat):List PV:=
 [.i64 (cmake (ldF t l) i).2.1,sl dG (mkN l (cmake (ldF t l) i).2.2),.i64 (i:Int),sl I1 (ce t l i),.i64 ((ce t l i).length:Int),.i64 ((cmake (ldF t l) i).1.length:Int),.i64 (i:Int)]
def agr {E:List Int}{n:Nat}{x:Int}(h:n<=E.length)(hE:E.length<=1000):RF.ev (.appK 8 1) [sl I1 E,.v (.int .i64 (n:Int)),sl I1 [x]]=some (sl I1 (E.take n++[x]++E.drop (n+1))):=by
 show(if(0:Int)<=n/\(n:Int)<=((E.map I1).length:Nat)/\((n:Int).toNat+([x].map I1).length)*8<=140737488355328/\ eg 1 ([x].map I1)=true then some (PV.sl ((E.map I1).take (n:Int).toNat++[x].map I1++(E.map I1).drop ((n:Int).toNat+([x].map I1).length))) else none)=_
 rw[ad ⟨by omega,by simp;omega,by simp;omega,rfl⟩];simp
def ags {l:List Pt}{t:Rt}(h:okF l)(ht:aS t)(hr:rok t=true):Ans D 255 [F l,R t] [TR (cart t l),.i64 0]:=by
 have hl:=h.1;refine an ⟨1001,?_⟩;unfold aaN;simp only[ay,bv,bm,cq,EV,ai,phi (agq h ht hr),aA,aJ,aw,ax];have e0:([PV.v (.int .i64 (-1)),.sl [],.v (.int .i64 0),.sl [],.v (.int .i64 0),.v (.int .i64 0),.v (.int .i64 0)]:List PV)=cst t l 0:=by simp[cst,cmake,mkN,ce]
 rw[e0];refine(gm (m:=1001) (n:=l.length) (st:=cst t l) (fin:=some [TR (cart t l),.i64 0]) (λi self hi=>?_) (λself=>?_) (by omega))
 .obtain⟨p,hp⟩:∃p,l[i]?=some p:=⟨l[i],ah _⟩;have I:=iF (fP (t:=t) h.2.2) i (by omega);obtain⟨ce1,ce2,ce3⟩:=Uj t l i;unfold cst;have hs:cmake (ldF t l) (i+1)=tL (ldF t l) i (cmake (ldF t l) i):=rfl;have hce:ce t l (i+1)=(ce t l i).take (popAll (ldF t l) i (cmake (ldF t l) i).1 (-1)).1.length++[(i:Int)]++(ce t l i).drop ((popAll (ldF t l) i (cmake (ldF t l) i).1 (-1)).1.length+1):=rfl;rw[hs,hce];generalize cmake (ldF t l) i=s at I ce1 ce2;generalize ce t l i=E at ce1 ce2 ce3;obtain⟨edge,root,lk⟩:=s;obtain⟨desc,mem,_,len,_⟩:=I;simp only at desc mem len ce1 ce2;have helt:∀e∈edge,e<i:=λe he=>((mem e).1 he).1;have hk:∀(k:Nat) (e:Nat),edge.reverse[k]?=some e->E[k]?=some (e:Int):=λk e hk=>by
   have h1:=Ny hk
   grind
  unfold Hq;simp only[EV,aa,bh hi,ay,cq,aX hp (b5 _),aN hp,gN];refine(Fl h ht hr hp (E:=E) (by omega) edge 1001 (-1) (by omega) hk helt ce2).trans ?_;obtain⟨gone,p1,_,_,_⟩:=oO (ld:=ldF t l) i edge (-1);unfold tL;simp only;generalize popAll (ldF t l) i edge (-1)=pr at p1;obtain⟨kept,y⟩:=pr;simp only at p1;have hkl:kept.length<=E.length:=by rw[p1,aD] at ce2;omega
  have hkl':kept.length<=1000:=by omega
  have hpl:l[lk.length]?=some p:=by rw[len];exact hp
  have u1:=up1 (show i<1000000000 by omega)
  have uk:((kept.length:Int)+((1:Nat):Int))=((kept.length+1:Nat):Int):=by omega
  simp only[EV];unfold PI;simp only[EV,Int.natCast_pos,cx];have ae:=agr (E:=E) (n:=kept.length) (x:=(i:Int)) hkl (by omega);cases kept with
  |nil=>
   simp only[cQ,dl,aY,aw,ax,EV,fL];have ap:RF.ev (.app 24 3) [sl dG (mkN l lk),.v (.int .i64 (i:Int)),sl dG [⟨p.id,y,-1⟩]]=some (sl dG (mkN l (lk++[(y,-1)]))):=by
    have:=gt (f:=dG) (l:=mkN l lk) (k:=[⟨p.id,y,-1⟩]) (bytes:=24) (z:=3) (by rw[gu _ _ (by omega)];simp;omega) oc;rw[gu _ _ (by omega),len] at this;rw[this,<-Cq (x:=(y,-1)) hpl]
   simp only[cQ,fL] at ae;unfold Hp;simp only[ay,gM,RS,bsN,LF,ae,ap,bsI,th,EV,ai,u1,gu _ _ (show(lk++[(y,-1)]).length<=l.length by simp;omega),aD,len,aK,aV,cQ,cp]
   rfl
  |cons e es=>
   have hee:E[es.length]?=some (e:Int):=hk es.length e (by
    rw[p1,xj,mT,aG (by simp),bG (by simp)];simp)
   have hei:e<i:=helt e (by rw[p1];simp);obtain⟨q,hq⟩:∃q,l[e]?=some q:=⟨l[e]'(by omega),ah _⟩;obtain⟨x,hx⟩:∃x,lk[e]?=some x:=⟨lk[e]'(by omega),ah _⟩;have hnod:=kM hq hx;have g0:decide (0<(e::es).length)=true:=by simp
   have d1:IntKind.i64.wrap (((es.length+1:Nat):Int)-1)=(es.length:Int):=vB (by simp at hkl';omega);have ap:RF.ev (.app 24 3) [sl dG (mkN l (lk.modify e λx=>(x.1,(i:Int)))),.v (.int .i64 (i:Int)),sl dG [⟨p.id,y,-1⟩]]=some (sl dG (mkN l ((lk.modify e λx=>(x.1,(i:Int)))++[(y,-1)]))):=by
    have:=gt (f:=dG) (l:=mkN l (lk.modify e λx=>(x.1,(i:Int)))) (k:=[⟨p.id,y,-1⟩]) (bytes:=24) (z:=3) (by rw[gu _ _ (by rw[dQ];omega),dQ];simp;omega) oc;rw[gu _ _ (by rw[dQ];omega),dQ,len] at this;rw[this,<-Cq (x:=(y,-1)) (by rw[dQ];exact hpl)]
   simp only[g0,az,EV,aV,d1,ixM (show es.length<es.length+1 by omega),aN hee,cV,ixM hei,Ui hnod,J6 hq hx]
   unfold Hp;simp only[aV] at ae uk;simp only[ay,gM,RS,ae,ap,bsN,LF,bsI,th,EV,ai,u1,uk,aV,gu _ _ (show((lk.modify e λx=>(x.1,(i:Int)))++[(y,-1)]).length<=l.length by simp;omega),aD,dQ,len,aK,cQ,cp]
   rw[ad (aq (by omega))]
 .unfold cst Hq;have hlk:(cmake (ldF t l) l.length).2.2.length=l.length:=(iF (fP (t:=t) h.2.2) l.length (by omega)).len;have hs:=ct (f:=dG) (l:=mkN l (cmake (ldF t l) l.length).2.2);rw[gu _ _ (by omega),hlk] at hs;have ag:RF.ev .agg [.i64 (cmake (ldF t l) l.length).2.1,sl dG (mkN l (cmake (ldF t l) l.length).2.2)]=some (TR (cart t l)):=rfl;simp only[EV,aa,bP,PH,hs,ag]
def nodC (i:Nat)(n:Nod):Bool:=decide (n.left=(i:Int))||decide (n.right=(i:Int))
def tY (l:List Nod)(i:Nat):Int:=((l[i]?).map Nod.id).getD 0
def rT {l:List Nod}{i:Nat}{n:Nod}(h:l[i]?=some n):tY l i=n.id:=by unfold tY;rw[h];rfl
def tZ (l:List Nod)(i:Nat):List Crt:=match l.findIdx? (nodC i) with|some k=>[⟨tY l i,tY l k⟩]|none=>[]
def edgsT (l:List Nod)(n:Nat):List Crt:=(List.range n).flatMap (tZ l)
def qT (l:List Nod)(n:Nat):edgsT l (n+1)=edgsT l n++tZ l n:=by
 unfold edgsT;rw[o7,kZ];simp
def jX (l:List Nod):∀n,(edgsT l n).length<=n
 |0=>by simp[edgsT]
 |n+1=>by
  have:=jX l n;rw[qT,aD];unfold tZ;split<;>simp<;>omega
def En (l:List Nod):Prop:=∀(i k k':Nat) (x x':Nod),l[k]?=some x->nodC i x=true->l[k']?=some x'->nodC i x'=true->k=k'
def adR (n:Nod):cB 1 0 (dG n)=some (.i64 n.left):=rfl
def adS (n:Nod):cB 2 0 (dG n)=some (.i64 n.right):=rfl
def Uk (n:Nod):cB 0 0 (dG n)=some (.i64 n.id):=rfl
def RU {l:List Nod}(h:En l)(i:Nat):(l.filter (nodC i)).map (λn=>(⟨tY l i,n.id⟩:Crt))=tZ l i:=by
 rw[zA (λk k' x x' h1 h2 h3 h4=>h i k k' x x' h1 h2 h3 h4)];unfold tZ;cases e:l.findIdx? (nodC i) with
 |none=>rfl
 |some k=>
  obtain⟨hk,_,_⟩:=bU.1 e;have:=ah hk;simp only;rw[this,rT this];rfl
def agt {x:Tree}(h:En x.nodes)(hl:x.nodes.length<=1000):Ans D 144 [TR x] [sl crow (edgsT x.nodes x.nodes.length)]:=by
 refine an ⟨1001,?_⟩;unfold ZT;simp only[ay,vK,EV];have e0:([PV.sl [],.v (.int .i64 0),.v (.int .i64 0)]:List PV)=[sl crow (edgsT x.nodes 0),.i64 ((edgsT x.nodes 0).length:Int),.i64 ((0:Nat):Int)]:=rfl;rw[e0];refine(gm (m:=1001) (n:=x.nodes.length) (st:=λi=>[sl crow (edgsT x.nodes i),.i64 ((edgsT x.nodes i).length:Int),.i64 (i:Int)]) (fin:=some [sl crow (edgsT x.nodes x.nodes.length)]) (λi self hi=>?_) (λself=>?_) (by omega))
 .obtain⟨n,hn⟩:∃n,x.nodes[i]?=some n:=⟨x.nodes[i],ah _⟩;have hel:=jX x.nodes i;unfold Gy;simp only[ay,nq,EV,ai,aa,bh hi];have e1:([sl crow (edgsT x.nodes i),PV.i64 ((edgsT x.nodes i).length:Int),.v (.int .i64 0)]:List PV)=[sl crow (edgsT x.nodes i++[]),.i64 ((edgsT x.nodes i++[]).length:Int),.i64 ((0:Nat):Int)]:=by rw[aZ];rfl
  rw[e1];refine(jB (m:=1001) (l:=x.nodes) (g:=λacc m=>if nodC i m=true then acc++[⟨n.id,m.id⟩] else acc) (I:=λk acc=>acc.length<=k) (S:=λacc k=>[sl crow (edgsT x.nodes i++acc),.i64 ((edgsT x.nodes i++acc).length:Int),.i64 (k:Int)]) (fin:=λacc=>self [sl crow (edgsT x.nodes i++acc),.i64 ((edgsT x.nodes i++acc).length:Int),.i64 ((i+1:Nat):Int)]) (x:=[]) (by simp) (λk a acc _ h=>by
   split
   .rw[aD,aK];omega
   .omega) (λk m acc self' hm hI=>?_) (λacc self' hI=>?_) (by omega)).1.trans ?_
  .have hk:=aL hm;have fin:∀(e14 e15 e16 e17:PV) (b:Bool),b=nodC i m->den (bK D) 1001 Gw
     [pC (bK D) 1001 A7 [] [TR x,TR x],self,pC (bK D) 1001 Gt [pC (bK D) 1001 A7 [] [TR x,TR x],self] [TR x,TR x,sl crow (edgsT x.nodes i),.i64 ((edgsT x.nodes i).length:Int),.i64 (i:Int),sl dG x.nodes,.v (.int .i64 (x.nodes.length:Int)),.v (.bool (decide ((i:Int)<(x.nodes.length:Int))))],self']
     [TR x,TR x,sl crow (edgsT x.nodes i),.i64 ((edgsT x.nodes i).length:Int),.i64 (i:Int),sl dG x.nodes,.v (.int .i64 (x.nodes.length:Int)),.v (.bool (decide ((i:Int)<(x.nodes.length:Int)))),sl crow (edgsT x.nodes i++acc),.i64 ((edgsT x.nodes i++acc).length:Int),.i64 (k:Int),sl dG x.nodes,.v (.int .i64 (x.nodes.length:Int)),.v (.bool (decide ((k:Int)<(x.nodes.length:Int)))),e14,e15,e16,e17,.v (.bool b)]=
     self' [sl crow (edgsT x.nodes i++if nodC i m=true then acc++[⟨n.id,m.id⟩] else acc),.i64 ((edgsT x.nodes i++if nodC i m=true then acc++[⟨n.id,m.id⟩] else acc).length:Int),.i64 ((k+1:Nat):Int)]:=λe14 e15 e16 e17 b hb=>by
    subst hb;unfold Gw;simp only[EV];cases nodC i m with
    |true=>
     have ap:=gt (f:=crow) (l:=edgsT x.nodes i++acc) (k:=[⟨n.id,m.id⟩]) (bytes:=16) (z:=2) (by rw[aD];simp;omega) iZ;rw[be] at ap;simp only[az,ay,nq,aX hn (oc _),aN hn,aX hm (oc _),aN hm,Uk,vR,bsC,qR,ap,EV,ai,Gu,up1 (show k<1000000000 by omega)]
    |false=>
     simp only[aw,ax,EV,Gu,up1 (show k<1000000000 by omega)]
   unfold Gx;simp only[ay,nq,aX hm (oc _),aN hm,adR,adS,EV,ai,aa,bh hk];by_cases c1:m.left=(i:Int)
   .rw[ad c1];exact fin _ _ _ _ true (by unfold nodC;rw[aq c1];rfl)
   .rw[ac c1];exact fin _ _ _ _ _ (by unfold nodC;rw[ak c1,nj])
  .unfold Gx;simp only[ay,nq,EV,ai,aa,bP,Gt,up1 (show i<1000000000 by omega)]
  .rw[qT];have:x.nodes.foldl (λacc m=>if nodC i m=true then acc++[(⟨n.id,m.id⟩:Crt)] else acc) []=tZ x.nodes i:=by
    rw[<-RU h i,rT hn];have:∀(l:List Nod) (acc:List Crt),l.foldl (λacc m=>if nodC i m=true then acc++[(⟨n.id,m.id⟩:Crt)] else acc) acc=acc++(l.filter (nodC i)).map (λm=>⟨n.id,m.id⟩):=by
     intro l;induction l with
     |nil=>simp
     |cons a l ih=>
      intro acc;rw[da,ih,cO];cases nodC i a<;>simp
    rw[this,aM]
   rw[this]
 .unfold Gy;simp only[ay,nq,EV,ai,aa,bP,A7,ct]
def Do (x:Int×Int):∀(l:List (Int×Int)) (j:Nat) (u:List Int),upArr (l++[x]) j u=upArr [x] (j+l.length) (upArr l j u)
 |[],j,u=>rfl
 |y::l,j,u=>by
  show upArr (l++[x]) (j+1) _=_
  rw[Do x l];show _=upArr [x] (j+(l.length+1)) (upArr l (j+1) _)
  rw[show j+1+l.length=j+(l.length+1) by omega]
def RV (i n:Nat)(h:i<n):(List.replicate i (-1:Int)++List.replicate (n-i) 0).set i (-1)=List.replicate (i+1) (-1)++List.replicate (n-(i+1)) 0:=by
 refine cZ λk=>?_
 grind
def kb {l:List Pt}{t:Rt}(h:okF l){k:Nat}{x:Int×Int}(hx:(cmake (ldF t l) l.length).2.2[k]?=some x):∃n,(cart t l).nodes[k]?=some n/\ n.left=x.1/\ n.right=x.2/\∃p,l[k]?=some p/\ n.id=p.id:=by
 have hlen:=(iF (fP (t:=t) h.2.2) l.length (by omega)).len;obtain⟨p,hp⟩:∃p,l[k]?=some p:=⟨l[k]'(by have:=aL hx;omega),ah _⟩;exact⟨_,kM hp hx,rfl,rfl,p,hp,rfl⟩
def qe {n:Nod}{x:Int×Int}(h1:n.left=x.1)(h2:n.right=x.2)(i:Nat):nodC i n=decide (nF x i):=by
 unfold nodC;rw[h1,h2,dX];simp;exact Iff.rfl
def NA {l:List Pt}{t:Rt}(h:okF l)(i:Nat):(cmake (ldF t l) l.length).2.2.findIdx? (λx=>decide (nF x i))=(cart t l).nodes.findIdx? (nodC i):=by
 have hlen:(cmake (ldF t l) l.length).2.2.length=l.length:=(iF (fP (t:=t) h.2.2) l.length (by omega)).len;have hnl:(cart t l).nodes.length=l.length:=by unfold cart;rw[gu _ _ (by omega)];exact hlen
 cases e:(cart t l).nodes.findIdx? (nodC i) with
 |none=>
  rw[iB] at e|-;intro x hx;obtain⟨k,hk⟩:=aI.1 hx;obtain⟨n,a1,a2,a3,_⟩:=kb h hk;rw[<-qe a2 a3]
  grind
 |some k=>
  rw[bU] at e|-;obtain⟨e1,e2,e3⟩:=e;have hk:=ah (show k<(cmake (ldF t l) l.length).2.2.length by omega)
  refine⟨by omega,?_,λj hj=>?_⟩
  .obtain⟨n,a1,a2,a3,_⟩:=kb h hk;rw[<-qe a2 a3]
   grind
  .have hj':=ah (show j<(cmake (ldF t l) l.length).2.2.length by omega)
   obtain⟨n,a1,a2,a3,_⟩:=kb h hj';rw[<-qe a2 a3];rw[ah (by omega)] at a1;have a1:=lC a1;rw[<-a1];exact e3 j hj
def Fm {l:List Pt}{t:Rt}(h:okF l)(ht:aS t)(hr:rok t=true)(hone:En (cart t l).nodes)(hlk:∀x∈(cmake (ldF t l) l.length).2.2,x.1<l.length/\ x.2<l.length):Ans D 162 [F l,R t] [TR (cart t l),sl crow (edgsT (cart t l).nodes l.length)]:=by
 have hl:=h.1;have hlen:(cmake (ldF t l) l.length).2.2.length=l.length:=(iF (fP (t:=t) h.2.2) l.length (by omega)).len;have hnl:(cart t l).nodes.length=l.length:=by unfold cart;rw[gu _ _ (by omega)];exact hlen
 refine an ⟨1001,?_⟩;unfold Z9;have rp:=Cp (n:=(cart t l).nodes.length) (by omega);simp only[ay,bv,bm,phi (ags h ht hr),vK,nq,EV,ai,rp,aR];have e0:([sl I1 (List.replicate (cart t l).nodes.length 0),.v (.int .i64 0)]:List PV)=[sl I1 (List.replicate 0 (-1)++List.replicate ((cart t l).nodes.length-0) 0),.i64 ((0:Nat):Int)]:=rfl;rw[e0];refine gm (m:=1001) (n:=(cart t l).nodes.length) (st:=λi=>[sl I1 (List.replicate i (-1)++List.replicate ((cart t l).nodes.length-i) 0),.i64 (i:Int)]) (λi self hi=>?_) (λself=>?_) (by omega)
 .unfold CD;simp only[EV,aa,bh hi,ixM hi,iK (l:=List.replicate i (-1)++List.replicate ((cart t l).nodes.length-i) 0) (i:=i) (by simp;omega),RV i _ hi,up1 (show i<1000000000 by omega)]
 unfold CD;simp only[EV,aa,bP,O5,ay,nq,ai,iS,List.replicate_zero,aZ];generalize hLK:(cmake (ldF t l) l.length).2.2=lk at*;have e1:([sl I1 (List.replicate (cart t l).nodes.length (-1)),.v (.int .i64 0)]:List PV)=[sl I1 (upArr (lk.take 0) 0 (List.replicate (cart t l).nodes.length (-1))),.i64 ((0:Nat):Int)]:=rfl;rw[e1];refine gm (m:=1001) (n:=(cart t l).nodes.length) (st:=λi=>[sl I1 (upArr (lk.take i) 0 (List.replicate (cart t l).nodes.length (-1))),.i64 (i:Int)]) (λi self hi=>?_) (λself=>?_) (by omega)
 .obtain⟨x,hx⟩:∃x,lk[i]?=some x:=⟨lk[i]'(by omega),ah _⟩;obtain⟨nd,a1,a2,a3,_⟩:=kb (t:=t) h (by rw[hLK];exact hx);obtain⟨b1,b2⟩:=hlk x (au hx);have hnext:upArr (lk.take (i+1)) 0 (List.replicate (cart t l).nodes.length (-1))=upArr [x] i (upArr (lk.take i) 0 (List.replicate (cart t l).nodes.length (-1))):=by
   rw[cG,hx];show upArr (lk.take i++[x]) 0 _=_
   rw[Do,aP,cp,bF (by omega)]
  have hul:(upArr (lk.take i) 0 (List.replicate (cart t l).nodes.length (-1))).length=(cart t l).nodes.length:=by rw[D7];simp
  rw[hnext];generalize upArr (lk.take i) 0 (List.replicate (cart t l).nodes.length (-1))=u at hul;have pN:RF.ev (.part 1 2) [NP nd]=some (.agg [.i64 x.1,.i64 x.2]):=by rw[<-a2,<-a3];rfl
  unfold GM;simp only[EV,aa,bh hi,ay,nq,aX a1 (oc _),aN a1,Fa,pN]
  let us:Nat->List Int:=λj=>match j with|0=>u|1=>(if 0<=x.1 then u.set x.1.toNat i else u)|_=>(if 0<=x.2 then(if 0<=x.1 then u.set x.1.toNat i else u).set x.2.toNat i else(if 0<=x.1 then u.set x.1.toNat i else u))
  have hus:∀j,(us j).length=(cart t l).nodes.length:=λj=>by
   match j with
   |0=>exact hul
   |1=>simp only[us];split<;>simp[hul]
   |j+2=>simp only[us];repeat' split
         all_goals simp[hul]
  refine(gm (m:=1001) (n:=2) (st:=λj=>[sl I1 (us j),.i64 (j:Int)]) (fin:=self [sl I1 (us 2),.i64 ((i+1:Nat):Int)]) (λj self' hj=>?_) (λself'=>?_) (by omega)).trans rfl
  .obtain⟨c,hc,haix,hu⟩:∃c:Int,c<l.length/\ RF.ev (.aix 1 2 0) [.agg [.i64 x.1,.i64 x.2],.i64 (j:Int)]=some (.i64 c)/\ us (j+1)=(if 0<=c then(us j).set c.toNat i else us j):=by
    match j,hj with
    |0,_=>exact⟨x.1,b1,rfl,rfl⟩
    |1,_=>exact⟨x.2,b2,rfl,rfl⟩
   unfold GL;have l2:decide ((j:Int)<2)=true:=aq (by omega);simp only[EV,l2,df,az,haix,aa,bA];rw[hu];by_cases c0:0<=c
   .obtain⟨m,rfl⟩:=tV c0;rw[ad c0,ad c0,aF];simp only[EV,ixM (show m<(cart t l).nodes.length by omega),iK (l:=us j) (i:=m) (by rw[hus];omega),GK,up1 (show j<1000000000 by omega)]
   .rw[ac c0,ac c0];simp only[EV,GK,up1 (show j<1000000000 by omega)]
  .unfold GL;simp only[EV,show decide (((2:Nat):Int)<2)=false from rfl,aw,ax,O4,up1 (show i<1000000000 by omega)]
 unfold GM;simp only[EV,aa,bP,O3,ay,nq,ai];rw[bj (by omega)];have hU:∀i,i<(cart t l).nodes.length->(upArr lk 0 (List.replicate (cart t l).nodes.length (-1)))[i]?=match(cart t l).nodes.findIdx? (nodC i) with|some k=>some ((k:Nat):Int)|none=>some (-1):=λi hi=>by
  rw[D8 lk 0 _ i (by simpa using hi) ?_,<-hLK,NA h i]
  .cases(cart t l).nodes.findIdx? (nodC i) with
   |none=>simp only;rw[eJ,ad hi]
   |some k=>simp only[cp]
  .intro k x hk hc k' x' hk' hc';rw[<-hLK] at hk hk';obtain⟨n,a1,a2,a3,_⟩:=kb h hk;obtain⟨n',b1,b2,b3,_⟩:=kb h hk';exact hone i k k' n n' a1 (by rw[qe a2 a3];exact aq hc) b1 (by rw[qe b2 b3];exact aq hc')
 generalize upArr lk 0 (List.replicate (cart t l).nodes.length (-1))=U at hU;have e2:([PV.sl [],.v (.int .i64 0),.v (.int .i64 0)]:List PV)=[sl crow (edgsT (cart t l).nodes 0),.i64 ((edgsT (cart t l).nodes 0).length:Int),.i64 ((0:Nat):Int)]:=rfl;rw[e2];refine gm (m:=1001) (n:=(cart t l).nodes.length) (st:=λi=>[sl crow (edgsT (cart t l).nodes i),.i64 ((edgsT (cart t l).nodes i).length:Int),.i64 (i:Int)]) (λi self hi=>?_) (λself=>?_) (by omega)
 .obtain⟨n,hn⟩:∃n,(cart t l).nodes[i]?=some n:=⟨(cart t l).nodes[i],ah _⟩;have hel:=jX (cart t l).nodes i;have hu:=hU i hi;rw[qT];unfold tZ;unfold GJ;cases e:(cart t l).nodes.findIdx? (nodC i) with
  |none=>
   rw[e] at hu;simp only[aZ];simp only[EV,aa,bh hi,ay,nq,aX hn (oc _),aN hn,Fa,ixM hi,aN hu,cV,bA,Int.reduceNeg,Int.reduceLE,ax,GI,up1 (show i<1000000000 by omega)]
  |some k=>
   rw[e] at hu;obtain⟨hk,_,_⟩:=bU.1 e;have hm:=ah hk;have c0:((0:Int)<=(k:Nat)):=by omega
   have cN:RF.ev (.cell 0) [NP n]=some (.i64 n.id):=rfl;have ap:=gt (f:=crow) (l:=edgsT (cart t l).nodes i) (k:=[⟨n.id,(cart t l).nodes[k].id⟩]) (bytes:=16) (z:=2) (by simp;omega) iZ;simp only[EV,aa,bh hi,ay,nq,aX hn (oc _),aN hn,Fa,ixM hi,aN hu,cV,bA,ad c0,aX hm (oc _),aN hm,Uk,cN,vR,bsC,qR,ap,ai,GI,up1 (show i<1000000000 by omega),rT hn,rT hm]
 .unfold GJ;simp only[EV,aa,bP,O2,ay,ct,hnl]
end Go.Proofs.YtoeigdpfcnaaeaaGreat
