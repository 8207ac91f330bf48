import Derived.Test.YtndgdhbpojakpaaGreatE1
import Derived.Test.YtndgdhbpojakpaaGreatC2
import Derived.Test.YtndgdhbpojakpaaGreatF1
set_option linter.unusedVariables false
set_option linter.unusedSimpArgs false
set_option linter.defProp false
noncomputable section
namespace Go.Proofs.YtndgdhbpojakpaaGreat
open Go.Sym Bnd
set_option maxRecDepth 100000
structure LS where
 clock:Clock
 order:List Int
 numbers:List Int
def liC (l:LS):List PV:=clC l.clock++[sl I1 l.order,sl I1 l.numbers]
def LI (l:LS):PV:= .agg (liC l)
def zLS:LS:=⟨zC,[],[]⟩
section
variable (k:LS)
def kJ:RF.ev (.shape 13) [LI k]=some (LI k):=rfl
def pLI:RF.ev (.part 0 11) [LI k]=some (CL k.clock):=rfl
def uA:RF.ev (.cell 11) [LI k]=some (sl I1 k.order):=rfl
def kK:RF.ev (.cell 12) [LI k]=some (sl I1 k.numbers):=rfl
def ad1:RF.ev (.cell 0) [LI k]=some (.i64 k.clock.now.num)/\ RF.ev (.cell 1) [LI k]=some (.i64 k.clock.now.den)/\ RF.ev (.cell 2) [LI k]=some (sl row k.clock.pts)/\ RF.ev (.cell 3) [LI k]=some (.i64 k.clock.certs.next)/\ RF.ev (.cell 4) [LI k]=some (sl hrow k.clock.certs.list)/\ RF.ev (.cell 5) [LI k]=some (sl I1 k.clock.agenda.slots.uses)/\ RF.ev (.cell 6) [LI k]=some (sl B1 k.clock.agenda.slots.used)/\ RF.ev (.cell 7) [LI k]=some (sl I1 k.clock.agenda.slots.free)/\ RF.ev (.cell 8) [LI k]=some (sl cw k.clock.agenda.heap)/\ RF.ev (.cell 9) [LI k]=some (sl I1 k.clock.agenda.wher)/\ RF.ev (.cell 10) [LI k]=some (sl cF k.clock.due):=⟨rfl,rfl,rfl,rfl,rfl,rfl,rfl,rfl,rfl,rfl,rfl⟩
end
def ids (l:List Pt)(t:Rt):List Int:=(dq t l).map Pt.id
def mH {l:List Pt}{t:Rt}:(ids l t).length=l.length:=by
 unfold ids;rw[aj,(dQ t l).length_eq]
def ad2 {l:List Pt}{t:Rt}(h:okF l)(ht:bi t)(hr:rok t=true):Ans D 126 [F l,R t] [sl row (dq t l),.i64 0]:=by
 have h0:D.T 126=none:=by kernel_rfl
 refine P3 h0 ?_;show Mp 208 126 126 _=_
 exact Ru ⟨h,ht,hr⟩
def Zn {l:List Pt}{t:Rt}(h:okF l)(ht:bi t)(hr:rok t=true):Ans D 75 [F l,R t] [sl I1 (ids l t),.i64 0]:=by
 have hl:=h.1;have hn:(dq t l).length=l.length:=(dQ t l).length_eq;have rp:=oV (n:=l.length) (by omega);refine an ⟨1001,?_⟩;unfold TL;simp only[au,aW,aY,EV,phi (ad2 h ht hr),az,aJ,aw,ax,aj,hn,rp,aI];have e0:([sl I1 (List.replicate l.length 0),.v (.int .i64 0)]:List PV)=[sl I1 (((dq t l).map Pt.id).take 0++List.replicate (l.length-0) 0),.i64 ((0:Nat):Int)]:=rfl;refine(aR _ e0).trans ?_;refine dG (m:=1001) (n:=l.length) (st:=λi=>[sl I1 (((dq t l).map Pt.id).take i++List.replicate (l.length-i) 0),.i64 (i:Int)]) (λi self hi=>?_) (λself=>?_) (by omega)
 .obtain⟨p,hp⟩:∃p,(dq t l)[i]?=some p:=⟨(dq t l)[i]'(by omega),ak _⟩;have hk:(((dq t l).map Pt.id).take i++List.replicate (l.length-i) 0).length=l.length:=by simp[hn];omega
  have st:=gt (l:=((dq t l).map Pt.id).take i++List.replicate (l.length-i) 0) (i:=i) (by omega) p.id;have e1:(((dq t l).map Pt.id).take i++List.replicate (l.length-i) 0).set i p.id=((dq t l).map Pt.id).take (i+1)++List.replicate (l.length-(i+1)) 0:=by
   have hti:(((dq t l).map Pt.id).take i).length=i:=by simp[hn];omega
   rw[lh _ _ (by omega),hti,fe,show l.length-i=(l.length-(i+1))+1 by omega,fu,nE,cd,aT,hp]
   simp
  rw[e1] at st;unfold BT;simp only[EV,aa,bc hi,aO hp (bL _),aL hp,eU,au,ixM hi,Bz,st,up1 (show i<1000000000 by omega)]
 .have hk:(((dq t l).map Pt.id).take l.length++List.replicate (l.length-l.length) 0)=ids l t:=by
   rw[fe,sY,aP];exact aZ (by simp[hn])
  have s0:=bm (f:=I1) (l:=ids l t);rw[mH] at s0;rw[hk];unfold BT;simp only[EV,aa,bw];unfold Jh;simp only[EV,s0]
def Fm {l:List Held}{n:Int}{x:Held}(h:l.find? (λg=>decide (g.number=n))=some x):∃i:Nat,l[i]?=some x/\ x.number=n:=by
 obtain⟨i,hi⟩:=aN.1 (jb h);exact⟨i,hi,by simpa using qk h⟩
def Gl {l:List Held}{n:Int}(h:l.find? (λg=>decide (g.number=n))=none):∀g∈l,g.number≠n:=by
 simpa using h
open Classical in
def ad3 {c:Certs}{n:Int}(h:cU c)(hn:∀g∈c.list,g.number≠n):Ans D 145 [CS c,.i64 n] [.i64 0,.i64 6]:=by
 have hl:=h.1;have hs:=tE h;have m1:=phi (GH (c:=c) (by omega));rw[aq h] at m1;have e0:okE true=0:=rfl;rw[e0] at m1;obtain⟨P,h1,h2⟩:=uX (N:=1001) (f:=mD (PhiS D) 1001 tJ [] [CS c,.i64 n,CS c,.i64 0,.bool false,sl hrow c.list,.i64 (c.list.length:Int)]) (K0:=o8) (e:=[CS c,.i64 n,CS c,.i64 0,.bool false,sl hrow c.list,.i64 (c.list.length:Int)]) (l:=c.list) (nu:=(·.number)) (id:=n) hs (λi j p self hij hj hp=>by
  unfold o8;simp only[dR,bV,EV,aa,bc hij,MM (show i<1000000 by omega) (show j<1000000 by omega),cz (show-9223372036854775808<=(((i+j)/2:Nat):Int) by omega) (by omega),au,eb,aO hp (eV p),aL hp,jn,iW,phi (td _ _),Cu,up1 (show(i+j)/2<1000000000 by omega),ltS]) (λi j self hij=>by
  unfold o8;simp only[dR,bV,EV,aa];rw[ac (by omega)]) 1001 0 c.list.length (by omega) (by omega) (aD _) (λk p hp=>⟨λh=>by omega,λh=>by have:=cy hp;omega⟩)
 refine an ⟨1001,?_⟩;unfold Nt;simp only[au,im,m1,eb,EV,aj,az,aJ,aw,ax];refine h2.trans ?_;unfold tJ;simp only[EV,aa];by_cases hP:P<c.list.length
 .obtain⟨x,hx⟩:∃x,c.list[P]?=some x:=⟨c.list[P],ak _⟩;have hne:=hn x (aB hx);rw[bc hP];simp only[EV,au,eb,aO hx (eV x),aL hx,jn,iW,phi (td _ _),xl,eqS,hne,bb,aV,ay]
 .rw[ac (by omega)];simp only[EV,xl,aV,ay]
def ad4 {c:Certs}{n:Int}(h:cU c)(hn:∀g∈c.list,g.number≠n):Ans D 102 [CS c,.i64 n] [.i64 (-1)]:=by
 have hl:=h.1;refine an ⟨1001,?_⟩;unfold Np;simp[im,EV];refine(ji (m:=1001) (l:=c.list) (p:=λb=>decide (b.number=n)) (st:=λi=>[.i64 (i:Int)]) (ret:=λi=>some [.i64 (i:Int)]) (fin:=some [.i64 (-1)]) (λk g self hg=>?_) (λself=>?_) (by omega)).trans ?_
 .unfold tI;simp only[eb,EV,aj,aa,bc (aK hg),aO hg (eV _),aL hg,GA,up1 (show k<1000000000 by have:=aK hg;omega)]
 .unfold tI;simp[eb,EV,B3]
 .have:(c.list.findIdx? λb=>decide (b.number=n))=none:=by grind
  rw[this];rfl
def oq (c:Certs)(n:Int):Option Crt:=(c.list.find? λg=>decide (g.number=n)).map (·.cert)
def aaO (c:Crt):RF.ev (.shape 2) [CP c]=some (CP c):=rfl
def ad5 {c:Certs}(h:cU c)(n:Int):Ans D 89 [CS c,.i64 n] [CP ((oq c n).getD C0),.i64 (if(oq c n).isSome then 0 else 6)]:=by
 refine am ?_;unfold TS oq;cases hf:c.list.find? (λg=>decide (g.number=n)) with
 |none=>
  simp[im,EV,phi (ad3 h (Gl hf)),ZX]
 |some x=>
  obtain⟨i,hi,rfl⟩:=Fm hf;simp[im,EV,phi (ac6 h hi),eb,aO hi (eV _),aL hi,Ak]
def iH (o:List Int)(i:Nat):Crt:=⟨(o[i+1]?).getD 0,(o[i]?).getD 0⟩
def MD (a b:Int):RF.ev .agg [.i64 a,.i64 b]=some (CP ⟨a,b⟩):=rfl
def Zo {o:List Int}{i:Nat}(hi:i+1<o.length)(hl:o.length<=1000):Ans D 90 [sl I1 o,.i64 (i:Int)] [CP (iH o i)]:=by
 have h1:o[i]?=some o[i]:=ak _;have h2:o[i+1]?=some o[i+1]:=ak _;refine am ?_;unfold TT iH;simp only[EV,aO h1 (bJ _),aL h1,cj,up1 (show i<1000000000 by omega),aO h2 (bJ _),aL h2,au,MD]
 rw[h1,h2];rfl
def Zp {k:LS}{i:Nat}(hi:i+1<k.order.length)(hl:k.order.length<=1000):Ans D 103 [LI k,.i64 (i:Int)] [CP (iH k.order i)]:=by
 have h1:k.order[i]?=some k.order[i]:=ak _;have h2:k.order[i+1]?=some k.order[i+1]:=ak _;refine am ?_;unfold T2 iH;simp only[EV,kJ,uA,aO h1 (bJ _),aL h1,cj,up1 (show i<1000000000 by omega),aO h2 (bJ _),aL h2,au,MD]
 rw[h1,h2];rfl
def uB (c:Certs)(o n:List Int):Prop:=∀(i:Nat) (x:Int),n[i]?=some x->oq c x=some (iH o i)
def pz (k:LS):Prop:=dp k.clock/\ k.order=ids k.clock.pts k.clock.now/\ k.numbers.length=k.order.length-1/\ k.clock.certs.list.length=k.numbers.length/\ uB k.clock.certs k.order k.numbers
def gL (k:LS):Bool:=gCl k.clock||decide (80<k.order.length)||decide (80<k.numbers.length)
def Iu (n:Nat)(h:n<=1000):RF.ev (.mm true) [.v (.int .i64 0),.v (.int .i64 (IntKind.i64.wrap ((n:Int)-1)))]=some (.i64 ((n-1:Nat):Int)):=by
 rw[mmX,cz (by omega) (by omega)]
 congr 3
 omega
open Classical in
def sJ {c:Certs}{o n:List Int}:uB c o n↔(n.zipIdx).all (λx=>decide (oq c x.1=some (iH o x.2)))=true:=by
 unfold uB;simp only[aQ,aa];constructor
 .rintro h ⟨x,i⟩ hx;exact h i x (df.1 hx)
 .intro h i x hx;exact h (x,i) (df.2 hx)
open Classical in
def ad6 {k:LS}(h64:fw k.clock)(hg:gL k=false):Ans D 40 [LI k] [.i64 (okE (decide (pz k)))]:=by
 unfold gL at hg;simp only[cg,ah] at hg;obtain⟨⟨g1,g2⟩,g3⟩:=hg;have m1:=phi (A3 h64 g1);have no:∀h:¬pz k,(some [PV.v (.int .i64 8)]:Option (List PV))=some [.i64 (okE (decide (pz k)))]:=λh=>by rw[ai h];rfl
 refine an ⟨1001,?_⟩;unfold TA;by_cases h1:dp k.clock
 rotate_left
 .rw[ai h1,show okE false=8 from rfl] at m1
  have n8:decide ((8:Int)=0)=false:=rfl;simp only[EV,kJ,pLI,m1,n8,aV,ay,au];exact no λh=>h1 h.1
 rw[aq h1,show okE true=0 from rfl] at m1
 have hF:=h1.2.1;have hid:(ids k.clock.pts k.clock.now).length<=64:=by rw[mH];exact hF.1
 have hw:IntKind.i64.wrap (((ids k.clock.pts k.clock.now).length:Int)-1)=IntKind.i64.wrap (((ids k.clock.pts k.clock.now).length:Int)-1):=rfl;simp only[EV,kJ,pLI,m1,az,aJ,aw,ax,au,iz,eR,phi (Zn hF h64.1 h1.1),uA,phi (GJ (l:=ids k.clock.pts k.clock.now) (k:=k.order) (by omega)),kK,aj,Iu _ (show(ids k.clock.pts k.clock.now).length<=1000 by omega),eS,aA,ah]
 by_cases h2:k.order=ids k.clock.pts k.clock.now
 rotate_left
 .rw[ad (λe=>h2 e.symm)];exact no λh=>h2 h.2.1
 rw[ac (λe=>e h2.symm)];rw[<-h2];by_cases h3:k.numbers.length=k.order.length-1
 rotate_left
 .rw[ad (by omega)];exact no λh=>h3 h.2.2.1
 rw[ac (by omega)];by_cases h4:k.clock.certs.list.length=k.numbers.length
 rotate_left
 .rw[ad (by omega)];exact no λh=>h4 h.2.2.2.1
 rw[ac (by omega)];have hC:=h1.2.2.1;refine(b9 (m:=1001) (l:=k.numbers.zipIdx) (p:=λx=>decide (oq k.clock.certs x.1=some (iH k.order x.2))) (st:=λi=>[.i64 (i:Int)]) (r:=some [.i64 8]) (fin:=some [.i64 0]) (λi x self hx _=>?_) (λ_ self=>?_) (by simp;omega)).trans ?_
 .obtain⟨x,j⟩:=x;have hj:j=i/\ k.numbers[i]?=some x:=by
   rw[sL] at hx;cases h:k.numbers[i]? with
   |none=>rw[h] at hx;cases hx
   |some y=>rw[h] at hx;simp at hx;exact⟨hx.2.symm,by rw[hx.1]⟩
  obtain⟨rfl,hx⟩:=hj;have hi:=aK hx;unfold BH;simp only[EV,aa,bc hi,kK,aO hx (bJ _),aL hx,cj,au,nJ,phi (ad5 hC x),aaO,phi (Zo (o:=k.order) (i:=j) (by omega) (by omega)),tg,up1 (show j<1000000000 by omega)]
  cases hc:oq k.clock.certs x with
  |none=>simp
  |some y=>simp
 .rw[List.length_zipIdx];unfold BH;simp only[EV,aa,bw,I7]
 .by_cases h5:uB k.clock.certs k.order k.numbers
  .have hk:pz k:=⟨h1,h2,h3,h4,h5⟩;rw[ad (sJ.1 h5),aq hk];rfl
  .rw[ac (λh=>h5 (sJ.2 h))];exact no λh=>h5 h.2.2.2.2
def prs (o:List Int):List Crt:=(List.range (o.length-1)).map (iH o)
def lf {o:List Int}:(prs o).length=o.length-1:=by simp[prs]
def vB {o:List Int}{i:Nat}(h:i<o.length-1):(prs o)[i]?=some (iH o i):=by
 unfold prs;rw[aT,fq h];rfl
def pA {o:List Int}{i:Nat}(h:i+1<o.length):o[i]?=some (iH o i).high/\ o[i+1]?=some (iH o i).low:=by
 unfold iH;rw[ak (show i<o.length by omega),ak h]
 exact⟨rfl,rfl⟩
def RE {l:List Pt}{t:Rt}{x:Int}:x∈ids l t↔∃p∈l,p.id=x:=by
 unfold ids;rw[bg];constructor
 .rintro⟨p,h,e⟩;exact⟨p,(dQ t l).mem_iff.1 h,e⟩
 .rintro⟨p,h,e⟩;exact⟨p,(dQ t l).mem_iff.2 h,e⟩
def ME {l:List Pt}{t:Rt}(h:okF l):(ids l t).Nodup:=(cM h.2.2).perm (dQ t l).symm
def zw {l:List Pt}{t:Rt}(h:okF l):EdgOk l (prs (ids l t)):=by
 have hn:=ME (t:=t) h;have hlen:=mH (l:=l) (t:=t);have h64:=h.1;have key:∀x∈prs (ids l t),∃i,i+1<(ids l t).length/\ x=iH (ids l t) i:=λx hx=>by
  unfold prs at hx;obtain⟨i,hi,rfl⟩:=bg.1 hx;rw[de] at hi;exact⟨i,by omega,rfl⟩
 have hin:∀x∈ids l t,inF l x=true/\ 0<=x/\ x<=65535:=λx hx=>by
  obtain⟨p,hp,rfl⟩:=RE.1 hx;have ho:=aQ.1 h.2.1 p hp;refine⟨?_,?_⟩
  .cases hf:inF l p.id with
   |true=>rfl
   |false=>exact absurd rfl (yz hf p hp)
  .unfold Pt.ok at ho;simp only[aF,aa] at ho;exact⟨ho.1.1.1,ho.1.1.2⟩
 refine⟨?_,by rw[lf];omega,λx hx=>?_,λx hx=>?_,λx hx=>?_⟩
 .rw[dt];intro i j x hi hj;have li:=cy hi;have lj:=cy hj;rw[lf] at li lj;rw[vB li] at hi;rw[vB lj] at hj;cases hi;have e:=(jg hj);have a:=(pA (o:=ids l t) (i:=i) (by omega)).1;have b:=(pA (o:=ids l t) (i:=j) (by omega)).1;rw[e] at b;exact dt.1 hn i j _ a b
 .obtain⟨i,hi,rfl⟩:=key x hx;obtain⟨a,b⟩:=pA hi;have ha:=(hin _ (aB a)).2;have hb:=(hin _ (aB b)).2;refine⟨hb.1,hb.2,ha.1,ha.2,λe=>?_⟩;rw[<-e] at a;have:=dt.1 hn i (i+1) _ a b;omega
 .obtain⟨i,hi,rfl⟩:=key x hx;exact(hin _ (aB (pA hi).2)).1
 .obtain⟨i,hi,rfl⟩:=key x hx;exact(hin _ (aB (pA hi).1)).1
def iD (k n:Nat):List Int:=(List.range k).map (λi:Nat=>(i:Int))++List.replicate (n-k) 0
def mI {k n:Nat}(h:k<=n):(iD k n).length=n:=by simp[iD];omega
def Fo {k n:Nat}(h:k<n):(iD k n).set k (k:Int)=iD (k+1) n:=by
 unfold iD;rw[lh _ _ (by simp),aj,il,fe,show n-k=(n-(k+1))+1 by omega,fu,nE,lZ,d5]
 simp
def Iw (l:List Pt)(t:Rt):LS:=⟨certAll (newC l t) (prs (ids l t)),ids l t,iD (l.length-1) (l.length-1)⟩
def ccs (c:Clock)(r:List PV):List PV:= .i64 c.now.num:: .i64 c.now.den::sl row c.pts:: .i64 c.certs.next::sl hrow c.certs.list::sl I1 c.agenda.slots.uses::sl B1 c.agenda.slots.used::sl I1 c.agenda.slots.free::sl cw c.agenda.heap::sl I1 c.agenda.wher::sl cF c.due::r
def uC (c:Clock)(o n:List Int):RF.ev .agg [.i64 c.now.num,.i64 c.now.den,sl row c.pts,.i64 c.certs.next,sl hrow c.certs.list,sl I1 c.agenda.slots.uses,sl B1 c.agenda.slots.used,sl I1 c.agenda.slots.free,sl cw c.agenda.heap,sl I1 c.agenda.wher,sl cF c.due,sl I1 o,sl I1 n]=some (LI ⟨c,o,n⟩):=rfl
def Fq {l:List Pt}{t:Rt}{es:List Crt}{k:Nat}{c:Clock}(h:AtK l t es k c)(hk:k<=es.length):c.certs.next=(k:Int):=by
 have:=aR List.length h.certs;rw[aj,aM,bv hk] at this;rw[h.fresh.next,this]
def ad7 {l:List Pt}{t:Rt}(h:okF l)(ht:bi t)(hr:rok t=true):Ans D 36 [F l,R t] [LI (Iw l t),.i64 0]:=by
 have h64:=h.1;have hlen:=mH (l:=l) (t:=t);have hE:=zw (t:=t) h;have mx:=Iu (ids l t).length (by omega);have rp:=oV (n:=l.length-1) (by omega);have n0:RF.ev (.bin .neq) [.v (.int .i64 0),.v (.int .i64 0)]=some (.bool false):=rfl;refine an ⟨1001,?_⟩;unfold Ty;simp only[au,aW,aY,phi (Bx h ht hr),phi (Zn h ht hr),cV,EV,az,aJ,aw,ax,aj,mx];rw[hlen];simp only[au,rp,EV,aj,aI,nL,nM,jW,nN,eS,mh,mi,mj,iA,iX,dw];refine dG (m:=1001) (n:=l.length-1) (st:=λk=>ccs (certAll (newC l t) ((prs (ids l t)).take k)) [sl I1 (iD k (l.length-1)),.i64 (k:Int)]) (λk self hk=>?_) (λself=>?_) (by omega)
 .have hx:=vB (o:=ids l t) (i:=k) (by omega);have A:=oB hE h ht hr k (by rw[lf];omega);obtain⟨ha,_⟩:=qJ hE A hx;have hnx:=Fq A (by rw[lf];omega);rw[lC hx];generalize certAll (newC l t) ((prs (ids l t)).take k)=c at A ha hnx|-;have m:=phi (Pd A.fresh ha);have mp:=phi (Zo (o:=ids l t) (i:=k) (by omega) (by omega));have hs:=gt (l:=iD k (l.length-1)) (i:=k) (by rw[mI (by omega)];omega) (k:Int);rw[Fo hk] at hs;rw[hnx] at m;unfold BF ccs;simp only[EV,aa,bc hk,mp,au,rN,m,cV,wX,az,aJ,aw,ax,ixM hk,hs,n0,nL,nM,jW,nN,eS,mh,mi,mj,iA,iX,dw,I5,up1 (show k<1000000000 by omega)]
 .have ht1:(prs (ids l t)).take (l.length-1)=prs (ids l t):=aZ (by rw[lf];omega);have s0:=bm (f:=I1) (l:=iD (l.length-1) (l.length-1));rw[mI (aD _)] at s0;unfold BF ccs;simp only[EV,aa,bw,I4,s0,au,uC];rw[ht1];rfl
def ad8 {l:List Pt}{t:Rt}(h:okF l)(ht:bi t)(hr:rok t=true):Ans D 134 [F l,R t] [.i64 0]:=by
 have m:=phi (ku l);rw[dH.2 h] at m;have m2:=phi (nG ht);rw[hr] at m2;refine am ?_;unfold Uu;simp only[au,aW,aY,m,m2,EV,az,aJ,aw,ax,qu]
def ad9 {l:List Pt}{t:Rt}(h:okF l)(ht:bi t)(hr:rok t=true):Ans D 82 [F l,R t] [CL (newC l t),.i64 0]:=by
 have:=h.1;refine am ?_;unfold TM;simp only[au,aW,aY,phi (ad8 h ht hr),phi (Bw (l:=l) (t:=t) (by omega)),EV,az,aJ,aw,ax,cV]
def OE {k:LS}(h:CSm k.clock)(h1:k.order.length<=1000)(h2:k.numbers.length<=1000):Ans D 33 [LI k] [LI k]:=by
 have s1:=bm (f:=cF) (l:=k.clock.due);have s2:=bm (f:=I1) (l:=k.order);have s3:=bm (f:=I1) (l:=k.numbers);refine am ?_;unfold Tw;simp only[au,kJ,pLI,phi (tw h),cV,nL,nM,jW,nN,eS,mh,mi,mj,iA,iX,dw,uA,kK,EV,aj,fM (l:=k.order) (f:=I1) (bytes:=8) (z:=1) (by omega) bJ,fM (l:=k.numbers) (f:=I1) (bytes:=8) (z:=1) (by omega) bJ,s1,s2,s3,uC]
def aea {k:LS}{c:Clock}{n:Int}{i:Nat}(h1:k.order.length<=1000)(hi:i+1<k.order.length)(h2:i<k.numbers.length)(h3:k.numbers.length<=1000)(hs:CSm k.clock)(m:PhiS D 136 [CL k.clock,CP (iH k.order i)]=some [CL c,.i64 n,.i64 0]):Ans D 84 [LI k,.i64 (i:Int)] [LI ⟨c,k.order,k.numbers.set i n⟩,.i64 0]:=by
 have s1:=bm (f:=cF) (l:=c.due);have st:=gt h2 n;have s2:=bm (f:=I1) (l:=k.numbers.set i n);rw[bK] at s2;refine am ?_;unfold TO;simp only[au,kJ,pLI,phi (Zp hi h1),m,cV,EV,az,aJ,aw,ax,aj,phi (OE hs h1 h3),kK,uA,ixM h2,st,nL,nM,jW,nN,eS,mh,mi,mj,iA,iX,dw,s1,s2,uC]
def aeb {l:List Pt}{t:Rt}(h:okF l)(ht:bi t)(hr:rok t=true):Ans D 38 [F l,R t] [LI (Iw l t),.i64 0]:=by
 have h64:=h.1;have hlen:=mH (l:=l) (t:=t);have hE:=zw (t:=t) h;have mx:=Iu (ids l t).length (by omega);have rp:=oV (n:=l.length-1) (by omega);refine an ⟨1001,?_⟩;unfold Tz;simp only[au,aW,aY,phi (ad9 h ht hr),phi (MY h ht),cV,EV,az,aJ,aw,ax,aj];have hl2:(dq t l).length=l.length:=(dQ t l).length_eq;rw[show((dq t l).map Pt.id)=ids l t from rfl]
 rw[hlen] at mx;simp only[au,hl2,mx,rp,EV,aj,aI,nL,nM,jW,nN,eS,mh,mi,mj,iA,iX,dw];refine dG (m:=1001) (n:=l.length-1) (st:=λk=>ccs (certAll (newC l t) ((prs (ids l t)).take k)) [sl I1 (ids l t),sl I1 (iD k (l.length-1)),.i64 ((l.length-1:Nat):Int),.i64 (k:Int)]) (λk self hk=>?_) (λself=>?_) (by omega)
 .have hx:=vB (o:=ids l t) (i:=k) (by omega);have A:=oB hE h ht hr k (by rw[lf];omega);obtain⟨ha,_⟩:=qJ hE A hx;have hnx:=Fq A (by rw[lf];omega);rw[lC hx];generalize certAll (newC l t) ((prs (ids l t)).take k)=c at A ha hnx|-;have hk1:=mI (show k<=l.length-1 by omega)
  have m:=phi (Pe A.fresh ha);rw[hnx] at m;have md:=phi (aea (k:=⟨c,ids l t,iD k (l.length-1)⟩) (i:=k) (by simp only;omega) (by simp only;omega) (by simp only;omega) (by simp only;omega) (rQ A.fresh.ok) m);simp only[Fo hk] at md;have s0:=bm (f:=I1) (l:=iD k (l.length-1));rw[hk1] at s0;unfold BG ccs;simp only[EV,aa,bc hk,s0,au,uC,md,kJ,kK,uA,ad1,aj,mI (show k+1<=l.length-1 by omega),az,aJ,aw,ax,up1 (show k<1000000000 by omega)]
 .have ht1:(prs (ids l t)).take (l.length-1)=prs (ids l t):=aZ (by rw[lf];omega);have s0:=bm (f:=I1) (l:=iD (l.length-1) (l.length-1));rw[mI (aD _)] at s0;unfold BG ccs;simp only[EV,aa,bw,I6,s0,au,uC];rw[ht1];rfl
def aec (k:LS):Ans D 24 [LI k] [.bool (gL k)]:=by
 refine am ?_;unfold Tt gL;simp only[au,kJ,pLI,phi (GD k.clock),EV,uA,kK,aj,aa];cases h1:gCl k.clock with
 |true=>simp[tH,EV]
 |false=>
  by_cases h2:80<k.order.length
  .rw[aq h2];simp[tH,EV];omega
  .rw[ai h2];by_cases h3:80<k.numbers.length
   .rw[aq h3];simp only[tH,EV,aw,ax,ac (show¬(80:Int)<(k.order.length:Int) by omega),bh,au,kK,aj,aq (show(80:Int)<(k.numbers.length:Int) by omega),Bool.or_true]
   .rw[ai h3];simp only[tH,EV,aw,ax,ac (show¬(80:Int)<(k.order.length:Int) by omega),bh,au,kK,aj,ai (show¬(80:Int)<(k.numbers.length:Int) by omega),Bool.or_false]
def LsW (k:LS):Prop:=gW k.clock/\ k.order.length<=1000/\ k.numbers.length<=1000
def aed {k:LS}(h:LsW k):Ans D 31 [LI k,LI k] [.bool true]:=by
 have m:=phi (Am (s:=k.clock) (t:=k.clock) h.1);rw[aq rfl] at m;have m2:=phi (vT (l:=k.order) (k:=k.order) h.2.1);rw[aq rfl] at m2;have m3:=phi (vT (l:=k.numbers) (k:=k.numbers) h.2.2);rw[aq rfl] at m3;refine am ?_;unfold Tv;simp only[au,kJ,pLI,m,uA,m2,kK,m3,EV,ay,I3]
def Zq {l:List Pt}{t:Rt}(h:okF l)(ht:bi t)(hr:rok t=true):LsW (Iw l t):=by
 have:=h.1;refine⟨xb h ht hr (zw h),?_,?_⟩
 .show(ids l t).length<=1000
  rw[mH];omega
 .show(iD (l.length-1) (l.length-1)).length<=1000
  rw[mI (aD _)];omega
def aaP:LsW zLS:=⟨ju,by decide,by decide⟩
def Ix {k:LS}(h:gL k=false):LsW k:=by
 unfold gL at h;simp only[cg,ah] at h;exact⟨n7 h.1.1,by omega,by omega⟩
structure Mod where
 now:Rt
 pts:List Pt
def moC (m:Mod):List PV:=[.i64 m.now.num,.i64 m.now.den,sl row m.pts]
def MO (m:Mod):PV:= .agg (moC m)
def zM:Mod:=⟨⟨0,0⟩,[]⟩
section
variable (m:Mod)
def fQ:RF.ev (.shape 3) [MO m]=some (MO m):=rfl
def pB:RF.ev (.part 0 2) [MO m]=some (R m.now):=rfl
def nR:RF.ev (.part 2 1) [MO m]=some (F m.pts):=rfl
def aee:RF.ev (.cell 2) [MO m]=some (sl row m.pts):=rfl
end
def vC:RF.ev .agg [.v (.int .i64 0),.v (.int .i64 0),.sl []]=some (MO zM):=rfl
def qC (m:Mod):Bool:=decide (dl m.now=0)&& decide (eg m.pts=0)
def OF {m:Mod}:qC m=true↔dl m.now=0/\ okF m.pts:=by
 unfold qC;rw[aF,aa,aa,dH]
def MF {t:Rt}(h:dl t=0):rok t=true:=by
 unfold dl at h
 grind
def Zr {m:Mod}(ht:bi m.now):Ans D 27 [MO m] [.i64 (okE (qC m))]:=by
 refine am ?_;unfold Tu qC;simp only[au,fQ,pB,phi (c64 ht),nR,phi (ku m.pts),EV,aA,ah];by_cases h1:dl m.now=0
 .by_cases h2:eg m.pts=0
  .simp[h1,h2,okE]
  .simp[h1,h2,okE]
 .simp[h1,okE]
def Af {a b:Int}{n i:Nat}{x:Int}{f:JT}(h:[a,b][i]?=some x):denW (PhiS D) 1001 k567_2 [f] [sl I1 [a,b],.v (.int .i64 2)] (n+1) [.v (.int .i64 (i:Int))]=if x=0 then denW (PhiS D) 1001 k567_2 [f] [sl I1 [a,b],.v (.int .i64 2)] n [.v (.int .i64 ((i+1:Nat):Int))] else some [.i64 x]:=by
 have hi:i<2:=aK h;have hd:decide ((i:Int)<2)=true:=aq (by omega);rw[bG];generalize hkk:denW (PhiS D) 1001 k567_2 [f] [sl I1 [a,b],.v (.int .i64 2)] n=self;unfold k567_2;simp only[EV,hd,ay,aO h (bJ _),aL h,cj,up1 (show i<1000000000 by omega)]
 by_cases h0:x=0
 .simp[h0]
 .simp[h0]
def OG {a b:Int}{n:Nat}:denW (PhiS D) 1001 k567_2 [mD (PhiS D) 1001 BO [] [sl I1 [a,b],.v (.int .i64 2)]] [sl I1 [a,b],.v (.int .i64 2)] (n+1) [.v (.int .i64 ((2:Nat):Int))]=some [.i64 0]:=by
 have l2:decide (((2:Nat):Int)<(2:Int))=false:=rfl;rw[bG];generalize denW (PhiS D) 1001 k567_2 _ _ n=self;unfold k567_2;simp only[EV,l2,aw,ax,BO]
def aef {a b:Int}:Ans D 67 [sl I1 [a,b]] [.i64 (if a≠0 then a else b)]:=by
 refine an ⟨1001,?_⟩;unfold TJ;simp only[EV,aj,bj,dg];refine(Af (n:=1000) (i:=0) rfl).trans ?_;by_cases h:a=0
 .rw[ad h];refine(Af (n:=999) (i:=1) rfl).trans ?_;by_cases h2:b=0
  .rw[ad h2];refine(OG (n:=998)).trans ?_;simp[h,h2]
  .rw[ac h2];simp[h]
 .rw[ac h];simp[h]
def aeg {m:Mod}(ht:bi m.now):Ans D 34 [MO m] [.i64 (okE (qC m))]:=by
 have bs:RF.ev (.bs 2 [KP.z] [0,1]) [.v (.int .i64 (dl m.now)),.v (.int .i64 (eg m.pts))]=some (sl I1 [dl m.now,eg m.pts]):=rfl;have su:RF.ev .sub [sl I1 [dl m.now,eg m.pts],.v (.int .i64 0),.v (.int .i64 2)]=some (sl I1 [dl m.now,eg m.pts]):=rfl;refine am ?_;unfold Tx qC;simp only[au,fQ,pB,phi (c44 ht),nR,phi (qm m.pts),EV,bs,su,phi aef,aA,ah];by_cases h1:dl m.now=0
 .by_cases h2:eg m.pts=0
  .simp[h1,h2,okE]
  .simp[h1,h2,okE]
 .simp[h1,okE]
def aeh {m:Mod}(h:m.pts.length<=1000):Ans D 22 [MO m,MO m] [.bool true]:=by
 have m2:=phi (c28 (l:=m.pts) (k:=m.pts) h);rw[aq rfl] at m2;refine am ?_;unfold Tq;simp only[au,fQ,pB,AY,az,nR,m2,EV,ay,I2]
def aei (m:Mod)(ht:bi m.now):Ans D 6 [MO m] [.bool (gF m.pts||decide (12<m.pts.length)&& qC m)]:=by
 refine am ?_;unfold Th;simp only[au,fQ,nR,phi (c19 m.pts),EV,aee,aj,aa];have e:=phi (Zr ht);cases h1:gF m.pts with
 |true=>simp[tG,EV]
 |false=>
  by_cases h2:12<m.pts.length
  .cases h3:qC m with
   |true=>rw[h3] at e;simp[tG,EV,e,h2,okE];omega
   |false=>rw[h3] at e;simp[tG,EV,e,h2,okE]
  .simp[tG,EV,h2];omega
structure Drv where
 c:Choice
 l:LS
def dvC (d:Drv):List PV:=MP d.c++liC d.l
def DV (d:Drv):PV:= .agg (dvC d)
def zD:Drv:=⟨zCH,zLS⟩
section
variable (d:Drv)
def er:RF.ev (.shape 64) [DV d]=some (DV d):=rfl
def j5:RF.ev (.part 0 51) [DV d]=some (CHO d.c):=rfl
def kL:RF.ev (.part 51 13) [DV d]=some (LI d.l):=rfl
def uD:RF.ev (.part 51 2) [DV d]=some (R d.l.clock.now):=rfl
def Iy:RF.ev (.part 53 1) [DV d]=some (F d.l.clock.pts):=rfl
def OH:RF.ev (.cell 53) [DV d]=some (sl row d.l.clock.pts):=rfl
def aej:RF.ev (.cell 0) [DV d]=some (.v (.int .u8 d.c.tag)):=rfl
def Iz:RF.ev .agg [CHO d.c,LI d.l]=some (DV d):=rfl
def aek:RF.ev (.part 1 11) [DV d]=some (CL d.c.heap.clock):=rfl
def ael:RF.ev (.part 13 11) [DV d]=some (CL d.c.tourn.clock):=rfl
def aem:RF.ev (.part 26 11) [DV d]=some (CL d.c.heater.clock):=rfl
def aen:RF.ev (.part 39 11) [DV d]=some (CL d.c.hanger.clock):=rfl
def aeo:RF.ev (.part 51 11) [DV d]=some (CL d.l.clock):=rfl
def aep:RF.ev (.part 24 2) [DV d]=some (BR d.c.tourn.brk):=rfl
def aaQ:RF.ev (.cell 12) [DV d]=some (sl I1 d.c.heap.heap):=rfl
def aaR:RF.ev (.cell 37) [DV d]=some (.i64 d.c.heater.tree.root):=rfl
def aaS:RF.ev (.cell 38) [DV d]=some (sl cL d.c.heater.tree.nodes):=rfl
def aaT:RF.ev (.cell 50) [DV d]=some (sl I1 d.c.hanger.heap):=rfl
def aaU:RF.ev (.cell 62) [DV d]=some (sl I1 d.l.order):=rfl
def aaV:RF.ev (.cell 63) [DV d]=some (sl I1 d.l.numbers):=rfl
def Zs:RF.ev .agg [.v (.int .u8 d.c.tag),CL d.c.heap.clock,sl I1 d.c.heap.heap,CL d.c.tourn.clock,sl I1 d.c.tourn.brk.places,sl I1 d.c.tourn.brk.wins,CL d.c.heater.clock,.i64 d.c.heater.tree.root,sl cL d.c.heater.tree.nodes,CL d.c.hanger.clock,sl I1 d.c.hanger.heap,CL d.l.clock,sl I1 d.l.order,sl I1 d.l.numbers]=some (DV d):=rfl
end
def ot (c:Choice):RF.ev (.shape 51) [CHO c]=some (CHO c):=rfl
def Fr (c:Choice):RF.ev (.part 0 51) [CHO c]=some (CHO c):=rfl
def IA (k:LS):RF.ev (.part 0 13) [LI k]=some (LI k):=rfl
def Qh (k:LS):RF.ev (.part 0 12) [LI k]=some (.agg (clC k.clock++[sl I1 k.order])):=rfl
def Gm (c:Choice)(k:LS):RF.ev .agg [CHO c,.agg (clC k.clock++[sl I1 k.order]),sl I1 k.numbers]=some (DV ⟨c,k⟩):=rfl
def ik:RF.ev .agg [.v (.int .u8 0),.v (.int .i64 0),.v (.int .i64 0),.sl [],.v (.int .i64 0),.sl [],.sl [],.sl [],.sl [],.sl [],.sl [],.sl [],.sl [],.v (.int .i64 0),.v (.int .i64 0),.sl [],.v (.int .i64 0),.sl [],.sl [],.sl [],.sl [],.sl [],.sl [],.sl [],.sl [],.sl [],.v (.int .i64 0),.v (.int .i64 0),.sl [],.v (.int .i64 0),.sl [],.sl [],.sl [],.sl [],.sl [],.sl [],.sl [],.v (.int .i64 0),.sl [],.v (.int .i64 0),.v (.int .i64 0),.sl [],.v (.int .i64 0),.sl [],.sl [],.sl [],.sl [],.sl [],.sl [],.sl [],.sl [],.v (.int .i64 0),.v (.int .i64 0),.sl [],.v (.int .i64 0),.sl [],.sl [],.sl [],.sl [],.sl [],.sl [],.sl [],.sl [],.sl []]=some (DV zD):=rfl
def gD (d:Drv):Bool:=gCh d.c||gL d.l||decide (12<d.l.clock.pts.length)||decide (12<(ed d.c).pts.length)
def wJ {d:Drv}(h:gD d=false):gCh d.c=false/\ gL d.l=false:=by
 unfold gD at h;simp only[cg] at h;exact⟨h.1.1.1,h.1.1.2⟩
def aeq (d:Drv):Ans D 5 [DV d] [.bool (gD d)]:=by
 refine am ?_;unfold Tg gD;simp only[au,er,j5,phi (c7 d.c),EV,kL,phi (aec d.l),OH,aj,aa];cases h1:gCh d.c with
 |true=>simp[tF,EV]
 |false=>
  cases h2:gL d.l with
  |true=>simp[tF,EV]
  |false=>
   by_cases h3:12<d.l.clock.pts.length
   .simp[tF,EV,h3];omega
   .simp only[aw,ax,au,j5,phi (c13 d.c),iz,bQ,EV,aj,tF,aa];rw[ac (by omega)];simp[h3];omega
def DvW (d:Drv):Prop:=ChW d.c/\ LsW d.l
def uE:DvW zD:=⟨G5,aaP⟩
def OI {d:Drv}(h:DvW d):Ans D 12 [DV d,DV d] [.bool true]:=by
 refine am ?_;unfold Ti;simp only[au,er,j5,phi (c17 h.1),kL,phi (aed h.2),EV,ay,I0]
def aer {d:Drv}(h:gD d=false):Ans D 13 [DV d] [DV d]:=by
 obtain⟨h1,h2⟩:=wJ h;have hw:=Ix h2;have hc:CSm d.l.clock:=kf (by unfold gL at h2;simp only[cg] at h2;exact h2.1.1);have s1:=bm (f:=I1) (l:=d.l.numbers);refine am ?_;unfold Tj;simp only[au,er,j5,phi (c14 h1),kL,phi (OE hc hw.2.1 hw.2.2),kJ,kK,EV,aj,ot,Fr,Qh,s1,Gm]
def Zt (c:Clock):RF.ev (.part 5 3) [CL c]=some (SL c.agenda.slots):=rfl
def Fs {c:Clock}(h:CSm c):Ans D 94 [CL c] [CL c]:=by
 obtain⟨h1,h2,h3,h4⟩:=h;obtain⟨⟨a1,a2,a3⟩,a4,a5⟩:=h3;have s1:=bm (f:=row) (l:=c.pts);have s2:=bm (f:=hrow) (l:=c.certs.list);have s3:=bm (f:=I1) (l:=c.agenda.slots.uses);have s4:=bm (f:=B1) (l:=c.agenda.slots.used);have s5:=bm (f:=I1) (l:=c.agenda.slots.free);have s6:=bm (f:=cw) (l:=c.agenda.heap);have s7:=bm (f:=I1) (l:=c.agenda.wher);have s8:=bm (f:=cF) (l:=c.due);refine am ?_;unfold TW;simp only[au,cV,jW,phi (d67 (l:=c.pts) h1),eS,phi (GP (l:=c.certs.list) h2),Zt,iw,phi (iB (l:=c.agenda.slots.uses) a1),jV,phi (A1 (l:=c.agenda.slots.used) a2),iy,phi (iB (l:=c.agenda.slots.free) a3),iA,phi (GQ (l:=c.agenda.heap) a4),iX,phi (iB (l:=c.agenda.wher) a5),dw,phi (M7 (l:=c.due) h4),eR,nN,EV,aj,s1,s2,s3,s4,s5,s6,s7,s8,IK]
def aes {l:List Nod}(hl:l.length<=1000):Ans D 96 [sl cL l] [sl cL l]:=by
 refine am ?_;unfold TY;simp only[EV,aj,aa];have h1:den (PhiS D) 1 BZ [] [sl cL l,.i64 (l.length:Int),.bool (decide ((l.length:Int)=0))]=some [sl cL l]:=by
  unfold BZ;simp[EV,fM (l:=l) (f:=cL) (bytes:=24) (z:=3) (by omega) jU,bm]
 by_cases h:(l.length:Int)=0
 .have:l=[]:=bu (by omega);subst this;rw[ad h];exact k9 rfl h1
 .grind
def MG {c:Choice}(hg:gCh c=false):ChW c:=by
 obtain⟨g1,g2,g3,g4⟩:=uN hg;obtain⟨b1,b2,b3⟩:=oZ g2;have h1:=j9 g1;have h4:=j9 g4;have hh:=tr g3;exact⟨⟨n7 h1.1,by omega⟩,⟨n7 b1,by omega,by omega⟩,⟨n7 hh.1,by have:=hh.2;omega⟩,⟨n7 h4.1,by omega⟩⟩
def aet {d:Drv}(h:gD d=false):Ans D 45 [DV d] [DV d]:=by
 obtain⟨g1,g2⟩:=wJ h;have hw:=Ix g2;have hc:CSm d.l.clock:=kf (by unfold gL at g2;simp only[cg] at g2;exact g2.1.1);obtain⟨w1,w2,w3,w4⟩:=MG g1;obtain⟨p1,p2,p3,p4⟩:=uN g1;have c1:CSm d.c.heap.clock:=kf (j9 p1).1;have c2:CSm d.c.tourn.clock:=kf (oZ p2).1;have c3:CSm d.c.heater.clock:=kf (tr p3).1;have c4:CSm d.c.hanger.clock:=kf (j9 p4).1;have s1:=bm (f:=I1) (l:=d.c.heap.heap);have s2:=bm (f:=I1) (l:=d.c.tourn.brk.places);have s3:=bm (f:=I1) (l:=d.c.tourn.brk.wins);have s4:=bm (f:=cL) (l:=d.c.heater.tree.nodes);have s5:=bm (f:=I1) (l:=d.c.hanger.heap);have s6:=bm (f:=I1) (l:=d.l.order);have s7:=bm (f:=I1) (l:=d.l.numbers);refine am ?_;unfold TD;simp only[au,er,aek,phi (Fs c1),aaQ,phi (iB (l:=d.c.heap.heap) w1.2),cV,aep,ael,phi (Fs c2),me,phi (iB (l:=d.c.tourn.brk.places) w2.2.1),gH,phi (iB (l:=d.c.tourn.brk.wins) w2.2.2),aem,phi (Fs c3),aaS,phi (aes (l:=d.c.heater.tree.nodes) w3.2),aen,phi (Fs c4),aaT,phi (iB (l:=d.c.hanger.heap) w4.2),aeo,phi (Fs hc),aaU,phi (iB (l:=d.l.order) hw.2.1),aaV,phi (iB (l:=d.l.numbers) hw.2.2),aej,wX,aaR,EV,aj,s1,s2,s3,s4,s5,s6,s7,Zs]
open Classical in
def aeu {k:LS}(h64:fw k.clock)(hg:gL k=false):Ans D 47 [LI k] [.i64 (okE (decide (pz k)))]:=by
 unfold gL at hg;simp only[cg,ah] at hg;obtain⟨⟨g1,g2⟩,g3⟩:=hg;have m1:=phi (A0 h64 g1);have no:∀h:¬pz k,(some [PV.v (.int .i64 8)]:Option (List PV))=some [.i64 (okE (decide (pz k)))]:=λh=>by rw[ai h];rfl
 refine an ⟨1001,?_⟩;unfold TE;by_cases h1:dp k.clock
 rotate_left
 .rw[ai h1,show okE false=8 from rfl] at m1
  have n8:decide ((8:Int)=0)=false:=rfl;simp only[EV,kJ,pLI,m1,n8,aV,ay,au];exact no λh=>h1 h.1
 rw[aq h1,show okE true=0 from rfl] at m1
 have hF:=h1.2.1;have m2:=phi (MY hF h64.1);rw[show(dq k.clock.now k.clock.pts).map Pt.id=ids k.clock.pts k.clock.now from rfl] at m2
 have hid:(ids k.clock.pts k.clock.now).length<=64:=by rw[mH];exact hF.1
 simp only[EV,kJ,pLI,m1,az,aJ,aw,ax,au,iz,eR,m2,uA,phi (vT (l:=k.order) (k:=ids k.clock.pts k.clock.now) (by omega)),kK,aj,Iu _ (show k.order.length<=1000 by omega),eS,aA,ah]
 by_cases h2:k.order=ids k.clock.pts k.clock.now
 rotate_left
 .rw[ad h2];exact no λh=>h2 h.2.1
 rw[ac (λe=>e h2)];by_cases h3:k.numbers.length=k.order.length-1
 rotate_left
 .rw[ad (by omega)];exact no λh=>h3 h.2.2.1
 rw[ac (by omega)];by_cases h4:k.clock.certs.list.length=k.numbers.length
 rotate_left
 .rw[ad (by omega)];exact no λh=>h4 h.2.2.2.1
 rw[ac (by omega)];have hC:=h1.2.2.1;refine(b9 (m:=1001) (l:=k.numbers.zipIdx) (p:=λx=>decide (oq k.clock.certs x.1=some (iH k.order x.2))) (st:=λi=>[.i64 (i:Int)]) (r:=some [.i64 8]) (fin:=some [.i64 0]) (λi x self hx _=>?_) (λ_ self=>?_) (by simp;omega)).trans ?_
 .obtain⟨x,j⟩:=x;have hj:j=i/\ k.numbers[i]?=some x:=by
   rw[sL] at hx;cases h:k.numbers[i]? with
   |none=>rw[h] at hx;cases hx
   |some y=>rw[h] at hx;simp at hx;exact⟨hx.2.symm,by rw[hx.1]⟩
  obtain⟨rfl,hx⟩:=hj;have hi:=aK hx;unfold BJ oq;cases hf:k.clock.certs.list.find? (λg=>decide (g.number=x)) with
  |none=>
   have e:decide ((-1:Int)<0)=true:=rfl;simp only[EV,aa,kK,aj,bc hi,pLI,nJ,aO hx (bJ _),aL hx,cj,au,phi (ad4 hC (Gl hf)),e,ay];simp
  |some y=>
   obtain⟨a,ha,rfl⟩:=Fm hf;have e:decide ((a:Int)<0)=false:=ai (by omega);simp only[EV,aa,kK,aj,bc hi,pLI,nJ,aO hx (bJ _),aL hx,cj,au,phi (ac7 hC ha),e,aw,ax,eS,aO ha (eV _),aL ha,Ak,phi (Zp (k:=k) (i:=j) (by omega) (by omega)),tg,up1 (show j<1000000000 by omega)]
   simp
 .rw[List.length_zipIdx];unfold BJ;simp only[EV,aa,kK,aj,bw,I9]
 .by_cases h5:uB k.clock.certs k.order k.numbers
  .have hk:pz k:=⟨h1,h2,h3,h4,h5⟩;rw[ad (sJ.1 h5),aq hk];rfl
  .rw[ac (λh=>h5 (sJ.2 h))];exact no λh=>h5 h.2.2.2.2
def OJ (tag:Int){m:Mod}(ht:bi m.now):∃(d:Drv) (e:Int),(Ans D 14 [.v (.int .u8 tag),MO m] [DV d,.i64 e]/\ Ans D 15 [.v (.int .u8 tag),MO m] [DV d,.i64 e])/\ DvW d:=by
 have m1:=phi (aeg ht);have m2:=phi (Zr ht);have e8:okE false=8:=rfl;have n8:decide ((8:Int)=0)=false:=rfl;cases hm:qC m with
 |false=>
  rw[hm,e8] at m1 m2;refine⟨zD,8,⟨?_,?_⟩,uE⟩
  .refine am ?_;unfold yK;simp only[au,fQ,m1,n8,aV,ay,EV,ik]
  .refine am ?_;unfold yL;simp only[au,fQ,m2,n8,aV,ay,EV,ik]
 |true=>
  rw[hm,qu] at m1 m2;obtain⟨a1,a2⟩:=OF.1 hm;have hr:=MF a1;by_cases t1:tag<1
  .refine⟨zD,2,⟨?_,?_⟩,uE⟩
   .refine am ?_;unfold yK;simp only[au,fQ,m1,az,aJ,aw,ax,EV,aa,ad t1,ik]
   .refine am ?_;unfold yL;simp only[au,fQ,m2,az,aJ,aw,ax,EV,aa,ad t1,ik]
  by_cases t2:4<tag
  .refine⟨zD,2,⟨?_,?_⟩,uE⟩
   .refine am ?_;unfold yK;simp only[au,fQ,m1,az,aJ,aw,ax,EV,aa,ac t1,bh,ad t2,ik]
   .refine am ?_;unfold yL;simp only[au,fQ,m2,az,aJ,aw,ax,EV,aa,ac t1,bh,ad t2,ik]
  obtain⟨a,e,he,hw⟩:=FV (tag:=tag) (l:=m.pts) ht;have q1:=phi (c20 tag (l:=m.pts) ht);have q2:=phi (c21 tag (l:=m.pts) ht);rw[he] at q1 q2;by_cases h0:e=0
  .subst h0;refine⟨⟨a,Iw m.pts m.now⟩,0,⟨?_,?_⟩,hw,Zq a2 ht hr⟩
   .refine am ?_;unfold yK;simp only[au,fQ,m1,az,aJ,aw,ax,EV,aa,ac t1,bh,ac t2,nR,pB,q1,ot,phi (ad7 a2 ht hr),kJ,Fr,IA,Iz];rfl
   .refine am ?_;unfold yL;simp only[au,fQ,m2,az,aJ,aw,ax,EV,aa,ac t1,bh,ac t2,nR,pB,q2,ot,phi (aeb a2 ht hr),kJ,Fr,IA,Iz];rfl
  .refine⟨zD,e,⟨?_,?_⟩,uE⟩
   .refine am ?_;unfold yK;simp only[au,fQ,m1,az,aJ,aw,ax,EV,aa,ac t1,bh,ac t2,nR,pB,q1,ot,h0,bb,aV,ay,ik]
   .refine am ?_;unfold yL;simp only[au,fQ,m2,az,aJ,aw,ax,EV,aa,ac t1,bh,ac t2,nR,pB,q2,ot,h0,bb,aV,ay,ik]
def gl (d:Drv):Prop:=jM d.c/\ pz d.l/\ dl (ed d.c).now=0/\ d.l.clock.now=(ed d.c).now/\ d.l.clock.pts=(ed d.c).pts
structure D64 (d:Drv):Prop where
 c:Cho64 d.c
 l:fw d.l.clock
open Classical in
def wK (d:Drv):Mod:=if gl d then⟨d.l.clock.now,d.l.clock.pts⟩ else zM
def n8':decide ((8:Int)=0)=false:=rfl
def e8':okE false=8:=rfl
def sK (p q:Rt):RF.ev (.eqv [.i,.i]) [R p,R q]=some (.bool (decide (p=q))):=AY p q
open Classical in
def OK {d:Drv}(h:D64 d)(hg:gD d=false):Ans D 16 [DV d] [MO (wK d),.i64 (okE (decide (gl d)))]:=by
 obtain⟨g1,g2⟩:=wJ hg;have m1:=phi (c22 h.c g1);have m2:=phi (ad6 h.l g2);refine am ?_;unfold Tl wK;by_cases h1:jM d.c
 rotate_left
 .rw[ac (λq=>h1 q.1),ai (λq=>h1 q.1:¬gl d)];unfold yJ at m1;rw[ac h1] at m1;simp only[au,er,j5,m1,aY,aW,EV,n8',aV,ay,vC,e8']
 unfold yJ at m1;rw[ad h1] at m1;have hp:=(wm h1.2.1).2.1.1;by_cases h2:pz d.l
 rotate_left
 .rw[ac (λq=>h2 q.2.1),ai (λq=>h2 q.2.1:¬gl d)];rw[ai h2,e8'] at m2;simp only[au,er,j5,m1,aY,aW,EV,az,aJ,aw,ax,kL,m2,n8',aV,ay,vC,e8']
 rw[aq h2,qu] at m2;by_cases h3:dl (ed d.c).now=0
 rotate_left
 .rw[ac (λq=>h3 q.2.2.1),ai (λq=>h3 q.2.2.1:¬gl d)];simp only[au,er,j5,m1,aY,aW,EV,az,aJ,aw,ax,kL,m2,phi (c44 (tv h.c).1),h3,bb,aV,ay,vC,e8']
 by_cases h4:d.l.clock.now=(ed d.c).now
 rotate_left
 .rw[ac (λq=>h4 q.2.2.2.1),ai (λq=>h4 q.2.2.2.1:¬gl d)];simp only[au,er,j5,m1,aY,aW,EV,az,aJ,aw,ax,kL,m2,phi (c44 (tv h.c).1),h3,uD,sK,h4,bb,aV,ay,vC,e8']
 have hl5:d.l.clock.pts.length<=1000:=by have:=h2.1.2.1.1;omega
 have m5:=phi (S2 (l:=d.l.clock.pts) (k:=(ed d.c).pts) hl5);by_cases h5:d.l.clock.pts=(ed d.c).pts
 rotate_left
 .rw[ac (λq=>h5 q.2.2.2.2),ai (λq=>h5 q.2.2.2.2:¬gl d)];rw[ai h5] at m5;simp only[au,er,j5,m1,aY,aW,EV,az,aJ,aw,ax,kL,m2,phi (c44 (tv h.c).1),h3,uD,sK,h4,OH,bQ,m5,aV,ay,vC,e8']
 have hk:gl d:=⟨h1,h2,h3,h4,h5⟩;rw[aq h5] at m5;have s1:=bm (f:=row) (l:=(ed d.c).pts);rw[ad hk,aq hk];simp only[au,er,j5,m1,aY,aW,EV,az,aJ,aw,ax,kL,m2,phi (c44 (tv h.c).1),h3,uD,sK,h4,OH,bQ,m5,phi (d67 (l:=(ed d.c).pts) (by omega)),aj,s1,pR];rw[h5];rfl
open Classical in
def OL {d:Drv}(h:D64 d)(hg:gD d=false):Ans D 21 [DV d] [.i64 (okE (decide (gl d)))]:=by
 obtain⟨g1,g2⟩:=wJ hg;have m1:=phi (c27 h.c g1);have m2:=phi (aeu h.l g2);have m3:=phi (c13 d.c);refine am ?_;unfold Tp;by_cases h1:jM d.c
 rotate_left
 .rw[ai (λq=>h1 q.1:¬gl d)];rw[ai h1,e8'] at m1;simp only[au,er,j5,m1,EV,n8',aV,ay,e8']
 rw[aq h1,qu] at m1;by_cases h2:pz d.l
 rotate_left
 .rw[ai (λq=>h2 q.2.1:¬gl d)];rw[ai h2,e8'] at m2;simp only[au,er,j5,m1,EV,az,aJ,aw,ax,kL,m2,n8',aV,ay,e8']
 rw[aq h2,qu] at m2;have hp:=(wm h1.2.1).2.1.1;by_cases h4:d.l.clock.now=(ed d.c).now
 rotate_left
 .rw[ai (λq=>h4 q.2.2.2.1:¬gl d)];simp only[au,er,j5,m1,EV,az,aJ,aw,ax,kL,m2,m3,cV,eR,uD,sK,ai (λe=>h4 e.symm:¬(ed d.c).now=d.l.clock.now),aV,ay,e8']
 have m5:=phi (c28 (l:=(ed d.c).pts) (k:=d.l.clock.pts) (by omega));by_cases h5:d.l.clock.pts=(ed d.c).pts
 rotate_left
 .rw[ai (λq=>h5 q.2.2.2.2:¬gl d)];rw[ai (λe=>h5 e.symm)] at m5;simp only[au,er,j5,m1,EV,az,aJ,aw,ax,kL,m2,m3,cV,eR,uD,sK,h4,iz,Iy,m5,aV,ay,e8']
 rw[aq h5.symm] at m5;by_cases h3:dl (ed d.c).now=0
 rotate_left
 .rw[ai (λq=>h3 q.2.2.1:¬gl d)];simp only[au,er,j5,m1,EV,az,aJ,aw,ax,kL,m2,m3,cV,eR,uD,sK,h4,iz,Iy,m5,phi (c64 (tv h.c).1),h3,bb,aV,ay,e8']
 have hk:gl d:=⟨h1,h2,h3,h4,h5⟩;rw[aq hk,qu];simp only[au,er,j5,m1,EV,az,aJ,aw,ax,kL,m2,m3,cV,eR,uD,sK,h4,iz,Iy,m5,phi (c64 (tv h.c).1),h3]
def Zu {d:Drv}(h:d.l.clock.pts.length<=1000):Ans D 44 [DV d] [MO ⟨d.l.clock.now,d.l.clock.pts⟩]:=by
 have s1:=bm (f:=row) (l:=d.l.clock.pts);refine am ?_;unfold TC;simp only[au,er,uD,Iy,phi (M9 (l:=d.l.clock.pts) h),aW,bQ,EV,aj,aY,pR,s1];rfl
open Classical in
def aev {d:Drv}(h:D64 d)(hg:gD d=false):Ans D 17 [DV d] [MO (wK d),.i64 (okE (decide (gl d)))]:=by
 have m:=phi (OL h hg);refine am ?_;unfold Tn wK;by_cases hk:gl d
 .rw[aq hk,qu] at m;rw[ad hk,aq hk,qu];have hl:=hk.2.1.1.2.1.1;simp only[au,er,m,EV,az,aJ,aw,ax,phi (Zu (d:=d) (by omega)),fQ]
 .rw[ai hk,e8'] at m;rw[ac hk,ai hk];simp only[au,er,m,EV,n8',aV,ay,vC,e8']
open Classical in
def aew {d:Drv}(h:D64 d)(hg:gD d=false):Ans D 20 [DV d] [.i64 (okE (decide (gl d)))]:=by
 refine am ?_;unfold To;simp only[au,er,phi (OK h hg),fQ,EV]
def OM {d:Drv}(hg:gD d=false):(wK d).pts.length<=1000:=by
 unfold wK;split
 .rename_i hk;have:=hk.2.1.1.2.1.1;show d.l.clock.pts.length<=1000
  omega
 .show([]:List Pt).length<=1000
  simp
def MH (tag:Int){d:Drv}(h:D64 d)(hg:gD d=false):∃(x:Drv) (e:Int),(Ans D 18 [DV d,.v (.int .u8 tag)] [DV x,.i64 e]/\ Ans D 19 [DV d,.v (.int .u8 tag)] [DV x,.i64 e])/\ DvW x:=by
 classical
 obtain⟨g1,g2⟩:=wJ hg;have gw:=Ix g2;have m1:=phi (OK h hg);have m2:=phi (OL h hg);by_cases hk:gl d
 rotate_left
 .rw[ai hk,e8'] at m1 m2;refine⟨zD,8,⟨?_,?_⟩,uE⟩
  .refine am ?_;unfold yM;simp only[au,er,m1,fQ,n8',aV,ay,EV,ik]
  .refine am ?_;unfold yN;simp only[au,er,m2,n8',aV,ay,EV,ik]
 rw[aq hk,qu] at m1 m2;have hm:wK d=⟨d.l.clock.now,d.l.clock.pts⟩:=ad hk;rw[hm] at m1;have hl:=hk.2.1.1.2.1.1;have m3:=phi (Zu (d:=d) (by omega));by_cases t1:tag<1
 .refine⟨zD,2,⟨?_,?_⟩,uE⟩
  .refine am ?_;unfold yM;simp only[au,er,m1,fQ,az,aJ,aw,ax,EV,aa,ad t1,ik]
  .refine am ?_;unfold yN;simp only[au,er,m2,az,aJ,aw,ax,EV,aa,ad t1,ik]
 by_cases t2:4<tag
 .refine⟨zD,2,⟨?_,?_⟩,uE⟩
  .refine am ?_;unfold yM;simp only[au,er,m1,fQ,az,aJ,aw,ax,EV,aa,ac t1,bh,ad t2,ik]
  .refine am ?_;unfold yN;simp only[au,er,m2,az,aJ,aw,ax,EV,aa,ac t1,bh,ad t2,ik]
 have ht:=h.l.1;obtain⟨a,e,he,hw⟩:=FV (tag:=tag) (l:=d.l.clock.pts) ht;have q1:=phi (c20 tag (l:=d.l.clock.pts) ht);have q2:=phi (c21 tag (l:=d.l.clock.pts) ht);rw[he] at q1 q2;by_cases h0:e=0
 .subst h0;have hc:CSm d.l.clock:=rQ hk.2.1.1;have s1:=bm (f:=I1) (l:=d.l.numbers);refine⟨⟨a,d.l⟩,0,⟨?_,?_⟩,hw,gw⟩
  .refine am ?_;unfold yM;simp only[au,er,m1,fQ,az,aJ,aw,ax,EV,aa,ac t1,bh,ac t2,nR,pB,q1,ot,phi (aet hg),kL,kJ,Fr,IA,Iz];rfl
  .refine am ?_;unfold yN;simp only[au,er,m2,m3,fQ,az,aJ,aw,ax,EV,aa,ac t1,bh,ac t2,nR,pB,q2,ot,kL,phi (OE hc gw.2.1 gw.2.2),kJ,kK,aj,Fr,Qh,s1,Gm]
 .refine⟨zD,e,⟨?_,?_⟩,uE⟩
  .refine am ?_;unfold yM;simp only[au,er,m1,fQ,az,aJ,aw,ax,EV,aa,ac t1,bh,ac t2,nR,pB,q1,ot,h0,bb,aV,ay,ik]
  .refine am ?_;unfold yN;simp only[au,er,m2,m3,fQ,az,aJ,aw,ax,EV,aa,ac t1,bh,ac t2,nR,pB,q2,ot,h0,bb,aV,ay,ik]
def FG (tag:Int){m:Mod}{d:Drv}(hm:bi m.now)(h:D64 d):Ans D 4 [.v (.int .u8 tag),MO m,DV d] [.bool true]:=by
 classical
 have q1:=phi (aei m hm);have q2:=phi (aeq d);refine am ?_;unfold Tf;cases b1:(gF m.pts||decide (12<m.pts.length)&& qC m) with
 |true=>
  rw[b1] at q1;simp only[au,fQ,er,q1,EV,ay]
 |false=>
  rw[b1] at q1;cases hg:gD d with
  |true=>
   rw[hg] at q2;simp only[au,fQ,er,q1,q2,EV,aw,ax,ay]
  |false=>
   rw[hg] at q2;obtain⟨x,e,⟨n1,n2⟩,hx⟩:=OJ tag hm;obtain⟨y,f,⟨u1,u2⟩,hy⟩:=MH tag h hg;have gw:DvW d:=⟨MG (wJ hg).1,Ix (wJ hg).2⟩;simp only[au,fQ,er,q1,q2,EV,aw,ax,ay,phi (aer hg),phi n1,phi n2,phi (OK h hg),phi (aev h hg),phi u1,phi u2,phi (OI hx),phi (aew h hg),phi (OL h hg),phi (aeh (OM hg)),phi (OI hy),phi (OI gw),az,IZ]
end Go.Proofs.YtndgdhbpojakpaaGreat
