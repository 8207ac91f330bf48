import Derived.Test.YtndgdhbpojakpaaGreatE1
import Derived.Test.YtndgdhbpojakpaaGreatC2
import Derived.Test.YtndgdhbpojakpaaGreatF1
set_option linter.unusedVariables false
set_option linter.unusedSimpArgs false
set_option linter.defProp false
noncomputable section
namespace Go.Proofs.YtndgdhbpojakpaaGreat
open Go.Sym Bnd
set_option maxRecDepth 100000
structure LS where
 clock:Clock
 order:List Int
 numbers:List Int
def liC (l:LS):List PV:=clC l.clock++[sl I1 l.order,sl I1 l.numbers]
def LI (l:LS):PV:= .agg (liC l)
def zLS:LS:=⟨zC,[],[]⟩
section
variable (k:LS)
def nK:RF.ev (.shape 13) [LI k]=some (LI k):=rfl
def pLI:RF.ev (.part 0 11) [LI k]=some (CL k.clock):=rfl
def um:RF.ev (.cell 11) [LI k]=some (sl I1 k.order):=rfl
def mq:RF.ev (.cell 12) [LI k]=some (sl I1 k.numbers):=rfl
def adw:RF.ev (.cell 0) [LI k]=some (.i64 k.clock.now.num)/\ RF.ev (.cell 1) [LI k]=some (.i64 k.clock.now.den)/\ RF.ev (.cell 2) [LI k]=some (sl row k.clock.pts)/\ RF.ev (.cell 3) [LI k]=some (.i64 k.clock.certs.next)/\ RF.ev (.cell 4) [LI k]=some (sl hrow k.clock.certs.list)/\ RF.ev (.cell 5) [LI k]=some (sl I1 k.clock.agenda.slots.uses)/\ RF.ev (.cell 6) [LI k]=some (sl B1 k.clock.agenda.slots.used)/\ RF.ev (.cell 7) [LI k]=some (sl I1 k.clock.agenda.slots.free)/\ RF.ev (.cell 8) [LI k]=some (sl cx k.clock.agenda.heap)/\ RF.ev (.cell 9) [LI k]=some (sl I1 k.clock.agenda.wher)/\ RF.ev (.cell 10) [LI k]=some (sl cT k.clock.due):=⟨rfl,rfl,rfl,rfl,rfl,rfl,rfl,rfl,rfl,rfl,rfl⟩
end
def ids (l:List Pt)(t:Rt):List Int:=(dp t l).map Pt.id
def mu {l:List Pt}{t:Rt}:(ids l t).length=l.length:=by
 unfold ids;rw[aj,(dP t l).length_eq]
def adx {l:List Pt}{t:Rt}(h:okF l)(ht:bg t)(hr:rok t=true):Ans D 126 [F l,R t] [sl row (dp t l),.i64 0]:=by
 have h0:D.T 126=none:=by kernel_rfl
 refine PC h0 ?_;show L2 208 126 126 _=_
 exact Q8 ⟨h,ht,hr⟩
def Y0 {l:List Pt}{t:Rt}(h:okF l)(ht:bg t)(hr:rok t=true):Ans D 75 [F l,R t] [sl I1 (ids l t),.i64 0]:=by
 have hl:=h.1;have hn:(dp t l).length=l.length:=(dP t l).length_eq;have rp:=oI (n:=l.length) (by omega);refine an ⟨1001,?_⟩;unfold Tu;simp only[au,aW,aY,EV,phi (adx h ht hr),az,aK,aw,ax,aj,hn,rp,aI];have e0:([sl I1 (List.replicate l.length 0),.v (.int .i64 0)]:List PV)=[sl I1 (((dp t l).map Pt.id).take 0++List.replicate (l.length-0) 0),.i64 ((0:Nat):Int)]:=rfl;refine(aR _ e0).trans ?_;refine dF (m:=1001) (n:=l.length) (st:=λi=>[sl I1 (((dp t l).map Pt.id).take i++List.replicate (l.length-i) 0),.i64 (i:Int)]) (λi self hi=>?_) (λself=>?_) (by omega)
 .obtain⟨p,hp⟩:∃p,(dp t l)[i]?=some p:=⟨(dp t l)[i]'(by omega),ak _⟩;have hk:(((dp t l).map Pt.id).take i++List.replicate (l.length-i) 0).length=l.length:=by simp[hn];omega
  have st:=gn (l:=((dp t l).map Pt.id).take i++List.replicate (l.length-i) 0) (i:=i) (by omega) p.id;have e1:(((dp t l).map Pt.id).take i++List.replicate (l.length-i) 0).set i p.id=((dp t l).map Pt.id).take (i+1)++List.replicate (l.length-(i+1)) 0:=by
   have hti:(((dp t l).map Pt.id).take i).length=i:=by simp[hn];omega
   rw[kV _ _ (by omega),hti,fd,show l.length-i=(l.length-(i+1))+1 by omega,fq,ny,cd,aT,hp]
   simp
  rw[e1] at st;unfold BH;simp only[EV,aa,bc hi,aO hp (bK _),aL hp,eR,au,ixM hi,Bn,st,up1 (show i<1000000000 by omega)]
 .have hk:(((dp t l).map Pt.id).take l.length++List.replicate (l.length-l.length) 0)=ids l t:=by
   rw[fd,sP,aP];exact aZ (by simp[hn])
  have s0:=bI (f:=I1) (l:=ids l t);rw[mu] at s0;rw[hk];unfold BH;simp only[EV,aa,bo];unfold IV;simp only[EV,s0]
def Fa {l:List Held}{n:Int}{x:Held}(h:l.find? (λg=>decide (g.number=n))=some x):∃i:Nat,l[i]?=some x/\ x.number=n:=by
 obtain⟨i,hi⟩:=aN.1 (i7 h);exact⟨i,hi,by simpa using qb h⟩
def F6 {l:List Held}{n:Int}(h:l.find? (λg=>decide (g.number=n))=none):∀g∈l,g.number≠n:=by
 simpa using h
open Classical in
def ady {c:Certs}{n:Int}(h:cS c)(hn:∀g∈c.list,g.number≠n):Ans D 145 [CS c,.i64 n] [.i64 0,.i64 6]:=by
 have hl:=h.1;have hs:=tq h;have m1:=phi (Gr (c:=c) (by omega));rw[aq h] at m1;have e0:okE true=0:=rfl;rw[e0] at m1;obtain⟨P,h1,h2⟩:=uN (N:=1001) (f:=mj (PhiS D) 1001 tz [] [CS c,.i64 n,CS c,.i64 0,.bool false,sl hrow c.list,.i64 (c.list.length:Int)]) (K0:=oT) (e:=[CS c,.i64 n,CS c,.i64 0,.bool false,sl hrow c.list,.i64 (c.list.length:Int)]) (l:=c.list) (nu:=(·.number)) (id:=n) hs (λi j p self hij hj hp=>by
  unfold oT;simp only[dQ,bV,EV,aa,bc hij,Mm (show i<1000000 by omega) (show j<1000000 by omega),cy (show-9223372036854775808<=(((i+j)/2:Nat):Int) by omega) (by omega),au,eb,aO hp (eS p),aL hp,ji,iR,phi (sS _ _),Cd,up1 (show(i+j)/2<1000000000 by omega),ltS]) (λi j self hij=>by
  unfold oT;simp only[dQ,bV,EV,aa];rw[ac (by omega)]) 1001 0 c.list.length (by omega) (by omega) (aD _) (λk p hp=>⟨λh=>by omega,λh=>by have:=cw hp;omega⟩)
 refine an ⟨1001,?_⟩;unfold M7;simp only[au,ii,m1,eb,EV,aj,az,aK,aw,ax];refine h2.trans ?_;unfold tz;simp only[EV,aa];by_cases hP:P<c.list.length
 .obtain⟨x,hx⟩:∃x,c.list[P]?=some x:=⟨c.list[P],ak _⟩;have hne:=hn x (aB hx);rw[bc hP];simp only[EV,au,eb,aO hx (eS x),aL hx,ji,iR,phi (sS _ _),wY,eqS,hne,bb,aV,ay]
 .rw[ac (by omega)];simp only[EV,wY,aV,ay]
def adz {c:Certs}{n:Int}(h:cS c)(hn:∀g∈c.list,g.number≠n):Ans D 102 [CS c,.i64 n] [.i64 (-1)]:=by
 have hl:=h.1;refine an ⟨1001,?_⟩;unfold M3;simp[ii,EV];refine(jb (m:=1001) (l:=c.list) (p:=λb=>decide (b.number=n)) (st:=λi=>[.i64 (i:Int)]) (ret:=λi=>some [.i64 (i:Int)]) (fin:=some [.i64 (-1)]) (λk g self hg=>?_) (λself=>?_) (by omega)).trans ?_
 .unfold tw;simp only[eb,EV,aj,aa,bc (aJ hg),aO hg (eS _),aL hg,Gj,up1 (show k<1000000000 by have:=aJ hg;omega)]
 .unfold tw;simp[eb,EV,BO]
 .have:(c.list.findIdx? λb=>decide (b.number=n))=none:=by grind
  rw[this];rfl
def oe (c:Certs)(n:Int):Option Crt:=(c.list.find? λg=>decide (g.number=n)).map (·.cert)
def aat (c:Crt):RF.ev (.shape 2) [CP c]=some (CP c):=rfl
def adA {c:Certs}(h:cS c)(n:Int):Ans D 89 [CS c,.i64 n] [CP ((oe c n).getD C0),.i64 (if(oe c n).isSome then 0 else 6)]:=by
 refine am ?_;unfold TA oe;cases hf:c.list.find? (λg=>decide (g.number=n)) with
 |none=>
  simp[ii,EV,phi (ady h (F6 hf)),ZB]
 |some x=>
  obtain⟨i,hi,rfl⟩:=Fa hf;simp[ii,EV,phi (acD h hi),eb,aO hi (eS _),aL hi,zV]
def iB (o:List Int)(i:Nat):Crt:=⟨(o[i+1]?).getD 0,(o[i]?).getD 0⟩
def Mf (a b:Int):RF.ev .agg [.i64 a,.i64 b]=some (CP ⟨a,b⟩):=rfl
def Y1 {o:List Int}{i:Nat}(hi:i+1<o.length)(hl:o.length<=1000):Ans D 90 [sl I1 o,.i64 (i:Int)] [CP (iB o i)]:=by
 have h1:o[i]?=some o[i]:=ak _;have h2:o[i+1]?=some o[i+1]:=ak _;refine am ?_;unfold TB iB;simp only[EV,aO h1 (bO _),aL h1,cg,up1 (show i<1000000000 by omega),aO h2 (bO _),aL h2,au,Mf]
 rw[h1,h2];rfl
def Y2 {k:LS}{i:Nat}(hi:i+1<k.order.length)(hl:k.order.length<=1000):Ans D 103 [LI k,.i64 (i:Int)] [CP (iB k.order i)]:=by
 have h1:k.order[i]?=some k.order[i]:=ak _;have h2:k.order[i+1]?=some k.order[i+1]:=ak _;refine am ?_;unfold TG iB;simp only[EV,nK,um,aO h1 (bO _),aL h1,cg,up1 (show i<1000000000 by omega),aO h2 (bO _),aL h2,au,Mf]
 rw[h1,h2];rfl
def uo (c:Certs)(o n:List Int):Prop:=∀(i:Nat) (x:Int),n[i]?=some x->oe c x=some (iB o i)
def pi (k:LS):Prop:=dl k.clock/\ k.order=ids k.clock.pts k.clock.now/\ k.numbers.length=k.order.length-1/\ k.clock.certs.list.length=k.numbers.length/\ uo k.clock.certs k.order k.numbers
def gL (k:LS):Bool:=gCl k.clock||decide (80<k.order.length)||decide (80<k.numbers.length)
def Ic (n:Nat)(h:n<=1000):RF.ev (.mm true) [.v (.int .i64 0),.v (.int .i64 (IntKind.i64.wrap ((n:Int)-1)))]=some (.i64 ((n-1:Nat):Int)):=by
 rw[mmX,cy (by omega) (by omega)]
 congr 3
 omega
open Classical in
def sA {c:Certs}{o n:List Int}:uo c o n↔(n.zipIdx).all (λx=>decide (oe c x.1=some (iB o x.2)))=true:=by
 unfold uo;simp only[aQ,aa];constructor
 .rintro h ⟨x,i⟩ hx;exact h i x (de.1 hx)
 .intro h i x hx;exact h (x,i) (de.2 hx)
open Classical in
def adB {k:LS}(h64:fu k.clock)(hg:gL k=false):Ans D 40 [LI k] [.i64 (okE (decide (pi k)))]:=by
 unfold gL at hg;simp only[cR,ai] at hg;obtain⟨⟨g1,g2⟩,g3⟩:=hg;have m1:=phi (AR h64 g1);have no:∀h:¬pi k,(some [PV.v (.int .i64 8)]:Option (List PV))=some [.i64 (okE (decide (pi k)))]:=λh=>by rw[ah h];rfl
 refine an ⟨1001,?_⟩;unfold Th;by_cases h1:dl k.clock
 rotate_left
 .rw[ah h1,show okE false=8 from rfl] at m1
  have n8:decide ((8:Int)=0)=false:=rfl;simp only[EV,nK,pLI,m1,n8,aV,ay,au];exact no λh=>h1 h.1
 rw[aq h1,show okE true=0 from rfl] at m1
 have hF:=h1.2.1;have hid:(ids k.clock.pts k.clock.now).length<=64:=by rw[mu];exact hF.1
 have hw:IntKind.i64.wrap (((ids k.clock.pts k.clock.now).length:Int)-1)=IntKind.i64.wrap (((ids k.clock.pts k.clock.now).length:Int)-1):=rfl;simp only[EV,nK,pLI,m1,az,aK,aw,ax,au,iu,eU,phi (Y0 hF h64.1 h1.1),um,phi (Gt (l:=ids k.clock.pts k.clock.now) (k:=k.order) (by omega)),mq,aj,Ic _ (show(ids k.clock.pts k.clock.now).length<=1000 by omega),eV,aA,ai]
 by_cases h2:k.order=ids k.clock.pts k.clock.now
 rotate_left
 .rw[ad (λe=>h2 e.symm)];exact no λh=>h2 h.2.1
 rw[ac (λe=>e h2.symm)];rw[<-h2];by_cases h3:k.numbers.length=k.order.length-1
 rotate_left
 .rw[ad (by omega)];exact no λh=>h3 h.2.2.1
 rw[ac (by omega)];by_cases h4:k.clock.certs.list.length=k.numbers.length
 rotate_left
 .rw[ad (by omega)];exact no λh=>h4 h.2.2.2.1
 rw[ac (by omega)];have hC:=h1.2.2.1;refine(b9 (m:=1001) (l:=k.numbers.zipIdx) (p:=λx=>decide (oe k.clock.certs x.1=some (iB k.order x.2))) (st:=λi=>[.i64 (i:Int)]) (r:=some [.i64 8]) (fin:=some [.i64 0]) (λi x self hx _=>?_) (λ_ self=>?_) (by simp;omega)).trans ?_
 .obtain⟨x,j⟩:=x;have hj:j=i/\ k.numbers[i]?=some x:=by
   rw[sC] at hx;cases h:k.numbers[i]? with
   |none=>rw[h] at hx;cases hx
   |some y=>rw[h] at hx;simp at hx;exact⟨hx.2.symm,by rw[hx.1]⟩
  obtain⟨rfl,hx⟩:=hj;have hi:=aJ hx;unfold Bw;simp only[EV,aa,bc hi,mq,aO hx (bO _),aL hx,cg,au,nD,phi (adA hC x),aat,phi (Y1 (o:=k.order) (i:=j) (by omega) (by omega)),sX,up1 (show j<1000000000 by omega)]
  cases hc:oe k.clock.certs x with
  |none=>simp
  |some y=>simp
 .rw[List.length_zipIdx];unfold Bw;simp only[EV,aa,bo,IL]
 .by_cases h5:uo k.clock.certs k.order k.numbers
  .have hk:pi k:=⟨h1,h2,h3,h4,h5⟩;rw[ad (sA.1 h5),aq hk];rfl
  .rw[ac (λh=>h5 (sA.2 h))];exact no λh=>h5 h.2.2.2.2
def prs (o:List Int):List Crt:=(List.range (o.length-1)).map (iB o)
def kT {o:List Int}:(prs o).length=o.length-1:=by simp[prs]
def vn {o:List Int}{i:Nat}(h:i<o.length-1):(prs o)[i]?=some (iB o i):=by
 unfold prs;rw[aT,fo h];rfl
def pn {o:List Int}{i:Nat}(h:i+1<o.length):o[i]?=some (iB o i).high/\ o[i+1]?=some (iB o i).low:=by
 unfold iB;rw[ak (show i<o.length by omega),ak h]
 exact⟨rfl,rfl⟩
def Ri {l:List Pt}{t:Rt}{x:Int}:x∈ids l t↔∃p∈l,p.id=x:=by
 unfold ids;rw[bh];constructor
 .rintro⟨p,h,e⟩;exact⟨p,(dP t l).mem_iff.1 h,e⟩
 .rintro⟨p,h,e⟩;exact⟨p,(dP t l).mem_iff.2 h,e⟩
def Mg {l:List Pt}{t:Rt}(h:okF l):(ids l t).Nodup:=(cI h.2.2).perm (dP t l).symm
def y9 {l:List Pt}{t:Rt}(h:okF l):EdgOk l (prs (ids l t)):=by
 have hn:=Mg (t:=t) h;have hlen:=mu (l:=l) (t:=t);have h64:=h.1;have key:∀x∈prs (ids l t),∃i,i+1<(ids l t).length/\ x=iB (ids l t) i:=λx hx=>by
  unfold prs at hx;obtain⟨i,hi,rfl⟩:=bh.1 hx;rw[dc] at hi;exact⟨i,by omega,rfl⟩
 have hin:∀x∈ids l t,inF l x=true/\ 0<=x/\ x<=65535:=λx hx=>by
  obtain⟨p,hp,rfl⟩:=Ri.1 hx;have ho:=aQ.1 h.2.1 p hp;refine⟨?_,?_⟩
  .cases hf:inF l p.id with
   |true=>rfl
   |false=>exact absurd rfl (yf hf p hp)
  .unfold Pt.ok at ho;simp only[aF,aa] at ho;exact⟨ho.1.1.1,ho.1.1.2⟩
 refine⟨?_,by rw[kT];omega,λx hx=>?_,λx hx=>?_,λx hx=>?_⟩
 .rw[dt];intro i j x hi hj;have li:=cw hi;have lj:=cw hj;rw[kT] at li lj;rw[vn li] at hi;rw[vn lj] at hj;cases hi;have e:=(i9 hj);have a:=(pn (o:=ids l t) (i:=i) (by omega)).1;have b:=(pn (o:=ids l t) (i:=j) (by omega)).1;rw[e] at b;exact dt.1 hn i j _ a b
 .obtain⟨i,hi,rfl⟩:=key x hx;obtain⟨a,b⟩:=pn hi;have ha:=(hin _ (aB a)).2;have hb:=(hin _ (aB b)).2;refine⟨hb.1,hb.2,ha.1,ha.2,λe=>?_⟩;rw[<-e] at a;have:=dt.1 hn i (i+1) _ a b;omega
 .obtain⟨i,hi,rfl⟩:=key x hx;exact(hin _ (aB (pn hi).2)).1
 .obtain⟨i,hi,rfl⟩:=key x hx;exact(hin _ (aB (pn hi).1)).1
def iw (k n:Nat):List Int:=(List.range k).map (λi:Nat=>(i:Int))++List.replicate (n-k) 0
def mw {k n:Nat}(h:k<=n):(iw k n).length=n:=by simp[iw];omega
def Fb {k n:Nat}(h:k<n):(iw k n).set k (k:Int)=iw (k+1) n:=by
 unfold iw;rw[kV _ _ (by simp),aj,ig,fd,show n-k=(n-(k+1))+1 by omega,fq,ny,lP,d5]
 simp
def Id (l:List Pt)(t:Rt):LS:=⟨certAll (newC l t) (prs (ids l t)),ids l t,iw (l.length-1) (l.length-1)⟩
def ccs (c:Clock)(r:List PV):List PV:= .i64 c.now.num:: .i64 c.now.den::sl row c.pts:: .i64 c.certs.next::sl hrow c.certs.list::sl I1 c.agenda.slots.uses::sl B1 c.agenda.slots.used::sl I1 c.agenda.slots.free::sl cx c.agenda.heap::sl I1 c.agenda.wher::sl cT c.due::r
def uq (c:Clock)(o n:List Int):RF.ev .agg [.i64 c.now.num,.i64 c.now.den,sl row c.pts,.i64 c.certs.next,sl hrow c.certs.list,sl I1 c.agenda.slots.uses,sl B1 c.agenda.slots.used,sl I1 c.agenda.slots.free,sl cx c.agenda.heap,sl I1 c.agenda.wher,sl cT c.due,sl I1 o,sl I1 n]=some (LI ⟨c,o,n⟩):=rfl
def Fc {l:List Pt}{t:Rt}{es:List Crt}{k:Nat}{c:Clock}(h:AtK l t es k c)(hk:k<=es.length):c.certs.next=(k:Int):=by
 have:=aR List.length h.certs;rw[aj,aM,bm hk] at this;rw[h.fresh.next,this]
def adC {l:List Pt}{t:Rt}(h:okF l)(ht:bg t)(hr:rok t=true):Ans D 36 [F l,R t] [LI (Id l t),.i64 0]:=by
 have h64:=h.1;have hlen:=mu (l:=l) (t:=t);have hE:=y9 (t:=t) h;have mx:=Ic (ids l t).length (by omega);have rp:=oI (n:=l.length-1) (by omega);have n0:RF.ev (.bin .neq) [.v (.int .i64 0),.v (.int .i64 0)]=some (.bool false):=rfl;refine an ⟨1001,?_⟩;unfold Tf;simp only[au,aW,aY,phi (Bk h ht hr),phi (Y0 h ht hr),dq,EV,az,aK,aw,ax,aj,mx];rw[hlen];simp only[au,rp,EV,aj,aI,nF,nG,kn,oQ,eV,lZ,l5,l6,iU,jn,dY];refine dF (m:=1001) (n:=l.length-1) (st:=λk=>ccs (certAll (newC l t) ((prs (ids l t)).take k)) [sl I1 (iw k (l.length-1)),.i64 (k:Int)]) (λk self hk=>?_) (λself=>?_) (by omega)
 .have hx:=vn (o:=ids l t) (i:=k) (by omega);have A:=oo hE h ht hr k (by rw[kT];omega);obtain⟨ha,_⟩:=qA hE A hx;have hnx:=Fc A (by rw[kT];omega);rw[ln hx];generalize certAll (newC l t) ((prs (ids l t)).take k)=c at A ha hnx|-;have m:=phi (OO A.fresh ha);have mp:=phi (Y1 (o:=ids l t) (i:=k) (by omega) (by omega));have hs:=gn (l:=iw k (l.length-1)) (i:=k) (by rw[mw (by omega)];omega) (k:Int);rw[Fb hk] at hs;rw[hnx] at m;unfold Bu ccs;simp only[EV,aa,bc hk,mp,au,rF,m,dq,Aa,az,aK,aw,ax,ixM hk,hs,n0,nF,nG,kn,oQ,eV,lZ,l5,l6,iU,jn,dY,IJ,up1 (show k<1000000000 by omega)]
 .have ht1:(prs (ids l t)).take (l.length-1)=prs (ids l t):=aZ (by rw[kT];omega);have s0:=bI (f:=I1) (l:=iw (l.length-1) (l.length-1));rw[mw (aD _)] at s0;unfold Bu ccs;simp only[EV,aa,bo,II,s0,au,uq];rw[ht1];rfl
def adD {l:List Pt}{t:Rt}(h:okF l)(ht:bg t)(hr:rok t=true):Ans D 134 [F l,R t] [.i64 0]:=by
 have m:=phi (kf l);rw[dG.2 h] at m;have m2:=phi (nA ht);rw[hr] at m2;refine am ?_;unfold T9;simp only[au,aW,aY,m,m2,EV,az,aK,aw,ax,qj]
def adE {l:List Pt}{t:Rt}(h:okF l)(ht:bg t)(hr:rok t=true):Ans D 82 [F l,R t] [CL (newC l t),.i64 0]:=by
 have:=h.1;refine am ?_;unfold Tv;simp only[au,aW,aY,phi (adD h ht hr),phi (Bj (l:=l) (t:=t) (by omega)),EV,az,aK,aw,ax,dq]
def adF {k:LS}(h:CSm k.clock)(h1:k.order.length<=1000)(h2:k.numbers.length<=1000):Ans D 33 [LI k] [LI k]:=by
 have s1:=bI (f:=cT) (l:=k.clock.due);have s2:=bI (f:=I1) (l:=k.order);have s3:=bI (f:=I1) (l:=k.numbers);refine am ?_;unfold Td;simp only[au,nK,pLI,phi (GB h),dq,nF,nG,kn,oQ,eV,lZ,l5,l6,iU,jn,dY,um,mq,EV,aj,ik (l:=k.order) (f:=I1) (bytes:=8) (z:=1) (by omega) bO,ik (l:=k.numbers) (f:=I1) (bytes:=8) (z:=1) (by omega) bO,s1,s2,s3,uq]
def adG {k:LS}{c:Clock}{n:Int}{i:Nat}(h1:k.order.length<=1000)(hi:i+1<k.order.length)(h2:i<k.numbers.length)(h3:k.numbers.length<=1000)(hs:CSm k.clock)(m:PhiS D 136 [CL k.clock,CP (iB k.order i)]=some [CL c,.i64 n,.i64 0]):Ans D 84 [LI k,.i64 (i:Int)] [LI ⟨c,k.order,k.numbers.set i n⟩,.i64 0]:=by
 have s1:=bI (f:=cT) (l:=c.due);have st:=gn h2 n;have s2:=bI (f:=I1) (l:=k.numbers.set i n);rw[bJ] at s2;refine am ?_;unfold Tx;simp only[au,nK,pLI,phi (Y2 hi h1),m,dq,EV,az,aK,aw,ax,aj,phi (adF hs h1 h3),mq,um,ixM h2,st,nF,nG,kn,oQ,eV,lZ,l5,l6,iU,jn,dY,s1,s2,uq]
def adH {l:List Pt}{t:Rt}(h:okF l)(ht:bg t)(hr:rok t=true):Ans D 38 [F l,R t] [LI (Id l t),.i64 0]:=by
 have h64:=h.1;have hlen:=mu (l:=l) (t:=t);have hE:=y9 (t:=t) h;have mx:=Ic (ids l t).length (by omega);have rp:=oI (n:=l.length-1) (by omega);refine an ⟨1001,?_⟩;unfold Tg;simp only[au,aW,aY,phi (adE h ht hr),phi (Mw h ht),dq,EV,az,aK,aw,ax,aj];have hl2:(dp t l).length=l.length:=(dP t l).length_eq;rw[show((dp t l).map Pt.id)=ids l t from rfl]
 rw[hlen] at mx;simp only[au,hl2,mx,rp,EV,aj,aI,nF,nG,kn,oQ,eV,lZ,l5,l6,iU,jn,dY];refine dF (m:=1001) (n:=l.length-1) (st:=λk=>ccs (certAll (newC l t) ((prs (ids l t)).take k)) [sl I1 (ids l t),sl I1 (iw k (l.length-1)),.i64 ((l.length-1:Nat):Int),.i64 (k:Int)]) (λk self hk=>?_) (λself=>?_) (by omega)
 .have hx:=vn (o:=ids l t) (i:=k) (by omega);have A:=oo hE h ht hr k (by rw[kT];omega);obtain⟨ha,_⟩:=qA hE A hx;have hnx:=Fc A (by rw[kT];omega);rw[ln hx];generalize certAll (newC l t) ((prs (ids l t)).take k)=c at A ha hnx|-;have hk1:=mw (show k<=l.length-1 by omega)
  have m:=phi (OP A.fresh ha);rw[hnx] at m;have md:=phi (adG (k:=⟨c,ids l t,iw k (l.length-1)⟩) (i:=k) (by simp only;omega) (by simp only;omega) (by simp only;omega) (by simp only;omega) (uH A.fresh.ok) m);simp only[Fb hk] at md;have s0:=bI (f:=I1) (l:=iw k (l.length-1));rw[hk1] at s0;unfold Bv ccs;simp only[EV,aa,bc hk,s0,au,uq,md,nK,mq,um,adw,aj,mw (show k+1<=l.length-1 by omega),az,aK,aw,ax,up1 (show k<1000000000 by omega)]
 .have ht1:(prs (ids l t)).take (l.length-1)=prs (ids l t):=aZ (by rw[kT];omega);have s0:=bI (f:=I1) (l:=iw (l.length-1) (l.length-1));rw[mw (aD _)] at s0;unfold Bv ccs;simp only[EV,aa,bo,IK,s0,au,uq];rw[ht1];rfl
def adI (k:LS):Ans D 24 [LI k] [.bool (gL k)]:=by
 refine am ?_;unfold S8 gL;simp only[au,nK,pLI,phi (Gl k.clock),EV,um,mq,aj,aa];cases h1:gCl k.clock with
 |true=>simp[tv,EV]
 |false=>
  by_cases h2:80<k.order.length
  .rw[aq h2];simp[tv,EV];omega
  .rw[ah h2];by_cases h3:80<k.numbers.length
   .rw[aq h3];simp only[tv,EV,aw,ax,ac (show¬(80:Int)<(k.order.length:Int) by omega),bA,au,mq,aj,aq (show(80:Int)<(k.numbers.length:Int) by omega),Bool.or_true]
   .rw[ah h3];simp only[tv,EV,aw,ax,ac (show¬(80:Int)<(k.order.length:Int) by omega),bA,au,mq,aj,ah (show¬(80:Int)<(k.numbers.length:Int) by omega),Bool.or_false]
def LsW (k:LS):Prop:=gW k.clock/\ k.order.length<=1000/\ k.numbers.length<=1000
def adJ {k:LS}(h:LsW k):Ans D 31 [LI k,LI k] [.bool true]:=by
 have m:=phi (zX (s:=k.clock) (t:=k.clock) h.1);rw[aq rfl] at m;have m2:=phi (vJ (l:=k.order) (k:=k.order) h.2.1);rw[aq rfl] at m2;have m3:=phi (vJ (l:=k.numbers) (k:=k.numbers) h.2.2);rw[aq rfl] at m3;refine am ?_;unfold Tc;simp only[au,nK,pLI,m,um,m2,mq,m3,EV,ay,IH]
def Y3 {l:List Pt}{t:Rt}(h:okF l)(ht:bg t)(hr:rok t=true):LsW (Id l t):=by
 have:=h.1;refine⟨wP h ht hr (y9 h),?_,?_⟩
 .show(ids l t).length<=1000
  rw[mu];omega
 .show(iw (l.length-1) (l.length-1)).length<=1000
  rw[mw (aD _)];omega
def aau:LsW zLS:=⟨jq,by decide,by decide⟩
structure Mod where
 now:Rt
 pts:List Pt
def moC (m:Mod):List PV:=[.i64 m.now.num,.i64 m.now.den,sl row m.pts]
def MO (m:Mod):PV:= .agg (moC m)
def zM:Mod:=⟨⟨0,0⟩,[]⟩
section
variable (m:Mod)
def iC:RF.ev (.shape 3) [MO m]=some (MO m):=rfl
def wx:RF.ev (.part 0 2) [MO m]=some (R m.now):=rfl
def ur:RF.ev (.part 2 1) [MO m]=some (F m.pts):=rfl
def adK:RF.ev (.cell 2) [MO m]=some (sl row m.pts):=rfl
end
def vo:RF.ev .agg [.v (.int .i64 0),.v (.int .i64 0),.sl []]=some (MO zM):=rfl
def moOk (m:Mod):Bool:=decide (di m.now=0)&& decide (eg m.pts=0)
def Oh {m:Mod}:moOk m=true↔di m.now=0/\ okF m.pts:=by
 unfold moOk;rw[aF,aa,aa,dG]
def Mh {t:Rt}(h:di t=0):rok t=true:=by
 unfold di at h
 grind
def Oi {m:Mod}(ht:bg m.now):Ans D 27 [MO m] [.i64 (okE (moOk m))]:=by
 refine am ?_;unfold S9 moOk;simp only[au,iC,wx,phi (c64 ht),ur,phi (kf m.pts),EV,aA,ai];by_cases h1:di m.now=0
 .by_cases h2:eg m.pts=0
  .simp[h1,h2,okE]
  .simp[h1,h2,okE]
 .simp[h1,okE]
def zQ {a b:Int}{n i:Nat}{x:Int}{f:JT}(h:[a,b][i]?=some x):denW (PhiS D) 1001 k567_2 [f] [sl I1 [a,b],.v (.int .i64 2)] (n+1) [.v (.int .i64 (i:Int))]=if x=0 then denW (PhiS D) 1001 k567_2 [f] [sl I1 [a,b],.v (.int .i64 2)] n [.v (.int .i64 ((i+1:Nat):Int))] else some [.i64 x]:=by
 have hi:i<2:=aJ h;have hd:decide ((i:Int)<2)=true:=aq (by omega);rw[bF];generalize hkk:denW (PhiS D) 1001 k567_2 [f] [sl I1 [a,b],.v (.int .i64 2)] n=self;unfold k567_2;simp only[EV,hd,ay,aO h (bO _),aL h,cg,up1 (show i<1000000000 by omega)]
 by_cases h0:x=0
 .simp[h0]
 .simp[h0]
def Oj {a b:Int}{n:Nat}:denW (PhiS D) 1001 k567_2 [mj (PhiS D) 1001 BD [] [sl I1 [a,b],.v (.int .i64 2)]] [sl I1 [a,b],.v (.int .i64 2)] (n+1) [.v (.int .i64 ((2:Nat):Int))]=some [.i64 0]:=by
 have l2:decide (((2:Nat):Int)<(2:Int))=false:=rfl;rw[bF];generalize denW (PhiS D) 1001 k567_2 _ _ n=self;unfold k567_2;simp only[EV,l2,aw,ax,BD]
def adL {a b:Int}:Ans D 67 [sl I1 [a,b]] [.i64 (if a≠0 then a else b)]:=by
 refine an ⟨1001,?_⟩;unfold Ts;simp only[EV,aj,bi,df];refine(zQ (n:=1000) (i:=0) rfl).trans ?_;by_cases h:a=0
 .rw[ad h];refine(zQ (n:=999) (i:=1) rfl).trans ?_;by_cases h2:b=0
  .rw[ad h2];refine(Oj (n:=998)).trans ?_;simp[h,h2]
  .rw[ac h2];simp[h]
 .rw[ac h];simp[h]
def Y4 {m:Mod}(ht:bg m.now):Ans D 34 [MO m] [.i64 (okE (moOk m))]:=by
 have bs:RF.ev (.bs 2 [KP.z] [0,1]) [.v (.int .i64 (di m.now)),.v (.int .i64 (eg m.pts))]=some (sl I1 [di m.now,eg m.pts]):=rfl;have su:RF.ev .sub [sl I1 [di m.now,eg m.pts],.v (.int .i64 0),.v (.int .i64 2)]=some (sl I1 [di m.now,eg m.pts]):=rfl;refine am ?_;unfold Te moOk;simp only[au,iC,wx,phi (c44 ht),ur,phi (qd m.pts),EV,bs,su,phi adL,aA,ai];by_cases h1:di m.now=0
 .by_cases h2:eg m.pts=0
  .simp[h1,h2,okE]
  .simp[h1,h2,okE]
 .simp[h1,okE]
def adM {m:Mod}(h:m.pts.length<=1000):Ans D 22 [MO m,MO m] [.bool true]:=by
 have m2:=phi (c28 (l:=m.pts) (k:=m.pts) h);rw[aq rfl] at m2;refine am ?_;unfold S6;simp only[au,iC,wx,AN,az,ur,m2,EV,ay,IG]
def adN (m:Mod)(ht:bg m.now):Ans D 6 [MO m] [.bool (gF m.pts||decide (12<m.pts.length)&& moOk m)]:=by
 refine am ?_;unfold SZ;simp only[au,iC,ur,phi (c19 m.pts),EV,adK,aj,aa];have e:=phi (Oi ht);cases h1:gF m.pts with
 |true=>simp[tu,EV]
 |false=>
  by_cases h2:12<m.pts.length
  .cases h3:moOk m with
   |true=>rw[h3] at e;simp[tu,EV,e,h2,okE];omega
   |false=>rw[h3] at e;simp[tu,EV,e,h2,okE]
  .simp[tu,EV,h2];omega
structure Drv where
 c:Choice
 l:LS
def dvC (d:Drv):List PV:=Mo d.c++liC d.l
def DV (d:Drv):PV:= .agg (dvC d)
def zD:Drv:=⟨zCH,zLS⟩
section
variable (d:Drv)
def fO:RF.ev (.shape 64) [DV d]=some (DV d):=rfl
def kC:RF.ev (.part 0 51) [DV d]=some (CHO d.c):=rfl
def nL:RF.ev (.part 51 13) [DV d]=some (LI d.l):=rfl
def ut:RF.ev (.part 51 2) [DV d]=some (R d.l.clock.now):=rfl
def Ie:RF.ev (.part 53 1) [DV d]=some (F d.l.clock.pts):=rfl
def Ok:RF.ev (.cell 53) [DV d]=some (sl row d.l.clock.pts):=rfl
def Y5:RF.ev (.cell 0) [DV d]=some (.v (.int .u8 d.c.tag)):=rfl
def PR:RF.ev .agg [CHO d.c,LI d.l]=some (DV d):=rfl
end
def Aw (c:Choice):RF.ev (.shape 51) [CHO c]=some (CHO c):=rfl
def Y6 (c:Choice):RF.ev (.part 0 51) [CHO c]=some (CHO c):=rfl
def PS (k:LS):RF.ev (.part 0 13) [LI k]=some (LI k):=rfl
def mS:RF.ev .agg [.v (.int .u8 0),.v (.int .i64 0),.v (.int .i64 0),.sl [],.v (.int .i64 0),.sl [],.sl [],.sl [],.sl [],.sl [],.sl [],.sl [],.sl [],.v (.int .i64 0),.v (.int .i64 0),.sl [],.v (.int .i64 0),.sl [],.sl [],.sl [],.sl [],.sl [],.sl [],.sl [],.sl [],.sl [],.v (.int .i64 0),.v (.int .i64 0),.sl [],.v (.int .i64 0),.sl [],.sl [],.sl [],.sl [],.sl [],.sl [],.sl [],.v (.int .i64 0),.sl [],.v (.int .i64 0),.v (.int .i64 0),.sl [],.v (.int .i64 0),.sl [],.sl [],.sl [],.sl [],.sl [],.sl [],.sl [],.sl [],.v (.int .i64 0),.v (.int .i64 0),.sl [],.v (.int .i64 0),.sl [],.sl [],.sl [],.sl [],.sl [],.sl [],.sl [],.sl [],.sl []]=some (DV zD):=rfl
def gD (d:Drv):Bool:=gCh d.c||gL d.l||decide (12<d.l.clock.pts.length)||decide (12<(ed d.c).pts.length)
def Y7 {d:Drv}(h:gD d=false):gCh d.c=false/\ gL d.l=false:=by
 unfold gD at h;simp only[cR] at h;exact⟨h.1.1.1,h.1.1.2⟩
def adO (d:Drv):Ans D 5 [DV d] [.bool (gD d)]:=by
 refine am ?_;unfold SY gD;simp only[au,fO,kC,phi (c7 d.c),EV,nL,phi (adI d.l),Ok,aj,aa];cases h1:gCh d.c with
 |true=>simp[tr,EV]
 |false=>
  cases h2:gL d.l with
  |true=>simp[tr,EV]
  |false=>
   by_cases h3:12<d.l.clock.pts.length
   .simp[tr,EV,h3];omega
   .simp only[aw,ax,au,kC,phi (c13 d.c),iu,bQ,EV,aj,tr,aa];rw[ac (by omega)];simp[h3];omega
def DvW (d:Drv):Prop:=ChW d.c/\ LsW d.l
def Fe:DvW zD:=⟨GP,aau⟩
def adP {d:Drv}(h:DvW d):Ans D 12 [DV d,DV d] [.bool true]:=by
 refine am ?_;unfold S2;simp only[au,fO,kC,phi (c17 h.1),nL,phi (adJ h.2),EV,ay,IF]
open Classical in
def adQ {k:LS}(h64:fu k.clock)(hg:gL k=false):Ans D 47 [LI k] [.i64 (okE (decide (pi k)))]:=by
 unfold gL at hg;simp only[cR,ai] at hg;obtain⟨⟨g1,g2⟩,g3⟩:=hg;have m1:=phi (AP h64 g1);have no:∀h:¬pi k,(some [PV.v (.int .i64 8)]:Option (List PV))=some [.i64 (okE (decide (pi k)))]:=λh=>by rw[ah h];rfl
 refine an ⟨1001,?_⟩;unfold Tl;by_cases h1:dl k.clock
 rotate_left
 .rw[ah h1,show okE false=8 from rfl] at m1
  have n8:decide ((8:Int)=0)=false:=rfl;simp only[EV,nK,pLI,m1,n8,aV,ay,au];exact no λh=>h1 h.1
 rw[aq h1,show okE true=0 from rfl] at m1
 have hF:=h1.2.1;have m2:=phi (Mw hF h64.1);rw[show(dp k.clock.now k.clock.pts).map Pt.id=ids k.clock.pts k.clock.now from rfl] at m2
 have hid:(ids k.clock.pts k.clock.now).length<=64:=by rw[mu];exact hF.1
 simp only[EV,nK,pLI,m1,az,aK,aw,ax,au,iu,eU,m2,um,phi (vJ (l:=k.order) (k:=ids k.clock.pts k.clock.now) (by omega)),mq,aj,Ic _ (show k.order.length<=1000 by omega),eV,aA,ai]
 by_cases h2:k.order=ids k.clock.pts k.clock.now
 rotate_left
 .rw[ad h2];exact no λh=>h2 h.2.1
 rw[ac (λe=>e h2)];by_cases h3:k.numbers.length=k.order.length-1
 rotate_left
 .rw[ad (by omega)];exact no λh=>h3 h.2.2.1
 rw[ac (by omega)];by_cases h4:k.clock.certs.list.length=k.numbers.length
 rotate_left
 .rw[ad (by omega)];exact no λh=>h4 h.2.2.2.1
 rw[ac (by omega)];have hC:=h1.2.2.1;refine(b9 (m:=1001) (l:=k.numbers.zipIdx) (p:=λx=>decide (oe k.clock.certs x.1=some (iB k.order x.2))) (st:=λi=>[.i64 (i:Int)]) (r:=some [.i64 8]) (fin:=some [.i64 0]) (λi x self hx _=>?_) (λ_ self=>?_) (by simp;omega)).trans ?_
 .obtain⟨x,j⟩:=x;have hj:j=i/\ k.numbers[i]?=some x:=by
   rw[sC] at hx;cases h:k.numbers[i]? with
   |none=>rw[h] at hx;cases hx
   |some y=>rw[h] at hx;simp at hx;exact⟨hx.2.symm,by rw[hx.1]⟩
  obtain⟨rfl,hx⟩:=hj;have hi:=aJ hx;unfold By oe;cases hf:k.clock.certs.list.find? (λg=>decide (g.number=x)) with
  |none=>
   have e:decide ((-1:Int)<0)=true:=rfl;simp only[EV,aa,mq,aj,bc hi,pLI,nD,aO hx (bO _),aL hx,cg,au,phi (adz hC (F6 hf)),e,ay];simp
  |some y=>
   obtain⟨a,ha,rfl⟩:=Fa hf;have e:decide ((a:Int)<0)=false:=ah (by omega);simp only[EV,aa,mq,aj,bc hi,pLI,nD,aO hx (bO _),aL hx,cg,au,phi (acE hC ha),e,aw,ax,eV,aO ha (eS _),aL ha,zV,phi (Y2 (k:=k) (i:=j) (by omega) (by omega)),sX,up1 (show j<1000000000 by omega)]
   simp
 .rw[List.length_zipIdx];unfold By;simp only[EV,aa,mq,aj,bo,IN]
 .by_cases h5:uo k.clock.certs k.order k.numbers
  .have hk:pi k:=⟨h1,h2,h3,h4,h5⟩;rw[ad (sA.1 h5),aq hk];rfl
  .rw[ac (λh=>h5 (sA.2 h))];exact no λh=>h5 h.2.2.2.2
def Ol (tag:Int){m:Mod}(ht:bg m.now):∃(d:Drv) (e:Int),(Ans D 14 [.v (.int .u8 tag),MO m] [DV d,.i64 e]/\ Ans D 15 [.v (.int .u8 tag),MO m] [DV d,.i64 e])/\ DvW d:=by
 have m1:=phi (Y4 ht);have m2:=phi (Oi ht);have e8:okE false=8:=rfl;have n8:decide ((8:Int)=0)=false:=rfl;cases hm:moOk m with
 |false=>
  rw[hm,e8] at m1 m2;refine⟨zD,8,⟨?_,?_⟩,Fe⟩
  .refine am ?_;unfold yu;simp only[au,iC,m1,n8,aV,ay,EV,mS]
  .refine am ?_;unfold yw;simp only[au,iC,m2,n8,aV,ay,EV,mS]
 |true=>
  rw[hm,qj] at m1 m2;obtain⟨a1,a2⟩:=Oh.1 hm;have hr:=Mh a1;by_cases t1:tag<1
  .refine⟨zD,2,⟨?_,?_⟩,Fe⟩
   .refine am ?_;unfold yu;simp only[au,iC,m1,az,aK,aw,ax,EV,aa,ad t1,mS]
   .refine am ?_;unfold yw;simp only[au,iC,m2,az,aK,aw,ax,EV,aa,ad t1,mS]
  by_cases t2:4<tag
  .refine⟨zD,2,⟨?_,?_⟩,Fe⟩
   .refine am ?_;unfold yu;simp only[au,iC,m1,az,aK,aw,ax,EV,aa,ac t1,bA,ad t2,mS]
   .refine am ?_;unfold yw;simp only[au,iC,m2,az,aK,aw,ax,EV,aa,ac t1,bA,ad t2,mS]
  obtain⟨a,e,he,hw⟩:=P9 (tag:=tag) (l:=m.pts) ht;have q1:=phi (c20 tag (l:=m.pts) ht);have q2:=phi (c21 tag (l:=m.pts) ht);rw[he] at q1 q2;by_cases h0:e=0
  .subst h0;refine⟨⟨a,Id m.pts m.now⟩,0,⟨?_,?_⟩,hw,Y3 a2 ht hr⟩
   .refine am ?_;unfold yu;simp only[au,iC,m1,az,aK,aw,ax,EV,aa,ac t1,bA,ac t2,ur,wx,q1,Aw,phi (adC a2 ht hr),nK,Y6,PS,PR];rfl
   .refine am ?_;unfold yw;simp only[au,iC,m2,az,aK,aw,ax,EV,aa,ac t1,bA,ac t2,ur,wx,q2,Aw,phi (adH a2 ht hr),nK,Y6,PS,PR];rfl
  .refine⟨zD,e,⟨?_,?_⟩,Fe⟩
   .refine am ?_;unfold yu;simp only[au,iC,m1,az,aK,aw,ax,EV,aa,ac t1,bA,ac t2,ur,wx,q1,Aw,h0,bb,aV,ay,mS]
   .refine am ?_;unfold yw;simp only[au,iC,m2,az,aK,aw,ax,EV,aa,ac t1,bA,ac t2,ur,wx,q2,Aw,h0,bb,aV,ay,mS]
def gB (d:Drv):Prop:=jI d.c/\ pi d.l/\ di (ed d.c).now=0/\ d.l.clock.now=(ed d.c).now/\ d.l.clock.pts=(ed d.c).pts
structure D64 (d:Drv):Prop where
 c:Cho64 d.c
 l:fu d.l.clock
open Classical in
def wy (d:Drv):Mod:=if gB d then⟨d.l.clock.now,d.l.clock.pts⟩ else zM
def n8':decide ((8:Int)=0)=false:=rfl
def e8':okE false=8:=rfl
def sB (p q:Rt):RF.ev (.eqv [.i,.i]) [R p,R q]=some (.bool (decide (p=q))):=AN p q
open Classical in
def adR {d:Drv}(h:D64 d)(hg:gD d=false):Ans D 16 [DV d] [MO (wy d),.i64 (okE (decide (gB d)))]:=by
 obtain⟨g1,g2⟩:=Y7 hg;have m1:=phi (c22 h.c g1);have m2:=phi (adB h.l g2);refine am ?_;unfold S3 wy;by_cases h1:jI d.c
 rotate_left
 .rw[ac (λq=>h1 q.1),ah (λq=>h1 q.1:¬gB d)];unfold yr at m1;rw[ac h1] at m1;simp only[au,fO,kC,m1,aY,aW,EV,n8',aV,ay,vo,e8']
 unfold yr at m1;rw[ad h1] at m1;have hp:=(vZ h1.2.1).2.1.1;by_cases h2:pi d.l
 rotate_left
 .rw[ac (λq=>h2 q.2.1),ah (λq=>h2 q.2.1:¬gB d)];rw[ah h2,e8'] at m2;simp only[au,fO,kC,m1,aY,aW,EV,az,aK,aw,ax,nL,m2,n8',aV,ay,vo,e8']
 rw[aq h2,qj] at m2;by_cases h3:di (ed d.c).now=0
 rotate_left
 .rw[ac (λq=>h3 q.2.2.1),ah (λq=>h3 q.2.2.1:¬gB d)];simp only[au,fO,kC,m1,aY,aW,EV,az,aK,aw,ax,nL,m2,phi (c44 (te h.c).1),h3,bb,aV,ay,vo,e8']
 by_cases h4:d.l.clock.now=(ed d.c).now
 rotate_left
 .rw[ac (λq=>h4 q.2.2.2.1),ah (λq=>h4 q.2.2.2.1:¬gB d)];simp only[au,fO,kC,m1,aY,aW,EV,az,aK,aw,ax,nL,m2,phi (c44 (te h.c).1),h3,ut,sB,h4,bb,aV,ay,vo,e8']
 have hl5:d.l.clock.pts.length<=1000:=by have:=h2.1.2.1.1;omega
 have m5:=phi (SG (l:=d.l.clock.pts) (k:=(ed d.c).pts) hl5);by_cases h5:d.l.clock.pts=(ed d.c).pts
 rotate_left
 .rw[ac (λq=>h5 q.2.2.2.2),ah (λq=>h5 q.2.2.2.2:¬gB d)];rw[ah h5] at m5;simp only[au,fO,kC,m1,aY,aW,EV,az,aK,aw,ax,nL,m2,phi (c44 (te h.c).1),h3,ut,sB,h4,Ok,bQ,m5,aV,ay,vo,e8']
 have hk:gB d:=⟨h1,h2,h3,h4,h5⟩;rw[aq h5] at m5;have s1:=bI (f:=row) (l:=(ed d.c).pts);rw[ad hk,aq hk];simp only[au,fO,kC,m1,aY,aW,EV,az,aK,aw,ax,nL,m2,phi (c44 (te h.c).1),h3,ut,sB,h4,Ok,bQ,m5,phi (d67 (l:=(ed d.c).pts) (by omega)),aj,s1,pR];rw[h5];rfl
open Classical in
def adS {d:Drv}(h:D64 d)(hg:gD d=false):Ans D 21 [DV d] [.i64 (okE (decide (gB d)))]:=by
 obtain⟨g1,g2⟩:=Y7 hg;have m1:=phi (c27 h.c g1);have m2:=phi (adQ h.l g2);have m3:=phi (c13 d.c);refine am ?_;unfold S5;by_cases h1:jI d.c
 rotate_left
 .rw[ah (λq=>h1 q.1:¬gB d)];rw[ah h1,e8'] at m1;simp only[au,fO,kC,m1,EV,n8',aV,ay,e8']
 rw[aq h1,qj] at m1;by_cases h2:pi d.l
 rotate_left
 .rw[ah (λq=>h2 q.2.1:¬gB d)];rw[ah h2,e8'] at m2;simp only[au,fO,kC,m1,EV,az,aK,aw,ax,nL,m2,n8',aV,ay,e8']
 rw[aq h2,qj] at m2;have hp:=(vZ h1.2.1).2.1.1;by_cases h4:d.l.clock.now=(ed d.c).now
 rotate_left
 .rw[ah (λq=>h4 q.2.2.2.1:¬gB d)];simp only[au,fO,kC,m1,EV,az,aK,aw,ax,nL,m2,m3,dq,eU,ut,sB,ah (λe=>h4 e.symm:¬(ed d.c).now=d.l.clock.now),aV,ay,e8']
 have m5:=phi (c28 (l:=(ed d.c).pts) (k:=d.l.clock.pts) (by omega));by_cases h5:d.l.clock.pts=(ed d.c).pts
 rotate_left
 .rw[ah (λq=>h5 q.2.2.2.2:¬gB d)];rw[ah (λe=>h5 e.symm)] at m5;simp only[au,fO,kC,m1,EV,az,aK,aw,ax,nL,m2,m3,dq,eU,ut,sB,h4,iu,Ie,m5,aV,ay,e8']
 rw[aq h5.symm] at m5;by_cases h3:di (ed d.c).now=0
 rotate_left
 .rw[ah (λq=>h3 q.2.2.1:¬gB d)];simp only[au,fO,kC,m1,EV,az,aK,aw,ax,nL,m2,m3,dq,eU,ut,sB,h4,iu,Ie,m5,phi (c64 (te h.c).1),h3,bb,aV,ay,e8']
 have hk:gB d:=⟨h1,h2,h3,h4,h5⟩;rw[aq hk,qj];simp only[au,fO,kC,m1,EV,az,aK,aw,ax,nL,m2,m3,dq,eU,ut,sB,h4,iu,Ie,m5,phi (c64 (te h.c).1),h3]
def adT {d:Drv}(h:d.l.clock.pts.length<=1000):Ans D 44 [DV d] [MO ⟨d.l.clock.now,d.l.clock.pts⟩]:=by
 have s1:=bI (f:=row) (l:=d.l.clock.pts);refine am ?_;unfold Tj;simp only[au,fO,ut,Ie,phi (MI (l:=d.l.clock.pts) h),aW,bQ,EV,aj,aY,pR,s1];rfl
open Classical in
def adU {d:Drv}(h:D64 d)(hg:gD d=false):Ans D 17 [DV d] [MO (wy d),.i64 (okE (decide (gB d)))]:=by
 have m:=phi (adS h hg);refine am ?_;unfold S4 wy;by_cases hk:gB d
 .rw[aq hk,qj] at m;rw[ad hk,aq hk,qj];have hl:=hk.2.1.1.2.1.1;simp only[au,fO,m,EV,az,aK,aw,ax,phi (adT (d:=d) (by omega)),iC]
 .rw[ah hk,e8'] at m;rw[ac hk,ah hk];simp only[au,fO,m,EV,n8',aV,ay,vo,e8']
open Classical in
def Om {d:Drv}(hg:gD d=false):(wy d).pts.length<=1000:=by
 unfold wy;split
 .rename_i hk;have:=hk.2.1.1.2.1.1;show d.l.clock.pts.length<=1000
  omega
 .show([]:List Pt).length<=1000
  simp
def SN (g:Int)(m:Mod):PV:= .agg (.v (.int .u8 g)::moC m)
section
variable (g:Int)(m:Mod)
def qr:RF.ev (.shape 4) [SN g m]=some (SN g m):=rfl
def pSN:RF.ev (.part 1 3) [SN g m]=some (MO m):=rfl
def cSN:RF.ev (.cell 0) [SN g m]=some (.v (.int .u8 g)):=rfl
def PT:RF.ev .agg [.v (.int .u8 g),MO m]=some (SN g m):=rfl
def Y8:RF.ev (.part 0 3) [MO m]=some (MO m):=rfl
end
def PU:RF.ev .agg [.v (.int .u8 0),.v (.int .i64 0),.v (.int .i64 0),.sl []]=some (SN 0 zM):=rfl
def Rj {d:Drv}(h:D64 d)(hg:gD d=false):∃(g:Int) (m:Mod) (e:Int),(Ans D 7 [DV d] [SN g m,.i64 e]/\ Ans D 8 [DV d] [SN g m,.i64 e])/\ m.pts.length<=1000:=by
 classical
 have m1:=phi (adR h hg);have m2:=phi (adU h hg);by_cases hk:gB d
 .rw[aq hk,qj] at m1 m2;refine⟨d.c.tag,wy d,0,⟨?_,?_⟩,Om hg⟩
  .refine am ?_;unfold MX;simp only[au,fO,m1,iC,az,aK,aw,ax,EV,Y5,Y8,PT]
  .refine am ?_;unfold MY;simp only[au,fO,m2,iC,az,aK,aw,ax,EV,Y5,Y8,PT]
 .rw[ah hk,e8'] at m1 m2;refine⟨0,zM,8,⟨?_,?_⟩,by decide⟩
  .refine am ?_;unfold MX;simp only[au,fO,m1,iC,n8',aV,ay,EV,PU]
  .refine am ?_;unfold MY;simp only[au,fO,m2,iC,n8',aV,ay,EV,PU]
def snE (g:Int)(m:Mod):Int:=if g<1 then 8 else if 4<g then 8 else okE (moOk m)
def adV {g:Int}{m:Mod}(ht:bg m.now):Ans D 28 [SN g m] [.i64 (snE g m)]:=by
 refine am ?_;unfold Ta snE;simp only[au,qr,cSN,pSN,phi (Y4 ht),EV,aa,bA];split
 .rfl
 split
 .rfl
 .rfl
def adW {g:Int}{m:Mod}(ht:bg m.now):Ans D 29 [SN g m] [.i64 (snE g m)]:=by
 refine am ?_;unfold Tb snE;simp only[au,qr,cSN,pSN,phi (Oi ht),EV,aa,bA];split
 .rfl
 split
 .rfl
 .cases moOk m<;>rfl
def If {g:Int}{m:Mod}(ht:bg m.now):∃(x:Drv) (e:Int),(Ans D 9 [SN g m] [DV x,.i64 e]/\ Ans D 10 [SN g m] [DV x,.i64 e])/\ DvW x:=by
 have m1:=phi (adV (g:=g) ht);have m2:=phi (adW (g:=g) ht);obtain⟨x,e,⟨n1,n2⟩,hx⟩:=Ol g ht;by_cases h:snE g m=0
 .rw[h] at m1 m2;refine⟨x,e,⟨?_,?_⟩,hx⟩
  .refine am ?_;unfold MZ;simp only[au,qr,m1,az,aK,aw,ax,EV,pSN,cSN,phi n1,fO]
  .refine am ?_;unfold M0;simp only[au,qr,m2,az,aK,aw,ax,EV,pSN,cSN,phi n2,fO]
 .refine⟨zD,snE g m,⟨?_,?_⟩,Fe⟩
  .refine am ?_;unfold MZ;simp only[au,qr,m1,h,bb,aV,ay,EV,mS]
  .refine am ?_;unfold M0;simp only[au,qr,m2,h,bb,aV,ay,EV,mS]
def adX {g:Int}{m:Mod}(h:m.pts.length<=1000):Ans D 11 [SN g m,SN g m] [.bool true]:=by
 refine am ?_;unfold S1;simp only[au,qr,cSN,EV,az,ay,pSN,phi (adM h),IE]
def Ig {d:Drv}{g:Int}{m:Mod}(h:D64 d)(hm:bg m.now):Ans D 3 [DV d,SN g m] [.bool true]:=by
 have q1:=phi (adN m hm);have q2:=phi (adO d);refine am ?_;unfold SX;cases hg:gD d with
 |true=>
  rw[hg] at q2;simp only[au,qr,fO,q2,EV,ay]
 |false=>
  rw[hg] at q2;cases b1:(gF m.pts||decide (12<m.pts.length)&& moOk m) with
  |true=>
   rw[b1] at q1;simp only[au,qr,fO,pSN,q1,q2,EV,aw,ax,ay]
  |false=>
   rw[b1] at q1;obtain⟨a,b,e,⟨n1,n2⟩,hx⟩:=Rj h hg;obtain⟨y,f,⟨u1,u2⟩,hy⟩:=If (g:=g) hm;simp only[au,qr,fO,pSN,q1,q2,EV,aw,ax,ay,phi n1,phi n2,phi u1,phi u2,phi (adX (g:=a) hx),phi (adP hy),az,ID]
end Go.Proofs.YtndgdhbpojakpaaGreat
