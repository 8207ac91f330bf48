import Derived.Test.YtoeigdpfcnaaeaaGreatM3
import Derived.Test.YtoeigdpfcnaaeaaGreatP1
import Derived.Test.YtoeigdpfcnaaeaaGreatBcT
import Derived.Test.YtoeigdpfcnaaeaaGreatN1
import Derived.IntWalk
set_option linter.unusedVariables false
set_option linter.unusedSimpArgs false
set_option linter.defProp false
noncomputable section
namespace Go.Sym
open Go.Sym
section
variable {Φ:PhT}{N:Nat}{b:K}{J:List JT}{e:List PV}
def gj {n:Nat}{st:Nat->List PV}{fin:Option (List PV)}(hs:∀i self,i<n->den Φ N b (J++[self]) (e++st i)=self (st (i+1)))
  (hf:∀self,den Φ N b (J++[self]) (e++st n)=fin):∀m,n<m->dW Φ N b J e m (st 0)=fin:=by
 have:∀d i m,i+d=n->d<m->dW Φ N b J e m (st i)=fin:=by
  intro d;induction d with
  |zero=>
   intro i m h hm;obtain⟨m,rfl⟩:∃m',m=m'+1:=⟨m-1,by omega⟩;rw[bC,show i=n by omega]
   exact hf _
  |succ d ih=>
   intro i m h hm;obtain⟨m,rfl⟩:∃m',m=m'+1:=⟨m-1,by omega⟩;rw[bC,hs i _ (by omega)]
   grind
 grind
def Va {n:Nat}{st:Nat->List PV}{P:Nat->Prop}{fin r:Option (List PV)}(hs:∀i self,i<n->(∀j,j<i->P j)->P i->den Φ N b (J++[self]) (e++st i)=self (st (i+1)))
  (hr:∀i self,i<n->(∀j,j<i->P j)->¬P i->den Φ N b (J++[self]) (e++st i)=r)
  (hf:(∀j,j<n->P j)->∀self,den Φ N b (J++[self]) (e++st n)=fin) {m:Nat} (hm:n<m):((∀j,j<n->P j)->dW Φ N b J e m (st 0)=fin)/\((¬∀j,j<n->P j)->dW Φ N b J e m (st 0)=r):=by
 have:∀d i m,i+d=n->d<m->(∀j,j<i->P j)->((∀j,j<n->P j)->dW Φ N b J e m (st i)=fin)/\((¬∀j,j<n->P j)->dW Φ N b J e m (st i)=r):=by
  intro d;induction d with
  |zero=>
   intro i m h hm hp;obtain⟨m,rfl⟩:∃m',m=m'+1:=⟨m-1,by omega⟩;have hin:i=n:=by omega
   subst hin;refine⟨λh=>?_,λh=>absurd hp h⟩;rw[bC];exact hf h _
  |succ d ih=>
   intro i m h hm hp;obtain⟨m,rfl⟩:∃m',m=m'+1:=⟨m-1,by omega⟩;rw[bC];by_cases hi:P i
   .grind
   .grind
 grind
open Classical in
def eV {n:Nat}{st:Nat->List PV}{P:Nat->Prop}{fin r:Option (List PV)}(hs:∀i self,i<n->(∀j,j<i->P j)->den Φ N b (J++[self]) (e++st i)=if P i then self (st (i+1)) else r)
  (hf:(∀j,j<n->P j)->∀self,den Φ N b (J++[self]) (e++st n)=fin) {m:Nat} (hm:n<m):dW Φ N b J e m (st 0)=if(∀j,j<n->P j) then fin else r:=by
 have:=Va (n:=n) (st:=st) (P:=P) (fin:=fin) (r:=r) (λi self h1 h2 h3=>by rw[hs i self h1 h2,ad h3]) (λi self h1 h2 h3=>by rw[hs i self h1 h2,ac h3]) hf hm
 grind
end
end Go.Sym
namespace Go.Proofs.YtoeigdpfcnaaeaaGreat
open Go.Sym Bnd
set_option maxRecDepth 100000
def U (n:Nat):PV:= .v (.int .u64 (n:Int))
def phi {g:FuncId}{vs rs:List PV}(h:Ans D g vs rs):bL D g vs=some rs:=acB h
def BP {n:Int}(h:I64 n):Ans D 166 [.i64 n] [U n.natAbs]:=by
 obtain⟨h1,h2⟩:=h;refine am ?_;unfold ZJ;simp[EV];by_cases hn:n<0
 .rw[ad hn,kT,kT]
  congr 4
  omega
 .rw[ac hn,kT]
  congr 4
  omega
def Ew {n:Int}(h:I64 n):Ans D 75 [.i64 n] [U n.natAbs]:=by
 obtain⟨h1,h2⟩:=h;refine am ?_;unfold Y2;simp[EV];by_cases hn:n<0
 .rw[ad hn,kT,kT,IntKind.wrap_i64,IntKind.wrap_i64]
  congr 4
  omega
 .rw[ac hn,kT]
  congr 4
  omega
def Ex {Φ:PhT}{N:Nat}{f:JT}{p q:PV}:∀(n a b:Nat),b<n->dW Φ N AS [f] [p,q] n [U b,U a]=f [U (Nat.gcd b a)]
 |0,a,b,h=>by omega
 |n+1,a,b,h=>by
  rw[bC];unfold AS U;simp[EV,Er];by_cases hb:0<b
  .rw[ad (by omega),ac (by omega)];simp[EV];have:=Ex (Φ:=Φ) (N:=N) (f:=f) (p:=p) (q:=q) n b (a% b) (by have:=wI a hb;omega);unfold AS U at this;rw[<-Nat.gcd_rec b a] at this;rw[<-this];rfl
  .rw[ac (by omega)];have:b=0:=by omega
   subst this;rw[Nat.gcd_zero_left]
def WJ (a b:Nat):Ans D 192 [U a,U b] [U (Nat.gcd b a)]:=by
 refine an ⟨b+1,?_⟩;unfold ZN;simp[EV];rw[Ex _ _ _ (gB b)];unfold OT U;simp[EV]
def yW {Φ:PhT}{N:Nat}{f:JT}{p q:PV}:∀(n a b:Nat),b<n->dW Φ N AF [f] [p,q] n [U b,U a]=f [U (Nat.gcd b a)]
 |0,a,b,h=>by omega
 |n+1,a,b,h=>by
  rw[bC];unfold AF U;simp only[EV,Er,aE,aj];by_cases hb:0<b
  .rw[ad (by omega),ac (by omega)];simp;have:=yW (Φ:=Φ) (N:=N) (f:=f) (p:=p) (q:=q) n b (a% b) (by have:=wI a hb;omega);unfold AF U at this;rw[<-Nat.gcd_rec b a] at this;rw[<-this];rfl
  .rw[ac (by omega)];have:b=0:=by omega
   subst this;rw[Nat.gcd_zero_left]
def WK (a b:Nat):Ans D 74 [U a,U b] [U (Nat.gcd b a)]:=by
 refine an ⟨b+1,?_⟩;unfold Y1;simp[EV];rw[yW _ _ _ (gB b)];unfold N4 U;simp[EV]
def okE (b:Bool):Int:=if b then 0 else 8
def JE {d:Int}(h:0<=d)(k:d<=9223372036854775807):PV.v (.int .u64 (IntKind.u64.wrap d))=U d.natAbs:=by
 rw[kT]
 congr 2
 omega
def c43 {r:Rt}(h:aQ r):Ans D 95 [R r] [.i64 (okE (rok r))]:=by
 obtain⟨⟨n1,n2⟩,d1,d2⟩:=h;refine am ?_;unfold k43 R;simp only[EV,aa,az,cj,Nat.reduceAdd,phi (BP ⟨n1,n2⟩)];by_cases hd:r.den<1
 .rw[ad hd];unfold rok;rw[ak (by omega)];rfl
 .rw[ac hd];by_cases hn:r.num= -9223372036854775808
  .rw[ad hn];unfold rok;rw[aq hn];simp[okE]
  .rw[ac hn,JE (by omega) d2,phi (WJ _ _)];simp only[EV,U,aa];have hg:0<Nat.gcd r.num.natAbs r.den.natAbs:=fZ _ (by omega);unfold rok;by_cases h1:(Nat.gcd r.num.natAbs r.den.natAbs)=1
   .rw[ac (by omega),aq h1,aq (show 1<=r.den by omega),ak hn]
    rfl
   .rw[ad (by omega),ak h1,uM];rfl
def Ey {r:Rt}(h:aQ r):Ans D 29 [R r] [.i64 (okE (rok r))]:=by
 obtain⟨⟨n1,n2⟩,d1,d2⟩:=h;refine am ?_;unfold Ym R;simp only[EV,aa,az,cj,Nat.reduceAdd,phi (Ew ⟨n1,n2⟩)];by_cases hd:r.den<1
 .rw[ad hd];unfold rok;rw[ak (by omega)];rfl
 .rw[ac hd];by_cases hn:r.num= -9223372036854775808
  .rw[ad hn];unfold rok;rw[aq hn];simp[okE]
  .rw[ac hn,JE (by omega) d2,phi (WK _ _)];simp only[EV,U,aE,aj];unfold rok;rw[yh];by_cases h1:(Nat.gcd r.num.natAbs r.den.natAbs)=1
   .rw[ac (by omega),aq h1,aq (show 1<=r.den by omega),ak hn]
    rfl
   .rw[ad (by omega),ak h1,uM];rfl
def KI (r:Rt):Bool:=decide (r.num.natAbs<=1073741824)&& decide (r.den<=1024)
def cO (r:Rt):Int:=if rok r then(if KI r then 0 else 2) else 8
def c44 {r:Rt}(h:aQ r):Ans D 72 [R r] [.i64 (cO r)]:=by
 refine am ?_;unfold k44;have h0:=phi (c43 h);unfold R at h0|-;simp[EV,h0,phi (BP h.1),U];unfold cO okE;cases rok r with
 |false=>rfl
 |true=>
  unfold KI
  grind
def c64 {r:Rt}(h:aQ r):Ans D 30 [R r] [.i64 (cO r)]:=by
 refine am ?_;unfold k64;have h0:=phi (Ey h);unfold R at h0|-;simp[EV,h0];unfold cO okE;cases rok r with
 |false=>rfl
 |true=>
  unfold KI
  grind
def PP (p:Pt):PV:= .agg (row p)
def aeY (p:Pt):Ans D 73 [PP p] [.i64 (okE p.ok)]:=by
 refine am ?_;unfold Y0 PP row;simp[EV];unfold Pt.ok okE IT
 grind
def WL (p:Pt):Ans D 213 [PP p] [.i64 (okE p.ok)]:=by
 refine am ?_;unfold ZS PP row;simp[EV,OX,OY];unfold Pt.ok okE IT
 grind
end Go.Proofs.YtoeigdpfcnaaeaaGreat
namespace Go.Sym
open Go.Sym
section
variable {Φ:PhT}{N:Nat}{b:K}{J:List JT}{e:List PV}{α β:Type}{l:List α}
def gD {i:Nat}{a:α}{k:List α}(h:l.drop i=a::k):l[i]?=some a/\ l.drop (i+1)=k:=by
 have hi:i<l.length:=by
  rcases sk i l.length with g|g
  .exact g
  .rw[tN g] at h;cases h
 rw[cY hi] at h
 grind
def lg {i:Nat}{k:List α}(h:l.drop i=k)(hi:i<=l.length):i+k.length=l.length:=by
 grind
def oI {p:α->Bool}{st:Nat->List PV}{ret:Nat->Option (List PV)}{fin:Option (List PV)}(hs:∀i a self,l[i]?=some a->den Φ N b (J++[self]) (e++st i)=if p a=true then ret i else self (st (i+1)))
  (hf:∀self,den Φ N b (J++[self]) (e++st l.length)=fin) {m:Nat} (hm:l.length<m):dW Φ N b J e m (st 0)=(l.findIdx? p).elim fin ret:=by
 have:∀(k:List α) i m,l.drop i=k->i<=l.length->k.length<m->dW Φ N b J e m (st i)=(k.findIdx? p).elim fin (λj=>ret (j+i)):=by
  intro k;induction k with
  |nil=>
   intro i m h hi hm;obtain⟨m,rfl⟩:∃m',m=m'+1:=⟨m-1,by omega⟩;have:=lg h hi;rw[bC,show i=l.length by simpa using this]
   exact hf _
  |cons a k ih=>
   intro i m h hi hm;obtain⟨m,rfl⟩:∃m',m=m'+1:=⟨m-1,by omega⟩;obtain⟨h1,h2⟩:=gD h;have:=lg h hi;rw[bC,hs i a _ h1,qa];simp only[aV] at hm this;cases hp:p a with
   |true=>simp
   |false=>
    rw[ih (i+1) m h2 (by omega) (by omega)];cases k.findIdx? p<;>simp[dG,oB 1 i]
 grind
def cz {p:α->Bool}{st:Nat->List PV}{fin r:Option (List PV)}(hs:∀i a self,l[i]?=some a->(l.take i).all p=true->den Φ N b (J++[self]) (e++st i)=if p a=true then self (st (i+1)) else r)
  (hf:l.all p=true->∀self,den Φ N b (J++[self]) (e++st l.length)=fin) {m:Nat} (hm:l.length<m):dW Φ N b J e m (st 0)=if l.all p=true then fin else r:=by
 have:∀(k:List α) i m,l.drop i=k->i<=l.length->k.length<m->(l.take i).all p=true->dW Φ N b J e m (st i)=if k.all p=true then fin else r:=by
  intro k;induction k with
  |nil=>
   intro i m h hi hm ht;obtain⟨m,rfl⟩:∃m',m=m'+1:=⟨m-1,by omega⟩;have:=lg h hi;have hil:i=l.length:=by simpa using this
   rw[hil,eH] at ht;rw[bC,hil];exact hf ht _
  |cons a k ih=>
   intro i m h hi hm ht;obtain⟨m,rfl⟩:∃m',m=m'+1:=⟨m-1,by omega⟩;obtain⟨h1,h2⟩:=gD h;have:=lg h hi;rw[bC,hs i a _ h1 ht,dF];simp only[aV] at hm this;cases hp:p a with
   |false=>simp
   |true=>
    simp only[az,gc];refine ih (i+1) m h2 (by omega) (by omega) ?_;rw[cC,h1,ou,ht];simp[hp]
 exact this l 0 m rfl (by omega) hm (by simp)
def jw {g:β->α->β}{I:Nat->β->Prop}{S:β->Nat->List PV}{fin:β->Option (List PV)}{x:β}(h0:I 0 x)(hi:∀i a acc,l[i]?=some a->I i acc->I (i+1) (g acc a))(hs:∀i a acc self,l[i]?=some a->I i acc->den Φ N b (J++[self]) (e++S acc i)=self (S (g acc a) (i+1)))
  (hf:∀acc self,I l.length acc->den Φ N b (J++[self]) (e++S acc l.length)=fin acc) {m:Nat} (hm:l.length<m):dW Φ N b J e m (S x 0)=fin (l.foldl g x)/\ I l.length (l.foldl g x):=by
 have:∀(k:List α) i m acc,l.drop i=k->i<=l.length->k.length<m->I i acc->dW Φ N b J e m (S acc i)=fin (k.foldl g acc)/\ I l.length (k.foldl g acc):=by
  intro k;induction k with
  |nil=>
   intro i m acc h hi' hm hI;obtain⟨m,rfl⟩:∃m',m=m'+1:=⟨m-1,by omega⟩;have:=lg h hi';have hil:i=l.length:=by simpa using this
   rw[hil] at hI;rw[bC,hil]
   grind
  |cons a k ih=>
   intro i m acc h hi' hm hI;obtain⟨m,rfl⟩:∃m',m=m'+1:=⟨m-1,by omega⟩;obtain⟨h1,h2⟩:=gD h;have:=lg h hi';simp only[aV] at hm this;rw[bC,hs i a acc _ h1 hI,c6];exact ih (i+1) m _ h2 (by omega) (by omega) (hi i a acc h1 hI)
 exact this l 0 m x rfl (by omega) hm h0
end
section
variable {α:Type}{f:α->List PV}{l:List α}
def aX {i z:Nat}{a:α}(h:l[i]?=some a)(hz:(f a).length=z):RF.ev (.tix z) [.sl (l.map f),.v (.int .i64 (i:Int))]=some (.i64 (i:Int)):=by
 rw[aeu,ad (by omega),aF,a8,h]
 grind
def aM {i o n:Nat}{a:α}(h:l[i]?=some a):RF.ev (.elt o n) [.sl (l.map f),.v (.int .i64 (i:Int))]=cF o n (f a):=by
 rw[aes,ad (by omega),aF,a8,h];rfl
def up1 {i:Nat}(h:i<1000000000):IntKind.i64.wrap ((i:Int)+1)=((i+1:Nat):Int):=by rw[cI (by omega) (by omega)];rfl
def uU {i:Nat}(h:i<1000000000):IntKind.i64.wrap (((i+1:Nat):Int)-1)=(i:Int):=by rw[cI (by omega) (by omega)];omega
def aL {i:Nat}{a:α}(h:l[i]?=some a):i<l.length:=(aD.1 h).1
def bi {i n:Nat}{γ:Type}{x y:γ}(h:i<n):(if(i:Int)<(n:Int) then x else y)=x:=ad (by omega)
def bP {n:Nat}{γ:Type}{x y:γ}:(if(n:Int)<(n:Int) then x else y)=y:=ac (by omega)
def cp:RF.ev .sub [.sl (l.map f),.v (.int .i64 0),.v (.int .i64 (l.length:Int))]=some (.sl (l.map f)):=by
 rw[wa,ad ⟨by omega,by omega,by rw[ai];omega⟩,aF];simp;rw[bk (by simp)]
def gn {bytes z:Nat}{k:List α}(h:(l.length+k.length)*bytes<=140737488355328)(hz:∀a,(f a).length=z):RF.ev (.app bytes z) [.sl (l.map f),.v (.int .i64 (l.length:Int)),.sl (k.map f)]=some (.sl ((l++k).map f)):=by
 rw[aet,ad]
 .rw[aF,bk (by simp)];simp
 .rw[ai,ai,aF];refine⟨by omega,by omega,h,?_⟩;cases k with
  |nil=>rfl
  |cons a k=>simp[ec,hz]
end
def qd {α:Type}(p:α->Bool)(l:List α):Int:=(l.findIdx? p).elim (-1) λi=>(i:Int)
def Jr {α:Type}{p:α->Bool}{l:List α}:0<=qd p l↔l.any p=true:=by
 unfold qd;cases h:l.findIdx? p with
 |none=>
  grind
 |some i=>
  obtain⟨h1,h2,_⟩:=bU.1 h
  grind
def zk {α:Type}{p:α->Bool}{l:List α}:decide (0<=qd p l)=l.any p:=by
 rw[eu,aa];exact Jr
end Go.Sym
namespace Go.Proofs.YtoeigdpfcnaaeaaGreat
open Go.Sym Bnd
set_option maxRecDepth 100000
def sgn (n:Int):Int:=if n<0 then-1 else if 0<n then 1 else 0
def uw {n:Int}{m:Nat}(h:n% 18446744073709551616=(m:Int)):PV.v (.int .u64 (IntKind.u64.wrap n))=U m:=by rw[kT,h];rfl
def wu {n:Nat}(h:n<18446744073709551616):IntKind.u64.wrap (n:Int)=(n:Int):=by rw[kT];omega
def ac4 (n:Nat):dq .shr .u64 (n:Int) .u64 32=some (.v (.int .u64 ((n/4294967296:Nat):Int))):=by
 rw[MV,ac (by decide),show min (32:Int).toNat IntKind.u64.bits=32 from rfl,ii _ (by decide)]
 rfl
def KJ {n:Nat}(h:n<18446744073709551616):dq .and .u64 (n:Int) .u64 4294967295=some (.v (.int .u64 ((n% 4294967296:Nat):Int))):=by
 show some (PV.v (.int .u64 (IntKind.u64.wrap (((BitVec.ofInt 64 (n:Int)&&& BitVec.ofInt 64 4294967295).toNat:Nat):Int))))=_
 rw[JC h,wu (by omega)]
def uV {a b:Nat}(h:a+b<18446744073709551616):dq .add .u64 (a:Int) .u64 (b:Int)=some (.v (.int .u64 ((a+b:Nat):Int))):=by
 rw[UY,<-Int.natCast_add,wu h]
def uW {a b:Nat}(h:a*b<18446744073709551616):dq .mul .u64 (a:Int) .u64 (b:Int)=some (.v (.int .u64 ((a*b:Nat):Int))):=by
 rw[UZ,<-oq,wu h]
def Q7 {x y:Nat}(hx:x<18446744073709551616)(hy:y<18446744073709551616):Ans D 360 [U x,U y] [U (x*y/18446744073709551616),U (x*y% 18446744073709551616)]:=by
 refine am ?_;have b0:=pQ (a:=x% 4294967296) (b:=y% 4294967296) (by omega) (by omega);have b1:=pQ (a:=x/4294967296) (b:=y% 4294967296) (by omega) (by omega);have b2:=pQ (a:=x% 4294967296) (b:=y/4294967296) (by omega) (by omega);have b3:=pQ (a:=x/4294967296) (b:=y/4294967296) (by omega) (by omega);have hh:=acO hx hy;have hl:x*y/18446744073709551616<18446744073709551616:=by
  grind
 have s1:(x/4294967296)*(y/4294967296)+((x/4294967296)*(y% 4294967296)+(x% 4294967296)*(y% 4294967296)/4294967296)/4294967296<18446744073709551616:=by omega
 unfold abs U;simp only[EV,KJ hx,KJ hy,ac4,mb,uW (show x% 4294967296*(y% 4294967296)<18446744073709551616 by omega),uW (show x/4294967296*(y% 4294967296)<18446744073709551616 by omega),
  uW (show x% 4294967296*(y/4294967296)<18446744073709551616 by omega),uW (show x/4294967296*(y/4294967296)<18446744073709551616 by omega),
  uV (show x/4294967296*(y% 4294967296)+x% 4294967296*(y% 4294967296)/4294967296<18446744073709551616 by omega),
  KJ (show x/4294967296*(y% 4294967296)+x% 4294967296*(y% 4294967296)/4294967296<18446744073709551616 by omega),
  uV (show(x/4294967296*(y% 4294967296)+x% 4294967296*(y% 4294967296)/4294967296)% 4294967296+x% 4294967296*(y/4294967296)<18446744073709551616 by omega),
  uV s1,uV (show _<18446744073709551616 from hh▸hl)]
 rw[hh,<-oq,kT];rfl
def W (neg:Bool)(m:Nat):PV:= .agg [.bool neg,U (m/18446744073709551616),U (m% 18446744073709551616)]
def tP {a:Int}(h:I64 a):a.natAbs<=9223372036854775808:=by obtain⟨h1,h2⟩:=h;omega
def Nc {a b:Int}(h:I64 a)(k:I64 b):a.natAbs*b.natAbs<=85070591730234615865843651857942052864:=ee (tP h) (tP k)
def WM {a b:Int}(h:I64 a)(k:I64 b):Ans D 281 [.i64 a,.i64 b] [W (decide (a<0) !=decide (b<0)) (a.natAbs*b.natAbs)]:=by
 refine am ?_;have h1:=tP h;have h2:=tP k;unfold aaD;simp[EV,phi (BP h),phi (BP k),phi (Q7 (show a.natAbs<18446744073709551616 by omega) (show b.natAbs<18446744073709551616 by omega))]
 rfl
def aeZ (a:Int):Ans D 362 [.i64 a] [.bool false]:=by
 refine am ?_;unfold abt;simp[EV]
def ae0 (a:Int):Ans D 310 [.i64 a] [.bool false]:=by
 refine am ?_;unfold aaL;simp[EV]
def lh (a b:Int):sgn (a-b)=if a<b then-1 else if b<a then 1 else 0:=by
 unfold sgn
 grind
def WN (a b:Int):Ans D 279 [.i64 a,.i64 b] [.i64 (sgn (a-b))]:=by
 refine am ?_;unfold aaB;simp[EV,phi (aeZ _),lh]
 grind
def uX (a b:Int):Ans D 220 [.i64 a,.i64 b] [.i64 (sgn (a-b))]:=by
 refine am ?_;unfold ZV;simp[EV,phi (ae0 _),lh]
 grind
def ae1 (a:Nat):Ans D 421 [U a] [.bool false]:=by
 refine am ?_;unfold abV U;simp[EV]
def ae2 (a b:Nat):Ans D 363 [U a,U b] [.i64 (sgn ((a:Int)-b))]:=by
 have h:=λa=>phi (ae1 a);refine am ?_;unfold abu;unfold U at h|-;simp[EV,h,lh]
 grind
def ae3 {n k:Bool}(a b:Nat):Ans D 280 [W n a,W k b] [.i64 (sgn ((a:Int)-b))]:=by
 refine am ?_;unfold aaC W;simp[EV,phi (ae2 _ _),lh]
 grind
def JF (a b:Bool):max (okE a) (okE b)=okE (a&& b):=by cases a<;>cases b<;>rfl
def mm2 (a b:Int):RF.ev (.mm true) [.i64 a,.i64 b]=some (.i64 (max a b)):=rfl
def bm (r:Rt):RF.ev (.shape 2) [R r]=some (R r):=rfl
def nL (r:Rt):RF.ev (.cell 0) [R r]=some (.i64 r.num):=rfl
def nM (r:Rt):RF.ev (.cell 1) [R r]=some (.i64 r.den):=rfl
def ae4 {r s:Rt}(h:aQ r)(k:aQ s):Ans D 278 [R r,R s] [.i64 (okE (rok r&& rok s))]:=by
 refine am ?_;unfold aaA;simp[bm,EV,phi (c43 h),phi (c43 k),mm2,JF]
def pC {b:Bool}{α:Type}{x y:α}:(if(!decide (okE b=0))=true then x else y)=if b=true then y else x:=by cases b<;>rfl
def eJ {r:Rt}(h:rok r=true):1<=r.den:=by
 unfold rok at h
 grind
def kQ (a b:Int):((a.natAbs*b.natAbs:Nat):Int)=if 0<=a*b then a*b else-(a*b):=by
 rw[<-pd];split<;>omega
def Vb (n:Int):sgn (-n)= -sgn n:=by unfold sgn;repeat' split;all_goals omega
def Vc (n:Int): -1<=sgn n/\ sgn n<=1:=by unfold sgn;repeat' split;all_goals omega
def qe {r s:Rt}(h:aQ r)(k:aQ s):Ans D 193 [R r,R s] (if(rok r&& rok s)=true then [.i64 (sgn (crs r s)),.i64 0] else [.i64 0,.i64 8]):=by
 refine am ?_;unfold ZO;simp only[ay,bm,nL,nM,EV,phi (ae4 h k),pC,phi (WN _ _),phi (WM h.1 k.2),phi (WM k.1 h.2),phi (ae3 _ _)];cases hok:rok r&& rok s with
 |false=>rfl
 |true=>
  simp only[aH] at hok;have d1:=eJ hok.1;have d2:=eJ hok.2;simp only[az,OU,EV];have p1:(0<=r.num*s.den)↔0<=r.num:=by
   constructor
   .intro h;rcases Int.lt_or_le r.num 0 with g|g
    .have:=iz g (show 0<s.den by omega);omega
    .exact g
   .intro h;exact uP h (by omega)
  have p2:(0<=s.num*r.den)↔0<=s.num:=by
   constructor
   .intro h;rcases Int.lt_or_le s.num 0 with g|g
    .have:=iz g (show 0<r.den by omega);omega
    .exact g
   .intro h;exact uP h (by omega)
  by_cases h1:r.num<0<;>by_cases h2:s.num<0
  .rw[aq h1,aq h2];simp only[bne_self_eq_false,aw,ax,az];rw[kQ,kQ,ac (show¬0<=r.num*s.den by omega),ac (show¬0<=s.num*r.den by omega)]
   unfold crs;rw[show-(r.num*s.den)- -(s.num*r.den)= -(r.num*s.den-s.num*r.den) by omega,Vb]
   have:=Vc (r.num*s.den-s.num*r.den);rw[show(0:Int)- -sgn (r.num*s.den-s.num*r.den)=sgn (r.num*s.den-s.num*r.den) by omega,cI (by omega) (by omega)]
   rfl
  .rw[aq h1,ak h2];have e1:sgn (r.num-s.num)= -1:=by unfold sgn;rw[ad (by omega)]
   have e2:sgn (crs r s)= -1:=by unfold sgn crs;rw[ad (by omega)]
   rw[e1,e2];rfl
  .rw[ak h1,aq h2];have e1:sgn (r.num-s.num)=1:=by unfold sgn;rw[ac (by omega),ad (by omega)]
   have e2:sgn (crs r s)=1:=by unfold sgn crs;rw[ac (by omega),ad (by omega)]
   rw[e1,e2];rfl
  .rw[ak h1,ak h2];simp only[bne_self_eq_false,aw,ax];rw[kQ,kQ,ad (show 0<=r.num*s.den by omega),ad (show 0<=s.num*r.den by omega)]
   rfl
def ae5 {x y:Nat}(hx:x<18446744073709551616)(hy:y<18446744073709551616):Ans D 212 [U x,U y] [W false (x*y)]:=by
 refine am ?_;have b0:=pQ (a:=x% 4294967296) (b:=y% 4294967296) (by omega) (by omega);have b1:=pQ (a:=x/4294967296) (b:=y% 4294967296) (by omega) (by omega);have b2:=pQ (a:=x% 4294967296) (b:=y/4294967296) (by omega) (by omega);have b3:=pQ (a:=x/4294967296) (b:=y/4294967296) (by omega) (by omega);have sp:=DE (x:=x) (y:=y);have q32:∀n:Nat,n<18446744073709551616->dq .quo .u64 (n:Int) .u64 4294967296=some (.v (.int .u64 ((n/4294967296:Nat):Int))):=λn h=>by
  rw[Ep,ac (by decide),kr (by omega),kT]
  congr 3
  omega
 have r32:∀n:Nat,dq .rem .u64 (n:Int) .u64 4294967296=some (.v (.int .u64 ((n% 4294967296:Nat):Int))):=λn=>by
  rw[Er,ac (by decide),Int.tmod_eq_emod_of_nonneg (by omega)];rfl
 generalize hA:x/4294967296*(y/4294967296)=A at*;generalize hB:x/4294967296*(y% 4294967296)=B at*;generalize hC:x% 4294967296*(y/4294967296)=C at*;generalize hE:x% 4294967296*(y% 4294967296)=E at*;have m32:dq .mul .u64 (((C+(B+E/4294967296)% 4294967296)% 4294967296:Nat):Int) .u64 4294967296=some (.v (.int .u64 (((C+(B+E/4294967296)% 4294967296)% 4294967296*4294967296:Nat):Int))):=uW (b:=4294967296) (by omega);have mA:dq .mul .u64 ((x/4294967296:Nat):Int) .u64 ((y/4294967296:Nat):Int)=some (.v (.int .u64 (A:Int))):=by rw[uW (by omega),hA]
 have mB:dq .mul .u64 ((x/4294967296:Nat):Int) .u64 ((y% 4294967296:Nat):Int)=some (.v (.int .u64 (B:Int))):=by rw[uW (by omega),hB]
 have mC:dq .mul .u64 ((x% 4294967296:Nat):Int) .u64 ((y/4294967296:Nat):Int)=some (.v (.int .u64 (C:Int))):=by rw[uW (by omega),hC]
 have mE:dq .mul .u64 ((x% 4294967296:Nat):Int) .u64 ((y% 4294967296:Nat):Int)=some (.v (.int .u64 (E:Int))):=by rw[uW (by omega),hE]
 unfold ZR U;simp only[mb,EV,q32 x hx,q32 y hy,r32,mA,mB,mC,mE,q32 E (by omega),uV (show B+E/4294967296<18446744073709551616 by omega),uV (show C+(B+E/4294967296)% 4294967296<18446744073709551616 by omega),
  q32 (B+E/4294967296) (by omega),q32 (C+(B+E/4294967296)% 4294967296) (by omega),uV (show A+(B+E/4294967296)/4294967296<18446744073709551616 by omega),
  uV (show A+(B+E/4294967296)/4294967296+(C+(B+E/4294967296)% 4294967296)/4294967296<18446744073709551616 by omega),m32,uV (show(C+(B+E/4294967296)% 4294967296)% 4294967296*4294967296+E% 4294967296<18446744073709551616 by omega)]
 unfold W U;rw[show x*y/18446744073709551616=A+(B+E/4294967296)/4294967296+(C+(B+E/4294967296)% 4294967296)/4294967296 by omega,show x*y% 18446744073709551616=(C+(B+E/4294967296)% 4294967296)% 4294967296*4294967296+E% 4294967296 by omega]
 rfl
def BQ (a b:Int):Bool:=(decide (a<0) !=decide (b<0))&&(!decide (a=0)&& !decide (b=0))
def pD (n:Bool)(m:Nat):RF.ev (.shape 3) [W n m]=some (W n m):=rfl
def wQ (n:Bool)(m:Nat):RF.ev (.cell 0) [W n m]=some (.bool n):=rfl
def rd (n:Bool)(m:Nat):RF.ev (.cell 1) [W n m]=some (.v (.int .u64 ((m/18446744073709551616:Nat):Int))):=rfl
def rf (n:Bool)(m:Nat):RF.ev (.cell 2) [W n m]=some (.v (.int .u64 ((m% 18446744073709551616:Nat):Int))):=rfl
def WO (n:Bool)(m:Nat):RF.ev (.part 0 3) [W n m]=some (W n m):=rfl
def Ac (n:Bool)(m:Nat):RF.ev (.part 1 2) [W n m]=some (.agg [U (m/18446744073709551616),U (m% 18446744073709551616)]):=rfl
def Ez (n:Bool)(m:Nat):RF.ev .agg [.bool n,.agg [U (m/18446744073709551616),U (m% 18446744073709551616)]]=some (W n m):=rfl
def DU (n:Bool)(m:Nat):RF.ev .flat [W n m]=some (W n m):=rfl
def KK {a b:Int}(h:I64 a)(k:I64 b):Ans D 111 [.i64 a,.i64 b] [W (BQ a b) (a.natAbs*b.natAbs)]:=by
 refine am ?_;have h1:=tP h;have h2:=tP k;unfold Y3;simp[pD,Ac,Ez,EV,phi (Ew h),phi (Ew k),phi (ae5 (show a.natAbs<18446744073709551616 by omega) (show b.natAbs<18446744073709551616 by omega)),N5]
 unfold BQ
 grind
def qf (n:Bool)(m:Nat):Int:=if n then-(m:Int) else m
def rh (a b:Int):qf (BQ a b) (a.natAbs*b.natAbs)=a*b:=by
 unfold qf BQ
 grind
def WP (n:Bool)(m:Nat):Ans D 112 [W n m] [.i64 (sgn (qf n m))]:=by
 refine am ?_;unfold Y4;simp[pD,rd,rf,EV];have fin:∀(e:Bool) (v:PV),(e=true↔m=0)->den (bL D) 1 FH [] [v,W n m,.bool e]=some [.i64 (sgn (qf n m))]:=λe v he=>by
  unfold FH qf;simp[wQ,EV];cases e with
  |true=>have:=he.1 rfl;subst this;cases n<;>rfl
  |false=>
   unfold sgn
   grind
 grind
def Q8 {n k:Bool}(a b:Nat):Ans D 113 [W n a,W k b] [.i64 (sgn ((a:Int)-b))]:=by
 refine am ?_;unfold Y5;simp[pD,rd,rf,EV,lh]
 grind
def WQ {r s:Rt}(h:aQ r)(k:aQ s):Ans D 46 [R r,R s] [.i64 (sgn (crs r s))]:=by
 refine am ?_;unfold Yr;simp only[bm,nL,nM,pD,WO,EV,phi (KK h.1 k.2),phi (KK k.1 h.2),phi (WP _ _),phi (Q8 _ _),rh,aa,aE,aj];have e1:=rh r.num s.den;have e2:=rh s.num r.den;unfold qf at e1 e2;unfold crs;generalize r.num*s.den=x at*;generalize s.num*r.den=y at*;generalize r.num.natAbs*s.den.natAbs=a at*;have hx:sgn x=if x<0 then-1 else if 0<x then 1 else 0:=rfl
 have hy:sgn y=if y<0 then-1 else if 0<y then 1 else 0:=rfl
 by_cases hne:sgn x=sgn y
 .grind
 .rw[ad hne];rw[lh x y]
  grind
def add64 (x y:Nat):RF.ev .add64 [U x,U y,U 0]=some (.agg [U ((x+y)% 18446744073709551616),U ((x+y)/18446744073709551616)]):=rfl
def WS {x t:Int}(h:(x-t)% 18446744073709551616=0)(ht:I64 t):IntKind.i64.wrap x=t:=by
 obtain⟨h1,h2⟩:=ht;simp only[IntKind.wrap,IntKind.bits,IntKind.signed];simp;split<;>omega
def wr (x:Int):∃k:Int,IntKind.i64.wrap x=x+18446744073709551616*k:=by
 simp only[IntKind.wrap,IntKind.bits];simp;split
 .exact⟨-(x/18446744073709551616)-1,by omega⟩
 .exact⟨-(x/18446744073709551616),by omega⟩
def KL {x y:Int}(h:(x-y)% 18446744073709551616=0):IntKind.i64.wrap x=IntKind.i64.wrap y:=by
 simp only[IntKind.wrap,IntKind.bits];simp;rw[show x% 18446744073709551616=y% 18446744073709551616 by omega]
def wrA (x y:Int):IntKind.i64.wrap (IntKind.i64.wrap x+y)=IntKind.i64.wrap (x+y):=by obtain⟨k,h⟩:=wr x;rw[h];exact KL (by omega)
def wrB (x y:Int):IntKind.i64.wrap (y+IntKind.i64.wrap x)=IntKind.i64.wrap (y+x):=by obtain⟨k,h⟩:=wr x;rw[h];exact KL (by omega)
def wrC (x y:Int):IntKind.i64.wrap (IntKind.i64.wrap x-y)=IntKind.i64.wrap (x-y):=by obtain⟨k,h⟩:=wr x;rw[h];exact KL (by omega)
def KM (k:IntKind)(n:Nat):RF.ev (.conv k) [U n]=some (.v (.int k (k.wrap n))):=rfl
abbrev oA2:RF:= .bin .add
def hiL (v:Int):PV:= .i64 (v/18446744073709551616)
def loL (v:Int):PV:= .v (.int .u64 (v% 18446744073709551616))
def Mid (v:Int):Prop:= -154742504910672534362390528<=v/\ v<=154742504910672534362390528
def Vd {a b p:Int}(ha:I64 a)(hb:I64 b)(hp:a*b=p):∃x y:Nat,(a% 18446744073709551616=(x:Int)/\ x<18446744073709551616)/\(b% 18446744073709551616=(y:Int)/\ y<18446744073709551616)/\
  ((x*y:Nat):Int)=p+18446744073709551616*((if a<0 then b else 0)+(if b<0 then a else 0))+340282366920938463463374607431768211456*(if a<0/\ b<0 then 1 else 0):=by
 obtain⟨a1,a2⟩:=ha;obtain⟨b1,b2⟩:=hb;have e1:(((a% 18446744073709551616).toNat:Nat):Int)=if a<0 then a+18446744073709551616 else a:=by split<;>omega
 have e2:(((b% 18446744073709551616).toNat:Nat):Int)=if b<0 then b+18446744073709551616 else b:=by split<;>omega
 grind
def EA {Φ':PhT}{N:Nat}{f self:JT}{e0 w:PV}{a b v:Int}{i:Nat}(hΦ:Φ'=bL D)(hw:RF.ev (.aix 2 2 2) [w,.i64 (i:Int)]=some (.agg [.i64 a,.i64 b]))(hi:i<2)(ha:I64 a)(hb:I64 b)(hm:Mid (a*b))(hv:Mid v):
  den Φ' N HA [f,self] [e0,w,hiL v,loL v,.i64 (i:Int)]=self [hiL (v+a*b),loL (v+a*b),.i64 ((i+1:Nat):Int)]:=by
 subst hΦ;obtain⟨m1,m2⟩:=hm;obtain⟨v1,v2⟩:=hv;generalize hp:a*b=p at*;obtain⟨x,y,⟨x1,x2⟩,⟨y1,y2⟩,hxy⟩:=Vd ha hb hp;have ha':=ha;have hb':=hb;obtain⟨a1,a2⟩:=ha;obtain⟨b1,b2⟩:=hb;have bd:x*y<=18446744073709551615*18446744073709551615:=ee (by omega) (by omega);have u1:PV.v (.int .u64 (IntKind.u64.wrap a))=U x:=uw x1;have u2:PV.v (.int .u64 (IntKind.u64.wrap b))=U y:=uw y1;have q1:=phi (Q7 x2 y2);have lo0:loL v=U (v% 18446744073709551616).toNat:=by unfold loL U;congr 2;omega
 have q2:=add64 (v% 18446744073709551616).toNat (x*y% 18446744073709551616);rw[<-lo0] at q2;have w1:IntKind.i64.wrap ((i:Int)+1)=((i+1:Nat):Int):=up1 (by omega);unfold HA;simp only[ay,hw,EV,aa,u1,u2,q1,ad (show(i:Int)<2 by omega),KM,PO]
 have lo2:U (((v% 18446744073709551616).toNat+x*y% 18446744073709551616)% 18446744073709551616)=loL (v+p):=by
  unfold loL U
  congr 2
  grind
 rw[lo2] at q2;have q3:∀h:Int,RF.ev oA2 [hiL v,.v (.int .i64 h)]=some (.i64 (IntKind.i64.wrap (v/18446744073709551616+h))):=λh=>rfl;have U0:PV.v (.int .u64 0)=U 0:=rfl;by_cases a0:a<0<;>by_cases b0:b<0<;>simp only[a0,b0,az,ax,ay,q3,EV,aA,aY,aw,PN,U0,q2,KM,wrA,wrB,wrC,w1,fJ,iR,jv,gS,kj] at hxy|-
 all_goals
  rw[WS (t:=(v+p)/18446744073709551616) (by omega) ⟨by omega,by omega⟩];rfl
def ae6 {a b c d:Int}(ha:I64 a)(hb:I64 b)(hc:I64 c)(hd:I64 d)(h1:Mid (a*b))(h2:Mid (c*d)):Ans D 395 [.agg [.i64 a,.i64 b,.i64 c,.i64 d]] [.agg [hiL (a*b+c*d),loL (a*b+c*d)]]:=by
 refine an ⟨3,?_⟩;unfold abO;have s0:=λself=>EA (N:=3) (f:=oZ (bL D) 3 Hz [] [.agg [.i64 a,.i64 b,.i64 c,.i64 d],.agg [.i64 a,.i64 b,.i64 c,.i64 d]]) (self:=self) (e0:= .agg [.i64 a,.i64 b,.i64 c,.i64 d]) (w:= .agg [.i64 a,.i64 b,.i64 c,.i64 d]) (i:=0) (v:=0) rfl rfl (by decide) ha hb h1 ⟨by decide,by decide⟩;have s1:=λself=>EA (N:=3) (f:=oZ (bL D) 3 Hz [] [.agg [.i64 a,.i64 b,.i64 c,.i64 d],.agg [.i64 a,.i64 b,.i64 c,.i64 d]]) (self:=self) (e0:= .agg [.i64 a,.i64 b,.i64 c,.i64 d]) (w:= .agg [.i64 a,.i64 b,.i64 c,.i64 d]) (i:=1) (v:=a*b) rfl rfl (by decide) hc hd h2 h1;rw[Int.zero_add] at s0;have z1:PV.i64 0=hiL 0:=rfl;have z2:PV.v (.int .u64 0)=loL 0:=rfl;have z3:PV.i64 0= .i64 ((0:Nat):Int):=rfl;refine(s0 _).trans ?_;simp only[bC,IJ,MW,Qw,U2];refine(s1 _).trans ?_;simp only[bC,EV];rfl
def Pt.bnd {p:Pt}(h:p.ok=true):(0<=p.id/\ p.id<=65535)/\(-1048576<=p.a/\ p.a<=1048576)/\(-1048576<=p.b/\ p.b<=1048576):=by
 unfold Pt.ok IT at h
 grind
def JG {a b:Int}(h: -2097152<=a/\ a<=2097152)(k:I64 b):Mid (a*b):=by
 obtain⟨k1,k2⟩:=k;have e:=pd a b;have:a.natAbs*b.natAbs<=2097152*9223372036854775808:=ee (by omega) (by omega);constructor<;>omega
def WT (v:Int):(v/18446744073709551616<0)↔v<0:=by omega
def orr (a b:Int):Ans D 219 [.sl [[.i64 a],[.i64 b]]] [.i64 (if a=0 then b else a)]:=by
 refine an ⟨3,?_⟩;unfold RX;have w0:IntKind.i64.wrap (0+1)=1:=by decide
 have w1:IntKind.i64.wrap (1+1)=2:=by decide
 have e0:RF.ev (.tix 1) [.sl [[.i64 a],[.i64 b]],.v (.int .i64 0)]=some (.i64 0):=rfl;have e1:RF.ev (.tix 1) [.sl [[.i64 a],[.i64 b]],.v (.int .i64 1)]=some (.i64 1):=rfl;have g0:RF.ev (.elt 0 0) [.sl [[.i64 a],[.i64 b]],.v (.int .i64 0)]=some (.i64 a):=rfl;have g1:RF.ev (.elt 0 0) [.sl [[.i64 a],[.i64 b]],.v (.int .i64 1)]=some (.i64 b):=rfl;have h2:([[PV.i64 a],[PV.i64 b]].length:Int)=2:=rfl;simp only[EV,bC,Gy,Gz,e0,e1,g0,g1,w0]
 grind
def KN (t:Rt)(p q:Pt):Int:=if far t p q=0 then(if sgn (p.b-q.b)=0 then sgn (q.id-p.id) else sgn (p.b-q.b)) else sgn (far t p q)
def EB {t:Rt}{p q:Pt}:decide (0<KN t p q)=leads t p q:=by
 rw[eu,aa,leads_iff];unfold KN sgn
 grind
def km (p:Pt):RF.ev (.shape 3) [PP p]=some (PP p):=rfl
def gI (p:Pt):RF.ev (.cell 0) [PP p]=some (.i64 p.id):=rfl
def tQ (p:Pt):RF.ev (.cell 1) [PP p]=some (.i64 p.a):=rfl
def mI (p:Pt):RF.ev (.cell 2) [PP p]=some (.i64 p.b):=rfl
def Ve {t:Rt}{p q:Pt}(hp:p.ok=true)(hq:q.ok=true)(ht:aQ t):Mid ((p.a-q.a)*t.den)/\ Mid ((p.b-q.b)*t.num):=by
 have:=Pt.bnd hp;have:=Pt.bnd hq;exact⟨JG ⟨by omega,by omega⟩ ht.2,JG ⟨by omega,by omega⟩ ht.1⟩
def wR {a b:Int}(ha: -1048576<=a/\ a<=1048576)(hb: -1048576<=b/\ b<=1048576):I64 (a-b)/\ IntKind.i64.wrap (a-b)=a-b:=⟨⟨by omega,by omega⟩,cI (by omega) (by omega)⟩
def WU {p q:Pt}{t:Rt}(hp:p.ok=true)(hq:q.ok=true)(ht:aQ t):Ans D 328 [PP p,PP q,R t] [.i64 (KN t p q)]:=by
 have bp:=Pt.bnd hp;have bq:=Pt.bnd hq;obtain⟨f1,f2⟩:=Ve hp hq ht;obtain⟨i1,i2⟩:=wR bp.2.1 bq.2.1;obtain⟨i3,i4⟩:=wR bp.2.2 bq.2.2;have h1:=phi (ae6 i1 ht.2 i3 ht.1 f1 f2);rw[show(p.a-q.a)*t.den+(p.b-q.b)*t.num=far t p q from rfl] at h1
 have a1:∀a b c d:Int,RF.ev .agg [.i64 a,.i64 b,.i64 c,.i64 d]=some (.agg [.i64 a,.i64 b,.i64 c,.i64 d]):=λ_ _ _ _=>rfl;have a2:∀v:Int,RF.ev (.shape 2) [.agg [hiL v,loL v]]=some (.agg [hiL v,loL v]):=λ_=>rfl;have a3:∀v:Int,RF.ev (.cell 0) [.agg [hiL v,loL v]]=some (.i64 (v/18446744073709551616)):=λ_=>rfl;have a4:RF.ev .agg [.i64 0,.v (.int .u64 0)]=some (.agg [.i64 0,.v (.int .u64 0)]):=rfl;have a5:∀v:Int,RF.ev (.eqv [.i,.i]) [.agg [hiL v,loL v],.agg [.i64 0,.v (.int .u64 0)]]=some (.bool (decide (v=0))):=λv=>by
  have:RF.ev (.eqv [.i,.i]) [.agg [hiL v,loL v],.agg [.i64 0,.v (.int .u64 0)]]=some (.bool (decide (v/18446744073709551616=0)&&(decide (v% 18446744073709551616=0)&& true))):=rfl;rw[this]
  congr 3
  grind
 have a6:∀x y:Int,RF.ev (.bs 2 [KP.z] [0,1]) [.i64 x,.i64 y]=some (.sl [[.i64 x],[.i64 y]]):=λx y=>rfl;have a7:∀x y:Int,RF.ev .sub [.sl [[.i64 x],[.i64 y]],.v (.int .i64 0),.v (.int .i64 2)]=some (.sl [[.i64 x],[.i64 y]]):=λx y=>rfl;refine am ?_;unfold abb;simp only[ay,km,bm,gI,tQ,mI,nL,nM,a1,a2,a3,a4,a5,a6,a7,EV,i2,i4,h1,aE,aj,aa,WT,phi (WN _ _),phi (uX _ _),phi (orr _ _)];unfold KN;by_cases hz:far t p q=0
 .rw[ac (by simp[hz]),ad hz]
 .rw[ad hz,ac hz];unfold sgn;by_cases hn:far t p q<0
  .rw[ad hn,ad hn]
  .rw[ac hn,ac hn,ad (by omega)]
def kB (p q:Pt)(t:Rt):Int:=if(p.ok&&(q.ok&& rok t))=true then(if p.id=q.id then 2 else 0) else 8
def KO {p q:Pt}{t:Rt}(ht:aQ t):Ans D 215 [PP p,PP q,R t] [.i64 (kB p q t)]:=by
 refine am ?_;unfold ZT kB;simp only[km,bm,gI,mm2,EV,phi (WL _),phi (c43 ht),JF,Bool.and_assoc,pC];cases(p.ok&&(q.ok&& rok t)) with
 |false=>rfl
 |true=>
  grind
def BS {p q:Pt}{t:Rt}(h:kB p q t=0):p.ok=true/\ q.ok=true/\ rok t=true/\ p.id≠q.id:=by
 unfold kB at h
 grind
def ln {p q:Pt}{t:Rt}(h1:p.ok=true)(h2:q.ok=true)(h3:rok t=true)(h4:p.id≠q.id):kB p q t=0:=by
 unfold kB
 grind
def KQ {p q:Pt}{t:Rt}(ht:aQ t):Ans D 244 [PP p,PP q,R t] (if kB p q t=0 then [.bool (leads t p q),.i64 0] else [.bool false,.i64 (kB p q t)]):=by
 refine am ?_;unfold aag;simp only[km,bm,EV,phi (KO ht)];by_cases h:kB p q t=0
 .obtain⟨h1,h2,_,_⟩:=BS h;rw[ac (by simp[h]),ad h];simp[EV,phi (WU h1 h2 ht),EB]
 .grind
def Sm (n:Int):Prop:= -4194304<=n/\ n<=4194304
def KR {a b:Nat}(hb:0<b)(ha:a<18446744073709551616):RF.ev (.bin .quo) [U a,U b]=some (U (a/b)):=by
 show dq .quo .u64 (a:Int) .u64 (b:Int)=_
 have:=hG a b;rw[Ep,ac (by omega),kr (by omega),<-Int.natCast_ediv,wu (by omega)];rfl
def WB (n:Bool)(h l:Nat):PV:= .agg [.bool n,U h,U l]
def WV (n:Bool)(h l:Nat):RF.ev .agg [.bool n,U h,U l]=some (WB n h l):=rfl
def WW (n:Bool)(h l:Nat):RF.ev (.shape 3) [WB n h l]=some (WB n h l):=rfl
def cB0 (n:Bool)(h l:Nat):RF.ev (.cell 0) [WB n h l]=some (.bool n):=rfl
def cB1 (n:Bool)(h l:Nat):RF.ev (.cell 1) [WB n h l]=some (.v (.int .u64 (h:Int))):=rfl
def cB2 (n:Bool)(h l:Nat):RF.ev (.cell 2) [WB n h l]=some (.v (.int .u64 (l:Int))):=rfl
def wS (a b:Int):RF.ev .agg [.i64 a,.i64 b]=some (R ⟨a,b⟩):=rfl
def Ad (r:Rt):RF.ev .flat [R r]=some (R r):=rfl
def KS (r:Rt):RF.ev (.part 0 2) [R r]=some (R r):=rfl
def U0:PV.v (.int .u64 0)=U 0:=rfl
def ae7 {n:Bool}{a b:Nat}(ha:a<=4194304)(hb:b<=4194304):Ans D 299 [WB n 0 a,U 0,U b] [R ⟨if n=true then-(a:Int) else a,b⟩,.i64 0]:=by
 refine am ?_;have e:RF.ev (.bin .gtr) [U 0,U 0]=some (.bool false):=rfl;have e2:RF.ev (.bin .gtr) [U b,.v (.int .u64 9223372036854775807)]=some (.bool (decide ((9223372036854775807:Int)<b))):=rfl;unfold aaK;simp only[WW,cB0,U0,cB1,cB2,wS,e,e2,KM,EV,Ps,fG,cI (show-9223372036854775808<=(a:Int) by omega) (by omega),cI (show-9223372036854775808<=(b:Int) by omega) (by omega),cI (show-9223372036854775808<=0-(a:Int) by omega) (by omega)]
 grind
def KU {n:Int}(h:Sm n):I64 n:=by obtain⟨h1,h2⟩:=h;exact⟨by omega,by omega⟩
def ae8 {n d:Int}(hn:Sm n)(hd:Sm d)(h0:d≠0):Ans D 216 [.i64 n,.i64 d] [R (mkR n d),.i64 0]:=by
 obtain⟨n1,n2⟩:=hn;obtain⟨d1,d2⟩:=hd;have hg:0<Nat.gcd n.natAbs d.natAbs:=fZ _ (by omega);have l1:n.natAbs/Nat.gcd n.natAbs d.natAbs<=n.natAbs:=hG ..;have l2:d.natAbs/Nat.gcd n.natAbs d.natAbs<=d.natAbs:=hG ..;have hc:=phi (WJ n.natAbs d.natAbs);rw[yh] at hc;refine am ?_;unfold ZU;simp only[KR hg (show n.natAbs<18446744073709551616 by omega),KR hg (show d.natAbs<18446744073709551616 by omega),U0,WV,EV,phi (BP (KU ⟨n1,n2⟩)),phi (BP (KU ⟨d1,d2⟩)),hc,phi (ae7 (show n.natAbs/Nat.gcd n.natAbs d.natAbs<=4194304 by omega) (show d.natAbs/Nat.gcd n.natAbs d.natAbs<=4194304 by omega)),aa]
 rw[ac h0];rfl
def WX {p q:Pt}(hp:p.ok=true)(hq:q.ok=true)(hi:p.id≠q.id)(hb:p.b≠q.b):Ans D 117 [PP p,PP q] [R (mkR (p.a-q.a) (q.b-p.b)),.i64 0]:=by
 have bp:=Pt.bnd hp;have bq:=Pt.bnd hq;have ht:aQ ⟨0,1⟩:=⟨⟨by decide,by decide⟩,⟨by decide,by decide⟩⟩;have i2:=(wR bp.2.1 bq.2.1).2;have i4:=(wR bq.2.2 bp.2.2).2;have h1:=phi (KO (p:=p) (q:=q) ht);rw[ln hp hq (by decide) hi] at h1;refine am ?_;unfold RQ;simp[km,bm,tQ,mI,wS,EV,h1,i2,i4,phi (ae8 (n:=p.a-q.a) (d:=q.b-p.b) ⟨by omega,by omega⟩ ⟨by omega,by omega⟩ (by omega))]
 grind
def cB (t:Rt)(hi lo:Pt):Rt×Bool:=if leads t lo hi=true then(t,true) else if hi.b<lo.b then(mkR (hi.a-lo.a) (lo.b-hi.b),true) else(⟨0,0⟩,false)
def WY {p q:Pt}{t:Rt}(ht:aQ t):Ans D 326 [PP p,PP q,R t] (if kB p q t=0 then [R (cB t p q).1,.bool (cB t p q).2,.i64 0] else [R ⟨0,0⟩,.bool false,.i64 (kB p q t)]):=by
 refine am ?_;unfold aa6;simp only[km,bm,wS,EV,phi (KO ht),aE,aj];by_cases h:kB p q t=0
 .obtain⟨h1,h2,_,h3⟩:=BS h;rw[ac (by simp[h]),ad h];simp only[ay,bm,Ad,mI,wS,EV,phi (WU h2 h1 ht),EB,aa];unfold cB;cases leads t q p with
  |true=>rfl
  |false=>
   simp only[aw,ax];by_cases hb:q.b<=p.b
   .grind
   .rw[ac hb,ad (by omega)];simp only[ay,bm,Ad,EV,phi (WX h1 h2 h3 (by omega)),aA]
 .grind
def TE (n:Bool)(a b:Int):RF.ev .agg [.bool n,.v (.int .u64 a),.v (.int .u64 b)]=some (.agg [.bool n,.v (.int .u64 a),.v (.int .u64 b)]):=rfl
def mkW {n:Bool}{h l:Int}{m:Nat}(h1:h=((m/18446744073709551616:Nat):Int))(h2:l=((m% 18446744073709551616:Nat):Int)):PV.agg [.bool n,.v (.int .u64 h),.v (.int .u64 l)]=W n m:=by rw[h1,h2];rfl
def WZ {n k:Bool}{a b:Nat}(ha:a<170141183460469231731687303715884105728)(h:b<=a):Ans D 448 [W n a,W k b] [W false (a-b)]:=by
 refine am ?_;unfold ab6;simp only[pD,rd,rf,EV,aa,PX,TE,kT];by_cases c:((a% 18446744073709551616:Nat):Int)<((b% 18446744073709551616:Nat):Int)
 .rw[ad c,mkW (m:=a-b) (by omega) (by omega)]
 .rw[ac c,mkW (m:=a-b) (by omega) (by omega)]
def ae9 {n k:Bool}{a b:Nat}(ha:a<85070591730234615865843651857942052865)(hb:b<85070591730234615865843651857942052865):∃s m,Ans D 431 [W n a,W k b] [W s m]/\ qf s m=qf n a+qf k b:=by
 have l1:a% 18446744073709551616<18446744073709551616:=by omega
 by_cases hs:n=k
 .subst hs;refine⟨n,a+b,?_,by unfold qf;split<;>omega⟩;refine am ?_;unfold Mk;simp only[ay,pD,wQ,rd,rf,EV,aa,PU,TE,kT,fI,az];by_cases c:(((a% 18446744073709551616:Nat):Int)+((b% 18446744073709551616:Nat):Int))% 18446744073709551616<((a% 18446744073709551616:Nat):Int)
  .rw[ad c,mkW (m:=a+b) (by omega) (by omega)]
  .rw[ac c,mkW (m:=a+b) (by omega) (by omega)]
 .have hbe:(n==k)=false:=by cases n<;>cases k<;>simp_all
  by_cases hle:b<=a
  .refine⟨n&& decide (0<a-b),a-b,?_,by unfold qf;cases n<;>cases k<;>simp_all<;>(repeat' split)<;>omega⟩
   have g:sgn ((a:Int)-b)>=0:=by unfold sgn;repeat' split;all_goals omega
   refine am ?_;unfold Mk;simp only[ay,pD,wQ,rd,rf,EV,aa,hbe,aw,ax,phi (Q8 _ _),phi (WZ (n:=n) (k:=k) (show a<170141183460469231731687303715884105728 by omega) hle)]
   rw[ad g];have fin:∀(v:Bool) (es:List PV),den (bL D) 1 ul [] (.bool v::es)=den (bL D) 1 ul [] (.bool v::es):=λ_ _=>rfl;cases n with
   |false=>
    simp only[aw,ax,ay,Ac,Ez,DU,ul,EV,uN]
   |true=>
    simp only[az,ay,rd,rf,EV,aa,gc];by_cases c:(0:Int)<((((a-b)/18446744073709551616:Nat):Int))
    .rw[ad c,aq (show 0<a-b by omega)]
     simp only[ay,Ac,Ez,DU,ul,EV]
    .rw[ac c];simp only[ay,Ac,Ez,DU,ul,EV];rw[show decide ((0:Int)<(((a-b)% 18446744073709551616:Nat):Int))=decide (0<a-b) from cD.2 (by omega)]
  .refine⟨k,b-a,?_,by unfold qf;cases n<;>cases k<;>simp_all<;>omega⟩;have g:¬sgn ((a:Int)-b)>=0:=by unfold sgn;rw[ad (by omega)];decide
   refine am ?_;unfold Mk;simp only[ay,pD,wQ,rd,rf,EV,aa,hbe,aw,ax,phi (Q8 _ _),phi (WZ (n:=k) (k:=n) (a:=b) (b:=a) (show b<170141183460469231731687303715884105728 by omega) (by omega))]
   rw[ac g];simp only[ay,Ac,Ez,DU,wQ,EV]
def afa {p q:Pt}{t:Rt}(hp:p.ok=true)(hq:q.ok=true)(ht:aQ t):Ans D 390 [PP p,PP q,R t] [.i64 (sgn (far t p q))]:=by
 have bp:=Pt.bnd hp;have bq:=Pt.bnd hq;obtain⟨i1,i2⟩:=wR bp.2.1 bq.2.1;obtain⟨i3,i4⟩:=wR bp.2.2 bq.2.2;obtain⟨s,m,h1,h2⟩:=ae9 (n:=BQ (p.a-q.a) t.den) (k:=BQ (p.b-q.b) t.num) (qw (Nc i1 ht.2)) (qw (Nc i3 ht.1));rw[rh,rh] at h2;refine am ?_;unfold abK;simp[km,bm,tQ,mI,nL,nM,EV,i2,i4,phi (KK i1 ht.2),phi (KK i3 ht.1),phi h1,phi (WP _ _)];rw[h2];rfl
def EC {n:Int}:sgn n=0↔n=0:=by unfold sgn;repeat' split;all_goals omega
def qR {n:Int}:0<sgn n↔0<n:=by unfold sgn;repeat' split;all_goals omega
def ED {p q:Pt}{t:Rt}(hp:p.ok=true)(hq:q.ok=true)(ht:aQ t):Ans D 320 [PP p,PP q,R t] [.bool (leads t p q)]:=by
 refine am ?_;unfold aaV leads;simp[km,bm,gI,mI,EV,phi (afa hp hq ht),EC,qR]
 grind
def afb {n:Bool}{a b:Nat}(ha:a<=4194304)(hb:b<=4194304):Ans D 383 [.bool n,WB false 0 a,WB false 0 b] [R ⟨if n=true then-(a:Int) else a,b⟩,.i64 0]:=by
 refine am ?_;unfold abH;simp only[WW,cB1,cB2,wS,EV,cI (show-9223372036854775808<=(a:Int) by omega) (by omega),cI (show-9223372036854775808<=(b:Int) by omega) (by omega),cI (show-9223372036854775808<=0-(a:Int) by omega) (by omega)]
 grind
def afc {n d:Int}(hn:Sm n)(hd:Sm d)(h0:d≠0):Ans D 297 [.i64 n,.i64 d] [R (mkR n d),.i64 0]:=by
 obtain⟨n1,n2⟩:=hn;obtain⟨d1,d2⟩:=hd;have hg:0<Nat.gcd n.natAbs d.natAbs:=fZ _ (by omega);have l1:n.natAbs/Nat.gcd n.natAbs d.natAbs<=n.natAbs:=hG ..;have l2:d.natAbs/Nat.gcd n.natAbs d.natAbs<=d.natAbs:=hG ..;have hc:=phi (WK n.natAbs d.natAbs);rw[yh] at hc;have hm:=λs=>phi (afb (n:=s) (show n.natAbs/Nat.gcd n.natAbs d.natAbs<=4194304 by omega) (show d.natAbs/Nat.gcd n.natAbs d.natAbs<=4194304 by omega))
 refine am ?_;unfold aaJ;simp[KR hg (show n.natAbs<18446744073709551616 by omega),KR hg (show d.natAbs<18446744073709551616 by omega),U0,WV,bm,nL,nM,wS,Ad,Pr,EV,phi (Ew (KU ⟨n1,n2⟩)),phi (Ew (KU ⟨d1,d2⟩)),hc,hm]
 unfold mkR
 grind
def afd {p q:Pt}(hp:p.ok=true)(hq:q.ok=true)(hb:p.b≠q.b):Ans D 210 [PP p,PP q] [R (mkR (p.a-q.a) (q.b-p.b))]:=by
 have bp:=Pt.bnd hp;have bq:=Pt.bnd hq;have i2:=(wR bp.2.1 bq.2.1).2;have i4:=(wR bq.2.2 bp.2.2).2;refine am ?_;unfold ZQ;simp[km,bm,tQ,mI,EV,i2,i4,phi (afc (n:=p.a-q.a) (d:=q.b-p.b) ⟨by omega,by omega⟩ ⟨by omega,by omega⟩ (by omega))]
def afe {p q:Pt}{t:Rt}(hp:p.ok=true)(hq:q.ok=true)(ht:aQ t):Ans D 318 [PP p,PP q,R t] [R (cB t p q).1,.bool (cB t p q).2]:=by
 refine am ?_;unfold aaT cB;simp[km,bm,mI,wS,EV,phi (ED hq hp ht)];cases leads t q p with
 |true=>rfl
 |false=>
  simp;by_cases hb:p.b<q.b
  .rw[ad hb,ad hb];simp only[ay,bm,Ad,EV,phi (afd hp hq (show p.b≠q.b by omega))]
  .grind
def bv (l:List Pt):RF.ev (.shape 1) [F l]=some (F l):=rfl
def cG (l:List Pt):RF.ev (.cell 0) [F l]=some (sl row l):=rfl
def gJ (p:Pt):cF 0 3 (row p)=some (PP p):=rfl
def sC (p:Pt):cF 0 0 (row p)=some (.i64 p.id):=rfl
def cq (p:Pt):(row p).length=3:=rfl
def I1 (n:Int):List PV:=[.i64 n]
def cQ (n:Int):cF 0 0 (I1 n)=some (.i64 n):=rfl
def B1 (b:Bool):List PV:=[.bool b]
def uY (b:Bool):cF 0 0 (B1 b)=some (.bool b):=rfl
open Classical in
def gk (l:List Pt):Int:=if 64<l.length then 4 else if yR l=true then(if jq l then 0 else 32) else 8
def Ae {b:Bool}:okE b=0↔b=true:=by cases b<;>simp[okE]
def i8 {b:Bool}{α:Type}{x y:α}:(if¬okE b=0 then x else y)=if b=true then y else x:=by cases b<;>rfl
open Classical in
def te (l:List Pt):Ans D 114 [F l] [.i64 (gk l)]:=by
 refine an ⟨65,?_⟩;unfold Y6 gk;simp only[ay,bv,cG,EV,ai,aa];by_cases h:64<l.length
 .grind
 .rw[ac (by omega),ac h];refine(cz (l:=l) (p:=Pt.ok) (st:=λi=>[.i64 (i:Int)]) (r:=some [.i64 8]) (fin:=some [.i64 (if jq l then 0 else 32)]) (λi p self hp _=>?_) (λhg self=>?_) (by omega)).trans ?_
  .unfold FK;simp only[ay,bv,cG,aX hp (cq p),aM hp,gJ,EV,aa,bi (aL hp),up1 (show i<1000000000 by have:=aL hp;omega),phi (WL _),pC]
   cases p.ok<;>rfl
  .unfold FK;simp only[EV,aa,bP,N7,cG,ay,ai];refine(eV (n:=l.length) (P:=λi=>∀p q,l[i]?=some q->(0<i->l[i-1]?=some p->p.id<q.id)) (st:=λi=>[.i64 (i:Int)]) (r:=some [.i64 32]) (fin:=some [.i64 0]) (λi self hi _=>?_) (λ_ self=>?_) (by omega)).trans ?_
   .obtain⟨q,hq⟩:∃q,l[i]?=some q:=⟨l[i],ah _⟩;unfold FJ;simp only[ay,cG,aX hq (cq q),aM hq,gJ,EV,aa,bi hi];cases i with
    |zero=>
     rw[ac (by omega),ad (λp q _ h=>by omega)];unfold FI;simp only[EV,aw,ax]
     try rfl
    |succ j=>
     obtain⟨p,hp⟩:∃p,l[j]?=some p:=⟨l[j],ah _⟩;rw[ad (by omega)];simp only[ay,cG,gI,uU (show j<1000000000 by omega),aX hp (cq p),aM hp,sC,EV]
     unfold FI;simp only[EV,aa,up1 (show j+1<1000000000 by omega)]
     by_cases hc:q.id<=p.id
     .rw[ad hc,ac (λh=>by have:=h p q hq (by omega) (by simpa using hp);omega)]
     .rw[ac hc,ad (λp' q' h1 _ h2=>by
       rw[hq] at h1;cases h1;rw[show j+1-1=j by omega,hp] at h2;cases h2
       omega)]
   .unfold FJ;simp only[EV,aa,bP,N6]
   .have:(∀j,j<l.length->∀p q,l[j]?=some q->(0<j->l[j-1]?=some p->p.id<q.id))↔jq l:=by
     constructor
     .intro h i p q hp hq;exact h (i+1) (aL hq) p q hq (by omega) (by simpa using hp)
     .intro h j hj p q hq h0 hp;exact h (j-1) p q hp (by rw[show j-1+1=j by omega];exact hq)
    by_cases hr:jq l
    .rw[ad (this.2 hr),ad hr]
    .rw[ac (λh=>hr (this.1 h)),ac hr]
  .unfold yR;cases l.all Pt.ok<;>rfl
open Classical in
def W1 (l:List Pt):Ans D 28 [F l] [.i64 (gk l)]:=by
 refine an ⟨65,?_⟩;unfold Yl gk;simp only[ay,bv,cG,EV,ai,aa];by_cases h:64<l.length
 .grind
 .rw[ac (by omega),ac h];refine(cz (l:=l) (p:=Pt.ok) (st:=λi=>[.i64 (i:Int)]) (r:=some [.i64 8]) (fin:=some [.i64 (if jq l then 0 else 32)]) (λi p self hp _=>?_) (λhg self=>?_) (by omega)).trans ?_
  .unfold Fz;simp only[ay,cG,aX hp (cq p),aM hp,gJ,EV,ai,aa,bi (aL hp),up1 (show i<1000000000 by have:=aL hp;omega),phi (aeY _),pC]
  .unfold Fz;simp only[ay,cG,EV,ai,aa,bP,NU];refine(eV (n:=l.length-1) (P:=λi=>∀p q,l[i]?=some p->l[i+1]?=some q->p.id<q.id) (st:=λi=>[.i64 ((i+1:Nat):Int)]) (r:=some [.i64 32]) (fin:=some [.i64 0]) (λi self hi _=>?_) (λ_ self=>?_) (by omega)).trans ?_
   .obtain⟨p,hp⟩:∃p,l[i]?=some p:=⟨l[i],ah _⟩;obtain⟨q,hq⟩:∃q,l[i+1]?=some q:=⟨l[i+1],ah _⟩;unfold Fy;simp only[ay,cG,uU (show i<1000000000 by omega),aX hp (cq p),aM hp,aX hq (cq q),aM hq,sC,EV,ai,aa,bi (aL hq),up1 (show i+1<1000000000 by omega)]
    grind
   .unfold Fy;simp only[ay,cG,EV,ai,aa,NT];rw[ac (by omega)]
   .have:(∀j,j<l.length-1->∀p q,l[j]?=some p->l[j+1]?=some q->p.id<q.id)↔jq l:=
     ⟨λh i p q hp hq=>h i (by have:=aL hq;omega) p q hp hq,λh j _ p q hp hq=>h j p q hp hq⟩
    by_cases hr:jq l
    .rw[ad (this.2 hr),ad hr]
    .rw[ac (λh=>hr (this.1 h)),ac hr]
  .unfold yR;cases l.all Pt.ok<;>rfl
def pos (l:List Pt)(id:Int):Int:=qd (λp=>decide (p.id=id)) l
def DV {o:Option Nat}:o.elim (some [PV.i64 (-1)]) (λi=>some [.i64 (i:Int)])=some [.i64 (o.elim (-1) λi=>(i:Int))]:=by cases o<;>rfl
def cA (n:Int):(I1 n).length=1:=rfl
def uZ (b:Bool):(B1 b).length=1:=rfl
def tf {l:List Pt}(hl:l.length<=1000)(id:Int):Ans D 134 [F l,.i64 id] [.i64 (pos l id)]:=by
 refine an ⟨1001,?_⟩;unfold Zf;simp[bv,EV];refine(oI (l:=l) (p:=λp=>decide (p.id=id)) (st:=λi=>[.i64 (i:Int)]) (ret:=λi=>some [.i64 (i:Int)]) (fin:=some [.i64 (-1)]) (λi p self hp=>?_) (λself=>?_) (by omega)).trans DV
 .unfold FO;simp only[cG,aX hp (cq p),aM hp,sC,EV,ai,aa,bi (aL hp),up1 (show i<1000000000 by have:=aL hp;omega)]
 .unfold FO;simp[cG,EV,Ob]
def aff {α:Type}[DecidableEq α]{l k:List α}(h:l.length=k.length):(l.zip k).all (λp=>decide (p.1=p.2))=decide (l=k):=by
 induction l generalizing k with
 |nil=>cases k with
  |nil=>rfl
  |cons=>simp at h
 |cons a l ih=>cases k with
  |nil=>simp at h
  |cons b k=>
   simp_all
def lU {α β:Type}{l:List α}{k:List β}{i:Nat}{x:α×β}(h:(l.zip k)[i]?=some x):l[i]?=some x.1/\ k[i]?=some x.2:=by
 grind
def i9 {α β:Type}{l:List α}{k:List β}(h:l.length=k.length):(l.zip k).length=l.length:=by rw[kZ];omega
def Af {α:Type}[DecidableEq α]{l k:List α}{x:Option (List PV)}(h:l.length=k.length)(hx:x=if(l.zip k).all (λp=>decide (p.1=p.2))=true then some [.bool true] else some [.bool false]):x=some [.bool (decide (l=k))]:=by
 rw[hx,aff h]
 grind
def afg (p q:Pt):RF.ev (.eqv [.i,.i,.i]) [PP p,PP q]=some (.bool (decide (p=q))):=by
 obtain⟨a,b,c⟩:=p;obtain⟨x,y,z⟩:=q;have:RF.ev (.eqv [.i,.i,.i]) [PP ⟨a,b,c⟩,PP ⟨x,y,z⟩]=some (.bool (decide (a=x)&&(decide (b=y)&&(decide (c=z)&& true)))):=rfl;simp_all
def afh {l k:List Int}(hl:l.length<=1000):∃N,den (bL D) N RS [] [sl I1 l,sl I1 k]=some [.bool (decide (l=k))]:=by
 refine⟨1001,?_⟩;unfold RS;simp only[EV,ai,aE,aj];by_cases h:l.length=k.length
 .rw[ac (by omega)];refine Af h (cz (l:=l.zip k) (st:=λi=>[.i64 (i:Int)]) (λi x self hx _=>?_) (λ_ self=>?_) (by rw[i9 h];omega))
  .obtain⟨hp,hq⟩:=lU hx;unfold FL;simp only[aX hp (cA _),aM hp,aX hq (cA _),aM hq,cQ,EV,ai,aa,aE,aj,bi (aL hp),up1 (show i<1000000000 by have:=aL hp;omega)]
   grind
  .rw[i9 h];unfold FL;simp only[EV,ai,aa,bP,N8]
 .rw[ad (by omega),ak (λe=>h (by rw[e]))]
def afi {l k:List Int}(hl:l.length<=1000):Ans D 130 [sl I1 l,sl I1 k] [.bool (decide (l=k))]:=an (afh hl)
def EE {l:List Pt}(h:jq l):∀(d i:Nat) (p q:Pt),l[i]?=some p->l[i+d+1]?=some q->p.id<q.id
 |0,i,p,q,hp,hq=>h i p q hp hq
 |d+1,i,p,q,hp,hq=>by
  obtain⟨m,hm⟩:∃m,l[i+d+1]?=some m:=⟨l[i+d+1]'(by have:=aL hq;omega),ah _⟩;have h1:=EE h d i p m hp hm;have h2:=h (i+d+1) m q hm (by rw[<-hq];congr 1);omega
def jg {l:List Pt}(h:jq l){i j:Nat}{p q:Pt}(hij:i<j)(hp:l[i]?=some p)(hq:l[j]?=some q):p.id<q.id:=
 EE h (j-i-1) i p q hp (by rw[show i+(j-i-1)+1=j by omega];exact hq)
def cW {l:List Pt}(h:jq l):Ids l:=by
 unfold Ids;rw[dN];intro i j x hi hj;rw[a8,bM] at hi hj;obtain⟨p,hp,rfl⟩:=hi;obtain⟨q,hq,e⟩:=hj;rcases fo i j with g|g|g
 .have:=jg h g hp hq;omega
 .exact g
 .have:=jg h g hq hp;omega
def LB (l:List Pt)(id:Int)(m:Nat):Prop:=m<=l.length/\∀(k:Nat) (p:Pt),l[k]?=some p->(k<m->p.id<id)/\(m<=k->id<=p.id)
def KV {a b:Nat}(h:a<1000000)(k:b<1000000):dq .shr .u64 (IntKind.u64.wrap (IntKind.i64.wrap ((a:Int)+(b:Int)))) .u64 1=some (.v (.int .u64 (((a+b)/2:Nat):Int))):=by
 rw[MV,ac (by decide),cI (by omega) (by omega),kT,show min (1:Int).toNat IntKind.u64.bits=1 from rfl,ii _ (by decide)]
 congr 3
 omega
def zm {N:Nat}{f:JT}{e0 e2:PV}{l:List Pt}{id:Int}(hs:jq l)(hl:l.length<=1000):∀(m i j:Nat),j-i<m->i<=j->j<=l.length->(∀(k:Nat) (p:Pt),l[k]?=some p->(k<i->p.id<id)/\(j<=k->id<=p.id))->
  ∃P,LB l id P/\ dW (bL D) N t8 [f] [e0,.i64 id,F l,sl row l,e2] m [.i64 (i:Int),.i64 (j:Int)]=f [.i64 (P:Int)]
 |0,i,j,h,_,_,_=>by omega
 |m+1,i,j,h,hij,hj,hb=>by
  rw[bC];by_cases hlt:i<j
  .obtain⟨p,hp⟩:∃p,l[(i+j)/2]?=some p:=⟨l[(i+j)/2]'(by omega),ah _⟩;have key:∀self:JT,den (bL D) N t8 ([f]++[self]) ([e0,.i64 id,F l,sl row l,e2]++[.i64 (i:Int),.i64 (j:Int)])=if p.id<id then self [.i64 (((i+j)/2+1:Nat):Int),.i64 (j:Int)] else self [.i64 (i:Int),.i64 (((i+j)/2:Nat):Int)]:=λself=>by
    unfold t8;simp only[EV,aa,bi hlt,KV (show i<1000000 by omega) (show j<1000000 by omega),cI (show-9223372036854775808<=(((i+j)/2:Nat):Int) by omega) (by omega),cG,aX hp (cq p),aM hp,gJ,gI,phi (uX _ _),Pq,up1 (show(i+j)/2<1000000000 by omega)]
    by_cases c:p.id<id
    .rw[ad c,ad (show sgn (p.id-id)<0 by unfold sgn;rw[ad (by omega)];decide)]
    .rw[ac c,ac (show¬sgn (p.id-id)<0 by unfold sgn;rw[ac (by omega)];split<;>decide)]
   rw[key];by_cases c:p.id<id
   .rw[ad c];refine zm hs hl m _ j (by omega) (by omega) hj λk q hq=>⟨λhk=>?_,(hb k q hq).2⟩;by_cases e:k=(i+j)/2
    .subst e;rw[hp] at hq;cases hq;exact c
    .have:=jg hs (show k<(i+j)/2 by omega) hq hp;omega
   .rw[ac c];refine zm hs hl m i _ (by omega) (by omega) (by omega) λk q hq=>⟨(hb k q hq).1,λhk=>?_⟩;by_cases e:k=(i+j)/2
    .subst e;rw[hp] at hq;cases hq;omega
    .have:=jg hs (show(i+j)/2<k by omega) hp hq;omega
  .refine⟨i,⟨by omega,λk p hp=>⟨(hb k p hp).1,λh=>(hb k p hp).2 (by omega)⟩⟩,?_⟩;unfold t8;simp only[EV,aa];rw[ac (by omega)]
def EF {l:List Pt}{id:Int}:(∀p∈l,p.id≠id)->pos l id= -1:=λh=>by
 unfold pos qd;rw[iA.2 (λp hp=>ak (h p hp))];rfl
def ri {l:List Pt}(hs:jq l){i:Nat}{p:Pt}(h:l[i]?=some p):pos l p.id=i:=by
 unfold pos qd;have:l.findIdx? (λq=>decide (q.id=p.id))=some i:=by
  rw[bU];have hi:=aL h;have e:=(aD.1 h).2;refine⟨hi,by rw[e];simp,λj hj=>?_⟩;have:=jg hs hj (ah (by omega)) h;simp;omega
 rw[this];rfl
def pos_cases (l:List Pt)(id:Int):(pos l id= -1/\∀p∈l,p.id≠id)\/∃(i:Nat) (p:Pt),l[i]?=some p/\ p.id=id/\ pos l id=(i:Nat):=by
 unfold pos qd;cases h:l.findIdx? (λq=>decide (q.id=id)) with
 |none=>
  grind
 |some i=>
  obtain⟨h1,h2,_⟩:=bU.1 h
  grind
def u7 {e0:PV}{l:List Pt}{id:Int}(hs:jq l)(hl:l.length<=1000):∃P:Nat,LB l id P/\(0<=pos l id->pos l id=P)/\∀(K2 K1:K) (J:List JT),K2=(.jp K1 (.lt (.bin .lss) [.x 5,.x 4] (.br (.x 6) (.lt (.cell 0) [.x 2] (.lt (.tix 3) [.x 7,.x 5] (.lt (.elt 0 3) [.x 7,.x 8] (.lt (.cell 0) [.x 9] (.call 220 [.x 10,.x 1] (.lt (.bin .eql) [.x 11,.c (.i64 0)] (.jmp 0 [.x 12]))))))) (.jmp 0 [.c (.bool false)]))))->
  dW (bL D) 1001 t8 [oZ (bL D) 1001 K2 [] [e0,.i64 id,F l,sl row l,.i64 (l.length:Int)]] [e0,.i64 id,F l,sl row l,.i64 (l.length:Int)] 1001 [.i64 0,.i64 (l.length:Int)]=den (bL D) 1001 K1 [] [e0,.i64 id,F l,sl row l,.i64 (l.length:Int),.i64 (P:Int),.bool (decide (0<=pos l id))]:=by
 have hbin:=λf:JT=>zm (N:=1001) (f:=f) (e0:=e0) (e2:= .i64 (l.length:Int)) (id:=id) hs hl 1001 0 l.length (by omega) (by omega) (by omega) λk p hp=>⟨λh=>by omega,λh=>by have:=aL hp;omega⟩;have uniq:∀P P2,LB l id P->LB l id P2->P=P2:=λP P2 h h'=>by
  rcases fo P P2 with g|g|g
  .obtain⟨p,hp⟩:∃p,l[P]?=some p:=⟨l[P]'(by have:=h'.1;omega),ah _⟩;have h1:=(h.2 P p hp).2 (aB _);have h2:=(h'.2 P p hp).1 g;omega
  .exact g
  .obtain⟨p,hp⟩:∃p,l[P2]?=some p:=⟨l[P2]'(by have:=h.1;omega),ah _⟩;have h1:=(h'.2 P2 p hp).2 (aB _);have h2:=(h.2 P2 p hp).1 g;omega
 obtain⟨P,hLB,_⟩:=hbin λ_=>none;obtain⟨h1,h2⟩:=hLB;have hpos:(0<=pos l id->pos l id=P)/\(0<=pos l id↔∃p,l[P]?=some p/\ p.id=id):=by
  rcases pos_cases l id with⟨e,hn⟩|⟨i,p,hp,he,e⟩
  .refine⟨λh=>by omega,λh=>by omega,λ⟨p,hp,he⟩=>absurd he (hn p (au hp))⟩
  .have:i=P:=by
    rcases fo i P with g|g|g
    .have:=(h2 i p hp).1 g;omega
    .exact g
    .obtain⟨q,hq⟩:∃q,l[P]?=some q:=⟨l[P]'(by have:=aL hp;omega),ah _⟩;have:=(h2 P q hq).2 (by omega);have:=jg hs g hq hp;omega
   subst this;exact⟨λ_=>e,λ_=>⟨p,hp,he⟩,λ_=>by omega⟩
 refine⟨P,⟨h1,h2⟩,hpos.1,λK2 K1 J hK=>?_⟩;obtain⟨P2,hLB',h3⟩:=hbin (oZ (bL D) 1001 K2 [] [e0,.i64 id,F l,sl row l,.i64 (l.length:Int)]);have:=uniq P P2 ⟨h1,h2⟩ hLB';subst this;refine h3.trans ?_;subst hK;simp only[EV,aa];by_cases hP:P<l.length
 .obtain⟨p,hp⟩:∃p,l[P]?=some p:=⟨l[P],ah _⟩;simp only[bi hP,ay,cG,aX hp (cq p),aM hp,gJ,gI,phi (uX _ _),EV];have:decide (sgn (p.id-id)=0)=decide (0<=pos l id):=by
   rw[cD,EC,hpos.2];constructor
   .intro h;exact⟨p,hp,by omega⟩
   .rintro⟨q,hq,h⟩;rw[hp] at hq;cases hq;omega
  rw[this]
 .rw[ac (by omega)];rw[ak (show¬0<=pos l id by rw[hpos.2];rintro⟨p,hp,_⟩;have:=aL hp;omega)]
def eL {l:List Pt}:gk l=0↔okF l:=by
 unfold gk okF
 grind
def dH {l:List Pt}(h:okF l){i:Nat}{p:Pt}(hp:l[i]?=some p):p.ok=true:=aS.1 h.2.1 p (au hp)
def BT {l:List Pt}(h:okF l){i:Nat}{p:Pt}(hp:l[i]?=some p):decide (0<=pos l p.id)=true/\ pos l p.id=(i:Nat):=by
 have:=ri h.2.2 hp
 grind
def afj {l:List Pt}(h:okF l){i:Nat}{p:Pt}(hp:l[i]?=some p):Ans D 267 [F l,.i64 p.id] [.i64 (i:Int),.bool true]:=by
 obtain⟨P,_,h2,h1⟩:=u7 (e0:=F l) (id:=p.id) h.2.2 (by have:=h.1;omega);obtain⟨e1,e2⟩:=BT h hp;have:P=i:=by have:=h2 (aT e1);omega
 subst this;refine an ⟨1001,?_⟩;unfold aax;simp[bv,cG,EV];refine(h1 _ G8 [] rfl).trans ?_;simp[G8,EV,e1]
def afk {l:List Pt}(h:okF l){i:Nat}{p:Pt}(hp:l[i]?=some p):Ans D 276 [F l,.i64 p.id] [.i64 (i:Int),.i64 0]:=by
 have h0:=phi (te l);rw[eL.2 h] at h0;refine am ?_;unfold aaz;simp[bv,EV,h0,phi (afj h hp)]
def TF (p:Pt):RF.ev .flat [PP p]=some (PP p):=rfl
def BU {l:List Pt}(h:okF l){i:Nat}{p:Pt}(hp:l[i]?=some p):Ans D 243 [F l,.i64 p.id] [PP p,.i64 0]:=by
 refine am ?_;unfold aaf;simp[bv,cG,EV,phi (afk h hp),aX hp (cq p),aM hp,gJ]
def W2 {l:List Pt}{t:Rt}(h:okF l)(ht:aQ t)(hr:rok t=true){i j:Nat}{p q:Pt}(hp:l[i]?=some p)(hq:l[j]?=some q)(hne:p.id≠q.id):Ans D 151 [F l,R t,.i64 p.id,.i64 q.id] [.bool (leads t p q)]:=by
 have h0:=phi (KQ (p:=p) (q:=q) ht);rw[ln (dH h hp) (dH h hq) hr hne] at h0;refine am ?_;unfold Zw;simp[bv,bm,km,EV,phi (BU h hp),phi (BU h hq),h0]
def Q9 {l:List Pt}(h:okF l){i:Nat}{p:Pt}(hp:l[i]?=some p):Ans D 400 [F l,.i64 p.id] [.i64 (i:Int),.bool true]:=by
 obtain⟨P,_,h2,h1⟩:=u7 (e0:=F l) (id:=p.id) h.2.2 (by have:=h.1;omega);obtain⟨e1,e2⟩:=BT h hp;have:P=i:=by have:=h2 (aT e1);omega
 subst this;refine an ⟨1001,?_⟩;unfold R2;simp[bv,cG,EV];refine(h1 _ AY [] rfl).trans ?_;simp[AY,EV,e1]
def ac5 {l:List Pt}(h:okF l){id:Int}(hn:∀p∈l,p.id≠id):∃P:Nat,Ans D 400 [F l,.i64 id] [.i64 (P:Int),.bool false]:=by
 obtain⟨P,_,_,h1⟩:=u7 (e0:=F l) (id:=id) h.2.2 (by have:=h.1;omega);refine⟨P,an ⟨1001,?_⟩⟩;unfold R2;simp[bv,cG,EV];refine(h1 _ AY [] rfl).trans ?_;simp only[EF hn];rfl
def be (l:List Pt)(id:Int):Pt:=(l.find? λp=>decide (p.id=id)).getD ⟨-1,0,0⟩
def gK {l:List Pt}(h:okF l){i:Nat}{p:Pt}(hp:l[i]?=some p):be l p.id=p:=by
 unfold be;cases e:l.find? λq=>decide (q.id=p.id) with
 |none=>rw[lQ] at e;have:=e p (au hp);simp at this
 |some q=>
  have h1:=kY e;exact(cW h.2.2).inj (eR e) (au hp) (aT h1)
def C1 {l:List Pt}{id:Int}(hn:∀p∈l,p.id≠id):be l id=⟨-1,0,0⟩:=by
 unfold be;rw[lQ.2 (λp hp=>by simpa using hn p hp)]
 rfl
def has_cases (l:List Pt)(id:Int):(∀p∈l,p.id≠id)\/∃(i:Nat) (p:Pt),l[i]?=some p/\ p.id=id:=by
 rcases pos_cases l id with⟨_,h⟩|⟨i,p,h1,h2,_⟩
 .exact .inl h
 .grind
def BV {l:List Pt}(h:okF l)(id:Int):Ans D 327 [F l,.i64 id] [PP (be l id)]:=by
 obtain⟨P,_,h2,h1⟩:=u7 (e0:=F l) (id:=id) h.2.2 (by have:=h.1;omega);refine an ⟨1001,?_⟩;unfold aba;simp only[ay,bv,cG,EV,ai];refine(h1 _ Hh [] rfl).trans ?_;unfold Hh;rcases has_cases l id with hn|⟨i,p,hp,rfl⟩
 .have a3:RF.ev .agg [.i64 (-1),.i64 0,.i64 0]=some (PP ⟨-1,0,0⟩):=rfl;rw[EF hn,ak (by decide)];simp only[ay,bv,cG,EV,bZ,az,a3,TF,C1 hn]
 .obtain⟨e1,e2⟩:=BT h hp;have:P=i:=by have:=h2 (aT e1);omega
  subst this;rw[e1];simp only[ay,bv,cG,EV,aJ,aw,ax,aX hp (cq p),aM hp,gJ,TF,gK h hp]
structure Crt where
 low:Int
 high:Int
 deriving DecidableEq
structure Held where
 number:Int
 cert:Crt
 deriving DecidableEq
structure Hnd where
 index:Int
 use:Int
 deriving DecidableEq
structure Evt where
 time:Rt
 number:Int
 hnd:Hnd
 deriving DecidableEq
structure Due where
 number:Int
 hnd:Hnd
 deriving DecidableEq
structure Nod where
 id:Int
 left:Int
 right:Int
 deriving DecidableEq
structure Certs where
 next:Int
 list:List Held
 deriving DecidableEq
structure Agenda where
 slots:Slots
 heap:List Evt
 wher:List Int
 deriving DecidableEq
structure Clock where
 now:Rt
 pts:List Pt
 certs:Certs
 agenda:Agenda
 due:List Due
 deriving DecidableEq
structure Brk where
 places:List Int
 wins:List Int
 deriving DecidableEq
structure Tree where
 root:Int
 nodes:List Nod
 deriving DecidableEq
structure KHeap where
 clock:Clock
 heap:List Int
 deriving DecidableEq
structure KTourn where
 clock:Clock
 brk:Brk
 deriving DecidableEq
structure Heater where
 clock:Clock
 tree:Tree
 deriving DecidableEq
structure Choice where
 tag:Int
 heap:KHeap
 tourn:KTourn
 heater:Heater
 hanger:KHeap
 deriving DecidableEq
def crow (c:Crt):List PV:=[.i64 c.low,.i64 c.high]
def hrow (h:Held):List PV:=[.i64 h.number,.i64 h.cert.low,.i64 h.cert.high]
def ct (e:Evt):List PV:=[.i64 e.time.num,.i64 e.time.den,.i64 e.number,.i64 e.hnd.index,.i64 e.hnd.use]
def cR (d:Due):List PV:=[.i64 d.number,.i64 d.hnd.index,.i64 d.hnd.use]
def dD (n:Nod):List PV:=[.i64 n.id,.i64 n.left,.i64 n.right]
def CP (c:Crt):PV:= .agg (crow c)
def HP (h:Held):PV:= .agg (hrow h)
def EP (e:Evt):PV:= .agg (ct e)
def DP (d:Due):PV:= .agg (cR d)
def NP (n:Nod):PV:= .agg (dD n)
def csC (c:Certs):List PV:=[.i64 c.next,sl hrow c.list]
def slC (s:Slots):List PV:=[sl I1 s.uses,sl B1 s.used,sl I1 s.free]
def agC (a:Agenda):List PV:=slC a.slots++[sl ct a.heap,sl I1 a.wher]
def clC (c:Clock):List PV:= .i64 c.now.num:: .i64 c.now.den::sl row c.pts::(csC c.certs++(agC c.agenda++[sl cR c.due]))
def brC (b:Brk):List PV:=[sl I1 b.places,sl I1 b.wins]
def trC (t:Tree):List PV:=[.i64 t.root,sl dD t.nodes]
def khC (k:KHeap):List PV:=clC k.clock++[sl I1 k.heap]
def ktC (k:KTourn):List PV:=clC k.clock++brC k.brk
def htC (k:Heater):List PV:=clC k.clock++trC k.tree
def bb (c:Choice):List PV:= .v (.int .u8 c.tag)::(khC c.heap++(ktC c.tourn++(htC c.heater++khC c.hanger)))
def CS (c:Certs):PV:= .agg (csC c)
def SL (s:Slots):PV:= .agg (slC s)
def AG (a:Agenda):PV:= .agg (agC a)
def CL (c:Clock):PV:= .agg (clC c)
def BR (b:Brk):PV:= .agg (brC b)
def TR (t:Tree):PV:= .agg (trC t)
def KH (k:KHeap):PV:= .agg (khC k)
def KT (k:KTourn):PV:= .agg (ktC k)
def HT (k:Heater):PV:= .agg (htC k)
def CHO (c:Choice):PV:= .agg (bb c)
def tg (c:Crt):cF 0 2 (crow c)=some (CP c):=rfl
def lr (h:Held):cF 0 3 (hrow h)=some (HP h):=rfl
def KW (h:Held):cF 1 2 (hrow h)=some (CP h.cert):=rfl
def ac6 (h:Held):cF 0 0 (hrow h)=some (.i64 h.number):=rfl
def ac7 (h:Held):cF 1 0 (hrow h)=some (.i64 h.cert.low):=rfl
def ac8 (h:Held):cF 2 0 (hrow h)=some (.i64 h.cert.high):=rfl
def iX (e:Evt):cF 0 5 (ct e)=some (EP e):=rfl
def W4 (d:Due):cF 0 3 (cR d)=some (DP d):=rfl
def EG (n:Nod):cF 0 3 (dD n)=some (NP n):=rfl
def iY (c:Crt):(crow c).length=2:=rfl
def gL (c:Held):(hrow c).length=3:=rfl
def jP (c:Evt):(ct c).length=5:=rfl
def u9 (c:Due):(cR c).length=3:=rfl
def nN (c:Nod):(dD c).length=3:=rfl
section
variable (c:Certs)(s:Slots)(a:Agenda)(k:Clock)(b:Brk)(t:Tree)(kh:KHeap)(kt:KTourn)(ht:Heater)(ch:Choice)(cr:Crt)(h:Held)
theorem kC:RF.ev (.shape 2) [CP cr]=some (CP cr):=rfl
theorem jQ:RF.ev (.cell 0) [CP cr]=some (.i64 cr.low):=rfl
theorem jR:RF.ev (.cell 1) [CP cr]=some (.i64 cr.high):=rfl
theorem lu:RF.ev (.cell 0) [HP h]=some (.i64 h.number):=rfl
theorem pHP:RF.ev (.part 1 2) [HP h]=some (CP h.cert):=rfl
theorem kD:RF.ev (.shape 2) [CS c]=some (CS c):=rfl
theorem nO:RF.ev (.cell 0) [CS c]=some (.i64 c.next):=rfl
theorem gg:RF.ev (.cell 1) [CS c]=some (sl hrow c.list):=rfl
theorem jS:RF.ev (.shape 3) [SL s]=some (SL s):=rfl
theorem jT:RF.ev (.cell 0) [SL s]=some (sl I1 s.uses):=rfl
theorem mn:RF.ev (.cell 1) [SL s]=some (sl B1 s.used):=rfl
theorem jU:RF.ev (.cell 2) [SL s]=some (sl I1 s.free):=rfl
theorem jE:RF.ev (.shape 5) [AG a]=some (AG a):=rfl
theorem pAG:RF.ev (.part 0 3) [AG a]=some (SL a.slots):=rfl
theorem fE:RF.ev (.cell 3) [AG a]=some (sl ct a.heap):=rfl
theorem mo:RF.ev (.cell 4) [AG a]=some (sl I1 a.wher):=rfl
theorem cZ:RF.ev (.shape 11) [CL k]=some (CL k):=rfl
theorem gM:RF.ev (.part 0 2) [CL k]=some (R k.now):=rfl
theorem io:RF.ev (.part 2 1) [CL k]=some (F k.pts):=rfl
theorem rj:RF.ev (.part 3 2) [CL k]=some (CS k.certs):=rfl
theorem nP:RF.ev (.part 5 5) [CL k]=some (AG k.agenda):=rfl
theorem th:RF.ev (.cell 2) [CL k]=some (sl row k.pts):=rfl
theorem jx:RF.ev (.cell 4) [CL k]=some (sl hrow k.certs.list):=rfl
theorem mq:RF.ev (.cell 8) [CL k]=some (sl ct k.agenda.heap):=rfl
theorem nQ:RF.ev (.cell 9) [CL k]=some (sl I1 k.agenda.wher):=rfl
theorem fA:RF.ev (.cell 10) [CL k]=some (sl cR k.due):=rfl
theorem nR:RF.ev (.shape 2) [BR b]=some (BR b):=rfl
theorem vb:RF.ev (.cell 0) [BR b]=some (sl I1 b.places):=rfl
theorem kF:RF.ev (.cell 1) [BR b]=some (sl I1 b.wins):=rfl
theorem vd:RF.ev (.shape 2) [TR t]=some (TR t):=rfl
theorem W5:RF.ev (.cell 0) [TR t]=some (.i64 t.root):=rfl
theorem mT:RF.ev (.cell 1) [TR t]=some (sl dD t.nodes):=rfl
theorem jG:RF.ev (.shape 12) [KH kh]=some (KH kh):=rfl
theorem pKH:RF.ev (.part 0 11) [KH kh]=some (CL kh.clock):=rfl
theorem cKH:RF.ev (.cell 11) [KH kh]=some (sl I1 kh.heap):=rfl
theorem vg:RF.ev (.shape 13) [KT kt]=some (KT kt):=rfl
theorem pKT:RF.ev (.part 0 11) [KT kt]=some (CL kt.clock):=rfl
theorem KX:RF.ev (.part 11 2) [KT kt]=some (BR kt.brk):=rfl
theorem vk:RF.ev (.shape 13) [HT ht]=some (HT ht):=rfl
theorem pHT:RF.ev (.part 0 11) [HT ht]=some (CL ht.clock):=rfl
theorem afl:RF.ev (.part 11 2) [HT ht]=some (TR ht.tree):=rfl
theorem gN:RF.ev (.shape 51) [CHO ch]=some (CHO ch):=rfl
theorem cCH:RF.ev (.cell 0) [CHO ch]=some (.v (.int .u8 ch.tag)):=rfl
theorem KY:RF.ev (.part 1 12) [CHO ch]=some (KH ch.heap):=rfl
theorem KZ:RF.ev (.part 13 13) [CHO ch]=some (KT ch.tourn):=rfl
theorem K3:RF.ev (.part 26 13) [CHO ch]=some (HT ch.heater):=rfl
theorem K4:RF.ev (.part 39 12) [CHO ch]=some (KH ch.hanger):=rfl
end
def gSl (s:Slots):Bool:=decide (210<s.uses.length)||decide (210<s.used.length)||decide (210<s.free.length)
def gAg (a:Agenda):Bool:=gSl a.slots||decide (210<a.heap.length)||decide (210<a.wher.length)
def gF (l:List Pt):Bool:=(decide (16<l.length)&& decide (l.length<64))||decide (70<l.length)
def gCl (c:Clock):Bool:=decide (40<c.certs.list.length)||decide (40<c.due.length)||gF c.pts||gAg c.agenda
def gKh (k:KHeap):Bool:=gCl k.clock||decide (70<k.heap.length)
def gKt (k:KTourn):Bool:=gCl k.clock||(decide (70<k.brk.places.length)||decide (70<k.brk.wins.length))
def gHt (k:Heater):Bool:=gCl k.clock||decide (70<k.tree.nodes.length)
def gCh (c:Choice):Bool:=gKh c.heap||gKt c.tourn||gHt c.heater||gKh c.hanger
def afm (a b c x y z:Int):RF.ev (.eqv [.i,.i,.i]) [.agg [.i64 a,.i64 b,.i64 c],.agg [.i64 x,.i64 y,.i64 z]]=some (.bool (decide (a=x/\ b=y/\ c=z))):=by
 have:RF.ev (.eqv [.i,.i,.i]) [.agg [.i64 a,.i64 b,.i64 c],.agg [.i64 x,.i64 y,.i64 z]]=some (.bool (decide (a=x)&&(decide (b=y)&&(decide (c=z)&& true)))):=rfl;simp_all
def W6 (p q:Nod):RF.ev (.eqv [.i,.i,.i]) [NP p,NP q]=some (.bool (decide (p=q))):=by
 obtain⟨a,b,c⟩:=p;obtain⟨x,y,z⟩:=q;refine(afm ..).trans ?_;simp_all
def W7 (a b x y:Int):RF.ev (.eqv [.i,.i]) [.agg [.i64 a,.i64 b],.agg [.i64 x,.i64 y]]=some (.bool (decide (a=x/\ b=y))):=by
 have:RF.ev (.eqv [.i,.i]) [.agg [.i64 a,.i64 b],.agg [.i64 x,.i64 y]]=some (.bool (decide (a=x)&&(decide (b=y)&& true))):=rfl;simp_all
def wT (p q:Crt):RF.ev (.eqv [.i,.i]) [CP p,CP q]=some (.bool (decide (p=q))):=by
 obtain⟨a,b⟩:=p;obtain⟨x,y⟩:=q;refine(W7 ..).trans ?_;simp_all
def Ra (p q:Rt):RF.ev (.eqv [.i,.i]) [R p,R q]=some (.bool (decide (p=q))):=by
 obtain⟨a,b⟩:=p;obtain⟨x,y⟩:=q;refine(W7 ..).trans ?_;simp_all
def afn (p q:Evt):RF.ev (.eqv [.i,.i,.i,.i,.i]) [EP p,EP q]=some (.bool (decide (p=q))):=by
 obtain⟨⟨a,b⟩,c,d,e⟩:=p;obtain⟨⟨x,y⟩,z,u,v⟩:=q;have:RF.ev (.eqv [.i,.i,.i,.i,.i]) [EP ⟨⟨a,b⟩,c,⟨d,e⟩⟩,EP ⟨⟨x,y⟩,z,⟨u,v⟩⟩]=some (.bool (decide (a=x)&&(decide (b=y)&&(decide (c=z)&&(decide (d=u)&&(decide (e=v)&& true)))))):=rfl;rw[this]
 congr 2
 grind
structure gW (s:Clock):Prop where
 certs:s.certs.list.length<=1000
 due:s.due.length<=1000
 pts:s.pts.length<=1000
 ag:gAg s.agenda=false
def ac9 {s:Clock}(h:gCl s=false):gW s:=by
 unfold gCl gF at h;simp at h;obtain⟨⟨⟨h1,h2⟩,h3,h3'⟩,h4⟩:=h;exact⟨by omega,by omega,by omega,h4⟩
def afo {s t:Tree}(h:s.nodes.length<=1000):Ans D 132 [TR s,TR t] [.bool (decide (s=t))]:=by
 refine an ⟨1001,?_⟩;unfold Zd;obtain⟨a,b⟩:=s;obtain⟨x,y⟩:=t;simp only at h;simp only[ay,vd,W5,mT,EV,ai,aE,aj];by_cases h1:a=x
 .subst h1;simp only[cJ,ax];by_cases h3:b.length=y.length
  .rw[ac (by omega)];refine(Af (l:=b) (k:=y) h3 (cz (l:=b.zip y) (st:=λi=>[.i64 (i:Int)]) (λi x self hx _=>?_) (λ_ self=>?_) (by rw[i9 h3];omega))).trans ?_
   .obtain⟨hp,hq⟩:=lU hx;unfold FM;simp only[ay,mT,aX hp (nN _),aM hp,aX hq (nN _),aM hq,EG,W6,EV,ai,aa,aE,aj,bi (aL hp),up1 (show i<1000000000 by have:=aL hp;omega)]
    grind
   .rw[i9 h3];unfold FM;simp only[ay,mT,EV,ai,aa,bP,N9]
   .simp[Tree.mk.injEq]
  .rw[ad (by omega),ak (λe=>h3 (by cases e;rfl))]
 .rw[ad h1,ak (λe=>h1 (by cases e;rfl))]
end Go.Proofs.YtoeigdpfcnaaeaaGreat
namespace Go.Sym
open Go.Sym
def ef {α β:Type}(g:β->α->Option β):β->List α->Option β
 |x,[]=>some x
 |x,a::l=>match g x a with
  |some y=>ef g y l
  |none=>none
section
variable {Φ:PhT}{N:Nat}{b:K}{J:List JT}{e:List PV}{α β:Type}{l:List α}
def vl {g:β->α->Option β}{I:β->Prop}{S:β->Nat->List PV}{fin:β->Option (List PV)}{r:Option (List PV)}{x:β}(h0:I x)(hi:∀a acc acc',I acc->g acc a=some acc'->I acc')(hs:∀i a acc self,l[i]?=some a->I acc->den Φ N b (J++[self]) (e++S acc i)=match g acc a with|some acc'=>self (S acc' (i+1))|none=>r)
  (hf:∀acc self,I acc->ef g x l=some acc->den Φ N b (J++[self]) (e++S acc l.length)=fin acc) {m:Nat} (hm:l.length<m):dW Φ N b J e m (S x 0)=match ef g x l with|some acc=>fin acc|none=>r:=by
 have:∀(k:List α) i m acc,l.drop i=k->i<=l.length->k.length<m->I acc->ef g x l=ef g acc k->dW Φ N b J e m (S acc i)=match ef g acc k with|some acc=>fin acc|none=>r:=by
  intro k;induction k with
  |nil=>
   intro i m acc h hi' hm hI hx;obtain⟨m,rfl⟩:∃m',m=m'+1:=⟨m-1,by omega⟩;have:=lg h hi';have hil:i=l.length:=by simpa using this
   rw[bC,hil];exact hf _ _ hI hx
  |cons a k ih=>
   intro i m acc h hi' hm hI hx;obtain⟨m,rfl⟩:∃m',m=m'+1:=⟨m-1,by omega⟩;obtain⟨h1,h2⟩:=gD h;have:=lg h hi';simp only[aV] at hm this;rw[bC,hs i a acc _ h1 hI];have hu:ef g acc (a::k)=match g acc a with|some y=>ef g y k|none=>none:=rfl
   rw[hu] at hx|-;cases hg:g acc a with
   |none=>rfl
   |some acc'=>
    rw[hg] at hx;exact ih (i+1) m _ h2 (by omega) (by omega) (hi a acc acc' hI hg) hx
 exact this l 0 m x rfl (by omega) hm h0 rfl
end
end Go.Sym
namespace Go.Proofs.YtoeigdpfcnaaeaaGreat
open Go.Sym Bnd
set_option maxRecDepth 100000
def nS:∀(xs:List Int) (l:List Bool),ol l xs=ef (λl x=>if 0<=x/\ x<l.length/\ l[x.toNat]?=some false then some (l.set x.toNat true) else none) l xs
 |[],l=>rfl
 |x::xs,l=>by
  unfold ol ef;by_cases h:0<=x/\ x<l.length/\ l[x.toNat]?=some false
  .rw[ad h,ad h];exact nS xs _
  .rw[ac h,ac h]
def K5 {l:List Bool}{i:Nat}(h:i<l.length):RF.ev (.set 0) [sl B1 l,.v (.int .i64 (i:Int)),.v (.bool true)]=some (sl B1 (l.set i true)):=by
 rw[yP,ad (by omega),aF,a8,ah h];exact aW (λx=>some (PV.sl x)) (oy (f:=B1) (l:=l) (i:=i) (a:=true)).symm
def ixM {i n:Nat}(h:i<n):RF.ev .ix [.v (.int .i64 (i:Int)),.v (.int .i64 (n:Int))]=some (.i64 (i:Int)):=by
 rw[acK,ad (by omega)]
def ti {x:Int}(h:0<=x):∃n:Nat,x=(n:Int):=⟨x.toNat,by omega⟩
def bbE (a b:Bool):RF.ev (.bbin .eql) [.v (.bool a),.v (.bool b)]=some (.v (.bool (a==b))):=rfl
open Classical in
def afp (s:Slots)(hf:s.free.length<=1000):Ans D 315 [SL s] [.i64 (okE (decide s.okR))]:=by
 refine an ⟨1001,?_⟩;unfold aaQ;simp only[ay,jS,jT,mn,jU,EV,ai,aa,aE,aj];have no:∀h:¬s.okR,(some [PV.v (.int .i64 8)]:Option (List PV))=some [.i64 (okE (decide s.okR))]:=λh=>by rw[ak h];rfl
 by_cases h1:s.uses.length<1
 .rw[ad (by omega)];exact no (λh=>by have:=h.1;omega)
 .rw[ac (by omega)];by_cases h2:200<s.uses.length
  .rw[ad (by omega)];exact no (λh=>by have:=h.2.1;omega)
  .rw[ac (by omega)];by_cases h3:s.used.length=s.uses.length
   .rw[ac (by omega)];by_cases h4:s.uses.length<s.free.length
    .rw[ad (by omega)];exact no (λh=>by have:=h.2.2.2.1;omega)
    .rw[ac (by omega)];have hrep:RF.ev (.rep [.v (.bool false)] 1) [.v (.int .i64 (s.uses.length:Int)),.v (.int .i64 (s.uses.length:Int))]=some (sl B1 (List.replicate s.uses.length false)):=by
      rw[MU,ad ⟨by omega,by omega,by omega,by omega⟩,aF];show _=some (PV.sl ((List.replicate s.uses.length false).map B1))
      rw[qb];rfl
     simp only[hrep,pP,IJ,MW,ay,EV,ai,aR];refine(vl (l:=s.free) (g:=λl x=>if 0<=x/\ x<l.length/\ l[x.toNat]?=some false then some (l.set x.toNat true) else none) (I:=λl=>l.length=s.uses.length) (S:=λl i=>[sl B1 l,.i64 (i:Int)]) (r:=some [.i64 8])
      (fin:=λ_=>some [.i64 (okE (decide s.okR))]) (x:=List.replicate s.uses.length false) (by simp) (λa acc acc' hI hg=>?_) (λi x acc self hx hI=>?_) (λacc self hI hm=>?_) (by omega)).trans ?_
     .split at hg
      .cases hg;simpa using hI
      .cases hg
     .unfold Hb;have hi:=aL hx;simp only[ay,jU,aX hx (cA _),aM hx,cQ,EV,ai,aa,bi hi];by_cases c1:x<0
      .rw[ad c1,ac (by omega)]
      .rw[ac c1];by_cases c2:(s.uses.length:Int)<=x
       .rw[ad c2,ac (by rw[hI];omega)]
       .rw[ac c2];obtain⟨n,rfl⟩:=ti (show 0<=x by omega)
        obtain⟨b,hb⟩:∃b,acc[n]?=some b:=⟨acc[n]'(by omega),ah _⟩;simp only[ay,jU,aX hx (cA _),aM hx,cQ,ixM (show n<s.uses.length by omega),aM hb,uY,K5 (show n<acc.length by omega),EV,up1 (show i<1000000000 by omega)]
        cases b with
        |true=>rw[ad rfl,ac (by rw[aF,hb];simp)]
        |false=>rw[ac (by simp),ad ⟨by omega,by omega,by rw[aF];exact hb⟩,aF]
     .unfold Hb;simp only[ay,jU,EV,ai,aa,bP,Px];rw[<-nS] at hm;have hlist:(List.range s.uses.length).length=s.uses.length:=mF;refine(eV (n:=s.uses.length) (P:=λi=>∀(u:Int) (b c:Bool),s.uses[i]?=some u->s.used[i]?=some b->acc[i]?=some c->0<=u/\ u<=1000000/\ b≠c/\¬(b=true/\ u<1)) (st:=λi=>[.i64 (i:Int)]) (r:=some [.i64 8]) (fin:=some [.i64 0]) (λi self hi _=>?_) (λ_ self=>?_) (by omega)).trans ?_
      .obtain⟨u,hu⟩:∃u,s.uses[i]?=some u:=⟨s.uses[i],ah _⟩;obtain⟨b,hb⟩:∃b,s.used[i]?=some b:=⟨s.used[i]'(by omega),ah _⟩;obtain⟨c,hc⟩:∃c,acc[i]?=some c:=⟨acc[i]'(by omega),ah _⟩;have hP:(∀(u':Int) (b' c':Bool),s.uses[i]?=some u'->s.used[i]?=some b'->acc[i]?=some c'->0<=u'/\ u'<=1000000/\ b'≠c'/\¬(b'=true/\ u'<1))↔(0<=u/\ u<=1000000/\ b≠c/\¬(b=true/\ u<1)):=
        ⟨λh=>h u b c hu hb hc,λh u' b' c' h1 h2 h3=>by rw[hu] at h1;rw[hb] at h2;rw[hc] at h3;cases h1;cases h2;cases h3;exact h⟩
       unfold Ha;simp only[hP,ay,jT,mn,aX hu (cA _),aM hu,cQ,aX hb (uZ _),aM hb,uY,ixM hi,aM hc,bbE,EV,aa,bi hi,Pw,up1 (show i<1000000000 by omega)]
       by_cases c1:u<0
       .simp only[ad c1,da,az];rw[ac (λh=>by omega)]
       .simp only[ac c1];by_cases c2:1000000<u
        .simp only[ad c2,da,az];rw[ac (λh=>by omega)]
        .simp only[ac c2];cases b<;>cases c<;>simp only[fI,aw,az,ax,da,fg,cJ,db,jv,gS,fJ,iR,aa,show(true==false)=false from rfl,show(false==true)=false from rfl,reduceCtorEq]
         .rw[ad (by omega)]
         .by_cases c3:u<1
          .rw[ad c3,ac (λh=>by omega)]
          .rw[ac c3,ad (by omega)]
      .unfold Ha;simp only[EV,aa,bP,Pv]
      .have:(∀i,i<s.uses.length->∀(u:Int) (b c:Bool),s.uses[i]?=some u->s.used[i]?=some b->acc[i]?=some c->0<=u/\ u<=1000000/\ b≠c/\¬(b=true/\ u<1))↔s.okR:=by
        unfold Slots.okR;constructor
        .intro h;exact⟨by omega,by omega,h3,by omega,acc,hm,λi u b c hu hb hc=>h i (aL hu) u b c hu hb hc⟩
        .rintro⟨_,_,_,_,l,hl,h⟩ i hi u b c hu hb hc;rw[hm] at hl;cases hl;exact h i u b c hu hb hc
       by_cases hr:s.okR
       .rw[ad (this.2 hr),aq hr];rfl
       .rw[ac (λh=>hr (this.1 h)),ak hr];rfl
     .rw[<-nS];cases hm:ol (List.replicate s.uses.length false) s.free with
      |some l=>rfl
      |none=>exact no (λh=>by obtain⟨_,_,_,_,l,hl,_⟩:=h;rw[hm] at hl;cases hl)
   .rw[ad (by omega)];exact no (λh=>h3 h.2.2.1)
def evLess (x y:Evt):Bool:=decide (sgn (crs x.time y.time)<0)||(decide (sgn (crs x.time y.time)=0)&& decide (x.number<y.number))
def ir (e:Evt):RF.ev (.shape 5) [EP e]=some (EP e):=rfl
def pEP (e:Evt):RF.ev (.part 0 2) [EP e]=some (R e.time):=rfl
def vn (e:Evt):RF.ev (.cell 2) [EP e]=some (.i64 e.number):=rfl
def W8 {x y:Evt}(hx:aQ x.time)(hy:aQ y.time):Ans D 317 [EP x,EP y] [.bool (evLess x y)]:=by
 refine am ?_;unfold aaS evLess;simp[ir,pEP,vn,EV,phi (WQ hx hy),Pz]
 grind
def HD (h:Hnd):PV:= .agg [.i64 h.index,.i64 h.use]
def rk (h:Hnd):RF.ev (.shape 2) [HD h]=some (HD h):=rfl
def rm (h:Hnd):RF.ev (.cell 0) [HD h]=some (.i64 h.index):=rfl
def Rb (h:Hnd):RF.ev (.cell 1) [HD h]=some (.i64 h.use):=rfl
def TG (e:Evt):cF 3 2 (ct e)=some (HD e.hnd):=rfl
def TH (e:Evt):cF 3 0 (ct e)=some (.i64 e.hnd.index):=rfl
def ada (e:Evt):cF 2 0 (ct e)=some (.i64 e.number):=rfl
def gO (s:Slots)(h:Hnd):Prop:=0<=h.index/\ s.used[h.index.toNat]?=some true/\ s.uses[h.index.toNat]?=some h.use
open Classical in
def Rc {s:Slots}(hs:s.used.length=s.uses.length)(h:Hnd):Ans D 319 [SL s,HD h] [.bool (decide (gO s h))]:=by
 refine am ?_;unfold aaU;simp only[ay,jS,rk,rm,Rb,jT,mn,EV,ai,aa,PA,bB];by_cases h1:0<=h.index
 .rw[ad h1];obtain⟨n,hn⟩:=ti h1;obtain⟨ix,us⟩:=h;simp only at hn;subst hn;by_cases h2:n<s.uses.length
  .obtain⟨u,hu⟩:∃u,s.uses[n]?=some u:=⟨s.uses[n],ah _⟩;obtain⟨b,hb⟩:∃b,s.used[n]?=some b:=⟨s.used[n]'(by omega),ah _⟩;simp only[bi h2,ay,rm,Rb,jT,mn,aX hu (cA _),aM hu,cQ,aX hb (uZ _),aM hb,uY,EV];have:decide (gO s ⟨(n:Int),us⟩)=(b&& decide (u=us)):=by rw[eu];simp[gO,hu,hb]
   grind
  .rw[ac (show¬((n:Int)<(s.uses.length:Int)) by omega),ak (λhh=>by
    have h3:=(aD.1 hh.2.2).1;exact h2 h3)]
 .rw[ac h1,ak (λhh=>h1 hh.1)]
def pE (a:Agenda):Prop:=a.wher.length=a.slots.uses.length/\ a.heap.length+a.slots.free.length=a.slots.uses.length/\
 ∀(i:Nat) (b:Bool) (w u:Int),a.slots.used[i]?=some b->a.wher[i]?=some w->a.slots.uses[i]?=some u->if b=true then 0<=w/\∃e,a.heap[w.toNat]?=some e/\ e.hnd=⟨i,u⟩ else w= -1
open Classical in
def afq {a:Agenda}(hs:a.slots.used.length=a.slots.uses.length)(hl:a.slots.uses.length<=1000)(hf:a.slots.free.length<=1000):Ans D 316 [AG a] [.bool (decide (pE a))]:=by
 have cAG0:RF.ev (.cell 0) [AG a]=some (sl I1 a.slots.uses):=rfl;have cAG1:RF.ev (.cell 1) [AG a]=some (sl B1 a.slots.used):=rfl;have cAG2:RF.ev (.cell 2) [AG a]=some (sl I1 a.slots.free):=rfl;refine an ⟨1001,?_⟩;unfold aaR;simp only[ay,jE,cAG0,cAG2,fE,mo,EV,ai,aa,aE,aj,cI (show-9223372036854775808<=(a.slots.uses.length:Int)-(a.slots.free.length:Int) by omega) (by omega)]
 by_cases h1:a.wher.length=a.slots.uses.length
 .rw[ac (by omega)];by_cases h2:a.heap.length+a.slots.free.length=a.slots.uses.length
  .rw[ac (by omega)];refine(eV (n:=a.slots.uses.length) (P:=λi=>∀(b:Bool) (w u:Int),a.slots.used[i]?=some b->a.wher[i]?=some w->a.slots.uses[i]?=some u->if b=true then 0<=w/\∃e,a.heap[w.toNat]?=some e/\ e.hnd=⟨i,u⟩ else w= -1) (st:=λi=>[.i64 (i:Int)]) (r:=some [.bool false]) (fin:=some [.bool true]) (λi self hi _=>?_) (λ_ self=>?_) (by omega)).trans ?_
   .obtain⟨u,hu⟩:∃u,a.slots.uses[i]?=some u:=⟨a.slots.uses[i],ah _⟩;obtain⟨b,hb⟩:∃b,a.slots.used[i]?=some b:=⟨a.slots.used[i]'(by omega),ah _⟩;obtain⟨w,hw⟩:∃w,a.wher[i]?=some w:=⟨a.wher[i]'(by omega),ah _⟩;have hP:(∀(b':Bool) (w' u':Int),a.slots.used[i]?=some b'->a.wher[i]?=some w'->a.slots.uses[i]?=some u'->if b'=true then 0<=w'/\∃e,a.heap[w'.toNat]?=some e/\ e.hnd=⟨i,u'⟩ else w'= -1)↔(if b=true then 0<=w/\∃e,a.heap[w.toNat]?=some e/\ e.hnd=⟨i,u⟩ else w= -1):=
     ⟨λh=>h b w u hb hw hu,λh b' w' u' h1 h2 h3=>by rw[hu] at h3;rw[hb] at h1;rw[hw] at h2;cases h1;cases h2;cases h3;exact h⟩
    unfold Hd;simp only[hP,ay,cAG1,fE,mo,pAG,aX hb (uZ _),aM hb,uY,aX hw (cA _),aM hw,cQ,EV,ai,aa,bi hi,Hc,up1 (show i<1000000000 by omega),aE,aj]
    cases b with
    |false=>
     simp only[aw,ax,da,az];by_cases c1:w= -1
     .rw[ac (by simp[c1]),ad c1]
     .rw[ad c1,ac c1]
    |true=>
     simp only[pX,ax,da,az];by_cases c1:w<0
     .rw[ad c1,ac (λh=>by omega)]
     .rw[ac c1];obtain⟨n,rfl⟩:=ti (show 0<=w by omega)
      by_cases c2:n<a.heap.length
      .obtain⟨e,he⟩:∃e,a.heap[n]?=some e:=⟨a.heap[n],ah _⟩;rw[ac (by omega)];simp only[ay,fE,pAG,aX he (jP _),aM he,TH,TG,phi (Rc hs _),EV,aE,aj,aF,he,bY,exists_eq_left',Hc,up1 (show i<1000000000 by omega)]
       by_cases c3:e.hnd.index=(i:Int)
       .rw[ac (by simp[c3])];have hlive:gO a.slots e.hnd↔e.hnd=⟨i,u⟩:=by
         unfold gO;rw[c3,aF,hb,hu];generalize e.hnd=q at c3|-;obtain⟨x,y⟩:=q;simp only at c3;subst c3;simp only[bY,Hnd.mk.injEq,fJ];exact⟨λh=>h.2.symm,λh=>⟨by omega,h.symm⟩⟩
        by_cases c4:e.hnd=⟨i,u⟩
        .rw[ac (by simp[hlive.2 c4]),ad ⟨by omega,c4⟩]
        .rw[ad (λh=>c4 (hlive.1 h)),ac (λh=>c4 h.2)]
       .rw[ad c3,ac (λh=>c3 (by rw[h.2]))]
      .rw[ad (by omega),ac (λh=>by
        obtain⟨_,e,he,_⟩:=h;rw[aF] at he;exact c2 (aL he))]
   .unfold Hd;simp only[EV,aa,bP,Py]
   .have:(∀i,i<a.slots.uses.length->∀(b:Bool) (w u:Int),a.slots.used[i]?=some b->a.wher[i]?=some w->a.slots.uses[i]?=some u->if b=true then 0<=w/\∃e,a.heap[w.toNat]?=some e/\ e.hnd=⟨i,u⟩ else w= -1)↔pE a:=
     ⟨λh=>⟨h1,h2,λi b w u hb hw hu=>h i (aL hu) b w u hb hw hu⟩,λh i _=>h.2.2 i⟩
    by_cases hr:pE a
    .rw[ad (this.2 hr),aq hr]
    .rw[ac (λh=>hr (this.1 h)),ak hr]
  .rw[ad (by omega),ak (λh=>h2 h.2.1)]
 .rw[ad (by omega),ak (λh=>h1 h.1)]
def oJ (e:Evt):Prop:=rok e.time=true/\ 0<=e.number/\ e.number<=1000000
def eO (a:Agenda):Prop:=a.slots.okR/\ pE a/\(∀e∈a.heap,oJ e)/\(a.heap.map (·.number)).Nodup/\∀(i:Nat) (e p:Evt),a.heap[i+1]?=some e->a.heap[i/2]?=some p->evLess e p=false
def K6 {i:Nat}(h:i<1000000):dq .quo .i64 (IntKind.i64.wrap (((i+1:Nat):Int)-1)) .i64 2=some (.v (.int .i64 ((i/2:Nat):Int))):=by
 rw[uU (by omega),Ep,ac (by decide),kr (by omega),cI (by omega) (by omega)];rfl
open Classical in
def Re {a:Agenda}(hl:a.heap.length<=1000)(hf:a.slots.free.length<=1000)(h64:∀e∈a.heap,aQ e.time):Ans D 228 [AG a] [.i64 (okE (decide (eO a)))]:=by
 refine an ⟨1001,?_⟩;unfold Z2;have no:∀h:¬eO a,(some [PV.v (.int .i64 8)]:Option (List PV))=some [.i64 (okE (decide (eO a)))]:=λh=>by rw[ak h];rfl
 simp only[ay,jE,pAG,EV,phi (afp a.slots hf),pC,aa];by_cases h1:a.slots.okR
 .have h1':=h1;obtain⟨g1,g2,g3,g4,_⟩:=h1';rw[ad h1];simp only[EV,phi (afq g3 (by omega) hf),aE,aj];by_cases h2:pE a
  .rw[ac (by simp[h2])];refine(eV (n:=a.heap.length) (P:=λi=>∀e,a.heap[i]?=some e->oJ e/\∀k,k<i->∀e',a.heap[k]?=some e'->e'.number≠e.number) (st:=λi=>[.i64 (i:Int)]) (r:=some [.i64 8]) (fin:=some [.i64 (okE (decide (∀(i:Nat) (e p:Evt),a.heap[i+1]?=some e->a.heap[i/2]?=some p->evLess e p=false)))]) (λi self hi _=>?_) (λ_ self=>?_) (by omega)).trans ?_
   .obtain⟨e,he⟩:∃e,a.heap[i]?=some e:=⟨a.heap[i],ah _⟩;have hP:(∀e',a.heap[i]?=some e'->oJ e'/\∀k,k<i->∀x,a.heap[k]?=some x->x.number≠e'.number)↔(oJ e/\∀k,k<i->∀x,a.heap[k]?=some x->x.number≠e.number):=
     ⟨λh=>h e he,λh e' h1=>by rw[he] at h1;cases h1;exact h⟩
    unfold GF;simp only[hP,ay,fE,aX he (jP _),aM he,iX,pEP,vn,phi (Ey (h64 e (au he))),pC,EV,ai,aa,bi hi];cases c1:rok e.time with
    |false=>
     simp only[aw,ax];rw[ac (λh=>by rw[h.1.1] at c1;cases c1)]
    |true=>
     simp only[az];by_cases c2:e.number<0
     .rw[ad c2,ac (λh=>by have:=h.1.2;omega)]
     .rw[ac c2];by_cases c3:1000000<e.number
      .rw[ad c3,ac (λh=>by have:=h.1.2;omega)]
      .rw[ac c3];refine(eV (n:=i) (P:=λk=>∀x,a.heap[k]?=some x->x.number≠e.number) (st:=λi=>[.i64 (i:Int)]) (r:=some [.i64 8]) (fin:=self [.i64 ((i+1:Nat):Int)]) (λk self' hk _=>?_) (λ_ self'=>?_) (by omega)).trans ?_
       .obtain⟨x,hx⟩:∃x,a.heap[k]?=some x:=⟨a.heap[k]'(by omega),ah _⟩;have hQ:(∀y,a.heap[k]?=some y->y.number≠e.number)↔x.number≠e.number:=⟨λh=>h x hx,λh y hy=>by rw[hx] at hy;cases hy;exact h⟩;unfold GE;simp only[hQ,ay,fE,aX hx (jP _),aM hx,ada,vn,EV,aa,bi hk,up1 (show k<1000000000 by omega)]
        by_cases c4:x.number=e.number
        .rw[ad c4,ac (by simp[c4])]
        .rw[ac c4,ad c4]
       .unfold GE;simp only[EV,aa,bP,O4,up1 (show i<1000000000 by omega)]
       .by_cases c5:∀k,k<i->∀x,a.heap[k]?=some x->x.number≠e.number
        .rw[ad c5,ad ⟨⟨c1,by omega,by omega⟩,c5⟩]
        .rw[ac c5,ac (λh=>c5 h.2)]
   .unfold GF;simp only[ay,fE,EV,ai,aa,bP,O3];refine(eV (n:=a.heap.length-1) (P:=λi=>∀e p,a.heap[i+1]?=some e->a.heap[i/2]?=some p->evLess e p=false) (st:=λi=>[.i64 ((i+1:Nat):Int)]) (r:=some [.i64 8]) (fin:=some [.i64 0]) (λi self hi _=>?_) (λ_ self=>?_) (by omega)).trans ?_
    .obtain⟨e,he⟩:∃e,a.heap[i+1]?=some e:=⟨a.heap[i+1],ah _⟩;obtain⟨p,hp⟩:∃p,a.heap[i/2]?=some p:=⟨a.heap[i/2]'(by omega),ah _⟩;have hQ:(∀e' p',a.heap[i+1]?=some e'->a.heap[i/2]?=some p'->evLess e' p'=false)↔evLess e p=false:=⟨λh=>h e p he hp,λh e' p' h1 h2=>by rw[he] at h1;rw[hp] at h2;cases h1;cases h2;exact h⟩;unfold GD;simp only[hQ,ay,fE,aX he (jP _),aM he,iX,aX hp (jP _),aM hp,K6 (show i<1000000 by omega),phi (W8 (h64 e (au he)) (h64 p (au hp))),mb,EV,ai,aa,bi (aL he),up1 (show i+1<1000000000 by omega)]
     cases evLess e p<;>simp
    .unfold GD;simp only[ay,fE,EV,ai,aa,O2];rw[ac (by omega)]
    .have:(∀i,i<a.heap.length-1->∀e p,a.heap[i+1]?=some e->a.heap[i/2]?=some p->evLess e p=false)↔∀(i:Nat) (e p:Evt),a.heap[i+1]?=some e->a.heap[i/2]?=some p->evLess e p=false:=
      ⟨λh i e p he hp=>h i (by have:=aL he;omega) e p he hp,λh i _=>h i⟩
     by_cases hr:∀(i:Nat) (e p:Evt),a.heap[i+1]?=some e->a.heap[i/2]?=some p->evLess e p=false
     .rw[ad (this.2 hr),aq hr];rfl
     .rw[ac (λh=>hr (this.1 h)),ak hr];rfl
   .have:(∀i,i<a.heap.length->∀e,a.heap[i]?=some e->oJ e/\∀k,k<i->∀e',a.heap[k]?=some e'->e'.number≠e.number)↔((∀e∈a.heap,oJ e)/\(a.heap.map (·.number)).Nodup):=by
     rw[o8];constructor
     .intro h;refine⟨λe he=>?_,λi j x hj hi hjx=>?_⟩
      .obtain⟨i,hi⟩:=aI.1 he;exact(h i (aL hi) e hi).1
      .rw[a8,bM] at hi hjx;obtain⟨e,he,rfl⟩:=hi;obtain⟨e',he',h'⟩:=hjx;exact(h i (aL he) e he).2 j hj e' he' h'
     .rintro⟨h3,h4⟩ i hi e he;refine⟨h3 e (au he),λk hk e' he' hn=>?_⟩;exact h4 i k e.number hk (by rw[a8,he];rfl) (by rw[a8,he',cg,hn])
    by_cases hr:(∀e∈a.heap,oJ e)/\(a.heap.map (·.number)).Nodup
    .rw[ad (this.2 hr)]
     congr 4
     rw[cD];exact⟨λh=>⟨h1,h2,hr.1,hr.2,h⟩,λh=>h.2.2.2.2⟩
    .rw[ac (λh=>hr (this.1 h))];exact no (λh=>hr ⟨h.2.2.1,h.2.2.2.1⟩)
  .rw[ad h2];exact no (λh=>h2 h.2.1)
 .rw[ac h1];exact no (λh=>h1 h.1)
def Crt.ok (c:Crt):Prop:=0<=c.low/\ c.low<=65535/\ 0<=c.high/\ c.high<=65535/\ c.low≠c.high
instance (c:Crt):Decidable c.ok:=by unfold Crt.ok;infer_instance
def W9 (c:Crt):Ans D 314 [CP c] [.bool (decide c.ok)]:=by
 refine am ?_;unfold aaP Crt.ok;simp[kC,jQ,jR,EV,Pu];by_cases h1:0<=c.low<;>by_cases h2:c.low<=65535<;>by_cases h3:0<=c.high<;>by_cases h4:c.high<=65535<;>simp[h1,h2,h3,h4]
def Rf (c:Crt):Ans D 323 [CP c] [.bool (decide c.ok)]:=by
 have m1:RF.ev (.mm false) [.i64 c.low,.i64 c.high]=some (.i64 (min c.low c.high)):=rfl;have m2:RF.ev (.mm true) [.i64 c.low,.i64 c.high]=some (.i64 (max c.low c.high)):=rfl;refine am ?_;unfold aaY Crt.ok;simp[kC,jQ,jR,m1,m2,EV,PD];by_cases h1:0<=c.low<;>by_cases h2:c.low<=65535<;>by_cases h3:0<=c.high<;>by_cases h4:c.high<=65535<;>simp[h1,h2,h3,h4,Int.le_min,Int.max_le]
def dy (c:Certs):Prop:=c.list.length<=200/\ 0<=c.next/\ c.next<=1000000/\∀(i:Nat) (h:Held),c.list[i]?=some h->h.cert.ok/\ 0<=h.number/\ h.number<c.next/\(∀g,0<i->c.list[i-1]?=some g->g.number<h.number)/\∀k,k<i->∀g,c.list[k]?=some g->g.cert≠h.cert
open Classical in
def Xa (c:Certs):Ans D 226 [CS c] [.i64 (okE (decide (dy c)))]:=by
 refine an ⟨1001,?_⟩;unfold Z0;have no:∀h:¬dy c,(some [PV.v (.int .i64 8)]:Option (List PV))=some [.i64 (okE (decide (dy c)))]:=λh=>by rw[ak h];rfl
 simp only[ay,kD,nO,gg,EV,ai,aa];by_cases h1:200<c.list.length
 .rw[ad (by omega)];exact no (λh=>by have:=h.1;omega)
 .rw[ac (by omega)];by_cases h2:c.next<0
  .rw[ad h2];exact no (λh=>by have:=h.2.1;omega)
  .rw[ac h2];by_cases h3:1000000<c.next
   .rw[ad h3];exact no (λh=>by have:=h.2.2.1;omega)
   .rw[ac h3];refine(eV (n:=c.list.length) (P:=λi=>∀h,c.list[i]?=some h->h.cert.ok/\ 0<=h.number/\ h.number<c.next/\(∀g,0<i->c.list[i-1]?=some g->g.number<h.number)/\∀k,k<i->∀g,c.list[k]?=some g->g.cert≠h.cert) (st:=λi=>[.i64 (i:Int)]) (r:=some [.i64 8]) (fin:=some [.i64 0]) (λi self hi _=>?_) (λ_ self=>?_) (by omega)).trans ?_
    .obtain⟨h,hh⟩:∃h,c.list[i]?=some h:=⟨c.list[i],ah _⟩;have hP:(∀h',c.list[i]?=some h'->h'.cert.ok/\ 0<=h'.number/\ h'.number<c.next/\(∀g,0<i->c.list[i-1]?=some g->g.number<h'.number)/\∀k,k<i->∀g,c.list[k]?=some g->g.cert≠h'.cert)↔(h.cert.ok/\ 0<=h.number/\ h.number<c.next/\(∀g,0<i->c.list[i-1]?=some g->g.number<h.number)/\∀k,k<i->∀g,c.list[k]?=some g->g.cert≠h.cert):=
      ⟨λx=>x h hh,λx h' e=>by rw[hh] at e;cases e;exact x⟩
     have inner:∀(f:JT) (e0 e2 e3 e4 e5 e6 e7 e8 e10 e11 e12 e13 e14 e16 e17 e18 e19 e20:PV),den (bL D) 1001 rF [f,self] [e0,CS c,e2,e3,e4,e5,e6,e7,e8,.i64 (i:Int),e10,e11,e12,e13,e14,HP h,e16,e17,e18,e19,e20,.v (.bool false)]=if(∀k,k<i->∀g,c.list[k]?=some g->g.cert≠h.cert) then self [.i64 ((i+1:Nat):Int)] else some [.i64 8]:=λf e0 e2 e3 e4 e5 e6 e7 e8 e10 e11 e12 e13 e14 e16 e17 e18 e19 e20=>by
      unfold rF;simp only[EV,aw,ax];refine(eV (m:=1001) (n:=i) (P:=λk=>∀g,c.list[k]?=some g->g.cert≠h.cert) (st:=λi=>[.i64 (i:Int)]) (r:=some [.i64 8]) (fin:=self [.i64 ((i+1:Nat):Int)]) (λk self' hk _=>?_) (λ_ self'=>?_) (by omega)).trans ?_
      .obtain⟨g,hg⟩:∃g,c.list[k]?=some g:=⟨c.list[k]'(by omega),ah _⟩;have hQ:(∀y,c.list[k]?=some y->y.cert≠h.cert)↔g.cert≠h.cert:=⟨λx=>x g hg,λx y hy=>by rw[hg] at hy;cases hy;exact x⟩;unfold GA;simp only[hQ,ay,gg,aX hg (gL _),aM hg,KW,pHP,wT,EV,aa,bi hk,up1 (show k<1000000000 by omega)]
       by_cases c4:g.cert=h.cert
       .rw[ad c4,ac (by simp[c4])]
       .rw[ac c4,ad c4]
      .unfold GA;simp only[EV,aa,bP,O0,up1 (show i<1000000000 by omega)]
      .by_cases hq:∀k,k<i->∀g,c.list[k]?=some g->g.cert≠h.cert
       .rw[ad hq,ad hq]
       .rw[ac hq,ac hq]
     unfold GB;simp only[hP,ay,nO,gg,aX hh (gL _),aM hh,lr,pHP,lu,phi (W9 _),EV,ai,aa,bi hi,aE,aj,bB,cw];by_cases c1:h.cert.ok
     .rw[ac (ku c1)];by_cases c2:h.number<0
      .rw[ad c2,ac (λx=>by have:=x.2.1;omega)];unfold rF;simp only[EV,da,az]
      .rw[ac c2];by_cases c3:c.next<=h.number
       .rw[ad c3,ac (λx=>by have:=x.2.2.1;omega)];unfold rF;simp only[EV,da,az]
       .rw[ac c3];cases i with
        |zero=>
         rw[ac (by omega)];refine(inner ..).trans ?_;rw[ad (λk hk=>by omega),ad ⟨c1,by omega,by omega,λg h0=>by omega,λk hk=>by omega⟩]
        |succ j=>
         obtain⟨g,hg⟩:∃g,c.list[j]?=some g:=⟨c.list[j]'(by omega),ah _⟩;rw[ad (by omega)];simp only[ay,lu,uU (show j<1000000000 by omega),aX hg (gL _),aM hg,ac6,EV,bB]
         by_cases c4:h.number<=g.number
         .rw[aq c4,ac (λx=>by have:=x.2.2.2.1 g (by omega) (by simpa using hg);omega)]
          unfold rF;simp only[EV,da,az]
         .rw[ak c4];refine(inner ..).trans ?_;by_cases c5:∀k,k<j+1->∀g,c.list[k]?=some g->g.cert≠h.cert
          .rw[ad c5,ad ⟨c1,by omega,by omega,λg' _ hg'=>by
            rw[show j+1-1=j by omega,hg] at hg';cases hg';omega,c5⟩]
          .rw[ac c5,ac (λx=>c5 x.2.2.2.2)]
     .rw[ad c1,ac (λx=>c1 x.1)];unfold rF;simp only[EV,da,az]
    .unfold GB;simp only[ay,gg,EV,ai,aa,bP,OZ]
    .have:(∀i,i<c.list.length->∀h,c.list[i]?=some h->h.cert.ok/\ 0<=h.number/\ h.number<c.next/\(∀g,0<i->c.list[i-1]?=some g->g.number<h.number)/\∀k,k<i->∀g,c.list[k]?=some g->g.cert≠h.cert)↔dy c:=
      ⟨λh=>⟨by omega,by omega,by omega,λi x hx=>h i (aL hx) x hx⟩,λh i _=>h.2.2.2 i⟩
     by_cases hr:dy c
     .rw[ad (this.2 hr),aq hr];rfl
     .rw[ac (λh=>hr (this.1 h)),ak hr];rfl
def inF (l:List Pt)(id:Int):Bool:=decide (0<=pos l id)
def ea {l:List Pt}(h:okF l){id:Int}(hi:inF l id=true):∃(i:Nat) (p:Pt),l[i]?=some p/\ p.id=id/\ pos l id=(i:Nat)/\ be l id=p:=by
 have hi:=aT hi;rcases pos_cases l id with⟨e,_⟩|⟨i,p,h1,h2,h3⟩
 .omega
 .exact⟨i,p,h1,h2,h3,by rw[<-h2];exact gK h h1⟩
def JH {l:List Pt}{id:Int}(hi:inF l id=false):∀p∈l,p.id≠id:=by
 have hi:=of_decide_eq_false hi;rcases pos_cases l id with⟨_,h⟩|⟨i,p,h1,h2,h3⟩
 .exact h
 .omega
def dT (l:List Pt)(h:Held):Bool:=inF l h.cert.low&& inF l h.cert.high
def afr {c:Certs}{l:List Pt}(hl:l.length<=1000)(hc:c.list.length<=1000):Ans D 227 [CS c,F l] [.bool (c.list.all (dT l))]:=by
 refine an ⟨1001,?_⟩;unfold Z1;simp[kD,bv,EV];refine(cz (l:=c.list) (p:=dT l) (st:=λi=>[.i64 (i:Int)]) (r:=some [.bool false]) (fin:=some [.bool true]) (λi h self hh _=>?_) (λ_ self=>?_) (by omega)).trans ?_
 .unfold GC dT inF;simp[gg,aX hh (gL _),aM hh,ac7,ac8,phi (tf hl _),EV,up1 (show i<1000000000 by have:=aL hh;omega)]
  grind
 .unfold GC;simp only[ay,gg,EV,ai,aa,bP,O1]
 .grind
def adb {o:Option Nat}:o.elim (some [PV.bool false]) (λ_=>some [.bool true])=some [.bool o.isSome]:=by cases o<;>rfl
def Xc {c:Certs}{x:Crt}(hc:c.list.length<=1000):Ans D 231 [CS c,CP x] [.bool (c.list.any λh=>decide (h.cert=x))]:=by
 refine an ⟨1001,?_⟩;unfold Z4;simp[kD,kC,EV];refine(oI (l:=c.list) (p:=λh=>decide (h.cert=x)) (st:=λi=>[.i64 (i:Int)]) (ret:=λ_=>some [.bool true]) (fin:=some [.bool false]) (λi h self hh=>?_) (λself=>?_) (by omega)).trans (adb.trans ?_)
 .unfold GG;simp only[gg,aX hh (gL _),aM hh,KW,wT,EV,ai,aa,bi (aL hh),up1 (show i<1000000000 by have:=aL hh;omega)]
 .unfold GG;simp[gg,EV,O5]
 .grind
def afs {x:Crt}{l:List Pt}{t:Rt}(h:okF l)(ht:aQ t)(h1:inF l x.low=true)(h2:inF l x.high=true):Ans D 232 [CP x,F l,R t] [.bool (leads t (be l x.high) (be l x.low))]:=by
 obtain⟨i,p,a1,a2,a3,a4⟩:=ea h h1;obtain⟨j,q,b1,b2,b3,b4⟩:=ea h h2;have q1:=phi (tf (l:=l) (by have:=h.1;omega) x.low);have q2:=phi (tf (l:=l) (by have:=h.1;omega) x.high);rw[a3] at q1;rw[b3] at q2;refine am ?_;unfold Z5;simp[kC,bv,bm,jQ,jR,cG,q1,q2,aX a1 (cq _),aM a1,aX b1 (cq _),aM b1,gJ,EV,phi (ED (dH h b1) (dH h a1) ht),a4,b4]
def Xd {x:Crt}{l:List Pt}{t:Rt}(h:okF l)(ht:aQ t)(h1:inF l x.low=true)(h2:inF l x.high=true):Ans D 229 [F l,CP x,R t] [R (cB t (be l x.high) (be l x.low)).1,.bool (cB t (be l x.high) (be l x.low)).2]:=by
 obtain⟨i,p,a1,a2,a3,a4⟩:=ea h h1;obtain⟨j,q,b1,b2,b3,b4⟩:=ea h h2;have q1:=phi (tf (l:=l) (by have:=h.1;omega) x.low);have q2:=phi (tf (l:=l) (by have:=h.1;omega) x.high);rw[a3] at q1;rw[b3] at q2;refine am ?_;unfold Z3;simp[kC,bv,bm,jQ,jR,cG,q1,q2,aX a1 (cq _),aM a1,aX b1 (cq _),aM b1,gJ,KS,EV,phi (afe (dH h b1) (dH h a1) ht),a4,b4]
def Rg {x:Crt}{l:List Pt}{t:Rt}(h:okF l)(ht:aQ t):Ans D 241 [F l,CP x,R t] (if kB (be l x.high) (be l x.low) t=0 then [R (cB t (be l x.high) (be l x.low)).1,.bool (cB t (be l x.high) (be l x.low)).2,.i64 0] else [R ⟨0,0⟩,.bool false,.i64 (kB (be l x.high) (be l x.low) t)]):=by
 refine am ?_;unfold aad;by_cases hz:kB (be l x.high) (be l x.low) t=0
 .have:=phi (WY (p:=be l x.high) (q:=be l x.low) ht);rw[ad hz] at this|-;simp[kC,bv,bm,jQ,jR,KS,EV,phi (BV h _),this]
 .have:=phi (WY (p:=be l x.high) (q:=be l x.low) ht);rw[ac hz] at this|-;simp[kC,bv,bm,jQ,jR,KS,EV,phi (BV h _),this]
def Xe:RF.ev .agg [.i64 0,.i64 0,.i64 0,.i64 0,.i64 0]=some (EP ⟨⟨0,0⟩,0,⟨0,0⟩⟩):=rfl
def adc (e:Evt):RF.ev .flat [EP e]=some (EP e):=rfl
def afu (e:Evt):RF.ev (.shape 5) [EP e]=some (EP e):=rfl
def ade (e:Evt):RF.ev (.part 0 5) [EP e]=some (EP e):=rfl
def EH {a:Agenda}(h:eO a){x:Hnd}(hl:gO a.slots x):∃(i:Nat) (w:Int) (n:Nat) (e:Evt),x.index=i/\ a.wher[i]?=some w/\ w=(n:Int)/\ a.heap[n]?=some e/\ e.hnd=x:=by
 obtain⟨l1,l2,l3⟩:=hl;obtain⟨i,hi⟩:=ti l1;rw[hi,aF] at l2 l3;obtain⟨w,hw⟩:∃w,a.wher[i]?=some w:=⟨a.wher[i]'(by have:=aL l3;have:=h.2.1.1;omega),ah _⟩;have:=h.2.1.2.2 i true w x.use l2 hw l3;rw[ad rfl] at this;obtain⟨w0,e,he,hx⟩:=this;obtain⟨n,hn⟩:=ti w0;rw[hn,aF] at he;exact⟨i,w,n,e,hi,hw,hn,he,by rw[hx,<-hi]⟩
open Classical in
def afv {a:Agenda}(h:eO a)(hl:a.heap.length<=1000)(hf:a.slots.free.length<=1000)(h64:∀e∈a.heap,aQ e.time)(x:Hnd):(¬gO a.slots x->Ans D 230 [AG a,HD x] [EP ⟨⟨0,0⟩,0,⟨0,0⟩⟩,.i64 6])/\∀(i n:Nat) (e:Evt),x.index=i->a.wher[i]?=some (n:Int)->a.heap[n]?=some e->gO a.slots x->Ans D 230 [AG a,HD x] [EP e,.i64 0]:=by
 have hc:=phi (Re hl hf h64);rw[aq h] at hc;have e0:okE true=0:=rfl;rw[e0] at hc;constructor
 .intro hn;refine am ?_;unfold RY;simp[jE,rk,pAG,Xe,EV,hc,phi (Rc h.1.2.2.1 x),ak hn]
 .intro i n e hi hw he hl;refine am ?_;unfold RY;simp[jE,rk,pAG,Xe,adc,ade,afu,EV,hc,phi (Rc h.1.2.2.1 x),aq hl,fE,mo,rm,hi,aX hw (cA _),aM hw,cQ,aX he (jP _),aM he,iX]
def ph (a:Agenda)(d:Due)(number:Int)(t:Rt):Prop:=d.number=number/\ gO a.slots d.hnd/\∀(i n:Nat) (e:Evt),d.hnd.index=i->a.wher[i]?=some (n:Int)->a.heap[n]?=some e->e.number=number/\ e.time=t
open Classical in
def dX (c:Clock)(left:List Due)(h:Held):Option (List Due):=
 if dT c.pts h=true then
  (if(cB c.now (be c.pts h.cert.high) (be c.pts h.cert.low)).2=true then
   (match left with
    |[]=>none
    |d::rest=>if ph c.agenda d h.number (cB c.now (be c.pts h.cert.high) (be c.pts h.cert.low)).1 then some rest else none)
  else some left)
 else none
def bD (c:Clock):Prop:=rok c.now=true/\ okF c.pts/\ dy c.certs/\ eO c.agenda/\ c.agenda.wher.length=200/\ c.agenda.heap.length=c.due.length/\ ef (dX c) c.due c.certs.list=some []
def fF (c:Clock):Prop:=aQ c.now/\∀e∈c.agenda.heap,aQ e.time
def Ag {c:Clock}:∀{l:List Held} {left out:List Due},ef (dX c) left l=some out->l.all (dT c.pts)=true
 |[],_,_,_=>rfl
 |h::l,left,out,hh=>by
  unfold ef dX at hh;rw[dF];by_cases hk:dT c.pts h=true
  .rw[hk,gc];split at hh
   .exact Ag hh
   .cases hh
  .rw[ac hk] at hh;cases hh
def Rh {α:Type}{l rest:List α}{k:Nat}{d:α}(h:l.drop k=d::rest):l.drop (k+1)=rest:=(gD h).2
def BW (h:Held):RF.ev (.cell 1) [HP h]=some (.i64 h.cert.low):=rfl
def BX (h:Held):RF.ev (.cell 2) [HP h]=some (.i64 h.cert.high):=rfl
def TI (d:Due):cF 0 0 (cR d)=some (.i64 d.number):=rfl
def K7 (d:Due):cF 1 2 (cR d)=some (HD d.hnd):=rfl
open Classical in
def K8 {c:Clock}(h64:fF c)(hg:gCl c=false):Ans D 133 [CL c] [.i64 (okE (decide (bD c)))]:=by
 unfold gCl gAg gSl at hg;simp only[eG,aj] at hg;have no:∀h:¬bD c,(some [PV.v (.int .i64 8)]:Option (List PV))=some [.i64 (okE (decide (bD c)))]:=λh=>by rw[ak h];rfl
 refine an ⟨1001,?_⟩;unfold Ze;simp only[ay,cZ,gM,io,rj,nP,mq,nQ,fA,EV,ai,phi (Ey h64.1),phi (W1 _),phi (Xa _),phi (Re (a:=c.agenda) (by omega) (by omega) h64.2),i8,aE,aj,aa];by_cases h1:rok c.now=true
 .rw[ad h1];by_cases h2:gk c.pts=0
  .have h2':=eL.1 h2;rw[ac (by simp[h2])];by_cases h3:dy c.certs
   .rw[ad h3];simp only[ay,nP,mq,nQ,fA,EV,ai,phi (afr (c:=c.certs) (l:=c.pts) (by have:=h2'.1;omega) (by omega)),phi (Re (a:=c.agenda) (by omega) (by omega) h64.2),i8,aE,aj,aa];by_cases h4:c.certs.list.all (dT c.pts)=true
    .rw[ac (by simp[h4])];by_cases h5:eO c.agenda
     .rw[ad h5];by_cases h6:c.agenda.wher.length=200
      .rw[ac (by omega)];by_cases h7:c.agenda.heap.length=c.due.length
       .rw[ac (by omega)];have e0:([PV.v (.int .i64 0),.v (.int .i64 0)]:List PV)=[.i64 ((c.due.length-c.due.length:Nat):Int),.i64 ((0:Nat):Int)]:=by rw[iQ];rfl
        rw[e0];refine(vl (m:=1001) (l:=c.certs.list) (b:=AL) (g:=dX c) (I:=λleft=>left=c.due.drop (c.due.length-left.length)/\ left.length<=c.due.length) (S:=λleft i=>[.i64 ((c.due.length-left.length:Nat):Int),.i64 (i:Int)]) (r:=some [.i64 8]) (fin:=λleft=>some [.i64 (if left=[] then 0 else 8)]) (x:=c.due) (by simp) (λh left out hI hg=>?_) (λi h left self hh hI=>?_) (λleft self hI hm=>?_) (by omega)).trans ?_
        .unfold dX at hg;split at hg
         .split at hg
          .cases left with
           |nil=>cases hg
           |cons d rest=>
            simp only at hg;split at hg
            .cases hg;obtain⟨e1,e2⟩:=hI;simp only[aV] at e1 e2;refine⟨?_,by omega⟩;rw[show c.due.length-out.length=c.due.length-(out.length+1)+1 by omega]
             exact(Rh e1.symm).symm
            .cases hg
          .cases hg;exact hI
         .cases hg
        .obtain⟨hI1,hI2⟩:=hI;have hk:dT c.pts h=true:=aS.1 h4 h (au hh);have hk':=hk;unfold dT at hk';simp only[aH] at hk';unfold AL dX;rw[ad hk];generalize hF:cB c.now (be c.pts h.cert.high) (be c.pts h.cert.low)=FT;have hw:=phi (Xd (x:=h.cert) (t:=c.now) h2' h64.1 hk'.1 hk'.2);rw[hF] at hw;simp only[ay,jx,fA,gM,io,nP,aX hh (gL _),aM hh,lr,pHP,lu,bm,hw,EV,ai,aa,bi (aL hh),bB,aE];cases hF2:FT.2 with
         |false=>
          simp only[da,az,aw,ax];simp only[ay,lu,BW,BX,nL,nM,EV,FN,up1 (show i<1000000000 by have:=aL hh;omega)]
         |true=>
          simp only[pX,ax,az];cases left with
          |nil=>rw[ad (by simp)]
          |cons d rest=>
           simp only[aV] at hI1 hI2|-;have hd:c.due[c.due.length-(rest.length+1)]?=some d:=by
            have:=aW (λl=>l[0]?) hI1;simp only[i7,fN,lS] at this;exact this.symm
           rw[ac (by omega)];simp only[ay,fA,nP,aX hd (u9 _),aM hd,TI,K7,lu,EV,aE,aj];by_cases n1:d.number=h.number
           .rw[ac (by simp[n1])];obtain⟨q1,q2⟩:=afv h5 (by omega) (by omega) h64.2 d.hnd;by_cases n2:gO c.agenda.slots d.hnd
            .obtain⟨ix,w,n,e,x1,x2,x3,x4,x5⟩:=EH h5 n2;subst x3;have hD:ph c.agenda d h.number FT.1↔(e.number=h.number/\ e.time=FT.1):=
              ⟨λy=>y.2.2 ix n e x1 x2 x4,λy=>⟨n1,n2,λi' n' e' y1 y2 y3=>by
               rw[x1] at y1;have:ix=i':=by omega
               subst this;rw[x2] at y2;have:n=n':=by
                have:(n:Int)=n':=by simpa using y2
                omega
               subst this;rw[x4] at y3;cases y3;exact y⟩⟩
             simp only[ay,ir,vn,pEP,lu,BW,BX,nL,nM,Ra,phi (q2 ix n e x1 x2 x4 n2),EV,aA,aJ,aw,ax,aE,aj];by_cases n3:e.number=h.number
             .rw[ac (by simp[n3])];by_cases n4:e.time=FT.1
              .rw[ac (by simp[n4]),ad (hD.2 ⟨n3,n4⟩)];simp only[FN,EV,up1 (show i<1000000000 by have:=aL hh;omega),up1 (show c.due.length-(rest.length+1)<1000000000 by omega)]
               rw[show c.due.length-(rest.length+1)+1=c.due.length-rest.length by omega]
              .rw[ad n4,ac (λy=>n4 (hD.1 y).2)]
             .rw[ad n3,ac (λy=>n3 (hD.1 y).1)]
            .simp only[ay,ir,phi (q1 n2),EV,Int.reduceEq,db,az,aY,bZ];rw[ac (λy=>n2 y.2.1)]
           .rw[ad n1,ac (λy=>n1 y.1)]
        .unfold AL;simp only[ay,jx,fA,EV,ai,aa,bP,Oa,aE,aj];cases left with
         |nil=>rw[ac (by simp),ad rfl]
         |cons d rest=>
          rw[ad (by have:=hI.2;simp only[aV] at this|-;omega),ac (by simp)]
        .cases hm:ef (dX c) c.due c.certs.list with
         |none=>exact no (λh=>by rw[h.2.2.2.2.2.2] at hm;cases hm)
         |some left=>
          cases left with
          |nil=>rw[aq (show bD c from⟨h1,h2',h3,h5,h6,h7,hm⟩)];rfl
          |cons d rest=>exact no (λh=>by rw[h.2.2.2.2.2.2] at hm;cases hm)
       .rw[ad (by omega)];exact no (λh=>h7 h.2.2.2.2.2.1)
      .rw[ad (by omega)];exact no (λh=>h6 h.2.2.2.2.1)
     .rw[ac h5];exact no (λh=>h5 h.2.2.2.1)
    .rw[ad (by simpa using h4)]
     exact no (λh=>h4 (Ag h.2.2.2.2.2.2))
   .rw[ac h3];exact no (λh=>h3 h.2.2.1)
  .rw[ad h2];exact no (λh=>h2 (eL.2 h.2.1))
 .rw[ac h1];exact no (λh=>h1 h.1)
end Go.Proofs.YtoeigdpfcnaaeaaGreat
