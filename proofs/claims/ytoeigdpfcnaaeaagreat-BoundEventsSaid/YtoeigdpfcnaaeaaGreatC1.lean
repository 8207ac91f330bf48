import Derived.Test.YtoeigdpfcnaaeaaGreatM3
import Derived.Test.YtoeigdpfcnaaeaaGreatP1
import Derived.Test.YtoeigdpfcnaaeaaGreatBcT
import Derived.Test.YtoeigdpfcnaaeaaGreatN1
import Derived.IntWalk
set_option linter.unusedVariables false
set_option linter.unusedSimpArgs false
set_option linter.defProp false
noncomputable section
namespace Go.Sym
open Go.Sym
section
variable {Φ:PhT}{N:Nat}{b:K}{J:List JT}{e:List PV}
def eG {n:Nat}{st:Nat->List PV}{fin:Option (List PV)}(hs:∀i self,i<n->den Φ N b (J++[self]) (e++st i)=self (st (i+1)))
  (hf:∀self,den Φ N b (J++[self]) (e++st n)=fin):∀m,n<m->dl Φ N b J e m (st 0)=fin:=by
 have:∀d i m,i+d=n->d<m->dl Φ N b J e m (st i)=fin:=by
  intro d;induction d with
  |zero=>
   intro i m h hm;obtain⟨m,rfl⟩:∃m',m=m'+1:=⟨m-1,by omega⟩;rw[bu,show i=n by omega]
   exact hf _
  |succ d ih=>
   intro i m h hm;obtain⟨m,rfl⟩:∃m',m=m'+1:=⟨m-1,by omega⟩;rw[bu,hs i _ (by omega)]
   grind
 grind
def XP {n:Nat}{st:Nat->List PV}{P:Nat->Prop}{fin r:Option (List PV)}(hs:∀i self,i<n->(∀j,j<i->P j)->P i->den Φ N b (J++[self]) (e++st i)=self (st (i+1)))
  (hr:∀i self,i<n->(∀j,j<i->P j)->¬P i->den Φ N b (J++[self]) (e++st i)=r)
  (hf:(∀j,j<n->P j)->∀self,den Φ N b (J++[self]) (e++st n)=fin) {m:Nat} (hm:n<m):((∀j,j<n->P j)->dl Φ N b J e m (st 0)=fin)/\((¬∀j,j<n->P j)->dl Φ N b J e m (st 0)=r):=by
 have:∀d i m,i+d=n->d<m->(∀j,j<i->P j)->((∀j,j<n->P j)->dl Φ N b J e m (st i)=fin)/\((¬∀j,j<n->P j)->dl Φ N b J e m (st i)=r):=by
  intro d;induction d with
  |zero=>
   intro i m h hm hp;obtain⟨m,rfl⟩:∃m',m=m'+1:=⟨m-1,by omega⟩;have hin:i=n:=by omega
   subst hin;refine⟨λh=>?_,λh=>absurd hp h⟩;rw[bu];exact hf h _
  |succ d ih=>
   intro i m h hm hp;obtain⟨m,rfl⟩:∃m',m=m'+1:=⟨m-1,by omega⟩;rw[bu];by_cases hi:P i
   .grind
   .grind
 grind
open Classical in
def fI {n:Nat}{st:Nat->List PV}{P:Nat->Prop}{fin r:Option (List PV)}(hs:∀i self,i<n->(∀j,j<i->P j)->den Φ N b (J++[self]) (e++st i)=if P i then self (st (i+1)) else r)
  (hf:(∀j,j<n->P j)->∀self,den Φ N b (J++[self]) (e++st n)=fin) {m:Nat} (hm:n<m):dl Φ N b J e m (st 0)=if(∀j,j<n->P j) then fin else r:=by
 have:=XP (n:=n) (st:=st) (P:=P) (fin:=fin) (r:=r) (λi self h1 h2 h3=>by rw[hs i self h1 h2,ad h3]) (λi self h1 h2 h3=>by rw[hs i self h1 h2,ac h3]) hf hm
 grind
end
end Go.Sym
namespace Go.Proofs.YtoeigdpfcnaaeaaGreat
open Go.Sym Bnd
set_option maxRecDepth 100000
def U (n:Nat):PV:= .v (.int .u64 (n:Int))
def phi {g:FuncId}{vs rs:List PV}(h:Ans D g vs rs):bx D g vs=some rs:=afy h
def Dm {n:Int}(h:I64 n):Ans D 166 [.i64 n] [U n.natAbs]:=by
 obtain⟨h1,h2⟩:=h;refine am ?_;unfold ab2;simp[EV];by_cases hn:n<0
 .rw[ad hn,my,my]
  congr 4
  omega
 .rw[ac hn,my]
  congr 4
  omega
def F4 {n:Int}(h:I64 n):Ans D 75 [.i64 n] [U n.natAbs]:=by
 obtain⟨h1,h2⟩:=h;refine am ?_;unfold abj;simp[EV];by_cases hn:n<0
 .rw[ad hn,my,my,IntKind.wrap_i64,IntKind.wrap_i64]
  congr 4
  omega
 .rw[ac hn,my]
  congr 4
  omega
def F5 {Φ:PhT}{N:Nat}{f:JT}{p q:PV}:∀(n a b:Nat),b<n->dl Φ N Ci [f] [p,q] n [U b,U a]=f [U (Nat.gcd b a)]
 |0,a,b,h=>by omega
 |n+1,a,b,h=>by
  rw[bu];unfold Ci U;simp[EV,F0];by_cases hb:0<b
  .rw[ad (by omega),ac (by omega)];simp[EV];have:=F5 (Φ:=Φ) (N:=N) (f:=f) (p:=p) (q:=q) n b (a% b) (by have:=x6 a hb;omega);unfold Ci U at this;rw[<-Nat.gcd_rec b a] at this;rw[<-this];rfl
  .rw[ac (by omega)];have:b=0:=by omega
   subst this;rw[Nat.gcd_zero_left]
def Zh (a b:Nat):Ans D 192 [U a,U b] [U (Nat.gcd b a)]:=by
 refine an ⟨b+1,?_⟩;unfold ab6;simp[EV];rw[F5 _ _ _ (hG b)];unfold Q4 U;simp[EV]
def As {Φ:PhT}{N:Nat}{f:JT}{p q:PV}:∀(n a b:Nat),b<n->dl Φ N BZ [f] [p,q] n [U b,U a]=f [U (Nat.gcd b a)]
 |0,a,b,h=>by omega
 |n+1,a,b,h=>by
  rw[bu];unfold BZ U;simp only[EV,F0,aE,aj];by_cases hb:0<b
  .rw[ad (by omega),ac (by omega)];simp;have:=As (Φ:=Φ) (N:=N) (f:=f) (p:=p) (q:=q) n b (a% b) (by have:=x6 a hb;omega);unfold BZ U at this;rw[<-Nat.gcd_rec b a] at this;rw[<-this];rfl
  .rw[ac (by omega)];have:b=0:=by omega
   subst this;rw[Nat.gcd_zero_left]
def Zi (a b:Nat):Ans D 74 [U a,U b] [U (Nat.gcd b a)]:=by
 refine an ⟨b+1,?_⟩;unfold abi;simp[EV];rw[As _ _ _ (hG b)];unfold Qe U;simp[EV]
def okE (b:Bool):Int:=if b then 0 else 8
def LG {d:Int}(h:0<=d)(k:d<=9223372036854775807):PV.v (.int .u64 (IntKind.u64.wrap d))=U d.natAbs:=by
 rw[my]
 congr 2
 omega
def c43 {r:Rt}(h:aS r):Ans D 95 [R r] [.i64 (okE (rok r))]:=by
 obtain⟨⟨n1,n2⟩,d1,d2⟩:=h;refine am ?_;unfold k43 R;simp only[EV,aa,az,cQ,phi (Dm ⟨n1,n2⟩)];by_cases hd:r.den<1
 .rw[ad hd];unfold rok;rw[ak (by omega)];rfl
 .rw[ac hd];by_cases hn:r.num= -9223372036854775808
  .rw[ad hn];unfold rok;rw[aq hn];simp[okE]
  .rw[ac hn,LG (by omega) d2,phi (Zh _ _)];simp only[EV,U,aa];have hg:0<Nat.gcd r.num.natAbs r.den.natAbs:=gD _ (by omega);unfold rok;by_cases h1:(Nat.gcd r.num.natAbs r.den.natAbs)=1
   .rw[ac (by omega),aq h1,aq (show 1<=r.den by omega),ak hn]
    rfl
   .rw[ad (by omega),ak h1,qE];rfl
def ql {r:Rt}(h:aS r):Ans D 29 [R r] [.i64 (okE (rok r))]:=by
 obtain⟨⟨n1,n2⟩,d1,d2⟩:=h;refine am ?_;unfold aaF R;simp only[EV,aa,az,cQ,phi (F4 ⟨n1,n2⟩)];by_cases hd:r.den<1
 .rw[ad hd];unfold rok;rw[ak (by omega)];rfl
 .rw[ac hd];by_cases hn:r.num= -9223372036854775808
  .rw[ad hn];unfold rok;rw[aq hn];simp[okE]
  .rw[ac hn,LG (by omega) d2,phi (Zi _ _)];simp only[EV,U,aE,aj];unfold rok;rw[zK];by_cases h1:(Nat.gcd r.num.natAbs r.den.natAbs)=1
   .rw[ac (by omega),aq h1,aq (show 1<=r.den by omega),ak hn]
    rfl
   .rw[ad (by omega),ak h1,qE];rfl
def MU (r:Rt):Bool:=decide (r.num.natAbs<=1073741824)&& decide (r.den<=1024)
def cH (r:Rt):Int:=if rok r then(if MU r then 0 else 2) else 8
def c44 {r:Rt}(h:aS r):Ans D 72 [R r] [.i64 (cH r)]:=by
 refine am ?_;unfold k44;have h0:=phi (c43 h);unfold R at h0|-;simp[EV,h0,phi (Dm h.1),U];unfold cH okE;cases rok r with
 |false=>rfl
 |true=>
  unfold MU
  grind
def c64 {r:Rt}(h:aS r):Ans D 30 [R r] [.i64 (cH r)]:=by
 refine am ?_;unfold k64;have h0:=phi (ql h);unfold R at h0|-;simp[EV,h0];unfold cH okE;cases rok r with
 |false=>rfl
 |true=>
  unfold MU
  grind
def PP (p:Pt):PV:= .agg (row p)
def ahU (p:Pt):Ans D 73 [PP p] [.i64 (okE p.ok)]:=by
 refine am ?_;unfold abh PP row;simp[EV];unfold Pt.ok okE KX
 grind
def Zj (p:Pt):Ans D 213 [PP p] [.i64 (okE p.ok)]:=by
 refine am ?_;unfold acj PP row;simp[EV,Re,Rf];unfold Pt.ok okE KX
 grind
end Go.Proofs.YtoeigdpfcnaaeaaGreat
namespace Go.Sym
open Go.Sym
section
variable {Φ:PhT}{N:Nat}{b:K}{J:List JT}{e:List PV}{α β:Type}{l:List α}
def gJ {i:Nat}{a:α}{k:List α}(h:l.drop i=a::k):l[i]?=some a/\ l.drop (i+1)=k:=by
 have hi:i<l.length:=by
  rcases qh i l.length with g|g
  .exact g
  .rw[u9 g] at h;cases h
 rw[cY hi] at h
 grind
def mF {i:Nat}{k:List α}(h:l.drop i=k)(hi:i<=l.length):i+k.length=l.length:=by
 grind
def j7 {p:α->Bool}{st:Nat->List PV}{ret:Nat->Option (List PV)}{fin:Option (List PV)}(hs:∀i a self,l[i]?=some a->den Φ N b (J++[self]) (e++st i)=if p a=true then ret i else self (st (i+1)))
  (hf:∀self,den Φ N b (J++[self]) (e++st l.length)=fin) {m:Nat} (hm:l.length<m):dl Φ N b J e m (st 0)=(l.findIdx? p).elim fin ret:=by
 have:∀(k:List α) i m,l.drop i=k->i<=l.length->k.length<m->dl Φ N b J e m (st i)=(k.findIdx? p).elim fin (λj=>ret (j+i)):=by
  intro k;induction k with
  |nil=>
   intro i m h hi hm;obtain⟨m,rfl⟩:∃m',m=m'+1:=⟨m-1,by omega⟩;have:=mF h hi;rw[bu,show i=l.length by simpa using this]
   exact hf _
  |cons a k ih=>
   intro i m h hi hm;obtain⟨m,rfl⟩:∃m',m=m'+1:=⟨m-1,by omega⟩;obtain⟨h1,h2⟩:=gJ h;have:=mF h hi;rw[bu,hs i a _ h1,rz];simp only[aZ] at hm this;cases hp:p a with
   |true=>simp
   |false=>
    rw[ih (i+1) m h2 (by omega) (by omega)];cases k.findIdx? p<;>simp[dK,qf 1 i]
 grind
def cL {p:α->Bool}{st:Nat->List PV}{fin r:Option (List PV)}(hs:∀i a self,l[i]?=some a->(l.take i).all p=true->den Φ N b (J++[self]) (e++st i)=if p a=true then self (st (i+1)) else r)
  (hf:l.all p=true->∀self,den Φ N b (J++[self]) (e++st l.length)=fin) {m:Nat} (hm:l.length<m):dl Φ N b J e m (st 0)=if l.all p=true then fin else r:=by
 have:∀(k:List α) i m,l.drop i=k->i<=l.length->k.length<m->(l.take i).all p=true->dl Φ N b J e m (st i)=if k.all p=true then fin else r:=by
  intro k;induction k with
  |nil=>
   intro i m h hi hm ht;obtain⟨m,rfl⟩:∃m',m=m'+1:=⟨m-1,by omega⟩;have:=mF h hi;have hil:i=l.length:=by simpa using this
   rw[hil,dX] at ht;rw[bu,hil];exact hf ht _
  |cons a k ih=>
   intro i m h hi hm ht;obtain⟨m,rfl⟩:∃m',m=m'+1:=⟨m-1,by omega⟩;obtain⟨h1,h2⟩:=gJ h;have:=mF h hi;rw[bu,hs i a _ h1 ht,dJ];simp only[aZ] at hm this;cases hp:p a with
   |false=>simp
   |true=>
    simp only[az,gI];refine ih (i+1) m h2 (by omega) (by omega) ?_;rw[cA,h1,qa,ht];simp[hp]
 exact this l 0 m rfl (by omega) hm (by simp)
def gR {g:β->α->β}{I:Nat->β->Prop}{S:β->Nat->List PV}{fin:β->Option (List PV)}{x:β}(h0:I 0 x)(hi:∀i a acc,l[i]?=some a->I i acc->I (i+1) (g acc a))(hs:∀i a acc self,l[i]?=some a->I i acc->den Φ N b (J++[self]) (e++S acc i)=self (S (g acc a) (i+1)))
  (hf:∀acc self,I l.length acc->den Φ N b (J++[self]) (e++S acc l.length)=fin acc) {m:Nat} (hm:l.length<m):dl Φ N b J e m (S x 0)=fin (l.foldl g x)/\ I l.length (l.foldl g x):=by
 have:∀(k:List α) i m acc,l.drop i=k->i<=l.length->k.length<m->I i acc->dl Φ N b J e m (S acc i)=fin (k.foldl g acc)/\ I l.length (k.foldl g acc):=by
  intro k;induction k with
  |nil=>
   intro i m acc h hi' hm hI;obtain⟨m,rfl⟩:∃m',m=m'+1:=⟨m-1,by omega⟩;have:=mF h hi';have hil:i=l.length:=by simpa using this
   rw[hil] at hI;rw[bu,hil]
   grind
  |cons a k ih=>
   intro i m acc h hi' hm hI;obtain⟨m,rfl⟩:∃m',m=m'+1:=⟨m-1,by omega⟩;obtain⟨h1,h2⟩:=gJ h;have:=mF h hi';simp only[aZ] at hm this;rw[bu,hs i a acc _ h1 hI,c6];exact ih (i+1) m _ h2 (by omega) (by omega) (hi i a acc h1 hI)
 exact this l 0 m x rfl (by omega) hm h0
end
section
variable {α:Type}{f:α->List PV}{l:List α}
def aT {i z:Nat}{a:α}(h:l[i]?=some a)(hz:(f a).length=z):RF.ev (.tix z) [.sl (l.map f),.v (.int .i64 (i:Int))]=some (.i64 (i:Int)):=by
 rw[ahv,ad (by omega),aG,a8,h]
 grind
def aM {i o n:Nat}{a:α}(h:l[i]?=some a):RF.ev (.elt o n) [.sl (l.map f),.v (.int .i64 (i:Int))]=cM o n (f a):=by
 rw[aht,ad (by omega),aG,a8,h];rfl
def up1 {i:Nat}(h:i<1000000000):IntKind.i64.wrap ((i:Int)+1)=((i+1:Nat):Int):=by rw[cU (by omega) (by omega)];rfl
def tS {i:Nat}(h:i<1000000000):IntKind.i64.wrap (((i+1:Nat):Int)-1)=(i:Int):=by rw[cU (by omega) (by omega)];omega
def aO {i:Nat}{a:α}(h:l[i]?=some a):i<l.length:=(aC.1 h).1
def bj {i n:Nat}{γ:Type}{x y:γ}(h:i<n):(if(i:Int)<(n:Int) then x else y)=x:=ad (by omega)
def bK {n:Nat}{γ:Type}{x y:γ}:(if(n:Int)<(n:Int) then x else y)=y:=ac (by omega)
def bI:RF.ev .sub [.sl (l.map f),.v (.int .i64 0),.v (.int .i64 (l.length:Int))]=some (.sl (l.map f)):=by
 rw[xG,ad ⟨by omega,by omega,by rw[ah];omega⟩,aG];simp;rw[bi (by simp)]
def eF {bytes z:Nat}{k:List α}(h:(l.length+k.length)*bytes<=140737488355328)(hz:∀a,(f a).length=z):RF.ev (.app bytes z) [.sl (l.map f),.v (.int .i64 (l.length:Int)),.sl (k.map f)]=some (.sl ((l++k).map f)):=by
 rw[ahu,ad]
 .rw[aG,bi (by simp)];simp
 .rw[ah,ah,aG];refine⟨by omega,by omega,h,?_⟩;cases k with
  |nil=>rfl
  |cons a k=>simp[d8,hz]
end
def rC {α:Type}(p:α->Bool)(l:List α):Int:=(l.findIdx? p).elim (-1) λi=>(i:Int)
def Ls {α:Type}{p:α->Bool}{l:List α}:0<=rC p l↔l.any p=true:=by
 unfold rC;cases h:l.findIdx? p with
 |none=>
  grind
 |some i=>
  obtain⟨h1,h2,_⟩:=bL.1 h
  grind
def AK {α:Type}{p:α->Bool}{l:List α}:decide (0<=rC p l)=l.any p:=by
 rw[eC,aa];exact Ls
end Go.Sym
namespace Go.Proofs.YtoeigdpfcnaaeaaGreat
open Go.Sym Bnd
set_option maxRecDepth 100000
def sgn (n:Int):Int:=if n<0 then-1 else if 0<n then 1 else 0
def uw {n:Int}{m:Nat}(h:n% 18446744073709551616=(m:Int)):PV.v (.int .u64 (IntKind.u64.wrap n))=U m:=by rw[my,h];rfl
def wu {n:Nat}(h:n<18446744073709551616):IntKind.u64.wrap (n:Int)=(n:Int):=by rw[my];omega
def af6 (n:Nat):dC .shr .u64 (n:Int) .u64 32=some (.v (.int .u64 ((n/4294967296:Nat):Int))):=by
 rw[Pk,ac (by decide),show min (32:Int).toNat IntKind.u64.bits=32 from rfl,iP _ (by decide)]
 rfl
def MV {n:Nat}(h:n<18446744073709551616):dC .and .u64 (n:Int) .u64 4294967295=some (.v (.int .u64 ((n% 4294967296:Nat):Int))):=by
 show some (PV.v (.int .u64 (IntKind.u64.wrap (((BitVec.ofInt 64 (n:Int)&&& BitVec.ofInt 64 4294967295).toNat:Nat):Int))))=_
 rw[LC h,wu (by omega)]
def wB {a b:Nat}(h:a+b<18446744073709551616):dC .add .u64 (a:Int) .u64 (b:Int)=some (.v (.int .u64 ((a+b:Nat):Int))):=by
 rw[XB,<-Int.natCast_add,wu h]
def wC {a b:Nat}(h:a*b<18446744073709551616):dC .mul .u64 (a:Int) .u64 (b:Int)=some (.v (.int .u64 ((a*b:Nat):Int))):=by
 rw[XC,<-p8,wu h]
def TT {x y:Nat}(hx:x<18446744073709551616)(hy:y<18446744073709551616):Ans D 360 [U x,U y] [U (x*y/18446744073709551616),U (x*y% 18446744073709551616)]:=by
 refine am ?_;have b0:=rh (a:=x% 4294967296) (b:=y% 4294967296) (by omega) (by omega);have b1:=rh (a:=x/4294967296) (b:=y% 4294967296) (by omega) (by omega);have b2:=rh (a:=x% 4294967296) (b:=y/4294967296) (by omega) (by omega);have b3:=rh (a:=x/4294967296) (b:=y/4294967296) (by omega) (by omega);have hh:=afL hx hy;have hl:x*y/18446744073709551616<18446744073709551616:=by
  grind
 have s1:(x/4294967296)*(y/4294967296)+((x/4294967296)*(y% 4294967296)+(x% 4294967296)*(y% 4294967296)/4294967296)/4294967296<18446744073709551616:=by omega
 unfold ad9 U;simp only[EV,MV hx,MV hy,af6,wC (show x% 4294967296*(y% 4294967296)<18446744073709551616 by omega),wC (show x/4294967296*(y% 4294967296)<18446744073709551616 by omega),
  wC (show x% 4294967296*(y/4294967296)<18446744073709551616 by omega),wC (show x/4294967296*(y/4294967296)<18446744073709551616 by omega),
  wB (show x/4294967296*(y% 4294967296)+x% 4294967296*(y% 4294967296)/4294967296<18446744073709551616 by omega),
  MV (show x/4294967296*(y% 4294967296)+x% 4294967296*(y% 4294967296)/4294967296<18446744073709551616 by omega),
  wB (show(x/4294967296*(y% 4294967296)+x% 4294967296*(y% 4294967296)/4294967296)% 4294967296+x% 4294967296*(y/4294967296)<18446744073709551616 by omega),
  wB s1,wB (show _<18446744073709551616 from hh▸hl)]
 rw[hh,<-p8,my];rfl
def W (neg:Bool)(m:Nat):PV:= .agg [.bool neg,U (m/18446744073709551616),U (m% 18446744073709551616)]
def vd {a:Int}(h:I64 a):a.natAbs<=9223372036854775808:=by obtain⟨h1,h2⟩:=h;omega
def PC {a b:Int}(h:I64 a)(k:I64 b):a.natAbs*b.natAbs<=85070591730234615865843651857942052864:=eV (vd h) (vd k)
def Zk {a b:Int}(h:I64 a)(k:I64 b):Ans D 281 [.i64 a,.i64 b] [W (decide (a<0) !=decide (b<0)) (a.natAbs*b.natAbs)]:=by
 refine am ?_;have h1:=vd h;have h2:=vd k;unfold ac4;simp[EV,phi (Dm h),phi (Dm k),phi (TT (show a.natAbs<18446744073709551616 by omega) (show b.natAbs<18446744073709551616 by omega))]
 rfl
def ahV (a:Int):Ans D 362 [.i64 a] [.bool false]:=by
 refine am ?_;unfold aea;simp[EV]
def ahW (a:Int):Ans D 310 [.i64 a] [.bool false]:=by
 refine am ?_;unfold adr;simp[EV]
def mG (a b:Int):sgn (a-b)=if a<b then-1 else if b<a then 1 else 0:=by
 unfold sgn
 grind
def Zl (a b:Int):Ans D 279 [.i64 a,.i64 b] [.i64 (sgn (a-b))]:=by
 refine am ?_;unfold ac2;simp[EV,phi (ahV _),mG]
 grind
def wD (a b:Int):Ans D 220 [.i64 a,.i64 b] [.i64 (sgn (a-b))]:=by
 refine am ?_;unfold acm;simp[EV,phi (ahW _),mG]
 grind
def ahX (a:Nat):Ans D 421 [U a] [.bool false]:=by
 refine am ?_;unfold aeR U;simp[EV]
def ahY (a b:Nat):Ans D 363 [U a,U b] [.i64 (sgn ((a:Int)-b))]:=by
 have h:=λa=>phi (ahX a);refine am ?_;unfold aeb;unfold U at h|-;simp[EV,h,mG]
 grind
def ahZ {n k:Bool}(a b:Nat):Ans D 280 [W n a,W k b] [.i64 (sgn ((a:Int)-b))]:=by
 refine am ?_;unfold ac3 W;simp[EV,phi (ahY _ _),mG]
 grind
def LH (a b:Bool):max (okE a) (okE b)=okE (a&& b):=by cases a<;>cases b<;>rfl
def mm2 (a b:Int):RF.ev (.mm true) [.i64 a,.i64 b]=some (.i64 (max a b)):=rfl
def ba (r:Rt):RF.ev (.shape 2) [R r]=some (R r):=rfl
def ph (r:Rt):RF.ev (.cell 0) [R r]=some (.i64 r.num):=rfl
def pi (r:Rt):RF.ev (.cell 1) [R r]=some (.i64 r.den):=rfl
def ah0 {r s:Rt}(h:aS r)(k:aS s):Ans D 278 [R r,R s] [.i64 (okE (rok r&& rok s))]:=by
 refine am ?_;unfold ac1;simp[ba,EV,phi (c43 h),phi (c43 k),mm2,LH]
def sM {b:Bool}{α:Type}{x y:α}:(if(!decide (okE b=0))=true then x else y)=if b=true then y else x:=by cases b<;>rfl
def eT {r:Rt}(h:rok r=true):1<=r.den:=by
 unfold rok at h
 grind
def ml (a b:Int):((a.natAbs*b.natAbs:Nat):Int)=if 0<=a*b then a*b else-(a*b):=by
 rw[<-qG];split<;>omega
def XQ (n:Int):sgn (-n)= -sgn n:=by unfold sgn;repeat' split;all_goals omega
def XR (n:Int): -1<=sgn n/\ sgn n<=1:=by unfold sgn;repeat' split;all_goals omega
def rD {r s:Rt}(h:aS r)(k:aS s):Ans D 193 [R r,R s] (if(rok r&& rok s)=true then [.i64 (sgn (crs r s)),.i64 0] else [.i64 0,.i64 8]):=by
 refine am ?_;unfold ab7;simp only[ay,ba,ph,pi,EV,phi (ah0 h k),sM,phi (Zl _ _),phi (Zk h.1 k.2),phi (Zk k.1 h.2),phi (ahZ _ _)];cases hok:rok r&& rok s with
 |false=>rfl
 |true=>
  simp only[aJ] at hok;have d1:=eT hok.1;have d2:=eT hok.2;simp only[az,Q5,EV];have p1:(0<=r.num*s.den)↔0<=r.num:=by
   constructor
   .intro h;rcases Int.lt_or_le r.num 0 with g|g
    .have:=i9 g (show 0<s.den by omega);omega
    .exact g
   .intro h;exact ww h (by omega)
  have p2:(0<=s.num*r.den)↔0<=s.num:=by
   constructor
   .intro h;rcases Int.lt_or_le s.num 0 with g|g
    .have:=i9 g (show 0<r.den by omega);omega
    .exact g
   .intro h;exact ww h (by omega)
  by_cases h1:r.num<0<;>by_cases h2:s.num<0
  .rw[aq h1,aq h2];simp only[az];rw[ml,ml,ac (show¬0<=r.num*s.den by omega),ac (show¬0<=s.num*r.den by omega)]
   unfold crs;rw[show-(r.num*s.den)- -(s.num*r.den)= -(r.num*s.den-s.num*r.den) by omega,XQ]
   have:=XR (r.num*s.den-s.num*r.den);rw[show(0:Int)- -sgn (r.num*s.den-s.num*r.den)=sgn (r.num*s.den-s.num*r.den) by omega,cU (by omega) (by omega)]
   rfl
  .rw[aq h1,ak h2];have e1:sgn (r.num-s.num)= -1:=by unfold sgn;rw[ad (by omega)]
   have e2:sgn (crs r s)= -1:=by unfold sgn crs;rw[ad (by omega)]
   rw[e1,e2];rfl
  .rw[ak h1,aq h2];have e1:sgn (r.num-s.num)=1:=by unfold sgn;rw[ac (by omega),ad (by omega)]
   have e2:sgn (crs r s)=1:=by unfold sgn crs;rw[ac (by omega),ad (by omega)]
   rw[e1,e2];rfl
  .rw[ak h1,ak h2];simp only[au,aw];rw[ml,ml,ad (show 0<=r.num*s.den by omega),ad (show 0<=s.num*r.den by omega)]
   rfl
def ah1 {x y:Nat}(hx:x<18446744073709551616)(hy:y<18446744073709551616):Ans D 212 [U x,U y] [W false (x*y)]:=by
 refine am ?_;have b0:=rh (a:=x% 4294967296) (b:=y% 4294967296) (by omega) (by omega);have b1:=rh (a:=x/4294967296) (b:=y% 4294967296) (by omega) (by omega);have b2:=rh (a:=x% 4294967296) (b:=y/4294967296) (by omega) (by omega);have b3:=rh (a:=x/4294967296) (b:=y/4294967296) (by omega) (by omega);have sp:=Ff (x:=x) (y:=y);have q32:∀n:Nat,n<18446744073709551616->dC .quo .u64 (n:Int) .u64 4294967296=some (.v (.int .u64 ((n/4294967296:Nat):Int))):=λn h=>by
  rw[Pj,ac (by decide),lL (by omega),my]
  congr 3
  omega
 have r32:∀n:Nat,dC .rem .u64 (n:Int) .u64 4294967296=some (.v (.int .u64 ((n% 4294967296:Nat):Int))):=λn=>by
  rw[F0,ac (by decide),Int.tmod_eq_emod_of_nonneg (by omega)];rfl
 generalize hA:x/4294967296*(y/4294967296)=A at*;generalize hB:x/4294967296*(y% 4294967296)=B at*;generalize hC:x% 4294967296*(y/4294967296)=C at*;generalize hE:x% 4294967296*(y% 4294967296)=E at*;have m32:dC .mul .u64 (((C+(B+E/4294967296)% 4294967296)% 4294967296:Nat):Int) .u64 4294967296=some (.v (.int .u64 (((C+(B+E/4294967296)% 4294967296)% 4294967296*4294967296:Nat):Int))):=wC (b:=4294967296) (by omega);have mA:dC .mul .u64 ((x/4294967296:Nat):Int) .u64 ((y/4294967296:Nat):Int)=some (.v (.int .u64 (A:Int))):=by rw[wC (by omega),hA]
 have mB:dC .mul .u64 ((x/4294967296:Nat):Int) .u64 ((y% 4294967296:Nat):Int)=some (.v (.int .u64 (B:Int))):=by rw[wC (by omega),hB]
 have mC:dC .mul .u64 ((x% 4294967296:Nat):Int) .u64 ((y/4294967296:Nat):Int)=some (.v (.int .u64 (C:Int))):=by rw[wC (by omega),hC]
 have mE:dC .mul .u64 ((x% 4294967296:Nat):Int) .u64 ((y% 4294967296:Nat):Int)=some (.v (.int .u64 (E:Int))):=by rw[wC (by omega),hE]
 unfold aci U;simp only[oe,EV,q32 x hx,q32 y hy,r32,mA,mB,mC,mE,q32 E (by omega),wB (show B+E/4294967296<18446744073709551616 by omega),wB (show C+(B+E/4294967296)% 4294967296<18446744073709551616 by omega),
  q32 (B+E/4294967296) (by omega),q32 (C+(B+E/4294967296)% 4294967296) (by omega),wB (show A+(B+E/4294967296)/4294967296<18446744073709551616 by omega),
  wB (show A+(B+E/4294967296)/4294967296+(C+(B+E/4294967296)% 4294967296)/4294967296<18446744073709551616 by omega),m32,wB (show(C+(B+E/4294967296)% 4294967296)% 4294967296*4294967296+E% 4294967296<18446744073709551616 by omega)]
 unfold W U;rw[show x*y/18446744073709551616=A+(B+E/4294967296)/4294967296+(C+(B+E/4294967296)% 4294967296)/4294967296 by omega,show x*y% 18446744073709551616=(C+(B+E/4294967296)% 4294967296)% 4294967296*4294967296+E% 4294967296 by omega]
 rfl
def Dn (a b:Int):Bool:=(decide (a<0) !=decide (b<0))&&(!decide (a=0)&& !decide (b=0))
def qS (n:Bool)(m:Nat):RF.ev (.shape 3) [W n m]=some (W n m):=rfl
def Bl (n:Bool)(m:Nat):RF.ev (.cell 0) [W n m]=some (.bool n):=rfl
def vg (n:Bool)(m:Nat):RF.ev (.cell 1) [W n m]=some (.v (.int .u64 ((m/18446744073709551616:Nat):Int))):=rfl
def vk (n:Bool)(m:Nat):RF.ev (.cell 2) [W n m]=some (.v (.int .u64 ((m% 18446744073709551616:Nat):Int))):=rfl
def Zm (n:Bool)(m:Nat):RF.ev (.part 0 3) [W n m]=some (W n m):=rfl
def Bn (n:Bool)(m:Nat):RF.ev (.part 1 2) [W n m]=some (.agg [U (m/18446744073709551616),U (m% 18446744073709551616)]):=rfl
def F6 (n:Bool)(m:Nat):RF.ev .agg [.bool n,.agg [U (m/18446744073709551616),U (m% 18446744073709551616)]]=some (W n m):=rfl
def MW {a b:Int}(h:I64 a)(k:I64 b):Ans D 111 [.i64 a,.i64 b] [W (Dn a b) (a.natAbs*b.natAbs)]:=by
 refine am ?_;have h1:=vd h;have h2:=vd k;unfold abm;simp[qS,Bn,F6,EV,phi (F4 h),phi (F4 k),phi (ah1 (show a.natAbs<18446744073709551616 by omega) (show b.natAbs<18446744073709551616 by omega)),Qj]
 unfold Dn
 grind
def rE (n:Bool)(m:Nat):Int:=if n then-(m:Int) else m
def sN (a b:Int):rE (Dn a b) (a.natAbs*b.natAbs)=a*b:=by
 unfold rE Dn
 grind
def Zn (n:Bool)(m:Nat):Ans D 112 [W n m] [.i64 (sgn (rE n m))]:=by
 refine am ?_;unfold abn;simp[qS,vg,vk,EV];have fin:∀(e:Bool) (v:PV),(e=true↔m=0)->den (bx D) 1 Ho [] [v,W n m,.bool e]=some [.i64 (sgn (rE n m))]:=λe v he=>by
  unfold Ho rE;simp[Bl,EV];cases e with
  |true=>have:=he.1 rfl;subst this;cases n<;>rfl
  |false=>
   unfold sgn
   grind
 grind
def TU {n k:Bool}(a b:Nat):Ans D 113 [W n a,W k b] [.i64 (sgn ((a:Int)-b))]:=by
 refine am ?_;unfold abo;simp[qS,vg,vk,EV,mG]
 grind
def Do {r s:Rt}(h:aS r)(k:aS s):Ans D 46 [R r,R s] [.i64 (sgn (crs r s))]:=by
 refine am ?_;unfold aaI;simp only[ba,ph,pi,qS,Zm,EV,phi (MW h.1 k.2),phi (MW k.1 h.2),phi (Zn _ _),phi (TU _ _),sN,aa,aE,aj];have e1:=sN r.num s.den;have e2:=sN s.num r.den;unfold rE at e1 e2;unfold crs;generalize r.num*s.den=x at*;generalize s.num*r.den=y at*;generalize r.num.natAbs*s.den.natAbs=a at*;have hx:sgn x=if x<0 then-1 else if 0<x then 1 else 0:=rfl
 have hy:sgn y=if y<0 then-1 else if 0<y then 1 else 0:=rfl
 by_cases hne:sgn x=sgn y
 .grind
 .rw[ad hne];rw[mG x y]
  grind
def add64 (x y:Nat):RF.ev .add64 [U x,U y,U 0]=some (.agg [U ((x+y)% 18446744073709551616),U ((x+y)/18446744073709551616)]):=rfl
def Zo {x t:Int}(h:(x-t)% 18446744073709551616=0)(ht:I64 t):IntKind.i64.wrap x=t:=by
 obtain⟨h1,h2⟩:=ht;simp only[IntKind.wrap,IntKind.bits,IntKind.signed];simp;split<;>omega
def wr (x:Int):∃k:Int,IntKind.i64.wrap x=x+18446744073709551616*k:=by
 simp only[IntKind.wrap,IntKind.bits];simp;split
 .exact⟨-(x/18446744073709551616)-1,by omega⟩
 .exact⟨-(x/18446744073709551616),by omega⟩
def MX {x y:Int}(h:(x-y)% 18446744073709551616=0):IntKind.i64.wrap x=IntKind.i64.wrap y:=by
 simp only[IntKind.wrap,IntKind.bits];simp;rw[show x% 18446744073709551616=y% 18446744073709551616 by omega]
def wrA (x y:Int):IntKind.i64.wrap (IntKind.i64.wrap x+y)=IntKind.i64.wrap (x+y):=by obtain⟨k,h⟩:=wr x;rw[h];exact MX (by omega)
def wrB (x y:Int):IntKind.i64.wrap (y+IntKind.i64.wrap x)=IntKind.i64.wrap (y+x):=by obtain⟨k,h⟩:=wr x;rw[h];exact MX (by omega)
def wrC (x y:Int):IntKind.i64.wrap (IntKind.i64.wrap x-y)=IntKind.i64.wrap (x-y):=by obtain⟨k,h⟩:=wr x;rw[h];exact MX (by omega)
def MY (k:IntKind)(n:Nat):RF.ev (.conv k) [U n]=some (.v (.int k (k.wrap n))):=rfl
abbrev oA2:RF:= .bin .add
def hiL (v:Int):PV:= .i64 (v/18446744073709551616)
def loL (v:Int):PV:= .v (.int .u64 (v% 18446744073709551616))
def Mid (v:Int):Prop:= -154742504910672534362390528<=v/\ v<=154742504910672534362390528
def XS {a b p:Int}(ha:I64 a)(hb:I64 b)(hp:a*b=p):∃x y:Nat,(a% 18446744073709551616=(x:Int)/\ x<18446744073709551616)/\(b% 18446744073709551616=(y:Int)/\ y<18446744073709551616)/\
  ((x*y:Nat):Int)=p+18446744073709551616*((if a<0 then b else 0)+(if b<0 then a else 0))+340282366920938463463374607431768211456*(if a<0/\ b<0 then 1 else 0):=by
 obtain⟨a1,a2⟩:=ha;obtain⟨b1,b2⟩:=hb;have e1:(((a% 18446744073709551616).toNat:Nat):Int)=if a<0 then a+18446744073709551616 else a:=by split<;>omega
 have e2:(((b% 18446744073709551616).toNat:Nat):Int)=if b<0 then b+18446744073709551616 else b:=by split<;>omega
 grind
def F7 {Φ':PhT}{N:Nat}{f self:JT}{e0 w:PV}{a b v:Int}{i:Nat}(hΦ:Φ'=bx D)(hw:RF.ev (.aix 2 2 2) [w,.i64 (i:Int)]=some (.agg [.i64 a,.i64 b]))(hi:i<2)(ha:I64 a)(hb:I64 b)(hm:Mid (a*b))(hv:Mid v):
  den Φ' N JH [f,self] [e0,w,hiL v,loL v,.i64 (i:Int)]=self [hiL (v+a*b),loL (v+a*b),.i64 ((i+1:Nat):Int)]:=by
 subst hΦ;obtain⟨m1,m2⟩:=hm;obtain⟨v1,v2⟩:=hv;generalize hp:a*b=p at*;obtain⟨x,y,⟨x1,x2⟩,⟨y1,y2⟩,hxy⟩:=XS ha hb hp;have ha':=ha;have hb':=hb;obtain⟨a1,a2⟩:=ha;obtain⟨b1,b2⟩:=hb;have bd:x*y<=18446744073709551615*18446744073709551615:=eV (by omega) (by omega);have u1:PV.v (.int .u64 (IntKind.u64.wrap a))=U x:=uw x1;have u2:PV.v (.int .u64 (IntKind.u64.wrap b))=U y:=uw y1;have q1:=phi (TT x2 y2);have lo0:loL v=U (v% 18446744073709551616).toNat:=by unfold loL U;congr 2;omega
 have q2:=add64 (v% 18446744073709551616).toNat (x*y% 18446744073709551616);rw[<-lo0] at q2;have w1:IntKind.i64.wrap ((i:Int)+1)=((i+1:Nat):Int):=up1 (by omega);unfold JH;simp only[ay,hw,EV,aa,u1,u2,q1,ad (show(i:Int)<2 by omega),MY,Sq]
 have lo2:U (((v% 18446744073709551616).toNat+x*y% 18446744073709551616)% 18446744073709551616)=loL (v+p):=by
  unfold loL U
  congr 2
  grind
 rw[lo2] at q2;have q3:∀h:Int,RF.ev oA2 [hiL v,.v (.int .i64 h)]=some (.i64 (IntKind.i64.wrap (v/18446744073709551616+h))):=λh=>rfl;have U0:PV.v (.int .u64 0)=U 0:=rfl;by_cases a0:a<0<;>by_cases b0:b<0<;>simp only[a0,b0,az,aw,ay,q3,EV,aA,be,So,U0,q2,MY,wrA,wrB,wrC,w1,ju,iw,jt] at hxy|-
 all_goals
  rw[Zo (t:=(v+p)/18446744073709551616) (by omega) ⟨by omega,by omega⟩];rfl
def ah2 {a b c d:Int}(ha:I64 a)(hb:I64 b)(hc:I64 c)(hd:I64 d)(h1:Mid (a*b))(h2:Mid (c*d)):Ans D 395 [.agg [.i64 a,.i64 b,.i64 c,.i64 d]] [.agg [hiL (a*b+c*d),loL (a*b+c*d)]]:=by
 refine an ⟨3,?_⟩;unfold aeK;have s0:=λself=>F7 (N:=3) (f:=kJ (bx D) 3 JG [] [.agg [.i64 a,.i64 b,.i64 c,.i64 d],.agg [.i64 a,.i64 b,.i64 c,.i64 d]]) (self:=self) (e0:= .agg [.i64 a,.i64 b,.i64 c,.i64 d]) (w:= .agg [.i64 a,.i64 b,.i64 c,.i64 d]) (i:=0) (v:=0) rfl rfl (by decide) ha hb h1 ⟨by decide,by decide⟩;have s1:=λself=>F7 (N:=3) (f:=kJ (bx D) 3 JG [] [.agg [.i64 a,.i64 b,.i64 c,.i64 d],.agg [.i64 a,.i64 b,.i64 c,.i64 d]]) (self:=self) (e0:= .agg [.i64 a,.i64 b,.i64 c,.i64 d]) (w:= .agg [.i64 a,.i64 b,.i64 c,.i64 d]) (i:=1) (v:=a*b) rfl rfl (by decide) hc hd h2 h1;rw[Int.zero_add] at s0;have z1:PV.i64 0=hiL 0:=rfl;have z2:PV.v (.int .u64 0)=loL 0:=rfl;have z3:PV.i64 0= .i64 ((0:Nat):Int):=rfl;refine(s0 _).trans ?_;simp only[KL,Pl,Th,XE];refine(s1 _).trans ?_;simp only[EV];rfl
def Pt.bnd {p:Pt}(h:p.ok=true):(0<=p.id/\ p.id<=65535)/\(-1048576<=p.a/\ p.a<=1048576)/\(-1048576<=p.b/\ p.b<=1048576):=by
 unfold Pt.ok KX at h
 grind
def LI {a b:Int}(h: -2097152<=a/\ a<=2097152)(k:I64 b):Mid (a*b):=by
 obtain⟨k1,k2⟩:=k;have e:=qG a b;have:a.natAbs*b.natAbs<=2097152*9223372036854775808:=eV (by omega) (by omega);constructor<;>omega
def Zp (v:Int):(v/18446744073709551616<0)↔v<0:=by omega
def orr (a b:Int):Ans D 219 [.sl [[.i64 a],[.i64 b]]] [.i64 (if a=0 then b else a)]:=by
 refine an ⟨3,?_⟩;unfold UL;have w0:IntKind.i64.wrap (0+1)=1:=by decide
 have w1:IntKind.i64.wrap (1+1)=2:=by decide
 have e0:RF.ev (.tix 1) [.sl [[.i64 a],[.i64 b]],.v (.int .i64 0)]=some (.i64 0):=rfl;have e1:RF.ev (.tix 1) [.sl [[.i64 a],[.i64 b]],.v (.int .i64 1)]=some (.i64 1):=rfl;have g0:RF.ev (.elt 0 0) [.sl [[.i64 a],[.i64 b]],.v (.int .i64 0)]=some (.i64 a):=rfl;have g1:RF.ev (.elt 0 0) [.sl [[.i64 a],[.i64 b]],.v (.int .i64 1)]=some (.i64 b):=rfl;have h2:([[PV.i64 a],[PV.i64 b]].length:Int)=2:=rfl;simp only[EV,bu,Iq,Ir,e0,e1,g0,g1,w0]
 grind
def MZ (t:Rt)(p q:Pt):Int:=if far t p q=0 then(if sgn (p.b-q.b)=0 then sgn (q.id-p.id) else sgn (p.b-q.b)) else sgn (far t p q)
def F8 {t:Rt}{p q:Pt}:decide (0<MZ t p q)=leads t p q:=by
 rw[eC,aa,leads_iff];unfold MZ sgn
 grind
def jL (p:Pt):RF.ev (.shape 3) [PP p]=some (PP p):=rfl
def iQ (p:Pt):RF.ev (.cell 0) [PP p]=some (.i64 p.id):=rfl
def vl (p:Pt):RF.ev (.cell 1) [PP p]=some (.i64 p.a):=rfl
def nX (p:Pt):RF.ev (.cell 2) [PP p]=some (.i64 p.b):=rfl
def XT {t:Rt}{p q:Pt}(hp:p.ok=true)(hq:q.ok=true)(ht:aS t):Mid ((p.a-q.a)*t.den)/\ Mid ((p.b-q.b)*t.num):=by
 have:=Pt.bnd hp;have:=Pt.bnd hq;exact⟨LI ⟨by omega,by omega⟩ ht.2,LI ⟨by omega,by omega⟩ ht.1⟩
def ye {a b:Int}(ha: -1048576<=a/\ a<=1048576)(hb: -1048576<=b/\ b<=1048576):I64 (a-b)/\ IntKind.i64.wrap (a-b)=a-b:=⟨⟨by omega,by omega⟩,cU (by omega) (by omega)⟩
def Zq {p q:Pt}{t:Rt}(hp:p.ok=true)(hq:q.ok=true)(ht:aS t):Ans D 328 [PP p,PP q,R t] [.i64 (MZ t p q)]:=by
 have bp:=Pt.bnd hp;have bq:=Pt.bnd hq;obtain⟨f1,f2⟩:=XT hp hq ht;obtain⟨i1,i2⟩:=ye bp.2.1 bq.2.1;obtain⟨i3,i4⟩:=ye bp.2.2 bq.2.2;have h1:=phi (ah2 i1 ht.2 i3 ht.1 f1 f2);rw[show(p.a-q.a)*t.den+(p.b-q.b)*t.num=far t p q from rfl] at h1
 have a1:∀a b c d:Int,RF.ev .agg [.i64 a,.i64 b,.i64 c,.i64 d]=some (.agg [.i64 a,.i64 b,.i64 c,.i64 d]):=λ_ _ _ _=>rfl;have a2:∀v:Int,RF.ev (.shape 2) [.agg [hiL v,loL v]]=some (.agg [hiL v,loL v]):=λ_=>rfl;have a3:∀v:Int,RF.ev (.cell 0) [.agg [hiL v,loL v]]=some (.i64 (v/18446744073709551616)):=λ_=>rfl;have a4:RF.ev .agg [.i64 0,.v (.int .u64 0)]=some (.agg [.i64 0,.v (.int .u64 0)]):=rfl;have a5:∀v:Int,RF.ev (.eqv [.i,.i]) [.agg [hiL v,loL v],.agg [.i64 0,.v (.int .u64 0)]]=some (.bool (decide (v=0))):=λv=>by
  have:RF.ev (.eqv [.i,.i]) [.agg [hiL v,loL v],.agg [.i64 0,.v (.int .u64 0)]]=some (.bool (decide (v/18446744073709551616=0)&&(decide (v% 18446744073709551616=0)&& true))):=rfl;rw[this]
  congr 3
  grind
 have a6:∀x y:Int,RF.ev (.bs 2 [KP.z] [0,1]) [.i64 x,.i64 y]=some (.sl [[.i64 x],[.i64 y]]):=λx y=>rfl;have a7:∀x y:Int,RF.ev .sub [.sl [[.i64 x],[.i64 y]],.v (.int .i64 0),.v (.int .i64 2)]=some (.sl [[.i64 x],[.i64 y]]):=λx y=>rfl;refine am ?_;unfold adS;simp only[ay,jL,ba,iQ,vl,nX,ph,pi,a1,a2,a3,a4,a5,a6,a7,EV,i2,i4,h1,aE,aj,aa,Zp,phi (Zl _ _),phi (wD _ _),phi (orr _ _)];unfold MZ;by_cases hz:far t p q=0
 .rw[ac (by simp[hz]),ad hz]
 .rw[ad hz,ac hz];unfold sgn;by_cases hn:far t p q<0
  .rw[ad hn,ad hn]
  .rw[ac hn,ac hn,ad (by omega)]
def lU (p q:Pt)(t:Rt):Int:=if(p.ok&&(q.ok&& rok t))=true then(if p.id=q.id then 2 else 0) else 8
def M0 {p q:Pt}{t:Rt}(ht:aS t):Ans D 215 [PP p,PP q,R t] [.i64 (lU p q t)]:=by
 refine am ?_;unfold ack lU;simp only[jL,ba,iQ,mm2,EV,phi (Zj _),phi (c43 ht),LH,Bool.and_assoc,sM];cases(p.ok&&(q.ok&& rok t)) with
 |false=>rfl
 |true=>
  grind
def Dp {p q:Pt}{t:Rt}(h:lU p q t=0):p.ok=true/\ q.ok=true/\ rok t=true/\ p.id≠q.id:=by
 unfold lU at h
 grind
def mH {p q:Pt}{t:Rt}(h1:p.ok=true)(h2:q.ok=true)(h3:rok t=true)(h4:p.id≠q.id):lU p q t=0:=by
 unfold lU
 grind
def M1 {p q:Pt}{t:Rt}(ht:aS t):Ans D 244 [PP p,PP q,R t] (if lU p q t=0 then [.bool (leads t p q),.i64 0] else [.bool false,.i64 (lU p q t)]):=by
 refine am ?_;unfold acH;simp only[jL,ba,EV,phi (M0 ht)];by_cases h:lU p q t=0
 .obtain⟨h1,h2,_,_⟩:=Dp h;rw[ac (by simp[h]),ad h];simp[EV,phi (Zq h1 h2 ht),F8]
 .grind
def Sm (n:Int):Prop:= -4194304<=n/\ n<=4194304
def M2 {a b:Nat}(hb:0<b)(ha:a<18446744073709551616):RF.ev (.bin .quo) [U a,U b]=some (U (a/b)):=by
 show dC .quo .u64 (a:Int) .u64 (b:Int)=_
 have:=iI a b;rw[Pj,ac (by omega),lL (by omega),<-Int.natCast_ediv,wu (by omega)];rfl
def WB (n:Bool)(h l:Nat):PV:= .agg [.bool n,U h,U l]
def Zr (n:Bool)(h l:Nat):RF.ev .agg [.bool n,U h,U l]=some (WB n h l):=rfl
def Zs (n:Bool)(h l:Nat):RF.ev (.shape 3) [WB n h l]=some (WB n h l):=rfl
def cB0 (n:Bool)(h l:Nat):RF.ev (.cell 0) [WB n h l]=some (.bool n):=rfl
def cB1 (n:Bool)(h l:Nat):RF.ev (.cell 1) [WB n h l]=some (.v (.int .u64 (h:Int))):=rfl
def cB2 (n:Bool)(h l:Nat):RF.ev (.cell 2) [WB n h l]=some (.v (.int .u64 (l:Int))):=rfl
def yf (a b:Int):RF.ev .agg [.i64 a,.i64 b]=some (R ⟨a,b⟩):=rfl
def M3 (r:Rt):RF.ev (.part 0 2) [R r]=some (R r):=rfl
def U0:PV.v (.int .u64 0)=U 0:=rfl
def ah3 {n:Bool}{a b:Nat}(ha:a<=4194304)(hb:b<=4194304):Ans D 299 [WB n 0 a,U 0,U b] [R ⟨if n=true then-(a:Int) else a,b⟩,.i64 0]:=by
 refine am ?_;have e:RF.ev (.bin .gtr) [U 0,U 0]=some (.bool false):=rfl;have e2:RF.ev (.bin .gtr) [U b,.v (.int .u64 9223372036854775807)]=some (.bool (decide ((9223372036854775807:Int)<b))):=rfl;unfold adq;simp only[Zs,cB0,U0,cB1,cB2,yf,e,e2,MY,EV,RV,gg,cU (show-9223372036854775808<=(a:Int) by omega) (by omega),cU (show-9223372036854775808<=(b:Int) by omega) (by omega),cU (show-9223372036854775808<=0-(a:Int) by omega) (by omega)]
 grind
def M4 {n:Int}(h:Sm n):I64 n:=by obtain⟨h1,h2⟩:=h;exact⟨by omega,by omega⟩
def ah4 {n d:Int}(hn:Sm n)(hd:Sm d)(h0:d≠0):Ans D 216 [.i64 n,.i64 d] [R (mkR n d),.i64 0]:=by
 obtain⟨n1,n2⟩:=hn;obtain⟨d1,d2⟩:=hd;have hg:0<Nat.gcd n.natAbs d.natAbs:=gD _ (by omega);have l1:n.natAbs/Nat.gcd n.natAbs d.natAbs<=n.natAbs:=iI ..;have l2:d.natAbs/Nat.gcd n.natAbs d.natAbs<=d.natAbs:=iI ..;have hc:=phi (Zh n.natAbs d.natAbs);rw[zK] at hc;refine am ?_;unfold acl;simp only[M2 hg (show n.natAbs<18446744073709551616 by omega),M2 hg (show d.natAbs<18446744073709551616 by omega),U0,Zr,EV,phi (Dm (M4 ⟨n1,n2⟩)),phi (Dm (M4 ⟨d1,d2⟩)),hc,phi (ah3 (show n.natAbs/Nat.gcd n.natAbs d.natAbs<=4194304 by omega) (show d.natAbs/Nat.gcd n.natAbs d.natAbs<=4194304 by omega)),aa]
 rw[ac h0];rfl
def Zt {p q:Pt}(hp:p.ok=true)(hq:q.ok=true)(hi:p.id≠q.id)(hb:p.b≠q.b):Ans D 117 [PP p,PP q] [R (mkR (p.a-q.a) (q.b-p.b)),.i64 0]:=by
 have bp:=Pt.bnd hp;have bq:=Pt.bnd hq;have ht:aS ⟨0,1⟩:=⟨⟨by decide,by decide⟩,⟨by decide,by decide⟩⟩;have i2:=(ye bp.2.1 bq.2.1).2;have i4:=(ye bq.2.2 bp.2.2).2;have h1:=phi (M0 (p:=p) (q:=q) ht);rw[mH hp hq (by decide) hi] at h1;refine am ?_;unfold UF;simp[jL,ba,vl,nX,yf,EV,h1,i2,i4,phi (ah4 (n:=p.a-q.a) (d:=q.b-p.b) ⟨by omega,by omega⟩ ⟨by omega,by omega⟩ (by omega))]
 grind
def cT (t:Rt)(hi lo:Pt):Rt×Bool:=if leads t lo hi=true then(t,true) else if hi.b<lo.b then(mkR (hi.a-lo.a) (lo.b-hi.b),true) else(⟨0,0⟩,false)
def Zu {p q:Pt}{t:Rt}(ht:aS t):Ans D 326 [PP p,PP q,R t] (if lU p q t=0 then [R (cT t p q).1,.bool (cT t p q).2,.i64 0] else [R ⟨0,0⟩,.bool false,.i64 (lU p q t)]):=by
 refine am ?_;unfold adN;simp only[jL,ba,yf,EV,phi (M0 ht),aE,aj];by_cases h:lU p q t=0
 .obtain⟨h1,h2,_,h3⟩:=Dp h;rw[ac (by simp[h]),ad h];simp only[ay,nX,yf,EV,phi (Zq h2 h1 ht),F8,aa];unfold cT;cases leads t q p with
  |true=>rfl
  |false=>
   simp only[au,aw];by_cases hb:q.b<=p.b
   .grind
   .rw[ac hb,ad (by omega)];simp only[ay,ba,EV,phi (Zt h1 h2 h3 (by omega)),aA]
 .grind
def Wd (n:Bool)(a b:Int):RF.ev .agg [.bool n,.v (.int .u64 a),.v (.int .u64 b)]=some (.agg [.bool n,.v (.int .u64 a),.v (.int .u64 b)]):=rfl
def mkW {n:Bool}{h l:Int}{m:Nat}(h1:h=((m/18446744073709551616:Nat):Int))(h2:l=((m% 18446744073709551616:Nat):Int)):PV.agg [.bool n,.v (.int .u64 h),.v (.int .u64 l)]=W n m:=by rw[h1,h2];rfl
def Zv {n k:Bool}{a b:Nat}(ha:a<170141183460469231731687303715884105728)(h:b<=a):Ans D 448 [W n a,W k b] [W false (a-b)]:=by
 refine am ?_;unfold ae3;simp only[qS,vg,vk,EV,aa,Sz,Wd,my];by_cases c:((a% 18446744073709551616:Nat):Int)<((b% 18446744073709551616:Nat):Int)
 .rw[ad c,mkW (m:=a-b) (by omega) (by omega)]
 .rw[ac c,mkW (m:=a-b) (by omega) (by omega)]
def ah5 {n k:Bool}{a b:Nat}(ha:a<85070591730234615865843651857942052865)(hb:b<85070591730234615865843651857942052865):∃s m,Ans D 431 [W n a,W k b] [W s m]/\ rE s m=rE n a+rE k b:=by
 have l1:a% 18446744073709551616<18446744073709551616:=by omega
 by_cases hs:n=k
 .subst hs;refine⟨n,a+b,?_,by unfold rE;split<;>omega⟩;refine am ?_;unfold OK;simp only[ay,qS,Bl,vg,vk,EV,aa,Sw,Wd,my,gi,az];by_cases c:(((a% 18446744073709551616:Nat):Int)+((b% 18446744073709551616:Nat):Int))% 18446744073709551616<((a% 18446744073709551616:Nat):Int)
  .rw[ad c,mkW (m:=a+b) (by omega) (by omega)]
  .rw[ac c,mkW (m:=a+b) (by omega) (by omega)]
 .have hbe:(n==k)=false:=by cases n<;>cases k<;>simp_all
  by_cases hle:b<=a
  .refine⟨n&& decide (0<a-b),a-b,?_,by unfold rE;cases n<;>cases k<;>simp_all<;>(repeat' split)<;>omega⟩
   have g:sgn ((a:Int)-b)>=0:=by unfold sgn;repeat' split;all_goals omega
   refine am ?_;unfold OK;simp only[ay,qS,Bl,vg,vk,EV,aa,hbe,au,aw,phi (TU _ _),phi (Zv (n:=n) (k:=k) (show a<170141183460469231731687303715884105728 by omega) hle)]
   rw[ad g];have fin:∀(v:Bool) (es:List PV),den (bx D) 1 vO [] (.bool v::es)=den (bx D) 1 vO [] (.bool v::es):=λ_ _=>rfl;cases n with
   |false=>
    simp only[au,aw,ay,Bn,F6,vO,EV,qF]
   |true=>
    simp only[az,gI];by_cases c:(0:Int)<((((a-b)/18446744073709551616:Nat):Int))
    .rw[ad c,aq (show 0<a-b by omega)]
     simp only[ay,Bn,F6,vO,EV]
    .rw[ac c];simp only[ay,Bn,F6,vO,EV];rw[show decide ((0:Int)<(((a-b)% 18446744073709551616:Nat):Int))=decide (0<a-b) from c7.2 (by omega)]
  .refine⟨k,b-a,?_,by unfold rE;cases n<;>cases k<;>simp_all<;>omega⟩;have g:¬sgn ((a:Int)-b)>=0:=by unfold sgn;rw[ad (by omega)];decide
   refine am ?_;unfold OK;simp only[ay,qS,Bl,vg,vk,EV,aa,hbe,au,aw,phi (TU _ _),phi (Zv (n:=k) (k:=n) (a:=b) (b:=a) (show b<170141183460469231731687303715884105728 by omega) (by omega))]
   rw[ac g];simp only[ay,Bn,F6,EV]
def ah6 {p q:Pt}{t:Rt}(hp:p.ok=true)(hq:q.ok=true)(ht:aS t):Ans D 390 [PP p,PP q,R t] [.i64 (sgn (far t p q))]:=by
 have bp:=Pt.bnd hp;have bq:=Pt.bnd hq;obtain⟨i1,i2⟩:=ye bp.2.1 bq.2.1;obtain⟨i3,i4⟩:=ye bp.2.2 bq.2.2;obtain⟨s,m,h1,h2⟩:=ah5 (n:=Dn (p.a-q.a) t.den) (k:=Dn (p.b-q.b) t.num) (rS (PC i1 ht.2)) (rS (PC i3 ht.1));rw[sN,sN] at h2;refine am ?_;unfold aeG;simp[jL,ba,vl,nX,ph,pi,EV,i2,i4,phi (MW i1 ht.2),phi (MW i3 ht.1),phi h1,phi (Zn _ _)];rw[h2];rfl
def F9 {n:Int}:sgn n=0↔n=0:=by unfold sgn;repeat' split;all_goals omega
def vn {n:Int}:0<sgn n↔0<n:=by unfold sgn;repeat' split;all_goals omega
def Dq {p q:Pt}{t:Rt}(hp:p.ok=true)(hq:q.ok=true)(ht:aS t):Ans D 320 [PP p,PP q,R t] [.bool (leads t p q)]:=by
 refine am ?_;unfold adC leads;simp[jL,ba,iQ,nX,EV,phi (ah6 hp hq ht),F9,vn]
 grind
def ah7 {n:Bool}{a b:Nat}(ha:a<=4194304)(hb:b<=4194304):Ans D 383 [.bool n,WB false 0 a,WB false 0 b] [R ⟨if n=true then-(a:Int) else a,b⟩,.i64 0]:=by
 refine am ?_;unfold aeD;simp only[Zs,cB1,cB2,yf,EV,cU (show-9223372036854775808<=(a:Int) by omega) (by omega),cU (show-9223372036854775808<=(b:Int) by omega) (by omega),cU (show-9223372036854775808<=0-(a:Int) by omega) (by omega)]
 grind
def ah8 {n d:Int}(hn:Sm n)(hd:Sm d)(h0:d≠0):Ans D 297 [.i64 n,.i64 d] [R (mkR n d),.i64 0]:=by
 obtain⟨n1,n2⟩:=hn;obtain⟨d1,d2⟩:=hd;have hg:0<Nat.gcd n.natAbs d.natAbs:=gD _ (by omega);have l1:n.natAbs/Nat.gcd n.natAbs d.natAbs<=n.natAbs:=iI ..;have l2:d.natAbs/Nat.gcd n.natAbs d.natAbs<=d.natAbs:=iI ..;have hc:=phi (Zi n.natAbs d.natAbs);rw[zK] at hc;have hm:=λs=>phi (ah7 (n:=s) (show n.natAbs/Nat.gcd n.natAbs d.natAbs<=4194304 by omega) (show d.natAbs/Nat.gcd n.natAbs d.natAbs<=4194304 by omega))
 refine am ?_;unfold adp;simp[M2 hg (show n.natAbs<18446744073709551616 by omega),M2 hg (show d.natAbs<18446744073709551616 by omega),U0,Zr,ba,ph,pi,yf,RU,EV,phi (F4 (M4 ⟨n1,n2⟩)),phi (F4 (M4 ⟨d1,d2⟩)),hc,hm]
 unfold mkR
 grind
def Zw {p q:Pt}(hp:p.ok=true)(hq:q.ok=true)(hb:p.b≠q.b):Ans D 210 [PP p,PP q] [R (mkR (p.a-q.a) (q.b-p.b))]:=by
 have bp:=Pt.bnd hp;have bq:=Pt.bnd hq;have i2:=(ye bp.2.1 bq.2.1).2;have i4:=(ye bq.2.2 bp.2.2).2;refine am ?_;unfold acg;simp[jL,ba,vl,nX,EV,i2,i4,phi (ah8 (n:=p.a-q.a) (d:=q.b-p.b) ⟨by omega,by omega⟩ ⟨by omega,by omega⟩ (by omega))]
def ah9 {p q:Pt}{t:Rt}(hp:p.ok=true)(hq:q.ok=true)(ht:aS t):Ans D 318 [PP p,PP q,R t] [R (cT t p q).1,.bool (cT t p q).2]:=by
 refine am ?_;unfold adA cT;simp[jL,ba,nX,yf,EV,phi (Dq hq hp ht)];cases leads t q p with
 |true=>rfl
 |false=>
  simp;by_cases hb:p.b<q.b
  .rw[ad hb,ad hb];simp only[ay,ba,EV,phi (Zw hp hq (show p.b≠q.b by omega))]
  .grind
def aY (l:List Pt):RF.ev (.shape 1) [F l]=some (F l):=rfl
def cv (l:List Pt):RF.ev (.cell 0) [F l]=some (sl row l):=rfl
def gu (p:Pt):cM 0 3 (row p)=some (PP p):=rfl
def rT (p:Pt):cM 0 0 (row p)=some (.i64 p.id):=rfl
def b6 (p:Pt):(row p).length=3:=rfl
def I1 (n:Int):List PV:=[.i64 n]
def cZ (n:Int):cM 0 0 (I1 n)=some (.i64 n):=rfl
def B1 (b:Bool):List PV:=[.bool b]
def wE (b:Bool):cM 0 0 (B1 b)=some (.bool b):=rfl
open Classical in
def eQ (l:List Pt):Int:=if 64<l.length then 4 else if An l=true then(if jY l then 0 else 32) else 8
def Ga {b:Bool}:okE b=0↔b=true:=by cases b<;>simp[okE]
def jG {b:Bool}{α:Type}{x y:α}:(if¬okE b=0 then x else y)=if b=true then y else x:=by cases b<;>rfl
open Classical in
def uG (l:List Pt):Ans D 114 [F l] [.i64 (eQ l)]:=by
 refine an ⟨65,?_⟩;unfold abp eQ;simp only[ay,aY,cv,EV,ah,aa];by_cases h:64<l.length
 .grind
 .rw[ac (by omega),ac h];refine(cL (l:=l) (p:=Pt.ok) (st:=λi=>[.i64 (i:Int)]) (r:=some [.i64 8]) (fin:=some [.i64 (if jY l then 0 else 32)]) (λi p self hp _=>?_) (λhg self=>?_) (by omega)).trans ?_
  .unfold Hr;simp only[ay,cv,aT hp (b6 p),aM hp,gu,EV,aa,bj (aO hp),up1 (show i<1000000000 by have:=aO hp;omega),phi (Zj _),sM]
   cases p.ok<;>rfl
  .unfold Hr;simp only[EV,aa,bK,Ql,cv,ah];refine(fI (n:=l.length) (P:=λi=>∀p q,l[i]?=some q->(0<i->l[i-1]?=some p->p.id<q.id)) (st:=λi=>[.i64 (i:Int)]) (r:=some [.i64 32]) (fin:=some [.i64 0]) (λi self hi _=>?_) (λ_ self=>?_) (by omega)).trans ?_
   .obtain⟨q,hq⟩:∃q,l[i]?=some q:=⟨l[i],ai _⟩;unfold Hq;simp only[ay,cv,aT hq (b6 q),aM hq,gu,EV,aa,bj hi];cases i with
    |zero=>
     rw[ac (by omega),ad (λp q _ h=>by omega)];unfold Hp;simp only[EV,au,aw]
     try rfl
    |succ j=>
     obtain⟨p,hp⟩:∃p,l[j]?=some p:=⟨l[j],ai _⟩;rw[ad (by omega)];simp only[ay,iQ,tS (show j<1000000000 by omega),aT hp (b6 p),aM hp,rT,EV]
     unfold Hp;simp only[EV,aa,up1 (show j+1<1000000000 by omega)]
     by_cases hc:q.id<=p.id
     .rw[ad hc,ac (λh=>by have:=h p q hq (by omega) (by simpa using hp);omega)]
     .rw[ac hc,ad (λp' q' h1 _ h2=>by
       rw[hq] at h1;cases h1;rw[show j+1-1=j by omega,hp] at h2;cases h2
       omega)]
   .unfold Hq;simp only[EV,aa,bK,Qk]
   .have:(∀j,j<l.length->∀p q,l[j]?=some q->(0<j->l[j-1]?=some p->p.id<q.id))↔jY l:=by
     constructor
     .intro h i p q hp hq;exact h (i+1) (aO hq) p q hq (by omega) (by simpa using hp)
     .intro h j hj p q hq h0 hp;exact h (j-1) p q hp (by rw[show j-1+1=j by omega];exact hq)
    by_cases hr:jY l
    .rw[ad (this.2 hr),ad hr]
    .rw[ac (λh=>hr (this.1 h)),ac hr]
  .unfold An;cases l.all Pt.ok<;>rfl
open Classical in
def qm (l:List Pt):Ans D 28 [F l] [.i64 (eQ l)]:=by
 refine an ⟨65,?_⟩;unfold aaE eQ;simp only[ay,aY,cv,EV,ah,aa];by_cases h:64<l.length
 .grind
 .rw[ac (by omega),ac h];refine(cL (l:=l) (p:=Pt.ok) (st:=λi=>[.i64 (i:Int)]) (r:=some [.i64 8]) (fin:=some [.i64 (if jY l then 0 else 32)]) (λi p self hp _=>?_) (λhg self=>?_) (by omega)).trans ?_
  .unfold Hc;simp only[ay,cv,aT hp (b6 p),aM hp,gu,EV,ah,aa,bj (aO hp),up1 (show i<1000000000 by have:=aO hp;omega),phi (ahU _),sM]
  .unfold Hc;simp only[ay,cv,EV,ah,aa,bK,P4];refine(fI (n:=l.length-1) (P:=λi=>∀p q,l[i]?=some p->l[i+1]?=some q->p.id<q.id) (st:=λi=>[.i64 ((i+1:Nat):Int)]) (r:=some [.i64 32]) (fin:=some [.i64 0]) (λi self hi _=>?_) (λ_ self=>?_) (by omega)).trans ?_
   .obtain⟨p,hp⟩:∃p,l[i]?=some p:=⟨l[i],ai _⟩;obtain⟨q,hq⟩:∃q,l[i+1]?=some q:=⟨l[i+1],ai _⟩;unfold Hb;simp only[ay,cv,tS (show i<1000000000 by omega),aT hp (b6 p),aM hp,aT hq (b6 q),aM hq,rT,EV,ah,aa,bj (aO hq),up1 (show i+1<1000000000 by omega)]
    grind
   .unfold Hb;simp only[ay,cv,EV,ah,aa,P3];rw[ac (by omega)]
   .have:(∀j,j<l.length-1->∀p q,l[j]?=some p->l[j+1]?=some q->p.id<q.id)↔jY l:=
     ⟨λh i p q hp hq=>h i (by have:=aO hq;omega) p q hp hq,λh j _ p q hp hq=>h j p q hp hq⟩
    by_cases hr:jY l
    .rw[ad (this.2 hr),ad hr]
    .rw[ac (λh=>hr (this.1 h)),ac hr]
  .unfold An;cases l.all Pt.ok<;>rfl
def pos (l:List Pt)(id:Int):Int:=rC (λp=>decide (p.id=id)) l
def Fq {o:Option Nat}:o.elim (some [PV.i64 (-1)]) (λi=>some [.i64 (i:Int)])=some [.i64 (o.elim (-1) λi=>(i:Int))]:=by cases o<;>rfl
def ct (n:Int):(I1 n).length=1:=rfl
def wF (b:Bool):(B1 b).length=1:=rfl
def rF {l:List Pt}(hl:l.length<=1000)(id:Int):Ans D 134 [F l,.i64 id] [.i64 (pos l id)]:=by
 refine an ⟨1001,?_⟩;unfold aby;simp[aY,EV];refine(j7 (l:=l) (p:=λp=>decide (p.id=id)) (st:=λi=>[.i64 (i:Int)]) (ret:=λi=>some [.i64 (i:Int)]) (fin:=some [.i64 (-1)]) (λi p self hp=>?_) (λself=>?_) (by omega)).trans Fq
 .unfold Hv;simp only[cv,aT hp (b6 p),aM hp,rT,EV,ah,aa,bj (aO hp),up1 (show i<1000000000 by have:=aO hp;omega)]
 .unfold Hv;simp[cv,EV,Qp]
def aia {α:Type}[DecidableEq α]{l k:List α}(h:l.length=k.length):(l.zip k).all (λp=>decide (p.1=p.2))=decide (l=k):=by
 induction l generalizing k with
 |nil=>cases k with
  |nil=>rfl
  |cons=>simp at h
 |cons a l ih=>cases k with
  |nil=>simp at h
  |cons b k=>
   simp_all
def lO {α β:Type}{l:List α}{k:List β}{i:Nat}{x:α×β}(h:(l.zip k)[i]?=some x):l[i]?=some x.1/\ k[i]?=some x.2:=by
 grind
def iz {α β:Type}{l:List α}{k:List β}(h:l.length=k.length):(l.zip k).length=l.length:=by rw[qd];omega
def zN {α:Type}[DecidableEq α]{l k:List α}{x:Option (List PV)}(h:l.length=k.length)(hx:x=if(l.zip k).all (λp=>decide (p.1=p.2))=true then some [.bool true] else some [.bool false]):x=some [.bool (decide (l=k))]:=by
 rw[hx,aia h]
 grind
def Zx (p q:Pt):RF.ev (.eqv [.i,.i,.i]) [PP p,PP q]=some (.bool (decide (p=q))):=by
 obtain⟨a,b,c⟩:=p;obtain⟨x,y,z⟩:=q;have:RF.ev (.eqv [.i,.i,.i]) [PP ⟨a,b,c⟩,PP ⟨x,y,z⟩]=some (.bool (decide (a=x)&&(decide (b=y)&&(decide (c=z)&& true)))):=rfl;simp_all
def c28 {l k:List Pt}(hl:l.length<=1000):Ans D 82 [F l,F k] [.bool (decide (l=k))]:=by
 refine an ⟨1001,?_⟩;unfold k28;simp only[ay,aY,cv,EV,ah,aE,aj];by_cases h:l.length=k.length
 .rw[ac (by omega)];refine zN h (cL (l:=l.zip k) (st:=λi=>[.i64 (i:Int)]) (λi x self hx _=>?_) (λ_ self=>?_) (by rw[iz h];omega))
  .obtain⟨hp,hq⟩:=lO hx;unfold Og;simp only[ay,cv,aT hp (b6 _),aM hp,aT hq (b6 _),aM hq,gu,Zx,EV,ah,aa,aE,aj,bj (aO hp),up1 (show i<1000000000 by have:=aO hp;omega)]
   grind
  .rw[iz h];unfold Og;simp only[ay,cv,EV,ah,aa,bK,Xf]
 .rw[ad (by omega),ak (λe=>h (by rw[e]))]
def aib {l k:List Int}(hl:l.length<=1000):∃N,den (bx D) N UG [] [sl I1 l,sl I1 k]=some [.bool (decide (l=k))]:=by
 refine⟨1001,?_⟩;unfold UG;simp only[EV,ah,aE,aj];by_cases h:l.length=k.length
 .rw[ac (by omega)];refine zN h (cL (l:=l.zip k) (st:=λi=>[.i64 (i:Int)]) (λi x self hx _=>?_) (λ_ self=>?_) (by rw[iz h];omega))
  .obtain⟨hp,hq⟩:=lO hx;unfold Hs;simp only[aT hp (ct _),aM hp,aT hq (ct _),aM hq,cZ,EV,ah,aa,aE,aj,bj (aO hp),up1 (show i<1000000000 by have:=aO hp;omega)]
   grind
  .rw[iz h];unfold Hs;simp only[EV,ah,aa,bK,Qm]
 .rw[ad (by omega),ak (λe=>h (by rw[e]))]
def aic {l k:List Int}(hl:l.length<=1000):Ans D 130 [sl I1 l,sl I1 k] [.bool (decide (l=k))]:=an (aib hl)
def Gb {l:List Pt}(h:jY l):∀(d i:Nat) (p q:Pt),l[i]?=some p->l[i+d+1]?=some q->p.id<q.id
 |0,i,p,q,hp,hq=>h i p q hp hq
 |d+1,i,p,q,hp,hq=>by
  obtain⟨m,hm⟩:∃m,l[i+d+1]?=some m:=⟨l[i+d+1]'(by have:=aO hq;omega),ai _⟩;have h1:=Gb h d i p m hp hm;have h2:=h (i+d+1) m q hm (by rw[<-hq];congr 1);omega
def jM {l:List Pt}(h:jY l){i j:Nat}{p q:Pt}(hij:i<j)(hp:l[i]?=some p)(hq:l[j]?=some q):p.id<q.id:=
 Gb h (j-i-1) i p q hp (by rw[show i+(j-i-1)+1=j by omega];exact hq)
def c9 {l:List Pt}(h:jY l):Ids l:=by
 unfold Ids;rw[dL];intro i j x hi hj;rw[a8,bW] at hi hj;obtain⟨p,hp,rfl⟩:=hi;obtain⟨q,hq,e⟩:=hj;rcases fR i j with g|g|g
 .have:=jM h g hp hq;omega
 .exact g
 .have:=jM h g hq hp;omega
def LB (l:List Pt)(id:Int)(m:Nat):Prop:=m<=l.length/\∀(k:Nat) (p:Pt),l[k]?=some p->(k<m->p.id<id)/\(m<=k->id<=p.id)
def M5 {a b:Nat}(h:a<1000000)(k:b<1000000):dC .shr .u64 (IntKind.u64.wrap (IntKind.i64.wrap ((a:Int)+(b:Int)))) .u64 1=some (.v (.int .u64 (((a+b)/2:Nat):Int))):=by
 rw[Pk,ac (by decide),cU (by omega) (by omega),my,show min (1:Int).toNat IntKind.u64.bits=1 from rfl,iP _ (by decide)]
 congr 3
 omega
def AL {N:Nat}{f:JT}{e0 e2:PV}{l:List Pt}{id:Int}(hs:jY l)(hl:l.length<=1000):∀(m i j:Nat),j-i<m->i<=j->j<=l.length->(∀(k:Nat) (p:Pt),l[k]?=some p->(k<i->p.id<id)/\(j<=k->id<=p.id))->
  ∃P,LB l id P/\ dl (bx D) N vH [f] [e0,.i64 id,F l,sl row l,e2] m [.i64 (i:Int),.i64 (j:Int)]=f [.i64 (P:Int)]
 |0,i,j,h,_,_,_=>by omega
 |m+1,i,j,h,hij,hj,hb=>by
  rw[bu];by_cases hlt:i<j
  .obtain⟨p,hp⟩:∃p,l[(i+j)/2]?=some p:=⟨l[(i+j)/2]'(by omega),ai _⟩;have key:∀self:JT,den (bx D) N vH ([f]++[self]) ([e0,.i64 id,F l,sl row l,e2]++[.i64 (i:Int),.i64 (j:Int)])=if p.id<id then self [.i64 (((i+j)/2+1:Nat):Int),.i64 (j:Int)] else self [.i64 (i:Int),.i64 (((i+j)/2:Nat):Int)]:=λself=>by
    unfold vH;simp only[EV,aa,bj hlt,M5 (show i<1000000 by omega) (show j<1000000 by omega),cU (show-9223372036854775808<=(((i+j)/2:Nat):Int) by omega) (by omega),cv,aT hp (b6 p),aM hp,gu,iQ,phi (wD _ _),RM,up1 (show(i+j)/2<1000000000 by omega)]
    by_cases c:p.id<id
    .rw[ad c,ad (show sgn (p.id-id)<0 by unfold sgn;rw[ad (by omega)];decide)]
    .rw[ac c,ac (show¬sgn (p.id-id)<0 by unfold sgn;rw[ac (by omega)];split<;>decide)]
   rw[key];by_cases c:p.id<id
   .rw[ad c];refine AL hs hl m _ j (by omega) (by omega) hj λk q hq=>⟨λhk=>?_,(hb k q hq).2⟩;by_cases e:k=(i+j)/2
    .subst e;rw[hp] at hq;cases hq;exact c
    .have:=jM hs (show k<(i+j)/2 by omega) hq hp;omega
   .rw[ac c];refine AL hs hl m i _ (by omega) (by omega) (by omega) λk q hq=>⟨(hb k q hq).1,λhk=>?_⟩;by_cases e:k=(i+j)/2
    .subst e;rw[hp] at hq;cases hq;omega
    .have:=jM hs (show(i+j)/2<k by omega) hp hq;omega
  .refine⟨i,⟨by omega,λk p hp=>⟨(hb k p hp).1,λh=>(hb k p hp).2 (by omega)⟩⟩,?_⟩;unfold vH;simp only[EV,aa];rw[ac (by omega)]
def Gc {l:List Pt}{id:Int}:(∀p∈l,p.id≠id)->pos l id= -1:=λh=>by
 unfold pos rC;rw[fh.2 (λp hp=>ak (h p hp))];rfl
def sO {l:List Pt}(hs:jY l){i:Nat}{p:Pt}(h:l[i]?=some p):pos l p.id=i:=by
 unfold pos rC;have:l.findIdx? (λq=>decide (q.id=p.id))=some i:=by
  rw[bL];have hi:=aO h;have e:=(aC.1 h).2;refine⟨hi,by rw[e];simp,λj hj=>?_⟩;have:=jM hs hj (ai (by omega)) h;simp;omega
 rw[this];rfl
def pos_cases (l:List Pt)(id:Int):(pos l id= -1/\∀p∈l,p.id≠id)\/∃(i:Nat) (p:Pt),l[i]?=some p/\ p.id=id/\ pos l id=(i:Nat):=by
 unfold pos rC;cases h:l.findIdx? (λq=>decide (q.id=id)) with
 |none=>
  grind
 |some i=>
  obtain⟨h1,h2,_⟩:=bL.1 h
  grind
def wG {e0:PV}{l:List Pt}{id:Int}(hs:jY l)(hl:l.length<=1000):∃P:Nat,LB l id P/\(0<=pos l id->pos l id=P)/\∀(K2 K1:K) (J:List JT),K2=(.jp K1 (.lt (.bin .lss) [.x 5,.x 4] (.br (.x 6) (.lt (.cell 0) [.x 2] (.lt (.tix 3) [.x 7,.x 5] (.lt (.elt 0 3) [.x 7,.x 8] (.lt (.cell 0) [.x 9] (.call 220 [.x 10,.x 1] (.lt (.bin .eql) [.x 11,.c (.i64 0)] (.jmp 0 [.x 12]))))))) (.jmp 0 [.c (.bool false)]))))->
  dl (bx D) 1001 vH [kJ (bx D) 1001 K2 [] [e0,.i64 id,F l,sl row l,.i64 (l.length:Int)]] [e0,.i64 id,F l,sl row l,.i64 (l.length:Int)] 1001 [.i64 0,.i64 (l.length:Int)]=den (bx D) 1001 K1 [] [e0,.i64 id,F l,sl row l,.i64 (l.length:Int),.i64 (P:Int),.bool (decide (0<=pos l id))]:=by
 have hbin:=λf:JT=>AL (N:=1001) (f:=f) (e0:=e0) (e2:= .i64 (l.length:Int)) (id:=id) hs hl 1001 0 l.length (by omega) (by omega) (by omega) λk p hp=>⟨λh=>by omega,λh=>by have:=aO hp;omega⟩;have uniq:∀P P2,LB l id P->LB l id P2->P=P2:=λP P2 h h'=>by
  rcases fR P P2 with g|g|g
  .obtain⟨p,hp⟩:∃p,l[P]?=some p:=⟨l[P]'(by have:=h'.1;omega),ai _⟩;have h1:=(h.2 P p hp).2 (aB _);have h2:=(h'.2 P p hp).1 g;omega
  .exact g
  .obtain⟨p,hp⟩:∃p,l[P2]?=some p:=⟨l[P2]'(by have:=h.1;omega),ai _⟩;have h1:=(h'.2 P2 p hp).2 (aB _);have h2:=(h.2 P2 p hp).1 g;omega
 obtain⟨P,hLB,_⟩:=hbin λ_=>none;obtain⟨h1,h2⟩:=hLB;have hpos:(0<=pos l id->pos l id=P)/\(0<=pos l id↔∃p,l[P]?=some p/\ p.id=id):=by
  rcases pos_cases l id with⟨e,hn⟩|⟨i,p,hp,he,e⟩
  .refine⟨λh=>by omega,λh=>by omega,λ⟨p,hp,he⟩=>absurd he (hn p (ax hp))⟩
  .have:i=P:=by
    rcases fR i P with g|g|g
    .have:=(h2 i p hp).1 g;omega
    .exact g
    .obtain⟨q,hq⟩:∃q,l[P]?=some q:=⟨l[P]'(by have:=aO hp;omega),ai _⟩;have:=(h2 P q hq).2 (by omega);have:=jM hs g hq hp;omega
   subst this;exact⟨λ_=>e,λ_=>⟨p,hp,he⟩,λ_=>by omega⟩
 refine⟨P,⟨h1,h2⟩,hpos.1,λK2 K1 J hK=>?_⟩;obtain⟨P2,hLB',h3⟩:=hbin (kJ (bx D) 1001 K2 [] [e0,.i64 id,F l,sl row l,.i64 (l.length:Int)]);have:=uniq P P2 ⟨h1,h2⟩ hLB';subst this;refine h3.trans ?_;subst hK;simp only[EV,aa];by_cases hP:P<l.length
 .obtain⟨p,hp⟩:∃p,l[P]?=some p:=⟨l[P],ai _⟩;simp only[bj hP,ay,cv,aT hp (b6 p),aM hp,gu,iQ,phi (wD _ _),EV];have:decide (sgn (p.id-id)=0)=decide (0<=pos l id):=by
   rw[c7,F9,hpos.2];constructor
   .intro h;exact⟨p,hp,by omega⟩
   .rintro⟨q,hq,h⟩;rw[hp] at hq;cases hq;omega
  rw[this]
 .rw[ac (by omega)];rw[ak (show¬0<=pos l id by rw[hpos.2];rintro⟨p,hp,_⟩;have:=aO hp;omega)]
def eH {l:List Pt}:eQ l=0↔okF l:=by
 unfold eQ okF
 grind
def dr {l:List Pt}(h:okF l){i:Nat}{p:Pt}(hp:l[i]?=some p):p.ok=true:=aV.1 h.2.1 p (ax hp)
def Dr {l:List Pt}(h:okF l){i:Nat}{p:Pt}(hp:l[i]?=some p):decide (0<=pos l p.id)=true/\ pos l p.id=(i:Nat):=by
 have:=sO h.2.2 hp
 grind
def aid {l:List Pt}(h:okF l){i:Nat}{p:Pt}(hp:l[i]?=some p):Ans D 267 [F l,.i64 p.id] [.i64 (i:Int),.bool true]:=by
 obtain⟨P,_,h2,h1⟩:=wG (e0:=F l) (id:=p.id) h.2.2 (by have:=h.1;omega);obtain⟨e1,e2⟩:=Dr h hp;have:P=i:=by have:=h2 (aX e1);omega
 subst this;refine an ⟨1001,?_⟩;unfold acY;simp[aY,cv,EV];refine(h1 _ I3 [] rfl).trans ?_;simp[I3,EV,e1]
def aie {l:List Pt}(h:okF l){i:Nat}{p:Pt}(hp:l[i]?=some p):Ans D 276 [F l,.i64 p.id] [.i64 (i:Int),.i64 0]:=by
 have h0:=phi (uG l);rw[eH.2 h] at h0;refine am ?_;unfold ac0;simp[aY,EV,h0,phi (aid h hp)]
def Ds {l:List Pt}(h:okF l){i:Nat}{p:Pt}(hp:l[i]?=some p):Ans D 243 [F l,.i64 p.id] [PP p,.i64 0]:=by
 refine am ?_;unfold acG;simp[aY,cv,EV,phi (aie h hp),aT hp (b6 p),aM hp,gu]
def Zy {l:List Pt}{t:Rt}(h:okF l)(ht:aS t)(hr:rok t=true){i j:Nat}{p q:Pt}(hp:l[i]?=some p)(hq:l[j]?=some q)(hne:p.id≠q.id):Ans D 151 [F l,R t,.i64 p.id,.i64 q.id] [.bool (leads t p q)]:=by
 have h0:=phi (M1 (p:=p) (q:=q) ht);rw[mH (dr h hp) (dr h hq) hr hne] at h0;refine am ?_;unfold abP;simp[aY,ba,jL,EV,phi (Ds h hp),phi (Ds h hq),h0]
def TV {l:List Pt}(h:okF l){i:Nat}{p:Pt}(hp:l[i]?=some p):Ans D 400 [F l,.i64 p.id] [.i64 (i:Int),.bool true]:=by
 obtain⟨P,_,h2,h1⟩:=wG (e0:=F l) (id:=p.id) h.2.2 (by have:=h.1;omega);obtain⟨e1,e2⟩:=Dr h hp;have:P=i:=by have:=h2 (aX e1);omega
 subst this;refine an ⟨1001,?_⟩;unfold US;simp[aY,cv,EV];refine(h1 _ Cr [] rfl).trans ?_;simp[Cr,EV,e1]
def af7 {l:List Pt}(h:okF l){id:Int}(hn:∀p∈l,p.id≠id):∃P:Nat,Ans D 400 [F l,.i64 id] [.i64 (P:Int),.bool false]:=by
 obtain⟨P,_,_,h1⟩:=wG (e0:=F l) (id:=id) h.2.2 (by have:=h.1;omega);refine⟨P,an ⟨1001,?_⟩⟩;unfold US;simp[aY,cv,EV];refine(h1 _ Cr [] rfl).trans ?_;simp only[Gc hn];rfl
def bh (l:List Pt)(id:Int):Pt:=(l.find? λp=>decide (p.id=id)).getD ⟨-1,0,0⟩
def io {l:List Pt}(h:okF l){i:Nat}{p:Pt}(hp:l[i]?=some p):bh l p.id=p:=by
 unfold bh;cases e:l.find? λq=>decide (q.id=p.id) with
 |none=>rw[j5] at e;have:=e p (ax hp);simp at this
 |some q=>
  have h1:=j6 e;exact(c9 h.2.2).inj (ed e) (ax hp) (aX h1)
def Ev {l:List Pt}{id:Int}(hn:∀p∈l,p.id≠id):bh l id=⟨-1,0,0⟩:=by
 unfold bh;rw[j5.2 (λp hp=>by simpa using hn p hp)]
 rfl
def has_cases (l:List Pt)(id:Int):(∀p∈l,p.id≠id)\/∃(i:Nat) (p:Pt),l[i]?=some p/\ p.id=id:=by
 rcases pos_cases l id with⟨_,h⟩|⟨i,p,h1,h2,_⟩
 .exact .inl h
 .grind
def Du {l:List Pt}(h:okF l)(id:Int):Ans D 327 [F l,.i64 id] [PP (bh l id)]:=by
 obtain⟨P,_,h2,h1⟩:=wG (e0:=F l) (id:=id) h.2.2 (by have:=h.1;omega);refine an ⟨1001,?_⟩;unfold adR;simp only[ay,aY,cv,EV,ah];refine(h1 _ Jf [] rfl).trans ?_;unfold Jf;rcases has_cases l id with hn|⟨i,p,hp,rfl⟩
 .have a3:RF.ev .agg [.i64 (-1),.i64 0,.i64 0]=some (PP ⟨-1,0,0⟩):=rfl;rw[Gc hn,ak (by decide)];simp only[ay,cv,EV,bA,az,a3,Ev hn]
 .obtain⟨e1,e2⟩:=Dr h hp;have:P=i:=by have:=h2 (aX e1);omega
  subst this;rw[e1];simp only[ay,cv,EV,aF,au,aw,aT hp (b6 p),aM hp,gu,io h hp]
structure Crt where
 j:Int
 h:Int
 deriving DecidableEq
structure Held where
 n:Int
 c:Crt
 deriving DecidableEq
structure Hnd where
 i:Int
 use:Int
 deriving DecidableEq
structure Evt where
 time:Rt
 n:Int
 h:Hnd
 deriving DecidableEq
structure Due where
 n:Int
 h:Hnd
 deriving DecidableEq
structure Nod where
 id:Int
 left:Int
 right:Int
 deriving DecidableEq
structure Certs where
 next:Int
 l:List Held
 deriving DecidableEq
structure Agenda where
 s:Slots
 heap:List Evt
 w:List Int
 deriving DecidableEq
structure Clock where
 n:Rt
 p:List Pt
 q:Certs
 a:Agenda
 d:List Due
 deriving DecidableEq
structure Brk where
 p:List Int
 w:List Int
 deriving DecidableEq
structure Tree where
 root:Int
 n:List Nod
 deriving DecidableEq
structure KHeap where
 c:Clock
 heap:List Int
 deriving DecidableEq
structure KTourn where
 c:Clock
 b:Brk
 deriving DecidableEq
structure Heater where
 c:Clock
 t:Tree
 deriving DecidableEq
structure Choice where
 tag:Int
 heap:KHeap
 o:KTourn
 x:Heater
 g:KHeap
 deriving DecidableEq
def crow (c:Crt):List PV:=[.i64 c.j,.i64 c.h]
def hrow (h:Held):List PV:=[.i64 h.n,.i64 h.c.j,.i64 h.c.h]
def bV (e:Evt):List PV:=[.i64 e.time.num,.i64 e.time.den,.i64 e.n,.i64 e.h.i,.i64 e.h.use]
def cp (d:Due):List PV:=[.i64 d.n,.i64 d.h.i,.i64 d.h.use]
def dB (n:Nod):List PV:=[.i64 n.id,.i64 n.left,.i64 n.right]
def CP (c:Crt):PV:= .agg (crow c)
def HP (h:Held):PV:= .agg (hrow h)
def EP (e:Evt):PV:= .agg (bV e)
def DP (d:Due):PV:= .agg (cp d)
def NP (n:Nod):PV:= .agg (dB n)
def csC (c:Certs):List PV:=[.i64 c.next,sl hrow c.l]
def slC (s:Slots):List PV:=[sl I1 s.u,sl B1 s.v,sl I1 s.f]
def agC (a:Agenda):List PV:=slC a.s++[sl bV a.heap,sl I1 a.w]
def clC (c:Clock):List PV:= .i64 c.n.num:: .i64 c.n.den::sl row c.p::(csC c.q++(agC c.a++[sl cp c.d]))
def brC (b:Brk):List PV:=[sl I1 b.p,sl I1 b.w]
def trC (t:Tree):List PV:=[.i64 t.root,sl dB t.n]
def khC (k:KHeap):List PV:=clC k.c++[sl I1 k.heap]
def ktC (k:KTourn):List PV:=clC k.c++brC k.b
def htC (k:Heater):List PV:=clC k.c++trC k.t
def bf (c:Choice):List PV:= .v (.int .u8 c.tag)::(khC c.heap++(ktC c.o++(htC c.x++khC c.g)))
def CS (c:Certs):PV:= .agg (csC c)
def SL (s:Slots):PV:= .agg (slC s)
def AG (a:Agenda):PV:= .agg (agC a)
def CL (c:Clock):PV:= .agg (clC c)
def BR (b:Brk):PV:= .agg (brC b)
def TR (t:Tree):PV:= .agg (trC t)
def KH (k:KHeap):PV:= .agg (khC k)
def KT (k:KTourn):PV:= .agg (ktC k)
def HT (k:Heater):PV:= .agg (htC k)
def CHO (c:Choice):PV:= .agg (bf c)
def oj (c:Crt):cM 0 2 (crow c)=some (CP c):=rfl
def kY (h:Held):cM 0 3 (hrow h)=some (HP h):=rfl
def Bo (h:Held):cM 1 2 (hrow h)=some (CP h.c):=rfl
def Fr (h:Held):cM 0 0 (hrow h)=some (.i64 h.n):=rfl
def af8 (h:Held):cM 1 0 (hrow h)=some (.i64 h.c.j):=rfl
def af9 (h:Held):cM 2 0 (hrow h)=some (.i64 h.c.h):=rfl
def gS (e:Evt):cM 0 5 (bV e)=some (EP e):=rfl
def Zz (d:Due):cM 0 3 (cp d)=some (DP d):=rfl
def Ge (n:Nod):cM 0 3 (dB n)=some (NP n):=rfl
def gb (c:Crt):(crow c).length=2:=rfl
def fL (c:Held):(hrow c).length=3:=rfl
def j8 (c:Evt):(bV c).length=5:=rfl
def po (c:Due):(cp c).length=3:=rfl
def ol (c:Nod):(dB c).length=3:=rfl
section
variable (c:Certs)(s:Slots)(a:Agenda)(k:Clock)(b:Brk)(t:Tree)(kh:KHeap)(kt:KTourn)(ht:Heater)(ch:Choice)(cr:Crt)(h:Held)
theorem j9:RF.ev (.shape 2) [CP cr]=some (CP cr):=rfl
theorem kb:RF.ev (.cell 0) [CP cr]=some (.i64 cr.j):=rfl
theorem ke:RF.ev (.cell 1) [CP cr]=some (.i64 cr.h):=rfl
theorem om:RF.ev (.cell 0) [HP h]=some (.i64 h.n):=rfl
theorem pHP:RF.ev (.part 1 2) [HP h]=some (CP h.c):=rfl
theorem ji:RF.ev (.shape 2) [CS c]=some (CS c):=rfl
theorem nN:RF.ev (.cell 0) [CS c]=some (.i64 c.next):=rfl
theorem fM:RF.ev (.cell 1) [CS c]=some (sl hrow c.l):=rfl
theorem jy:RF.ev (.shape 3) [SL s]=some (SL s):=rfl
theorem kZ:RF.ev (.cell 0) [SL s]=some (sl I1 s.u):=rfl
theorem oo:RF.ev (.cell 1) [SL s]=some (sl B1 s.v):=rfl
theorem lV:RF.ev (.cell 2) [SL s]=some (sl I1 s.f):=rfl
theorem jk:RF.ev (.shape 5) [AG a]=some (AG a):=rfl
theorem pAG:RF.ev (.part 0 3) [AG a]=some (SL a.s):=rfl
theorem fV:RF.ev (.cell 3) [AG a]=some (sl bV a.heap):=rfl
theorem lX:RF.ev (.cell 4) [AG a]=some (sl I1 a.w):=rfl
theorem bX:RF.ev (.shape 11) [CL k]=some (CL k):=rfl
theorem eZ:RF.ev (.part 0 2) [CL k]=some (R k.n):=rfl
theorem fN:RF.ev (.part 2 1) [CL k]=some (F k.p):=rfl
theorem oq:RF.ev (.part 3 2) [CL k]=some (CS k.q):=rfl
theorem sP:RF.ev (.part 5 5) [CL k]=some (AG k.a):=rfl
theorem k8:RF.ev (.cell 2) [CL k]=some (sl row k.p):=rfl
theorem fO:RF.ev (.cell 4) [CL k]=some (sl hrow k.q.l):=rfl
theorem iK:RF.ev (.cell 8) [CL k]=some (sl bV k.a.heap):=rfl
theorem kf:RF.ev (.cell 9) [CL k]=some (sl I1 k.a.w):=rfl
theorem dT:RF.ev (.cell 10) [CL k]=some (sl cp k.d):=rfl
theorem kD:RF.ev (.shape 2) [BR b]=some (BR b):=rfl
theorem uH:RF.ev (.cell 0) [BR b]=some (sl I1 b.p):=rfl
theorem k9:RF.ev (.cell 1) [BR b]=some (sl I1 b.w):=rfl
theorem pq:RF.ev (.shape 2) [TR t]=some (TR t):=rfl
theorem TW:RF.ev (.cell 0) [TR t]=some (.i64 t.root):=rfl
theorem nO:RF.ev (.cell 1) [TR t]=some (sl dB t.n):=rfl
theorem gc:RF.ev (.shape 12) [KH kh]=some (KH kh):=rfl
theorem pKH:RF.ev (.part 0 11) [KH kh]=some (CL kh.c):=rfl
theorem cKH:RF.ev (.cell 11) [KH kh]=some (sl I1 kh.heap):=rfl
theorem mI:RF.ev (.shape 13) [KT kt]=some (KT kt):=rfl
theorem pKT:RF.ev (.part 0 11) [KT kt]=some (CL kt.c):=rfl
theorem Dv:RF.ev (.part 11 2) [KT kt]=some (BR kt.b):=rfl
theorem mJ:RF.ev (.shape 13) [HT ht]=some (HT ht):=rfl
theorem pHT:RF.ev (.part 0 11) [HT ht]=some (CL ht.c):=rfl
theorem TX:RF.ev (.part 11 2) [HT ht]=some (TR ht.t):=rfl
theorem dt:RF.ev (.shape 51) [CHO ch]=some (CHO ch):=rfl
theorem cCH:RF.ev (.cell 0) [CHO ch]=some (.v (.int .u8 ch.tag)):=rfl
theorem Dw:RF.ev (.part 1 12) [CHO ch]=some (KH ch.heap):=rfl
theorem Dx:RF.ev (.part 13 13) [CHO ch]=some (KT ch.o):=rfl
theorem Dy:RF.ev (.part 26 13) [CHO ch]=some (HT ch.x):=rfl
theorem Dz:RF.ev (.part 39 12) [CHO ch]=some (KH ch.g):=rfl
end
def gSl (s:Slots):Bool:=decide (210<s.u.length)||decide (210<s.v.length)||decide (210<s.f.length)
def gAg (a:Agenda):Bool:=gSl a.s||decide (210<a.heap.length)||decide (210<a.w.length)
def gF (bb:Nat)(l:List Pt):Bool:=(decide (bb<l.length)&& decide (l.length<64))||decide (70<l.length)
def gCl (bb:Nat)(c:Clock):Bool:=decide (40<c.q.l.length)||decide (40<c.d.length)||gF bb c.p||gAg c.a
def gKh (bb:Nat)(k:KHeap):Bool:=gCl bb k.c||decide (70<k.heap.length)
def gKt (bb:Nat)(k:KTourn):Bool:=gCl bb k.c||(decide (70<k.b.p.length)||decide (70<k.b.w.length))
def gHt (bb:Nat)(k:Heater):Bool:=gCl bb k.c||decide (70<k.t.n.length)
def gCh (bb:Nat)(c:Choice):Bool:=gKh bb c.heap||gKt bb c.o||gHt bb c.x||gKh bb c.g
def aif (a b c x y z:Int):RF.ev (.eqv [.i,.i,.i]) [.agg [.i64 a,.i64 b,.i64 c],.agg [.i64 x,.i64 y,.i64 z]]=some (.bool (decide (a=x/\ b=y/\ c=z))):=by
 have:RF.ev (.eqv [.i,.i,.i]) [.agg [.i64 a,.i64 b,.i64 c],.agg [.i64 x,.i64 y,.i64 z]]=some (.bool (decide (a=x)&&(decide (b=y)&&(decide (c=z)&& true)))):=rfl;simp_all
def ZA (p q:Nod):RF.ev (.eqv [.i,.i,.i]) [NP p,NP q]=some (.bool (decide (p=q))):=by
 obtain⟨a,b,c⟩:=p;obtain⟨x,y,z⟩:=q;refine(aif ..).trans ?_;simp_all
def ZB (a b x y:Int):RF.ev (.eqv [.i,.i]) [.agg [.i64 a,.i64 b],.agg [.i64 x,.i64 y]]=some (.bool (decide (a=x/\ b=y))):=by
 have:RF.ev (.eqv [.i,.i]) [.agg [.i64 a,.i64 b],.agg [.i64 x,.i64 y]]=some (.bool (decide (a=x)&&(decide (b=y)&& true))):=rfl;simp_all
def wH (p q:Crt):RF.ev (.eqv [.i,.i]) [CP p,CP q]=some (.bool (decide (p=q))):=by
 obtain⟨a,b⟩:=p;obtain⟨x,y⟩:=q;refine(ZB ..).trans ?_;simp_all
def ZC (p q:Rt):RF.ev (.eqv [.i,.i]) [R p,R q]=some (.bool (decide (p=q))):=by
 obtain⟨a,b⟩:=p;obtain⟨x,y⟩:=q;refine(ZB ..).trans ?_;simp_all
def aig (p q:Evt):RF.ev (.eqv [.i,.i,.i,.i,.i]) [EP p,EP q]=some (.bool (decide (p=q))):=by
 obtain⟨⟨a,b⟩,c,d,e⟩:=p;obtain⟨⟨x,y⟩,z,u,v⟩:=q;have:RF.ev (.eqv [.i,.i,.i,.i,.i]) [EP ⟨⟨a,b⟩,c,⟨d,e⟩⟩,EP ⟨⟨x,y⟩,z,⟨u,v⟩⟩]=some (.bool (decide (a=x)&&(decide (b=y)&&(decide (c=z)&&(decide (d=u)&&(decide (e=v)&& true)))))):=rfl;rw[this]
 congr 2
 grind
structure gW (s:Clock):Prop where
 q:s.q.l.length<=1000
 d:s.d.length<=1000
 p:s.p.length<=1000
 ag:gAg s.a=false
def Fs {bb:Nat}{s:Clock}(h:gCl bb s=false):gW s:=by
 unfold gCl gF at h;simp at h;obtain⟨⟨⟨h1,h2⟩,h3,h3'⟩,h4⟩:=h;exact⟨by omega,by omega,by omega,h4⟩
def aih {s t:Tree}(h:s.n.length<=1000):Ans D 132 [TR s,TR t] [.bool (decide (s=t))]:=by
 refine an ⟨1001,?_⟩;unfold abw;obtain⟨a,b⟩:=s;obtain⟨x,y⟩:=t;simp only at h;simp only[ay,pq,TW,nO,EV,ah,aE,aj];by_cases h1:a=x
 .subst h1;simp only[fS,aw];by_cases h3:b.length=y.length
  .rw[ac (by omega)];refine(zN (l:=b) (k:=y) h3 (cL (l:=b.zip y) (st:=λi=>[.i64 (i:Int)]) (λi x self hx _=>?_) (λ_ self=>?_) (by rw[iz h3];omega))).trans ?_
   .obtain⟨hp,hq⟩:=lO hx;unfold Ht;simp only[ay,nO,aT hp (ol _),aM hp,aT hq (ol _),aM hq,Ge,ZA,EV,ah,aa,aE,aj,bj (aO hp),up1 (show i<1000000000 by have:=aO hp;omega)]
    grind
   .rw[iz h3];unfold Ht;simp only[ay,nO,EV,ah,aa,bK,Qn]
   .simp[Tree.mk.injEq]
  .rw[ad (by omega),ak (λe=>h3 (by cases e;rfl))]
 .rw[ad h1,ak (λe=>h1 (by cases e;rfl))]
def We {bb:Nat}{s:KHeap}(h:gKh bb s=false):gW s.c/\ s.heap.length<=1000:=by
 unfold gKh at h;simp at h;exact⟨Fs h.1,by omega⟩
end Go.Proofs.YtoeigdpfcnaaeaaGreat
namespace Go.Sym
open Go.Sym
def ez {α β:Type}(g:β->α->Option β):β->List α->Option β
 |x,[]=>some x
 |x,a::l=>match g x a with
  |some y=>ez g y l
  |none=>none
section
variable {Φ:PhT}{N:Nat}{b:K}{J:List JT}{e:List PV}{α β:Type}{l:List α}
def wI {g:β->α->Option β}{I:β->Prop}{S:β->Nat->List PV}{fin:β->Option (List PV)}{r:Option (List PV)}{x:β}(h0:I x)(hi:∀a acc acc',I acc->g acc a=some acc'->I acc')(hs:∀i a acc self,l[i]?=some a->I acc->den Φ N b (J++[self]) (e++S acc i)=match g acc a with|some acc'=>self (S acc' (i+1))|none=>r)
  (hf:∀acc self,I acc->ez g x l=some acc->den Φ N b (J++[self]) (e++S acc l.length)=fin acc) {m:Nat} (hm:l.length<m):dl Φ N b J e m (S x 0)=match ez g x l with|some acc=>fin acc|none=>r:=by
 have:∀(k:List α) i m acc,l.drop i=k->i<=l.length->k.length<m->I acc->ez g x l=ez g acc k->dl Φ N b J e m (S acc i)=match ez g acc k with|some acc=>fin acc|none=>r:=by
  intro k;induction k with
  |nil=>
   intro i m acc h hi' hm hI hx;obtain⟨m,rfl⟩:∃m',m=m'+1:=⟨m-1,by omega⟩;have:=mF h hi';have hil:i=l.length:=by simpa using this
   rw[bu,hil];exact hf _ _ hI hx
  |cons a k ih=>
   intro i m acc h hi' hm hI hx;obtain⟨m,rfl⟩:∃m',m=m'+1:=⟨m-1,by omega⟩;obtain⟨h1,h2⟩:=gJ h;have:=mF h hi';simp only[aZ] at hm this;rw[bu,hs i a acc _ h1 hI];have hu:ez g acc (a::k)=match g acc a with|some y=>ez g y k|none=>none:=rfl
   rw[hu] at hx|-;cases hg:g acc a with
   |none=>rfl
   |some acc'=>
    rw[hg] at hx;exact ih (i+1) m _ h2 (by omega) (by omega) (hi a acc acc' hI hg) hx
 exact this l 0 m x rfl (by omega) hm h0 rfl
end
end Go.Sym
namespace Go.Proofs.YtoeigdpfcnaaeaaGreat
open Go.Sym Bnd
set_option maxRecDepth 100000
def pu:∀(xs:List Int) (l:List Bool),pX l xs=ez (λl x=>if 0<=x/\ x<l.length/\ l[x.toNat]?=some false then some (l.set x.toNat true) else none) l xs
 |[],l=>rfl
 |x::xs,l=>by
  unfold pX ez;by_cases h:0<=x/\ x<l.length/\ l[x.toNat]?=some false
  .rw[ad h,ad h];exact pu xs _
  .rw[ac h,ac h]
def M6 {l:List Bool}{i:Nat}(h:i<l.length):RF.ev (.set 0) [sl B1 l,.v (.int .i64 (i:Int)),.v (.bool true)]=some (sl B1 (l.set i true)):=by
 rw[xH,ad (by omega),aG,a8,ai h];exact aW (λx=>some (PV.sl x)) (nq (f:=B1) (l:=l) (i:=i) (a:=true)).symm
def ixM {i n:Nat}(h:i<n):RF.ev .ix [.v (.int .i64 (i:Int)),.v (.int .i64 (n:Int))]=some (.i64 (i:Int)):=by
 rw[afH,ad (by omega)]
def uI {x:Int}(h:0<=x):∃n:Nat,x=(n:Int):=⟨x.toNat,by omega⟩
open Classical in
def aii (s:Slots)(hf:s.f.length<=1000):Ans D 315 [SL s] [.i64 (okE (decide s.okR))]:=by
 refine an ⟨1001,?_⟩;unfold adx;simp only[ay,jy,kZ,oo,lV,EV,ah,aa,aE,aj];have no:∀h:¬s.okR,(some [PV.v (.int .i64 8)]:Option (List PV))=some [.i64 (okE (decide s.okR))]:=λh=>by rw[ak h];rfl
 by_cases h1:s.u.length<1
 .rw[ad (by omega)];exact no (λh=>by have:=h.1;omega)
 .rw[ac (by omega)];by_cases h2:200<s.u.length
  .rw[ad (by omega)];exact no (λh=>by have:=h.2.1;omega)
  .rw[ac (by omega)];by_cases h3:s.v.length=s.u.length
   .rw[ac (by omega)];by_cases h4:s.u.length<s.f.length
    .rw[ad (by omega)];exact no (λh=>by have:=h.2.2.2.1;omega)
    .rw[ac (by omega)];have hrep:RF.ev (.rep [.v (.bool false)] 1) [.v (.int .i64 (s.u.length:Int)),.v (.int .i64 (s.u.length:Int))]=some (sl B1 (List.replicate s.u.length false)):=by
      rw[Pi,ad ⟨by omega,by omega,by omega,by omega⟩,aG];show _=some (PV.sl ((List.replicate s.u.length false).map B1))
      rw[rA];rfl
     simp only[hrep,rf,KL,Pl,ay,EV,ah,aQ];refine(wI (l:=s.f) (g:=λl x=>if 0<=x/\ x<l.length/\ l[x.toNat]?=some false then some (l.set x.toNat true) else none) (I:=λl=>l.length=s.u.length) (S:=λl i=>[sl B1 l,.i64 (i:Int)]) (r:=some [.i64 8])
      (fin:=λ_=>some [.i64 (okE (decide s.okR))]) (x:=List.replicate s.u.length false) (by simp) (λa acc acc' hI hg=>?_) (λi x acc self hx hI=>?_) (λacc self hI hm=>?_) (by omega)).trans ?_
     .split at hg
      .cases hg;simpa using hI
      .cases hg
     .unfold Ja;have hi:=aO hx;simp only[ay,lV,aT hx (ct _),aM hx,cZ,EV,ah,aa,bj hi];by_cases c1:x<0
      .rw[ad c1,ac (by omega)]
      .rw[ac c1];by_cases c2:(s.u.length:Int)<=x
       .rw[ad c2,ac (by rw[hI];omega)]
       .rw[ac c2];obtain⟨n,rfl⟩:=uI (show 0<=x by omega)
        obtain⟨b,hb⟩:∃b,acc[n]?=some b:=⟨acc[n]'(by omega),ai _⟩;simp only[ay,lV,aT hx (ct _),aM hx,cZ,ixM (show n<s.u.length by omega),aM hb,wE,M6 (show n<acc.length by omega),EV,up1 (show i<1000000000 by omega)]
        cases b with
        |true=>rw[ad rfl,ac (by rw[aG,hb];simp)]
        |false=>rw[ac (by simp),ad ⟨by omega,by omega,by rw[aG];exact hb⟩,aG]
     .unfold Ja;simp only[ay,lV,EV,ah,aa,bK,RZ];rw[<-pu] at hm;have hlist:(List.range s.u.length).length=s.u.length:=nU;refine(fI (n:=s.u.length) (P:=λi=>∀(u:Int) (b c:Bool),s.u[i]?=some u->s.v[i]?=some b->acc[i]?=some c->0<=u/\ u<=1000000/\ b≠c/\¬(b=true/\ u<1)) (st:=λi=>[.i64 (i:Int)]) (r:=some [.i64 8]) (fin:=some [.i64 0]) (λi self hi _=>?_) (λ_ self=>?_) (by omega)).trans ?_
      .obtain⟨u,hu⟩:∃u,s.u[i]?=some u:=⟨s.u[i],ai _⟩;obtain⟨b,hb⟩:∃b,s.v[i]?=some b:=⟨s.v[i]'(by omega),ai _⟩;obtain⟨c,hc⟩:∃c,acc[i]?=some c:=⟨acc[i]'(by omega),ai _⟩;have hP:(∀(u':Int) (b' c':Bool),s.u[i]?=some u'->s.v[i]?=some b'->acc[i]?=some c'->0<=u'/\ u'<=1000000/\ b'≠c'/\¬(b'=true/\ u'<1))↔(0<=u/\ u<=1000000/\ b≠c/\¬(b=true/\ u<1)):=
        ⟨λh=>h u b c hu hb hc,λh u' b' c' h1 h2 h3=>by rw[hu] at h1;rw[hb] at h2;rw[hc] at h3;cases h1;cases h2;cases h3;exact h⟩
       unfold I9;simp only[hP,ay,kZ,oo,aT hu (ct _),aM hu,cZ,aT hb (wF _),aM hb,wE,ixM hi,aM hc,EV,aa,bj hi,RY,up1 (show i<1000000000 by omega)]
       by_cases c1:u<0
       .simp only[ad c1,az];rw[ac (λh=>by omega)]
       .simp only[ac c1];by_cases c2:1000000<u
        .simp only[ad c2,az];rw[ac (λh=>by omega)]
        .simp only[ac c2];cases b<;>cases c<;>simp only[gi,au,az,aw,dH,ne_eq,fS,not_false_eq_true,nA,iw,ic,ju,show(true==false)=false from rfl,show(false==true)=false from rfl,reduceCtorEq]
         .rw[ad (by omega)]
         .by_cases c3:u<1
          .rw[ad c3,ac (λh=>by omega)]
          .rw[ac c3,ad (by omega)]
      .unfold I9;simp only[EV,aa,bK,RX]
      .have:(∀i,i<s.u.length->∀(u:Int) (b c:Bool),s.u[i]?=some u->s.v[i]?=some b->acc[i]?=some c->0<=u/\ u<=1000000/\ b≠c/\¬(b=true/\ u<1))↔s.okR:=by
        unfold Slots.okR;constructor
        .intro h;exact⟨by omega,by omega,h3,by omega,acc,hm,λi u b c hu hb hc=>h i (aO hu) u b c hu hb hc⟩
        .rintro⟨_,_,_,_,l,hl,h⟩ i hi u b c hu hb hc;rw[hm] at hl;cases hl;exact h i u b c hu hb hc
       by_cases hr:s.okR
       .rw[ad (this.2 hr),aq hr];rfl
       .rw[ac (λh=>hr (this.1 h)),ak hr];rfl
     .rw[<-pu];cases hm:pX (List.replicate s.u.length false) s.f with
      |some l=>rfl
      |none=>exact no (λh=>by obtain⟨_,_,_,_,l,hl,_⟩:=h;rw[hm] at hl;cases hl)
   .rw[ad (by omega)];exact no (λh=>h3 h.2.2.1)
def evLess (x y:Evt):Bool:=decide (sgn (crs x.time y.time)<0)||(decide (sgn (crs x.time y.time)=0)&& decide (x.n<y.n))
def fx (e:Evt):RF.ev (.shape 5) [EP e]=some (EP e):=rfl
def pEP (e:Evt):RF.ev (.part 0 2) [EP e]=some (R e.time):=rfl
def yg (e:Evt):RF.ev (.cell 2) [EP e]=some (.i64 e.n):=rfl
def Gf {x y:Evt}(hx:aS x.time)(hy:aS y.time):Ans D 317 [EP x,EP y] [.bool (evLess x y)]:=by
 refine am ?_;unfold adz evLess;simp[fx,pEP,yg,EV,phi (Do hx hy),R2]
 grind
def HD (h:Hnd):PV:= .agg [.i64 h.i,.i64 h.use]
def qn (h:Hnd):RF.ev (.shape 2) [HD h]=some (HD h):=rfl
def pw (h:Hnd):RF.ev (.cell 0) [HD h]=some (.i64 h.i):=rfl
def ZD (h:Hnd):RF.ev (.cell 1) [HD h]=some (.i64 h.use):=rfl
def Wf (e:Evt):cM 3 2 (bV e)=some (HD e.h):=rfl
def Bp (e:Evt):cM 3 0 (bV e)=some (.i64 e.h.i):=rfl
def aga (e:Evt):cM 2 0 (bV e)=some (.i64 e.n):=rfl
def ir (s:Slots)(h:Hnd):Prop:=0<=h.i/\ s.v[h.i.toNat]?=some true/\ s.u[h.i.toNat]?=some h.use
open Classical in
def TY {s:Slots}(hs:s.v.length=s.u.length)(h:Hnd):Ans D 319 [SL s,HD h] [.bool (decide (ir s h))]:=by
 refine am ?_;unfold adB;simp only[ay,jy,qn,pw,kZ,oo,EV,ah,aa,R3];by_cases h1:0<=h.i
 .rw[ad h1];obtain⟨n,hn⟩:=uI h1;obtain⟨ix,us⟩:=h;simp only at hn;subst hn;by_cases h2:n<s.u.length
  .obtain⟨u,hu⟩:∃u,s.u[n]?=some u:=⟨s.u[n],ai _⟩;obtain⟨b,hb⟩:∃b,s.v[n]?=some b:=⟨s.v[n]'(by omega),ai _⟩;simp only[bj h2,ay,pw,ZD,kZ,aT hu (ct _),aM hu,cZ,aT hb (wF _),aM hb,wE,EV];have:decide (ir s ⟨(n:Int),us⟩)=(b&& decide (u=us)):=by rw[eC];simp[ir,hu,hb]
   grind
  .rw[ac (show¬((n:Int)<(s.u.length:Int)) by omega),ak (λhh=>by
    have h3:=(aC.1 hh.2.2).1;exact h2 h3)]
 .rw[ac h1,ak (λhh=>h1 hh.1)]
def qT (a:Agenda):Prop:=a.w.length=a.s.u.length/\ a.heap.length+a.s.f.length=a.s.u.length/\
 ∀(i:Nat) (b:Bool) (w u:Int),a.s.v[i]?=some b->a.w[i]?=some w->a.s.u[i]?=some u->if b=true then 0<=w/\∃e,a.heap[w.toNat]?=some e/\ e.h=⟨i,u⟩ else w= -1
open Classical in
def aij {a:Agenda}(hs:a.s.v.length=a.s.u.length)(hl:a.s.u.length<=1000)(hf:a.s.f.length<=1000):Ans D 316 [AG a] [.bool (decide (qT a))]:=by
 have cAG0:RF.ev (.cell 0) [AG a]=some (sl I1 a.s.u):=rfl;have cAG1:RF.ev (.cell 1) [AG a]=some (sl B1 a.s.v):=rfl;have cAG2:RF.ev (.cell 2) [AG a]=some (sl I1 a.s.f):=rfl;refine an ⟨1001,?_⟩;unfold ady;simp only[ay,jk,cAG0,cAG2,fV,lX,EV,ah,aE,aj,cU (show-9223372036854775808<=(a.s.u.length:Int)-(a.s.f.length:Int) by omega) (by omega)]
 by_cases h1:a.w.length=a.s.u.length
 .rw[ac (by omega)];by_cases h2:a.heap.length+a.s.f.length=a.s.u.length
  .rw[ac (by omega)];refine(fI (n:=a.s.u.length) (P:=λi=>∀(b:Bool) (w u:Int),a.s.v[i]?=some b->a.w[i]?=some w->a.s.u[i]?=some u->if b=true then 0<=w/\∃e,a.heap[w.toNat]?=some e/\ e.h=⟨i,u⟩ else w= -1) (st:=λi=>[.i64 (i:Int)]) (r:=some [.bool false]) (fin:=some [.bool true]) (λi self hi _=>?_) (λ_ self=>?_) (by omega)).trans ?_
   .obtain⟨u,hu⟩:∃u,a.s.u[i]?=some u:=⟨a.s.u[i],ai _⟩;obtain⟨b,hb⟩:∃b,a.s.v[i]?=some b:=⟨a.s.v[i]'(by omega),ai _⟩;obtain⟨w,hw⟩:∃w,a.w[i]?=some w:=⟨a.w[i]'(by omega),ai _⟩;have hP:(∀(b':Bool) (w' u':Int),a.s.v[i]?=some b'->a.w[i]?=some w'->a.s.u[i]?=some u'->if b'=true then 0<=w'/\∃e,a.heap[w'.toNat]?=some e/\ e.h=⟨i,u'⟩ else w'= -1)↔(if b=true then 0<=w/\∃e,a.heap[w.toNat]?=some e/\ e.h=⟨i,u⟩ else w= -1):=
     ⟨λh=>h b w u hb hw hu,λh b' w' u' h1 h2 h3=>by rw[hu] at h3;rw[hb] at h1;rw[hw] at h2;cases h1;cases h2;cases h3;exact h⟩
    unfold Jb;simp only[hP,ay,cAG1,fV,lX,aT hb (wF _),aM hb,wE,aT hw (ct _),aM hw,cZ,EV,ah,aa,bj hi,R1,up1 (show i<1000000000 by omega),aE,aj]
    cases b with
    |false=>
     simp only[au,aw,dH,az];by_cases c1:w= -1
     .rw[ac (by simp[c1]),ad c1]
     .rw[ad c1,ac c1]
    |true=>
     simp only[rm,aw,dH,az];by_cases c1:w<0
     .rw[ad c1,ac (λh=>by omega)]
     .rw[ac c1];obtain⟨n,rfl⟩:=uI (show 0<=w by omega)
      by_cases c2:n<a.heap.length
      .obtain⟨e,he⟩:∃e,a.heap[n]?=some e:=⟨a.heap[n],ai _⟩;rw[ac (by omega)];simp only[ay,fV,pAG,aT he (j8 _),aM he,Bp,Wf,phi (TY hs _),EV,aE,aj,aG,he,bZ,exists_eq_left',up1 (show i<1000000000 by omega)]
       by_cases c3:e.h.i=(i:Int)
       .rw[ac (by simp[c3])];have hlive:ir a.s e.h↔e.h=⟨i,u⟩:=by
         unfold ir;rw[c3,aG,hb,hu];generalize e.h=q at c3|-;obtain⟨x,y⟩:=q;simp only at c3;subst c3;simp only[bZ,Hnd.mk.injEq,ic];exact⟨λh=>h.2.symm,λh=>⟨by omega,h.symm⟩⟩
        by_cases c4:e.h=⟨i,u⟩
        .rw[ac (by simp[hlive.2 c4]),ad ⟨by omega,c4⟩]
        .rw[ad (λh=>c4 (hlive.1 h)),ac (λh=>c4 h.2)]
       .rw[ad c3,ac (λh=>c3 (by rw[h.2]))]
      .rw[ad (by omega),ac (λh=>by
        obtain⟨_,e,he,_⟩:=h;rw[aG] at he;exact c2 (aO he))]
   .unfold Jb;simp only[EV,aa,bK,R0]
   .have:(∀i,i<a.s.u.length->∀(b:Bool) (w u:Int),a.s.v[i]?=some b->a.w[i]?=some w->a.s.u[i]?=some u->if b=true then 0<=w/\∃e,a.heap[w.toNat]?=some e/\ e.h=⟨i,u⟩ else w= -1)↔qT a:=
     ⟨λh=>⟨h1,h2,λi b w u hb hw hu=>h i (aO hu) b w u hb hw hu⟩,λh i _=>h.2.2 i⟩
    by_cases hr:qT a
    .rw[ad (this.2 hr),aq hr]
    .rw[ac (λh=>hr (this.1 h)),ak hr]
  .rw[ad (by omega),ak (λh=>h2 h.2.1)]
 .rw[ad (by omega),ak (λh=>h1 h.1)]
def qo (e:Evt):Prop:=rok e.time=true/\ 0<=e.n/\ e.n<=1000000
def eR (a:Agenda):Prop:=a.s.okR/\ qT a/\(∀e∈a.heap,qo e)/\(a.heap.map (·.n)).Nodup/\∀(i:Nat) (e p:Evt),a.heap[i+1]?=some e->a.heap[i/2]?=some p->evLess e p=false
def M7 {i:Nat}(h:i<1000000):dC .quo .i64 (IntKind.i64.wrap (((i+1:Nat):Int)-1)) .i64 2=some (.v (.int .i64 ((i/2:Nat):Int))):=by
 rw[tS (by omega),Pj,ac (by decide),lL (by omega),cU (by omega) (by omega)];rfl
open Classical in
def ZE {a:Agenda}(hl:a.heap.length<=1000)(hf:a.s.f.length<=1000)(h64:∀e∈a.heap,aS e.time):Ans D 228 [AG a] [.i64 (okE (decide (eR a)))]:=by
 refine an ⟨1001,?_⟩;unfold act;have no:∀h:¬eR a,(some [PV.v (.int .i64 8)]:Option (List PV))=some [.i64 (okE (decide (eR a)))]:=λh=>by rw[ak h];rfl
 simp only[ay,jk,pAG,EV,phi (aii a.s hf),sM,aa];by_cases h1:a.s.okR
 .have h1':=h1;obtain⟨g1,g2,g3,g4,_⟩:=h1';rw[ad h1];simp only[EV,phi (aij g3 (by omega) hf),aE,aj];by_cases h2:qT a
  .rw[ac (by simp[h2])];refine(fI (n:=a.heap.length) (P:=λi=>∀e,a.heap[i]?=some e->qo e/\∀k,k<i->∀e',a.heap[k]?=some e'->e'.n≠e.n) (st:=λi=>[.i64 (i:Int)]) (r:=some [.i64 8]) (fin:=some [.i64 (okE (decide (∀(i:Nat) (e p:Evt),a.heap[i+1]?=some e->a.heap[i/2]?=some p->evLess e p=false)))]) (λi self hi _=>?_) (λ_ self=>?_) (by omega)).trans ?_
   .obtain⟨e,he⟩:∃e,a.heap[i]?=some e:=⟨a.heap[i],ai _⟩;have hP:(∀e',a.heap[i]?=some e'->qo e'/\∀k,k<i->∀x,a.heap[k]?=some x->x.n≠e'.n)↔(qo e/\∀k,k<i->∀x,a.heap[k]?=some x->x.n≠e.n):=
     ⟨λh=>h e he,λh e' h1=>by rw[he] at h1;cases h1;exact h⟩
    unfold Iy;simp only[hP,ay,fV,aT he (j8 _),aM he,gS,pEP,yg,phi (ql (h64 e (ax he))),sM,EV,ah,aa,bj hi];cases c1:rok e.time with
    |false=>
     simp only[au,aw];rw[ac (λh=>by rw[h.1.1] at c1;cases c1)]
    |true=>
     simp only[az];by_cases c2:e.n<0
     .rw[ad c2,ac (λh=>by have:=h.1.2;omega)]
     .rw[ac c2];by_cases c3:1000000<e.n
      .rw[ad c3,ac (λh=>by have:=h.1.2;omega)]
      .rw[ac c3];refine(fI (n:=i) (P:=λk=>∀x,a.heap[k]?=some x->x.n≠e.n) (st:=λi=>[.i64 (i:Int)]) (r:=some [.i64 8]) (fin:=self [.i64 ((i+1:Nat):Int)]) (λk self' hk _=>?_) (λ_ self'=>?_) (by omega)).trans ?_
       .obtain⟨x,hx⟩:∃x,a.heap[k]?=some x:=⟨a.heap[k]'(by omega),ai _⟩;have hQ:(∀y,a.heap[k]?=some y->y.n≠e.n)↔x.n≠e.n:=⟨λh=>h x hx,λh y hy=>by rw[hx] at hy;cases hy;exact h⟩;unfold Ix;simp only[hQ,ay,fV,aT hx (j8 _),aM hx,aga,yg,EV,aa,bj hk,up1 (show k<1000000000 by omega)]
        by_cases c4:x.n=e.n
        .rw[ad c4,ac (by simp[c4])]
        .rw[ac c4,ad c4]
       .unfold Ix;simp only[EV,aa,bK,Rl,up1 (show i<1000000000 by omega)]
       .by_cases c5:∀k,k<i->∀x,a.heap[k]?=some x->x.n≠e.n
        .rw[ad c5,ad ⟨⟨c1,by omega,by omega⟩,c5⟩]
        .rw[ac c5,ac (λh=>c5 h.2)]
   .unfold Iy;simp only[ay,fV,EV,ah,aa,bK,Rk];refine(fI (n:=a.heap.length-1) (P:=λi=>∀e p,a.heap[i+1]?=some e->a.heap[i/2]?=some p->evLess e p=false) (st:=λi=>[.i64 ((i+1:Nat):Int)]) (r:=some [.i64 8]) (fin:=some [.i64 0]) (λi self hi _=>?_) (λ_ self=>?_) (by omega)).trans ?_
    .obtain⟨e,he⟩:∃e,a.heap[i+1]?=some e:=⟨a.heap[i+1],ai _⟩;obtain⟨p,hp⟩:∃p,a.heap[i/2]?=some p:=⟨a.heap[i/2]'(by omega),ai _⟩;have hQ:(∀e' p',a.heap[i+1]?=some e'->a.heap[i/2]?=some p'->evLess e' p'=false)↔evLess e p=false:=⟨λh=>h e p he hp,λh e' p' h1 h2=>by rw[he] at h1;rw[hp] at h2;cases h1;cases h2;exact h⟩;unfold Iw;simp only[hQ,ay,fV,aT he (j8 _),aM he,gS,aT hp (j8 _),aM hp,M7 (show i<1000000 by omega),phi (Gf (h64 e (ax he)) (h64 p (ax hp))),oe,EV,ah,aa,bj (aO he),up1 (show i+1<1000000000 by omega)]
     cases evLess e p<;>simp
    .unfold Iw;simp only[ay,fV,EV,ah,aa,Rj];rw[ac (by omega)]
    .have:(∀i,i<a.heap.length-1->∀e p,a.heap[i+1]?=some e->a.heap[i/2]?=some p->evLess e p=false)↔∀(i:Nat) (e p:Evt),a.heap[i+1]?=some e->a.heap[i/2]?=some p->evLess e p=false:=
      ⟨λh i e p he hp=>h i (by have:=aO he;omega) e p he hp,λh i _=>h i⟩
     by_cases hr:∀(i:Nat) (e p:Evt),a.heap[i+1]?=some e->a.heap[i/2]?=some p->evLess e p=false
     .rw[ad (this.2 hr),aq hr];rfl
     .rw[ac (λh=>hr (this.1 h)),ak hr];rfl
   .have:(∀i,i<a.heap.length->∀e,a.heap[i]?=some e->qo e/\∀k,k<i->∀e',a.heap[k]?=some e'->e'.n≠e.n)↔((∀e∈a.heap,qo e)/\(a.heap.map (·.n)).Nodup):=by
     rw[qA];constructor
     .intro h;refine⟨λe he=>?_,λi j x hj hi hjx=>?_⟩
      .obtain⟨i,hi⟩:=aK.1 he;exact(h i (aO hi) e hi).1
      .rw[a8,bW] at hi hjx;obtain⟨e,he,rfl⟩:=hi;obtain⟨e',he',h'⟩:=hjx;exact(h i (aO he) e he).2 j hj e' he' h'
     .rintro⟨h3,h4⟩ i hi e he;refine⟨h3 e (ax he),λk hk e' he' hn=>?_⟩;exact h4 i k e.n hk (by rw[a8,he];rfl) (by rw[a8,he',cD,hn])
    by_cases hr:(∀e∈a.heap,qo e)/\(a.heap.map (·.n)).Nodup
    .rw[ad (this.2 hr)]
     congr 4
     rw[c7];exact⟨λh=>⟨h1,h2,hr.1,hr.2,h⟩,λh=>h.2.2.2.2⟩
    .rw[ac (λh=>hr (this.1 h))];exact no (λh=>hr ⟨h.2.2.1,h.2.2.2.1⟩)
  .rw[ad h2];exact no (λh=>h2 h.2.1)
 .rw[ac h1];exact no (λh=>h1 h.1)
def Crt.ok (c:Crt):Prop:=0<=c.j/\ c.j<=65535/\ 0<=c.h/\ c.h<=65535/\ c.j≠c.h
instance (c:Crt):Decidable c.ok:=by unfold Crt.ok;infer_instance
def TZ (c:Crt):Ans D 314 [CP c] [.bool (decide c.ok)]:=by
 refine am ?_;unfold adw Crt.ok;simp[j9,kb,ke,EV,RW];by_cases h1:0<=c.j<;>by_cases h2:c.j<=65535<;>by_cases h3:0<=c.h<;>by_cases h4:c.h<=65535<;>simp[h1,h2,h3,h4]
def T2 (c:Crt):Ans D 323 [CP c] [.bool (decide c.ok)]:=by
 have m1:RF.ev (.mm false) [.i64 c.j,.i64 c.h]=some (.i64 (min c.j c.h)):=rfl;have m2:RF.ev (.mm true) [.i64 c.j,.i64 c.h]=some (.i64 (max c.j c.h)):=rfl;refine am ?_;unfold adF Crt.ok;simp[j9,kb,ke,m1,m2,EV,R6];by_cases h1:0<=c.j<;>by_cases h2:c.j<=65535<;>by_cases h3:0<=c.h<;>by_cases h4:c.h<=65535<;>simp[h1,h2,h3,h4,Int.le_min,Int.max_le]
def dp (c:Certs):Prop:=c.l.length<=200/\ 0<=c.next/\ c.next<=1000000/\∀(i:Nat) (h:Held),c.l[i]?=some h->h.c.ok/\ 0<=h.n/\ h.n<c.next/\(∀g,0<i->c.l[i-1]?=some g->g.n<h.n)/\∀k,k<i->∀g,c.l[k]?=some g->g.c≠h.c
open Classical in
def T3 (c:Certs):Ans D 226 [CS c] [.i64 (okE (decide (dp c)))]:=by
 refine an ⟨1001,?_⟩;unfold acr;have no:∀h:¬dp c,(some [PV.v (.int .i64 8)]:Option (List PV))=some [.i64 (okE (decide (dp c)))]:=λh=>by rw[ak h];rfl
 simp only[ay,ji,nN,fM,EV,ah,aa];by_cases h1:200<c.l.length
 .rw[ad (by omega)];exact no (λh=>by have:=h.1;omega)
 .rw[ac (by omega)];by_cases h2:c.next<0
  .rw[ad h2];exact no (λh=>by have:=h.2.1;omega)
  .rw[ac h2];by_cases h3:1000000<c.next
   .rw[ad h3];exact no (λh=>by have:=h.2.2.1;omega)
   .rw[ac h3];refine(fI (n:=c.l.length) (P:=λi=>∀h,c.l[i]?=some h->h.c.ok/\ 0<=h.n/\ h.n<c.next/\(∀g,0<i->c.l[i-1]?=some g->g.n<h.n)/\∀k,k<i->∀g,c.l[k]?=some g->g.c≠h.c) (st:=λi=>[.i64 (i:Int)]) (r:=some [.i64 8]) (fin:=some [.i64 0]) (λi self hi _=>?_) (λ_ self=>?_) (by omega)).trans ?_
    .obtain⟨h,hh⟩:∃h,c.l[i]?=some h:=⟨c.l[i],ai _⟩;have hP:(∀h',c.l[i]?=some h'->h'.c.ok/\ 0<=h'.n/\ h'.n<c.next/\(∀g,0<i->c.l[i-1]?=some g->g.n<h'.n)/\∀k,k<i->∀g,c.l[k]?=some g->g.c≠h'.c)↔(h.c.ok/\ 0<=h.n/\ h.n<c.next/\(∀g,0<i->c.l[i-1]?=some g->g.n<h.n)/\∀k,k<i->∀g,c.l[k]?=some g->g.c≠h.c):=
      ⟨λx=>x h hh,λx h' e=>by rw[hh] at e;cases e;exact x⟩
     have inner:∀(f:JT) (e0 e2 e3 e4 e5 e6 e7 e8 e10 e11 e12 e13 e14 e16 e17 e18 e19 e20:PV),den (bx D) 1001 sX [f,self] [e0,CS c,e2,e3,e4,e5,e6,e7,e8,.i64 (i:Int),e10,e11,e12,e13,e14,HP h,e16,e17,e18,e19,e20,.v (.bool false)]=if(∀k,k<i->∀g,c.l[k]?=some g->g.c≠h.c) then self [.i64 ((i+1:Nat):Int)] else some [.i64 8]:=λf e0 e2 e3 e4 e5 e6 e7 e8 e10 e11 e12 e13 e14 e16 e17 e18 e19 e20=>by
      unfold sX;simp only[EV,au,aw];refine(fI (m:=1001) (n:=i) (P:=λk=>∀g,c.l[k]?=some g->g.c≠h.c) (st:=λi=>[.i64 (i:Int)]) (r:=some [.i64 8]) (fin:=self [.i64 ((i+1:Nat):Int)]) (λk self' hk _=>?_) (λ_ self'=>?_) (by omega)).trans ?_
      .obtain⟨g,hg⟩:∃g,c.l[k]?=some g:=⟨c.l[k]'(by omega),ai _⟩;have hQ:(∀y,c.l[k]?=some y->y.c≠h.c)↔g.c≠h.c:=⟨λx=>x g hg,λx y hy=>by rw[hg] at hy;cases hy;exact x⟩;unfold Is;simp only[hQ,ay,fM,aT hg (fL _),aM hg,Bo,pHP,wH,EV,aa,bj hk,up1 (show k<1000000000 by omega)]
       by_cases c4:g.c=h.c
       .rw[ad c4,ac (by simp[c4])]
       .rw[ac c4,ad c4]
      .unfold Is;simp only[EV,aa,bK,Rh,up1 (show i<1000000000 by omega)]
      .by_cases hq:∀k,k<i->∀g,c.l[k]?=some g->g.c≠h.c
       .rw[ad hq,ad hq]
       .rw[ac hq,ac hq]
     unfold It;simp only[hP,ay,nN,fM,aT hh (fL _),aM hh,kY,pHP,om,phi (TZ _),EV,ah,aa,bj hi,aE,aj];by_cases c1:h.c.ok
     .rw[ac (lN c1)];by_cases c2:h.n<0
      .rw[ad c2,ac (λx=>by have:=x.2.1;omega)];unfold sX;simp only[EV,dH,az]
      .rw[ac c2];by_cases c3:c.next<=h.n
       .rw[ad c3,ac (λx=>by have:=x.2.2.1;omega)];unfold sX;simp only[EV,dH,az]
       .rw[ac c3];cases i with
        |zero=>
         rw[ac (by omega)];refine(inner ..).trans ?_;rw[ad (λk hk=>by omega),ad ⟨c1,by omega,by omega,λg h0=>by omega,λk hk=>by omega⟩]
        |succ j=>
         obtain⟨g,hg⟩:∃g,c.l[j]?=some g:=⟨c.l[j]'(by omega),ai _⟩;rw[ad (by omega)];simp only[ay,om,tS (show j<1000000000 by omega),aT hg (fL _),aM hg,Fr,EV]
         by_cases c4:h.n<=g.n
         .rw[aq c4,ac (λx=>by have:=x.2.2.2.1 g (by omega) (by simpa using hg);omega)]
          unfold sX;simp only[EV,dH,az]
         .rw[ak c4];refine(inner ..).trans ?_;by_cases c5:∀k,k<j+1->∀g,c.l[k]?=some g->g.c≠h.c
          .rw[ad c5,ad ⟨c1,by omega,by omega,λg' _ hg'=>by
            rw[show j+1-1=j by omega,hg] at hg';cases hg';omega,c5⟩]
          .rw[ac c5,ac (λx=>c5 x.2.2.2.2)]
     .rw[ad c1,ac (λx=>c1 x.1)];unfold sX;simp only[EV,dH,az]
    .unfold It;simp only[ay,fM,EV,ah,aa,bK,Rg]
    .have:(∀i,i<c.l.length->∀h,c.l[i]?=some h->h.c.ok/\ 0<=h.n/\ h.n<c.next/\(∀g,0<i->c.l[i-1]?=some g->g.n<h.n)/\∀k,k<i->∀g,c.l[k]?=some g->g.c≠h.c)↔dp c:=
      ⟨λh=>⟨by omega,by omega,by omega,λi x hx=>h i (aO hx) x hx⟩,λh i _=>h.2.2.2 i⟩
     by_cases hr:dp c
     .rw[ad (this.2 hr),aq hr];rfl
     .rw[ac (λh=>hr (this.1 h)),ak hr];rfl
def inF (l:List Pt)(id:Int):Bool:=decide (0<=pos l id)
def d6 {l:List Pt}(h:okF l){id:Int}(hi:inF l id=true):∃(i:Nat) (p:Pt),l[i]?=some p/\ p.id=id/\ pos l id=(i:Nat)/\ bh l id=p:=by
 have hi:=aX hi;rcases pos_cases l id with⟨e,_⟩|⟨i,p,h1,h2,h3⟩
 .omega
 .exact⟨i,p,h1,h2,h3,by rw[<-h2];exact io h h1⟩
def LJ {l:List Pt}{id:Int}(hi:inF l id=false):∀p∈l,p.id≠id:=by
 have hi:=of_decide_eq_false hi;rcases pos_cases l id with⟨_,h⟩|⟨i,p,h1,h2,h3⟩
 .exact h
 .omega
def d7 (l:List Pt)(h:Held):Bool:=inF l h.c.j&& inF l h.c.h
def aik {c:Certs}{l:List Pt}(hl:l.length<=1000)(hc:c.l.length<=1000):Ans D 227 [CS c,F l] [.bool (c.l.all (d7 l))]:=by
 refine an ⟨1001,?_⟩;unfold acs;simp[ji,aY,EV];refine(cL (l:=c.l) (p:=d7 l) (st:=λi=>[.i64 (i:Int)]) (r:=some [.bool false]) (fin:=some [.bool true]) (λi h self hh _=>?_) (λ_ self=>?_) (by omega)).trans ?_
 .unfold Iu d7 inF;simp[fM,aT hh (fL _),aM hh,af8,af9,phi (rF hl _),EV,up1 (show i<1000000000 by have:=aO hh;omega)]
  grind
 .unfold Iu;simp only[ay,fM,EV,ah,aa,bK,Ri]
 .grind
def agb {o:Option Nat}:o.elim (some [PV.bool false]) (λ_=>some [.bool true])=some [.bool o.isSome]:=by cases o<;>rfl
def Gg {c:Certs}{x:Crt}(hc:c.l.length<=1000):Ans D 231 [CS c,CP x] [.bool (c.l.any λh=>decide (h.c=x))]:=by
 refine an ⟨1001,?_⟩;unfold acv;simp[ji,j9,EV];refine(j7 (l:=c.l) (p:=λh=>decide (h.c=x)) (st:=λi=>[.i64 (i:Int)]) (ret:=λ_=>some [.bool true]) (fin:=some [.bool false]) (λi h self hh=>?_) (λself=>?_) (by omega)).trans (agb.trans ?_)
 .unfold Iz;simp only[fM,aT hh (fL _),aM hh,Bo,wH,EV,ah,aa,bj (aO hh),up1 (show i<1000000000 by have:=aO hh;omega)]
 .unfold Iz;simp[fM,EV,Rm]
 .grind
def ail {x:Crt}{l:List Pt}{t:Rt}(h:okF l)(ht:aS t)(h1:inF l x.j=true)(h2:inF l x.h=true):Ans D 232 [CP x,F l,R t] [.bool (leads t (bh l x.h) (bh l x.j))]:=by
 obtain⟨i,p,a1,a2,a3,a4⟩:=d6 h h1;obtain⟨j,q,b1,b2,b3,b4⟩:=d6 h h2;have q1:=phi (rF (l:=l) (by have:=h.1;omega) x.j);have q2:=phi (rF (l:=l) (by have:=h.1;omega) x.h);rw[a3] at q1;rw[b3] at q2;refine am ?_;unfold acw;simp[j9,aY,ba,kb,ke,cv,q1,q2,aT a1 (b6 _),aM a1,aT b1 (b6 _),aM b1,gu,EV,phi (Dq (dr h b1) (dr h a1) ht),a4,b4]
def T4 {x:Crt}{l:List Pt}{t:Rt}(h:okF l)(ht:aS t)(h1:inF l x.j=true)(h2:inF l x.h=true):Ans D 229 [F l,CP x,R t] [R (cT t (bh l x.h) (bh l x.j)).1,.bool (cT t (bh l x.h) (bh l x.j)).2]:=by
 obtain⟨i,p,a1,a2,a3,a4⟩:=d6 h h1;obtain⟨j,q,b1,b2,b3,b4⟩:=d6 h h2;have q1:=phi (rF (l:=l) (by have:=h.1;omega) x.j);have q2:=phi (rF (l:=l) (by have:=h.1;omega) x.h);rw[a3] at q1;rw[b3] at q2;refine am ?_;unfold acu;simp[j9,aY,ba,kb,ke,cv,q1,q2,aT a1 (b6 _),aM a1,aT b1 (b6 _),aM b1,gu,M3,EV,phi (ah9 (dr h b1) (dr h a1) ht),a4,b4]
def T5 {x:Crt}{l:List Pt}{t:Rt}(h:okF l)(ht:aS t):Ans D 241 [F l,CP x,R t] (if lU (bh l x.h) (bh l x.j) t=0 then [R (cT t (bh l x.h) (bh l x.j)).1,.bool (cT t (bh l x.h) (bh l x.j)).2,.i64 0] else [R ⟨0,0⟩,.bool false,.i64 (lU (bh l x.h) (bh l x.j) t)]):=by
 refine am ?_;unfold acE;by_cases hz:lU (bh l x.h) (bh l x.j) t=0
 .have:=phi (Zu (p:=bh l x.h) (q:=bh l x.j) ht);rw[ad hz] at this|-;simp[j9,aY,ba,kb,ke,M3,EV,phi (Du h _),this]
 .have:=phi (Zu (p:=bh l x.h) (q:=bh l x.j) ht);rw[ac hz] at this|-;simp[j9,aY,ba,kb,ke,M3,EV,phi (Du h _),this]
def aim:RF.ev .agg [.i64 0,.i64 0,.i64 0,.i64 0,.i64 0]=some (EP ⟨⟨0,0⟩,0,⟨0,0⟩⟩):=rfl
def ain (e:Evt):RF.ev (.shape 5) [EP e]=some (EP e):=rfl
def agc (e:Evt):RF.ev (.part 0 5) [EP e]=some (EP e):=rfl
def Gh {a:Agenda}(h:eR a){x:Hnd}(hl:ir a.s x):∃(i:Nat) (w:Int) (n:Nat) (e:Evt),x.i=i/\ a.w[i]?=some w/\ w=(n:Int)/\ a.heap[n]?=some e/\ e.h=x:=by
 obtain⟨l1,l2,l3⟩:=hl;obtain⟨i,hi⟩:=uI l1;rw[hi,aG] at l2 l3;obtain⟨w,hw⟩:∃w,a.w[i]?=some w:=⟨a.w[i]'(by have:=aO l3;have:=h.2.1.1;omega),ai _⟩;have:=h.2.1.2.2 i true w x.use l2 hw l3;rw[ad rfl] at this;obtain⟨w0,e,he,hx⟩:=this;obtain⟨n,hn⟩:=uI w0;rw[hn,aG] at he;exact⟨i,w,n,e,hi,hw,hn,he,by rw[hx,<-hi]⟩
open Classical in
def aio {a:Agenda}(h:eR a)(hl:a.heap.length<=1000)(hf:a.s.f.length<=1000)(h64:∀e∈a.heap,aS e.time)(x:Hnd):(¬ir a.s x->Ans D 230 [AG a,HD x] [EP ⟨⟨0,0⟩,0,⟨0,0⟩⟩,.i64 6])/\∀(i n:Nat) (e:Evt),x.i=i->a.w[i]?=some (n:Int)->a.heap[n]?=some e->ir a.s x->Ans D 230 [AG a,HD x] [EP e,.i64 0]:=by
 have hc:=phi (ZE hl hf h64);rw[aq h] at hc;have e0:okE true=0:=rfl;rw[e0] at hc;constructor
 .intro hn;refine am ?_;unfold UM;simp[jk,qn,pAG,aim,EV,hc,phi (TY h.1.2.2.1 x),ak hn]
 .intro i n e hi hw he hl;refine am ?_;unfold UM;simp[jk,qn,pAG,agc,ain,EV,hc,phi (TY h.1.2.2.1 x),aq hl,fV,lX,pw,hi,aT hw (ct _),aM hw,cZ,aT he (j8 _),aM he,gS]
def qI (a:Agenda)(d:Due)(number:Int)(t:Rt):Prop:=d.n=number/\ ir a.s d.h/\∀(i n:Nat) (e:Evt),d.h.i=i->a.w[i]?=some (n:Int)->a.heap[n]?=some e->e.n=number/\ e.time=t
open Classical in
def ec (c:Clock)(left:List Due)(h:Held):Option (List Due):=
 if d7 c.p h=true then
  (if(cT c.n (bh c.p h.c.h) (bh c.p h.c.j)).2=true then
   (match left with
    |[]=>none
    |d::rest=>if qI c.a d h.n (cT c.n (bh c.p h.c.h) (bh c.p h.c.j)).1 then some rest else none)
  else some left)
 else none
def bJ (c:Clock):Prop:=rok c.n=true/\ okF c.p/\ dp c.q/\ eR c.a/\ c.a.w.length=200/\ c.a.heap.length=c.d.length/\ ez (ec c) c.d c.q.l=some []
def fb (c:Clock):Prop:=aS c.n/\∀e∈c.a.heap,aS e.time
def Bq {c:Clock}:∀{l:List Held} {left out:List Due},ez (ec c) left l=some out->l.all (d7 c.p)=true
 |[],_,_,_=>rfl
 |h::l,left,out,hh=>by
  unfold ez ec at hh;rw[dJ];by_cases hk:d7 c.p h=true
  .rw[hk,gI];split at hh
   .exact Bq hh
   .cases hh
  .rw[ac hk] at hh;cases hh
def T6 {α:Type}{l rest:List α}{k:Nat}{d:α}(h:l.drop k=d::rest):l.drop (k+1)=rest:=(gJ h).2
def Gi (h:Held):RF.ev (.cell 1) [HP h]=some (.i64 h.c.j):=rfl
def Gj (h:Held):RF.ev (.cell 2) [HP h]=some (.i64 h.c.h):=rfl
def M8 (d:Due):cM 0 0 (cp d)=some (.i64 d.n):=rfl
def Ft (d:Due):cM 1 2 (cp d)=some (HD d.h):=rfl
open Classical in
def M9 {bb:Nat}{c:Clock}(h64:fb c)(hg:gCl bb c=false):Ans D 133 [CL c] [.i64 (okE (decide (bJ c)))]:=by
 unfold gCl gAg gSl at hg;simp only[eP,aj] at hg;have no:∀h:¬bJ c,(some [PV.v (.int .i64 8)]:Option (List PV))=some [.i64 (okE (decide (bJ c)))]:=λh=>by rw[ak h];rfl
 refine an ⟨1001,?_⟩;unfold abx;simp only[ay,bX,eZ,fN,oq,EV,phi (ql h64.1),phi (qm _),phi (T3 _),jG,aE,aj,aa];by_cases h1:rok c.n=true
 .rw[ad h1];by_cases h2:eQ c.p=0
  .have h2':=eH.1 h2;rw[ac (by simp[h2])];by_cases h3:dp c.q
   .rw[ad h3];simp only[ay,sP,iK,kf,dT,EV,ah,phi (aik (c:=c.q) (l:=c.p) (by have:=h2'.1;omega) (by omega)),phi (ZE (a:=c.a) (by omega) (by omega) h64.2),jG,aE,aj,aa];by_cases h4:c.q.l.all (d7 c.p)=true
    .rw[ac (by simp[h4])];by_cases h5:eR c.a
     .rw[ad h5];by_cases h6:c.a.w.length=200
      .rw[ac (by omega)];by_cases h7:c.a.heap.length=c.d.length
       .rw[ac (by omega)];have e0:([PV.v (.int .i64 0),.v (.int .i64 0)]:List PV)=[.i64 ((c.d.length-c.d.length:Nat):Int),.i64 ((0:Nat):Int)]:=by rw[js];rfl
        rw[e0];refine(wI (m:=1001) (l:=c.q.l) (b:=Cc) (g:=ec c) (I:=λleft=>left=c.d.drop (c.d.length-left.length)/\ left.length<=c.d.length) (S:=λleft i=>[.i64 ((c.d.length-left.length:Nat):Int),.i64 (i:Int)]) (r:=some [.i64 8]) (fin:=λleft=>some [.i64 (if left=[] then 0 else 8)]) (x:=c.d) (by simp) (λh left out hI hg=>?_) (λi h left self hh hI=>?_) (λleft self hI hm=>?_) (by omega)).trans ?_
        .unfold ec at hg;split at hg
         .split at hg
          .cases left with
           |nil=>cases hg
           |cons d rest=>
            simp only at hg;split at hg
            .cases hg;obtain⟨e1,e2⟩:=hI;simp only[aZ] at e1 e2;refine⟨?_,by omega⟩;rw[show c.d.length-out.length=c.d.length-(out.length+1)+1 by omega]
             exact(T6 e1.symm).symm
            .cases hg
          .cases hg;exact hI
         .cases hg
        .obtain⟨hI1,hI2⟩:=hI;have hk:d7 c.p h=true:=aV.1 h4 h (ax hh);have hk':=hk;unfold d7 at hk';simp only[aJ] at hk';unfold Cc ec;rw[ad hk];generalize hF:cT c.n (bh c.p h.c.h) (bh c.p h.c.j)=FT;have hw:=phi (T4 (x:=h.c) (t:=c.n) h2' h64.1 hk'.1 hk'.2);rw[hF] at hw;simp only[ay,fO,dT,eZ,fN,aT hh (fL _),aM hh,kY,pHP,om,ba,hw,EV,ah,aa,bj (aO hh),aE];cases hF2:FT.2 with
         |false=>
          simp only[dH,az,au,aw];simp only[ay,Gi,Gj,ph,pi,EV,Hu,up1 (show i<1000000000 by have:=aO hh;omega)]
         |true=>
          simp only[rm,aw,az];cases left with
          |nil=>rw[ad (by simp)]
          |cons d rest=>
           simp only[aZ] at hI1 hI2|-;have hd:c.d[c.d.length-(rest.length+1)]?=some d:=by
            have:=aW (λl=>l[0]?) hI1;simp only[jE,fC,ny] at this;exact this.symm
           rw[ac (by omega)];simp only[ay,dT,sP,aT hd (po _),aM hd,M8,Ft,om,EV,aE,aj];by_cases n1:d.n=h.n
           .rw[ac (by simp[n1])];obtain⟨q1,q2⟩:=aio h5 (by omega) (by omega) h64.2 d.h;by_cases n2:ir c.a.s d.h
            .obtain⟨ix,w,n,e,x1,x2,x3,x4,x5⟩:=Gh h5 n2;subst x3;have hD:qI c.a d h.n FT.1↔(e.n=h.n/\ e.time=FT.1):=
              ⟨λy=>y.2.2 ix n e x1 x2 x4,λy=>⟨n1,n2,λi' n' e' y1 y2 y3=>by
               rw[x1] at y1;have:ix=i':=by omega
               subst this;rw[x2] at y2;have:n=n':=by
                have:(n:Int)=n':=by simpa using y2
                omega
               subst this;rw[x4] at y3;cases y3;exact y⟩⟩
             simp only[ay,fx,yg,pEP,om,Gi,Gj,ph,pi,ZC,phi (q2 ix n e x1 x2 x4 n2),EV,aA,aF,au,aw,aE,aj];by_cases n3:e.n=h.n
             .rw[ac (by simp[n3])];by_cases n4:e.time=FT.1
              .rw[ac (by simp[n4]),ad (hD.2 ⟨n3,n4⟩)];simp only[Hu,EV,up1 (show i<1000000000 by have:=aO hh;omega),up1 (show c.d.length-(rest.length+1)<1000000000 by omega)]
               rw[show c.d.length-(rest.length+1)+1=c.d.length-rest.length by omega]
              .rw[ad n4,ac (λy=>n4 (hD.1 y).2)]
             .rw[ad n3,ac (λy=>n3 (hD.1 y).1)]
            .simp only[ay,fx,phi (q1 n2),EV,Int.reduceEq,az,be,bA];rw[ac (λy=>n2 y.2.1)]
           .rw[ad n1,ac (λy=>n1 y.1)]
        .unfold Cc;simp only[ay,fO,dT,EV,ah,aa,bK,Qo,aE,aj];cases left with
         |nil=>rw[ac (by simp),ad rfl]
         |cons d rest=>
          rw[ad (by have:=hI.2;simp only[aZ] at this|-;omega),ac (by simp)]
        .cases hm:ez (ec c) c.d c.q.l with
         |none=>exact no (λh=>by rw[h.2.2.2.2.2.2] at hm;cases hm)
         |some left=>
          cases left with
          |nil=>rw[aq (show bJ c from⟨h1,h2',h3,h5,h6,h7,hm⟩)];rfl
          |cons d rest=>exact no (λh=>by rw[h.2.2.2.2.2.2] at hm;cases hm)
       .rw[ad (by omega)];exact no (λh=>h7 h.2.2.2.2.2.1)
      .rw[ad (by omega)];exact no (λh=>h6 h.2.2.2.2.1)
     .rw[ac h5];exact no (λh=>h5 h.2.2.2.1)
    .rw[ad (by simpa using h4)]
     exact no (λh=>h4 (Bq h.2.2.2.2.2.2))
   .rw[ac h3];exact no (λh=>h3 h.2.2.1)
  .rw[ad h2];exact no (λh=>h2 (eH.2 h.2.1))
 .rw[ac h1];exact no (λh=>h1 h.1)
end Go.Proofs.YtoeigdpfcnaaeaaGreat
