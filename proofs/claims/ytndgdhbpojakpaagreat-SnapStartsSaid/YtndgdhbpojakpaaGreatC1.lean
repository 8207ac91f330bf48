import Derived.Test.YtndgdhbpojakpaaGreatM3
import Derived.Test.YtndgdhbpojakpaaGreatP1
import Derived.Test.YtndgdhbpojakpaaGreatBcT
import Derived.Test.YtndgdhbpojakpaaGreatN1
import Derived.IntWalk
set_option linter.unusedVariables false
set_option linter.unusedSimpArgs false
set_option linter.defProp false
noncomputable section
namespace Go.Sym
open Go.Sym
section
variable {Φ:PhT}{N:Nat}{b:K}{J:List JT}{e:List PV}
def dF {n:Nat}{st:Nat->List PV}{fin:Option (List PV)}(hs:∀i self,i<n->den Φ N b (J++[self]) (e++st i)=self (st (i+1)))
  (hf:∀self,den Φ N b (J++[self]) (e++st n)=fin):∀m,n<m->denW Φ N b J e m (st 0)=fin:=by
 have:∀d i m,i+d=n->d<m->denW Φ N b J e m (st i)=fin:=by
  intro d;induction d with
  |zero=>
   intro i m h hm;obtain⟨m,rfl⟩:∃m',m=m'+1:=⟨m-1,by omega⟩;rw[bF,show i=n by omega]
   exact hf _
  |succ d ih=>
   intro i m h hm;obtain⟨m,rfl⟩:∃m',m=m'+1:=⟨m-1,by omega⟩;rw[bF,hs i _ (by omega)]
   grind
 grind
def PW {n:Nat}{st:Nat->List PV}{P:Nat->Prop}{fin r:Option (List PV)}(hs:∀i self,i<n->(∀j,j<i->P j)->P i->den Φ N b (J++[self]) (e++st i)=self (st (i+1)))
  (hr:∀i self,i<n->(∀j,j<i->P j)->¬P i->den Φ N b (J++[self]) (e++st i)=r)
  (hf:(∀j,j<n->P j)->∀self,den Φ N b (J++[self]) (e++st n)=fin) {m:Nat} (hm:n<m):((∀j,j<n->P j)->denW Φ N b J e m (st 0)=fin)/\((¬∀j,j<n->P j)->denW Φ N b J e m (st 0)=r):=by
 have:∀d i m,i+d=n->d<m->(∀j,j<i->P j)->((∀j,j<n->P j)->denW Φ N b J e m (st i)=fin)/\((¬∀j,j<n->P j)->denW Φ N b J e m (st i)=r):=by
  intro d;induction d with
  |zero=>
   intro i m h hm hp;obtain⟨m,rfl⟩:∃m',m=m'+1:=⟨m-1,by omega⟩;have hin:i=n:=by omega
   subst hin;refine⟨λh=>?_,λh=>absurd hp h⟩;rw[bF];exact hf h _
  |succ d ih=>
   intro i m h hm hp;obtain⟨m,rfl⟩:∃m',m=m'+1:=⟨m-1,by omega⟩;rw[bF];by_cases hi:P i
   .grind
   .grind
 grind
open Classical in
def ef {n:Nat}{st:Nat->List PV}{P:Nat->Prop}{fin r:Option (List PV)}(hs:∀i self,i<n->(∀j,j<i->P j)->den Φ N b (J++[self]) (e++st i)=if P i then self (st (i+1)) else r)
  (hf:(∀j,j<n->P j)->∀self,den Φ N b (J++[self]) (e++st n)=fin) {m:Nat} (hm:n<m):denW Φ N b J e m (st 0)=if(∀j,j<n->P j) then fin else r:=by
 have:=PW (n:=n) (st:=st) (P:=P) (fin:=fin) (r:=r) (λi self h1 h2 h3=>by rw[hs i self h1 h2,ad h3]) (λi self h1 h2 h3=>by rw[hs i self h1 h2,ac h3]) hf hm
 grind
end
end Go.Sym
namespace Go.Proofs.YtndgdhbpojakpaaGreat
open Go.Sym Bnd
set_option maxRecDepth 100000
def U (n:Nat):PV:= .v (.int .u64 (n:Int))
def phi {g:FuncId}{vs rs:List PV}(h:Ans D g vs rs):PhiS D g vs=some rs:=YG h
def x8 {n:Int}(h:I64 n):Ans D 92 [.i64 n] [U n.natAbs]:=by
 obtain⟨h1,h2⟩:=h;refine am ?_;unfold TC;simp[EV];by_cases hn:n<0
 .rw[ad hn,i0,i0]
  congr 4
  omega
 .rw[ac hn,i0]
  congr 4
  omega
def Ax {n:Int}(h:I64 n):Ans D 170 [.i64 n] [U n.natAbs]:=by
 obtain⟨h1,h2⟩:=h;refine am ?_;unfold U9;simp[EV];by_cases hn:n<0
 .rw[ad hn,i0,i0,IntKind.wrap_i64,IntKind.wrap_i64]
  congr 4
  omega
 .rw[ac hn,i0]
  congr 4
  omega
def Ay {Φ:PhT}{N:Nat}{f:JT}{p q:PV}:∀(n a b:Nat),b<n->denW Φ N wZ [f] [p,q] n [U b,U a]=f [U (Nat.gcd b a)]
 |0,a,b,h=>by omega
 |n+1,a,b,h=>by
  rw[bF];unfold wZ U;simp[EV,Au];by_cases hb:0<b
  .rw[ad (by omega),ac (by omega)];simp[EV];have:=Ay (Φ:=Φ) (N:=N) (f:=f) (p:=p) (q:=q) n b (a% b) (by have:=Nat.mod_lt a hb;omega);unfold wZ U at this;rw[<-Nat.gcd_rec b a] at this;rw[<-this];rfl
  .rw[ac (by omega)];have:b=0:=by omega
   subst this;rw[Nat.gcd_zero_left]
def Rk (a b:Nat):Ans D 146 [U a,U b] [U (Nat.gcd b a)]:=by
 refine an ⟨b+1,?_⟩;unfold UK;simp[EV];rw[Ay _ _ _ (fE b)];unfold Jy U;simp[EV]
def vp {Φ:PhT}{N:Nat}{f:JT}{p q:PV}:∀(n a b:Nat),b<n->denW Φ N xc [f] [p,q] n [U b,U a]=f [U (Nat.gcd b a)]
 |0,a,b,h=>by omega
 |n+1,a,b,h=>by
  rw[bF];unfold xc U;simp only[EV,Au,aA,ai];by_cases hb:0<b
  .rw[ad (by omega),ac (by omega)];simp;have:=vp (Φ:=Φ) (N:=N) (f:=f) (p:=p) (q:=q) n b (a% b) (by have:=Nat.mod_lt a hb;omega);unfold xc U at this;rw[<-Nat.gcd_rec b a] at this;rw[<-this];rfl
  .rw[ac (by omega)];have:b=0:=by omega
   subst this;rw[Nat.gcd_zero_left]
def Rl (a b:Nat):Ans D 169 [U a,U b] [U (Nat.gcd b a)]:=by
 refine an ⟨b+1,?_⟩;unfold U8;simp[EV];rw[vp _ _ _ (fE b)];unfold JX U;simp[EV]
def okE (b:Bool):Int:=if b then 0 else 8
def Fu {d:Int}(h:0<=d)(k:d<=9223372036854775807):PV.v (.int .u64 (IntKind.u64.wrap d))=U d.natAbs:=by
 rw[i0]
 congr 2
 omega
def c43 {r:Rt}(h:bg r):Ans D 91 [R r] [.i64 (okE (rok r))]:=by
 obtain⟨⟨n1,n2⟩,d1,d2⟩:=h;refine am ?_;unfold k43 R;simp only[EV,aa,ay,b7,Nat.reduceAdd,phi (x8 ⟨n1,n2⟩)];by_cases hd:r.den<1
 .rw[ad hd];unfold rok;rw[ah (by omega)];rfl
 .rw[ac hd];by_cases hn:r.num= -9223372036854775808
  .rw[ad hn];unfold rok;rw[aq hn];simp[okE]
  .rw[ac hn,Fu (by omega) d2,phi (Rk _ _)];simp only[EV,U,aa];have hg:0<Nat.gcd r.num.natAbs r.den.natAbs:=gy _ (by omega);unfold rok;by_cases h1:(Nat.gcd r.num.natAbs r.den.natAbs)=1
   .rw[ac (by omega),aq h1,aq (show 1<=r.den by omega),ah hn]
    rfl
   .rw[ad (by omega),ah h1,ra];rfl
def nA {r:Rt}(h:bg r):Ans D 104 [R r] [.i64 (okE (rok r))]:=by
 obtain⟨⟨n1,n2⟩,d1,d2⟩:=h;refine am ?_;unfold TH R;simp only[EV,aa,ay,b7,Nat.reduceAdd,phi (Ax ⟨n1,n2⟩)];by_cases hd:r.den<1
 .rw[ad hd];unfold rok;rw[ah (by omega)];rfl
 .rw[ac hd];by_cases hn:r.num= -9223372036854775808
  .rw[ad hn];unfold rok;rw[aq hn];simp[okE]
  .rw[ac hn,Fu (by omega) d2,phi (Rl _ _)];simp only[EV,U,aA,ai];unfold rok;rw[ux];by_cases h1:(Nat.gcd r.num.natAbs r.den.natAbs)=1
   .rw[ac (by omega),aq h1,aq (show 1<=r.den by omega),ah hn]
    rfl
   .rw[ad (by omega),ah h1,ra];rfl
def F7 (r:Rt):Bool:=decide (r.num.natAbs<=1073741824)&& decide (r.den<=1024)
def di (r:Rt):Int:=if rok r then(if F7 r then 0 else 2) else 8
def c44 {r:Rt}(h:bg r):Ans D 41 [R r] [.i64 (di r)]:=by
 refine am ?_;unfold k44;have h0:=phi (c43 h);unfold R at h0|-;simp[EV,h0,phi (x8 h.1),U];unfold di okE;cases rok r with
 |false=>rfl
 |true=>
  unfold F7
  grind
def c64 {r:Rt}(h:bg r):Ans D 49 [R r] [.i64 (di r)]:=by
 refine am ?_;unfold k64;have h0:=phi (nA h);unfold R at h0|-;simp[EV,h0];unfold di okE;cases rok r with
 |false=>rfl
 |true=>
  unfold F7
  grind
def PP (p:Pt):PV:= .agg (row p)
def aav (p:Pt):Ans D 108 [PP p] [.i64 (okE p.ok)]:=by
 refine am ?_;unfold TL PP row;simp[EV];unfold Pt.ok okE EY
 grind
def Rm (p:Pt):Ans D 117 [PP p] [.i64 (okE p.ok)]:=by
 refine am ?_;unfold TT PP row;simp[EV,I8,I9];unfold Pt.ok okE EY
 grind
end Go.Proofs.YtndgdhbpojakpaaGreat
namespace Go.Sym
open Go.Sym
section
variable {Φ:PhT}{N:Nat}{b:K}{J:List JT}{e:List PV}{α β:Type}{l:List α}
def uA {i:Nat}{a:α}{k:List α}(h:l.drop i=a::k):l[i]?=some a/\ l.drop (i+1)=k:=by
 have hi:i<l.length:=by
  rcases pA i l.length with g|g
  .exact g
  .rw[List.drop_eq_nil_of_le g] at h;cases h
 rw[cO hi] at h
 grind
def ja {i:Nat}{k:List α}(h:l.drop i=k)(hi:i<=l.length):i+k.length=l.length:=by
 grind
def jb {p:α->Bool}{st:Nat->List PV}{ret:Nat->Option (List PV)}{fin:Option (List PV)}(hs:∀i a self,l[i]?=some a->den Φ N b (J++[self]) (e++st i)=if p a=true then ret i else self (st (i+1)))
  (hf:∀self,den Φ N b (J++[self]) (e++st l.length)=fin) {m:Nat} (hm:l.length<m):denW Φ N b J e m (st 0)=(l.findIdx? p).elim fin ret:=by
 have:∀(k:List α) i m,l.drop i=k->i<=l.length->k.length<m->denW Φ N b J e m (st i)=(k.findIdx? p).elim fin (λj=>ret (j+i)):=by
  intro k;induction k with
  |nil=>
   intro i m h hi hm;obtain⟨m,rfl⟩:∃m',m=m'+1:=⟨m-1,by omega⟩;have:=ja h hi;rw[bF,show i=l.length by simpa using this]
   exact hf _
  |cons a k ih=>
   intro i m h hi hm;obtain⟨m,rfl⟩:∃m',m=m'+1:=⟨m-1,by omega⟩;obtain⟨h1,h2⟩:=uA h;have:=ja h hi;rw[bF,hs i a _ h1,np];simp only[bi] at hm this;cases hp:p a with
   |true=>simp
   |false=>
    rw[ih (i+1) m h2 (by omega) (by omega)];cases k.findIdx? p<;>simp[cY,lQ 1 i]
 grind
def b9 {p:α->Bool}{st:Nat->List PV}{fin r:Option (List PV)}(hs:∀i a self,l[i]?=some a->(l.take i).all p=true->den Φ N b (J++[self]) (e++st i)=if p a=true then self (st (i+1)) else r)
  (hf:l.all p=true->∀self,den Φ N b (J++[self]) (e++st l.length)=fin) {m:Nat} (hm:l.length<m):denW Φ N b J e m (st 0)=if l.all p=true then fin else r:=by
 have:∀(k:List α) i m,l.drop i=k->i<=l.length->k.length<m->(l.take i).all p=true->denW Φ N b J e m (st i)=if k.all p=true then fin else r:=by
  intro k;induction k with
  |nil=>
   intro i m h hi hm ht;obtain⟨m,rfl⟩:∃m',m=m'+1:=⟨m-1,by omega⟩;have:=ja h hi;have hil:i=l.length:=by simpa using this
   rw[hil,gx] at ht;rw[bF,hil];exact hf ht _
  |cons a k ih=>
   intro i m h hi hm ht;obtain⟨m,rfl⟩:∃m',m=m'+1:=⟨m-1,by omega⟩;obtain⟨h1,h2⟩:=uA h;have:=ja h hi;rw[bF,hs i a _ h1 ht,dz];simp only[bi] at hm this;cases hp:p a with
   |false=>simp
   |true=>
    simp only[ay,eE];refine ih (i+1) m h2 (by omega) (by omega) ?_;rw[cd,h1,lK,ht];simp[hp]
 exact this l 0 m rfl (by omega) hm (by simp)
def g9 {g:β->α->β}{I:Nat->β->Prop}{S:β->Nat->List PV}{fin:β->Option (List PV)}{x:β}(h0:I 0 x)(hi:∀i a acc,l[i]?=some a->I i acc->I (i+1) (g acc a))(hs:∀i a acc self,l[i]?=some a->I i acc->den Φ N b (J++[self]) (e++S acc i)=self (S (g acc a) (i+1)))
  (hf:∀acc self,I l.length acc->den Φ N b (J++[self]) (e++S acc l.length)=fin acc) {m:Nat} (hm:l.length<m):denW Φ N b J e m (S x 0)=fin (l.foldl g x)/\ I l.length (l.foldl g x):=by
 have:∀(k:List α) i m acc,l.drop i=k->i<=l.length->k.length<m->I i acc->denW Φ N b J e m (S acc i)=fin (k.foldl g acc)/\ I l.length (k.foldl g acc):=by
  intro k;induction k with
  |nil=>
   intro i m acc h hi' hm hI;obtain⟨m,rfl⟩:∃m',m=m'+1:=⟨m-1,by omega⟩;have:=ja h hi';have hil:i=l.length:=by simpa using this
   rw[hil] at hI;rw[bF,hil]
   grind
  |cons a k ih=>
   intro i m acc h hi' hm hI;obtain⟨m,rfl⟩:∃m',m=m'+1:=⟨m-1,by omega⟩;obtain⟨h1,h2⟩:=uA h;have:=ja h hi';simp only[bi] at hm this;rw[bF,hs i a acc _ h1 hI,cE];exact ih (i+1) m _ h2 (by omega) (by omega) (hi i a acc h1 hI)
 exact this l 0 m x rfl (by omega) hm h0
end
section
variable {α:Type}{f:α->List PV}{l:List α}
def aO {i z:Nat}{a:α}(h:l[i]?=some a)(hz:(f a).length=z):RF.ev (.tix z) [.sl (l.map f),.v (.int .i64 (i:Int))]=some (.i64 (i:Int)):=by
 rw[aab,ad (by omega),aG,aT,h]
 grind
def aL {i o n:Nat}{a:α}(h:l[i]?=some a):RF.ev (.elt o n) [.sl (l.map f),.v (.int .i64 (i:Int))]=cq o n (f a):=by
 rw[Z9,ad (by omega),aG,aT,h];rfl
def up1 {i:Nat}(h:i<1000000000):IntKind.i64.wrap ((i:Int)+1)=((i+1:Nat):Int):=by rw[cy (by omega) (by omega)];rfl
def rh {i:Nat}(h:i<1000000000):IntKind.i64.wrap (((i+1:Nat):Int)-1)=(i:Int):=by rw[cy (by omega) (by omega)];omega
def aJ {i:Nat}{a:α}(h:l[i]?=some a):i<l.length:=(aC.1 h).1
def bc {i n:Nat}{γ:Type}{x y:γ}(h:i<n):(if(i:Int)<(n:Int) then x else y)=x:=ad (by omega)
def bo {n:Nat}{γ:Type}{x y:γ}:(if(n:Int)<(n:Int) then x else y)=y:=ac (by omega)
def bI:RF.ev .sub [.sl (l.map f),.v (.int .i64 0),.v (.int .i64 (l.length:Int))]=some (.sl (l.map f)):=by
 rw[At,ad ⟨by omega,by omega,by rw[aj];omega⟩,aG];simp;rw[aZ (by simp)]
def fI {bytes z:Nat}{k:List α}(h:(l.length+k.length)*bytes<=140737488355328)(hz:∀a,(f a).length=z):RF.ev (.app bytes z) [.sl (l.map f),.v (.int .i64 (l.length:Int)),.sl (k.map f)]=some (.sl ((l++k).map f)):=by
 rw[aaa,ad]
 .rw[aG,aZ (by simp)];simp
 .rw[aj,aj,aG];refine⟨by omega,by omega,h,?_⟩;cases k with
  |nil=>rfl
  |cons a k=>simp[dT,hz]
end
def qc {α:Type}(p:α->Bool)(l:List α):Int:=(l.findIdx? p).elim (-1) λi=>(i:Int)
def Ff {α:Type}{p:α->Bool}{l:List α}:0<=qc p l↔l.any p=true:=by
 unfold qc;cases h:l.findIdx? p with
 |none=>
  grind
 |some i=>
  obtain⟨h1,h2,_⟩:=b8.1 h
  grind
def vH {α:Type}{p:α->Bool}{l:List α}:decide (0<=qc p l)=l.any p:=by
 rw[dD,aa];exact Ff
end Go.Sym
namespace Go.Proofs.YtndgdhbpojakpaaGreat
open Go.Sym Bnd
set_option maxRecDepth 100000
def sgn (n:Int):Int:=if n<0 then-1 else if 0<n then 1 else 0
def uw {n:Int}{m:Nat}(h:n% 18446744073709551616=(m:Int)):PV.v (.int .u64 (IntKind.u64.wrap n))=U m:=by rw[i0,h];rfl
def wu {n:Nat}(h:n<18446744073709551616):IntKind.u64.wrap (n:Int)=(n:Int):=by rw[i0];omega
def Y9 (n:Nat):cQ .shr .u64 (n:Int) .u64 32=some (.v (.int .u64 ((n/4294967296:Nat):Int))):=by
 rw[HY,ac (by decide),show min (32:Int).toNat IntKind.u64.bits=32 from rfl,gb _ (by decide)]
 rfl
def F8 {n:Nat}(h:n<18446744073709551616):cQ .and .u64 (n:Int) .u64 4294967295=some (.v (.int .u64 ((n% 4294967296:Nat):Int))):=by
 show some (PV.v (.int .u64 (IntKind.u64.wrap (((BitVec.ofInt 64 (n:Int)&&& BitVec.ofInt 64 4294967295).toNat:Nat):Int))))=_
 rw[Fr h,wu (by omega)]
def ri {a b:Nat}(h:a+b<18446744073709551616):cQ .add .u64 (a:Int) .u64 (b:Int)=some (.v (.int .u64 ((a+b:Nat):Int))):=by
 rw[PF,<-Int.natCast_add,wu h]
def rj {a b:Nat}(h:a*b<18446744073709551616):cQ .mul .u64 (a:Int) .u64 (b:Int)=some (.v (.int .u64 ((a*b:Nat):Int))):=by
 rw[PG,<-Int.natCast_mul,wu h]
def Mi {x y:Nat}(hx:x<18446744073709551616)(hy:y<18446744073709551616):Ans D 299 [U x,U y] [U (x*y/18446744073709551616),U (x*y% 18446744073709551616)]:=by
 refine am ?_;have b0:=nf (a:=x% 4294967296) (b:=y% 4294967296) (by omega) (by omega);have b1:=nf (a:=x/4294967296) (b:=y% 4294967296) (by omega) (by omega);have b2:=nf (a:=x% 4294967296) (b:=y/4294967296) (by omega) (by omega);have b3:=nf (a:=x/4294967296) (b:=y/4294967296) (by omega) (by omega);have hh:=YU hx hy;have hl:x*y/18446744073709551616<18446744073709551616:=by
  grind
 have s1:(x/4294967296)*(y/4294967296)+((x/4294967296)*(y% 4294967296)+(x% 4294967296)*(y% 4294967296)/4294967296)/4294967296<18446744073709551616:=by omega
 unfold Xm U;simp only[EV,F8 hx,F8 hy,Y9,jM,rj (show x% 4294967296*(y% 4294967296)<18446744073709551616 by omega),rj (show x/4294967296*(y% 4294967296)<18446744073709551616 by omega),
  rj (show x% 4294967296*(y/4294967296)<18446744073709551616 by omega),rj (show x/4294967296*(y/4294967296)<18446744073709551616 by omega),
  ri (show x/4294967296*(y% 4294967296)+x% 4294967296*(y% 4294967296)/4294967296<18446744073709551616 by omega),
  F8 (show x/4294967296*(y% 4294967296)+x% 4294967296*(y% 4294967296)/4294967296<18446744073709551616 by omega),
  ri (show(x/4294967296*(y% 4294967296)+x% 4294967296*(y% 4294967296)/4294967296)% 4294967296+x% 4294967296*(y/4294967296)<18446744073709551616 by omega),
  ri s1,ri (show _<18446744073709551616 from hh▸hl)]
 rw[hh,<-Int.natCast_mul,i0];rfl
def W (neg:Bool)(m:Nat):PV:= .agg [.bool neg,U (m/18446744073709551616),U (m% 18446744073709551616)]
def qw {a:Int}(h:I64 a):a.natAbs<=9223372036854775808:=by obtain⟨h1,h2⟩:=h;omega
def Ii {a b:Int}(h:I64 a)(k:I64 b):a.natAbs*b.natAbs<=85070591730234615865843651857942052864:=mF (qw h) (qw k)
def Rn {a b:Int}(h:I64 a)(k:I64 b):Ans D 339 [.i64 a,.i64 b] [W (decide (a<0) !=decide (b<0)) (a.natAbs*b.natAbs)]:=by
 refine am ?_;have h1:=qw h;have h2:=qw k;unfold XU;simp[EV,phi (x8 h),phi (x8 k),phi (Mi (show a.natAbs<18446744073709551616 by omega) (show b.natAbs<18446744073709551616 by omega))]
 rfl
def aaw (a:Int):Ans D 356 [.i64 a] [.bool false]:=by
 refine am ?_;unfold X9;simp[EV]
def aax (a:Int):Ans D 284 [.i64 a] [.bool false]:=by
 refine am ?_;unfold W6;simp[EV]
def jd (a b:Int):sgn (a-b)=if a<b then-1 else if b<a then 1 else 0:=by
 unfold sgn
 grind
def Ro (a b:Int):Ans D 312 [.i64 a,.i64 b] [.i64 (sgn (a-b))]:=by
 refine am ?_;unfold Xp;simp[EV,phi (aaw _),jd]
 grind
def sS (a b:Int):Ans D 220 [.i64 a,.i64 b] [.i64 (sgn (a-b))]:=by
 refine am ?_;unfold V7;simp[EV,phi (aax _),jd]
 grind
def aay (a:Nat):Ans D 373 [U a] [.bool false]:=by
 refine am ?_;unfold Yg U;simp[EV]
def aaz (a b:Nat):Ans D 365 [U a,U b] [.i64 (sgn ((a:Int)-b))]:=by
 have h:=λa=>phi (aay a);refine am ?_;unfold Yd;unfold U at h|-;simp[EV,h,jd]
 grind
def aaA {n k:Bool}(a b:Nat):Ans D 338 [W n a,W k b] [.i64 (sgn ((a:Int)-b))]:=by
 refine am ?_;unfold XT W;simp[EV,phi (aaz _ _),jd]
 grind
def Fv (a b:Bool):max (okE a) (okE b)=okE (a&& b):=by cases a<;>cases b<;>rfl
def mm2 (a b:Int):RF.ev (.mm true) [.i64 a,.i64 b]=some (.i64 (max a b)):=rfl
def aY (r:Rt):RF.ev (.shape 2) [R r]=some (R r):=rfl
def kY (r:Rt):RF.ev (.cell 0) [R r]=some (.i64 r.num):=rfl
def kZ (r:Rt):RF.ev (.cell 1) [R r]=some (.i64 r.den):=rfl
def aaB {r s:Rt}(h:bg r)(k:bg s):Ans D 337 [R r,R s] [.i64 (okE (rok r&& rok s))]:=by
 refine am ?_;unfold XS;simp[aY,EV,phi (c43 h),phi (c43 k),mm2,Fv]
def mT {b:Bool}{α:Type}{x y:α}:(if(!decide (okE b=0))=true then x else y)=if b=true then y else x:=by cases b<;>rfl
def kG {r:Rt}(h:rok r=true):1<=r.den:=by
 unfold rok at h
 grind
def iX (a b:Int):((a.natAbs*b.natAbs:Nat):Int)=if 0<=a*b then a*b else-(a*b):=by
 rw[<-Int.natAbs_mul];split<;>omega
def PX (n:Int):sgn (-n)= -sgn n:=by unfold sgn;repeat' split;all_goals omega
def PY (n:Int): -1<=sgn n/\ sgn n<=1:=by unfold sgn;repeat' split;all_goals omega
def aaC {r s:Rt}(h:bg r)(k:bg s):Ans D 281 [R r,R s] (if(rok r&& rok s)=true then [.i64 (sgn (crs r s)),.i64 0] else [.i64 0,.i64 8]):=by
 refine am ?_;unfold W3;simp only[au,aY,kY,kZ,EV,phi (aaB h k),mT,phi (Ro _ _),phi (Rn h.1 k.2),phi (Rn k.1 h.2),phi (aaA _ _)];cases hok:rok r&& rok s with
 |false=>rfl
 |true=>
  simp only[aF] at hok;have d1:=kG hok.1;have d2:=kG hok.2;simp only[ay,K9,EV];have p1:(0<=r.num*s.den)↔0<=r.num:=by
   constructor
   .intro h;rcases Int.lt_or_le r.num 0 with g|g
    .have:=oh g (show 0<s.den by omega);omega
    .exact g
   .intro h;exact Int.mul_nonneg h (by omega)
  have p2:(0<=s.num*r.den)↔0<=s.num:=by
   constructor
   .intro h;rcases Int.lt_or_le s.num 0 with g|g
    .have:=oh g (show 0<r.den by omega);omega
    .exact g
   .intro h;exact Int.mul_nonneg h (by omega)
  by_cases h1:r.num<0<;>by_cases h2:s.num<0
  .rw[aq h1,aq h2];simp only[bne_self_eq_false,aw,ax,ay];rw[iX,iX,ac (show¬0<=r.num*s.den by omega),ac (show¬0<=s.num*r.den by omega)]
   unfold crs;rw[show-(r.num*s.den)- -(s.num*r.den)= -(r.num*s.den-s.num*r.den) by omega,PX]
   have:=PY (r.num*s.den-s.num*r.den);rw[show(0:Int)- -sgn (r.num*s.den-s.num*r.den)=sgn (r.num*s.den-s.num*r.den) by omega,cy (by omega) (by omega)]
   rfl
  .rw[aq h1,ah h2];have e1:sgn (r.num-s.num)= -1:=by unfold sgn;rw[ad (by omega)]
   have e2:sgn (crs r s)= -1:=by unfold sgn crs;rw[ad (by omega)]
   rw[e1,e2];rfl
  .rw[ah h1,aq h2];have e1:sgn (r.num-s.num)=1:=by unfold sgn;rw[ac (by omega),ad (by omega)]
   have e2:sgn (crs r s)=1:=by unfold sgn crs;rw[ac (by omega),ad (by omega)]
   rw[e1,e2];rfl
  .rw[ah h1,ah h2];simp only[bne_self_eq_false,aw,ax];rw[iX,iX,ad (show 0<=r.num*s.den by omega),ad (show 0<=s.num*r.den by omega)]
   rfl
def aaD {x y:Nat}(hx:x<18446744073709551616)(hy:y<18446744073709551616):Ans D 361 [U x,U y] [W false (x*y)]:=by
 refine am ?_;have b0:=nf (a:=x% 4294967296) (b:=y% 4294967296) (by omega) (by omega);have b1:=nf (a:=x/4294967296) (b:=y% 4294967296) (by omega) (by omega);have b2:=nf (a:=x% 4294967296) (b:=y/4294967296) (by omega) (by omega);have b3:=nf (a:=x/4294967296) (b:=y/4294967296) (by omega) (by omega);have sp:=zL (x:=x) (y:=y);have q32:∀n:Nat,n<18446744073709551616->cQ .quo .u64 (n:Int) .u64 4294967296=some (.v (.int .u64 ((n/4294967296:Nat):Int))):=λn h=>by
  rw[HX,ac (by decide),iK (by omega),i0]
  congr 3
  omega
 have r32:∀n:Nat,cQ .rem .u64 (n:Int) .u64 4294967296=some (.v (.int .u64 ((n% 4294967296:Nat):Int))):=λn=>by
  rw[Au,ac (by decide),Int.tmod_eq_emod_of_nonneg (by omega)];rfl
 generalize hA:x/4294967296*(y/4294967296)=A at*;generalize hB:x/4294967296*(y% 4294967296)=B at*;generalize hC:x% 4294967296*(y/4294967296)=C at*;generalize hE:x% 4294967296*(y% 4294967296)=E at*;have m32:cQ .mul .u64 (((C+(B+E/4294967296)% 4294967296)% 4294967296:Nat):Int) .u64 4294967296=some (.v (.int .u64 (((C+(B+E/4294967296)% 4294967296)% 4294967296*4294967296:Nat):Int))):=rj (b:=4294967296) (by omega);have mA:cQ .mul .u64 ((x/4294967296:Nat):Int) .u64 ((y/4294967296:Nat):Int)=some (.v (.int .u64 (A:Int))):=by rw[rj (by omega),hA]
 have mB:cQ .mul .u64 ((x/4294967296:Nat):Int) .u64 ((y% 4294967296:Nat):Int)=some (.v (.int .u64 (B:Int))):=by rw[rj (by omega),hB]
 have mC:cQ .mul .u64 ((x% 4294967296:Nat):Int) .u64 ((y/4294967296:Nat):Int)=some (.v (.int .u64 (C:Int))):=by rw[rj (by omega),hC]
 have mE:cQ .mul .u64 ((x% 4294967296:Nat):Int) .u64 ((y% 4294967296:Nat):Int)=some (.v (.int .u64 (E:Int))):=by rw[rj (by omega),hE]
 unfold Yc U;simp only[jM,EV,q32 x hx,q32 y hy,r32,mA,mB,mC,mE,q32 E (by omega),ri (show B+E/4294967296<18446744073709551616 by omega),ri (show C+(B+E/4294967296)% 4294967296<18446744073709551616 by omega),
  q32 (B+E/4294967296) (by omega),q32 (C+(B+E/4294967296)% 4294967296) (by omega),ri (show A+(B+E/4294967296)/4294967296<18446744073709551616 by omega),
  ri (show A+(B+E/4294967296)/4294967296+(C+(B+E/4294967296)% 4294967296)/4294967296<18446744073709551616 by omega),m32,ri (show(C+(B+E/4294967296)% 4294967296)% 4294967296*4294967296+E% 4294967296<18446744073709551616 by omega)]
 unfold W U;rw[show x*y/18446744073709551616=A+(B+E/4294967296)/4294967296+(C+(B+E/4294967296)% 4294967296)/4294967296 by omega,show x*y% 18446744073709551616=(C+(B+E/4294967296)% 4294967296)% 4294967296*4294967296+E% 4294967296 by omega]
 rfl
def x9 (a b:Int):Bool:=(decide (a<0) !=decide (b<0))&&(!decide (a=0)&& !decide (b=0))
def mU (n:Bool)(m:Nat):RF.ev (.shape 3) [W n m]=some (W n m):=rfl
def sT (n:Bool)(m:Nat):RF.ev (.cell 0) [W n m]=some (.bool n):=rfl
def oy (n:Bool)(m:Nat):RF.ev (.cell 1) [W n m]=some (.v (.int .u64 ((m/18446744073709551616:Nat):Int))):=rfl
def oz (n:Bool)(m:Nat):RF.ev (.cell 2) [W n m]=some (.v (.int .u64 ((m% 18446744073709551616:Nat):Int))):=rfl
def Rp (n:Bool)(m:Nat):RF.ev (.part 0 3) [W n m]=some (W n m):=rfl
def wA (n:Bool)(m:Nat):RF.ev (.part 1 2) [W n m]=some (.agg [U (m/18446744073709551616),U (m% 18446744073709551616)]):=rfl
def Az (n:Bool)(m:Nat):RF.ev .agg [.bool n,.agg [U (m/18446744073709551616),U (m% 18446744073709551616)]]=some (W n m):=rfl
def zT (n:Bool)(m:Nat):RF.ev .flat [W n m]=some (W n m):=rfl
def F9 {a b:Int}(h:I64 a)(k:I64 b):Ans D 323 [.i64 a,.i64 b] [W (x9 a b) (a.natAbs*b.natAbs)]:=by
 refine am ?_;have h1:=qw h;have h2:=qw k;unfold XQ;simp[mU,wA,Az,EV,phi (Ax h),phi (Ax k),phi (aaD (show a.natAbs<18446744073709551616 by omega) (show b.natAbs<18446744073709551616 by omega)),Li]
 unfold x9
 grind
def nB (n:Bool)(m:Nat):Int:=if n then-(m:Int) else m
def oB (a b:Int):nB (x9 a b) (a.natAbs*b.natAbs)=a*b:=by
 unfold nB x9
 grind
def Rq (n:Bool)(m:Nat):Ans D 321 [W n m] [.i64 (sgn (nB n m))]:=by
 refine am ?_;unfold XP;simp[mU,oy,oz,EV];have fin:∀(e:Bool) (v:PV),(e=true↔m=0)->den (PhiS D) 1 DG [] [v,W n m,.bool e]=some [.i64 (sgn (nB n m))]:=λe v he=>by
  unfold DG nB;simp[sT,EV];cases e with
  |true=>have:=he.1 rfl;subst this;cases n<;>rfl
  |false=>
   unfold sgn
   grind
 grind
def Mj {n k:Bool}(a b:Nat):Ans D 342 [W n a,W k b] [.i64 (sgn ((a:Int)-b))]:=by
 refine am ?_;unfold XY;simp[mU,oy,oz,EV,jd]
 grind
def aaE {r s:Rt}(h:bg r)(k:bg s):Ans D 286 [R r,R s] [.i64 (sgn (crs r s))]:=by
 refine am ?_;unfold W8;simp only[aY,kY,kZ,mU,Rp,EV,phi (F9 h.1 k.2),phi (F9 k.1 h.2),phi (Rq _ _),phi (Mj _ _),oB,aa,aA,ai];have e1:=oB r.num s.den;have e2:=oB s.num r.den;unfold nB at e1 e2;unfold crs;generalize r.num*s.den=x at*;generalize s.num*r.den=y at*;generalize r.num.natAbs*s.den.natAbs=a at*;have hx:sgn x=if x<0 then-1 else if 0<x then 1 else 0:=rfl
 have hy:sgn y=if y<0 then-1 else if 0<y then 1 else 0:=rfl
 by_cases hne:sgn x=sgn y
 .grind
 .rw[ad hne];rw[jd x y]
  grind
def add64 (x y:Nat):RF.ev .add64 [U x,U y,U 0]=some (.agg [U ((x+y)% 18446744073709551616),U ((x+y)/18446744073709551616)]):=rfl
def Rr {x t:Int}(h:(x-t)% 18446744073709551616=0)(ht:I64 t):IntKind.i64.wrap x=t:=by
 obtain⟨h1,h2⟩:=ht;simp only[IntKind.wrap,IntKind.bits,IntKind.signed];simp;split<;>omega
def wr (x:Int):∃k:Int,IntKind.i64.wrap x=x+18446744073709551616*k:=by
 simp only[IntKind.wrap,IntKind.bits];simp;split
 .exact⟨-(x/18446744073709551616)-1,by omega⟩
 .exact⟨-(x/18446744073709551616),by omega⟩
def Ga {x y:Int}(h:(x-y)% 18446744073709551616=0):IntKind.i64.wrap x=IntKind.i64.wrap y:=by
 simp only[IntKind.wrap,IntKind.bits];simp;rw[show x% 18446744073709551616=y% 18446744073709551616 by omega]
def wrA (x y:Int):IntKind.i64.wrap (IntKind.i64.wrap x+y)=IntKind.i64.wrap (x+y):=by obtain⟨k,h⟩:=wr x;rw[h];exact Ga (by omega)
def wrB (x y:Int):IntKind.i64.wrap (y+IntKind.i64.wrap x)=IntKind.i64.wrap (y+x):=by obtain⟨k,h⟩:=wr x;rw[h];exact Ga (by omega)
def wrC (x y:Int):IntKind.i64.wrap (IntKind.i64.wrap x-y)=IntKind.i64.wrap (x-y):=by obtain⟨k,h⟩:=wr x;rw[h];exact Ga (by omega)
def Gb (k:IntKind)(n:Nat):RF.ev (.conv k) [U n]=some (.v (.int k (k.wrap n))):=rfl
abbrev oA2:RF:= .bin .add
def hiL (v:Int):PV:= .i64 (v/18446744073709551616)
def loL (v:Int):PV:= .v (.int .u64 (v% 18446744073709551616))
def Mid (v:Int):Prop:= -154742504910672534362390528<=v/\ v<=154742504910672534362390528
def PZ {a b p:Int}(ha:I64 a)(hb:I64 b)(hp:a*b=p):∃x y:Nat,(a% 18446744073709551616=(x:Int)/\ x<18446744073709551616)/\(b% 18446744073709551616=(y:Int)/\ y<18446744073709551616)/\
  ((x*y:Nat):Int)=p+18446744073709551616*((if a<0 then b else 0)+(if b<0 then a else 0))+340282366920938463463374607431768211456*(if a<0/\ b<0 then 1 else 0):=by
 obtain⟨a1,a2⟩:=ha;obtain⟨b1,b2⟩:=hb;have e1:(((a% 18446744073709551616).toNat:Nat):Int)=if a<0 then a+18446744073709551616 else a:=by split<;>omega
 have e2:(((b% 18446744073709551616).toNat:Nat):Int)=if b<0 then b+18446744073709551616 else b:=by split<;>omega
 grind
def AA {Φ':PhT}{N:Nat}{f self:JT}{e0 w:PV}{a b v:Int}{i:Nat}(hΦ:Φ'=PhiS D)(hw:RF.ev (.aix 2 2 2) [w,.i64 (i:Int)]=some (.agg [.i64 a,.i64 b]))(hi:i<2)(ha:I64 a)(hb:I64 b)(hm:Mid (a*b))(hv:Mid v):
  den Φ' N DF [f,self] [e0,w,hiL v,loL v,.i64 (i:Int)]=self [hiL (v+a*b),loL (v+a*b),.i64 ((i+1:Nat):Int)]:=by
 subst hΦ;obtain⟨m1,m2⟩:=hm;obtain⟨v1,v2⟩:=hv;generalize hp:a*b=p at*;obtain⟨x,y,⟨x1,x2⟩,⟨y1,y2⟩,hxy⟩:=PZ ha hb hp;have ha':=ha;have hb':=hb;obtain⟨a1,a2⟩:=ha;obtain⟨b1,b2⟩:=hb;have bd:x*y<=18446744073709551615*18446744073709551615:=mF (by omega) (by omega);have u1:PV.v (.int .u64 (IntKind.u64.wrap a))=U x:=uw x1;have u2:PV.v (.int .u64 (IntKind.u64.wrap b))=U y:=uw y1;have q1:=phi (Mi x2 y2);have lo0:loL v=U (v% 18446744073709551616).toNat:=by unfold loL U;congr 2;omega
 have q2:=add64 (v% 18446744073709551616).toNat (x*y% 18446744073709551616);rw[<-lo0] at q2;have w1:IntKind.i64.wrap ((i:Int)+1)=((i+1:Nat):Int):=up1 (by omega);unfold DF;simp only[au,hw,EV,aa,u1,u2,q1,ad (show(i:Int)<2 by omega),Gb,Lg]
 have lo2:U (((v% 18446744073709551616).toNat+x*y% 18446744073709551616)% 18446744073709551616)=loL (v+p):=by
  unfold loL U
  congr 2
  grind
 rw[lo2] at q2;have q3:∀h:Int,RF.ev oA2 [hiL v,.v (.int .i64 h)]=some (.i64 (IntKind.i64.wrap (v/18446744073709551616+h))):=λh=>rfl;have U0:PV.v (.int .u64 0)=U 0:=rfl;by_cases a0:a<0<;>by_cases b0:b<0<;>simp only[a0,b0,ay,ax,au,q3,EV,az,bb,aw,Lf,U0,q2,Gb,wrA,wrB,wrC,w1,dS,gz,fS,eN,fF] at hxy|-
 all_goals
  rw[Rr (t:=(v+p)/18446744073709551616) (by omega) ⟨by omega,by omega⟩];rfl
def aaF {a b c d:Int}(ha:I64 a)(hb:I64 b)(hc:I64 c)(hd:I64 d)(h1:Mid (a*b))(h2:Mid (c*d)):Ans D 311 [.agg [.i64 a,.i64 b,.i64 c,.i64 d]] [.agg [hiL (a*b+c*d),loL (a*b+c*d)]]:=by
 refine an ⟨3,?_⟩;unfold Xo;have s0:=λself=>AA (N:=3) (f:=mj (PhiS D) 3 DE [] [.agg [.i64 a,.i64 b,.i64 c,.i64 d],.agg [.i64 a,.i64 b,.i64 c,.i64 d]]) (self:=self) (e0:= .agg [.i64 a,.i64 b,.i64 c,.i64 d]) (w:= .agg [.i64 a,.i64 b,.i64 c,.i64 d]) (i:=0) (v:=0) rfl rfl (by decide) ha hb h1 ⟨by decide,by decide⟩;have s1:=λself=>AA (N:=3) (f:=mj (PhiS D) 3 DE [] [.agg [.i64 a,.i64 b,.i64 c,.i64 d],.agg [.i64 a,.i64 b,.i64 c,.i64 d]]) (self:=self) (e0:= .agg [.i64 a,.i64 b,.i64 c,.i64 d]) (w:= .agg [.i64 a,.i64 b,.i64 c,.i64 d]) (i:=1) (v:=a*b) rfl rfl (by decide) hc hd h2 h1;rw[Int.zero_add] at s0;have z1:PV.i64 0=hiL 0:=rfl;have z2:PV.v (.int .u64 0)=loL 0:=rfl;have z3:PV.i64 0= .i64 ((0:Nat):Int):=rfl;refine(s0 _).trans ?_;simp only[bF,EL,HZ,L0,PI];refine(s1 _).trans ?_;simp only[bF,EV];rfl
def Pt.bnd {p:Pt}(h:p.ok=true):(0<=p.id/\ p.id<=65535)/\(-1048576<=p.a/\ p.a<=1048576)/\(-1048576<=p.b/\ p.b<=1048576):=by
 unfold Pt.ok EY at h
 grind
def Fw {a b:Int}(h: -2097152<=a/\ a<=2097152)(k:I64 b):Mid (a*b):=by
 obtain⟨k1,k2⟩:=k;have e:=Int.natAbs_mul a b;have:a.natAbs*b.natAbs<=2097152*9223372036854775808:=mF (by omega) (by omega);constructor<;>omega
def Rs (v:Int):(v/18446744073709551616<0)↔v<0:=by omega
def orr (a b:Int):Ans D 282 [.sl [[.i64 a],[.i64 b]]] [.i64 (if a=0 then b else a)]:=by
 refine an ⟨3,?_⟩;unfold W4;have w0:IntKind.i64.wrap (0+1)=1:=by decide
 have w1:IntKind.i64.wrap (1+1)=2:=by decide
 have e0:RF.ev (.tix 1) [.sl [[.i64 a],[.i64 b]],.v (.int .i64 0)]=some (.i64 0):=rfl;have e1:RF.ev (.tix 1) [.sl [[.i64 a],[.i64 b]],.v (.int .i64 1)]=some (.i64 1):=rfl;have g0:RF.ev (.elt 0 0) [.sl [[.i64 a],[.i64 b]],.v (.int .i64 0)]=some (.i64 a):=rfl;have g1:RF.ev (.elt 0 0) [.sl [[.i64 a],[.i64 b]],.v (.int .i64 1)]=some (.i64 b):=rfl;have h2:([[PV.i64 a],[PV.i64 b]].length:Int)=2:=rfl;simp only[EV,bF,La,Lb,e0,e1,g0,g1,w0]
 grind
def Gc (t:Rt)(p q:Pt):Int:=if far t p q=0 then(if sgn (p.b-q.b)=0 then sgn (q.id-p.id) else sgn (p.b-q.b)) else sgn (far t p q)
def AB {t:Rt}{p q:Pt}:decide (0<Gc t p q)=leads t p q:=by
 rw[dD,aa,it];unfold Gc sgn
 grind
def jg (p:Pt):RF.ev (.shape 3) [PP p]=some (PP p):=rfl
def fJ (p:Pt):RF.ev (.cell 0) [PP p]=some (.i64 p.id):=rfl
def qx (p:Pt):RF.ev (.cell 1) [PP p]=some (.i64 p.a):=rfl
def k8 (p:Pt):RF.ev (.cell 2) [PP p]=some (.i64 p.b):=rfl
def P0 {t:Rt}{p q:Pt}(hp:p.ok=true)(hq:q.ok=true)(ht:bg t):Mid ((p.a-q.a)*t.den)/\ Mid ((p.b-q.b)*t.num):=by
 have:=Pt.bnd hp;have:=Pt.bnd hq;exact⟨Fw ⟨by omega,by omega⟩ ht.2,Fw ⟨by omega,by omega⟩ ht.1⟩
def sU {a b:Int}(ha: -1048576<=a/\ a<=1048576)(hb: -1048576<=b/\ b<=1048576):I64 (a-b)/\ IntKind.i64.wrap (a-b)=a-b:=⟨⟨by omega,by omega⟩,cy (by omega) (by omega)⟩
def Ru {p q:Pt}{t:Rt}(hp:p.ok=true)(hq:q.ok=true)(ht:bg t):Ans D 251 [PP p,PP q,R t] [.i64 (Gc t p q)]:=by
 have bp:=Pt.bnd hp;have bq:=Pt.bnd hq;obtain⟨f1,f2⟩:=P0 hp hq ht;obtain⟨i1,i2⟩:=sU bp.2.1 bq.2.1;obtain⟨i3,i4⟩:=sU bp.2.2 bq.2.2;have h1:=phi (aaF i1 ht.2 i3 ht.1 f1 f2);rw[show(p.a-q.a)*t.den+(p.b-q.b)*t.num=far t p q from rfl] at h1
 have a1:∀a b c d:Int,RF.ev .agg [.i64 a,.i64 b,.i64 c,.i64 d]=some (.agg [.i64 a,.i64 b,.i64 c,.i64 d]):=λ_ _ _ _=>rfl;have a2:∀v:Int,RF.ev (.shape 2) [.agg [hiL v,loL v]]=some (.agg [hiL v,loL v]):=λ_=>rfl;have a3:∀v:Int,RF.ev (.cell 0) [.agg [hiL v,loL v]]=some (.i64 (v/18446744073709551616)):=λ_=>rfl;have a4:RF.ev .agg [.i64 0,.v (.int .u64 0)]=some (.agg [.i64 0,.v (.int .u64 0)]):=rfl;have a5:∀v:Int,RF.ev (.eqv [.i,.i]) [.agg [hiL v,loL v],.agg [.i64 0,.v (.int .u64 0)]]=some (.bool (decide (v=0))):=λv=>by
  have:RF.ev (.eqv [.i,.i]) [.agg [hiL v,loL v],.agg [.i64 0,.v (.int .u64 0)]]=some (.bool (decide (v/18446744073709551616=0)&&(decide (v% 18446744073709551616=0)&& true))):=rfl;rw[this]
  congr 3
  grind
 have a6:∀x y:Int,RF.ev (.bs 2 [KP.z] [0,1]) [.i64 x,.i64 y]=some (.sl [[.i64 x],[.i64 y]]):=λx y=>rfl;have a7:∀x y:Int,RF.ev .sub [.sl [[.i64 x],[.i64 y]],.v (.int .i64 0),.v (.int .i64 2)]=some (.sl [[.i64 x],[.i64 y]]):=λx y=>rfl;refine am ?_;unfold WG;simp only[au,jg,aY,fJ,qx,k8,kY,kZ,a1,a2,a3,a4,a5,a6,a7,EV,i2,i4,h1,aA,ai,aa,Rs,phi (Ro _ _),phi (sS _ _),phi (orr _ _)];unfold Gc;by_cases hz:far t p q=0
 .rw[ac (by simp[hz]),ad hz]
 .rw[ad hz,ac hz];unfold sgn;by_cases hn:far t p q<0
  .rw[ad hn,ad hn]
  .rw[ac hn,ac hn,ad (by omega)]
def hG (p q:Pt)(t:Rt):Int:=if(p.ok&&(q.ok&& rok t))=true then(if p.id=q.id then 2 else 0) else 8
def Mk {p q:Pt}{t:Rt}(ht:bg t):Ans D 250 [PP p,PP q,R t] [.i64 (hG p q t)]:=by
 refine am ?_;unfold WE hG;simp only[jg,aY,fJ,mm2,EV,phi (Rm _),phi (c43 ht),Fv,Bool.and_assoc,mT];cases(p.ok&&(q.ok&& rok t)) with
 |false=>rfl
 |true=>
  grind
def ya {p q:Pt}{t:Rt}(h:hG p q t=0):p.ok=true/\ q.ok=true/\ rok t=true/\ p.id≠q.id:=by
 unfold hG at h
 grind
def jh {p q:Pt}{t:Rt}(h1:p.ok=true)(h2:q.ok=true)(h3:rok t=true)(h4:p.id≠q.id):hG p q t=0:=by
 unfold hG
 grind
def AC {p q:Pt}{t:Rt}(ht:bg t):Ans D 190 [PP p,PP q,R t] (if hG p q t=0 then [.bool (leads t p q),.i64 0] else [.bool false,.i64 (hG p q t)]):=by
 refine am ?_;unfold Vx;simp only[jg,aY,EV,phi (Mk ht)];by_cases h:hG p q t=0
 .obtain⟨h1,h2,_,_⟩:=ya h;rw[ac (by simp[h]),ad h];simp[EV,phi (Ru h1 h2 ht),AB]
 .grind
def Sm (n:Int):Prop:= -4194304<=n/\ n<=4194304
def Ge {a b:Nat}(hb:0<b)(ha:a<18446744073709551616):RF.ev (.bin .quo) [U a,U b]=some (U (a/b)):=by
 show cQ .quo .u64 (a:Int) .u64 (b:Int)=_
 have:=f7 a b;rw[HX,ac (by omega),iK (by omega),<-Int.natCast_ediv,wu (by omega)];rfl
def WB (n:Bool)(h l:Nat):PV:= .agg [.bool n,U h,U l]
def Rv (n:Bool)(h l:Nat):RF.ev .agg [.bool n,U h,U l]=some (WB n h l):=rfl
def Rx (n:Bool)(h l:Nat):RF.ev (.shape 3) [WB n h l]=some (WB n h l):=rfl
def cB0 (n:Bool)(h l:Nat):RF.ev (.cell 0) [WB n h l]=some (.bool n):=rfl
def cB1 (n:Bool)(h l:Nat):RF.ev (.cell 1) [WB n h l]=some (.v (.int .u64 (h:Int))):=rfl
def cB2 (n:Bool)(h l:Nat):RF.ev (.cell 2) [WB n h l]=some (.v (.int .u64 (l:Int))):=rfl
def vI (a b:Int):RF.ev .agg [.i64 a,.i64 b]=some (R ⟨a,b⟩):=rfl
def wB (r:Rt):RF.ev .flat [R r]=some (R r):=rfl
def Gf (r:Rt):RF.ev (.part 0 2) [R r]=some (R r):=rfl
def U0:PV.v (.int .u64 0)=U 0:=rfl
def aaG {n:Bool}{a b:Nat}(ha:a<=4194304)(hb:b<=4194304):Ans D 366 [WB n 0 a,U 0,U b] [R ⟨if n=true then-(a:Int) else a,b⟩,.i64 0]:=by
 refine am ?_;have e:RF.ev (.bin .gtr) [U 0,U 0]=some (.bool false):=rfl;have e2:RF.ev (.bin .gtr) [U b,.v (.int .u64 9223372036854775807)]=some (.bool (decide ((9223372036854775807:Int)<b))):=rfl;unfold Ye;simp only[Rx,cB0,U0,cB1,cB2,vI,e,e2,Gb,EV,Lo,eF,cy (show-9223372036854775808<=(a:Int) by omega) (by omega),cy (show-9223372036854775808<=(b:Int) by omega) (by omega),cy (show-9223372036854775808<=0-(a:Int) by omega) (by omega)]
 grind
def Gg {n:Int}(h:Sm n):I64 n:=by obtain⟨h1,h2⟩:=h;exact⟨by omega,by omega⟩
def aaH {n d:Int}(hn:Sm n)(hd:Sm d)(h0:d≠0):Ans D 340 [.i64 n,.i64 d] [R (mkR n d),.i64 0]:=by
 obtain⟨n1,n2⟩:=hn;obtain⟨d1,d2⟩:=hd;have hg:0<Nat.gcd n.natAbs d.natAbs:=gy _ (by omega);have l1:n.natAbs/Nat.gcd n.natAbs d.natAbs<=n.natAbs:=f7 ..;have l2:d.natAbs/Nat.gcd n.natAbs d.natAbs<=d.natAbs:=f7 ..;have hc:=phi (Rk n.natAbs d.natAbs);rw[ux] at hc;refine am ?_;unfold XV;simp only[Ge hg (show n.natAbs<18446744073709551616 by omega),Ge hg (show d.natAbs<18446744073709551616 by omega),U0,Rv,EV,phi (x8 (Gg ⟨n1,n2⟩)),phi (x8 (Gg ⟨d1,d2⟩)),hc,phi (aaG (show n.natAbs/Nat.gcd n.natAbs d.natAbs<=4194304 by omega) (show d.natAbs/Nat.gcd n.natAbs d.natAbs<=4194304 by omega)),aa]
 rw[ac h0];rfl
def aaI {p q:Pt}(hp:p.ok=true)(hq:q.ok=true)(hi:p.id≠q.id)(hb:p.b≠q.b):Ans D 283 [PP p,PP q] [R (mkR (p.a-q.a) (q.b-p.b)),.i64 0]:=by
 have bp:=Pt.bnd hp;have bq:=Pt.bnd hq;have ht:bg ⟨0,1⟩:=⟨⟨by decide,by decide⟩,⟨by decide,by decide⟩⟩;have i2:=(sU bp.2.1 bq.2.1).2;have i4:=(sU bq.2.2 bp.2.2).2;have h1:=phi (Mk (p:=p) (q:=q) ht);rw[jh hp hq (by decide) hi] at h1;refine am ?_;unfold W5;simp[jg,aY,qx,k8,vI,EV,h1,i2,i4,phi (aaH (n:=p.a-q.a) (d:=q.b-p.b) ⟨by omega,by omega⟩ ⟨by omega,by omega⟩ (by omega))]
 grind
def dX (t:Rt)(hi lo:Pt):Rt×Bool:=if leads t lo hi=true then(t,true) else if hi.b<lo.b then(mkR (hi.a-lo.a) (lo.b-hi.b),true) else(⟨0,0⟩,false)
def Ry {p q:Pt}{t:Rt}(ht:bg t):Ans D 217 [PP p,PP q,R t] (if hG p q t=0 then [R (dX t p q).1,.bool (dX t p q).2,.i64 0] else [R ⟨0,0⟩,.bool false,.i64 (hG p q t)]):=by
 refine am ?_;unfold V6;simp only[jg,aY,vI,EV,phi (Mk ht),aA,ai];by_cases h:hG p q t=0
 .obtain⟨h1,h2,_,h3⟩:=ya h;rw[ac (by simp[h]),ad h];simp only[au,aY,wB,k8,vI,EV,phi (Ru h2 h1 ht),AB,aa];unfold dX;cases leads t q p with
  |true=>rfl
  |false=>
   simp only[aw,ax];by_cases hb:q.b<=p.b
   .grind
   .rw[ac hb,ad (by omega)];simp only[au,aY,wB,EV,phi (aaI h1 h2 h3 (by omega)),az]
 .grind
def On (n:Bool)(a b:Int):RF.ev .agg [.bool n,.v (.int .u64 a),.v (.int .u64 b)]=some (.agg [.bool n,.v (.int .u64 a),.v (.int .u64 b)]):=rfl
def mkW {n:Bool}{h l:Int}{m:Nat}(h1:h=((m/18446744073709551616:Nat):Int))(h2:l=((m% 18446744073709551616:Nat):Int)):PV.agg [.bool n,.v (.int .u64 h),.v (.int .u64 l)]=W n m:=by rw[h1,h2];rfl
def Rz {n k:Bool}{a b:Nat}(ha:a<170141183460469231731687303715884105728)(h:b<=a):Ans D 360 [W n a,W k b] [W false (a-b)]:=by
 refine am ?_;unfold Yb;simp only[mU,oy,oz,EV,aa,Lm,On,i0];by_cases c:((a% 18446744073709551616:Nat):Int)<((b% 18446744073709551616:Nat):Int)
 .rw[ad c,mkW (m:=a-b) (by omega) (by omega)]
 .rw[ac c,mkW (m:=a-b) (by omega) (by omega)]
def aaJ {n k:Bool}{a b:Nat}(ha:a<85070591730234615865843651857942052865)(hb:b<85070591730234615865843651857942052865):∃s m,Ans D 322 [W n a,W k b] [W s m]/\ nB s m=nB n a+nB k b:=by
 have l1:a% 18446744073709551616<18446744073709551616:=by omega
 by_cases hs:n=k
 .subst hs;refine⟨n,a+b,?_,by unfold nB;split<;>omega⟩;refine am ?_;unfold Hn;simp only[au,mU,sT,oy,oz,EV,aa,Lh,On,i0,eH,ay];by_cases c:(((a% 18446744073709551616:Nat):Int)+((b% 18446744073709551616:Nat):Int))% 18446744073709551616<((a% 18446744073709551616:Nat):Int)
  .rw[ad c,mkW (m:=a+b) (by omega) (by omega)]
  .rw[ac c,mkW (m:=a+b) (by omega) (by omega)]
 .have hbe:(n==k)=false:=by cases n<;>cases k<;>simp_all
  by_cases hle:b<=a
  .refine⟨n&& decide (0<a-b),a-b,?_,by unfold nB;cases n<;>cases k<;>simp_all<;>(repeat' split)<;>omega⟩
   have g:sgn ((a:Int)-b)>=0:=by unfold sgn;repeat' split;all_goals omega
   refine am ?_;unfold Hn;simp only[au,mU,sT,oy,oz,EV,aa,hbe,aw,ax,phi (Mj _ _),phi (Rz (n:=n) (k:=k) (show a<170141183460469231731687303715884105728 by omega) hle)]
   rw[ad g];have fin:∀(v:Bool) (es:List PV),den (PhiS D) 1 qG [] (.bool v::es)=den (PhiS D) 1 qG [] (.bool v::es):=λ_ _=>rfl;cases n with
   |false=>
    simp only[aw,ax,au,wA,Az,zT,qG,EV,mz]
   |true=>
    simp only[ay,au,oy,oz,EV,aa,eE];by_cases c:(0:Int)<((((a-b)/18446744073709551616:Nat):Int))
    .rw[ad c,aq (show 0<a-b by omega)]
     simp only[au,wA,Az,zT,qG,EV]
    .rw[ac c];simp only[au,wA,Az,zT,qG,EV];rw[show decide ((0:Int)<(((a-b)% 18446744073709551616:Nat):Int))=decide (0<a-b) from bU.2 (by omega)]
  .refine⟨k,b-a,?_,by unfold nB;cases n<;>cases k<;>simp_all<;>omega⟩;have g:¬sgn ((a:Int)-b)>=0:=by unfold sgn;rw[ad (by omega)];decide
   refine am ?_;unfold Hn;simp only[au,mU,sT,oy,oz,EV,aa,hbe,aw,ax,phi (Mj _ _),phi (Rz (n:=k) (k:=n) (a:=b) (b:=a) (show b<170141183460469231731687303715884105728 by omega) (by omega))]
   rw[ac g];simp only[au,wA,Az,zT,sT,EV]
def aaK {p q:Pt}{t:Rt}(hp:p.ok=true)(hq:q.ok=true)(ht:bg t):Ans D 266 [PP p,PP q,R t] [.i64 (sgn (far t p q))]:=by
 have bp:=Pt.bnd hp;have bq:=Pt.bnd hq;obtain⟨i1,i2⟩:=sU bp.2.1 bq.2.1;obtain⟨i3,i4⟩:=sU bp.2.2 bq.2.2;obtain⟨s,m,h1,h2⟩:=aaJ (n:=x9 (p.a-q.a) t.den) (k:=x9 (p.b-q.b) t.num) (nT (Ii i1 ht.2)) (nT (Ii i3 ht.1));rw[oB,oB] at h2;refine am ?_;unfold WX;simp[jg,aY,qx,k8,kY,kZ,EV,i2,i4,phi (F9 i1 ht.2),phi (F9 i3 ht.1),phi h1,phi (Rq _ _)];rw[h2];rfl
def AD {n:Int}:sgn n=0↔n=0:=by unfold sgn;repeat' split;all_goals omega
def P1 {n:Int}:0<sgn n↔0<n:=by unfold sgn;repeat' split;all_goals omega
def yb {p q:Pt}{t:Rt}(hp:p.ok=true)(hq:q.ok=true)(ht:bg t):Ans D 200 [PP p,PP q,R t] [.bool (leads t p q)]:=by
 refine am ?_;unfold VN leads;simp[jg,aY,fJ,k8,EV,phi (aaK hp hq ht),AD,P1]
 grind
def aaL {n:Bool}{a b:Nat}(ha:a<=4194304)(hb:b<=4194304):Ans D 367 [.bool n,WB false 0 a,WB false 0 b] [R ⟨if n=true then-(a:Int) else a,b⟩,.i64 0]:=by
 refine am ?_;unfold Yf;simp only[Rx,cB1,cB2,vI,EV,cy (show-9223372036854775808<=(a:Int) by omega) (by omega),cy (show-9223372036854775808<=(b:Int) by omega) (by omega),cy (show-9223372036854775808<=0-(a:Int) by omega) (by omega)]
 grind
def aaM {n d:Int}(hn:Sm n)(hd:Sm d)(h0:d≠0):Ans D 343 [.i64 n,.i64 d] [R (mkR n d),.i64 0]:=by
 obtain⟨n1,n2⟩:=hn;obtain⟨d1,d2⟩:=hd;have hg:0<Nat.gcd n.natAbs d.natAbs:=gy _ (by omega);have l1:n.natAbs/Nat.gcd n.natAbs d.natAbs<=n.natAbs:=f7 ..;have l2:d.natAbs/Nat.gcd n.natAbs d.natAbs<=d.natAbs:=f7 ..;have hc:=phi (Rl n.natAbs d.natAbs);rw[ux] at hc;have hm:=λs=>phi (aaL (n:=s) (show n.natAbs/Nat.gcd n.natAbs d.natAbs<=4194304 by omega) (show d.natAbs/Nat.gcd n.natAbs d.natAbs<=4194304 by omega))
 refine am ?_;unfold XZ;simp[Ge hg (show n.natAbs<18446744073709551616 by omega),Ge hg (show d.natAbs<18446744073709551616 by omega),U0,Rv,aY,kY,kZ,vI,wB,Lk,EV,phi (Ax (Gg ⟨n1,n2⟩)),phi (Ax (Gg ⟨d1,d2⟩)),hc,hm]
 unfold mkR
 grind
def aaN {p q:Pt}(hp:p.ok=true)(hq:q.ok=true)(hb:p.b≠q.b):Ans D 287 [PP p,PP q] [R (mkR (p.a-q.a) (q.b-p.b))]:=by
 have bp:=Pt.bnd hp;have bq:=Pt.bnd hq;have i2:=(sU bp.2.1 bq.2.1).2;have i4:=(sU bq.2.2 bp.2.2).2;refine am ?_;unfold W9;simp[jg,aY,qx,k8,EV,i2,i4,phi (aaM (n:=p.a-q.a) (d:=q.b-p.b) ⟨by omega,by omega⟩ ⟨by omega,by omega⟩ (by omega))]
def aaO {p q:Pt}{t:Rt}(hp:p.ok=true)(hq:q.ok=true)(ht:bg t):Ans D 232 [PP p,PP q,R t] [R (dX t p q).1,.bool (dX t p q).2]:=by
 refine am ?_;unfold Wi dX;simp[jg,aY,k8,vI,EV,phi (yb hq hp ht)];cases leads t q p with
 |true=>rfl
 |false=>
  simp;by_cases hb:p.b<q.b
  .rw[ad hb,ad hb];simp only[au,aY,wB,EV,phi (aaN hp hq (show p.b≠q.b by omega))]
  .grind
def aW (l:List Pt):RF.ev (.shape 1) [F l]=some (F l):=rfl
def bQ (l:List Pt):RF.ev (.cell 0) [F l]=some (sl row l):=rfl
def eR (p:Pt):cq 0 3 (row p)=some (PP p):=rfl
def mG (p:Pt):cq 0 0 (row p)=some (.i64 p.id):=rfl
def bK (p:Pt):(row p).length=3:=rfl
def I1 (n:Int):List PV:=[.i64 n]
def cg (n:Int):cq 0 0 (I1 n)=some (.i64 n):=rfl
def B1 (b:Bool):List PV:=[.bool b]
def rk (b:Bool):cq 0 0 (B1 b)=some (.bool b):=rfl
open Classical in
def eg (l:List Pt):Int:=if 64<l.length then 4 else if vb l=true then(if gX l then 0 else 32) else 8
def AE {b:Bool}:okE b=0↔b=true:=by cases b<;>simp[okE]
def gJ {b:Bool}{α:Type}{x y:α}:(if¬okE b=0 then x else y)=if b=true then y else x:=by cases b<;>rfl
open Classical in
def qd (l:List Pt):Ans D 68 [F l] [.i64 (eg l)]:=by
 refine an ⟨65,?_⟩;unfold Tt eg;simp only[au,aW,bQ,EV,aj,aa];by_cases h:64<l.length
 .grind
 .rw[ac (by omega),ac h];refine(b9 (l:=l) (p:=Pt.ok) (st:=λi=>[.i64 (i:Int)]) (r:=some [.i64 8]) (fin:=some [.i64 (if gX l then 0 else 32)]) (λi p self hp _=>?_) (λhg self=>?_) (by omega)).trans ?_
  .unfold BG;simp only[au,aW,bQ,aO hp (bK p),aL hp,eR,EV,aa,bc (aJ hp),up1 (show i<1000000000 by have:=aJ hp;omega),phi (Rm _),mT]
   cases p.ok<;>rfl
  .unfold BG;simp only[EV,aa,bo,IU,bQ,au,aj];refine(ef (n:=l.length) (P:=λi=>∀p q,l[i]?=some q->(0<i->l[i-1]?=some p->p.id<q.id)) (st:=λi=>[.i64 (i:Int)]) (r:=some [.i64 32]) (fin:=some [.i64 0]) (λi self hi _=>?_) (λ_ self=>?_) (by omega)).trans ?_
   .obtain⟨q,hq⟩:∃q,l[i]?=some q:=⟨l[i],ak _⟩;unfold BF;simp only[au,bQ,aO hq (bK q),aL hq,eR,EV,aa,bc hi];cases i with
    |zero=>
     rw[ac (by omega),ad (λp q _ h=>by omega)];unfold BE;simp only[EV,aw,ax]
     try rfl
    |succ j=>
     obtain⟨p,hp⟩:∃p,l[j]?=some p:=⟨l[j],ak _⟩;rw[ad (by omega)];simp only[au,bQ,fJ,rh (show j<1000000000 by omega),aO hp (bK p),aL hp,mG,EV]
     unfold BE;simp only[EV,aa,up1 (show j+1<1000000000 by omega)]
     by_cases hc:q.id<=p.id
     .rw[ad hc,ac (λh=>by have:=h p q hq (by omega) (by simpa using hp);omega)]
     .rw[ac hc,ad (λp' q' h1 _ h2=>by
       rw[hq] at h1;cases h1;rw[show j+1-1=j by omega,hp] at h2;cases h2
       omega)]
   .unfold BF;simp only[EV,aa,bo,IT]
   .have:(∀j,j<l.length->∀p q,l[j]?=some q->(0<j->l[j-1]?=some p->p.id<q.id))↔gX l:=by
     constructor
     .intro h i p q hp hq;exact h (i+1) (aJ hq) p q hq (by omega) (by simpa using hp)
     .intro h j hj p q hq h0 hp;exact h (j-1) p q hp (by rw[show j-1+1=j by omega];exact hq)
    by_cases hr:gX l
    .rw[ad (this.2 hr),ad hr]
    .rw[ac (λh=>hr (this.1 h)),ac hr]
  .unfold vb;cases l.all Pt.ok<;>rfl
open Classical in
def kf (l:List Pt):Ans D 55 [F l] [.i64 (eg l)]:=by
 refine an ⟨65,?_⟩;unfold To eg;simp only[au,aW,bQ,EV,aj,aa];by_cases h:64<l.length
 .grind
 .rw[ac (by omega),ac h];refine(b9 (l:=l) (p:=Pt.ok) (st:=λi=>[.i64 (i:Int)]) (r:=some [.i64 8]) (fin:=some [.i64 (if gX l then 0 else 32)]) (λi p self hp _=>?_) (λhg self=>?_) (by omega)).trans ?_
  .unfold BA;simp only[au,bQ,aO hp (bK p),aL hp,eR,EV,aj,aa,bc (aJ hp),up1 (show i<1000000000 by have:=aJ hp;omega),phi (aav _),mT]
  .unfold BA;simp only[au,bQ,EV,aj,aa,bo,IQ];refine(ef (n:=l.length-1) (P:=λi=>∀p q,l[i]?=some p->l[i+1]?=some q->p.id<q.id) (st:=λi=>[.i64 ((i+1:Nat):Int)]) (r:=some [.i64 32]) (fin:=some [.i64 0]) (λi self hi _=>?_) (λ_ self=>?_) (by omega)).trans ?_
   .obtain⟨p,hp⟩:∃p,l[i]?=some p:=⟨l[i],ak _⟩;obtain⟨q,hq⟩:∃q,l[i+1]?=some q:=⟨l[i+1],ak _⟩;unfold Bz;simp only[au,bQ,rh (show i<1000000000 by omega),aO hp (bK p),aL hp,aO hq (bK q),aL hq,mG,EV,aj,aa,bc (aJ hq),up1 (show i+1<1000000000 by omega)]
    grind
   .unfold Bz;simp only[au,bQ,EV,aj,aa,IP];rw[ac (by omega)]
   .have:(∀j,j<l.length-1->∀p q,l[j]?=some p->l[j+1]?=some q->p.id<q.id)↔gX l:=
     ⟨λh i p q hp hq=>h i (by have:=aJ hq;omega) p q hp hq,λh j _ p q hp hq=>h j p q hp hq⟩
    by_cases hr:gX l
    .rw[ad (this.2 hr),ad hr]
    .rw[ac (λh=>hr (this.1 h)),ac hr]
  .unfold vb;cases l.all Pt.ok<;>rfl
def pos (l:List Pt)(id:Int):Int:=qc (λp=>decide (p.id=id)) l
def zU {o:Option Nat}:o.elim (some [PV.i64 (-1)]) (λi=>some [.i64 (i:Int)])=some [.i64 (o.elim (-1) λi=>(i:Int))]:=by cases o<;>rfl
def bO (n:Int):(I1 n).length=1:=rfl
def qe (b:Bool):(B1 b).length=1:=rfl
def nC {l:List Pt}(hl:l.length<=1000)(id:Int):Ans D 151 [F l,.i64 id] [.i64 (pos l id)]:=by
 refine an ⟨1001,?_⟩;unfold UP;simp[aW,EV];refine(jb (l:=l) (p:=λp=>decide (p.id=id)) (st:=λi=>[.i64 (i:Int)]) (ret:=λi=>some [.i64 (i:Int)]) (fin:=some [.i64 (-1)]) (λi p self hp=>?_) (λself=>?_) (by omega)).trans zU
 .unfold Ci;simp only[bQ,aO hp (bK p),aL hp,mG,EV,aj,aa,bc (aJ hp),up1 (show i<1000000000 by have:=aJ hp;omega)]
 .unfold Ci;simp[bQ,EV,Jz]
def aaP {α:Type}[DecidableEq α]{l k:List α}(h:l.length=k.length):(l.zip k).all (λp=>decide (p.1=p.2))=decide (l=k):=by
 induction l generalizing k with
 |nil=>cases k with
  |nil=>rfl
  |cons=>simp at h
 |cons a l ih=>cases k with
  |nil=>simp at h
  |cons b k=>
   simp_all
def fU {α β:Type}{l:List α}{k:List β}{i:Nat}{x:α×β}(h:(l.zip k)[i]?=some x):l[i]?=some x.1/\ k[i]?=some x.2:=by
 grind
def dJ {α β:Type}{l:List α}{k:List β}(h:l.length=k.length):(l.zip k).length=l.length:=by rw[lN];omega
def mH {α:Type}[DecidableEq α]{l k:List α}{x:Option (List PV)}(h:l.length=k.length)(hx:x=if(l.zip k).all (λp=>decide (p.1=p.2))=true then some [.bool true] else some [.bool false]):x=some [.bool (decide (l=k))]:=by
 rw[hx,aaP h]
 grind
def RA (p q:Pt):RF.ev (.eqv [.i,.i,.i]) [PP p,PP q]=some (.bool (decide (p=q))):=by
 obtain⟨a,b,c⟩:=p;obtain⟨x,y,z⟩:=q;have:RF.ev (.eqv [.i,.i,.i]) [PP ⟨a,b,c⟩,PP ⟨x,y,z⟩]=some (.bool (decide (a=x)&&(decide (b=y)&&(decide (c=z)&& true)))):=rfl;simp_all
def c28 {l k:List Pt}(hl:l.length<=1000):Ans D 48 [F l,F k] [.bool (decide (l=k))]:=by
 refine an ⟨1001,?_⟩;unfold k28;simp only[au,aW,bQ,EV,aj,aA,ai];by_cases h:l.length=k.length
 .rw[ac (by omega)];refine mH h (b9 (l:=l.zip k) (st:=λi=>[.i64 (i:Int)]) (λi x self hx _=>?_) (λ_ self=>?_) (by rw[dJ h];omega))
  .obtain⟨hp,hq⟩:=fU hx;unfold GV;simp only[au,bQ,aO hp (bK _),aL hp,aO hq (bK _),aL hq,eR,RA,EV,aj,aa,aA,ai,bc (aJ hp),up1 (show i<1000000000 by have:=aJ hp;omega)]
   grind
  .rw[dJ h];unfold GV;simp only[au,bQ,EV,aj,aa,bo,OZ]
 .rw[ad (by omega),ah (λe=>h (by rw[e]))]
def RB {l k:List Int}(hl:l.length<=1000):∃N,den (PhiS D) N M1 [] [sl I1 l,sl I1 k]=some [.bool (decide (l=k))]:=by
 refine⟨1001,?_⟩;unfold M1;simp only[EV,aj,aA,ai];by_cases h:l.length=k.length
 .rw[ac (by omega)];refine mH h (b9 (l:=l.zip k) (st:=λi=>[.i64 (i:Int)]) (λi x self hx _=>?_) (λ_ self=>?_) (by rw[dJ h];omega))
  .obtain⟨hp,hq⟩:=fU hx;unfold BC;simp only[aO hp (bO _),aL hp,aO hq (bO _),aL hq,cg,EV,aj,aa,aA,ai,bc (aJ hp),up1 (show i<1000000000 by have:=aJ hp;omega)]
   grind
  .rw[dJ h];unfold BC;simp only[EV,aj,aa,bo,IS]
 .rw[ad (by omega),ah (λe=>h (by rw[e]))]
def vJ {l k:List Int}(hl:l.length<=1000):Ans D 61 [sl I1 l,sl I1 k] [.bool (decide (l=k))]:=an (RB hl)
def Ml {l k:List Int}(hl:l.length<=1000):Ans D 173 [sl I1 l,sl I1 k] [.bool (decide (l=k))]:=an (RB hl)
def aaQ {l k:List Bool}(hl:l.length<=1000):Ans D 234 [sl B1 l,sl B1 k] [.bool (decide (l=k))]:=by
 refine an ⟨1001,?_⟩;unfold Wl;simp only[EV,aj,aA,ai];by_cases h:l.length=k.length
 .rw[ac (by omega)];refine mH h (b9 (l:=l.zip k) (st:=λi=>[.i64 (i:Int)]) (λi x self hx _=>?_) (λ_ self=>?_) (by rw[dJ h];omega))
  .obtain⟨hp,hq⟩:=fU hx;unfold Dn;simp only[aO hp (qe _),aL hp,aO hq (qe _),aL hq,rk,EV,aj,aa,bc (aJ hp),up1 (show i<1000000000 by have:=aJ hp;omega)]
   grind
  .rw[dJ h];unfold Dn;simp only[EV,aj,aa,bo,KQ]
 .rw[ad (by omega),ah (λe=>h (by rw[e]))]
def AF {l:List Pt}(h:gX l):∀(d i:Nat) (p q:Pt),l[i]?=some p->l[i+d+1]?=some q->p.id<q.id
 |0,i,p,q,hp,hq=>h i p q hp hq
 |d+1,i,p,q,hp,hq=>by
  obtain⟨m,hm⟩:∃m,l[i+d+1]?=some m:=⟨l[i+d+1]'(by have:=aJ hq;omega),ak _⟩;have h1:=AF h d i p m hp hm;have h2:=h (i+d+1) m q hm (by rw[<-hq];congr 1);omega
def gN {l:List Pt}(h:gX l){i j:Nat}{p q:Pt}(hij:i<j)(hp:l[i]?=some p)(hq:l[j]?=some q):p.id<q.id:=
 AF h (j-i-1) i p q hp (by rw[show i+(j-i-1)+1=j by omega];exact hq)
def cI {l:List Pt}(h:gX l):Ids l:=by
 unfold Ids;rw[dt];intro i j x hi hj;rw[aT,bz] at hi hj;obtain⟨p,hp,rfl⟩:=hi;obtain⟨q,hq,e⟩:=hj;rcases ew i j with g|g|g
 .have:=gN h g hp hq;omega
 .exact g
 .have:=gN h g hq hp;omega
def LB (l:List Pt)(id:Int)(m:Nat):Prop:=m<=l.length/\∀(k:Nat) (p:Pt),l[k]?=some p->(k<m->p.id<id)/\(m<=k->id<=p.id)
def Mm {a b:Nat}(h:a<1000000)(k:b<1000000):cQ .shr .u64 (IntKind.u64.wrap (IntKind.i64.wrap ((a:Int)+(b:Int)))) .u64 1=some (.v (.int .u64 (((a+b)/2:Nat):Int))):=by
 rw[HY,ac (by decide),cy (by omega) (by omega),i0,show min (1:Int).toNat IntKind.u64.bits=1 from rfl,gb _ (by decide)]
 congr 3
 omega
def vK {N:Nat}{f:JT}{e0 e2:PV}{l:List Pt}{id:Int}(hs:gX l)(hl:l.length<=1000):∀(m i j:Nat),j-i<m->i<=j->j<=l.length->(∀(k:Nat) (p:Pt),l[k]?=some p->(k<i->p.id<id)/\(j<=k->id<=p.id))->
  ∃P,LB l id P/\ denW (PhiS D) N qH [f] [e0,.i64 id,F l,sl row l,e2] m [.i64 (i:Int),.i64 (j:Int)]=f [.i64 (P:Int)]
 |0,i,j,h,_,_,_=>by omega
 |m+1,i,j,h,hij,hj,hb=>by
  rw[bF];by_cases hlt:i<j
  .obtain⟨p,hp⟩:∃p,l[(i+j)/2]?=some p:=⟨l[(i+j)/2]'(by omega),ak _⟩;have key:∀self:JT,den (PhiS D) N qH ([f]++[self]) ([e0,.i64 id,F l,sl row l,e2]++[.i64 (i:Int),.i64 (j:Int)])=if p.id<id then self [.i64 (((i+j)/2+1:Nat):Int),.i64 (j:Int)] else self [.i64 (i:Int),.i64 (((i+j)/2:Nat):Int)]:=λself=>by
    unfold qH;simp only[EV,aa,bc hlt,Mm (show i<1000000 by omega) (show j<1000000 by omega),cy (show-9223372036854775808<=(((i+j)/2:Nat):Int) by omega) (by omega),bQ,aO hp (bK p),aL hp,eR,fJ,phi (sS _ _),Ll,up1 (show(i+j)/2<1000000000 by omega)]
    by_cases c:p.id<id
    .rw[ad c,ad (show sgn (p.id-id)<0 by unfold sgn;rw[ad (by omega)];decide)]
    .rw[ac c,ac (show¬sgn (p.id-id)<0 by unfold sgn;rw[ac (by omega)];split<;>decide)]
   rw[key];by_cases c:p.id<id
   .rw[ad c];refine vK hs hl m _ j (by omega) (by omega) hj λk q hq=>⟨λhk=>?_,(hb k q hq).2⟩;by_cases e:k=(i+j)/2
    .subst e;rw[hp] at hq;cases hq;exact c
    .have:=gN hs (show k<(i+j)/2 by omega) hq hp;omega
   .rw[ac c];refine vK hs hl m i _ (by omega) (by omega) (by omega) λk q hq=>⟨(hb k q hq).1,λhk=>?_⟩;by_cases e:k=(i+j)/2
    .subst e;rw[hp] at hq;cases hq;omega
    .have:=gN hs (show(i+j)/2<k by omega) hp hq;omega
  .refine⟨i,⟨by omega,λk p hp=>⟨(hb k p hp).1,λh=>(hb k p hp).2 (by omega)⟩⟩,?_⟩;unfold qH;simp only[EV,aa];rw[ac (by omega)]
def AH {l:List Pt}{id:Int}:(∀p∈l,p.id≠id)->pos l id= -1:=λh=>by
 unfold pos qc;rw[gj.2 (λp hp=>ah (h p hp))];rfl
def vL {l:List Pt}(hs:gX l){i:Nat}{p:Pt}(h:l[i]?=some p):pos l p.id=i:=by
 unfold pos qc;have:l.findIdx? (λq=>decide (q.id=p.id))=some i:=by
  rw[b8];have hi:=aJ h;have e:=(aC.1 h).2;refine⟨hi,by rw[e];simp,λj hj=>?_⟩;have:=gN hs hj (ak (by omega)) h;simp;omega
 rw[this];rfl
def pos_cases (l:List Pt)(id:Int):(pos l id= -1/\∀p∈l,p.id≠id)\/∃(i:Nat) (p:Pt),l[i]?=some p/\ p.id=id/\ pos l id=(i:Nat):=by
 unfold pos qc;cases h:l.findIdx? (λq=>decide (q.id=id)) with
 |none=>
  grind
 |some i=>
  obtain⟨h1,h2,_⟩:=b8.1 h
  grind
def rm {e0:PV}{l:List Pt}{id:Int}(hs:gX l)(hl:l.length<=1000):∃P:Nat,LB l id P/\(0<=pos l id->pos l id=P)/\∀(K2 K1:K) (J:List JT),K2=(.jp K1 (.lt (.bin .lss) [.x 5,.x 4] (.br (.x 6) (.lt (.cell 0) [.x 2] (.lt (.tix 3) [.x 7,.x 5] (.lt (.elt 0 3) [.x 7,.x 8] (.lt (.cell 0) [.x 9] (.call 220 [.x 10,.x 1] (.lt (.bin .eql) [.x 11,.c (.i64 0)] (.jmp 0 [.x 12]))))))) (.jmp 0 [.c (.bool false)]))))->
  denW (PhiS D) 1001 qH [mj (PhiS D) 1001 K2 [] [e0,.i64 id,F l,sl row l,.i64 (l.length:Int)]] [e0,.i64 id,F l,sl row l,.i64 (l.length:Int)] 1001 [.i64 0,.i64 (l.length:Int)]=den (PhiS D) 1001 K1 [] [e0,.i64 id,F l,sl row l,.i64 (l.length:Int),.i64 (P:Int),.bool (decide (0<=pos l id))]:=by
 have hbin:=λf:JT=>vK (N:=1001) (f:=f) (e0:=e0) (e2:= .i64 (l.length:Int)) (id:=id) hs hl 1001 0 l.length (by omega) (by omega) (by omega) λk p hp=>⟨λh=>by omega,λh=>by have:=aJ hp;omega⟩;have uniq:∀P P2,LB l id P->LB l id P2->P=P2:=λP P2 h h'=>by
  rcases ew P P2 with g|g|g
  .obtain⟨p,hp⟩:∃p,l[P]?=some p:=⟨l[P]'(by have:=h'.1;omega),ak _⟩;have h1:=(h.2 P p hp).2 (aD _);have h2:=(h'.2 P p hp).1 g;omega
  .exact g
  .obtain⟨p,hp⟩:∃p,l[P2]?=some p:=⟨l[P2]'(by have:=h.1;omega),ak _⟩;have h1:=(h'.2 P2 p hp).2 (aD _);have h2:=(h.2 P2 p hp).1 g;omega
 obtain⟨P,hLB,_⟩:=hbin λ_=>none;obtain⟨h1,h2⟩:=hLB;have hpos:(0<=pos l id->pos l id=P)/\(0<=pos l id↔∃p,l[P]?=some p/\ p.id=id):=by
  rcases pos_cases l id with⟨e,hn⟩|⟨i,p,hp,he,e⟩
  .refine⟨λh=>by omega,λh=>by omega,λ⟨p,hp,he⟩=>absurd he (hn p (aB hp))⟩
  .have:i=P:=by
    rcases ew i P with g|g|g
    .have:=(h2 i p hp).1 g;omega
    .exact g
    .obtain⟨q,hq⟩:∃q,l[P]?=some q:=⟨l[P]'(by have:=aJ hp;omega),ak _⟩;have:=(h2 P q hq).2 (by omega);have:=gN hs g hq hp;omega
   subst this;exact⟨λ_=>e,λ_=>⟨p,hp,he⟩,λ_=>by omega⟩
 refine⟨P,⟨h1,h2⟩,hpos.1,λK2 K1 J hK=>?_⟩;obtain⟨P2,hLB',h3⟩:=hbin (mj (PhiS D) 1001 K2 [] [e0,.i64 id,F l,sl row l,.i64 (l.length:Int)]);have:=uniq P P2 ⟨h1,h2⟩ hLB';subst this;refine h3.trans ?_;subst hK;simp only[EV,aa];by_cases hP:P<l.length
 .obtain⟨p,hp⟩:∃p,l[P]?=some p:=⟨l[P],ak _⟩;simp only[bc hP,au,bQ,aO hp (bK p),aL hp,eR,fJ,phi (sS _ _),EV];have:decide (sgn (p.id-id)=0)=decide (0<=pos l id):=by
   rw[bU,AD,hpos.2];constructor
   .intro h;exact⟨p,hp,by omega⟩
   .rintro⟨q,hq,h⟩;rw[hp] at hq;cases hq;omega
  rw[this]
 .rw[ac (by omega)];rw[ah (show¬0<=pos l id by rw[hpos.2];rintro⟨p,hp,_⟩;have:=aJ hp;omega)]
def dG {l:List Pt}:eg l=0↔okF l:=by
 unfold eg okF
 grind
def ea {l:List Pt}(h:okF l){i:Nat}{p:Pt}(hp:l[i]?=some p):p.ok=true:=aQ.1 h.2.1 p (aB hp)
def yc {l:List Pt}(h:okF l){i:Nat}{p:Pt}(hp:l[i]?=some p):decide (0<=pos l p.id)=true/\ pos l p.id=(i:Nat):=by
 have:=vL h.2.2 hp
 grind
def aaR {l:List Pt}(h:okF l){i:Nat}{p:Pt}(hp:l[i]?=some p):Ans D 344 [F l,.i64 p.id] [.i64 (i:Int),.bool true]:=by
 obtain⟨P,_,h2,h1⟩:=rm (e0:=F l) (id:=p.id) h.2.2 (by have:=h.1;omega);obtain⟨e1,e2⟩:=yc h hp;have:P=i:=by have:=h2 (aU e1);omega
 subst this;refine an ⟨1001,?_⟩;unfold X4;simp[aW,bQ,EV];refine(h1 _ DK [] rfl).trans ?_;simp[DK,EV,e1]
def aaS {l:List Pt}(h:okF l){i:Nat}{p:Pt}(hp:l[i]?=some p):Ans D 288 [F l,.i64 p.id] [.i64 (i:Int),.i64 0]:=by
 have h0:=phi (qd l);rw[dG.2 h] at h0;refine am ?_;unfold Xa;simp[aW,EV,h0,phi (aaR h hp)]
def Oo (p:Pt):RF.ev .flat [PP p]=some (PP p):=rfl
def Gh {l:List Pt}(h:okF l){i:Nat}{p:Pt}(hp:l[i]?=some p):Ans D 235 [F l,.i64 p.id] [PP p,.i64 0]:=by
 refine am ?_;unfold Wm;simp[aW,bQ,EV,phi (aaS h hp),aO hp (bK p),aL hp,eR]
def RC {l:List Pt}{t:Rt}(h:okF l)(ht:bg t)(hr:rok t=true){i j:Nat}{p q:Pt}(hp:l[i]?=some p)(hq:l[j]?=some q)(hne:p.id≠q.id):Ans D 176 [F l,R t,.i64 p.id,.i64 q.id] [.bool (leads t p q)]:=by
 have h0:=phi (AC (p:=p) (q:=q) ht);rw[jh (ea h hp) (ea h hq) hr hne] at h0;refine am ?_;unfold Vf;simp[aW,aY,jg,EV,phi (Gh h hp),phi (Gh h hq),h0]
def Mn {l:List Pt}(h:okF l){i:Nat}{p:Pt}(hp:l[i]?=some p):Ans D 349 [F l,.i64 p.id] [.i64 (i:Int),.bool true]:=by
 obtain⟨P,_,h2,h1⟩:=rm (e0:=F l) (id:=p.id) h.2.2 (by have:=h.1;omega);obtain⟨e1,e2⟩:=yc h hp;have:P=i:=by have:=h2 (aU e1);omega
 subst this;refine an ⟨1001,?_⟩;unfold M9;simp[aW,bQ,EV];refine(h1 _ xk [] rfl).trans ?_;simp[xk,EV,e1]
def Za {l:List Pt}(h:okF l){id:Int}(hn:∀p∈l,p.id≠id):∃P:Nat,Ans D 349 [F l,.i64 id] [.i64 (P:Int),.bool false]:=by
 obtain⟨P,_,_,h1⟩:=rm (e0:=F l) (id:=id) h.2.2 (by have:=h.1;omega);refine⟨P,an ⟨1001,?_⟩⟩;unfold M9;simp[aW,bQ,EV];refine(h1 _ xk [] rfl).trans ?_;simp only[AH hn];rfl
def bk (l:List Pt)(id:Int):Pt:=(l.find? λp=>decide (p.id=id)).getD ⟨-1,0,0⟩
def kH {l:List Pt}(h:okF l){i:Nat}{p:Pt}(hp:l[i]?=some p):bk l p.id=p:=by
 unfold bk;cases e:l.find? λq=>decide (q.id=p.id) with
 |none=>rw[List.find?_eq_none] at e;have:=e p (aB hp);simp at this
 |some q=>
  have h1:=qb e;exact(cI h.2.2).inj (i7 e) (aB hp) (aU h1)
def za {l:List Pt}{id:Int}(hn:∀p∈l,p.id≠id):bk l id=⟨-1,0,0⟩:=by
 unfold bk;rw[List.find?_eq_none.2 (λp hp=>by simpa using hn p hp)]
 rfl
def has_cases (l:List Pt)(id:Int):(∀p∈l,p.id≠id)\/∃(i:Nat) (p:Pt),l[i]?=some p/\ p.id=id:=by
 rcases pos_cases l id with⟨_,h⟩|⟨i,p,h1,h2,_⟩
 .exact .inl h
 .grind
def Gi {l:List Pt}(h:okF l)(id:Int):Ans D 193 [F l,.i64 id] [PP (bk l id)]:=by
 obtain⟨P,_,h2,h1⟩:=rm (e0:=F l) (id:=id) h.2.2 (by have:=h.1;omega);refine an ⟨1001,?_⟩;unfold VC;simp only[au,aW,bQ,EV,aj];refine(h1 _ C1 [] rfl).trans ?_;unfold C1;rcases has_cases l id with hn|⟨i,p,hp,rfl⟩
 .have a3:RF.ev .agg [.i64 (-1),.i64 0,.i64 0]=some (PP ⟨-1,0,0⟩):=rfl;rw[AH hn,ah (by decide)];simp only[au,aW,bQ,EV,aV,ay,a3,Oo,za hn]
 .obtain⟨e1,e2⟩:=yc h hp;have:P=i:=by have:=h2 (aU e1);omega
  subst this;rw[e1];simp only[au,aW,bQ,EV,aK,aw,ax,aO hp (bK p),aL hp,eR,Oo,kH h hp]
structure Crt where
 low:Int
 high:Int
 deriving DecidableEq
structure Held where
 number:Int
 cert:Crt
 deriving DecidableEq
structure Hnd where
 index:Int
 use:Int
 deriving DecidableEq
structure Evt where
 time:Rt
 number:Int
 hnd:Hnd
 deriving DecidableEq
structure Due where
 number:Int
 hnd:Hnd
 deriving DecidableEq
structure Nod where
 id:Int
 left:Int
 right:Int
 deriving DecidableEq
structure Certs where
 next:Int
 list:List Held
 deriving DecidableEq
structure Agenda where
 slots:Slots
 heap:List Evt
 wher:List Int
 deriving DecidableEq
structure Clock where
 now:Rt
 pts:List Pt
 certs:Certs
 agenda:Agenda
 due:List Due
 deriving DecidableEq
structure Brk where
 places:List Int
 wins:List Int
 deriving DecidableEq
structure Tree where
 root:Int
 nodes:List Nod
 deriving DecidableEq
structure KHeap where
 clock:Clock
 heap:List Int
 deriving DecidableEq
structure KTourn where
 clock:Clock
 brk:Brk
 deriving DecidableEq
structure Heater where
 clock:Clock
 tree:Tree
 deriving DecidableEq
structure Choice where
 tag:Int
 heap:KHeap
 tourn:KTourn
 heater:Heater
 hanger:KHeap
 deriving DecidableEq
def ct (c:Crt):List PV:=[.i64 c.low,.i64 c.high]
def hrow (h:Held):List PV:=[.i64 h.number,.i64 h.cert.low,.i64 h.cert.high]
def cx (e:Evt):List PV:=[.i64 e.time.num,.i64 e.time.den,.i64 e.number,.i64 e.hnd.index,.i64 e.hnd.use]
def cT (d:Due):List PV:=[.i64 d.number,.i64 d.hnd.index,.i64 d.hnd.use]
def c8 (n:Nod):List PV:=[.i64 n.id,.i64 n.left,.i64 n.right]
def CP (c:Crt):PV:= .agg (ct c)
def HP (h:Held):PV:= .agg (hrow h)
def EP (e:Evt):PV:= .agg (cx e)
def DP (d:Due):PV:= .agg (cT d)
def NP (n:Nod):PV:= .agg (c8 n)
def csC (c:Certs):List PV:=[.i64 c.next,sl hrow c.list]
def slC (s:Slots):List PV:=[sl I1 s.uses,sl B1 s.used,sl I1 s.free]
def agC (a:Agenda):List PV:=slC a.slots++[sl cx a.heap,sl I1 a.wher]
def clC (c:Clock):List PV:= .i64 c.now.num:: .i64 c.now.den::sl row c.pts::(csC c.certs++(agC c.agenda++[sl cT c.due]))
def brC (b:Brk):List PV:=[sl I1 b.places,sl I1 b.wins]
def trC (t:Tree):List PV:=[.i64 t.root,sl c8 t.nodes]
def khC (k:KHeap):List PV:=clC k.clock++[sl I1 k.heap]
def ktC (k:KTourn):List PV:=clC k.clock++brC k.brk
def htC (k:Heater):List PV:=clC k.clock++trC k.tree
def Mo (c:Choice):List PV:= .v (.int .u8 c.tag)::(khC c.heap++(ktC c.tourn++(htC c.heater++khC c.hanger)))
def CS (c:Certs):PV:= .agg (csC c)
def SL (s:Slots):PV:= .agg (slC s)
def AG (a:Agenda):PV:= .agg (agC a)
def CL (c:Clock):PV:= .agg (clC c)
def BR (b:Brk):PV:= .agg (brC b)
def TR (t:Tree):PV:= .agg (trC t)
def KH (k:KHeap):PV:= .agg (khC k)
def KT (k:KTourn):PV:= .agg (ktC k)
def HT (k:Heater):PV:= .agg (htC k)
def CHO (c:Choice):PV:= .agg (Mo c)
def vM (c:Crt):cq 0 2 (ct c)=some (CP c):=rfl
def ji (h:Held):cq 0 3 (hrow h)=some (HP h):=rfl
def zV (h:Held):cq 1 2 (hrow h)=some (CP h.cert):=rfl
def Gj (h:Held):cq 0 0 (hrow h)=some (.i64 h.number):=rfl
def Zb (h:Held):cq 1 0 (hrow h)=some (.i64 h.cert.low):=rfl
def Zc (h:Held):cq 2 0 (hrow h)=some (.i64 h.cert.high):=rfl
def k9 (e:Evt):cq 0 5 (cx e)=some (EP e):=rfl
def aaT (d:Due):cq 0 3 (cT d)=some (DP d):=rfl
def AI (n:Nod):cq 0 3 (c8 n)=some (NP n):=rfl
def kg (c:Crt):(ct c).length=2:=rfl
def eS (c:Held):(hrow c).length=3:=rfl
def jk (c:Evt):(cx c).length=5:=rfl
def vN (c:Due):(cT c).length=3:=rfl
def lb (c:Nod):(c8 c).length=3:=rfl
section
variable (c:Certs)(s:Slots)(a:Agenda)(k:Clock)(b:Brk)(t:Tree)(kh:KHeap)(kt:KTourn)(ht:Heater)(ch:Choice)(cr:Crt)(h:Held)
theorem ki:RF.ev (.shape 2) [CP cr]=some (CP cr):=rfl
theorem oC:RF.ev (.cell 0) [CP cr]=some (.i64 cr.low):=rfl
theorem oD:RF.ev (.cell 1) [CP cr]=some (.i64 cr.high):=rfl
theorem iR:RF.ev (.cell 0) [HP h]=some (.i64 h.number):=rfl
theorem pHP:RF.ev (.part 1 2) [HP h]=some (CP h.cert):=rfl
theorem ii:RF.ev (.shape 2) [CS c]=some (CS c):=rfl
theorem lU:RF.ev (.cell 0) [CS c]=some (.i64 c.next):=rfl
theorem eb:RF.ev (.cell 1) [CS c]=some (sl hrow c.list):=rfl
theorem jl:RF.ev (.shape 3) [SL s]=some (SL s):=rfl
theorem iS:RF.ev (.cell 0) [SL s]=some (sl I1 s.uses):=rfl
theorem kj:RF.ev (.cell 1) [SL s]=some (sl B1 s.used):=rfl
theorem iT:RF.ev (.cell 2) [SL s]=some (sl I1 s.free):=rfl
theorem jm:RF.ev (.shape 5) [AG a]=some (AG a):=rfl
theorem pAG:RF.ev (.part 0 3) [AG a]=some (SL a.slots):=rfl
theorem eT:RF.ev (.cell 3) [AG a]=some (sl cx a.heap):=rfl
theorem km:RF.ev (.cell 4) [AG a]=some (sl I1 a.wher):=rfl
theorem dq:RF.ev (.shape 11) [CL k]=some (CL k):=rfl
theorem eU:RF.ev (.part 0 2) [CL k]=some (R k.now):=rfl
theorem iu:RF.ev (.part 2 1) [CL k]=some (F k.pts):=rfl
theorem nD:RF.ev (.part 3 2) [CL k]=some (CS k.certs):=rfl
theorem lV:RF.ev (.part 5 5) [CL k]=some (AG k.agenda):=rfl
theorem kn:RF.ev (.cell 2) [CL k]=some (sl row k.pts):=rfl
theorem eV:RF.ev (.cell 4) [CL k]=some (sl hrow k.certs.list):=rfl
theorem iU:RF.ev (.cell 8) [CL k]=some (sl cx k.agenda.heap):=rfl
theorem jn:RF.ev (.cell 9) [CL k]=some (sl I1 k.agenda.wher):=rfl
theorem dY:RF.ev (.cell 10) [CL k]=some (sl cT k.due):=rfl
theorem jQ:RF.ev (.shape 2) [BR b]=some (BR b):=rfl
theorem oF:RF.ev (.cell 0) [BR b]=some (sl I1 b.places):=rfl
theorem ij:RF.ev (.cell 1) [BR b]=some (sl I1 b.wins):=rfl
theorem ro:RF.ev (.shape 2) [TR t]=some (TR t):=rfl
theorem RD:RF.ev (.cell 0) [TR t]=some (.i64 t.root):=rfl
theorem jR:RF.ev (.cell 1) [TR t]=some (sl c8 t.nodes):=rfl
theorem lX:RF.ev (.shape 12) [KH kh]=some (KH kh):=rfl
theorem pKH:RF.ev (.part 0 11) [KH kh]=some (CL kh.clock):=rfl
theorem cKH:RF.ev (.cell 11) [KH kh]=some (sl I1 kh.heap):=rfl
theorem sV:RF.ev (.shape 13) [KT kt]=some (KT kt):=rfl
theorem pKT:RF.ev (.part 0 11) [KT kt]=some (CL kt.clock):=rfl
theorem yd:RF.ev (.part 11 2) [KT kt]=some (BR kt.brk):=rfl
theorem sW:RF.ev (.shape 13) [HT ht]=some (HT ht):=rfl
theorem pHT:RF.ev (.part 0 11) [HT ht]=some (CL ht.clock):=rfl
theorem Mp:RF.ev (.part 11 2) [HT ht]=some (TR ht.tree):=rfl
theorem eP:RF.ev (.shape 51) [CHO ch]=some (CHO ch):=rfl
theorem cCH:RF.ev (.cell 0) [CHO ch]=some (.v (.int .u8 ch.tag)):=rfl
theorem AJ:RF.ev (.part 1 12) [CHO ch]=some (KH ch.heap):=rfl
theorem AK:RF.ev (.part 13 13) [CHO ch]=some (KT ch.tourn):=rfl
theorem AL:RF.ev (.part 26 13) [CHO ch]=some (HT ch.heater):=rfl
theorem AM:RF.ev (.part 39 12) [CHO ch]=some (KH ch.hanger):=rfl
end
def gSl (s:Slots):Bool:=decide (210<s.uses.length)||decide (210<s.used.length)||decide (210<s.free.length)
def gAg (a:Agenda):Bool:=gSl a.slots||decide (210<a.heap.length)||decide (210<a.wher.length)
def gF (l:List Pt):Bool:=(decide (16<l.length)&& decide (l.length<64))||decide (70<l.length)
def gCl (c:Clock):Bool:=decide (40<c.certs.list.length)||decide (40<c.due.length)||gF c.pts||gAg c.agenda
def gKh (k:KHeap):Bool:=gCl k.clock||decide (70<k.heap.length)
def gKt (k:KTourn):Bool:=gCl k.clock||(decide (70<k.brk.places.length)||decide (70<k.brk.wins.length))
def gHt (k:Heater):Bool:=gCl k.clock||decide (70<k.tree.nodes.length)
def gCh (c:Choice):Bool:=gKh c.heap||gKt c.tourn||gHt c.heater||gKh c.hanger
def Oq (b:Nat):decide ((210:Int)<(b:Int))=decide (210<b):=bU.2 (by omega)
def Gk (b:Nat):decide ((70:Int)<(b:Int))=decide (70<b):=bU.2 (by omega)
def aaU (s:Slots):Ans D 171 [SL s] [.bool (gSl s)]:=by
 refine am ?_;unfold Va gSl;simp[jl,iS,kj,iT,EV,JY,Oq]
 grind
def aaV (a:Agenda):Ans D 107 [AG a] [.bool (gAg a)]:=by
 refine am ?_;unfold TK gAg;simp[jm,pAG,eT,km,EV,I3,Oq,phi (aaU _)]
 grind
def c19 (l:List Pt):Ans D 26 [F l] [.bool (gF l)]:=by
 refine am ?_;unfold k19 gF;simp[aW,bQ,EV,OU,Gk]
 grind
def Gl (c:Clock):Ans D 54 [CL c] [.bool (gCl c)]:=by
 refine am ?_;unfold Tn gCl;simp[dq,eV,dY,iu,lV,EV,IO,phi (c19 _),phi (aaV _)]
 grind
def aaW (b:Brk):Ans D 105 [BR b] [.bool (decide (70<b.places.length)||decide (70<b.wins.length))]:=by
 refine am ?_;unfold TI;simp[jQ,oF,ij,EV,I2,Gk]
 grind
def aaX (t:Tree):Ans D 106 [TR t] [.bool (decide (70<t.nodes.length))]:=by
 refine am ?_;unfold TJ;simp[ro,jR,EV,Gk]
def d35 (k:KHeap):∃N,den (PhiS D) N k35 [] [KH k]=some [.bool (gKh k)]:=by
 refine⟨1,?_⟩;unfold k35 gKh;simp[lX,pKH,cKH,EV,O0,Gk,phi (Gl _)]
 grind
def c36 (k:KTourn):Ans D 51 [KT k] [.bool (gKt k)]:=by
 refine am ?_;unfold k36 gKt;simp[sV,pKT,yd,EV,O1,phi (Gl _),phi (aaW _)]
 grind
def c37 (k:Heater):Ans D 52 [HT k] [.bool (gHt k)]:=by
 refine am ?_;unfold k37 gHt;simp[sW,pHT,Mp,EV,O2,phi (Gl _),phi (aaX _)]
 grind
def c7 (c:Choice):Ans D 23 [CHO c] [.bool (gCh c)]:=by
 refine am ?_;unfold k7 gCh;simp[eP,AJ,AK,AL,AM,EV,S7,phi (an (g:=50) (d35 _)),phi (c36 _),phi (c37 _),phi (an (g:=53) (d35 _))]
 grind
def Mq (a b c x y z:Int):RF.ev (.eqv [.i,.i,.i]) [.agg [.i64 a,.i64 b,.i64 c],.agg [.i64 x,.i64 y,.i64 z]]=some (.bool (decide (a=x/\ b=y/\ c=z))):=by
 have:RF.ev (.eqv [.i,.i,.i]) [.agg [.i64 a,.i64 b,.i64 c],.agg [.i64 x,.i64 y,.i64 z]]=some (.bool (decide (a=x)&&(decide (b=y)&&(decide (c=z)&& true)))):=rfl;simp_all
def aaY (p q:Held):RF.ev (.eqv [.i,.i,.i]) [HP p,HP q]=some (.bool (decide (p=q))):=by
 obtain⟨a,b,c⟩:=p;obtain⟨x,y,z⟩:=q;refine(Mq ..).trans ?_;simp_all
def aaZ (p q:Due):RF.ev (.eqv [.i,.i,.i]) [DP p,DP q]=some (.bool (decide (p=q))):=by
 obtain⟨a,b,c⟩:=p;obtain⟨x,y,z⟩:=q;refine(Mq ..).trans ?_;simp_all
def RE (p q:Nod):RF.ev (.eqv [.i,.i,.i]) [NP p,NP q]=some (.bool (decide (p=q))):=by
 obtain⟨a,b,c⟩:=p;obtain⟨x,y,z⟩:=q;refine(Mq ..).trans ?_;simp_all
def RG (a b x y:Int):RF.ev (.eqv [.i,.i]) [.agg [.i64 a,.i64 b],.agg [.i64 x,.i64 y]]=some (.bool (decide (a=x/\ b=y))):=by
 have:RF.ev (.eqv [.i,.i]) [.agg [.i64 a,.i64 b],.agg [.i64 x,.i64 y]]=some (.bool (decide (a=x)&&(decide (b=y)&& true))):=rfl;simp_all
def sX (p q:Crt):RF.ev (.eqv [.i,.i]) [CP p,CP q]=some (.bool (decide (p=q))):=by
 obtain⟨a,b⟩:=p;obtain⟨x,y⟩:=q;refine(RG ..).trans ?_;simp_all
def AN (p q:Rt):RF.ev (.eqv [.i,.i]) [R p,R q]=some (.bool (decide (p=q))):=by
 obtain⟨a,b⟩:=p;obtain⟨x,y⟩:=q;refine(RG ..).trans ?_;simp_all
def RH (p q:Evt):RF.ev (.eqv [.i,.i,.i,.i,.i]) [EP p,EP q]=some (.bool (decide (p=q))):=by
 obtain⟨⟨a,b⟩,c,d,e⟩:=p;obtain⟨⟨x,y⟩,z,u,v⟩:=q;have:RF.ev (.eqv [.i,.i,.i,.i,.i]) [EP ⟨⟨a,b⟩,c,⟨d,e⟩⟩,EP ⟨⟨x,y⟩,z,⟨u,v⟩⟩]=some (.bool (decide (a=x)&&(decide (b=y)&&(decide (c=z)&&(decide (d=u)&&(decide (e=v)&& true)))))):=rfl;rw[this]
 congr 2
 grind
def aa0 {s t:Slots}(h:gSl s=false):Ans D 172 [SL s,SL t] [.bool (decide (s=t))]:=by
 unfold gSl at h;simp at h;refine am ?_;unfold Vb;simp only[au,jl,iS,kj,iT,EV,JZ,phi (Ml (l:=s.uses) (k:=t.uses) (by omega)),phi (aaQ (l:=s.used) (k:=t.used) (by omega)),phi (Ml (l:=s.free) (k:=t.free) (by omega)),aa];obtain⟨a,b,c⟩:=s;obtain⟨x,y,z⟩:=t;by_cases h1:a=x<;>by_cases h2:b=y<;>simp[h1,h2]
def aa1 {s t:Agenda}(h:gAg s=false):Ans D 112 [AG s,AG t] [.bool (decide (s=t))]:=by
 unfold gAg at h;simp only[cR,ai] at h;refine an ⟨1001,?_⟩;unfold TP;obtain⟨a,b,c⟩:=s;obtain⟨x,y,z⟩:=t;simp only[au,jm,pAG,eT,km,EV,aj,phi (aa0 h.1.1),phi (Ml (l:=c) (k:=z) (show c.length<=1000 by have:=h.2;simp only at this;omega)),aA,ai]
 by_cases h1:a=x
 .by_cases h2:c=z
  .subst h1;subst h2;simp only[cH,ax];by_cases h3:b.length=y.length
   .rw[ac (by omega)];refine(mH (l:=b) (k:=y) h3 (b9 (l:=b.zip y) (st:=λi=>[.i64 (i:Int)]) (λi x self hx _=>?_) (λ_ self=>?_) (by have:=h.1.2;rw[dJ h3];simp only at this;omega))).trans ?_
    .obtain⟨hp,hq⟩:=fU hx;unfold BS;simp only[au,eT,aO hp (jk _),aL hp,aO hq (jk _),aL hq,k9,RH,EV,aj,aa,aA,ai,bc (aJ hp),up1 (show i<1000000000 by have:=aJ hp;have:=h.1.2;simp only at this;omega)]
     grind
    .rw[dJ h3];unfold BS;simp only[au,eT,EV,aj,aa,bo,I7]
    .simp[Agenda.mk.injEq]
   .rw[ad (by omega),ah (λe=>h3 (by cases e;rfl))]
  .rw[ac (by simp[h1]),ad h2,ah (λe=>h2 (by cases e;rfl))]
 .rw[ad h1,ah (λe=>h1 (by cases e;rfl))]
def aa2 {s t:Certs}(h:s.list.length<=1000):Ans D 111 [CS s,CS t] [.bool (decide (s=t))]:=by
 refine an ⟨1001,?_⟩;unfold TO;obtain⟨a,b⟩:=s;obtain⟨x,y⟩:=t;simp only at h;simp only[au,ii,lU,eb,EV,aj,aA,ai];by_cases h1:a=x
 .subst h1;simp only[cH,ax];by_cases h3:b.length=y.length
  .rw[ac (by omega)];refine(mH (l:=b) (k:=y) h3 (b9 (l:=b.zip y) (st:=λi=>[.i64 (i:Int)]) (λi x self hx _=>?_) (λ_ self=>?_) (by rw[dJ h3];omega))).trans ?_
   .obtain⟨hp,hq⟩:=fU hx;unfold BQ;simp only[au,eb,aO hp (eS _),aL hp,aO hq (eS _),aL hq,ji,aaY,EV,aj,aa,aA,ai,bc (aJ hp),up1 (show i<1000000000 by have:=aJ hp;omega)]
    grind
   .rw[dJ h3];unfold BQ;simp only[au,eb,EV,aj,aa,bo,I6]
   .simp_all
  .rw[ad (by omega),ah (λe=>h3 (by cases e;rfl))]
 .simp_all
structure gW (s:Clock):Prop where
 certs:s.certs.list.length<=1000
 due:s.due.length<=1000
 pts:s.pts.length<=1000
 ag:gAg s.agenda=false
def zW {s:Clock}(h:gCl s=false):gW s:=by
 unfold gCl gF at h;simp at h;obtain⟨⟨⟨h1,h2⟩,h3,h3'⟩,h4⟩:=h;exact⟨by omega,by omega,by omega,h4⟩
def zX {s t:Clock}(h:gW s):Ans D 60 [CL s,CL t] [.bool (decide (s=t))]:=by
 obtain⟨h1,h2,h3,h4⟩:=h;obtain⟨a,b,c,d,e⟩:=s;obtain⟨x,y,z,u,v⟩:=t;simp only at h1 h2 h3 h4;refine an ⟨1001,?_⟩;unfold Tp;simp only[au,dq,eU,iu,nD,lV,dY,AN,EV,aj,aA,ai,phi (c28 (l:=b) (k:=y) (by omega)),phi (aa2 (s:=c) (t:=z) (by omega)),phi (aa1 (t:=u) h4)];by_cases e1:a=x
 .by_cases e2:b=y
  .by_cases e3:c=z
   .by_cases e4:d=u
    .subst e1;subst e2;subst e3;subst e4;simp only[cH,ax];by_cases e5:e.length=v.length
     .rw[ac (by omega)];refine(mH (l:=e) (k:=v) e5 (b9 (l:=e.zip v) (st:=λi=>[.i64 (i:Int)]) (λi x self hx _=>?_) (λ_ self=>?_) (by rw[dJ e5];omega))).trans ?_
      .obtain⟨hp,hq⟩:=fU hx;unfold BB;simp only[au,dY,aO hp (vN _),aL hp,aO hq (vN _),aL hq,aaT,aaZ,EV,aj,aa,aA,ai,bc (aJ hp),up1 (show i<1000000000 by have:=aJ hp;omega)]
       grind
      .rw[dJ e5];unfold BB;simp only[au,dY,EV,aj,aa,bo,IR]
      .simp[Clock.mk.injEq]
     .rw[ad (by omega),ah (λh=>e5 (by cases h;rfl))]
    .rw[ac (by simp[e1]),ac (by simp[e2]),ac (by simp[e3]),ad e4,ah (λh=>e4 (by cases h;rfl))]
   .rw[ac (by simp[e1]),ac (by simp[e2]),ad e3,ah (λh=>e3 (by cases h;rfl))]
  .rw[ac (by simp[e1]),ad e2,ah (λh=>e2 (by cases h;rfl))]
 .rw[ad e1,ah (λh=>e1 (by cases h;rfl))]
def aa3 {s t:Brk}(h:s.places.length<=1000)(k:s.wins.length<=1000):Ans D 109 [BR s,BR t] [.bool (decide (s=t))]:=by
 refine am ?_;unfold TM;obtain⟨a,b⟩:=s;obtain⟨x,y⟩:=t;simp[jQ,oF,ij,EV,I4,phi (vJ (l:=a) (k:=x) h),phi (vJ (l:=b) (k:=y) k)];by_cases e1:a=x<;>by_cases e2:b=y<;>simp[e1]
def RI {s t:Tree}(h:s.nodes.length<=1000):Ans D 110 [TR s,TR t] [.bool (decide (s=t))]:=by
 refine an ⟨1001,?_⟩;unfold TN;obtain⟨a,b⟩:=s;obtain⟨x,y⟩:=t;simp only at h;simp only[au,ro,RD,jR,EV,aj,aA,ai];by_cases h1:a=x
 .subst h1;simp only[cH,ax];by_cases h3:b.length=y.length
  .rw[ac (by omega)];refine(mH (l:=b) (k:=y) h3 (b9 (l:=b.zip y) (st:=λi=>[.i64 (i:Int)]) (λi x self hx _=>?_) (λ_ self=>?_) (by rw[dJ h3];omega))).trans ?_
   .obtain⟨hp,hq⟩:=fU hx;unfold BP;simp only[au,jR,aO hp (lb _),aL hp,aO hq (lb _),aL hq,AI,RE,EV,aj,aa,aA,ai,bc (aJ hp),up1 (show i<1000000000 by have:=aJ hp;omega)]
    grind
   .rw[dJ h3];unfold BP;simp only[au,jR,EV,aj,aa,bo,I5]
   .simp[Tree.mk.injEq]
  .rw[ad (by omega),ah (λe=>h3 (by cases e;rfl))]
 .rw[ad h1,ah (λe=>h1 (by cases e;rfl))]
def d51 {s t:KHeap}(h:gW s.clock/\ s.heap.length<=1000):∃N,den (PhiS D) N k51 [] [KH s,KH t]=some [.bool (decide (s=t))]:=by
 unfold k51;obtain⟨a,b⟩:=s;obtain⟨x,y⟩:=t;simp only at h;simp[lX,pKH,cKH,EV,O3,phi (zX (t:=x) h.1),phi (vJ (l:=b) (k:=y) (by omega))];by_cases e1:a=x<;>by_cases e2:b=y<;>simp[e1]
def Or {s:KHeap}(h:gKh s=false):gW s.clock/\ s.heap.length<=1000:=by
 unfold gKh at h;simp at h;exact⟨zW h.1,by omega⟩
def RJ {s t:KHeap}(h:gW s.clock/\ s.heap.length<=1000):Ans D 56 [KH s,KH t] [.bool (decide (s=t))]:=an (d51 h)
def RK {s t:KHeap}(h:gW s.clock/\ s.heap.length<=1000):Ans D 59 [KH s,KH t] [.bool (decide (s=t))]:=an (d51 h)
def c51 {s t:KHeap}(h:gKh s=false):Ans D 56 [KH s,KH t] [.bool (decide (s=t))]:=RJ (Or h)
def c54 {s t:KHeap}(h:gKh s=false):Ans D 59 [KH s,KH t] [.bool (decide (s=t))]:=RK (Or h)
def RL {s t:KTourn}(h:gW s.clock/\ s.brk.places.length<=1000/\ s.brk.wins.length<=1000):Ans D 57 [KT s,KT t] [.bool (decide (s=t))]:=by
 refine am ?_;unfold k52;obtain⟨a,b⟩:=s;obtain⟨x,y⟩:=t;simp only at h;simp[sV,pKT,yd,EV,O4,phi (zX (t:=x) h.1),phi (aa3 (s:=b) (t:=y) (by omega) (by omega))];by_cases e1:a=x<;>by_cases e2:b=y<;>simp[e1]
def RM {s t:Heater}(h:gW s.clock/\ s.tree.nodes.length<=1000):Ans D 58 [HT s,HT t] [.bool (decide (s=t))]:=by
 refine am ?_;unfold k53;obtain⟨a,b⟩:=s;obtain⟨x,y⟩:=t;simp only at h;simp[sW,pHT,Mp,EV,O5,phi (zX (t:=x) h.1),phi (RI (s:=b) (t:=y) (by omega))];by_cases e1:a=x<;>by_cases e2:b=y<;>simp[e1]
def c52 {s t:KTourn}(h:gKt s=false):Ans D 57 [KT s,KT t] [.bool (decide (s=t))]:=by
 unfold gKt at h;simp at h;exact RL ⟨zW h.1,by omega,by omega⟩
def c53 {s t:Heater}(h:gHt s=false):Ans D 58 [HT s,HT t] [.bool (decide (s=t))]:=by
 unfold gHt at h;simp at h;exact RM ⟨zW h.1,by omega⟩
end Go.Proofs.YtndgdhbpojakpaaGreat
namespace Go.Sym
open Go.Sym
def dU {α β:Type}(g:β->α->Option β):β->List α->Option β
 |x,[]=>some x
 |x,a::l=>match g x a with
  |some y=>dU g y l
  |none=>none
section
variable {Φ:PhT}{N:Nat}{b:K}{J:List JT}{e:List PV}{α β:Type}{l:List α}
def rq {g:β->α->Option β}{I:β->Prop}{S:β->Nat->List PV}{fin:β->Option (List PV)}{r:Option (List PV)}{x:β}(h0:I x)(hi:∀a acc acc',I acc->g acc a=some acc'->I acc')(hs:∀i a acc self,l[i]?=some a->I acc->den Φ N b (J++[self]) (e++S acc i)=match g acc a with|some acc'=>self (S acc' (i+1))|none=>r)
  (hf:∀acc self,I acc->dU g x l=some acc->den Φ N b (J++[self]) (e++S acc l.length)=fin acc) {m:Nat} (hm:l.length<m):denW Φ N b J e m (S x 0)=match dU g x l with|some acc=>fin acc|none=>r:=by
 have:∀(k:List α) i m acc,l.drop i=k->i<=l.length->k.length<m->I acc->dU g x l=dU g acc k->denW Φ N b J e m (S acc i)=match dU g acc k with|some acc=>fin acc|none=>r:=by
  intro k;induction k with
  |nil=>
   intro i m acc h hi' hm hI hx;obtain⟨m,rfl⟩:∃m',m=m'+1:=⟨m-1,by omega⟩;have:=ja h hi';have hil:i=l.length:=by simpa using this
   rw[bF,hil];exact hf _ _ hI hx
  |cons a k ih=>
   intro i m acc h hi' hm hI hx;obtain⟨m,rfl⟩:∃m',m=m'+1:=⟨m-1,by omega⟩;obtain⟨h1,h2⟩:=uA h;have:=ja h hi';simp only[bi] at hm this;rw[bF,hs i a acc _ h1 hI];have hu:dU g acc (a::k)=match g acc a with|some y=>dU g y k|none=>none:=rfl
   rw[hu] at hx|-;cases hg:g acc a with
   |none=>rfl
   |some acc'=>
    rw[hg] at hx;exact ih (i+1) m _ h2 (by omega) (by omega) (hi a acc acc' hI hg) hx
 exact this l 0 m x rfl (by omega) hm h0 rfl
end
end Go.Sym
namespace Go.Proofs.YtndgdhbpojakpaaGreat
open Go.Sym Bnd
set_option maxRecDepth 100000
def lf:∀(xs:List Int) (l:List Bool),lI l xs=dU (λl x=>if 0<=x/\ x<l.length/\ l[x.toNat]?=some false then some (l.set x.toNat true) else none) l xs
 |[],l=>rfl
 |x::xs,l=>by
  unfold lI dU;by_cases h:0<=x/\ x<l.length/\ l[x.toNat]?=some false
  .rw[ad h,ad h];exact lf xs _
  .rw[ac h,ac h]
def Gm {l:List Bool}{i:Nat}(h:i<l.length):RF.ev (.set 0) [sl B1 l,.v (.int .i64 (i:Int)),.v (.bool true)]=some (sl B1 (l.set i true)):=by
 rw[xW,ad (by omega),aG,aT,ak h];exact aR (λx=>some (PV.sl x)) (px (f:=B1) (l:=l) (i:=i) (a:=true)).symm
def ixM {i n:Nat}(h:i<n):RF.ev .ix [.v (.int .i64 (i:Int)),.v (.int .i64 (n:Int))]=some (.i64 (i:Int)):=by
 rw[YP,ad (by omega)]
def qf {x:Int}(h:0<=x):∃n:Nat,x=(n:Int):=⟨x.toNat,by omega⟩
def bbE (a b:Bool):RF.ev (.bbin .eql) [.v (.bool a),.v (.bool b)]=some (.v (.bool (a==b))):=rfl
open Classical in
def aa4 (s:Slots)(hf:s.free.length<=1000):Ans D 229 [SL s] [.i64 (okE (decide s.okR))]:=by
 refine an ⟨1001,?_⟩;unfold Wf;simp only[au,jl,iS,kj,iT,EV,aj,aa,aA,ai];have no:∀h:¬s.okR,(some [PV.v (.int .i64 8)]:Option (List PV))=some [.i64 (okE (decide s.okR))]:=λh=>by rw[ah h];rfl
 by_cases h1:s.uses.length<1
 .rw[ad (by omega)];exact no (λh=>by have:=h.1;omega)
 .rw[ac (by omega)];by_cases h2:200<s.uses.length
  .rw[ad (by omega)];exact no (λh=>by have:=h.2.1;omega)
  .rw[ac (by omega)];by_cases h3:s.used.length=s.uses.length
   .rw[ac (by omega)];by_cases h4:s.uses.length<s.free.length
    .rw[ad (by omega)];exact no (λh=>by have:=h.2.2.2.1;omega)
    .rw[ac (by omega)];have hrep:RF.ev (.rep [.v (.bool false)] 1) [.v (.int .i64 (s.uses.length:Int)),.v (.int .i64 (s.uses.length:Int))]=some (sl B1 (List.replicate s.uses.length false)):=by
      rw[HW,ad ⟨by omega,by omega,by omega,by omega⟩,aG];show _=some (PV.sl ((List.replicate s.uses.length false).map B1))
      rw[nq];rfl
     simp only[hrep,nc,EL,HZ,au,EV,aj,aI];refine(rq (l:=s.free) (g:=λl x=>if 0<=x/\ x<l.length/\ l[x.toNat]?=some false then some (l.set x.toNat true) else none) (I:=λl=>l.length=s.uses.length) (S:=λl i=>[sl B1 l,.i64 (i:Int)]) (r:=some [.i64 8])
      (fin:=λ_=>some [.i64 (okE (decide s.okR))]) (x:=List.replicate s.uses.length false) (by simp) (λa acc acc' hI hg=>?_) (λi x acc self hx hI=>?_) (λacc self hI hm=>?_) (by omega)).trans ?_
     .split at hg
      .cases hg;simpa using hI
      .cases hg
     .unfold Dk;have hi:=aJ hx;simp only[au,iT,aO hx (bO _),aL hx,cg,EV,aj,aa,bc hi];by_cases c1:x<0
      .rw[ad c1,ac (by omega)]
      .rw[ac c1];by_cases c2:(s.uses.length:Int)<=x
       .rw[ad c2,ac (by rw[hI];omega)]
       .rw[ac c2];obtain⟨n,rfl⟩:=qf (show 0<=x by omega)
        obtain⟨b,hb⟩:∃b,acc[n]?=some b:=⟨acc[n]'(by omega),ak _⟩;simp only[au,iT,aO hx (bO _),aL hx,cg,ixM (show n<s.uses.length by omega),aL hb,rk,Gm (show n<acc.length by omega),EV,up1 (show i<1000000000 by omega)]
        cases b with
        |true=>rw[ad rfl,ac (by rw[aG,hb];simp)]
        |false=>rw[ac (by simp),ad ⟨by omega,by omega,by rw[aG];exact hb⟩,aG]
     .unfold Dk;simp only[au,iT,EV,aj,aa,bo,KL];rw[<-lf] at hm;have hlist:(List.range s.uses.length).length=s.uses.length:=ig;refine(ef (n:=s.uses.length) (P:=λi=>∀(u:Int) (b c:Bool),s.uses[i]?=some u->s.used[i]?=some b->acc[i]?=some c->0<=u/\ u<=1000000/\ b≠c/\¬(b=true/\ u<1)) (st:=λi=>[.i64 (i:Int)]) (r:=some [.i64 8]) (fin:=some [.i64 0]) (λi self hi _=>?_) (λ_ self=>?_) (by omega)).trans ?_
      .obtain⟨u,hu⟩:∃u,s.uses[i]?=some u:=⟨s.uses[i],ak _⟩;obtain⟨b,hb⟩:∃b,s.used[i]?=some b:=⟨s.used[i]'(by omega),ak _⟩;obtain⟨c,hc⟩:∃c,acc[i]?=some c:=⟨acc[i]'(by omega),ak _⟩;have hP:(∀(u':Int) (b' c':Bool),s.uses[i]?=some u'->s.used[i]?=some b'->acc[i]?=some c'->0<=u'/\ u'<=1000000/\ b'≠c'/\¬(b'=true/\ u'<1))↔(0<=u/\ u<=1000000/\ b≠c/\¬(b=true/\ u<1)):=
        ⟨λh=>h u b c hu hb hc,λh u' b' c' h1 h2 h3=>by rw[hu] at h1;rw[hb] at h2;rw[hc] at h3;cases h1;cases h2;cases h3;exact h⟩
       unfold Dj;simp only[hP,au,iS,kj,aO hu (bO _),aL hu,cg,aO hb (qe _),aL hb,rk,ixM hi,aL hc,bbE,EV,aa,bc hi,KK,up1 (show i<1000000000 by omega)]
       by_cases c1:u<0
       .simp only[ad c1,cG,ay];rw[ac (λh=>by omega)]
       .simp only[ac c1];by_cases c2:1000000<u
        .simp only[ad c2,cG,ay];rw[ac (λh=>by omega)]
        .simp only[ac c2];cases b<;>cases c<;>simp only[eH,aw,ay,ax,cG,ne_eq,cH,ey,fS,eN,dS,gz,aa,show(true==false)=false from rfl,show(false==true)=false from rfl,reduceCtorEq]
         .rw[ad (by omega)]
         .by_cases c3:u<1
          .rw[ad c3,ac (λh=>by omega)]
          .rw[ac c3,ad (by omega)]
      .unfold Dj;simp only[EV,aa,bo,KJ]
      .have:(∀i,i<s.uses.length->∀(u:Int) (b c:Bool),s.uses[i]?=some u->s.used[i]?=some b->acc[i]?=some c->0<=u/\ u<=1000000/\ b≠c/\¬(b=true/\ u<1))↔s.okR:=by
        unfold Slots.okR;constructor
        .intro h;exact⟨by omega,by omega,h3,by omega,acc,hm,λi u b c hu hb hc=>h i (aJ hu) u b c hu hb hc⟩
        .rintro⟨_,_,_,_,l,hl,h⟩ i hi u b c hu hb hc;rw[hm] at hl;cases hl;exact h i u b c hu hb hc
       by_cases hr:s.okR
       .rw[ad (this.2 hr),aq hr];rfl
       .rw[ac (λh=>hr (this.1 h)),ah hr];rfl
     .rw[<-lf];cases hm:lI (List.replicate s.uses.length false) s.free with
      |some l=>rfl
      |none=>exact no (λh=>by obtain⟨_,_,_,_,l,hl,_⟩:=h;rw[hm] at hl;cases hl)
   .rw[ad (by omega)];exact no (λh=>h3 h.2.2.1)
def evLess (x y:Evt):Bool:=decide (sgn (crs x.time y.time)<0)||(decide (sgn (crs x.time y.time)=0)&& decide (x.number<y.number))
def ye (e:Evt):RF.ev (.shape 5) [EP e]=some (EP e):=rfl
def pEP (e:Evt):RF.ev (.part 0 2) [EP e]=some (R e.time):=rfl
def sY (e:Evt):RF.ev (.cell 2) [EP e]=some (.i64 e.number):=rfl
def RN {x y:Evt}(hx:bg x.time)(hy:bg y.time):Ans D 231 [EP x,EP y] [.bool (evLess x y)]:=by
 refine am ?_;unfold Wh evLess;simp[ye,pEP,sY,EV,phi (aaE hx hy),KN]
 grind
def HD (h:Hnd):PV:= .agg [.i64 h.index,.i64 h.use]
def vO (h:Hnd):RF.ev (.shape 2) [HD h]=some (HD h):=rfl
def vP (h:Hnd):RF.ev (.cell 0) [HD h]=some (.i64 h.index):=rfl
def RP (h:Hnd):RF.ev (.cell 1) [HD h]=some (.i64 h.use):=rfl
def Ot (e:Evt):cq 3 2 (cx e)=some (HD e.hnd):=rfl
def Ou (e:Evt):cq 3 0 (cx e)=some (.i64 e.hnd.index):=rfl
def Zd (e:Evt):cq 2 0 (cx e)=some (.i64 e.number):=rfl
def fK (s:Slots)(h:Hnd):Prop:=0<=h.index/\ s.used[h.index.toNat]?=some true/\ s.uses[h.index.toNat]?=some h.use
open Classical in
def Mr {s:Slots}(hs:s.used.length=s.uses.length)(h:Hnd):Ans D 233 [SL s,HD h] [.bool (decide (fK s h))]:=by
 refine am ?_;unfold Wj;simp only[au,jl,vO,vP,RP,iS,kj,EV,aj,aa,KO,be];by_cases h1:0<=h.index
 .rw[ad h1];obtain⟨n,hn⟩:=qf h1;obtain⟨ix,us⟩:=h;simp only at hn;subst hn;by_cases h2:n<s.uses.length
  .obtain⟨u,hu⟩:∃u,s.uses[n]?=some u:=⟨s.uses[n],ak _⟩;obtain⟨b,hb⟩:∃b,s.used[n]?=some b:=⟨s.used[n]'(by omega),ak _⟩;simp only[bc h2,au,vP,RP,iS,kj,aO hu (bO _),aL hu,cg,aO hb (qe _),aL hb,rk,EV];have:decide (fK s ⟨(n:Int),us⟩)=(b&& decide (u=us)):=by rw[dD];simp[fK,hu,hb]
   grind
  .rw[ac (show¬((n:Int)<(s.uses.length:Int)) by omega),ah (λhh=>by
    have h3:=(aC.1 hh.2.2).1;exact h2 h3)]
 .rw[ac h1,ah (λhh=>h1 hh.1)]
def mX (a:Agenda):Prop:=a.wher.length=a.slots.uses.length/\ a.heap.length+a.slots.free.length=a.slots.uses.length/\
 ∀(i:Nat) (b:Bool) (w u:Int),a.slots.used[i]?=some b->a.wher[i]?=some w->a.slots.uses[i]?=some u->if b=true then 0<=w/\∃e,a.heap[w.toNat]?=some e/\ e.hnd=⟨i,u⟩ else w= -1
open Classical in
def aa5 {a:Agenda}(hs:a.slots.used.length=a.slots.uses.length)(hl:a.slots.uses.length<=1000)(hf:a.slots.free.length<=1000):Ans D 230 [AG a] [.bool (decide (mX a))]:=by
 have cAG0:RF.ev (.cell 0) [AG a]=some (sl I1 a.slots.uses):=rfl;have cAG1:RF.ev (.cell 1) [AG a]=some (sl B1 a.slots.used):=rfl;have cAG2:RF.ev (.cell 2) [AG a]=some (sl I1 a.slots.free):=rfl;refine an ⟨1001,?_⟩;unfold Wg;simp only[au,jm,cAG0,cAG2,eT,km,EV,aj,aa,aA,ai,cy (show-9223372036854775808<=(a.slots.uses.length:Int)-(a.slots.free.length:Int) by omega) (by omega)]
 by_cases h1:a.wher.length=a.slots.uses.length
 .rw[ac (by omega)];by_cases h2:a.heap.length+a.slots.free.length=a.slots.uses.length
  .rw[ac (by omega)];refine(ef (n:=a.slots.uses.length) (P:=λi=>∀(b:Bool) (w u:Int),a.slots.used[i]?=some b->a.wher[i]?=some w->a.slots.uses[i]?=some u->if b=true then 0<=w/\∃e,a.heap[w.toNat]?=some e/\ e.hnd=⟨i,u⟩ else w= -1) (st:=λi=>[.i64 (i:Int)]) (r:=some [.bool false]) (fin:=some [.bool true]) (λi self hi _=>?_) (λ_ self=>?_) (by omega)).trans ?_
   .obtain⟨u,hu⟩:∃u,a.slots.uses[i]?=some u:=⟨a.slots.uses[i],ak _⟩;obtain⟨b,hb⟩:∃b,a.slots.used[i]?=some b:=⟨a.slots.used[i]'(by omega),ak _⟩;obtain⟨w,hw⟩:∃w,a.wher[i]?=some w:=⟨a.wher[i]'(by omega),ak _⟩;have hP:(∀(b':Bool) (w' u':Int),a.slots.used[i]?=some b'->a.wher[i]?=some w'->a.slots.uses[i]?=some u'->if b'=true then 0<=w'/\∃e,a.heap[w'.toNat]?=some e/\ e.hnd=⟨i,u'⟩ else w'= -1)↔(if b=true then 0<=w/\∃e,a.heap[w.toNat]?=some e/\ e.hnd=⟨i,u⟩ else w= -1):=
     ⟨λh=>h b w u hb hw hu,λh b' w' u' h1 h2 h3=>by rw[hu] at h3;rw[hb] at h1;rw[hw] at h2;cases h1;cases h2;cases h3;exact h⟩
    unfold Dm;simp only[hP,au,cAG1,eT,km,pAG,aO hb (qe _),aL hb,rk,aO hw (bO _),aL hw,cg,EV,aj,aa,bc hi,Dl,up1 (show i<1000000000 by omega),aA,ai]
    cases b with
    |false=>
     simp only[aw,ax,cG,ay];by_cases c1:w= -1
     .rw[ac (by simp[c1]),ad c1]
     .rw[ad c1,ac c1]
    |true=>
     simp only[nh,ax,cG,ay];by_cases c1:w<0
     .rw[ad c1,ac (λh=>by omega)]
     .rw[ac c1];obtain⟨n,rfl⟩:=qf (show 0<=w by omega)
      by_cases c2:n<a.heap.length
      .obtain⟨e,he⟩:∃e,a.heap[n]?=some e:=⟨a.heap[n],ak _⟩;rw[ac (by omega)];simp only[au,eT,pAG,aO he (jk _),aL he,Ou,Ot,phi (Mr hs _),EV,aA,ai,aG,he,bS,exists_eq_left',Dl,up1 (show i<1000000000 by omega)]
       by_cases c3:e.hnd.index=(i:Int)
       .rw[ac (by simp[c3])];have hlive:fK a.slots e.hnd↔e.hnd=⟨i,u⟩:=by
         unfold fK;rw[c3,aG,hb,hu];generalize e.hnd=q at c3|-;obtain⟨x,y⟩:=q;simp only at c3;subst c3;simp only[bS,Hnd.mk.injEq,dS];exact⟨λh=>h.2.symm,λh=>⟨by omega,h.symm⟩⟩
        by_cases c4:e.hnd=⟨i,u⟩
        .rw[ac (by simp[hlive.2 c4]),ad ⟨by omega,c4⟩]
        .rw[ad (λh=>c4 (hlive.1 h)),ac (λh=>c4 h.2)]
       .rw[ad c3,ac (λh=>c3 (by rw[h.2]))]
      .rw[ad (by omega),ac (λh=>by
        obtain⟨_,e,he,_⟩:=h;rw[aG] at he;exact c2 (aJ he))]
   .unfold Dm;simp only[EV,aa,bo,KM]
   .have:(∀i,i<a.slots.uses.length->∀(b:Bool) (w u:Int),a.slots.used[i]?=some b->a.wher[i]?=some w->a.slots.uses[i]?=some u->if b=true then 0<=w/\∃e,a.heap[w.toNat]?=some e/\ e.hnd=⟨i,u⟩ else w= -1)↔mX a:=
     ⟨λh=>⟨h1,h2,λi b w u hb hw hu=>h i (aJ hu) b w u hb hw hu⟩,λh i _=>h.2.2 i⟩
    by_cases hr:mX a
    .rw[ad (this.2 hr),aq hr]
    .rw[ac (λh=>hr (this.1 h)),ah hr]
  .rw[ad (by omega),ah (λh=>h2 h.2.1)]
 .rw[ad (by omega),ah (λh=>h1 h.1)]
def nE (e:Evt):Prop:=rok e.time=true/\ 0<=e.number/\ e.number<=1000000
def gg (a:Agenda):Prop:=a.slots.okR/\ mX a/\(∀e∈a.heap,nE e)/\(a.heap.map (·.number)).Nodup/\∀(i:Nat) (e p:Evt),a.heap[i+1]?=some e->a.heap[i/2]?=some p->evLess e p=false
def Gn {i:Nat}(h:i<1000000):cQ .quo .i64 (IntKind.i64.wrap (((i+1:Nat):Int)-1)) .i64 2=some (.v (.int .i64 ((i/2:Nat):Int))):=by
 rw[rh (by omega),HX,ac (by decide),iK (by omega),cy (by omega) (by omega)];rfl
open Classical in
def Ms {a:Agenda}(hl:a.heap.length<=1000)(hf:a.slots.free.length<=1000)(h64:∀e∈a.heap,bg e.time):Ans D 166 [AG a] [.i64 (okE (decide (gg a)))]:=by
 refine an ⟨1001,?_⟩;unfold U6;have no:∀h:¬gg a,(some [PV.v (.int .i64 8)]:Option (List PV))=some [.i64 (okE (decide (gg a)))]:=λh=>by rw[ah h];rfl
 simp only[au,jm,pAG,EV,phi (aa4 a.slots hf),mT,aa];by_cases h1:a.slots.okR
 .have h1':=h1;obtain⟨g1,g2,g3,g4,_⟩:=h1';rw[ad h1];simp only[EV,phi (aa5 g3 (by omega) hf),aA,ai];by_cases h2:mX a
  .rw[ac (by simp[h2])];refine(ef (n:=a.heap.length) (P:=λi=>∀e,a.heap[i]?=some e->nE e/\∀k,k<i->∀e',a.heap[k]?=some e'->e'.number≠e.number) (st:=λi=>[.i64 (i:Int)]) (r:=some [.i64 8]) (fin:=some [.i64 (okE (decide (∀(i:Nat) (e p:Evt),a.heap[i+1]?=some e->a.heap[i/2]?=some p->evLess e p=false)))]) (λi self hi _=>?_) (λ_ self=>?_) (by omega)).trans ?_
   .obtain⟨e,he⟩:∃e,a.heap[i]?=some e:=⟨a.heap[i],ak _⟩;have hP:(∀e',a.heap[i]?=some e'->nE e'/\∀k,k<i->∀x,a.heap[k]?=some x->x.number≠e'.number)↔(nE e/\∀k,k<i->∀x,a.heap[k]?=some x->x.number≠e.number):=
     ⟨λh=>h e he,λh e' h1=>by rw[he] at h1;cases h1;exact h⟩
    unfold CJ;simp only[hP,au,eT,aO he (jk _),aL he,k9,pEP,sY,phi (nA (h64 e (aB he))),mT,EV,aj,aa,bc hi];cases c1:rok e.time with
    |false=>
     simp only[aw,ax];rw[ac (λh=>by rw[h.1.1] at c1;cases c1)]
    |true=>
     simp only[ay];by_cases c2:e.number<0
     .rw[ad c2,ac (λh=>by have:=h.1.2;omega)]
     .rw[ac c2];by_cases c3:1000000<e.number
      .rw[ad c3,ac (λh=>by have:=h.1.2;omega)]
      .rw[ac c3];refine(ef (n:=i) (P:=λk=>∀x,a.heap[k]?=some x->x.number≠e.number) (st:=λi=>[.i64 (i:Int)]) (r:=some [.i64 8]) (fin:=self [.i64 ((i+1:Nat):Int)]) (λk self' hk _=>?_) (λ_ self'=>?_) (by omega)).trans ?_
       .obtain⟨x,hx⟩:∃x,a.heap[k]?=some x:=⟨a.heap[k]'(by omega),ak _⟩;have hQ:(∀y,a.heap[k]?=some y->y.number≠e.number)↔x.number≠e.number:=⟨λh=>h x hx,λh y hy=>by rw[hx] at hy;cases hy;exact h⟩;unfold CI;simp only[hQ,au,eT,aO hx (jk _),aL hx,Zd,sY,EV,aa,bc hk,up1 (show k<1000000000 by omega)]
        by_cases c4:x.number=e.number
        .rw[ad c4,ac (by simp[c4])]
        .rw[ac c4,ad c4]
       .unfold CI;simp only[EV,aa,bo,JW,up1 (show i<1000000000 by omega)]
       .by_cases c5:∀k,k<i->∀x,a.heap[k]?=some x->x.number≠e.number
        .rw[ad c5,ad ⟨⟨c1,by omega,by omega⟩,c5⟩]
        .rw[ac c5,ac (λh=>c5 h.2)]
   .unfold CJ;simp only[au,eT,EV,aj,aa,bo,JV];refine(ef (n:=a.heap.length-1) (P:=λi=>∀e p,a.heap[i+1]?=some e->a.heap[i/2]?=some p->evLess e p=false) (st:=λi=>[.i64 ((i+1:Nat):Int)]) (r:=some [.i64 8]) (fin:=some [.i64 0]) (λi self hi _=>?_) (λ_ self=>?_) (by omega)).trans ?_
    .obtain⟨e,he⟩:∃e,a.heap[i+1]?=some e:=⟨a.heap[i+1],ak _⟩;obtain⟨p,hp⟩:∃p,a.heap[i/2]?=some p:=⟨a.heap[i/2]'(by omega),ak _⟩;have hQ:(∀e' p',a.heap[i+1]?=some e'->a.heap[i/2]?=some p'->evLess e' p'=false)↔evLess e p=false:=⟨λh=>h e p he hp,λh e' p' h1 h2=>by rw[he] at h1;rw[hp] at h2;cases h1;cases h2;exact h⟩;unfold CH;simp only[hQ,au,eT,aO he (jk _),aL he,k9,aO hp (jk _),aL hp,Gn (show i<1000000 by omega),phi (RN (h64 e (aB he)) (h64 p (aB hp))),jM,EV,aj,aa,bc (aJ he),up1 (show i+1<1000000000 by omega)]
     cases evLess e p<;>simp
    .unfold CH;simp only[au,eT,EV,aj,aa,JU];rw[ac (by omega)]
    .have:(∀i,i<a.heap.length-1->∀e p,a.heap[i+1]?=some e->a.heap[i/2]?=some p->evLess e p=false)↔∀(i:Nat) (e p:Evt),a.heap[i+1]?=some e->a.heap[i/2]?=some p->evLess e p=false:=
      ⟨λh i e p he hp=>h i (by have:=aJ he;omega) e p he hp,λh i _=>h i⟩
     by_cases hr:∀(i:Nat) (e p:Evt),a.heap[i+1]?=some e->a.heap[i/2]?=some p->evLess e p=false
     .rw[ad (this.2 hr),aq hr];rfl
     .rw[ac (λh=>hr (this.1 h)),ah hr];rfl
   .have:(∀i,i<a.heap.length->∀e,a.heap[i]?=some e->nE e/\∀k,k<i->∀e',a.heap[k]?=some e'->e'.number≠e.number)↔((∀e∈a.heap,nE e)/\(a.heap.map (·.number)).Nodup):=by
     rw[mn];constructor
     .intro h;refine⟨λe he=>?_,λi j x hj hi hjx=>?_⟩
      .obtain⟨i,hi⟩:=aN.1 he;exact(h i (aJ hi) e hi).1
      .rw[aT,bz] at hi hjx;obtain⟨e,he,rfl⟩:=hi;obtain⟨e',he',h'⟩:=hjx;exact(h i (aJ he) e he).2 j hj e' he' h'
     .rintro⟨h3,h4⟩ i hi e he;refine⟨h3 e (aB he),λk hk e' he' hn=>?_⟩;exact h4 i k e.number hk (by rw[aT,he];rfl) (by rw[aT,he',bX,hn])
    by_cases hr:(∀e∈a.heap,nE e)/\(a.heap.map (·.number)).Nodup
    .rw[ad (this.2 hr)]
     congr 4
     rw[bU];exact⟨λh=>⟨h1,h2,hr.1,hr.2,h⟩,λh=>h.2.2.2.2⟩
    .rw[ac (λh=>hr (this.1 h))];exact no (λh=>hr ⟨h.2.2.1,h.2.2.2.1⟩)
  .rw[ad h2];exact no (λh=>h2 h.2.1)
 .rw[ac h1];exact no (λh=>h1 h.1)
def Crt.ok (c:Crt):Prop:=0<=c.low/\ c.low<=65535/\ 0<=c.high/\ c.high<=65535/\ c.low≠c.high
instance (c:Crt):Decidable c.ok:=by unfold Crt.ok;infer_instance
def RQ (c:Crt):Ans D 228 [CP c] [.bool (decide c.ok)]:=by
 refine am ?_;unfold We Crt.ok;simp[ki,oC,oD,EV,KI];by_cases h1:0<=c.low<;>by_cases h2:c.low<=65535<;>by_cases h3:0<=c.high<;>by_cases h4:c.high<=65535<;>simp[h1,h2,h3,h4]
def RS (c:Crt):Ans D 214 [CP c] [.bool (decide c.ok)]:=by
 have m1:RF.ev (.mm false) [.i64 c.low,.i64 c.high]=some (.i64 (min c.low c.high)):=rfl;have m2:RF.ev (.mm true) [.i64 c.low,.i64 c.high]=some (.i64 (max c.low c.high)):=rfl;refine am ?_;unfold VY Crt.ok;simp[ki,oC,oD,m1,m2,EV,Ky];by_cases h1:0<=c.low<;>by_cases h2:c.low<=65535<;>by_cases h3:0<=c.high<;>by_cases h4:c.high<=65535<;>simp[h1,h2,h3,h4,Int.le_min,Int.max_le]
def cS (c:Certs):Prop:=c.list.length<=200/\ 0<=c.next/\ c.next<=1000000/\∀(i:Nat) (h:Held),c.list[i]?=some h->h.cert.ok/\ 0<=h.number/\ h.number<c.next/\(∀g,0<i->c.list[i-1]?=some g->g.number<h.number)/\∀k,k<i->∀g,c.list[k]?=some g->g.cert≠h.cert
open Classical in
def RU (c:Certs):Ans D 164 [CS c] [.i64 (okE (decide (cS c)))]:=by
 refine an ⟨1001,?_⟩;unfold U4;have no:∀h:¬cS c,(some [PV.v (.int .i64 8)]:Option (List PV))=some [.i64 (okE (decide (cS c)))]:=λh=>by rw[ah h];rfl
 simp only[au,ii,lU,eb,EV,aj,aa];by_cases h1:200<c.list.length
 .rw[ad (by omega)];exact no (λh=>by have:=h.1;omega)
 .rw[ac (by omega)];by_cases h2:c.next<0
  .rw[ad h2];exact no (λh=>by have:=h.2.1;omega)
  .rw[ac h2];by_cases h3:1000000<c.next
   .rw[ad h3];exact no (λh=>by have:=h.2.2.1;omega)
   .rw[ac h3];refine(ef (n:=c.list.length) (P:=λi=>∀h,c.list[i]?=some h->h.cert.ok/\ 0<=h.number/\ h.number<c.next/\(∀g,0<i->c.list[i-1]?=some g->g.number<h.number)/\∀k,k<i->∀g,c.list[k]?=some g->g.cert≠h.cert) (st:=λi=>[.i64 (i:Int)]) (r:=some [.i64 8]) (fin:=some [.i64 0]) (λi self hi _=>?_) (λ_ self=>?_) (by omega)).trans ?_
    .obtain⟨h,hh⟩:∃h,c.list[i]?=some h:=⟨c.list[i],ak _⟩;have hP:(∀h',c.list[i]?=some h'->h'.cert.ok/\ 0<=h'.number/\ h'.number<c.next/\(∀g,0<i->c.list[i-1]?=some g->g.number<h'.number)/\∀k,k<i->∀g,c.list[k]?=some g->g.cert≠h'.cert)↔(h.cert.ok/\ 0<=h.number/\ h.number<c.next/\(∀g,0<i->c.list[i-1]?=some g->g.number<h.number)/\∀k,k<i->∀g,c.list[k]?=some g->g.cert≠h.cert):=
      ⟨λx=>x h hh,λx h' e=>by rw[hh] at e;cases e;exact x⟩
     have inner:∀(f:JT) (e0 e2 e3 e4 e5 e6 e7 e8 e10 e11 e12 e13 e14 e16 e17 e18 e19 e20:PV),den (PhiS D) 1001 oU [f,self] [e0,CS c,e2,e3,e4,e5,e6,e7,e8,.i64 (i:Int),e10,e11,e12,e13,e14,HP h,e16,e17,e18,e19,e20,.v (.bool false)]=if(∀k,k<i->∀g,c.list[k]?=some g->g.cert≠h.cert) then self [.i64 ((i+1:Nat):Int)] else some [.i64 8]:=λf e0 e2 e3 e4 e5 e6 e7 e8 e10 e11 e12 e13 e14 e16 e17 e18 e19 e20=>by
      unfold oU;simp only[EV,aw,ax];refine(ef (m:=1001) (n:=i) (P:=λk=>∀g,c.list[k]?=some g->g.cert≠h.cert) (st:=λi=>[.i64 (i:Int)]) (r:=some [.i64 8]) (fin:=self [.i64 ((i+1:Nat):Int)]) (λk self' hk _=>?_) (λ_ self'=>?_) (by omega)).trans ?_
      .obtain⟨g,hg⟩:∃g,c.list[k]?=some g:=⟨c.list[k]'(by omega),ak _⟩;have hQ:(∀y,c.list[k]?=some y->y.cert≠h.cert)↔g.cert≠h.cert:=⟨λx=>x g hg,λx y hy=>by rw[hg] at hy;cases hy;exact x⟩;unfold CE;simp only[hQ,au,eb,aO hg (eS _),aL hg,zV,pHP,sX,EV,aa,bc hk,up1 (show k<1000000000 by omega)]
       by_cases c4:g.cert=h.cert
       .rw[ad c4,ac (by simp[c4])]
       .rw[ac c4,ad c4]
      .unfold CE;simp only[EV,aa,bo,JR,up1 (show i<1000000000 by omega)]
      .by_cases hq:∀k,k<i->∀g,c.list[k]?=some g->g.cert≠h.cert
       .rw[ad hq,ad hq]
       .rw[ac hq,ac hq]
     unfold CF;simp only[hP,au,lU,eb,aO hh (eS _),aL hh,ji,pHP,iR,phi (RQ _),EV,aj,aa,bc hi,aA,ai,be,bA];by_cases c1:h.cert.ok
     .rw[ac (iL c1)];by_cases c2:h.number<0
      .rw[ad c2,ac (λx=>by have:=x.2.1;omega)];unfold oU;simp only[EV,cG,ay]
      .rw[ac c2];by_cases c3:c.next<=h.number
       .rw[ad c3,ac (λx=>by have:=x.2.2.1;omega)];unfold oU;simp only[EV,cG,ay]
       .rw[ac c3];cases i with
        |zero=>
         rw[ac (by omega)];refine(inner ..).trans ?_;rw[ad (λk hk=>by omega),ad ⟨c1,by omega,by omega,λg h0=>by omega,λk hk=>by omega⟩]
        |succ j=>
         obtain⟨g,hg⟩:∃g,c.list[j]?=some g:=⟨c.list[j]'(by omega),ak _⟩;rw[ad (by omega)];simp only[au,iR,rh (show j<1000000000 by omega),aO hg (eS _),aL hg,Gj,EV,be]
         by_cases c4:h.number<=g.number
         .rw[aq c4,ac (λx=>by have:=x.2.2.2.1 g (by omega) (by simpa using hg);omega)]
          unfold oU;simp only[EV,cG,ay]
         .rw[ah c4];refine(inner ..).trans ?_;by_cases c5:∀k,k<j+1->∀g,c.list[k]?=some g->g.cert≠h.cert
          .rw[ad c5,ad ⟨c1,by omega,by omega,λg' _ hg'=>by
            rw[show j+1-1=j by omega,hg] at hg';cases hg';omega,c5⟩]
          .rw[ac c5,ac (λx=>c5 x.2.2.2.2)]
     .rw[ad c1,ac (λx=>c1 x.1)];unfold oU;simp only[EV,cG,ay]
    .unfold CF;simp only[au,eb,EV,aj,aa,bo,JQ]
    .have:(∀i,i<c.list.length->∀h,c.list[i]?=some h->h.cert.ok/\ 0<=h.number/\ h.number<c.next/\(∀g,0<i->c.list[i-1]?=some g->g.number<h.number)/\∀k,k<i->∀g,c.list[k]?=some g->g.cert≠h.cert)↔cS c:=
      ⟨λh=>⟨by omega,by omega,by omega,λi x hx=>h i (aJ hx) x hx⟩,λh i _=>h.2.2.2 i⟩
     by_cases hr:cS c
     .rw[ad (this.2 hr),aq hr];rfl
     .rw[ac (λh=>hr (this.1 h)),ah hr];rfl
end Go.Proofs.YtndgdhbpojakpaaGreat
