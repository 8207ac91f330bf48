import Derived.Test.YtndgdhbpojakpaaGreatM3
import Derived.Test.YtndgdhbpojakpaaGreatP1
import Derived.Test.YtndgdhbpojakpaaGreatBcT
import Derived.Test.YtndgdhbpojakpaaGreatN1
import Derived.IntWalk
set_option linter.unusedVariables false
set_option linter.unusedSimpArgs false
set_option linter.defProp false
noncomputable section
namespace Go.Sym
open Go.Sym
section
variable {Φ:PhT}{N:Nat}{b:K}{J:List JT}{e:List PV}
def dG {n:Nat}{st:Nat->List PV}{fin:Option (List PV)}(hs:∀i self,i<n->den Φ N b (J++[self]) (e++st i)=self (st (i+1)))
  (hf:∀self,den Φ N b (J++[self]) (e++st n)=fin):∀m,n<m->denW Φ N b J e m (st 0)=fin:=by
 have:∀d i m,i+d=n->d<m->denW Φ N b J e m (st i)=fin:=by
  intro d;induction d with
  |zero=>
   intro i m h hm;obtain⟨m,rfl⟩:∃m',m=m'+1:=⟨m-1,by omega⟩;rw[bG,show i=n by omega]
   exact hf _
  |succ d ih=>
   intro i m h hm;obtain⟨m,rfl⟩:∃m',m=m'+1:=⟨m-1,by omega⟩;rw[bG,hs i _ (by omega)]
   grind
 grind
def Qi {n:Nat}{st:Nat->List PV}{P:Nat->Prop}{fin r:Option (List PV)}(hs:∀i self,i<n->(∀j,j<i->P j)->P i->den Φ N b (J++[self]) (e++st i)=self (st (i+1)))
  (hr:∀i self,i<n->(∀j,j<i->P j)->¬P i->den Φ N b (J++[self]) (e++st i)=r)
  (hf:(∀j,j<n->P j)->∀self,den Φ N b (J++[self]) (e++st n)=fin) {m:Nat} (hm:n<m):((∀j,j<n->P j)->denW Φ N b J e m (st 0)=fin)/\((¬∀j,j<n->P j)->denW Φ N b J e m (st 0)=r):=by
 have:∀d i m,i+d=n->d<m->(∀j,j<i->P j)->((∀j,j<n->P j)->denW Φ N b J e m (st i)=fin)/\((¬∀j,j<n->P j)->denW Φ N b J e m (st i)=r):=by
  intro d;induction d with
  |zero=>
   intro i m h hm hp;obtain⟨m,rfl⟩:∃m',m=m'+1:=⟨m-1,by omega⟩;have hin:i=n:=by omega
   subst hin;refine⟨λh=>?_,λh=>absurd hp h⟩;rw[bG];exact hf h _
  |succ d ih=>
   intro i m h hm hp;obtain⟨m,rfl⟩:∃m',m=m'+1:=⟨m-1,by omega⟩;rw[bG];by_cases hi:P i
   .grind
   .grind
 grind
open Classical in
def ef {n:Nat}{st:Nat->List PV}{P:Nat->Prop}{fin r:Option (List PV)}(hs:∀i self,i<n->(∀j,j<i->P j)->den Φ N b (J++[self]) (e++st i)=if P i then self (st (i+1)) else r)
  (hf:(∀j,j<n->P j)->∀self,den Φ N b (J++[self]) (e++st n)=fin) {m:Nat} (hm:n<m):denW Φ N b J e m (st 0)=if(∀j,j<n->P j) then fin else r:=by
 have:=Qi (n:=n) (st:=st) (P:=P) (fin:=fin) (r:=r) (λi self h1 h2 h3=>by rw[hs i self h1 h2,ad h3]) (λi self h1 h2 h3=>by rw[hs i self h1 h2,ac h3]) hf hm
 grind
end
end Go.Sym
namespace Go.Proofs.YtndgdhbpojakpaaGreat
open Go.Sym Bnd
set_option maxRecDepth 100000
def U (n:Nat):PV:= .v (.int .u64 (n:Int))
def phi {g:FuncId}{vs rs:List PV}(h:Ans D g vs rs):PhiS D g vs=some rs:=Y3 h
def yl {n:Int}(h:I64 n):Ans D 92 [.i64 n] [U n.natAbs]:=by
 obtain⟨h1,h2⟩:=h;refine am ?_;unfold TU;simp[EV];by_cases hn:n<0
 .rw[ad hn,i8,i8]
  congr 4
  omega
 .rw[ac hn,i8]
  congr 4
  omega
def AN {n:Int}(h:I64 n):Ans D 170 [.i64 n] [U n.natAbs]:=by
 obtain⟨h1,h2⟩:=h;refine am ?_;unfold Vu;simp[EV];by_cases hn:n<0
 .rw[ad hn,i8,i8,IntKind.wrap_i64,IntKind.wrap_i64]
  congr 4
  omega
 .rw[ac hn,i8]
  congr 4
  omega
def AO {Φ:PhT}{N:Nat}{f:JT}{p q:PV}:∀(n a b:Nat),b<n->denW Φ N xm [f] [p,q] n [U b,U a]=f [U (Nat.gcd b a)]
 |0,a,b,h=>by omega
 |n+1,a,b,h=>by
  rw[bG];unfold xm U;simp[EV,AL];by_cases hb:0<b
  .rw[ad (by omega),ac (by omega)];simp[EV];have:=AO (Φ:=Φ) (N:=N) (f:=f) (p:=p) (q:=q) n b (a% b) (by have:=Nat.mod_lt a hb;omega);unfold xm U at this;rw[<-Nat.gcd_rec b a] at this;rw[<-this];rfl
  .rw[ac (by omega)];have:b=0:=by omega
   subst this;rw[Nat.gcd_zero_left]
def RG (a b:Nat):Ans D 146 [U a,U b] [U (Nat.gcd b a)]:=by
 refine an ⟨b+1,?_⟩;unfold U6;simp[EV];rw[AO _ _ _ (fF b)];unfold JV U;simp[EV]
def vD {Φ:PhT}{N:Nat}{f:JT}{p q:PV}:∀(n a b:Nat),b<n->denW Φ N xq [f] [p,q] n [U b,U a]=f [U (Nat.gcd b a)]
 |0,a,b,h=>by omega
 |n+1,a,b,h=>by
  rw[bG];unfold xq U;simp only[EV,AL,aA,ah];by_cases hb:0<b
  .rw[ad (by omega),ac (by omega)];simp;have:=vD (Φ:=Φ) (N:=N) (f:=f) (p:=p) (q:=q) n b (a% b) (by have:=Nat.mod_lt a hb;omega);unfold xq U at this;rw[<-Nat.gcd_rec b a] at this;rw[<-this];rfl
  .rw[ac (by omega)];have:b=0:=by omega
   subst this;rw[Nat.gcd_zero_left]
def RH (a b:Nat):Ans D 169 [U a,U b] [U (Nat.gcd b a)]:=by
 refine an ⟨b+1,?_⟩;unfold Vt;simp[EV];rw[vD _ _ _ (fF b)];unfold Ki U;simp[EV]
def okE (b:Bool):Int:=if b then 0 else 8
def FH {d:Int}(h:0<=d)(k:d<=9223372036854775807):PV.v (.int .u64 (IntKind.u64.wrap d))=U d.natAbs:=by
 rw[i8]
 congr 2
 omega
def c43 {r:Rt}(h:bi r):Ans D 91 [R r] [.i64 (okE (rok r))]:=by
 obtain⟨⟨n1,n2⟩,d1,d2⟩:=h;refine am ?_;unfold k43 R;simp only[EV,aa,ay,b7,Nat.reduceAdd,phi (yl ⟨n1,n2⟩)];by_cases hd:r.den<1
 .rw[ad hd];unfold rok;rw[ai (by omega)];rfl
 .rw[ac hd];by_cases hn:r.num= -9223372036854775808
  .rw[ad hn];unfold rok;rw[aq hn];simp[okE]
  .rw[ac hn,FH (by omega) d2,phi (RG _ _)];simp only[EV,U,aa];have hg:0<Nat.gcd r.num.natAbs r.den.natAbs:=gB _ (by omega);unfold rok;by_cases h1:(Nat.gcd r.num.natAbs r.den.natAbs)=1
   .rw[ac (by omega),aq h1,aq (show 1<=r.den by omega),ai hn]
    rfl
   .rw[ad (by omega),ai h1,rm];rfl
def nG {r:Rt}(h:bi r):Ans D 104 [R r] [.i64 (okE (rok r))]:=by
 obtain⟨⟨n1,n2⟩,d1,d2⟩:=h;refine am ?_;unfold T3 R;simp only[EV,aa,ay,b7,Nat.reduceAdd,phi (AN ⟨n1,n2⟩)];by_cases hd:r.den<1
 .rw[ad hd];unfold rok;rw[ai (by omega)];rfl
 .rw[ac hd];by_cases hn:r.num= -9223372036854775808
  .rw[ad hn];unfold rok;rw[aq hn];simp[okE]
  .rw[ac hn,FH (by omega) d2,phi (RH _ _)];simp only[EV,U,aA,ah];unfold rok;rw[uH];by_cases h1:(Nat.gcd r.num.natAbs r.den.natAbs)=1
   .rw[ac (by omega),aq h1,aq (show 1<=r.den by omega),ai hn]
    rfl
   .rw[ad (by omega),ai h1,rm];rfl
def Gn (r:Rt):Bool:=decide (r.num.natAbs<=1073741824)&& decide (r.den<=1024)
def dl (r:Rt):Int:=if rok r then(if Gn r then 0 else 2) else 8
def c44 {r:Rt}(h:bi r):Ans D 41 [R r] [.i64 (dl r)]:=by
 refine am ?_;unfold k44;have h0:=phi (c43 h);unfold R at h0|-;simp[EV,h0,phi (yl h.1),U];unfold dl okE;cases rok r with
 |false=>rfl
 |true=>
  unfold Gn
  grind
def c64 {r:Rt}(h:bi r):Ans D 49 [R r] [.i64 (dl r)]:=by
 refine am ?_;unfold k64;have h0:=phi (nG h);unfold R at h0|-;simp[EV,h0];unfold dl okE;cases rok r with
 |false=>rfl
 |true=>
  unfold Gn
  grind
def PP (p:Pt):PV:= .agg (row p)
def aaW (p:Pt):Ans D 108 [PP p] [.i64 (okE p.ok)]:=by
 refine am ?_;unfold T7 PP row;simp[EV];unfold Pt.ok okE Fb
 grind
def RI (p:Pt):Ans D 117 [PP p] [.i64 (okE p.ok)]:=by
 refine am ?_;unfold Ug PP row;simp[EV,Ju,Jv];unfold Pt.ok okE Fb
 grind
end Go.Proofs.YtndgdhbpojakpaaGreat
namespace Go.Sym
open Go.Sym
section
variable {Φ:PhT}{N:Nat}{b:K}{J:List JT}{e:List PV}{α β:Type}{l:List α}
def uK {i:Nat}{a:α}{k:List α}(h:l.drop i=a::k):l[i]?=some a/\ l.drop (i+1)=k:=by
 have hi:i<l.length:=by
  rcases pK i l.length with g|g
  .exact g
  .rw[List.drop_eq_nil_of_le g] at h;cases h
 rw[cR hi] at h
 grind
def jh {i:Nat}{k:List α}(h:l.drop i=k)(hi:i<=l.length):i+k.length=l.length:=by
 grind
def ji {p:α->Bool}{st:Nat->List PV}{ret:Nat->Option (List PV)}{fin:Option (List PV)}(hs:∀i a self,l[i]?=some a->den Φ N b (J++[self]) (e++st i)=if p a=true then ret i else self (st (i+1)))
  (hf:∀self,den Φ N b (J++[self]) (e++st l.length)=fin) {m:Nat} (hm:l.length<m):denW Φ N b J e m (st 0)=(l.findIdx? p).elim fin ret:=by
 have:∀(k:List α) i m,l.drop i=k->i<=l.length->k.length<m->denW Φ N b J e m (st i)=(k.findIdx? p).elim fin (λj=>ret (j+i)):=by
  intro k;induction k with
  |nil=>
   intro i m h hi hm;obtain⟨m,rfl⟩:∃m',m=m'+1:=⟨m-1,by omega⟩;have:=jh h hi;rw[bG,show i=l.length by simpa using this]
   exact hf _
  |cons a k ih=>
   intro i m h hi hm;obtain⟨m,rfl⟩:∃m',m=m'+1:=⟨m-1,by omega⟩;obtain⟨h1,h2⟩:=uK h;have:=jh h hi;rw[bG,hs i a _ h1,nC];simp only[bj] at hm this;cases hp:p a with
   |true=>simp
   |false=>
    rw[ih (i+1) m h2 (by omega) (by omega)];cases k.findIdx? p<;>simp[c6,l5 1 i]
 grind
def b9 {p:α->Bool}{st:Nat->List PV}{fin r:Option (List PV)}(hs:∀i a self,l[i]?=some a->(l.take i).all p=true->den Φ N b (J++[self]) (e++st i)=if p a=true then self (st (i+1)) else r)
  (hf:l.all p=true->∀self,den Φ N b (J++[self]) (e++st l.length)=fin) {m:Nat} (hm:l.length<m):denW Φ N b J e m (st 0)=if l.all p=true then fin else r:=by
 have:∀(k:List α) i m,l.drop i=k->i<=l.length->k.length<m->(l.take i).all p=true->denW Φ N b J e m (st i)=if k.all p=true then fin else r:=by
  intro k;induction k with
  |nil=>
   intro i m h hi hm ht;obtain⟨m,rfl⟩:∃m',m=m'+1:=⟨m-1,by omega⟩;have:=jh h hi;have hil:i=l.length:=by simpa using this
   rw[hil,gA] at ht;rw[bG,hil];exact hf ht _
  |cons a k ih=>
   intro i m h hi hm ht;obtain⟨m,rfl⟩:∃m',m=m'+1:=⟨m-1,by omega⟩;obtain⟨h1,h2⟩:=uK h;have:=jh h hi;rw[bG,hs i a _ h1 ht,dA];simp only[bj] at hm this;cases hp:p a with
   |false=>simp
   |true=>
    simp only[ay,eF];refine ih (i+1) m h2 (by omega) (by omega) ?_;rw[cd,h1,lT,ht];simp[hp]
 exact this l 0 m rfl (by omega) hm (by simp)
def hY {g:β->α->β}{I:Nat->β->Prop}{S:β->Nat->List PV}{fin:β->Option (List PV)}{x:β}(h0:I 0 x)(hi:∀i a acc,l[i]?=some a->I i acc->I (i+1) (g acc a))(hs:∀i a acc self,l[i]?=some a->I i acc->den Φ N b (J++[self]) (e++S acc i)=self (S (g acc a) (i+1)))
  (hf:∀acc self,I l.length acc->den Φ N b (J++[self]) (e++S acc l.length)=fin acc) {m:Nat} (hm:l.length<m):denW Φ N b J e m (S x 0)=fin (l.foldl g x)/\ I l.length (l.foldl g x):=by
 have:∀(k:List α) i m acc,l.drop i=k->i<=l.length->k.length<m->I i acc->denW Φ N b J e m (S acc i)=fin (k.foldl g acc)/\ I l.length (k.foldl g acc):=by
  intro k;induction k with
  |nil=>
   intro i m acc h hi' hm hI;obtain⟨m,rfl⟩:∃m',m=m'+1:=⟨m-1,by omega⟩;have:=jh h hi';have hil:i=l.length:=by simpa using this
   rw[hil] at hI;rw[bG,hil]
   grind
  |cons a k ih=>
   intro i m acc h hi' hm hI;obtain⟨m,rfl⟩:∃m',m=m'+1:=⟨m-1,by omega⟩;obtain⟨h1,h2⟩:=uK h;have:=jh h hi';simp only[bj] at hm this;rw[bG,hs i a acc _ h1 hI,cH];exact ih (i+1) m _ h2 (by omega) (by omega) (hi i a acc h1 hI)
 exact this l 0 m x rfl (by omega) hm h0
end
section
variable {α:Type}{f:α->List PV}{l:List α}
def aO {i z:Nat}{a:α}(h:l[i]?=some a)(hz:(f a).length=z):RF.ev (.tix z) [.sl (l.map f),.v (.int .i64 (i:Int))]=some (.i64 (i:Int)):=by
 rw[aaw,ad (by omega),aG,aT,h]
 grind
def aL {i o n:Nat}{a:α}(h:l[i]?=some a):RF.ev (.elt o n) [.sl (l.map f),.v (.int .i64 (i:Int))]=ct o n (f a):=by
 rw[aau,ad (by omega),aG,aT,h];rfl
def up1 {i:Nat}(h:i<1000000000):IntKind.i64.wrap ((i:Int)+1)=((i+1:Nat):Int):=by rw[cz (by omega) (by omega)];rfl
def rz {i:Nat}(h:i<1000000000):IntKind.i64.wrap (((i+1:Nat):Int)-1)=(i:Int):=by rw[cz (by omega) (by omega)];omega
def aK {i:Nat}{a:α}(h:l[i]?=some a):i<l.length:=(aC.1 h).1
def bc {i n:Nat}{γ:Type}{x y:γ}(h:i<n):(if(i:Int)<(n:Int) then x else y)=x:=ad (by omega)
def bw {n:Nat}{γ:Type}{x y:γ}:(if(n:Int)<(n:Int) then x else y)=y:=ac (by omega)
def bm:RF.ev .sub [.sl (l.map f),.v (.int .i64 0),.v (.int .i64 (l.length:Int))]=some (.sl (l.map f)):=by
 rw[AK,ad ⟨by omega,by omega,by rw[aj];omega⟩,aG];simp;rw[aZ (by simp)]
def fJ {bytes z:Nat}{k:List α}(h:(l.length+k.length)*bytes<=140737488355328)(hz:∀a,(f a).length=z):RF.ev (.app bytes z) [.sl (l.map f),.v (.int .i64 (l.length:Int)),.sl (k.map f)]=some (.sl ((l++k).map f)):=by
 rw[aav,ad]
 .rw[aG,aZ (by simp)];simp
 .rw[aj,aj,aG];refine⟨by omega,by omega,h,?_⟩;cases k with
  |nil=>rfl
  |cons a k=>simp[dU,hz]
end
def ql {α:Type}(p:α->Bool)(l:List α):Int:=(l.findIdx? p).elim (-1) λi=>(i:Int)
def Ft {α:Type}{p:α->Bool}{l:List α}:0<=ql p l↔l.any p=true:=by
 unfold ql;cases h:l.findIdx? p with
 |none=>
  grind
 |some i=>
  obtain⟨h1,h2,_⟩:=b8.1 h
  grind
def vR {α:Type}{p:α->Bool}{l:List α}:decide (0<=ql p l)=l.any p:=by
 rw[dE,aa];exact Ft
end Go.Sym
namespace Go.Proofs.YtndgdhbpojakpaaGreat
open Go.Sym Bnd
set_option maxRecDepth 100000
def sgn (n:Int):Int:=if n<0 then-1 else if 0<n then 1 else 0
def uw {n:Int}{m:Nat}(h:n% 18446744073709551616=(m:Int)):PV.v (.int .u64 (IntKind.u64.wrap n))=U m:=by rw[i8,h];rfl
def wu {n:Nat}(h:n<18446744073709551616):IntKind.u64.wrap (n:Int)=(n:Int):=by rw[i8];omega
def Zv (n:Nat):cT .shr .u64 (n:Int) .u64 32=some (.v (.int .u64 ((n/4294967296:Nat):Int))):=by
 rw[Ig,ac (by decide),show min (32:Int).toNat IntKind.u64.bits=32 from rfl,gf _ (by decide)]
 rfl
def Gp {n:Nat}(h:n<18446744073709551616):cT .and .u64 (n:Int) .u64 4294967295=some (.v (.int .u64 ((n% 4294967296:Nat):Int))):=by
 show some (PV.v (.int .u64 (IntKind.u64.wrap (((BitVec.ofInt 64 (n:Int)&&& BitVec.ofInt 64 4294967295).toNat:Nat):Int))))=_
 rw[FD h,wu (by omega)]
def rA {a b:Nat}(h:a+b<18446744073709551616):cT .add .u64 (a:Int) .u64 (b:Int)=some (.v (.int .u64 ((a+b:Nat):Int))):=by
 rw[P6,<-Int.natCast_add,wu h]
def rB {a b:Nat}(h:a*b<18446744073709551616):cT .mul .u64 (a:Int) .u64 (b:Int)=some (.v (.int .u64 ((a*b:Nat):Int))):=by
 rw[P7,<-Int.natCast_mul,wu h]
def MI {x y:Nat}(hx:x<18446744073709551616)(hy:y<18446744073709551616):Ans D 299 [U x,U y] [U (x*y/18446744073709551616),U (x*y% 18446744073709551616)]:=by
 refine am ?_;have b0:=ny (a:=x% 4294967296) (b:=y% 4294967296) (by omega) (by omega);have b1:=ny (a:=x/4294967296) (b:=y% 4294967296) (by omega) (by omega);have b2:=ny (a:=x% 4294967296) (b:=y/4294967296) (by omega) (by omega);have b3:=ny (a:=x/4294967296) (b:=y/4294967296) (by omega) (by omega);have hh:=Zh hx hy;have hl:x*y/18446744073709551616<18446744073709551616:=by
  grind
 have s1:(x/4294967296)*(y/4294967296)+((x/4294967296)*(y% 4294967296)+(x% 4294967296)*(y% 4294967296)/4294967296)/4294967296<18446744073709551616:=by omega
 unfold XH U;simp only[EV,Gp hx,Gp hy,Zv,jQ,rB (show x% 4294967296*(y% 4294967296)<18446744073709551616 by omega),rB (show x/4294967296*(y% 4294967296)<18446744073709551616 by omega),
  rB (show x% 4294967296*(y/4294967296)<18446744073709551616 by omega),rB (show x/4294967296*(y/4294967296)<18446744073709551616 by omega),
  rA (show x/4294967296*(y% 4294967296)+x% 4294967296*(y% 4294967296)/4294967296<18446744073709551616 by omega),
  Gp (show x/4294967296*(y% 4294967296)+x% 4294967296*(y% 4294967296)/4294967296<18446744073709551616 by omega),
  rA (show(x/4294967296*(y% 4294967296)+x% 4294967296*(y% 4294967296)/4294967296)% 4294967296+x% 4294967296*(y/4294967296)<18446744073709551616 by omega),
  rA s1,rA (show _<18446744073709551616 from hh▸hl)]
 rw[hh,<-Int.natCast_mul,i8];rfl
def W (neg:Bool)(m:Nat):PV:= .agg [.bool neg,U (m/18446744073709551616),U (m% 18446744073709551616)]
def qG {a:Int}(h:I64 a):a.natAbs<=9223372036854775808:=by obtain⟨h1,h2⟩:=h;omega
def IC {a b:Int}(h:I64 a)(k:I64 b):a.natAbs*b.natAbs<=85070591730234615865843651857942052864:=mM (qG h) (qG k)
def RJ {a b:Int}(h:I64 a)(k:I64 b):Ans D 339 [.i64 a,.i64 b] [W (decide (a<0) !=decide (b<0)) (a.natAbs*b.natAbs)]:=by
 refine am ?_;have h1:=qG h;have h2:=qG k;unfold Yi;simp[EV,phi (yl h),phi (yl k),phi (MI (show a.natAbs<18446744073709551616 by omega) (show b.natAbs<18446744073709551616 by omega))]
 rfl
def aaX (a:Int):Ans D 356 [.i64 a] [.bool false]:=by
 refine am ?_;unfold Yu;simp[EV]
def aaY (a:Int):Ans D 284 [.i64 a] [.bool false]:=by
 refine am ?_;unfold Xs;simp[EV]
def jk (a b:Int):sgn (a-b)=if a<b then-1 else if b<a then 1 else 0:=by
 unfold sgn
 grind
def RK (a b:Int):Ans D 312 [.i64 a,.i64 b] [.i64 (sgn (a-b))]:=by
 refine am ?_;unfold XK;simp[EV,phi (aaX _),jk]
 grind
def td (a b:Int):Ans D 220 [.i64 a,.i64 b] [.i64 (sgn (a-b))]:=by
 refine am ?_;unfold Wt;simp[EV,phi (aaY _),jk]
 grind
def aaZ (a:Nat):Ans D 373 [U a] [.bool false]:=by
 refine am ?_;unfold YB U;simp[EV]
def aa0 (a b:Nat):Ans D 365 [U a,U b] [.i64 (sgn ((a:Int)-b))]:=by
 have h:=λa=>phi (aaZ a);refine am ?_;unfold Yy;unfold U at h|-;simp[EV,h,jk]
 grind
def aa1 {n k:Bool}(a b:Nat):Ans D 338 [W n a,W k b] [.i64 (sgn ((a:Int)-b))]:=by
 refine am ?_;unfold Yh W;simp[EV,phi (aa0 _ _),jk]
 grind
def FI (a b:Bool):max (okE a) (okE b)=okE (a&& b):=by cases a<;>cases b<;>rfl
def mm2 (a b:Int):RF.ev (.mm true) [.i64 a,.i64 b]=some (.i64 (max a b)):=rfl
def aY (r:Rt):RF.ev (.shape 2) [R r]=some (R r):=rfl
def lu (r:Rt):RF.ev (.cell 0) [R r]=some (.i64 r.num):=rfl
def lw (r:Rt):RF.ev (.cell 1) [R r]=some (.i64 r.den):=rfl
def aa2 {r s:Rt}(h:bi r)(k:bi s):Ans D 337 [R r,R s] [.i64 (okE (rok r&& rok s))]:=by
 refine am ?_;unfold Yg;simp[aY,EV,phi (c43 h),phi (c43 k),mm2,FI]
def m7 {b:Bool}{α:Type}{x y:α}:(if(!decide (okE b=0))=true then x else y)=if b=true then y else x:=by cases b<;>rfl
def kP {r:Rt}(h:rok r=true):1<=r.den:=by
 unfold rok at h
 grind
def i5 (a b:Int):((a.natAbs*b.natAbs:Nat):Int)=if 0<=a*b then a*b else-(a*b):=by
 rw[<-Int.natAbs_mul];split<;>omega
def Qj (n:Int):sgn (-n)= -sgn n:=by unfold sgn;repeat' split;all_goals omega
def Qk (n:Int): -1<=sgn n/\ sgn n<=1:=by unfold sgn;repeat' split;all_goals omega
def aa3 {r s:Rt}(h:bi r)(k:bi s):Ans D 281 [R r,R s] (if(rok r&& rok s)=true then [.i64 (sgn (crs r s)),.i64 0] else [.i64 0,.i64 8]):=by
 refine am ?_;unfold Xp;simp only[au,aY,lu,lw,EV,phi (aa2 h k),m7,phi (RK _ _),phi (RJ h.1 k.2),phi (RJ k.1 h.2),phi (aa1 _ _)];cases hok:rok r&& rok s with
 |false=>rfl
 |true=>
  simp only[aF] at hok;have d1:=kP hok.1;have d2:=kP hok.2;simp only[ay,Lx,EV];have p1:(0<=r.num*s.den)↔0<=r.num:=by
   constructor
   .intro h;rcases Int.lt_or_le r.num 0 with g|g
    .have:=ov g (show 0<s.den by omega);omega
    .exact g
   .intro h;exact Int.mul_nonneg h (by omega)
  have p2:(0<=s.num*r.den)↔0<=s.num:=by
   constructor
   .intro h;rcases Int.lt_or_le s.num 0 with g|g
    .have:=ov g (show 0<r.den by omega);omega
    .exact g
   .intro h;exact Int.mul_nonneg h (by omega)
  by_cases h1:r.num<0<;>by_cases h2:s.num<0
  .rw[aq h1,aq h2];simp only[bne_self_eq_false,aw,ax,ay];rw[i5,i5,ac (show¬0<=r.num*s.den by omega),ac (show¬0<=s.num*r.den by omega)]
   unfold crs;rw[show-(r.num*s.den)- -(s.num*r.den)= -(r.num*s.den-s.num*r.den) by omega,Qj]
   have:=Qk (r.num*s.den-s.num*r.den);rw[show(0:Int)- -sgn (r.num*s.den-s.num*r.den)=sgn (r.num*s.den-s.num*r.den) by omega,cz (by omega) (by omega)]
   rfl
  .rw[aq h1,ai h2];have e1:sgn (r.num-s.num)= -1:=by unfold sgn;rw[ad (by omega)]
   have e2:sgn (crs r s)= -1:=by unfold sgn crs;rw[ad (by omega)]
   rw[e1,e2];rfl
  .rw[ai h1,aq h2];have e1:sgn (r.num-s.num)=1:=by unfold sgn;rw[ac (by omega),ad (by omega)]
   have e2:sgn (crs r s)=1:=by unfold sgn crs;rw[ac (by omega),ad (by omega)]
   rw[e1,e2];rfl
  .rw[ai h1,ai h2];simp only[bne_self_eq_false,aw,ax];rw[i5,i5,ad (show 0<=r.num*s.den by omega),ad (show 0<=s.num*r.den by omega)]
   rfl
def aa4 {x y:Nat}(hx:x<18446744073709551616)(hy:y<18446744073709551616):Ans D 361 [U x,U y] [W false (x*y)]:=by
 refine am ?_;have b0:=ny (a:=x% 4294967296) (b:=y% 4294967296) (by omega) (by omega);have b1:=ny (a:=x/4294967296) (b:=y% 4294967296) (by omega) (by omega);have b2:=ny (a:=x% 4294967296) (b:=y/4294967296) (by omega) (by omega);have b3:=ny (a:=x/4294967296) (b:=y/4294967296) (by omega) (by omega);have sp:=Ab (x:=x) (y:=y);have q32:∀n:Nat,n<18446744073709551616->cT .quo .u64 (n:Int) .u64 4294967296=some (.v (.int .u64 ((n/4294967296:Nat):Int))):=λn h=>by
  rw[If,ac (by decide),iP (by omega),i8]
  congr 3
  omega
 have r32:∀n:Nat,cT .rem .u64 (n:Int) .u64 4294967296=some (.v (.int .u64 ((n% 4294967296:Nat):Int))):=λn=>by
  rw[AL,ac (by decide),Int.tmod_eq_emod_of_nonneg (by omega)];rfl
 generalize hA:x/4294967296*(y/4294967296)=A at*;generalize hB:x/4294967296*(y% 4294967296)=B at*;generalize hC:x% 4294967296*(y/4294967296)=C at*;generalize hE:x% 4294967296*(y% 4294967296)=E at*;have m32:cT .mul .u64 (((C+(B+E/4294967296)% 4294967296)% 4294967296:Nat):Int) .u64 4294967296=some (.v (.int .u64 (((C+(B+E/4294967296)% 4294967296)% 4294967296*4294967296:Nat):Int))):=rB (b:=4294967296) (by omega);have mA:cT .mul .u64 ((x/4294967296:Nat):Int) .u64 ((y/4294967296:Nat):Int)=some (.v (.int .u64 (A:Int))):=by rw[rB (by omega),hA]
 have mB:cT .mul .u64 ((x/4294967296:Nat):Int) .u64 ((y% 4294967296:Nat):Int)=some (.v (.int .u64 (B:Int))):=by rw[rB (by omega),hB]
 have mC:cT .mul .u64 ((x% 4294967296:Nat):Int) .u64 ((y/4294967296:Nat):Int)=some (.v (.int .u64 (C:Int))):=by rw[rB (by omega),hC]
 have mE:cT .mul .u64 ((x% 4294967296:Nat):Int) .u64 ((y% 4294967296:Nat):Int)=some (.v (.int .u64 (E:Int))):=by rw[rB (by omega),hE]
 unfold Yx U;simp only[jQ,EV,q32 x hx,q32 y hy,r32,mA,mB,mC,mE,q32 E (by omega),rA (show B+E/4294967296<18446744073709551616 by omega),rA (show C+(B+E/4294967296)% 4294967296<18446744073709551616 by omega),
  q32 (B+E/4294967296) (by omega),q32 (C+(B+E/4294967296)% 4294967296) (by omega),rA (show A+(B+E/4294967296)/4294967296<18446744073709551616 by omega),
  rA (show A+(B+E/4294967296)/4294967296+(C+(B+E/4294967296)% 4294967296)/4294967296<18446744073709551616 by omega),m32,rA (show(C+(B+E/4294967296)% 4294967296)% 4294967296*4294967296+E% 4294967296<18446744073709551616 by omega)]
 unfold W U;rw[show x*y/18446744073709551616=A+(B+E/4294967296)/4294967296+(C+(B+E/4294967296)% 4294967296)/4294967296 by omega,show x*y% 18446744073709551616=(C+(B+E/4294967296)% 4294967296)% 4294967296*4294967296+E% 4294967296 by omega]
 rfl
def ym (a b:Int):Bool:=(decide (a<0) !=decide (b<0))&&(!decide (a=0)&& !decide (b=0))
def m8 (n:Bool)(m:Nat):RF.ev (.shape 3) [W n m]=some (W n m):=rfl
def te (n:Bool)(m:Nat):RF.ev (.cell 0) [W n m]=some (.bool n):=rfl
def oO (n:Bool)(m:Nat):RF.ev (.cell 1) [W n m]=some (.v (.int .u64 ((m/18446744073709551616:Nat):Int))):=rfl
def oP (n:Bool)(m:Nat):RF.ev (.cell 2) [W n m]=some (.v (.int .u64 ((m% 18446744073709551616:Nat):Int))):=rfl
def RL (n:Bool)(m:Nat):RF.ev (.part 0 3) [W n m]=some (W n m):=rfl
def wL (n:Bool)(m:Nat):RF.ev (.part 1 2) [W n m]=some (.agg [U (m/18446744073709551616),U (m% 18446744073709551616)]):=rfl
def AP (n:Bool)(m:Nat):RF.ev .agg [.bool n,.agg [U (m/18446744073709551616),U (m% 18446744073709551616)]]=some (W n m):=rfl
def Ai (n:Bool)(m:Nat):RF.ev .flat [W n m]=some (W n m):=rfl
def Gq {a b:Int}(h:I64 a)(k:I64 b):Ans D 323 [.i64 a,.i64 b] [W (ym a b) (a.natAbs*b.natAbs)]:=by
 refine am ?_;have h1:=qG h;have h2:=qG k;unfold Ye;simp[m8,wL,AP,EV,phi (AN h),phi (AN k),phi (aa4 (show a.natAbs<18446744073709551616 by omega) (show b.natAbs<18446744073709551616 by omega)),LG]
 unfold ym
 grind
def nH (n:Bool)(m:Nat):Int:=if n then-(m:Int) else m
def oQ (a b:Int):nH (ym a b) (a.natAbs*b.natAbs)=a*b:=by
 unfold nH ym
 grind
def RM (n:Bool)(m:Nat):Ans D 321 [W n m] [.i64 (sgn (nH n m))]:=by
 refine am ?_;unfold Yd;simp[m8,oO,oP,EV];have fin:∀(e:Bool) (v:PV),(e=true↔m=0)->den (PhiS D) 1 DW [] [v,W n m,.bool e]=some [.i64 (sgn (nH n m))]:=λe v he=>by
  unfold DW nH;simp[te,EV];cases e with
  |true=>have:=he.1 rfl;subst this;cases n<;>rfl
  |false=>
   unfold sgn
   grind
 grind
def MJ {n k:Bool}(a b:Nat):Ans D 342 [W n a,W k b] [.i64 (sgn ((a:Int)-b))]:=by
 refine am ?_;unfold Ym;simp[m8,oO,oP,EV,jk]
 grind
def aa5 {r s:Rt}(h:bi r)(k:bi s):Ans D 286 [R r,R s] [.i64 (sgn (crs r s))]:=by
 refine am ?_;unfold Xu;simp only[aY,lu,lw,m8,RL,EV,phi (Gq h.1 k.2),phi (Gq k.1 h.2),phi (RM _ _),phi (MJ _ _),oQ,aa,aA,ah];have e1:=oQ r.num s.den;have e2:=oQ s.num r.den;unfold nH at e1 e2;unfold crs;generalize r.num*s.den=x at*;generalize s.num*r.den=y at*;generalize r.num.natAbs*s.den.natAbs=a at*;have hx:sgn x=if x<0 then-1 else if 0<x then 1 else 0:=rfl
 have hy:sgn y=if y<0 then-1 else if 0<y then 1 else 0:=rfl
 by_cases hne:sgn x=sgn y
 .grind
 .rw[ad hne];rw[jk x y]
  grind
def add64 (x y:Nat):RF.ev .add64 [U x,U y,U 0]=some (.agg [U ((x+y)% 18446744073709551616),U ((x+y)/18446744073709551616)]):=rfl
def RN {x t:Int}(h:(x-t)% 18446744073709551616=0)(ht:I64 t):IntKind.i64.wrap x=t:=by
 obtain⟨h1,h2⟩:=ht;simp only[IntKind.wrap,IntKind.bits,IntKind.signed];simp;split<;>omega
def wr (x:Int):∃k:Int,IntKind.i64.wrap x=x+18446744073709551616*k:=by
 simp only[IntKind.wrap,IntKind.bits];simp;split
 .exact⟨-(x/18446744073709551616)-1,by omega⟩
 .exact⟨-(x/18446744073709551616),by omega⟩
def Gr {x y:Int}(h:(x-y)% 18446744073709551616=0):IntKind.i64.wrap x=IntKind.i64.wrap y:=by
 simp only[IntKind.wrap,IntKind.bits];simp;rw[show x% 18446744073709551616=y% 18446744073709551616 by omega]
def wrA (x y:Int):IntKind.i64.wrap (IntKind.i64.wrap x+y)=IntKind.i64.wrap (x+y):=by obtain⟨k,h⟩:=wr x;rw[h];exact Gr (by omega)
def wrB (x y:Int):IntKind.i64.wrap (y+IntKind.i64.wrap x)=IntKind.i64.wrap (y+x):=by obtain⟨k,h⟩:=wr x;rw[h];exact Gr (by omega)
def wrC (x y:Int):IntKind.i64.wrap (IntKind.i64.wrap x-y)=IntKind.i64.wrap (x-y):=by obtain⟨k,h⟩:=wr x;rw[h];exact Gr (by omega)
def Gs (k:IntKind)(n:Nat):RF.ev (.conv k) [U n]=some (.v (.int k (k.wrap n))):=rfl
abbrev oA2:RF:= .bin .add
def hiL (v:Int):PV:= .i64 (v/18446744073709551616)
def loL (v:Int):PV:= .v (.int .u64 (v% 18446744073709551616))
def Mid (v:Int):Prop:= -154742504910672534362390528<=v/\ v<=154742504910672534362390528
def Ql {a b p:Int}(ha:I64 a)(hb:I64 b)(hp:a*b=p):∃x y:Nat,(a% 18446744073709551616=(x:Int)/\ x<18446744073709551616)/\(b% 18446744073709551616=(y:Int)/\ y<18446744073709551616)/\
  ((x*y:Nat):Int)=p+18446744073709551616*((if a<0 then b else 0)+(if b<0 then a else 0))+340282366920938463463374607431768211456*(if a<0/\ b<0 then 1 else 0):=by
 obtain⟨a1,a2⟩:=ha;obtain⟨b1,b2⟩:=hb;have e1:(((a% 18446744073709551616).toNat:Nat):Int)=if a<0 then a+18446744073709551616 else a:=by split<;>omega
 have e2:(((b% 18446744073709551616).toNat:Nat):Int)=if b<0 then b+18446744073709551616 else b:=by split<;>omega
 grind
def AQ {Φ':PhT}{N:Nat}{f self:JT}{e0 w:PV}{a b v:Int}{i:Nat}(hΦ:Φ'=PhiS D)(hw:RF.ev (.aix 2 2 2) [w,.i64 (i:Int)]=some (.agg [.i64 a,.i64 b]))(hi:i<2)(ha:I64 a)(hb:I64 b)(hm:Mid (a*b))(hv:Mid v):
  den Φ' N DU [f,self] [e0,w,hiL v,loL v,.i64 (i:Int)]=self [hiL (v+a*b),loL (v+a*b),.i64 ((i+1:Nat):Int)]:=by
 subst hΦ;obtain⟨m1,m2⟩:=hm;obtain⟨v1,v2⟩:=hv;generalize hp:a*b=p at*;obtain⟨x,y,⟨x1,x2⟩,⟨y1,y2⟩,hxy⟩:=Ql ha hb hp;have ha':=ha;have hb':=hb;obtain⟨a1,a2⟩:=ha;obtain⟨b1,b2⟩:=hb;have bd:x*y<=18446744073709551615*18446744073709551615:=mM (by omega) (by omega);have u1:PV.v (.int .u64 (IntKind.u64.wrap a))=U x:=uw x1;have u2:PV.v (.int .u64 (IntKind.u64.wrap b))=U y:=uw y1;have q1:=phi (MI x2 y2);have lo0:loL v=U (v% 18446744073709551616).toNat:=by unfold loL U;congr 2;omega
 have q2:=add64 (v% 18446744073709551616).toNat (x*y% 18446744073709551616);rw[<-lo0] at q2;have w1:IntKind.i64.wrap ((i:Int)+1)=((i+1:Nat):Int):=up1 (by omega);unfold DU;simp only[au,hw,EV,aa,u1,u2,q1,ad (show(i:Int)<2 by omega),Gs,LD]
 have lo2:U (((v% 18446744073709551616).toNat+x*y% 18446744073709551616)% 18446744073709551616)=loL (v+p):=by
  unfold loL U
  congr 2
  grind
 rw[lo2] at q2;have q3:∀h:Int,RF.ev oA2 [hiL v,.v (.int .i64 h)]=some (.i64 (IntKind.i64.wrap (v/18446744073709551616+h))):=λh=>rfl;have U0:PV.v (.int .u64 0)=U 0:=rfl;by_cases a0:a<0<;>by_cases b0:b<0<;>simp only[a0,b0,ay,ax,au,q3,EV,az,bb,aw,LC,U0,q2,Gs,wrA,wrB,wrC,w1,dT,gC,fV,eP,fG] at hxy|-
 all_goals
  rw[RN (t:=(v+p)/18446744073709551616) (by omega) ⟨by omega,by omega⟩];rfl
def aa6 {a b c d:Int}(ha:I64 a)(hb:I64 b)(hc:I64 c)(hd:I64 d)(h1:Mid (a*b))(h2:Mid (c*d)):Ans D 311 [.agg [.i64 a,.i64 b,.i64 c,.i64 d]] [.agg [hiL (a*b+c*d),loL (a*b+c*d)]]:=by
 refine an ⟨3,?_⟩;unfold XJ;have s0:=λself=>AQ (N:=3) (f:=mD (PhiS D) 3 DS [] [.agg [.i64 a,.i64 b,.i64 c,.i64 d],.agg [.i64 a,.i64 b,.i64 c,.i64 d]]) (self:=self) (e0:= .agg [.i64 a,.i64 b,.i64 c,.i64 d]) (w:= .agg [.i64 a,.i64 b,.i64 c,.i64 d]) (i:=0) (v:=0) rfl rfl (by decide) ha hb h1 ⟨by decide,by decide⟩;have s1:=λself=>AQ (N:=3) (f:=mD (PhiS D) 3 DS [] [.agg [.i64 a,.i64 b,.i64 c,.i64 d],.agg [.i64 a,.i64 b,.i64 c,.i64 d]]) (self:=self) (e0:= .agg [.i64 a,.i64 b,.i64 c,.i64 d]) (w:= .agg [.i64 a,.i64 b,.i64 c,.i64 d]) (i:=1) (v:=a*b) rfl rfl (by decide) hc hd h2 h1;rw[Int.zero_add] at s0;have z1:PV.i64 0=hiL 0:=rfl;have z2:PV.v (.int .u64 0)=loL 0:=rfl;have z3:PV.i64 0= .i64 ((0:Nat):Int):=rfl;refine(s0 _).trans ?_;simp only[bG,E0,Ih,Mn,P9];refine(s1 _).trans ?_;simp only[bG,EV];rfl
def Pt.bnd {p:Pt}(h:p.ok=true):(0<=p.id/\ p.id<=65535)/\(-1048576<=p.a/\ p.a<=1048576)/\(-1048576<=p.b/\ p.b<=1048576):=by
 unfold Pt.ok Fb at h
 grind
def FJ {a b:Int}(h: -2097152<=a/\ a<=2097152)(k:I64 b):Mid (a*b):=by
 obtain⟨k1,k2⟩:=k;have e:=Int.natAbs_mul a b;have:a.natAbs*b.natAbs<=2097152*9223372036854775808:=mM (by omega) (by omega);constructor<;>omega
def RP (v:Int):(v/18446744073709551616<0)↔v<0:=by omega
def orr (a b:Int):Ans D 282 [.sl [[.i64 a],[.i64 b]]] [.i64 (if a=0 then b else a)]:=by
 refine an ⟨3,?_⟩;unfold Xq;have w0:IntKind.i64.wrap (0+1)=1:=by decide
 have w1:IntKind.i64.wrap (1+1)=2:=by decide
 have e0:RF.ev (.tix 1) [.sl [[.i64 a],[.i64 b]],.v (.int .i64 0)]=some (.i64 0):=rfl;have e1:RF.ev (.tix 1) [.sl [[.i64 a],[.i64 b]],.v (.int .i64 1)]=some (.i64 1):=rfl;have g0:RF.ev (.elt 0 0) [.sl [[.i64 a],[.i64 b]],.v (.int .i64 0)]=some (.i64 a):=rfl;have g1:RF.ev (.elt 0 0) [.sl [[.i64 a],[.i64 b]],.v (.int .i64 1)]=some (.i64 b):=rfl;have h2:([[PV.i64 a],[PV.i64 b]].length:Int)=2:=rfl;simp only[EV,bG,Ly,Lz,e0,e1,g0,g1,w0]
 grind
def Gt (t:Rt)(p q:Pt):Int:=if far t p q=0 then(if sgn (p.b-q.b)=0 then sgn (q.id-p.id) else sgn (p.b-q.b)) else sgn (far t p q)
def AR {t:Rt}{p q:Pt}:decide (0<Gt t p q)=leads t p q:=by
 rw[dE,aa,iv];unfold Gt sgn
 grind
def jl (p:Pt):RF.ev (.shape 3) [PP p]=some (PP p):=rfl
def fK (p:Pt):RF.ev (.cell 0) [PP p]=some (.i64 p.id):=rfl
def qH (p:Pt):RF.ev (.cell 1) [PP p]=some (.i64 p.a):=rfl
def lx (p:Pt):RF.ev (.cell 2) [PP p]=some (.i64 p.b):=rfl
def Qm {t:Rt}{p q:Pt}(hp:p.ok=true)(hq:q.ok=true)(ht:bi t):Mid ((p.a-q.a)*t.den)/\ Mid ((p.b-q.b)*t.num):=by
 have:=Pt.bnd hp;have:=Pt.bnd hq;exact⟨FJ ⟨by omega,by omega⟩ ht.2,FJ ⟨by omega,by omega⟩ ht.1⟩
def tf {a b:Int}(ha: -1048576<=a/\ a<=1048576)(hb: -1048576<=b/\ b<=1048576):I64 (a-b)/\ IntKind.i64.wrap (a-b)=a-b:=⟨⟨by omega,by omega⟩,cz (by omega) (by omega)⟩
def RQ {p q:Pt}{t:Rt}(hp:p.ok=true)(hq:q.ok=true)(ht:bi t):Ans D 251 [PP p,PP q,R t] [.i64 (Gt t p q)]:=by
 have bp:=Pt.bnd hp;have bq:=Pt.bnd hq;obtain⟨f1,f2⟩:=Qm hp hq ht;obtain⟨i1,i2⟩:=tf bp.2.1 bq.2.1;obtain⟨i3,i4⟩:=tf bp.2.2 bq.2.2;have h1:=phi (aa6 i1 ht.2 i3 ht.1 f1 f2);rw[show(p.a-q.a)*t.den+(p.b-q.b)*t.num=far t p q from rfl] at h1
 have a1:∀a b c d:Int,RF.ev .agg [.i64 a,.i64 b,.i64 c,.i64 d]=some (.agg [.i64 a,.i64 b,.i64 c,.i64 d]):=λ_ _ _ _=>rfl;have a2:∀v:Int,RF.ev (.shape 2) [.agg [hiL v,loL v]]=some (.agg [hiL v,loL v]):=λ_=>rfl;have a3:∀v:Int,RF.ev (.cell 0) [.agg [hiL v,loL v]]=some (.i64 (v/18446744073709551616)):=λ_=>rfl;have a4:RF.ev .agg [.i64 0,.v (.int .u64 0)]=some (.agg [.i64 0,.v (.int .u64 0)]):=rfl;have a5:∀v:Int,RF.ev (.eqv [.i,.i]) [.agg [hiL v,loL v],.agg [.i64 0,.v (.int .u64 0)]]=some (.bool (decide (v=0))):=λv=>by
  have:RF.ev (.eqv [.i,.i]) [.agg [hiL v,loL v],.agg [.i64 0,.v (.int .u64 0)]]=some (.bool (decide (v/18446744073709551616=0)&&(decide (v% 18446744073709551616=0)&& true))):=rfl;rw[this]
  congr 3
  grind
 have a6:∀x y:Int,RF.ev (.bs 2 [KP.z] [0,1]) [.i64 x,.i64 y]=some (.sl [[.i64 x],[.i64 y]]):=λx y=>rfl;have a7:∀x y:Int,RF.ev .sub [.sl [[.i64 x],[.i64 y]],.v (.int .i64 0),.v (.int .i64 2)]=some (.sl [[.i64 x],[.i64 y]]):=λx y=>rfl;refine am ?_;unfold W2;simp only[au,jl,aY,fK,qH,lx,lu,lw,a1,a2,a3,a4,a5,a6,a7,EV,i2,i4,h1,aA,ah,aa,RP,phi (RK _ _),phi (td _ _),phi (orr _ _)];unfold Gt;by_cases hz:far t p q=0
 .rw[ac (by simp[hz]),ad hz]
 .rw[ad hz,ac hz];unfold sgn;by_cases hn:far t p q<0
  .rw[ad hn,ad hn]
  .rw[ac hn,ac hn,ad (by omega)]
def hZ (p q:Pt)(t:Rt):Int:=if(p.ok&&(q.ok&& rok t))=true then(if p.id=q.id then 2 else 0) else 8
def MK {p q:Pt}{t:Rt}(ht:bi t):Ans D 250 [PP p,PP q,R t] [.i64 (hZ p q t)]:=by
 refine am ?_;unfold W1 hZ;simp only[jl,aY,fK,mm2,EV,phi (RI _),phi (c43 ht),FI,Bool.and_assoc,m7];cases(p.ok&&(q.ok&& rok t)) with
 |false=>rfl
 |true=>
  grind
def yn {p q:Pt}{t:Rt}(h:hZ p q t=0):p.ok=true/\ q.ok=true/\ rok t=true/\ p.id≠q.id:=by
 unfold hZ at h
 grind
def jm {p q:Pt}{t:Rt}(h1:p.ok=true)(h2:q.ok=true)(h3:rok t=true)(h4:p.id≠q.id):hZ p q t=0:=by
 unfold hZ
 grind
def AS {p q:Pt}{t:Rt}(ht:bi t):Ans D 190 [PP p,PP q,R t] (if hZ p q t=0 then [.bool (leads t p q),.i64 0] else [.bool false,.i64 (hZ p q t)]):=by
 refine am ?_;unfold VU;simp only[jl,aY,EV,phi (MK ht)];by_cases h:hZ p q t=0
 .obtain⟨h1,h2,_,_⟩:=yn h;rw[ac (by simp[h]),ad h];simp[EV,phi (RQ h1 h2 ht),AR]
 .grind
def Sm (n:Int):Prop:= -4194304<=n/\ n<=4194304
def Gu {a b:Nat}(hb:0<b)(ha:a<18446744073709551616):RF.ev (.bin .quo) [U a,U b]=some (U (a/b)):=by
 show cT .quo .u64 (a:Int) .u64 (b:Int)=_
 have:=f9 a b;rw[If,ac (by omega),iP (by omega),<-Int.natCast_ediv,wu (by omega)];rfl
def WB (n:Bool)(h l:Nat):PV:= .agg [.bool n,U h,U l]
def RS (n:Bool)(h l:Nat):RF.ev .agg [.bool n,U h,U l]=some (WB n h l):=rfl
def RU (n:Bool)(h l:Nat):RF.ev (.shape 3) [WB n h l]=some (WB n h l):=rfl
def cB0 (n:Bool)(h l:Nat):RF.ev (.cell 0) [WB n h l]=some (.bool n):=rfl
def cB1 (n:Bool)(h l:Nat):RF.ev (.cell 1) [WB n h l]=some (.v (.int .u64 (h:Int))):=rfl
def cB2 (n:Bool)(h l:Nat):RF.ev (.cell 2) [WB n h l]=some (.v (.int .u64 (l:Int))):=rfl
def vS (a b:Int):RF.ev .agg [.i64 a,.i64 b]=some (R ⟨a,b⟩):=rfl
def wM (r:Rt):RF.ev .flat [R r]=some (R r):=rfl
def Gw (r:Rt):RF.ev (.part 0 2) [R r]=some (R r):=rfl
def U0:PV.v (.int .u64 0)=U 0:=rfl
def aa7 {n:Bool}{a b:Nat}(ha:a<=4194304)(hb:b<=4194304):Ans D 366 [WB n 0 a,U 0,U b] [R ⟨if n=true then-(a:Int) else a,b⟩,.i64 0]:=by
 refine am ?_;have e:RF.ev (.bin .gtr) [U 0,U 0]=some (.bool false):=rfl;have e2:RF.ev (.bin .gtr) [U b,.v (.int .u64 9223372036854775807)]=some (.bool (decide ((9223372036854775807:Int)<b))):=rfl;unfold Yz;simp only[RU,cB0,U0,cB1,cB2,vS,e,e2,Gs,EV,LN,eH,cz (show-9223372036854775808<=(a:Int) by omega) (by omega),cz (show-9223372036854775808<=(b:Int) by omega) (by omega),cz (show-9223372036854775808<=0-(a:Int) by omega) (by omega)]
 grind
def Gx {n:Int}(h:Sm n):I64 n:=by obtain⟨h1,h2⟩:=h;exact⟨by omega,by omega⟩
def aa8 {n d:Int}(hn:Sm n)(hd:Sm d)(h0:d≠0):Ans D 340 [.i64 n,.i64 d] [R (mkR n d),.i64 0]:=by
 obtain⟨n1,n2⟩:=hn;obtain⟨d1,d2⟩:=hd;have hg:0<Nat.gcd n.natAbs d.natAbs:=gB _ (by omega);have l1:n.natAbs/Nat.gcd n.natAbs d.natAbs<=n.natAbs:=f9 ..;have l2:d.natAbs/Nat.gcd n.natAbs d.natAbs<=d.natAbs:=f9 ..;have hc:=phi (RG n.natAbs d.natAbs);rw[uH] at hc;refine am ?_;unfold Yj;simp only[Gu hg (show n.natAbs<18446744073709551616 by omega),Gu hg (show d.natAbs<18446744073709551616 by omega),U0,RS,EV,phi (yl (Gx ⟨n1,n2⟩)),phi (yl (Gx ⟨d1,d2⟩)),hc,phi (aa7 (show n.natAbs/Nat.gcd n.natAbs d.natAbs<=4194304 by omega) (show d.natAbs/Nat.gcd n.natAbs d.natAbs<=4194304 by omega)),aa]
 rw[ac h0];rfl
def aa9 {p q:Pt}(hp:p.ok=true)(hq:q.ok=true)(hi:p.id≠q.id)(hb:p.b≠q.b):Ans D 283 [PP p,PP q] [R (mkR (p.a-q.a) (q.b-p.b)),.i64 0]:=by
 have bp:=Pt.bnd hp;have bq:=Pt.bnd hq;have ht:bi ⟨0,1⟩:=⟨⟨by decide,by decide⟩,⟨by decide,by decide⟩⟩;have i2:=(tf bp.2.1 bq.2.1).2;have i4:=(tf bq.2.2 bp.2.2).2;have h1:=phi (MK (p:=p) (q:=q) ht);rw[jm hp hq (by decide) hi] at h1;refine am ?_;unfold Xr;simp[jl,aY,qH,lx,vS,EV,h1,i2,i4,phi (aa8 (n:=p.a-q.a) (d:=q.b-p.b) ⟨by omega,by omega⟩ ⟨by omega,by omega⟩ (by omega))]
 grind
def dY (t:Rt)(hi lo:Pt):Rt×Bool:=if leads t lo hi=true then(t,true) else if hi.b<lo.b then(mkR (hi.a-lo.a) (lo.b-hi.b),true) else(⟨0,0⟩,false)
def RV {p q:Pt}{t:Rt}(ht:bi t):Ans D 217 [PP p,PP q,R t] (if hZ p q t=0 then [R (dY t p q).1,.bool (dY t p q).2,.i64 0] else [R ⟨0,0⟩,.bool false,.i64 (hZ p q t)]):=by
 refine am ?_;unfold Ws;simp only[jl,aY,vS,EV,phi (MK ht),aA,ah];by_cases h:hZ p q t=0
 .obtain⟨h1,h2,_,h3⟩:=yn h;rw[ac (by simp[h]),ad h];simp only[au,aY,wM,lx,vS,EV,phi (RQ h2 h1 ht),AR,aa];unfold dY;cases leads t q p with
  |true=>rfl
  |false=>
   simp only[aw,ax];by_cases hb:q.b<=p.b
   .grind
   .rw[ac hb,ad (by omega)];simp only[au,aY,wM,EV,phi (aa9 h1 h2 h3 (by omega)),az]
 .grind
def ON (n:Bool)(a b:Int):RF.ev .agg [.bool n,.v (.int .u64 a),.v (.int .u64 b)]=some (.agg [.bool n,.v (.int .u64 a),.v (.int .u64 b)]):=rfl
def mkW {n:Bool}{h l:Int}{m:Nat}(h1:h=((m/18446744073709551616:Nat):Int))(h2:l=((m% 18446744073709551616:Nat):Int)):PV.agg [.bool n,.v (.int .u64 h),.v (.int .u64 l)]=W n m:=by rw[h1,h2];rfl
def RW {n k:Bool}{a b:Nat}(ha:a<170141183460469231731687303715884105728)(h:b<=a):Ans D 360 [W n a,W k b] [W false (a-b)]:=by
 refine am ?_;unfold Yw;simp only[m8,oO,oP,EV,aa,LM,ON,i8];by_cases c:((a% 18446744073709551616:Nat):Int)<((b% 18446744073709551616:Nat):Int)
 .rw[ad c,mkW (m:=a-b) (by omega) (by omega)]
 .rw[ac c,mkW (m:=a-b) (by omega) (by omega)]
def aba {n k:Bool}{a b:Nat}(ha:a<85070591730234615865843651857942052865)(hb:b<85070591730234615865843651857942052865):∃s m,Ans D 322 [W n a,W k b] [W s m]/\ nH s m=nH n a+nH k b:=by
 have l1:a% 18446744073709551616<18446744073709551616:=by omega
 by_cases hs:n=k
 .subst hs;refine⟨n,a+b,?_,by unfold nH;split<;>omega⟩;refine am ?_;unfold HF;simp only[au,m8,te,oO,oP,EV,aa,LF,ON,i8,eJ,ay];by_cases c:(((a% 18446744073709551616:Nat):Int)+((b% 18446744073709551616:Nat):Int))% 18446744073709551616<((a% 18446744073709551616:Nat):Int)
  .rw[ad c,mkW (m:=a+b) (by omega) (by omega)]
  .rw[ac c,mkW (m:=a+b) (by omega) (by omega)]
 .have hbe:(n==k)=false:=by cases n<;>cases k<;>simp_all
  by_cases hle:b<=a
  .refine⟨n&& decide (0<a-b),a-b,?_,by unfold nH;cases n<;>cases k<;>simp_all<;>(repeat' split)<;>omega⟩
   have g:sgn ((a:Int)-b)>=0:=by unfold sgn;repeat' split;all_goals omega
   refine am ?_;unfold HF;simp only[au,m8,te,oO,oP,EV,aa,hbe,aw,ax,phi (MJ _ _),phi (RW (n:=n) (k:=k) (show a<170141183460469231731687303715884105728 by omega) hle)]
   rw[ad g];have fin:∀(v:Bool) (es:List PV),den (PhiS D) 1 qP [] (.bool v::es)=den (PhiS D) 1 qP [] (.bool v::es):=λ_ _=>rfl;cases n with
   |false=>
    simp only[aw,ax,au,wL,AP,Ai,qP,EV,mK]
   |true=>
    simp only[ay,au,oO,oP,EV,aa,eF];by_cases c:(0:Int)<((((a-b)/18446744073709551616:Nat):Int))
    .rw[ad c,aq (show 0<a-b by omega)]
     simp only[au,wL,AP,Ai,qP,EV]
    .rw[ac c];simp only[au,wL,AP,Ai,qP,EV];rw[show decide ((0:Int)<(((a-b)% 18446744073709551616:Nat):Int))=decide (0<a-b) from bU.2 (by omega)]
  .refine⟨k,b-a,?_,by unfold nH;cases n<;>cases k<;>simp_all<;>omega⟩;have g:¬sgn ((a:Int)-b)>=0:=by unfold sgn;rw[ad (by omega)];decide
   refine am ?_;unfold HF;simp only[au,m8,te,oO,oP,EV,aa,hbe,aw,ax,phi (MJ _ _),phi (RW (n:=k) (k:=n) (a:=b) (b:=a) (show b<170141183460469231731687303715884105728 by omega) (by omega))]
   rw[ac g];simp only[au,wL,AP,Ai,te,EV]
def abb {p q:Pt}{t:Rt}(hp:p.ok=true)(hq:q.ok=true)(ht:bi t):Ans D 266 [PP p,PP q,R t] [.i64 (sgn (far t p q))]:=by
 have bp:=Pt.bnd hp;have bq:=Pt.bnd hq;obtain⟨i1,i2⟩:=tf bp.2.1 bq.2.1;obtain⟨i3,i4⟩:=tf bp.2.2 bq.2.2;obtain⟨s,m,h1,h2⟩:=aba (n:=ym (p.a-q.a) t.den) (k:=ym (p.b-q.b) t.num) (nZ (IC i1 ht.2)) (nZ (IC i3 ht.1));rw[oQ,oQ] at h2;refine am ?_;unfold Xj;simp[jl,aY,qH,lx,lu,lw,EV,i2,i4,phi (Gq i1 ht.2),phi (Gq i3 ht.1),phi h1,phi (RM _ _)];rw[h2];rfl
def AT {n:Int}:sgn n=0↔n=0:=by unfold sgn;repeat' split;all_goals omega
def Qn {n:Int}:0<sgn n↔0<n:=by unfold sgn;repeat' split;all_goals omega
def yp {p q:Pt}{t:Rt}(hp:p.ok=true)(hq:q.ok=true)(ht:bi t):Ans D 200 [PP p,PP q,R t] [.bool (leads t p q)]:=by
 refine am ?_;unfold V9 leads;simp[jl,aY,fK,lx,EV,phi (abb hp hq ht),AT,Qn]
 grind
def abc {n:Bool}{a b:Nat}(ha:a<=4194304)(hb:b<=4194304):Ans D 367 [.bool n,WB false 0 a,WB false 0 b] [R ⟨if n=true then-(a:Int) else a,b⟩,.i64 0]:=by
 refine am ?_;unfold YA;simp only[RU,cB1,cB2,vS,EV,cz (show-9223372036854775808<=(a:Int) by omega) (by omega),cz (show-9223372036854775808<=(b:Int) by omega) (by omega),cz (show-9223372036854775808<=0-(a:Int) by omega) (by omega)]
 grind
def abd {n d:Int}(hn:Sm n)(hd:Sm d)(h0:d≠0):Ans D 343 [.i64 n,.i64 d] [R (mkR n d),.i64 0]:=by
 obtain⟨n1,n2⟩:=hn;obtain⟨d1,d2⟩:=hd;have hg:0<Nat.gcd n.natAbs d.natAbs:=gB _ (by omega);have l1:n.natAbs/Nat.gcd n.natAbs d.natAbs<=n.natAbs:=f9 ..;have l2:d.natAbs/Nat.gcd n.natAbs d.natAbs<=d.natAbs:=f9 ..;have hc:=phi (RH n.natAbs d.natAbs);rw[uH] at hc;have hm:=λs=>phi (abc (n:=s) (show n.natAbs/Nat.gcd n.natAbs d.natAbs<=4194304 by omega) (show d.natAbs/Nat.gcd n.natAbs d.natAbs<=4194304 by omega))
 refine am ?_;unfold Yn;simp[Gu hg (show n.natAbs<18446744073709551616 by omega),Gu hg (show d.natAbs<18446744073709551616 by omega),U0,RS,aY,lu,lw,vS,wM,LJ,EV,phi (AN (Gx ⟨n1,n2⟩)),phi (AN (Gx ⟨d1,d2⟩)),hc,hm]
 unfold mkR
 grind
def abe {p q:Pt}(hp:p.ok=true)(hq:q.ok=true)(hb:p.b≠q.b):Ans D 287 [PP p,PP q] [R (mkR (p.a-q.a) (q.b-p.b))]:=by
 have bp:=Pt.bnd hp;have bq:=Pt.bnd hq;have i2:=(tf bp.2.1 bq.2.1).2;have i4:=(tf bq.2.2 bp.2.2).2;refine am ?_;unfold Xv;simp[jl,aY,qH,lx,EV,i2,i4,phi (abd (n:=p.a-q.a) (d:=q.b-p.b) ⟨by omega,by omega⟩ ⟨by omega,by omega⟩ (by omega))]
def abf {p q:Pt}{t:Rt}(hp:p.ok=true)(hq:q.ok=true)(ht:bi t):Ans D 232 [PP p,PP q,R t] [R (dY t p q).1,.bool (dY t p q).2]:=by
 refine am ?_;unfold WG dY;simp[jl,aY,lx,vS,EV,phi (yp hq hp ht)];cases leads t q p with
 |true=>rfl
 |false=>
  simp;by_cases hb:p.b<q.b
  .rw[ad hb,ad hb];simp only[au,aY,wM,EV,phi (abe hp hq (show p.b≠q.b by omega))]
  .grind
def aW (l:List Pt):RF.ev (.shape 1) [F l]=some (F l):=rfl
def bQ (l:List Pt):RF.ev (.cell 0) [F l]=some (sl row l):=rfl
def eU (p:Pt):ct 0 3 (row p)=some (PP p):=rfl
def mN (p:Pt):ct 0 0 (row p)=some (.i64 p.id):=rfl
def bL (p:Pt):(row p).length=3:=rfl
def I1 (n:Int):List PV:=[.i64 n]
def cj (n:Int):ct 0 0 (I1 n)=some (.i64 n):=rfl
def B1 (b:Bool):List PV:=[.bool b]
def rC (b:Bool):ct 0 0 (B1 b)=some (.bool b):=rfl
open Classical in
def eg (l:List Pt):Int:=if 64<l.length then 4 else if vt l=true then(if g9 l then 0 else 32) else 8
def AU {b:Bool}:okE b=0↔b=true:=by cases b<;>simp[okE]
def gN {b:Bool}{α:Type}{x y:α}:(if¬okE b=0 then x else y)=if b=true then y else x:=by cases b<;>rfl
open Classical in
def qm (l:List Pt):Ans D 68 [F l] [.i64 (eg l)]:=by
 refine an ⟨65,?_⟩;unfold TK eg;simp only[au,aW,bQ,EV,aj,aa];by_cases h:64<l.length
 .grind
 .rw[ac (by omega),ac h];refine(b9 (l:=l) (p:=Pt.ok) (st:=λi=>[.i64 (i:Int)]) (r:=some [.i64 8]) (fin:=some [.i64 (if g9 l then 0 else 32)]) (λi p self hp _=>?_) (λhg self=>?_) (by omega)).trans ?_
  .unfold BS;simp only[au,aW,bQ,aO hp (bL p),aL hp,eU,EV,aa,bc (aK hp),up1 (show i<1000000000 by have:=aK hp;omega),phi (RI _),m7]
   cases p.ok<;>rfl
  .unfold BS;simp only[EV,aa,bw,Jg,bQ,au,aj];refine(ef (n:=l.length) (P:=λi=>∀p q,l[i]?=some q->(0<i->l[i-1]?=some p->p.id<q.id)) (st:=λi=>[.i64 (i:Int)]) (r:=some [.i64 32]) (fin:=some [.i64 0]) (λi self hi _=>?_) (λ_ self=>?_) (by omega)).trans ?_
   .obtain⟨q,hq⟩:∃q,l[i]?=some q:=⟨l[i],ak _⟩;unfold BQ;simp only[au,bQ,aO hq (bL q),aL hq,eU,EV,aa,bc hi];cases i with
    |zero=>
     rw[ac (by omega),ad (λp q _ h=>by omega)];unfold BP;simp only[EV,aw,ax]
     try rfl
    |succ j=>
     obtain⟨p,hp⟩:∃p,l[j]?=some p:=⟨l[j],ak _⟩;rw[ad (by omega)];simp only[au,bQ,fK,rz (show j<1000000000 by omega),aO hp (bL p),aL hp,mN,EV]
     unfold BP;simp only[EV,aa,up1 (show j+1<1000000000 by omega)]
     by_cases hc:q.id<=p.id
     .rw[ad hc,ac (λh=>by have:=h p q hq (by omega) (by simpa using hp);omega)]
     .rw[ac hc,ad (λp' q' h1 _ h2=>by
       rw[hq] at h1;cases h1;rw[show j+1-1=j by omega,hp] at h2;cases h2
       omega)]
   .unfold BQ;simp only[EV,aa,bw,Jf]
   .have:(∀j,j<l.length->∀p q,l[j]?=some q->(0<j->l[j-1]?=some p->p.id<q.id))↔g9 l:=by
     constructor
     .intro h i p q hp hq;exact h (i+1) (aK hq) p q hq (by omega) (by simpa using hp)
     .intro h j hj p q hq h0 hp;exact h (j-1) p q hp (by rw[show j-1+1=j by omega];exact hq)
    by_cases hr:g9 l
    .rw[ad (this.2 hr),ad hr]
    .rw[ac (λh=>hr (this.1 h)),ac hr]
  .unfold vt;cases l.all Pt.ok<;>rfl
open Classical in
def ku (l:List Pt):Ans D 55 [F l] [.i64 (eg l)]:=by
 refine an ⟨65,?_⟩;unfold TG eg;simp only[au,aW,bQ,EV,aj,aa];by_cases h:64<l.length
 .grind
 .rw[ac (by omega),ac h];refine(b9 (l:=l) (p:=Pt.ok) (st:=λi=>[.i64 (i:Int)]) (r:=some [.i64 8]) (fin:=some [.i64 (if g9 l then 0 else 32)]) (λi p self hp _=>?_) (λhg self=>?_) (by omega)).trans ?_
  .unfold BL;simp only[au,bQ,aO hp (bL p),aL hp,eU,EV,aj,aa,bc (aK hp),up1 (show i<1000000000 by have:=aK hp;omega),phi (aaW _),m7]
  .unfold BL;simp only[au,bQ,EV,aj,aa,bw,Jc];refine(ef (n:=l.length-1) (P:=λi=>∀p q,l[i]?=some p->l[i+1]?=some q->p.id<q.id) (st:=λi=>[.i64 ((i+1:Nat):Int)]) (r:=some [.i64 32]) (fin:=some [.i64 0]) (λi self hi _=>?_) (λ_ self=>?_) (by omega)).trans ?_
   .obtain⟨p,hp⟩:∃p,l[i]?=some p:=⟨l[i],ak _⟩;obtain⟨q,hq⟩:∃q,l[i+1]?=some q:=⟨l[i+1],ak _⟩;unfold BK;simp only[au,bQ,rz (show i<1000000000 by omega),aO hp (bL p),aL hp,aO hq (bL q),aL hq,mN,EV,aj,aa,bc (aK hq),up1 (show i+1<1000000000 by omega)]
    grind
   .unfold BK;simp only[au,bQ,EV,aj,aa,Jb];rw[ac (by omega)]
   .have:(∀j,j<l.length-1->∀p q,l[j]?=some p->l[j+1]?=some q->p.id<q.id)↔g9 l:=
     ⟨λh i p q hp hq=>h i (by have:=aK hq;omega) p q hp hq,λh j _ p q hp hq=>h j p q hp hq⟩
    by_cases hr:g9 l
    .rw[ad (this.2 hr),ad hr]
    .rw[ac (λh=>hr (this.1 h)),ac hr]
  .unfold vt;cases l.all Pt.ok<;>rfl
def pos (l:List Pt)(id:Int):Int:=ql (λp=>decide (p.id=id)) l
def Aj {o:Option Nat}:o.elim (some [PV.i64 (-1)]) (λi=>some [.i64 (i:Int)])=some [.i64 (o.elim (-1) λi=>(i:Int))]:=by cases o<;>rfl
def bJ (n:Int):(I1 n).length=1:=rfl
def qn (b:Bool):(B1 b).length=1:=rfl
def nI {l:List Pt}(hl:l.length<=1000)(id:Int):Ans D 151 [F l,.i64 id] [.i64 (pos l id)]:=by
 refine an ⟨1001,?_⟩;unfold Vb;simp[aW,EV];refine(ji (l:=l) (p:=λp=>decide (p.id=id)) (st:=λi=>[.i64 (i:Int)]) (ret:=λi=>some [.i64 (i:Int)]) (fin:=some [.i64 (-1)]) (λi p self hp=>?_) (λself=>?_) (by omega)).trans Aj
 .unfold CA;simp only[bQ,aO hp (bL p),aL hp,mN,EV,aj,aa,bc (aK hp),up1 (show i<1000000000 by have:=aK hp;omega)]
 .unfold CA;simp[bQ,EV,JW]
def abg {α:Type}[DecidableEq α]{l k:List α}(h:l.length=k.length):(l.zip k).all (λp=>decide (p.1=p.2))=decide (l=k):=by
 induction l generalizing k with
 |nil=>cases k with
  |nil=>rfl
  |cons=>simp at h
 |cons a l ih=>cases k with
  |nil=>simp at h
  |cons b k=>
   simp_all
def fW {α β:Type}{l:List α}{k:List β}{i:Nat}{x:α×β}(h:(l.zip k)[i]?=some x):l[i]?=some x.1/\ k[i]?=some x.2:=by
 grind
def dK {α β:Type}{l:List α}{k:List β}(h:l.length=k.length):(l.zip k).length=l.length:=by rw[lX];omega
def mO {α:Type}[DecidableEq α]{l k:List α}{x:Option (List PV)}(h:l.length=k.length)(hx:x=if(l.zip k).all (λp=>decide (p.1=p.2))=true then some [.bool true] else some [.bool false]):x=some [.bool (decide (l=k))]:=by
 rw[hx,abg h]
 grind
def RX (p q:Pt):RF.ev (.eqv [.i,.i,.i]) [PP p,PP q]=some (.bool (decide (p=q))):=by
 obtain⟨a,b,c⟩:=p;obtain⟨x,y,z⟩:=q;have:RF.ev (.eqv [.i,.i,.i]) [PP ⟨a,b,c⟩,PP ⟨x,y,z⟩]=some (.bool (decide (a=x)&&(decide (b=y)&&(decide (c=z)&& true)))):=rfl;simp_all
def c28 {l k:List Pt}(hl:l.length<=1000):Ans D 48 [F l,F k] [.bool (decide (l=k))]:=by
 refine an ⟨1001,?_⟩;unfold k28;simp only[au,aW,bQ,EV,aj,aA,ah];by_cases h:l.length=k.length
 .rw[ac (by omega)];refine mO h (b9 (l:=l.zip k) (st:=λi=>[.i64 (i:Int)]) (λi x self hx _=>?_) (λ_ self=>?_) (by rw[dK h];omega))
  .obtain⟨hp,hq⟩:=fW hx;unfold Hc;simp only[au,bQ,aO hp (bL _),aL hp,aO hq (bL _),aL hq,eU,RX,EV,aj,aa,aA,ah,bc (aK hp),up1 (show i<1000000000 by have:=aK hp;omega)]
   grind
  .rw[dK h];unfold Hc;simp only[au,bQ,EV,aj,aa,bw,Pn]
 .rw[ad (by omega),ai (λe=>h (by rw[e]))]
def RY {l k:List Int}(hl:l.length<=1000):∃N,den (PhiS D) N Nn [] [sl I1 l,sl I1 k]=some [.bool (decide (l=k))]:=by
 refine⟨1001,?_⟩;unfold Nn;simp only[EV,aj,aA,ah];by_cases h:l.length=k.length
 .rw[ac (by omega)];refine mO h (b9 (l:=l.zip k) (st:=λi=>[.i64 (i:Int)]) (λi x self hx _=>?_) (λ_ self=>?_) (by rw[dK h];omega))
  .obtain⟨hp,hq⟩:=fW hx;unfold BN;simp only[aO hp (bJ _),aL hp,aO hq (bJ _),aL hq,cj,EV,aj,aa,aA,ah,bc (aK hp),up1 (show i<1000000000 by have:=aK hp;omega)]
   grind
  .rw[dK h];unfold BN;simp only[EV,aj,aa,bw,Je]
 .rw[ad (by omega),ai (λe=>h (by rw[e]))]
def vT {l k:List Int}(hl:l.length<=1000):Ans D 61 [sl I1 l,sl I1 k] [.bool (decide (l=k))]:=an (RY hl)
def ML {l k:List Int}(hl:l.length<=1000):Ans D 173 [sl I1 l,sl I1 k] [.bool (decide (l=k))]:=an (RY hl)
def abh {l k:List Bool}(hl:l.length<=1000):Ans D 234 [sl B1 l,sl B1 k] [.bool (decide (l=k))]:=by
 refine an ⟨1001,?_⟩;unfold WI;simp only[EV,aj,aA,ah];by_cases h:l.length=k.length
 .rw[ac (by omega)];refine mO h (b9 (l:=l.zip k) (st:=λi=>[.i64 (i:Int)]) (λi x self hx _=>?_) (λ_ self=>?_) (by rw[dK h];omega))
  .obtain⟨hp,hq⟩:=fW hx;unfold DA;simp only[aO hp (qn _),aL hp,aO hq (qn _),aL hq,rC,EV,aj,aa,bc (aK hp),up1 (show i<1000000000 by have:=aK hp;omega)]
   grind
  .rw[dK h];unfold DA;simp only[EV,aj,aa,bw,Lh]
 .rw[ad (by omega),ai (λe=>h (by rw[e]))]
def AV {l:List Pt}(h:g9 l):∀(d i:Nat) (p q:Pt),l[i]?=some p->l[i+d+1]?=some q->p.id<q.id
 |0,i,p,q,hp,hq=>h i p q hp hq
 |d+1,i,p,q,hp,hq=>by
  obtain⟨m,hm⟩:∃m,l[i+d+1]?=some m:=⟨l[i+d+1]'(by have:=aK hq;omega),ak _⟩;have h1:=AV h d i p m hp hm;have h2:=h (i+d+1) m q hm (by rw[<-hq];congr 1);omega
def gQ {l:List Pt}(h:g9 l){i j:Nat}{p q:Pt}(hij:i<j)(hp:l[i]?=some p)(hq:l[j]?=some q):p.id<q.id:=
 AV h (j-i-1) i p q hp (by rw[show i+(j-i-1)+1=j by omega];exact hq)
def cM {l:List Pt}(h:g9 l):Ids l:=by
 unfold Ids;rw[dt];intro i j x hi hj;rw[aT,bB] at hi hj;obtain⟨p,hp,rfl⟩:=hi;obtain⟨q,hq,e⟩:=hj;rcases ey i j with g|g|g
 .have:=gQ h g hp hq;omega
 .exact g
 .have:=gQ h g hq hp;omega
def LB (l:List Pt)(id:Int)(m:Nat):Prop:=m<=l.length/\∀(k:Nat) (p:Pt),l[k]?=some p->(k<m->p.id<id)/\(m<=k->id<=p.id)
def MM {a b:Nat}(h:a<1000000)(k:b<1000000):cT .shr .u64 (IntKind.u64.wrap (IntKind.i64.wrap ((a:Int)+(b:Int)))) .u64 1=some (.v (.int .u64 (((a+b)/2:Nat):Int))):=by
 rw[Ig,ac (by decide),cz (by omega) (by omega),i8,show min (1:Int).toNat IntKind.u64.bits=1 from rfl,gf _ (by decide)]
 congr 3
 omega
def vU {N:Nat}{f:JT}{e0 e2:PV}{l:List Pt}{id:Int}(hs:g9 l)(hl:l.length<=1000):∀(m i j:Nat),j-i<m->i<=j->j<=l.length->(∀(k:Nat) (p:Pt),l[k]?=some p->(k<i->p.id<id)/\(j<=k->id<=p.id))->
  ∃P,LB l id P/\ denW (PhiS D) N qQ [f] [e0,.i64 id,F l,sl row l,e2] m [.i64 (i:Int),.i64 (j:Int)]=f [.i64 (P:Int)]
 |0,i,j,h,_,_,_=>by omega
 |m+1,i,j,h,hij,hj,hb=>by
  rw[bG];by_cases hlt:i<j
  .obtain⟨p,hp⟩:∃p,l[(i+j)/2]?=some p:=⟨l[(i+j)/2]'(by omega),ak _⟩;have key:∀self:JT,den (PhiS D) N qQ ([f]++[self]) ([e0,.i64 id,F l,sl row l,e2]++[.i64 (i:Int),.i64 (j:Int)])=if p.id<id then self [.i64 (((i+j)/2+1:Nat):Int),.i64 (j:Int)] else self [.i64 (i:Int),.i64 (((i+j)/2:Nat):Int)]:=λself=>by
    unfold qQ;simp only[EV,aa,bc hlt,MM (show i<1000000 by omega) (show j<1000000 by omega),cz (show-9223372036854775808<=(((i+j)/2:Nat):Int) by omega) (by omega),bQ,aO hp (bL p),aL hp,eU,fK,phi (td _ _),LL,up1 (show(i+j)/2<1000000000 by omega)]
    by_cases c:p.id<id
    .rw[ad c,ad (show sgn (p.id-id)<0 by unfold sgn;rw[ad (by omega)];decide)]
    .rw[ac c,ac (show¬sgn (p.id-id)<0 by unfold sgn;rw[ac (by omega)];split<;>decide)]
   rw[key];by_cases c:p.id<id
   .rw[ad c];refine vU hs hl m _ j (by omega) (by omega) hj λk q hq=>⟨λhk=>?_,(hb k q hq).2⟩;by_cases e:k=(i+j)/2
    .subst e;rw[hp] at hq;cases hq;exact c
    .have:=gQ hs (show k<(i+j)/2 by omega) hq hp;omega
   .rw[ac c];refine vU hs hl m i _ (by omega) (by omega) (by omega) λk q hq=>⟨(hb k q hq).1,λhk=>?_⟩;by_cases e:k=(i+j)/2
    .subst e;rw[hp] at hq;cases hq;omega
    .have:=gQ hs (show(i+j)/2<k by omega) hp hq;omega
  .refine⟨i,⟨by omega,λk p hp=>⟨(hb k p hp).1,λh=>(hb k p hp).2 (by omega)⟩⟩,?_⟩;unfold qQ;simp only[EV,aa];rw[ac (by omega)]
def AW {l:List Pt}{id:Int}:(∀p∈l,p.id≠id)->pos l id= -1:=λh=>by
 unfold pos ql;rw[gm.2 (λp hp=>ai (h p hp))];rfl
def vV {l:List Pt}(hs:g9 l){i:Nat}{p:Pt}(h:l[i]?=some p):pos l p.id=i:=by
 unfold pos ql;have:l.findIdx? (λq=>decide (q.id=p.id))=some i:=by
  rw[b8];have hi:=aK h;have e:=(aC.1 h).2;refine⟨hi,by rw[e];simp,λj hj=>?_⟩;have:=gQ hs hj (ak (by omega)) h;simp;omega
 rw[this];rfl
def pos_cases (l:List Pt)(id:Int):(pos l id= -1/\∀p∈l,p.id≠id)\/∃(i:Nat) (p:Pt),l[i]?=some p/\ p.id=id/\ pos l id=(i:Nat):=by
 unfold pos ql;cases h:l.findIdx? (λq=>decide (q.id=id)) with
 |none=>
  grind
 |some i=>
  obtain⟨h1,h2,_⟩:=b8.1 h
  grind
def rD {e0:PV}{l:List Pt}{id:Int}(hs:g9 l)(hl:l.length<=1000):∃P:Nat,LB l id P/\(0<=pos l id->pos l id=P)/\∀(K2 K1:K) (J:List JT),K2=(.jp K1 (.lt (.bin .lss) [.x 5,.x 4] (.br (.x 6) (.lt (.cell 0) [.x 2] (.lt (.tix 3) [.x 7,.x 5] (.lt (.elt 0 3) [.x 7,.x 8] (.lt (.cell 0) [.x 9] (.call 220 [.x 10,.x 1] (.lt (.bin .eql) [.x 11,.c (.i64 0)] (.jmp 0 [.x 12]))))))) (.jmp 0 [.c (.bool false)]))))->
  denW (PhiS D) 1001 qQ [mD (PhiS D) 1001 K2 [] [e0,.i64 id,F l,sl row l,.i64 (l.length:Int)]] [e0,.i64 id,F l,sl row l,.i64 (l.length:Int)] 1001 [.i64 0,.i64 (l.length:Int)]=den (PhiS D) 1001 K1 [] [e0,.i64 id,F l,sl row l,.i64 (l.length:Int),.i64 (P:Int),.bool (decide (0<=pos l id))]:=by
 have hbin:=λf:JT=>vU (N:=1001) (f:=f) (e0:=e0) (e2:= .i64 (l.length:Int)) (id:=id) hs hl 1001 0 l.length (by omega) (by omega) (by omega) λk p hp=>⟨λh=>by omega,λh=>by have:=aK hp;omega⟩;have uniq:∀P P2,LB l id P->LB l id P2->P=P2:=λP P2 h h'=>by
  rcases ey P P2 with g|g|g
  .obtain⟨p,hp⟩:∃p,l[P]?=some p:=⟨l[P]'(by have:=h'.1;omega),ak _⟩;have h1:=(h.2 P p hp).2 (aD _);have h2:=(h'.2 P p hp).1 g;omega
  .exact g
  .obtain⟨p,hp⟩:∃p,l[P2]?=some p:=⟨l[P2]'(by have:=h.1;omega),ak _⟩;have h1:=(h'.2 P2 p hp).2 (aD _);have h2:=(h.2 P2 p hp).1 g;omega
 obtain⟨P,hLB,_⟩:=hbin λ_=>none;obtain⟨h1,h2⟩:=hLB;have hpos:(0<=pos l id->pos l id=P)/\(0<=pos l id↔∃p,l[P]?=some p/\ p.id=id):=by
  rcases pos_cases l id with⟨e,hn⟩|⟨i,p,hp,he,e⟩
  .refine⟨λh=>by omega,λh=>by omega,λ⟨p,hp,he⟩=>absurd he (hn p (aB hp))⟩
  .have:i=P:=by
    rcases ey i P with g|g|g
    .have:=(h2 i p hp).1 g;omega
    .exact g
    .obtain⟨q,hq⟩:∃q,l[P]?=some q:=⟨l[P]'(by have:=aK hp;omega),ak _⟩;have:=(h2 P q hq).2 (by omega);have:=gQ hs g hq hp;omega
   subst this;exact⟨λ_=>e,λ_=>⟨p,hp,he⟩,λ_=>by omega⟩
 refine⟨P,⟨h1,h2⟩,hpos.1,λK2 K1 J hK=>?_⟩;obtain⟨P2,hLB',h3⟩:=hbin (mD (PhiS D) 1001 K2 [] [e0,.i64 id,F l,sl row l,.i64 (l.length:Int)]);have:=uniq P P2 ⟨h1,h2⟩ hLB';subst this;refine h3.trans ?_;subst hK;simp only[EV,aa];by_cases hP:P<l.length
 .obtain⟨p,hp⟩:∃p,l[P]?=some p:=⟨l[P],ak _⟩;simp only[bc hP,au,bQ,aO hp (bL p),aL hp,eU,fK,phi (td _ _),EV];have:decide (sgn (p.id-id)=0)=decide (0<=pos l id):=by
   rw[bU,AT,hpos.2];constructor
   .intro h;exact⟨p,hp,by omega⟩
   .rintro⟨q,hq,h⟩;rw[hp] at hq;cases hq;omega
  rw[this]
 .rw[ac (by omega)];rw[ai (show¬0<=pos l id by rw[hpos.2];rintro⟨p,hp,_⟩;have:=aK hp;omega)]
def dH {l:List Pt}:eg l=0↔okF l:=by
 unfold eg okF
 grind
def ea {l:List Pt}(h:okF l){i:Nat}{p:Pt}(hp:l[i]?=some p):p.ok=true:=aQ.1 h.2.1 p (aB hp)
def yq {l:List Pt}(h:okF l){i:Nat}{p:Pt}(hp:l[i]?=some p):decide (0<=pos l p.id)=true/\ pos l p.id=(i:Nat):=by
 have:=vV h.2.2 hp
 grind
def abi {l:List Pt}(h:okF l){i:Nat}{p:Pt}(hp:l[i]?=some p):Ans D 344 [F l,.i64 p.id] [.i64 (i:Int),.bool true]:=by
 obtain⟨P,_,h2,h1⟩:=rD (e0:=F l) (id:=p.id) h.2.2 (by have:=h.1;omega);obtain⟨e1,e2⟩:=yq h hp;have:P=i:=by have:=h2 (aU e1);omega
 subst this;refine an ⟨1001,?_⟩;unfold Yp;simp[aW,bQ,EV];refine(h1 _ DZ [] rfl).trans ?_;simp[DZ,EV,e1]
def abj {l:List Pt}(h:okF l){i:Nat}{p:Pt}(hp:l[i]?=some p):Ans D 288 [F l,.i64 p.id] [.i64 (i:Int),.i64 0]:=by
 have h0:=phi (qm l);rw[dH.2 h] at h0;refine am ?_;unfold Xw;simp[aW,EV,h0,phi (abi h hp)]
def OO (p:Pt):RF.ev .flat [PP p]=some (PP p):=rfl
def Gy {l:List Pt}(h:okF l){i:Nat}{p:Pt}(hp:l[i]?=some p):Ans D 235 [F l,.i64 p.id] [PP p,.i64 0]:=by
 refine am ?_;unfold WJ;simp[aW,bQ,EV,phi (abj h hp),aO hp (bL p),aL hp,eU]
def RZ {l:List Pt}{t:Rt}(h:okF l)(ht:bi t)(hr:rok t=true){i j:Nat}{p q:Pt}(hp:l[i]?=some p)(hq:l[j]?=some q)(hne:p.id≠q.id):Ans D 176 [F l,R t,.i64 p.id,.i64 q.id] [.bool (leads t p q)]:=by
 have h0:=phi (AS (p:=p) (q:=q) ht);rw[jm (ea h hp) (ea h hq) hr hne] at h0;refine am ?_;unfold VA;simp[aW,aY,jl,EV,phi (Gy h hp),phi (Gy h hq),h0]
def MN {l:List Pt}(h:okF l){i:Nat}{p:Pt}(hp:l[i]?=some p):Ans D 349 [F l,.i64 p.id] [.i64 (i:Int),.bool true]:=by
 obtain⟨P,_,h2,h1⟩:=rD (e0:=F l) (id:=p.id) h.2.2 (by have:=h.1;omega);obtain⟨e1,e2⟩:=yq h hp;have:P=i:=by have:=h2 (aU e1);omega
 subst this;refine an ⟨1001,?_⟩;unfold Nv;simp[aW,bQ,EV];refine(h1 _ xz [] rfl).trans ?_;simp[xz,EV,e1]
def Zw {l:List Pt}(h:okF l){id:Int}(hn:∀p∈l,p.id≠id):∃P:Nat,Ans D 349 [F l,.i64 id] [.i64 (P:Int),.bool false]:=by
 obtain⟨P,_,_,h1⟩:=rD (e0:=F l) (id:=id) h.2.2 (by have:=h.1;omega);refine⟨P,an ⟨1001,?_⟩⟩;unfold Nv;simp[aW,bQ,EV];refine(h1 _ xz [] rfl).trans ?_;simp only[AW hn];rfl
def bo (l:List Pt)(id:Int):Pt:=(l.find? λp=>decide (p.id=id)).getD ⟨-1,0,0⟩
def kQ {l:List Pt}(h:okF l){i:Nat}{p:Pt}(hp:l[i]?=some p):bo l p.id=p:=by
 unfold bo;cases e:l.find? λq=>decide (q.id=p.id) with
 |none=>rw[List.find?_eq_none] at e;have:=e p (aB hp);simp at this
 |some q=>
  have h1:=qk e;exact(cM h.2.2).inj (jb e) (aB hp) (aU h1)
def zx {l:List Pt}{id:Int}(hn:∀p∈l,p.id≠id):bo l id=⟨-1,0,0⟩:=by
 unfold bo;rw[List.find?_eq_none.2 (λp hp=>by simpa using hn p hp)]
 rfl
def has_cases (l:List Pt)(id:Int):(∀p∈l,p.id≠id)\/∃(i:Nat) (p:Pt),l[i]?=some p/\ p.id=id:=by
 rcases pos_cases l id with⟨_,h⟩|⟨i,p,h1,h2,_⟩
 .exact .inl h
 .grind
def Gz {l:List Pt}(h:okF l)(id:Int):Ans D 193 [F l,.i64 id] [PP (bo l id)]:=by
 obtain⟨P,_,h2,h1⟩:=rD (e0:=F l) (id:=id) h.2.2 (by have:=h.1;omega);refine an ⟨1001,?_⟩;unfold VZ;simp only[au,aW,bQ,EV,aj];refine(h1 _ Dd [] rfl).trans ?_;unfold Dd;rcases has_cases l id with hn|⟨i,p,hp,rfl⟩
 .have a3:RF.ev .agg [.i64 (-1),.i64 0,.i64 0]=some (PP ⟨-1,0,0⟩):=rfl;rw[AW hn,ai (by decide)];simp only[au,aW,bQ,EV,aV,ay,a3,OO,zx hn]
 .obtain⟨e1,e2⟩:=yq h hp;have:P=i:=by have:=h2 (aU e1);omega
  subst this;rw[e1];simp only[au,aW,bQ,EV,aJ,aw,ax,aO hp (bL p),aL hp,eU,OO,kQ h hp]
structure Crt where
 low:Int
 high:Int
 deriving DecidableEq
structure Held where
 number:Int
 cert:Crt
 deriving DecidableEq
structure Hnd where
 index:Int
 use:Int
 deriving DecidableEq
structure Evt where
 time:Rt
 number:Int
 hnd:Hnd
 deriving DecidableEq
structure Due where
 number:Int
 hnd:Hnd
 deriving DecidableEq
structure Nod where
 id:Int
 left:Int
 right:Int
 deriving DecidableEq
structure Certs where
 next:Int
 list:List Held
 deriving DecidableEq
structure Agenda where
 slots:Slots
 heap:List Evt
 wher:List Int
 deriving DecidableEq
structure Clock where
 now:Rt
 pts:List Pt
 certs:Certs
 agenda:Agenda
 due:List Due
 deriving DecidableEq
structure Brk where
 places:List Int
 wins:List Int
 deriving DecidableEq
structure Tree where
 root:Int
 nodes:List Nod
 deriving DecidableEq
structure KHeap where
 clock:Clock
 heap:List Int
 deriving DecidableEq
structure KTourn where
 clock:Clock
 brk:Brk
 deriving DecidableEq
structure Heater where
 clock:Clock
 tree:Tree
 deriving DecidableEq
structure Choice where
 tag:Int
 heap:KHeap
 tourn:KTourn
 heater:Heater
 hanger:KHeap
 deriving DecidableEq
def cv (c:Crt):List PV:=[.i64 c.low,.i64 c.high]
def hrow (h:Held):List PV:=[.i64 h.number,.i64 h.cert.low,.i64 h.cert.high]
def cw (e:Evt):List PV:=[.i64 e.time.num,.i64 e.time.den,.i64 e.number,.i64 e.hnd.index,.i64 e.hnd.use]
def cF (d:Due):List PV:=[.i64 d.number,.i64 d.hnd.index,.i64 d.hnd.use]
def cL (n:Nod):List PV:=[.i64 n.id,.i64 n.left,.i64 n.right]
def CP (c:Crt):PV:= .agg (cv c)
def HP (h:Held):PV:= .agg (hrow h)
def EP (e:Evt):PV:= .agg (cw e)
def DP (d:Due):PV:= .agg (cF d)
def NP (n:Nod):PV:= .agg (cL n)
def csC (c:Certs):List PV:=[.i64 c.next,sl hrow c.list]
def slC (s:Slots):List PV:=[sl I1 s.uses,sl B1 s.used,sl I1 s.free]
def agC (a:Agenda):List PV:=slC a.slots++[sl cw a.heap,sl I1 a.wher]
def clC (c:Clock):List PV:= .i64 c.now.num:: .i64 c.now.den::sl row c.pts::(csC c.certs++(agC c.agenda++[sl cF c.due]))
def brC (b:Brk):List PV:=[sl I1 b.places,sl I1 b.wins]
def trC (t:Tree):List PV:=[.i64 t.root,sl cL t.nodes]
def khC (k:KHeap):List PV:=clC k.clock++[sl I1 k.heap]
def ktC (k:KTourn):List PV:=clC k.clock++brC k.brk
def htC (k:Heater):List PV:=clC k.clock++trC k.tree
def MP (c:Choice):List PV:= .v (.int .u8 c.tag)::(khC c.heap++(ktC c.tourn++(htC c.heater++khC c.hanger)))
def CS (c:Certs):PV:= .agg (csC c)
def SL (s:Slots):PV:= .agg (slC s)
def AG (a:Agenda):PV:= .agg (agC a)
def CL (c:Clock):PV:= .agg (clC c)
def BR (b:Brk):PV:= .agg (brC b)
def TR (t:Tree):PV:= .agg (trC t)
def KH (k:KHeap):PV:= .agg (khC k)
def KT (k:KTourn):PV:= .agg (ktC k)
def HT (k:Heater):PV:= .agg (htC k)
def CHO (c:Choice):PV:= .agg (MP c)
def vW (c:Crt):ct 0 2 (cv c)=some (CP c):=rfl
def jn (h:Held):ct 0 3 (hrow h)=some (HP h):=rfl
def Ak (h:Held):ct 1 2 (hrow h)=some (CP h.cert):=rfl
def GA (h:Held):ct 0 0 (hrow h)=some (.i64 h.number):=rfl
def Zx (h:Held):ct 1 0 (hrow h)=some (.i64 h.cert.low):=rfl
def Zy (h:Held):ct 2 0 (hrow h)=some (.i64 h.cert.high):=rfl
def ly (e:Evt):ct 0 5 (cw e)=some (EP e):=rfl
def abk (d:Due):ct 0 3 (cF d)=some (DP d):=rfl
def AX (n:Nod):ct 0 3 (cL n)=some (NP n):=rfl
def kw (c:Crt):(cv c).length=2:=rfl
def eV (c:Held):(hrow c).length=3:=rfl
def jo (c:Evt):(cw c).length=5:=rfl
def vX (c:Due):(cF c).length=3:=rfl
def jU (c:Nod):(cL c).length=3:=rfl
section
variable (c:Certs)(s:Slots)(a:Agenda)(k:Clock)(b:Brk)(t:Tree)(kh:KHeap)(kt:KTourn)(ht:Heater)(ch:Choice)(cr:Crt)(h:Held)
theorem kx:RF.ev (.shape 2) [CP cr]=some (CP cr):=rfl
theorem oR:RF.ev (.cell 0) [CP cr]=some (.i64 cr.low):=rfl
theorem oT:RF.ev (.cell 1) [CP cr]=some (.i64 cr.high):=rfl
theorem iW:RF.ev (.cell 0) [HP h]=some (.i64 h.number):=rfl
theorem pHP:RF.ev (.part 1 2) [HP h]=some (CP h.cert):=rfl
theorem im:RF.ev (.shape 2) [CS c]=some (CS c):=rfl
theorem l9:RF.ev (.cell 0) [CS c]=some (.i64 c.next):=rfl
theorem eb:RF.ev (.cell 1) [CS c]=some (sl hrow c.list):=rfl
theorem jq:RF.ev (.shape 3) [SL s]=some (SL s):=rfl
theorem iw:RF.ev (.cell 0) [SL s]=some (sl I1 s.uses):=rfl
theorem jV:RF.ev (.cell 1) [SL s]=some (sl B1 s.used):=rfl
theorem iy:RF.ev (.cell 2) [SL s]=some (sl I1 s.free):=rfl
theorem jr:RF.ev (.shape 5) [AG a]=some (AG a):=rfl
theorem pAG:RF.ev (.part 0 3) [AG a]=some (SL a.slots):=rfl
theorem eW:RF.ev (.cell 3) [AG a]=some (sl cw a.heap):=rfl
theorem ky:RF.ev (.cell 4) [AG a]=some (sl I1 a.wher):=rfl
theorem cV:RF.ev (.shape 11) [CL k]=some (CL k):=rfl
theorem eR:RF.ev (.part 0 2) [CL k]=some (R k.now):=rfl
theorem iz:RF.ev (.part 2 1) [CL k]=some (F k.pts):=rfl
theorem nJ:RF.ev (.part 3 2) [CL k]=some (CS k.certs):=rfl
theorem mb:RF.ev (.part 5 5) [CL k]=some (AG k.agenda):=rfl
theorem jW:RF.ev (.cell 2) [CL k]=some (sl row k.pts):=rfl
theorem eS:RF.ev (.cell 4) [CL k]=some (sl hrow k.certs.list):=rfl
theorem iA:RF.ev (.cell 8) [CL k]=some (sl cw k.agenda.heap):=rfl
theorem iX:RF.ev (.cell 9) [CL k]=some (sl I1 k.agenda.wher):=rfl
theorem dw:RF.ev (.cell 10) [CL k]=some (sl cF k.due):=rfl
theorem iY:RF.ev (.shape 2) [BR b]=some (BR b):=rfl
theorem me:RF.ev (.cell 0) [BR b]=some (sl I1 b.places):=rfl
theorem gH:RF.ev (.cell 1) [BR b]=some (sl I1 b.wins):=rfl
theorem oU:RF.ev (.shape 2) [TR t]=some (TR t):=rfl
theorem MQ:RF.ev (.cell 0) [TR t]=some (.i64 t.root):=rfl
theorem js:RF.ev (.cell 1) [TR t]=some (sl cL t.nodes):=rfl
theorem jX:RF.ev (.shape 12) [KH kh]=some (KH kh):=rfl
theorem pKH:RF.ev (.part 0 11) [KH kh]=some (CL kh.clock):=rfl
theorem cKH:RF.ev (.cell 11) [KH kh]=some (sl I1 kh.heap):=rfl
theorem qo:RF.ev (.shape 13) [KT kt]=some (KT kt):=rfl
theorem pKT:RF.ev (.part 0 11) [KT kt]=some (CL kt.clock):=rfl
theorem vY:RF.ev (.part 11 2) [KT kt]=some (BR kt.brk):=rfl
theorem qp:RF.ev (.shape 13) [HT ht]=some (HT ht):=rfl
theorem pHT:RF.ev (.part 0 11) [HT ht]=some (CL ht.clock):=rfl
theorem GB:RF.ev (.part 11 2) [HT ht]=some (TR ht.tree):=rfl
theorem eG:RF.ev (.shape 51) [CHO ch]=some (CHO ch):=rfl
theorem cCH:RF.ev (.cell 0) [CHO ch]=some (.v (.int .u8 ch.tag)):=rfl
theorem yr:RF.ev (.part 1 12) [CHO ch]=some (KH ch.heap):=rfl
theorem yu:RF.ev (.part 13 13) [CHO ch]=some (KT ch.tourn):=rfl
theorem yw:RF.ev (.part 26 13) [CHO ch]=some (HT ch.heater):=rfl
theorem yx:RF.ev (.part 39 12) [CHO ch]=some (KH ch.hanger):=rfl
end
def gSl (s:Slots):Bool:=decide (210<s.uses.length)||decide (210<s.used.length)||decide (210<s.free.length)
def gAg (a:Agenda):Bool:=gSl a.slots||decide (210<a.heap.length)||decide (210<a.wher.length)
def gF (l:List Pt):Bool:=(decide (16<l.length)&& decide (l.length<64))||decide (70<l.length)
def gCl (c:Clock):Bool:=decide (40<c.certs.list.length)||decide (40<c.due.length)||gF c.pts||gAg c.agenda
def gKh (k:KHeap):Bool:=gCl k.clock||decide (70<k.heap.length)
def gKt (k:KTourn):Bool:=gCl k.clock||(decide (70<k.brk.places.length)||decide (70<k.brk.wins.length))
def gHt (k:Heater):Bool:=gCl k.clock||decide (70<k.tree.nodes.length)
def gCh (c:Choice):Bool:=gKh c.heap||gKt c.tourn||gHt c.heater||gKh c.hanger
def OP (b:Nat):decide ((210:Int)<(b:Int))=decide (210<b):=bU.2 (by omega)
def GC (b:Nat):decide ((70:Int)<(b:Int))=decide (70<b):=bU.2 (by omega)
def abl (s:Slots):Ans D 171 [SL s] [.bool (gSl s)]:=by
 refine am ?_;unfold Vv gSl;simp[jq,iw,jV,iy,EV,Kj,OP]
 grind
def abm (a:Agenda):Ans D 107 [AG a] [.bool (gAg a)]:=by
 refine am ?_;unfold T6 gAg;simp[jr,pAG,eW,ky,EV,Jo,OP,phi (abl _)]
 grind
def c19 (l:List Pt):Ans D 26 [F l] [.bool (gF l)]:=by
 refine am ?_;unfold k19 gF;simp[aW,bQ,EV,Pi,GC]
 grind
def GD (c:Clock):Ans D 54 [CL c] [.bool (gCl c)]:=by
 refine am ?_;unfold TF gCl;simp[cV,eS,dw,iz,mb,EV,Ja,phi (c19 _),phi (abm _)]
 grind
def abn (b:Brk):Ans D 105 [BR b] [.bool (decide (70<b.places.length)||decide (70<b.wins.length))]:=by
 refine am ?_;unfold T4;simp[iY,me,gH,EV,Jn,GC]
 grind
def abo (t:Tree):Ans D 106 [TR t] [.bool (decide (70<t.nodes.length))]:=by
 refine am ?_;unfold T5;simp[oU,js,EV,GC]
def d35 (k:KHeap):∃N,den (PhiS D) N k35 [] [KH k]=some [.bool (gKh k)]:=by
 refine⟨1,?_⟩;unfold k35 gKh;simp[jX,pKH,cKH,EV,Po,GC,phi (GD _)]
 grind
def c36 (k:KTourn):Ans D 51 [KT k] [.bool (gKt k)]:=by
 refine am ?_;unfold k36 gKt;simp[qo,pKT,vY,EV,Pp,phi (GD _),phi (abn _)]
 grind
def c37 (k:Heater):Ans D 52 [HT k] [.bool (gHt k)]:=by
 refine am ?_;unfold k37 gHt;simp[qp,pHT,GB,EV,Pq,phi (GD _),phi (abo _)]
 grind
def c7 (c:Choice):Ans D 23 [CHO c] [.bool (gCh c)]:=by
 refine am ?_;unfold k7 gCh;simp[eG,yr,yu,yw,yx,EV,Ts,phi (an (g:=50) (d35 _)),phi (c36 _),phi (c37 _),phi (an (g:=53) (d35 _))]
 grind
def MS (a b c x y z:Int):RF.ev (.eqv [.i,.i,.i]) [.agg [.i64 a,.i64 b,.i64 c],.agg [.i64 x,.i64 y,.i64 z]]=some (.bool (decide (a=x/\ b=y/\ c=z))):=by
 have:RF.ev (.eqv [.i,.i,.i]) [.agg [.i64 a,.i64 b,.i64 c],.agg [.i64 x,.i64 y,.i64 z]]=some (.bool (decide (a=x)&&(decide (b=y)&&(decide (c=z)&& true)))):=rfl;simp_all
def abp (p q:Held):RF.ev (.eqv [.i,.i,.i]) [HP p,HP q]=some (.bool (decide (p=q))):=by
 obtain⟨a,b,c⟩:=p;obtain⟨x,y,z⟩:=q;refine(MS ..).trans ?_;simp_all
def abq (p q:Due):RF.ev (.eqv [.i,.i,.i]) [DP p,DP q]=some (.bool (decide (p=q))):=by
 obtain⟨a,b,c⟩:=p;obtain⟨x,y,z⟩:=q;refine(MS ..).trans ?_;simp_all
def R0 (p q:Nod):RF.ev (.eqv [.i,.i,.i]) [NP p,NP q]=some (.bool (decide (p=q))):=by
 obtain⟨a,b,c⟩:=p;obtain⟨x,y,z⟩:=q;refine(MS ..).trans ?_;simp_all
def R1 (a b x y:Int):RF.ev (.eqv [.i,.i]) [.agg [.i64 a,.i64 b],.agg [.i64 x,.i64 y]]=some (.bool (decide (a=x/\ b=y))):=by
 have:RF.ev (.eqv [.i,.i]) [.agg [.i64 a,.i64 b],.agg [.i64 x,.i64 y]]=some (.bool (decide (a=x)&&(decide (b=y)&& true))):=rfl;simp_all
def tg (p q:Crt):RF.ev (.eqv [.i,.i]) [CP p,CP q]=some (.bool (decide (p=q))):=by
 obtain⟨a,b⟩:=p;obtain⟨x,y⟩:=q;refine(R1 ..).trans ?_;simp_all
def AY (p q:Rt):RF.ev (.eqv [.i,.i]) [R p,R q]=some (.bool (decide (p=q))):=by
 obtain⟨a,b⟩:=p;obtain⟨x,y⟩:=q;refine(R1 ..).trans ?_;simp_all
def R2 (p q:Evt):RF.ev (.eqv [.i,.i,.i,.i,.i]) [EP p,EP q]=some (.bool (decide (p=q))):=by
 obtain⟨⟨a,b⟩,c,d,e⟩:=p;obtain⟨⟨x,y⟩,z,u,v⟩:=q;have:RF.ev (.eqv [.i,.i,.i,.i,.i]) [EP ⟨⟨a,b⟩,c,⟨d,e⟩⟩,EP ⟨⟨x,y⟩,z,⟨u,v⟩⟩]=some (.bool (decide (a=x)&&(decide (b=y)&&(decide (c=z)&&(decide (d=u)&&(decide (e=v)&& true)))))):=rfl;rw[this]
 congr 2
 grind
def abr {s t:Slots}(h:gSl s=false):Ans D 172 [SL s,SL t] [.bool (decide (s=t))]:=by
 unfold gSl at h;simp at h;refine am ?_;unfold Vw;simp only[au,jq,iw,jV,iy,EV,Kk,phi (ML (l:=s.uses) (k:=t.uses) (by omega)),phi (abh (l:=s.used) (k:=t.used) (by omega)),phi (ML (l:=s.free) (k:=t.free) (by omega)),aa];obtain⟨a,b,c⟩:=s;obtain⟨x,y,z⟩:=t;by_cases h1:a=x<;>by_cases h2:b=y<;>simp[h1,h2]
def abs {s t:Agenda}(h:gAg s=false):Ans D 112 [AG s,AG t] [.bool (decide (s=t))]:=by
 unfold gAg at h;simp only[cg,ah] at h;refine an ⟨1001,?_⟩;unfold Ub;obtain⟨a,b,c⟩:=s;obtain⟨x,y,z⟩:=t;simp only[au,jr,pAG,eW,ky,EV,aj,phi (abr h.1.1),phi (ML (l:=c) (k:=z) (show c.length<=1000 by have:=h.2;simp only at this;omega)),aA,ah]
 by_cases h1:a=x
 .by_cases h2:c=z
  .subst h1;subst h2;simp only[cJ,ax];by_cases h3:b.length=y.length
   .rw[ac (by omega)];refine(mO (l:=b) (k:=y) h3 (b9 (l:=b.zip y) (st:=λi=>[.i64 (i:Int)]) (λi x self hx _=>?_) (λ_ self=>?_) (by have:=h.1.2;rw[dK h3];simp only at this;omega))).trans ?_
    .obtain⟨hp,hq⟩:=fW hx;unfold B6;simp only[au,eW,aO hp (jo _),aL hp,aO hq (jo _),aL hq,ly,R2,EV,aj,aa,aA,ah,bc (aK hp),up1 (show i<1000000000 by have:=aK hp;have:=h.1.2;simp only at this;omega)]
     grind
    .rw[dK h3];unfold B6;simp only[au,eW,EV,aj,aa,bw,Jt]
    .simp[Agenda.mk.injEq]
   .rw[ad (by omega),ai (λe=>h3 (by cases e;rfl))]
  .rw[ac (by simp[h1]),ad h2,ai (λe=>h2 (by cases e;rfl))]
 .rw[ad h1,ai (λe=>h1 (by cases e;rfl))]
def abt {s t:Certs}(h:s.list.length<=1000):Ans D 111 [CS s,CS t] [.bool (decide (s=t))]:=by
 refine an ⟨1001,?_⟩;unfold Ua;obtain⟨a,b⟩:=s;obtain⟨x,y⟩:=t;simp only at h;simp only[au,im,l9,eb,EV,aj,aA,ah];by_cases h1:a=x
 .subst h1;simp only[cJ,ax];by_cases h3:b.length=y.length
  .rw[ac (by omega)];refine(mO (l:=b) (k:=y) h3 (b9 (l:=b.zip y) (st:=λi=>[.i64 (i:Int)]) (λi x self hx _=>?_) (λ_ self=>?_) (by rw[dK h3];omega))).trans ?_
   .obtain⟨hp,hq⟩:=fW hx;unfold B5;simp only[au,eb,aO hp (eV _),aL hp,aO hq (eV _),aL hq,jn,abp,EV,aj,aa,aA,ah,bc (aK hp),up1 (show i<1000000000 by have:=aK hp;omega)]
    grind
   .rw[dK h3];unfold B5;simp only[au,eb,EV,aj,aa,bw,Jr]
   .simp_all
  .rw[ad (by omega),ai (λe=>h3 (by cases e;rfl))]
 .simp_all
structure gW (s:Clock):Prop where
 certs:s.certs.list.length<=1000
 due:s.due.length<=1000
 pts:s.pts.length<=1000
 ag:gAg s.agenda=false
def n7 {s:Clock}(h:gCl s=false):gW s:=by
 unfold gCl gF at h;simp at h;obtain⟨⟨⟨h1,h2⟩,h3,h3'⟩,h4⟩:=h;exact⟨by omega,by omega,by omega,h4⟩
def Am {s t:Clock}(h:gW s):Ans D 60 [CL s,CL t] [.bool (decide (s=t))]:=by
 obtain⟨h1,h2,h3,h4⟩:=h;obtain⟨a,b,c,d,e⟩:=s;obtain⟨x,y,z,u,v⟩:=t;simp only at h1 h2 h3 h4;refine an ⟨1001,?_⟩;unfold TH;simp only[au,cV,eR,iz,nJ,mb,dw,AY,EV,aj,aA,ah,phi (c28 (l:=b) (k:=y) (by omega)),phi (abt (s:=c) (t:=z) (by omega)),phi (abs (t:=u) h4)];by_cases e1:a=x
 .by_cases e2:b=y
  .by_cases e3:c=z
   .by_cases e4:d=u
    .subst e1;subst e2;subst e3;subst e4;simp only[cJ,ax];by_cases e5:e.length=v.length
     .rw[ac (by omega)];refine(mO (l:=e) (k:=v) e5 (b9 (l:=e.zip v) (st:=λi=>[.i64 (i:Int)]) (λi x self hx _=>?_) (λ_ self=>?_) (by rw[dK e5];omega))).trans ?_
      .obtain⟨hp,hq⟩:=fW hx;unfold BM;simp only[au,dw,aO hp (vX _),aL hp,aO hq (vX _),aL hq,abk,abq,EV,aj,aa,aA,ah,bc (aK hp),up1 (show i<1000000000 by have:=aK hp;omega)]
       grind
      .rw[dK e5];unfold BM;simp only[au,dw,EV,aj,aa,bw,Jd]
      .simp[Clock.mk.injEq]
     .rw[ad (by omega),ai (λh=>e5 (by cases h;rfl))]
    .rw[ac (by simp[e1]),ac (by simp[e2]),ac (by simp[e3]),ad e4,ai (λh=>e4 (by cases h;rfl))]
   .rw[ac (by simp[e1]),ac (by simp[e2]),ad e3,ai (λh=>e3 (by cases h;rfl))]
  .rw[ac (by simp[e1]),ad e2,ai (λh=>e2 (by cases h;rfl))]
 .rw[ad e1,ai (λh=>e1 (by cases h;rfl))]
def abu {s t:Brk}(h:s.places.length<=1000)(k:s.wins.length<=1000):Ans D 109 [BR s,BR t] [.bool (decide (s=t))]:=by
 refine am ?_;unfold T8;obtain⟨a,b⟩:=s;obtain⟨x,y⟩:=t;simp[iY,me,gH,EV,Jp,phi (vT (l:=a) (k:=x) h),phi (vT (l:=b) (k:=y) k)];by_cases e1:a=x<;>by_cases e2:b=y<;>simp[e1]
def R3 {s t:Tree}(h:s.nodes.length<=1000):Ans D 110 [TR s,TR t] [.bool (decide (s=t))]:=by
 refine an ⟨1001,?_⟩;unfold T9;obtain⟨a,b⟩:=s;obtain⟨x,y⟩:=t;simp only at h;simp only[au,oU,MQ,js,EV,aj,aA,ah];by_cases h1:a=x
 .subst h1;simp only[cJ,ax];by_cases h3:b.length=y.length
  .rw[ac (by omega)];refine(mO (l:=b) (k:=y) h3 (b9 (l:=b.zip y) (st:=λi=>[.i64 (i:Int)]) (λi x self hx _=>?_) (λ_ self=>?_) (by rw[dK h3];omega))).trans ?_
   .obtain⟨hp,hq⟩:=fW hx;unfold B4;simp only[au,js,aO hp (jU _),aL hp,aO hq (jU _),aL hq,AX,R0,EV,aj,aa,aA,ah,bc (aK hp),up1 (show i<1000000000 by have:=aK hp;omega)]
    grind
   .rw[dK h3];unfold B4;simp only[au,js,EV,aj,aa,bw,Jq]
   .simp[Tree.mk.injEq]
  .rw[ad (by omega),ai (λe=>h3 (by cases e;rfl))]
 .rw[ad h1,ai (λe=>h1 (by cases e;rfl))]
def d51 {s t:KHeap}(h:gW s.clock/\ s.heap.length<=1000):∃N,den (PhiS D) N k51 [] [KH s,KH t]=some [.bool (decide (s=t))]:=by
 unfold k51;obtain⟨a,b⟩:=s;obtain⟨x,y⟩:=t;simp only at h;simp[jX,pKH,cKH,EV,Pr,phi (Am (t:=x) h.1),phi (vT (l:=b) (k:=y) (by omega))];by_cases e1:a=x<;>by_cases e2:b=y<;>simp[e1]
def OQ {s:KHeap}(h:gKh s=false):gW s.clock/\ s.heap.length<=1000:=by
 unfold gKh at h;simp at h;exact⟨n7 h.1,by omega⟩
def R4 {s t:KHeap}(h:gW s.clock/\ s.heap.length<=1000):Ans D 56 [KH s,KH t] [.bool (decide (s=t))]:=an (d51 h)
def R5 {s t:KHeap}(h:gW s.clock/\ s.heap.length<=1000):Ans D 59 [KH s,KH t] [.bool (decide (s=t))]:=an (d51 h)
def c51 {s t:KHeap}(h:gKh s=false):Ans D 56 [KH s,KH t] [.bool (decide (s=t))]:=R4 (OQ h)
def c54 {s t:KHeap}(h:gKh s=false):Ans D 59 [KH s,KH t] [.bool (decide (s=t))]:=R5 (OQ h)
def R6 {s t:KTourn}(h:gW s.clock/\ s.brk.places.length<=1000/\ s.brk.wins.length<=1000):Ans D 57 [KT s,KT t] [.bool (decide (s=t))]:=by
 refine am ?_;unfold k52;obtain⟨a,b⟩:=s;obtain⟨x,y⟩:=t;simp only at h;simp[qo,pKT,vY,EV,Ps,phi (Am (t:=x) h.1),phi (abu (s:=b) (t:=y) (by omega) (by omega))];by_cases e1:a=x<;>by_cases e2:b=y<;>simp[e1]
def R7 {s t:Heater}(h:gW s.clock/\ s.tree.nodes.length<=1000):Ans D 58 [HT s,HT t] [.bool (decide (s=t))]:=by
 refine am ?_;unfold k53;obtain⟨a,b⟩:=s;obtain⟨x,y⟩:=t;simp only at h;simp[qp,pHT,GB,EV,Pu,phi (Am (t:=x) h.1),phi (R3 (s:=b) (t:=y) (by omega))];by_cases e1:a=x<;>by_cases e2:b=y<;>simp[e1]
def c52 {s t:KTourn}(h:gKt s=false):Ans D 57 [KT s,KT t] [.bool (decide (s=t))]:=by
 unfold gKt at h;simp at h;exact R6 ⟨n7 h.1,by omega,by omega⟩
def c53 {s t:Heater}(h:gHt s=false):Ans D 58 [HT s,HT t] [.bool (decide (s=t))]:=by
 unfold gHt at h;simp at h;exact R7 ⟨n7 h.1,by omega⟩
end Go.Proofs.YtndgdhbpojakpaaGreat
namespace Go.Sym
open Go.Sym
def dV {α β:Type}(g:β->α->Option β):β->List α->Option β
 |x,[]=>some x
 |x,a::l=>match g x a with
  |some y=>dV g y l
  |none=>none
section
variable {Φ:PhT}{N:Nat}{b:K}{J:List JT}{e:List PV}{α β:Type}{l:List α}
def rE {g:β->α->Option β}{I:β->Prop}{S:β->Nat->List PV}{fin:β->Option (List PV)}{r:Option (List PV)}{x:β}(h0:I x)(hi:∀a acc acc',I acc->g acc a=some acc'->I acc')(hs:∀i a acc self,l[i]?=some a->I acc->den Φ N b (J++[self]) (e++S acc i)=match g acc a with|some acc'=>self (S acc' (i+1))|none=>r)
  (hf:∀acc self,I acc->dV g x l=some acc->den Φ N b (J++[self]) (e++S acc l.length)=fin acc) {m:Nat} (hm:l.length<m):denW Φ N b J e m (S x 0)=match dV g x l with|some acc=>fin acc|none=>r:=by
 have:∀(k:List α) i m acc,l.drop i=k->i<=l.length->k.length<m->I acc->dV g x l=dV g acc k->denW Φ N b J e m (S acc i)=match dV g acc k with|some acc=>fin acc|none=>r:=by
  intro k;induction k with
  |nil=>
   intro i m acc h hi' hm hI hx;obtain⟨m,rfl⟩:∃m',m=m'+1:=⟨m-1,by omega⟩;have:=jh h hi';have hil:i=l.length:=by simpa using this
   rw[bG,hil];exact hf _ _ hI hx
  |cons a k ih=>
   intro i m acc h hi' hm hI hx;obtain⟨m,rfl⟩:∃m',m=m'+1:=⟨m-1,by omega⟩;obtain⟨h1,h2⟩:=uK h;have:=jh h hi';simp only[bj] at hm this;rw[bG,hs i a acc _ h1 hI];have hu:dV g acc (a::k)=match g acc a with|some y=>dV g y k|none=>none:=rfl
   rw[hu] at hx|-;cases hg:g acc a with
   |none=>rfl
   |some acc'=>
    rw[hg] at hx;exact ih (i+1) m _ h2 (by omega) (by omega) (hi a acc acc' hI hg) hx
 exact this l 0 m x rfl (by omega) hm h0 rfl
end
end Go.Sym
namespace Go.Proofs.YtndgdhbpojakpaaGreat
open Go.Sym Bnd
set_option maxRecDepth 100000
def lz:∀(xs:List Int) (l:List Bool),lR l xs=dV (λl x=>if 0<=x/\ x<l.length/\ l[x.toNat]?=some false then some (l.set x.toNat true) else none) l xs
 |[],l=>rfl
 |x::xs,l=>by
  unfold lR dV;by_cases h:0<=x/\ x<l.length/\ l[x.toNat]?=some false
  .rw[ad h,ad h];exact lz xs _
  .rw[ac h,ac h]
def GE {l:List Bool}{i:Nat}(h:i<l.length):RF.ev (.set 0) [sl B1 l,.v (.int .i64 (i:Int)),.v (.bool true)]=some (sl B1 (l.set i true)):=by
 rw[yd,ad (by omega),aG,aT,ak h];exact aR (λx=>some (PV.sl x)) (pG (f:=B1) (l:=l) (i:=i) (a:=true)).symm
def ixM {i n:Nat}(h:i<n):RF.ev .ix [.v (.int .i64 (i:Int)),.v (.int .i64 (n:Int))]=some (.i64 (i:Int)):=by
 rw[Zc,ad (by omega)]
def qq {x:Int}(h:0<=x):∃n:Nat,x=(n:Int):=⟨x.toNat,by omega⟩
def bbE (a b:Bool):RF.ev (.bbin .eql) [.v (.bool a),.v (.bool b)]=some (.v (.bool (a==b))):=rfl
open Classical in
def abv (s:Slots)(hf:s.free.length<=1000):Ans D 229 [SL s] [.i64 (okE (decide s.okR))]:=by
 refine an ⟨1001,?_⟩;unfold WC;simp only[au,jq,iw,jV,iy,EV,aj,aa,aA,ah];have no:∀h:¬s.okR,(some [PV.v (.int .i64 8)]:Option (List PV))=some [.i64 (okE (decide s.okR))]:=λh=>by rw[ai h];rfl
 by_cases h1:s.uses.length<1
 .rw[ad (by omega)];exact no (λh=>by have:=h.1;omega)
 .rw[ac (by omega)];by_cases h2:200<s.uses.length
  .rw[ad (by omega)];exact no (λh=>by have:=h.2.1;omega)
  .rw[ac (by omega)];by_cases h3:s.used.length=s.uses.length
   .rw[ac (by omega)];by_cases h4:s.uses.length<s.free.length
    .rw[ad (by omega)];exact no (λh=>by have:=h.2.2.2.1;omega)
    .rw[ac (by omega)];have hrep:RF.ev (.rep [.v (.bool false)] 1) [.v (.int .i64 (s.uses.length:Int)),.v (.int .i64 (s.uses.length:Int))]=some (sl B1 (List.replicate s.uses.length false)):=by
      rw[Ie,ad ⟨by omega,by omega,by omega,by omega⟩,aG];show _=some (PV.sl ((List.replicate s.uses.length false).map B1))
      rw[nD];rfl
     simp only[hrep,nq,E0,Ih,au,EV,aj,aI];refine(rE (l:=s.free) (g:=λl x=>if 0<=x/\ x<l.length/\ l[x.toNat]?=some false then some (l.set x.toNat true) else none) (I:=λl=>l.length=s.uses.length) (S:=λl i=>[sl B1 l,.i64 (i:Int)]) (r:=some [.i64 8])
      (fin:=λ_=>some [.i64 (okE (decide s.okR))]) (x:=List.replicate s.uses.length false) (by simp) (λa acc acc' hI hg=>?_) (λi x acc self hx hI=>?_) (λacc self hI hm=>?_) (by omega)).trans ?_
     .split at hg
      .cases hg;simpa using hI
      .cases hg
     .unfold Dx;have hi:=aK hx;simp only[au,iy,aO hx (bJ _),aL hx,cj,EV,aj,aa,bc hi];by_cases c1:x<0
      .rw[ad c1,ac (by omega)]
      .rw[ac c1];by_cases c2:(s.uses.length:Int)<=x
       .rw[ad c2,ac (by rw[hI];omega)]
       .rw[ac c2];obtain⟨n,rfl⟩:=qq (show 0<=x by omega)
        obtain⟨b,hb⟩:∃b,acc[n]?=some b:=⟨acc[n]'(by omega),ak _⟩;simp only[au,iy,aO hx (bJ _),aL hx,cj,ixM (show n<s.uses.length by omega),aL hb,rC,GE (show n<acc.length by omega),EV,up1 (show i<1000000000 by omega)]
        cases b with
        |true=>rw[ad rfl,ac (by rw[aG,hb];simp)]
        |false=>rw[ac (by simp),ad ⟨by omega,by omega,by rw[aG];exact hb⟩,aG]
     .unfold Dx;simp only[au,iy,EV,aj,aa,bw,Lb];rw[<-lz] at hm;have hlist:(List.range s.uses.length).length=s.uses.length:=il;refine(ef (n:=s.uses.length) (P:=λi=>∀(u:Int) (b c:Bool),s.uses[i]?=some u->s.used[i]?=some b->acc[i]?=some c->0<=u/\ u<=1000000/\ b≠c/\¬(b=true/\ u<1)) (st:=λi=>[.i64 (i:Int)]) (r:=some [.i64 8]) (fin:=some [.i64 0]) (λi self hi _=>?_) (λ_ self=>?_) (by omega)).trans ?_
      .obtain⟨u,hu⟩:∃u,s.uses[i]?=some u:=⟨s.uses[i],ak _⟩;obtain⟨b,hb⟩:∃b,s.used[i]?=some b:=⟨s.used[i]'(by omega),ak _⟩;obtain⟨c,hc⟩:∃c,acc[i]?=some c:=⟨acc[i]'(by omega),ak _⟩;have hP:(∀(u':Int) (b' c':Bool),s.uses[i]?=some u'->s.used[i]?=some b'->acc[i]?=some c'->0<=u'/\ u'<=1000000/\ b'≠c'/\¬(b'=true/\ u'<1))↔(0<=u/\ u<=1000000/\ b≠c/\¬(b=true/\ u<1)):=
        ⟨λh=>h u b c hu hb hc,λh u' b' c' h1 h2 h3=>by rw[hu] at h1;rw[hb] at h2;rw[hc] at h3;cases h1;cases h2;cases h3;exact h⟩
       unfold Dw;simp only[hP,au,iw,jV,aO hu (bJ _),aL hu,cj,aO hb (qn _),aL hb,rC,ixM hi,aL hc,bbE,EV,aa,bc hi,La,up1 (show i<1000000000 by omega)]
       by_cases c1:u<0
       .simp only[ad c1,cI,ay];rw[ac (λh=>by omega)]
       .simp only[ac c1];by_cases c2:1000000<u
        .simp only[ad c2,cI,ay];rw[ac (λh=>by omega)]
        .simp only[ac c2];cases b<;>cases c<;>simp only[eJ,aw,ay,ax,cI,ne_eq,cJ,ez,fV,eP,dT,gC,aa,show(true==false)=false from rfl,show(false==true)=false from rfl,reduceCtorEq]
         .rw[ad (by omega)]
         .by_cases c3:u<1
          .rw[ad c3,ac (λh=>by omega)]
          .rw[ac c3,ad (by omega)]
      .unfold Dw;simp only[EV,aa,bw,K9]
      .have:(∀i,i<s.uses.length->∀(u:Int) (b c:Bool),s.uses[i]?=some u->s.used[i]?=some b->acc[i]?=some c->0<=u/\ u<=1000000/\ b≠c/\¬(b=true/\ u<1))↔s.okR:=by
        unfold Slots.okR;constructor
        .intro h;exact⟨by omega,by omega,h3,by omega,acc,hm,λi u b c hu hb hc=>h i (aK hu) u b c hu hb hc⟩
        .rintro⟨_,_,_,_,l,hl,h⟩ i hi u b c hu hb hc;rw[hm] at hl;cases hl;exact h i u b c hu hb hc
       by_cases hr:s.okR
       .rw[ad (this.2 hr),aq hr];rfl
       .rw[ac (λh=>hr (this.1 h)),ai hr];rfl
     .rw[<-lz];cases hm:lR (List.replicate s.uses.length false) s.free with
      |some l=>rfl
      |none=>exact no (λh=>by obtain⟨_,_,_,_,l,hl,_⟩:=h;rw[hm] at hl;cases hl)
   .rw[ad (by omega)];exact no (λh=>h3 h.2.2.1)
def evLess (x y:Evt):Bool:=decide (sgn (crs x.time y.time)<0)||(decide (sgn (crs x.time y.time)=0)&& decide (x.number<y.number))
def yy (e:Evt):RF.ev (.shape 5) [EP e]=some (EP e):=rfl
def pEP (e:Evt):RF.ev (.part 0 2) [EP e]=some (R e.time):=rfl
def th (e:Evt):RF.ev (.cell 2) [EP e]=some (.i64 e.number):=rfl
def R8 {x y:Evt}(hx:bi x.time)(hy:bi y.time):Ans D 231 [EP x,EP y] [.bool (evLess x y)]:=by
 refine am ?_;unfold WE evLess;simp[yy,pEP,th,EV,phi (aa5 hx hy),Lf]
 grind
def HD (h:Hnd):PV:= .agg [.i64 h.index,.i64 h.use]
def vZ (h:Hnd):RF.ev (.shape 2) [HD h]=some (HD h):=rfl
def v6 (h:Hnd):RF.ev (.cell 0) [HD h]=some (.i64 h.index):=rfl
def R9 (h:Hnd):RF.ev (.cell 1) [HD h]=some (.i64 h.use):=rfl
def OS (e:Evt):ct 3 2 (cw e)=some (HD e.hnd):=rfl
def OT (e:Evt):ct 3 0 (cw e)=some (.i64 e.hnd.index):=rfl
def Zz (e:Evt):ct 2 0 (cw e)=some (.i64 e.number):=rfl
def fL (s:Slots)(h:Hnd):Prop:=0<=h.index/\ s.used[h.index.toNat]?=some true/\ s.uses[h.index.toNat]?=some h.use
open Classical in
def MU {s:Slots}(hs:s.used.length=s.uses.length)(h:Hnd):Ans D 233 [SL s,HD h] [.bool (decide (fL s h))]:=by
 refine am ?_;unfold WH;simp only[au,jq,vZ,v6,R9,iw,jV,EV,aj,aa,Lg,be];by_cases h1:0<=h.index
 .rw[ad h1];obtain⟨n,hn⟩:=qq h1;obtain⟨ix,us⟩:=h;simp only at hn;subst hn;by_cases h2:n<s.uses.length
  .obtain⟨u,hu⟩:∃u,s.uses[n]?=some u:=⟨s.uses[n],ak _⟩;obtain⟨b,hb⟩:∃b,s.used[n]?=some b:=⟨s.used[n]'(by omega),ak _⟩;simp only[bc h2,au,v6,R9,iw,jV,aO hu (bJ _),aL hu,cj,aO hb (qn _),aL hb,rC,EV];have:decide (fL s ⟨(n:Int),us⟩)=(b&& decide (u=us)):=by rw[dE];simp[fL,hu,hb]
   grind
  .rw[ac (show¬((n:Int)<(s.uses.length:Int)) by omega),ai (λhh=>by
    have h3:=(aC.1 hh.2.2).1;exact h2 h3)]
 .rw[ac h1,ai (λhh=>h1 hh.1)]
def m9 (a:Agenda):Prop:=a.wher.length=a.slots.uses.length/\ a.heap.length+a.slots.free.length=a.slots.uses.length/\
 ∀(i:Nat) (b:Bool) (w u:Int),a.slots.used[i]?=some b->a.wher[i]?=some w->a.slots.uses[i]?=some u->if b=true then 0<=w/\∃e,a.heap[w.toNat]?=some e/\ e.hnd=⟨i,u⟩ else w= -1
open Classical in
def abw {a:Agenda}(hs:a.slots.used.length=a.slots.uses.length)(hl:a.slots.uses.length<=1000)(hf:a.slots.free.length<=1000):Ans D 230 [AG a] [.bool (decide (m9 a))]:=by
 have cAG0:RF.ev (.cell 0) [AG a]=some (sl I1 a.slots.uses):=rfl;have cAG1:RF.ev (.cell 1) [AG a]=some (sl B1 a.slots.used):=rfl;have cAG2:RF.ev (.cell 2) [AG a]=some (sl I1 a.slots.free):=rfl;refine an ⟨1001,?_⟩;unfold WD;simp only[au,jr,cAG0,cAG2,eW,ky,EV,aj,aa,aA,ah,cz (show-9223372036854775808<=(a.slots.uses.length:Int)-(a.slots.free.length:Int) by omega) (by omega)]
 by_cases h1:a.wher.length=a.slots.uses.length
 .rw[ac (by omega)];by_cases h2:a.heap.length+a.slots.free.length=a.slots.uses.length
  .rw[ac (by omega)];refine(ef (n:=a.slots.uses.length) (P:=λi=>∀(b:Bool) (w u:Int),a.slots.used[i]?=some b->a.wher[i]?=some w->a.slots.uses[i]?=some u->if b=true then 0<=w/\∃e,a.heap[w.toNat]?=some e/\ e.hnd=⟨i,u⟩ else w= -1) (st:=λi=>[.i64 (i:Int)]) (r:=some [.bool false]) (fin:=some [.bool true]) (λi self hi _=>?_) (λ_ self=>?_) (by omega)).trans ?_
   .obtain⟨u,hu⟩:∃u,a.slots.uses[i]?=some u:=⟨a.slots.uses[i],ak _⟩;obtain⟨b,hb⟩:∃b,a.slots.used[i]?=some b:=⟨a.slots.used[i]'(by omega),ak _⟩;obtain⟨w,hw⟩:∃w,a.wher[i]?=some w:=⟨a.wher[i]'(by omega),ak _⟩;have hP:(∀(b':Bool) (w' u':Int),a.slots.used[i]?=some b'->a.wher[i]?=some w'->a.slots.uses[i]?=some u'->if b'=true then 0<=w'/\∃e,a.heap[w'.toNat]?=some e/\ e.hnd=⟨i,u'⟩ else w'= -1)↔(if b=true then 0<=w/\∃e,a.heap[w.toNat]?=some e/\ e.hnd=⟨i,u⟩ else w= -1):=
     ⟨λh=>h b w u hb hw hu,λh b' w' u' h1 h2 h3=>by rw[hu] at h3;rw[hb] at h1;rw[hw] at h2;cases h1;cases h2;cases h3;exact h⟩
    unfold Dz;simp only[hP,au,cAG1,eW,ky,pAG,aO hb (qn _),aL hb,rC,aO hw (bJ _),aL hw,cj,EV,aj,aa,bc hi,Dy,up1 (show i<1000000000 by omega),aA,ah]
    cases b with
    |false=>
     simp only[aw,ax,cI,ay];by_cases c1:w= -1
     .rw[ac (by simp[c1]),ad c1]
     .rw[ad c1,ac c1]
    |true=>
     simp only[nA,ax,cI,ay];by_cases c1:w<0
     .rw[ad c1,ac (λh=>by omega)]
     .rw[ac c1];obtain⟨n,rfl⟩:=qq (show 0<=w by omega)
      by_cases c2:n<a.heap.length
      .obtain⟨e,he⟩:∃e,a.heap[n]?=some e:=⟨a.heap[n],ak _⟩;rw[ac (by omega)];simp only[au,eW,pAG,aO he (jo _),aL he,OT,OS,phi (MU hs _),EV,aA,ah,aG,he,bS,exists_eq_left',Dy,up1 (show i<1000000000 by omega)]
       by_cases c3:e.hnd.index=(i:Int)
       .rw[ac (by simp[c3])];have hlive:fL a.slots e.hnd↔e.hnd=⟨i,u⟩:=by
         unfold fL;rw[c3,aG,hb,hu];generalize e.hnd=q at c3|-;obtain⟨x,y⟩:=q;simp only at c3;subst c3;simp only[bS,Hnd.mk.injEq,dT];exact⟨λh=>h.2.symm,λh=>⟨by omega,h.symm⟩⟩
        by_cases c4:e.hnd=⟨i,u⟩
        .rw[ac (by simp[hlive.2 c4]),ad ⟨by omega,c4⟩]
        .rw[ad (λh=>c4 (hlive.1 h)),ac (λh=>c4 h.2)]
       .rw[ad c3,ac (λh=>c3 (by rw[h.2]))]
      .rw[ad (by omega),ac (λh=>by
        obtain⟨_,e,he,_⟩:=h;rw[aG] at he;exact c2 (aK he))]
   .unfold Dz;simp only[EV,aa,bw,Lc]
   .have:(∀i,i<a.slots.uses.length->∀(b:Bool) (w u:Int),a.slots.used[i]?=some b->a.wher[i]?=some w->a.slots.uses[i]?=some u->if b=true then 0<=w/\∃e,a.heap[w.toNat]?=some e/\ e.hnd=⟨i,u⟩ else w= -1)↔m9 a:=
     ⟨λh=>⟨h1,h2,λi b w u hb hw hu=>h i (aK hu) b w u hb hw hu⟩,λh i _=>h.2.2 i⟩
    by_cases hr:m9 a
    .rw[ad (this.2 hr),aq hr]
    .rw[ac (λh=>hr (this.1 h)),ai hr]
  .rw[ad (by omega),ai (λh=>h2 h.2.1)]
 .rw[ad (by omega),ai (λh=>h1 h.1)]
def nK (e:Evt):Prop:=rok e.time=true/\ 0<=e.number/\ e.number<=1000000
def gi (a:Agenda):Prop:=a.slots.okR/\ m9 a/\(∀e∈a.heap,nK e)/\(a.heap.map (·.number)).Nodup/\∀(i:Nat) (e p:Evt),a.heap[i+1]?=some e->a.heap[i/2]?=some p->evLess e p=false
def GF {i:Nat}(h:i<1000000):cT .quo .i64 (IntKind.i64.wrap (((i+1:Nat):Int)-1)) .i64 2=some (.v (.int .i64 ((i/2:Nat):Int))):=by
 rw[rz (by omega),If,ac (by decide),iP (by omega),cz (by omega) (by omega)];rfl
open Classical in
def MV {a:Agenda}(hl:a.heap.length<=1000)(hf:a.slots.free.length<=1000)(h64:∀e∈a.heap,bi e.time):Ans D 166 [AG a] [.i64 (okE (decide (gi a)))]:=by
 refine an ⟨1001,?_⟩;unfold Vr;have no:∀h:¬gi a,(some [PV.v (.int .i64 8)]:Option (List PV))=some [.i64 (okE (decide (gi a)))]:=λh=>by rw[ai h];rfl
 simp only[au,jr,pAG,EV,phi (abv a.slots hf),m7,aa];by_cases h1:a.slots.okR
 .have h1':=h1;obtain⟨g1,g2,g3,g4,_⟩:=h1';rw[ad h1];simp only[EV,phi (abw g3 (by omega) hf),aA,ah];by_cases h2:m9 a
  .rw[ac (by simp[h2])];refine(ef (n:=a.heap.length) (P:=λi=>∀e,a.heap[i]?=some e->nK e/\∀k,k<i->∀e',a.heap[k]?=some e'->e'.number≠e.number) (st:=λi=>[.i64 (i:Int)]) (r:=some [.i64 8]) (fin:=some [.i64 (okE (decide (∀(i:Nat) (e p:Evt),a.heap[i+1]?=some e->a.heap[i/2]?=some p->evLess e p=false)))]) (λi self hi _=>?_) (λ_ self=>?_) (by omega)).trans ?_
   .obtain⟨e,he⟩:∃e,a.heap[i]?=some e:=⟨a.heap[i],ak _⟩;have hP:(∀e',a.heap[i]?=some e'->nK e'/\∀k,k<i->∀x,a.heap[k]?=some x->x.number≠e'.number)↔(nK e/\∀k,k<i->∀x,a.heap[k]?=some x->x.number≠e.number):=
     ⟨λh=>h e he,λh e' h1=>by rw[he] at h1;cases h1;exact h⟩
    unfold CZ;simp only[hP,au,eW,aO he (jo _),aL he,ly,pEP,th,phi (nG (h64 e (aB he))),m7,EV,aj,aa,bc hi];cases c1:rok e.time with
    |false=>
     simp only[aw,ax];rw[ac (λh=>by rw[h.1.1] at c1;cases c1)]
    |true=>
     simp only[ay];by_cases c2:e.number<0
     .rw[ad c2,ac (λh=>by have:=h.1.2;omega)]
     .rw[ac c2];by_cases c3:1000000<e.number
      .rw[ad c3,ac (λh=>by have:=h.1.2;omega)]
      .rw[ac c3];refine(ef (n:=i) (P:=λk=>∀x,a.heap[k]?=some x->x.number≠e.number) (st:=λi=>[.i64 (i:Int)]) (r:=some [.i64 8]) (fin:=self [.i64 ((i+1:Nat):Int)]) (λk self' hk _=>?_) (λ_ self'=>?_) (by omega)).trans ?_
       .obtain⟨x,hx⟩:∃x,a.heap[k]?=some x:=⟨a.heap[k]'(by omega),ak _⟩;have hQ:(∀y,a.heap[k]?=some y->y.number≠e.number)↔x.number≠e.number:=⟨λh=>h x hx,λh y hy=>by rw[hx] at hy;cases hy;exact h⟩;unfold CY;simp only[hQ,au,eW,aO hx (jo _),aL hx,Zz,th,EV,aa,bc hk,up1 (show k<1000000000 by omega)]
        by_cases c4:x.number=e.number
        .rw[ad c4,ac (by simp[c4])]
        .rw[ac c4,ad c4]
       .unfold CY;simp only[EV,aa,bw,Kh,up1 (show i<1000000000 by omega)]
       .by_cases c5:∀k,k<i->∀x,a.heap[k]?=some x->x.number≠e.number
        .rw[ad c5,ad ⟨⟨c1,by omega,by omega⟩,c5⟩]
        .rw[ac c5,ac (λh=>c5 h.2)]
   .unfold CZ;simp only[au,eW,EV,aj,aa,bw,Kg];refine(ef (n:=a.heap.length-1) (P:=λi=>∀e p,a.heap[i+1]?=some e->a.heap[i/2]?=some p->evLess e p=false) (st:=λi=>[.i64 ((i+1:Nat):Int)]) (r:=some [.i64 8]) (fin:=some [.i64 0]) (λi self hi _=>?_) (λ_ self=>?_) (by omega)).trans ?_
    .obtain⟨e,he⟩:∃e,a.heap[i+1]?=some e:=⟨a.heap[i+1],ak _⟩;obtain⟨p,hp⟩:∃p,a.heap[i/2]?=some p:=⟨a.heap[i/2]'(by omega),ak _⟩;have hQ:(∀e' p',a.heap[i+1]?=some e'->a.heap[i/2]?=some p'->evLess e' p'=false)↔evLess e p=false:=⟨λh=>h e p he hp,λh e' p' h1 h2=>by rw[he] at h1;rw[hp] at h2;cases h1;cases h2;exact h⟩;unfold CX;simp only[hQ,au,eW,aO he (jo _),aL he,ly,aO hp (jo _),aL hp,GF (show i<1000000 by omega),phi (R8 (h64 e (aB he)) (h64 p (aB hp))),jQ,EV,aj,aa,bc (aK he),up1 (show i+1<1000000000 by omega)]
     cases evLess e p<;>simp
    .unfold CX;simp only[au,eW,EV,aj,aa,Kf];rw[ac (by omega)]
    .have:(∀i,i<a.heap.length-1->∀e p,a.heap[i+1]?=some e->a.heap[i/2]?=some p->evLess e p=false)↔∀(i:Nat) (e p:Evt),a.heap[i+1]?=some e->a.heap[i/2]?=some p->evLess e p=false:=
      ⟨λh i e p he hp=>h i (by have:=aK he;omega) e p he hp,λh i _=>h i⟩
     by_cases hr:∀(i:Nat) (e p:Evt),a.heap[i+1]?=some e->a.heap[i/2]?=some p->evLess e p=false
     .rw[ad (this.2 hr),aq hr];rfl
     .rw[ac (λh=>hr (this.1 h)),ai hr];rfl
   .have:(∀i,i<a.heap.length->∀e,a.heap[i]?=some e->nK e/\∀k,k<i->∀e',a.heap[k]?=some e'->e'.number≠e.number)↔((∀e∈a.heap,nK e)/\(a.heap.map (·.number)).Nodup):=by
     rw[mF];constructor
     .intro h;refine⟨λe he=>?_,λi j x hj hi hjx=>?_⟩
      .obtain⟨i,hi⟩:=aN.1 he;exact(h i (aK hi) e hi).1
      .rw[aT,bB] at hi hjx;obtain⟨e,he,rfl⟩:=hi;obtain⟨e',he',h'⟩:=hjx;exact(h i (aK he) e he).2 j hj e' he' h'
     .rintro⟨h3,h4⟩ i hi e he;refine⟨h3 e (aB he),λk hk e' he' hn=>?_⟩;exact h4 i k e.number hk (by rw[aT,he];rfl) (by rw[aT,he',bX,hn])
    by_cases hr:(∀e∈a.heap,nK e)/\(a.heap.map (·.number)).Nodup
    .rw[ad (this.2 hr)]
     congr 4
     rw[bU];exact⟨λh=>⟨h1,h2,hr.1,hr.2,h⟩,λh=>h.2.2.2.2⟩
    .rw[ac (λh=>hr (this.1 h))];exact no (λh=>hr ⟨h.2.2.1,h.2.2.2.1⟩)
  .rw[ad h2];exact no (λh=>h2 h.2.1)
 .rw[ac h1];exact no (λh=>h1 h.1)
def Crt.ok (c:Crt):Prop:=0<=c.low/\ c.low<=65535/\ 0<=c.high/\ c.high<=65535/\ c.low≠c.high
instance (c:Crt):Decidable c.ok:=by unfold Crt.ok;infer_instance
def Sa (c:Crt):Ans D 228 [CP c] [.bool (decide c.ok)]:=by
 refine am ?_;unfold WA Crt.ok;simp[kx,oR,oT,EV,K8];by_cases h1:0<=c.low<;>by_cases h2:c.low<=65535<;>by_cases h3:0<=c.high<;>by_cases h4:c.high<=65535<;>simp[h1,h2,h3,h4]
def Sb (c:Crt):Ans D 214 [CP c] [.bool (decide c.ok)]:=by
 have m1:RF.ev (.mm false) [.i64 c.low,.i64 c.high]=some (.i64 (min c.low c.high)):=rfl;have m2:RF.ev (.mm true) [.i64 c.low,.i64 c.high]=some (.i64 (max c.low c.high)):=rfl;refine am ?_;unfold Wj Crt.ok;simp[kx,oR,oT,m1,m2,EV,KW];by_cases h1:0<=c.low<;>by_cases h2:c.low<=65535<;>by_cases h3:0<=c.high<;>by_cases h4:c.high<=65535<;>simp[h1,h2,h3,h4,Int.le_min,Int.max_le]
def cU (c:Certs):Prop:=c.list.length<=200/\ 0<=c.next/\ c.next<=1000000/\∀(i:Nat) (h:Held),c.list[i]?=some h->h.cert.ok/\ 0<=h.number/\ h.number<c.next/\(∀g,0<i->c.list[i-1]?=some g->g.number<h.number)/\∀k,k<i->∀g,c.list[k]?=some g->g.cert≠h.cert
open Classical in
def Sc (c:Certs):Ans D 164 [CS c] [.i64 (okE (decide (cU c)))]:=by
 refine an ⟨1001,?_⟩;unfold Vp;have no:∀h:¬cU c,(some [PV.v (.int .i64 8)]:Option (List PV))=some [.i64 (okE (decide (cU c)))]:=λh=>by rw[ai h];rfl
 simp only[au,im,l9,eb,EV,aj,aa];by_cases h1:200<c.list.length
 .rw[ad (by omega)];exact no (λh=>by have:=h.1;omega)
 .rw[ac (by omega)];by_cases h2:c.next<0
  .rw[ad h2];exact no (λh=>by have:=h.2.1;omega)
  .rw[ac h2];by_cases h3:1000000<c.next
   .rw[ad h3];exact no (λh=>by have:=h.2.2.1;omega)
   .rw[ac h3];refine(ef (n:=c.list.length) (P:=λi=>∀h,c.list[i]?=some h->h.cert.ok/\ 0<=h.number/\ h.number<c.next/\(∀g,0<i->c.list[i-1]?=some g->g.number<h.number)/\∀k,k<i->∀g,c.list[k]?=some g->g.cert≠h.cert) (st:=λi=>[.i64 (i:Int)]) (r:=some [.i64 8]) (fin:=some [.i64 0]) (λi self hi _=>?_) (λ_ self=>?_) (by omega)).trans ?_
    .obtain⟨h,hh⟩:∃h,c.list[i]?=some h:=⟨c.list[i],ak _⟩;have hP:(∀h',c.list[i]?=some h'->h'.cert.ok/\ 0<=h'.number/\ h'.number<c.next/\(∀g,0<i->c.list[i-1]?=some g->g.number<h'.number)/\∀k,k<i->∀g,c.list[k]?=some g->g.cert≠h'.cert)↔(h.cert.ok/\ 0<=h.number/\ h.number<c.next/\(∀g,0<i->c.list[i-1]?=some g->g.number<h.number)/\∀k,k<i->∀g,c.list[k]?=some g->g.cert≠h.cert):=
      ⟨λx=>x h hh,λx h' e=>by rw[hh] at e;cases e;exact x⟩
     have inner:∀(f:JT) (e0 e2 e3 e4 e5 e6 e7 e8 e10 e11 e12 e13 e14 e16 e17 e18 e19 e20:PV),den (PhiS D) 1001 o9 [f,self] [e0,CS c,e2,e3,e4,e5,e6,e7,e8,.i64 (i:Int),e10,e11,e12,e13,e14,HP h,e16,e17,e18,e19,e20,.v (.bool false)]=if(∀k,k<i->∀g,c.list[k]?=some g->g.cert≠h.cert) then self [.i64 ((i+1:Nat):Int)] else some [.i64 8]:=λf e0 e2 e3 e4 e5 e6 e7 e8 e10 e11 e12 e13 e14 e16 e17 e18 e19 e20=>by
      unfold o9;simp only[EV,aw,ax];refine(ef (m:=1001) (n:=i) (P:=λk=>∀g,c.list[k]?=some g->g.cert≠h.cert) (st:=λi=>[.i64 (i:Int)]) (r:=some [.i64 8]) (fin:=self [.i64 ((i+1:Nat):Int)]) (λk self' hk _=>?_) (λ_ self'=>?_) (by omega)).trans ?_
      .obtain⟨g,hg⟩:∃g,c.list[k]?=some g:=⟨c.list[k]'(by omega),ak _⟩;have hQ:(∀y,c.list[k]?=some y->y.cert≠h.cert)↔g.cert≠h.cert:=⟨λx=>x g hg,λx y hy=>by rw[hg] at hy;cases hy;exact x⟩;unfold CU;simp only[hQ,au,eb,aO hg (eV _),aL hg,Ak,pHP,tg,EV,aa,bc hk,up1 (show k<1000000000 by omega)]
       by_cases c4:g.cert=h.cert
       .rw[ad c4,ac (by simp[c4])]
       .rw[ac c4,ad c4]
      .unfold CU;simp only[EV,aa,bw,Kd,up1 (show i<1000000000 by omega)]
      .by_cases hq:∀k,k<i->∀g,c.list[k]?=some g->g.cert≠h.cert
       .rw[ad hq,ad hq]
       .rw[ac hq,ac hq]
     unfold CV;simp only[hP,au,l9,eb,aO hh (eV _),aL hh,jn,pHP,iW,phi (Sa _),EV,aj,aa,bc hi,aA,ah,be,bh];by_cases c1:h.cert.ok
     .rw[ac (iQ c1)];by_cases c2:h.number<0
      .rw[ad c2,ac (λx=>by have:=x.2.1;omega)];unfold o9;simp only[EV,cI,ay]
      .rw[ac c2];by_cases c3:c.next<=h.number
       .rw[ad c3,ac (λx=>by have:=x.2.2.1;omega)];unfold o9;simp only[EV,cI,ay]
       .rw[ac c3];cases i with
        |zero=>
         rw[ac (by omega)];refine(inner ..).trans ?_;rw[ad (λk hk=>by omega),ad ⟨c1,by omega,by omega,λg h0=>by omega,λk hk=>by omega⟩]
        |succ j=>
         obtain⟨g,hg⟩:∃g,c.list[j]?=some g:=⟨c.list[j]'(by omega),ak _⟩;rw[ad (by omega)];simp only[au,iW,rz (show j<1000000000 by omega),aO hg (eV _),aL hg,GA,EV,be]
         by_cases c4:h.number<=g.number
         .rw[aq c4,ac (λx=>by have:=x.2.2.2.1 g (by omega) (by simpa using hg);omega)]
          unfold o9;simp only[EV,cI,ay]
         .rw[ai c4];refine(inner ..).trans ?_;by_cases c5:∀k,k<j+1->∀g,c.list[k]?=some g->g.cert≠h.cert
          .rw[ad c5,ad ⟨c1,by omega,by omega,λg' _ hg'=>by
            rw[show j+1-1=j by omega,hg] at hg';cases hg';omega,c5⟩]
          .rw[ac c5,ac (λx=>c5 x.2.2.2.2)]
     .rw[ad c1,ac (λx=>c1 x.1)];unfold o9;simp only[EV,cI,ay]
    .unfold CV;simp only[au,eb,EV,aj,aa,bw,Kc]
    .have:(∀i,i<c.list.length->∀h,c.list[i]?=some h->h.cert.ok/\ 0<=h.number/\ h.number<c.next/\(∀g,0<i->c.list[i-1]?=some g->g.number<h.number)/\∀k,k<i->∀g,c.list[k]?=some g->g.cert≠h.cert)↔cU c:=
      ⟨λh=>⟨by omega,by omega,by omega,λi x hx=>h i (aK hx) x hx⟩,λh i _=>h.2.2.2 i⟩
     by_cases hr:cU c
     .rw[ad (this.2 hr),aq hr];rfl
     .rw[ac (λh=>hr (this.1 h)),ai hr];rfl
end Go.Proofs.YtndgdhbpojakpaaGreat
