import Derived.Test.YtfghdmmapmdcgaaGreatM3
import Derived.Test.YtfghdmmapmdcgaaGreatP1
import Derived.Test.YtfghdmmapmdcgaaGreatBcT
import Derived.IntWalk
set_option linter.unusedVariables false
set_option linter.unusedSimpArgs false
set_option linter.defProp false
noncomputable section
namespace Go.Sym
open Go.Sym
section
variable {Φ:PhT}{N:Nat}{b:K}{J:List JT}{e:List PV}
def dP {n:Nat}{st:Nat->List PV}{fin:Option (List PV)}(hs:∀i self,i<n->den Φ N b (J++[self]) (e++st i)=self (st (i+1)))
  (hf:∀self,den Φ N b (J++[self]) (e++st n)=fin):∀m,n<m->cS Φ N b J e m (st 0)=fin:=by
 have:∀d i m,i+d=n->d<m->cS Φ N b J e m (st i)=fin:=by
  intro d;induction d with
  |zero=>
   intro i m h hm;obtain⟨m,rfl⟩:∃m',m=m'+1:=⟨m-1,by omega⟩;rw[bc,show i=n by omega]
   exact hf _
  |succ d ih=>
   intro i m h hm;obtain⟨m,rfl⟩:∃m',m=m'+1:=⟨m-1,by omega⟩;rw[bc,hs i _ (by omega)]
   grind
 grind
def VP {n:Nat}{st:Nat->List PV}{P:Nat->Prop}{fin r:Option (List PV)}(hs:∀i self,i<n->(∀j,j<i->P j)->P i->den Φ N b (J++[self]) (e++st i)=self (st (i+1)))
  (hr:∀i self,i<n->(∀j,j<i->P j)->¬P i->den Φ N b (J++[self]) (e++st i)=r)
  (hf:(∀j,j<n->P j)->∀self,den Φ N b (J++[self]) (e++st n)=fin) {m:Nat} (hm:n<m):((∀j,j<n->P j)->cS Φ N b J e m (st 0)=fin)/\((¬∀j,j<n->P j)->cS Φ N b J e m (st 0)=r):=by
 have:∀d i m,i+d=n->d<m->(∀j,j<i->P j)->((∀j,j<n->P j)->cS Φ N b J e m (st i)=fin)/\((¬∀j,j<n->P j)->cS Φ N b J e m (st i)=r):=by
  intro d;induction d with
  |zero=>
   intro i m h hm hp;obtain⟨m,rfl⟩:∃m',m=m'+1:=⟨m-1,by omega⟩;have hin:i=n:=by omega
   subst hin;refine⟨λh=>?_,λh=>absurd hp h⟩;rw[bc];exact hf h _
  |succ d ih=>
   intro i m h hm hp;obtain⟨m,rfl⟩:∃m',m=m'+1:=⟨m-1,by omega⟩;rw[bc];by_cases hi:P i
   .grind
   .grind
 grind
open Classical in
def fD {n:Nat}{st:Nat->List PV}{P:Nat->Prop}{fin r:Option (List PV)}(hs:∀i self,i<n->(∀j,j<i->P j)->den Φ N b (J++[self]) (e++st i)=if P i then self (st (i+1)) else r)
  (hf:(∀j,j<n->P j)->∀self,den Φ N b (J++[self]) (e++st n)=fin) {m:Nat} (hm:n<m):cS Φ N b J e m (st 0)=if(∀j,j<n->P j) then fin else r:=by
 have:=VP (n:=n) (st:=st) (P:=P) (fin:=fin) (r:=r) (λi self h1 h2 h3=>by rw[hs i self h1 h2,ad h3]) (λi self h1 h2 h3=>by rw[hs i self h1 h2,ac h3]) hf hm
 grind
end
end Go.Sym
namespace Go.Proofs.YtfghdmmapmdcgaaGreat
open Go.Sym Bnd
set_option maxRecDepth 100000
def U (n:Nat):PV:= .v (.int .u64 (n:Int))
def phi {g:FuncId}{vs rs:List PV}(h:Ans D g vs rs):aY D g vs=some rs:=acY h
def Cl {n:Int}(h:I64 n):Ans D 116 [.i64 n] [U n.natAbs]:=by
 obtain⟨h1,h2⟩:=h;refine am ?_;unfold Zi;simp[EV];by_cases hn:n<0
 .rw[ad hn,kZ,kZ]
  congr 4
  omega
 .rw[ac hn,kZ]
  congr 4
  omega
def EZ {n:Int}(h:I64 n):Ans D 223 [.i64 n] [U n.natAbs]:=by
 obtain⟨h1,h2⟩:=h;refine am ?_;unfold aam;simp[EV];by_cases hn:n<0
 .rw[ad hn,kZ,kZ,IntKind.wrap_i64,IntKind.wrap_i64]
  congr 4
  omega
 .rw[ac hn,kZ]
  congr 4
  omega
def E0 {Φ:PhT}{N:Nat}{f:JT}{p q:PV}:∀(n a b:Nat),b<n->cS Φ N A8 [f] [p,q] n [U b,U a]=f [U (Nat.gcd b a)]
 |0,a,b,h=>by omega
 |n+1,a,b,h=>by
  rw[bc];unfold A8 U;simp[EV,ES];by_cases hb:0<b
  .rw[ad (by omega),ac (by omega)];simp[EV];have:=E0 (Φ:=Φ) (N:=N) (f:=f) (p:=p) (q:=q) n b (a% b) (by have:=Nat.mod_lt a hb;omega);unfold A8 U at this;rw[<-Nat.gcd_rec b a] at this;rw[<-this];rfl
  .rw[ac (by omega)];have:b=0:=by omega
   subst this;rw[Nat.gcd_zero_left]
def Xh (a b:Nat):Ans D 115 [U a,U b] [U (Nat.gcd b a)]:=by
 refine an ⟨b+1,?_⟩;unfold Zh;simp[EV];rw[E0 _ _ _ (gH b)];unfold N8 U;simp[EV]
def zx {Φ:PhT}{N:Nat}{f:JT}{p q:PV}:∀(n a b:Nat),b<n->cS Φ N Bi [f] [p,q] n [U b,U a]=f [U (Nat.gcd b a)]
 |0,a,b,h=>by omega
 |n+1,a,b,h=>by
  rw[bc];unfold Bi U;simp only[EV,ES,aF,ak];by_cases hb:0<b
  .rw[ad (by omega),ac (by omega)];simp;have:=zx (Φ:=Φ) (N:=N) (f:=f) (p:=p) (q:=q) n b (a% b) (by have:=Nat.mod_lt a hb;omega);unfold Bi U at this;rw[<-Nat.gcd_rec b a] at this;rw[<-this];rfl
  .rw[ac (by omega)];have:b=0:=by omega
   subst this;rw[Nat.gcd_zero_left]
def Xi (a b:Nat):Ans D 222 [U a,U b] [U (Nat.gcd b a)]:=by
 refine an ⟨b+1,?_⟩;unfold aal;simp[EV];rw[zx _ _ _ (gH b)];unfold Ph U;simp[EV]
def okE (b:Bool):Int:=if b then 0 else 8
def Kg {d:Int}(h:0<=d)(k:d<=9223372036854775807):PV.v (.int .u64 (IntKind.u64.wrap d))=U d.natAbs:=by
 rw[kZ]
 congr 2
 omega
def c43 {r:Rt}(h:aX r):Ans D 43 [R r] [.i64 (okE (rok r))]:=by
 obtain⟨⟨n1,n2⟩,d1,d2⟩:=h;refine am ?_;unfold k43 R;simp only[EV,aa,aA,bX,Nat.reduceAdd,phi (Cl ⟨n1,n2⟩)];by_cases hd:r.den<1
 .rw[ad hd];unfold rok;rw[aj (by omega)];rfl
 .rw[ac hd];by_cases hn:r.num= -9223372036854775808
  .rw[ad hn];unfold rok;rw[au hn];simp[okE]
  .rw[ac hn,Kg (by omega) d2,phi (Xh _ _)];simp only[EV,U,aa];have hg:0<Nat.gcd r.num.natAbs r.den.natAbs:=iO _ (by omega);unfold rok;by_cases h1:(Nat.gcd r.num.natAbs r.den.natAbs)=1
   .rw[ac (by omega),au h1,au (show 1<=r.den by omega),aj hn]
    rfl
   .rw[ad (by omega),aj h1,uZ];rfl
def Rv {r:Rt}(h:aX r):Ans D 128 [R r] [.i64 (okE (rok r))]:=by
 obtain⟨⟨n1,n2⟩,d1,d2⟩:=h;refine am ?_;unfold Zq R;simp only[EV,aa,aA,bX,Nat.reduceAdd,phi (EZ ⟨n1,n2⟩)];by_cases hd:r.den<1
 .rw[ad hd];unfold rok;rw[aj (by omega)];rfl
 .rw[ac hd];by_cases hn:r.num= -9223372036854775808
  .rw[ad hn];unfold rok;rw[au hn];simp[okE]
  .rw[ac hn,Kg (by omega) d2,phi (Xi _ _)];simp only[EV,U,aF,ak];unfold rok;rw[yL];by_cases h1:(Nat.gcd r.num.natAbs r.den.natAbs)=1
   .rw[ac (by omega),au h1,au (show 1<=r.den by omega),aj hn]
    rfl
   .rw[ad (by omega),aj h1,uZ];rfl
def K8 (r:Rt):Bool:=decide (r.num.natAbs<=1073741824)&& decide (r.den<=1024)
def mP (r:Rt):Int:=if rok r then(if K8 r then 0 else 2) else 8
def c44 {r:Rt}(h:aX r):Ans D 44 [R r] [.i64 (mP r)]:=by
 refine am ?_;unfold k44;have h0:=phi (c43 h);unfold R at h0|-;simp[EV,h0,phi (Cl h.1),U];unfold mP okE;cases rok r with
 |false=>rfl
 |true=>
  unfold K8
  grind
def c64 {r:Rt}(h:aX r):Ans D 64 [R r] [.i64 (mP r)]:=by
 refine am ?_;unfold k64;have h0:=phi (Rv h);unfold R at h0|-;simp[EV,h0];unfold mP okE;cases rok r with
 |false=>rfl
 |true=>
  unfold K8
  grind
def PP (p:Pt):PV:= .agg (row p)
def Rx (p:Pt):Ans D 239 [PP p] [.i64 (okE p.ok)]:=by
 refine am ?_;unfold aat PP row;simp[EV];unfold Pt.ok okE JD
 grind
def K9 (p:Pt):Ans D 270 [PP p] [.i64 (okE p.ok)]:=by
 refine am ?_;unfold aaO PP row;simp[EV,PJ,PK];unfold Pt.ok okE JD
 grind
end Go.Proofs.YtfghdmmapmdcgaaGreat
namespace Go.Sym
open Go.Sym
section
variable {Φ:PhT}{N:Nat}{b:K}{J:List JT}{e:List PV}{α β:Type}{l:List α}
def gI {i:Nat}{a:α}{k:List α}(h:l.drop i=a::k):l[i]?=some a/\ l.drop (i+1)=k:=by
 have hi:i<l.length:=by
  rcases sG i l.length with g|g
  .exact g
  .rw[List.drop_eq_nil_of_le g] at h;cases h
 rw[cB hi] at h
 grind
def li {i:Nat}{k:List α}(h:l.drop i=k)(hi:i<=l.length):i+k.length=l.length:=by
 grind
def jy {p:α->Bool}{st:Nat->List PV}{ret:Nat->Option (List PV)}{fin:Option (List PV)}(hs:∀i a self,l[i]?=some a->den Φ N b (J++[self]) (e++st i)=if p a=true then ret i else self (st (i+1)))
  (hf:∀self,den Φ N b (J++[self]) (e++st l.length)=fin) {m:Nat} (hm:l.length<m):cS Φ N b J e m (st 0)=(l.findIdx? p).elim fin ret:=by
 have:∀(k:List α) i m,l.drop i=k->i<=l.length->k.length<m->cS Φ N b J e m (st i)=(k.findIdx? p).elim fin (λj=>ret (j+i)):=by
  intro k;induction k with
  |nil=>
   intro i m h hi hm;obtain⟨m,rfl⟩:∃m',m=m'+1:=⟨m-1,by omega⟩;have:=li h hi;rw[bc,show i=l.length by simpa using this]
   exact hf _
  |cons a k ih=>
   intro i m h hi hm;obtain⟨m,rfl⟩:∃m',m=m'+1:=⟨m-1,by omega⟩;obtain⟨h1,h2⟩:=gI h;have:=li h hi;rw[bc,hs i a _ h1,jx];simp only[bA] at hm this;cases hp:p a with
   |true=>simp
   |false=>
    rw[ih (i+1) m h2 (by omega) (by omega)];cases k.findIdx? p<;>simp[df,lR 1 i]
 grind
def cw {p:α->Bool}{st:Nat->List PV}{fin r:Option (List PV)}(hs:∀i a self,l[i]?=some a->(l.take i).all p=true->den Φ N b (J++[self]) (e++st i)=if p a=true then self (st (i+1)) else r)
  (hf:l.all p=true->∀self,den Φ N b (J++[self]) (e++st l.length)=fin) {m:Nat} (hm:l.length<m):cS Φ N b J e m (st 0)=if l.all p=true then fin else r:=by
 have:∀(k:List α) i m,l.drop i=k->i<=l.length->k.length<m->(l.take i).all p=true->cS Φ N b J e m (st i)=if k.all p=true then fin else r:=by
  intro k;induction k with
  |nil=>
   intro i m h hi hm ht;obtain⟨m,rfl⟩:∃m',m=m'+1:=⟨m-1,by omega⟩;have:=li h hi;have hil:i=l.length:=by simpa using this
   rw[hil,cW] at ht;rw[bc,hil];exact hf ht _
  |cons a k ih=>
   intro i m h hi hm ht;obtain⟨m,rfl⟩:∃m',m=m'+1:=⟨m-1,by omega⟩;obtain⟨h1,h2⟩:=gI h;have:=li h hi;rw[bc,hs i a _ h1 ht,dt];simp only[bA] at hm this;cases hp:p a with
   |false=>simp
   |true=>
    simp only[aA,gm];refine ih (i+1) m h2 (by omega) (by omega) ?_;rw[cH,h1,oZ,ht];simp[hp]
 exact this l 0 m rfl (by omega) hm (by simp)
def iH {g:β->α->β}{I:Nat->β->Prop}{S:β->Nat->List PV}{fin:β->Option (List PV)}{x:β}(h0:I 0 x)(hi:∀i a acc,l[i]?=some a->I i acc->I (i+1) (g acc a))(hs:∀i a acc self,l[i]?=some a->I i acc->den Φ N b (J++[self]) (e++S acc i)=self (S (g acc a) (i+1)))
  (hf:∀acc self,I l.length acc->den Φ N b (J++[self]) (e++S acc l.length)=fin acc) {m:Nat} (hm:l.length<m):cS Φ N b J e m (S x 0)=fin (l.foldl g x)/\ I l.length (l.foldl g x):=by
 have:∀(k:List α) i m acc,l.drop i=k->i<=l.length->k.length<m->I i acc->cS Φ N b J e m (S acc i)=fin (k.foldl g acc)/\ I l.length (k.foldl g acc):=by
  intro k;induction k with
  |nil=>
   intro i m acc h hi' hm hI;obtain⟨m,rfl⟩:∃m',m=m'+1:=⟨m-1,by omega⟩;have:=li h hi';have hil:i=l.length:=by simpa using this
   rw[hil] at hI;rw[bc,hil]
   grind
  |cons a k ih=>
   intro i m acc h hi' hm hI;obtain⟨m,rfl⟩:∃m',m=m'+1:=⟨m-1,by omega⟩;obtain⟨h1,h2⟩:=gI h;have:=li h hi';simp only[bA] at hm this;rw[bc,hs i a acc _ h1 hI,cV];exact ih (i+1) m _ h2 (by omega) (by omega) (hi i a acc h1 hI)
 exact this l 0 m x rfl (by omega) hm h0
end
section
variable {α:Type}{f:α->List PV}{l:List α}
def aS {i z:Nat}{a:α}(h:l[i]?=some a)(hz:(f a).length=z):RF.ev (.tix z) [.sl (l.map f),.v (.int .i64 (i:Int))]=some (.i64 (i:Int)):=by
 rw[aeN,ad (by omega),aG,aW,h]
 grind
def aJ {i o n:Nat}{a:α}(h:l[i]?=some a):RF.ev (.elt o n) [.sl (l.map f),.v (.int .i64 (i:Int))]=cF o n (f a):=by
 rw[aeL,ad (by omega),aG,aW,h];rfl
def up1 {i:Nat}(h:i<1000000000):IntKind.i64.wrap ((i:Int)+1)=((i+1:Nat):Int):=by rw[bV (by omega) (by omega)];rfl
def vn {i:Nat}(h:i<1000000000):IntKind.i64.wrap (((i+1:Nat):Int)-1)=(i:Int):=by rw[bV (by omega) (by omega)];omega
def aN {i:Nat}{a:α}(h:l[i]?=some a):i<l.length:=(aD.1 h).1
def bi {i n:Nat}{γ:Type}{x y:γ}(h:i<n):(if(i:Int)<(n:Int) then x else y)=x:=ad (by omega)
def bK {n:Nat}{γ:Type}{x y:γ}:(if(n:Int)<(n:Int) then x else y)=y:=ac (by omega)
def bF:RF.ev .sub [.sl (l.map f),.v (.int .i64 0),.v (.int .i64 (l.length:Int))]=some (.sl (l.map f)):=by
 rw[td,ad ⟨by omega,by omega,by rw[ai];omega⟩,aG];simp;rw[bv (by simp)]
def fh {bytes z:Nat}{k:List α}(h:(l.length+k.length)*bytes<=140737488355328)(hz:∀a,(f a).length=z):RF.ev (.app bytes z) [.sl (l.map f),.v (.int .i64 (l.length:Int)),.sl (k.map f)]=some (.sl ((l++k).map f)):=by
 rw[aeM,ad]
 .rw[aG,bv (by simp)];simp
 .rw[ai,ai,aG];refine⟨by omega,by omega,h,?_⟩;cases k with
  |nil=>rfl
  |cons a k=>simp[dK,hz]
end
def lj {α:Type}(p:α->Bool)(l:List α):Int:=(l.findIdx? p).elim (-1) λi=>(i:Int)
def J6 {α:Type}{p:α->Bool}{l:List α}:0<=lj p l↔l.any p=true:=by
 unfold lj;cases h:l.findIdx? p with
 |none=>
  grind
 |some i=>
  obtain⟨h1,h2,_⟩:=bD.1 h
  grind
def zN {α:Type}{p:α->Bool}{l:List α}:decide (0<=lj p l)=l.any p:=by
 rw[d4,aa];exact J6
end Go.Sym
namespace Go.Proofs.YtfghdmmapmdcgaaGreat
open Go.Sym Bnd
set_option maxRecDepth 100000
def sgn (n:Int):Int:=if n<0 then-1 else if 0<n then 1 else 0
def uw {n:Int}{m:Nat}(h:n% 18446744073709551616=(m:Int)):PV.v (.int .u64 (IntKind.u64.wrap n))=U m:=by rw[kZ,h];rfl
def wu {n:Nat}(h:n<18446744073709551616):IntKind.u64.wrap (n:Int)=(n:Int):=by rw[kZ];omega
def adK (n:Nat):de .shr .u64 (n:Int) .u64 32=some (.v (.int .u64 ((n/4294967296:Nat):Int))):=by
 rw[Nc,ac (by decide),show min (32:Int).toNat IntKind.u64.bits=32 from rfl,it _ (by decide)]
 rfl
def La {n:Nat}(h:n<18446744073709551616):de .and .u64 (n:Int) .u64 4294967295=some (.v (.int .u64 ((n% 4294967296:Nat):Int))):=by
 show some (PV.v (.int .u64 (IntKind.u64.wrap (((BitVec.ofInt 64 (n:Int)&&& BitVec.ofInt 64 4294967295).toNat:Nat):Int))))=_
 rw[Kf h,wu (by omega)]
def vp {a b:Nat}(h:a+b<18446744073709551616):de .add .u64 (a:Int) .u64 (b:Int)=some (.v (.int .u64 ((a+b:Nat):Int))):=by
 rw[VB,<-Int.natCast_add,wu h]
def vq {a b:Nat}(h:a*b<18446744073709551616):de .mul .u64 (a:Int) .u64 (b:Int)=some (.v (.int .u64 ((a*b:Nat):Int))):=by
 rw[VC,<-Int.natCast_mul,wu h]
def Ry {x y:Nat}(hx:x<18446744073709551616)(hy:y<18446744073709551616):Ans D 289 [U x,U y] [U (x*y/18446744073709551616),U (x*y% 18446744073709551616)]:=by
 refine am ?_;have b0:=qm (a:=x% 4294967296) (b:=y% 4294967296) (by omega) (by omega);have b1:=qm (a:=x/4294967296) (b:=y% 4294967296) (by omega) (by omega);have b2:=qm (a:=x% 4294967296) (b:=y/4294967296) (by omega) (by omega);have b3:=qm (a:=x/4294967296) (b:=y/4294967296) (by omega) (by omega);have hh:=adf hx hy;have hl:x*y/18446744073709551616<18446744073709551616:=by
  grind
 have s1:(x/4294967296)*(y/4294967296)+((x/4294967296)*(y% 4294967296)+(x% 4294967296)*(y% 4294967296)/4294967296)/4294967296<18446744073709551616:=by omega
 unfold aa2 U;simp only[EV,La hx,La hy,adK,fN,vq (show x% 4294967296*(y% 4294967296)<18446744073709551616 by omega),vq (show x/4294967296*(y% 4294967296)<18446744073709551616 by omega),
  vq (show x% 4294967296*(y/4294967296)<18446744073709551616 by omega),vq (show x/4294967296*(y/4294967296)<18446744073709551616 by omega),
  vp (show x/4294967296*(y% 4294967296)+x% 4294967296*(y% 4294967296)/4294967296<18446744073709551616 by omega),
  La (show x/4294967296*(y% 4294967296)+x% 4294967296*(y% 4294967296)/4294967296<18446744073709551616 by omega),
  vp (show(x/4294967296*(y% 4294967296)+x% 4294967296*(y% 4294967296)/4294967296)% 4294967296+x% 4294967296*(y/4294967296)<18446744073709551616 by omega),
  vp s1,vp (show _<18446744073709551616 from hh▸hl)]
 rw[hh,<-Int.natCast_mul,kZ];rfl
def W (neg:Bool)(m:Nat):PV:= .agg [.bool neg,U (m/18446744073709551616),U (m% 18446744073709551616)]
def tQ {a:Int}(h:I64 a):a.natAbs<=9223372036854775808:=by obtain⟨h1,h2⟩:=h;omega
def ND {a b:Int}(h:I64 a)(k:I64 b):a.natAbs*b.natAbs<=85070591730234615865843651857942052864:=pO (tQ h) (tQ k)
def Xj {a b:Int}(h:I64 a)(k:I64 b):Ans D 213 [.i64 a,.i64 b] [W (decide (a<0) !=decide (b<0)) (a.natAbs*b.natAbs)]:=by
 refine am ?_;have h1:=tQ h;have h2:=tQ k;unfold aag;simp[EV,phi (Cl h),phi (Cl k),phi (Ry (show a.natAbs<18446744073709551616 by omega) (show b.natAbs<18446744073709551616 by omega))]
 rfl
def afv (a:Int):Ans D 287 [.i64 a] [.bool false]:=by
 refine am ?_;unfold aa0;simp[EV]
def afw (a:Int):Ans D 395 [.i64 a] [.bool false]:=by
 refine am ?_;unfold acg;simp[EV]
def lr (a b:Int):sgn (a-b)=if a<b then-1 else if b<a then 1 else 0:=by
 unfold sgn
 grind
def Xk (a b:Int):Ans D 211 [.i64 a,.i64 b] [.i64 (sgn (a-b))]:=by
 refine am ?_;unfold aae;simp[EV,phi (afv _),lr]
 grind
def xh (a b:Int):Ans D 354 [.i64 a,.i64 b] [.i64 (sgn (a-b))]:=by
 refine am ?_;unfold abO;simp[EV,phi (afw _),lr]
 grind
def afx (a:Nat):Ans D 359 [U a] [.bool false]:=by
 refine am ?_;unfold abP U;simp[EV]
def afy (a b:Nat):Ans D 288 [U a,U b] [.i64 (sgn ((a:Int)-b))]:=by
 have h:=λa=>phi (afx a);refine am ?_;unfold aa1;unfold U at h|-;simp[EV,h,lr]
 grind
def afz {n k:Bool}(a b:Nat):Ans D 212 [W n a,W k b] [.i64 (sgn ((a:Int)-b))]:=by
 refine am ?_;unfold aaf W;simp[EV,phi (afy _ _),lr]
 grind
def Kh (a b:Bool):max (okE a) (okE b)=okE (a&& b):=by cases a<;>cases b<;>rfl
def mm2 (a b:Int):RF.ev (.mm true) [.i64 a,.i64 b]=some (.i64 (max a b)):=rfl
def bU (r:Rt):RF.ev (.shape 2) [R r]=some (R r):=rfl
def nV (r:Rt):RF.ev (.cell 0) [R r]=some (.i64 r.num):=rfl
def nW (r:Rt):RF.ev (.cell 1) [R r]=some (.i64 r.den):=rfl
def afA {r s:Rt}(h:aX r)(k:aX s):Ans D 210 [R r,R s] [.i64 (okE (rok r&& rok s))]:=by
 refine am ?_;unfold aad;simp[bU,EV,phi (c43 h),phi (c43 k),mm2,Kh]
def crs (r s:Rt):Int:=r.num*s.den-s.num*r.den
def qa {b:Bool}{α:Type}{x y:α}:(if(!decide (okE b=0))=true then x else y)=if b=true then y else x:=by cases b<;>rfl
def nE {r:Rt}(h:rok r=true):1<=r.den:=by
 unfold rok at h
 grind
def kU (a b:Int):((a.natAbs*b.natAbs:Nat):Int)=if 0<=a*b then a*b else-(a*b):=by
 rw[<-Int.natAbs_mul];split<;>omega
def VQ (n:Int):sgn (-n)= -sgn n:=by unfold sgn;repeat' split;all_goals omega
def VS (n:Int): -1<=sgn n/\ sgn n<=1:=by unfold sgn;repeat' split;all_goals omega
def afB {r s:Rt}(h:aX r)(k:aX s):Ans D 117 [R r,R s] (if(rok r&& rok s)=true then [.i64 (sgn (crs r s)),.i64 0] else [.i64 0,.i64 8]):=by
 refine am ?_;unfold Zj;simp only[ax,bU,nV,nW,EV,phi (afA h k),qa,phi (Xk _ _),phi (Xj h.1 k.2),phi (Xj k.1 h.2),phi (afz _ _)];cases hok:rok r&& rok s with
 |false=>rfl
 |true=>
  simp only[aM] at hok;have d1:=nE hok.1;have d2:=nE hok.2;simp only[aA,N9,EV];have p1:(0<=r.num*s.den)↔0<=r.num:=by
   constructor
   .intro h;rcases Int.lt_or_le r.num 0 with g|g
    .have:=rd g (show 0<s.den by omega);omega
    .exact g
   .intro h;exact Int.mul_nonneg h (by omega)
  have p2:(0<=s.num*r.den)↔0<=s.num:=by
   constructor
   .intro h;rcases Int.lt_or_le s.num 0 with g|g
    .have:=rd g (show 0<r.den by omega);omega
    .exact g
   .intro h;exact Int.mul_nonneg h (by omega)
  by_cases h1:r.num<0<;>by_cases h2:s.num<0
  .rw[au h1,au h2];simp only[bne_self_eq_false,aq,aw,aA];rw[kU,kU,ac (show¬0<=r.num*s.den by omega),ac (show¬0<=s.num*r.den by omega)]
   unfold crs;rw[show-(r.num*s.den)- -(s.num*r.den)= -(r.num*s.den-s.num*r.den) by omega,VQ]
   have:=VS (r.num*s.den-s.num*r.den);rw[show(0:Int)- -sgn (r.num*s.den-s.num*r.den)=sgn (r.num*s.den-s.num*r.den) by omega,bV (by omega) (by omega)]
   rfl
  .rw[au h1,aj h2];have e1:sgn (r.num-s.num)= -1:=by unfold sgn;rw[ad (by omega)]
   have e2:sgn (crs r s)= -1:=by unfold sgn crs;rw[ad (by omega)]
   rw[e1,e2];rfl
  .rw[aj h1,au h2];have e1:sgn (r.num-s.num)=1:=by unfold sgn;rw[ac (by omega),ad (by omega)]
   have e2:sgn (crs r s)=1:=by unfold sgn crs;rw[ac (by omega),ad (by omega)]
   rw[e1,e2];rfl
  .rw[aj h1,aj h2];simp only[bne_self_eq_false,aq,aw];rw[kU,kU,ad (show 0<=r.num*s.den by omega),ad (show 0<=s.num*r.den by omega)]
   rfl
def afC {x y:Nat}(hx:x<18446744073709551616)(hy:y<18446744073709551616):Ans D 368 [U x,U y] [W false (x*y)]:=by
 refine am ?_;have b0:=qm (a:=x% 4294967296) (b:=y% 4294967296) (by omega) (by omega);have b1:=qm (a:=x/4294967296) (b:=y% 4294967296) (by omega) (by omega);have b2:=qm (a:=x% 4294967296) (b:=y/4294967296) (by omega) (by omega);have b3:=qm (a:=x/4294967296) (b:=y/4294967296) (by omega) (by omega);have sp:=D3 (x:=x) (y:=y);have q32:∀n:Nat,n<18446744073709551616->de .quo .u64 (n:Int) .u64 4294967296=some (.v (.int .u64 ((n/4294967296:Nat):Int))):=λn h=>by
  rw[ER,ac (by decide),iu (by omega),kZ]
  congr 3
  omega
 have r32:∀n:Nat,de .rem .u64 (n:Int) .u64 4294967296=some (.v (.int .u64 ((n% 4294967296:Nat):Int))):=λn=>by
  rw[ES,ac (by decide),Int.tmod_eq_emod_of_nonneg (by omega)];rfl
 generalize hA:x/4294967296*(y/4294967296)=A at*;generalize hB:x/4294967296*(y% 4294967296)=B at*;generalize hC:x% 4294967296*(y/4294967296)=C at*;generalize hE:x% 4294967296*(y% 4294967296)=E at*;have m32:de .mul .u64 (((C+(B+E/4294967296)% 4294967296)% 4294967296:Nat):Int) .u64 4294967296=some (.v (.int .u64 (((C+(B+E/4294967296)% 4294967296)% 4294967296*4294967296:Nat):Int))):=vq (b:=4294967296) (by omega);have mA:de .mul .u64 ((x/4294967296:Nat):Int) .u64 ((y/4294967296:Nat):Int)=some (.v (.int .u64 (A:Int))):=by rw[vq (by omega),hA]
 have mB:de .mul .u64 ((x/4294967296:Nat):Int) .u64 ((y% 4294967296:Nat):Int)=some (.v (.int .u64 (B:Int))):=by rw[vq (by omega),hB]
 have mC:de .mul .u64 ((x% 4294967296:Nat):Int) .u64 ((y/4294967296:Nat):Int)=some (.v (.int .u64 (C:Int))):=by rw[vq (by omega),hC]
 have mE:de .mul .u64 ((x% 4294967296:Nat):Int) .u64 ((y% 4294967296:Nat):Int)=some (.v (.int .u64 (E:Int))):=by rw[vq (by omega),hE]
 unfold abX U;simp only[fN,EV,q32 x hx,q32 y hy,r32,mA,mB,mC,mE,q32 E (by omega),vp (show B+E/4294967296<18446744073709551616 by omega),vp (show C+(B+E/4294967296)% 4294967296<18446744073709551616 by omega),
  q32 (B+E/4294967296) (by omega),q32 (C+(B+E/4294967296)% 4294967296) (by omega),vp (show A+(B+E/4294967296)/4294967296<18446744073709551616 by omega),
  vp (show A+(B+E/4294967296)/4294967296+(C+(B+E/4294967296)% 4294967296)/4294967296<18446744073709551616 by omega),m32,vp (show(C+(B+E/4294967296)% 4294967296)% 4294967296*4294967296+E% 4294967296<18446744073709551616 by omega)]
 unfold W U;rw[show x*y/18446744073709551616=A+(B+E/4294967296)/4294967296+(C+(B+E/4294967296)% 4294967296)/4294967296 by omega,show x*y% 18446744073709551616=(C+(B+E/4294967296)% 4294967296)% 4294967296*4294967296+E% 4294967296 by omega]
 rfl
def Co (a b:Int):Bool:=(decide (a<0) !=decide (b<0))&&(!decide (a=0)&& !decide (b=0))
def qb (n:Bool)(m:Nat):RF.ev (.shape 3) [W n m]=some (W n m):=rfl
def xj (n:Bool)(m:Nat):RF.ev (.cell 0) [W n m]=some (.bool n):=rfl
def rA (n:Bool)(m:Nat):RF.ev (.cell 1) [W n m]=some (.v (.int .u64 ((m/18446744073709551616:Nat):Int))):=rfl
def rB (n:Bool)(m:Nat):RF.ev (.cell 2) [W n m]=some (.v (.int .u64 ((m% 18446744073709551616:Nat):Int))):=rfl
def Xl (n:Bool)(m:Nat):RF.ev (.part 0 3) [W n m]=some (W n m):=rfl
def AD (n:Bool)(m:Nat):RF.ev (.part 1 2) [W n m]=some (.agg [U (m/18446744073709551616),U (m% 18446744073709551616)]):=rfl
def E3 (n:Bool)(m:Nat):RF.ev .agg [.bool n,.agg [U (m/18446744073709551616),U (m% 18446744073709551616)]]=some (W n m):=rfl
def Ed (n:Bool)(m:Nat):RF.ev .flat [W n m]=some (W n m):=rfl
def Lb {a b:Int}(h:I64 a)(k:I64 b):Ans D 304 [.i64 a,.i64 b] [W (Co a b) (a.natAbs*b.natAbs)]:=by
 refine am ?_;have h1:=tQ h;have h2:=tQ k;unfold abg;simp[qb,AD,E3,EV,phi (EZ h),phi (EZ k),phi (afC (show a.natAbs<18446744073709551616 by omega) (show b.natAbs<18446744073709551616 by omega)),PZ]
 unfold Co
 grind
def qv (n:Bool)(m:Nat):Int:=if n then-(m:Int) else m
def rC (a b:Int):qv (Co a b) (a.natAbs*b.natAbs)=a*b:=by
 unfold qv Co
 grind
def Xm (n:Bool)(m:Nat):Ans D 305 [W n m] [.i64 (sgn (qv n m))]:=by
 refine am ?_;unfold abh;simp[qb,rA,rB,EV];have fin:∀(e:Bool) (v:PV),(e=true↔m=0)->den (aY D) 1 HU [] [v,W n m,.bool e]=some [.i64 (sgn (qv n m))]:=λe v he=>by
  unfold HU qv;simp[xj,EV];cases e with
  |true=>have:=he.1 rfl;subst this;cases n<;>rfl
  |false=>
   unfold sgn
   grind
 grind
def Rz {n k:Bool}(a b:Nat):Ans D 306 [W n a,W k b] [.i64 (sgn ((a:Int)-b))]:=by
 refine am ?_;unfold abi;simp[qb,rA,rB,EV,lr]
 grind
def afD {r s:Rt}(h:aX r)(k:aX s):Ans D 224 [R r,R s] [.i64 (sgn (crs r s))]:=by
 refine am ?_;unfold aan;simp only[bU,nV,nW,qb,Xl,EV,phi (Lb h.1 k.2),phi (Lb k.1 h.2),phi (Xm _ _),phi (Rz _ _),rC,aa,aF,ak];have e1:=rC r.num s.den;have e2:=rC s.num r.den;unfold qv at e1 e2;unfold crs;generalize r.num*s.den=x at*;generalize s.num*r.den=y at*;generalize r.num.natAbs*s.den.natAbs=a at*;have hx:sgn x=if x<0 then-1 else if 0<x then 1 else 0:=rfl
 have hy:sgn y=if y<0 then-1 else if 0<y then 1 else 0:=rfl
 by_cases hne:sgn x=sgn y
 .grind
 .rw[ad hne];rw[lr x y]
  grind
def add64 (x y:Nat):RF.ev .add64 [U x,U y,U 0]=some (.agg [U ((x+y)% 18446744073709551616),U ((x+y)/18446744073709551616)]):=rfl
def Xn {x t:Int}(h:(x-t)% 18446744073709551616=0)(ht:I64 t):IntKind.i64.wrap x=t:=by
 obtain⟨h1,h2⟩:=ht;simp only[IntKind.wrap,IntKind.bits,IntKind.signed];simp;split<;>omega
def wr (x:Int):∃k:Int,IntKind.i64.wrap x=x+18446744073709551616*k:=by
 simp only[IntKind.wrap,IntKind.bits];simp;split
 .exact⟨-(x/18446744073709551616)-1,by omega⟩
 .exact⟨-(x/18446744073709551616),by omega⟩
def Lc {x y:Int}(h:(x-y)% 18446744073709551616=0):IntKind.i64.wrap x=IntKind.i64.wrap y:=by
 simp only[IntKind.wrap,IntKind.bits];simp;rw[show x% 18446744073709551616=y% 18446744073709551616 by omega]
def wrA (x y:Int):IntKind.i64.wrap (IntKind.i64.wrap x+y)=IntKind.i64.wrap (x+y):=by obtain⟨k,h⟩:=wr x;rw[h];exact Lc (by omega)
def wrB (x y:Int):IntKind.i64.wrap (y+IntKind.i64.wrap x)=IntKind.i64.wrap (y+x):=by obtain⟨k,h⟩:=wr x;rw[h];exact Lc (by omega)
def wrC (x y:Int):IntKind.i64.wrap (IntKind.i64.wrap x-y)=IntKind.i64.wrap (x-y):=by obtain⟨k,h⟩:=wr x;rw[h];exact Lc (by omega)
def Lf (k:IntKind)(n:Nat):RF.ev (.conv k) [U n]=some (.v (.int k (k.wrap n))):=rfl
abbrev oA2:RF:= .bin .add
def hiL (v:Int):PV:= .i64 (v/18446744073709551616)
def loL (v:Int):PV:= .v (.int .u64 (v% 18446744073709551616))
def Mid (v:Int):Prop:= -154742504910672534362390528<=v/\ v<=154742504910672534362390528
def VT {a b p:Int}(ha:I64 a)(hb:I64 b)(hp:a*b=p):∃x y:Nat,(a% 18446744073709551616=(x:Int)/\ x<18446744073709551616)/\(b% 18446744073709551616=(y:Int)/\ y<18446744073709551616)/\
  ((x*y:Nat):Int)=p+18446744073709551616*((if a<0 then b else 0)+(if b<0 then a else 0))+340282366920938463463374607431768211456*(if a<0/\ b<0 then 1 else 0):=by
 obtain⟨a1,a2⟩:=ha;obtain⟨b1,b2⟩:=hb;have e1:(((a% 18446744073709551616).toNat:Nat):Int)=if a<0 then a+18446744073709551616 else a:=by split<;>omega
 have e2:(((b% 18446744073709551616).toNat:Nat):Int)=if b<0 then b+18446744073709551616 else b:=by split<;>omega
 grind
def E4 {Φ':PhT}{N:Nat}{f self:JT}{e0 w:PV}{a b v:Int}{i:Nat}(hΦ:Φ'=aY D)(hw:RF.ev (.aix 2 2 2) [w,.i64 (i:Int)]=some (.agg [.i64 a,.i64 b]))(hi:i<2)(ha:I64 a)(hb:I64 b)(hm:Mid (a*b))(hv:Mid v):
  den Φ' N Iw [f,self] [e0,w,hiL v,loL v,.i64 (i:Int)]=self [hiL (v+a*b),loL (v+a*b),.i64 ((i+1:Nat):Int)]:=by
 subst hΦ;obtain⟨m1,m2⟩:=hm;obtain⟨v1,v2⟩:=hv;generalize hp:a*b=p at*;obtain⟨x,y,⟨x1,x2⟩,⟨y1,y2⟩,hxy⟩:=VT ha hb hp;have ha':=ha;have hb':=hb;obtain⟨a1,a2⟩:=ha;obtain⟨b1,b2⟩:=hb;have bd:x*y<=18446744073709551615*18446744073709551615:=pO (by omega) (by omega);have u1:PV.v (.int .u64 (IntKind.u64.wrap a))=U x:=uw x1;have u2:PV.v (.int .u64 (IntKind.u64.wrap b))=U y:=uw y1;have q1:=phi (Ry x2 y2);have lo0:loL v=U (v% 18446744073709551616).toNat:=by unfold loL U;congr 2;omega
 have q2:=add64 (v% 18446744073709551616).toNat (x*y% 18446744073709551616);rw[<-lo0] at q2;have w1:IntKind.i64.wrap ((i:Int)+1)=((i+1:Nat):Int):=up1 (by omega);unfold Iw;simp only[ax,hw,EV,aa,u1,u2,q1,ad (show(i:Int)<2 by omega),Lf,QB]
 have lo2:U (((v% 18446744073709551616).toNat+x*y% 18446744073709551616)% 18446744073709551616)=loL (v+p):=by
  unfold loL U
  congr 2
  grind
 rw[lo2] at q2;have q3:∀h:Int,RF.ev oA2 [hiL v,.v (.int .i64 h)]=some (.i64 (IntKind.i64.wrap (v/18446744073709551616+h))):=λh=>rfl;have U0:PV.v (.int .u64 0)=U 0:=rfl;by_cases a0:a<0<;>by_cases b0:b<0<;>simp only[a0,b0,aA,aw,ax,q3,EV,az,bw,aq,QA,U0,q2,Lf,wrA,wrB,wrC,w1,fS,nD,gZ,eF,fx] at hxy|-
 all_goals
  rw[Xn (t:=(v+p)/18446744073709551616) (by omega) ⟨by omega,by omega⟩];rfl
def afE {a b c d:Int}(ha:I64 a)(hb:I64 b)(hc:I64 c)(hd:I64 d)(h1:Mid (a*b))(h2:Mid (c*d)):Ans D 389 [.agg [.i64 a,.i64 b,.i64 c,.i64 d]] [.agg [hiL (a*b+c*d),loL (a*b+c*d)]]:=by
 refine an ⟨3,?_⟩;unfold acf;have s0:=λself=>E4 (N:=3) (f:=oC (aY D) 3 Iu [] [.agg [.i64 a,.i64 b,.i64 c,.i64 d],.agg [.i64 a,.i64 b,.i64 c,.i64 d]]) (self:=self) (e0:= .agg [.i64 a,.i64 b,.i64 c,.i64 d]) (w:= .agg [.i64 a,.i64 b,.i64 c,.i64 d]) (i:=0) (v:=0) rfl rfl (by decide) ha hb h1 ⟨by decide,by decide⟩;have s1:=λself=>E4 (N:=3) (f:=oC (aY D) 3 Iu [] [.agg [.i64 a,.i64 b,.i64 c,.i64 d],.agg [.i64 a,.i64 b,.i64 c,.i64 d]]) (self:=self) (e0:= .agg [.i64 a,.i64 b,.i64 c,.i64 d]) (w:= .agg [.i64 a,.i64 b,.i64 c,.i64 d]) (i:=1) (v:=a*b) rfl rfl (by decide) hc hd h2 h1;rw[yK] at s0;have z1:PV.i64 0=hiL 0:=rfl;have z2:PV.v (.int .u64 0)=loL 0:=rfl;have z3:PV.i64 0= .i64 ((0:Nat):Int):=rfl;refine(s0 _).trans ?_;simp only[bc,Ju,Nd,Rc,VE];refine(s1 _).trans ?_;simp only[bc,EV];rfl
def Pt.bnd {p:Pt}(h:p.ok=true):(0<=p.id/\ p.id<=65535)/\(-1048576<=p.a/\ p.a<=1048576)/\(-1048576<=p.b/\ p.b<=1048576):=by
 unfold Pt.ok JD at h
 grind
def Ki {a b:Int}(h: -2097152<=a/\ a<=2097152)(k:I64 b):Mid (a*b):=by
 obtain⟨k1,k2⟩:=k;have e:=Int.natAbs_mul a b;have:a.natAbs*b.natAbs<=2097152*9223372036854775808:=pO (by omega) (by omega);constructor<;>omega
def Xo (v:Int):(v/18446744073709551616<0)↔v<0:=by omega
def orr (a b:Int):Ans D 387 [.sl [[.i64 a],[.i64 b]]] [.i64 (if a=0 then b else a)]:=by
 refine an ⟨3,?_⟩;unfold acd;have w0:IntKind.i64.wrap (0+1)=1:=by decide
 have w1:IntKind.i64.wrap (1+1)=2:=by decide
 have e0:RF.ev (.tix 1) [.sl [[.i64 a],[.i64 b]],.v (.int .i64 0)]=some (.i64 0):=rfl;have e1:RF.ev (.tix 1) [.sl [[.i64 a],[.i64 b]],.v (.int .i64 1)]=some (.i64 1):=rfl;have g0:RF.ev (.elt 0 0) [.sl [[.i64 a],[.i64 b]],.v (.int .i64 0)]=some (.i64 a):=rfl;have g1:RF.ev (.elt 0 0) [.sl [[.i64 a],[.i64 b]],.v (.int .i64 1)]=some (.i64 b):=rfl;have h2:([[PV.i64 a],[PV.i64 b]].length:Int)=2:=rfl;simp only[EV,bc,Qy,Qz,e0,e1,g0,g1,w0]
 grind
def Lg (t:Rt)(p q:Pt):Int:=if far t p q=0 then(if sgn (p.b-q.b)=0 then sgn (q.id-p.id) else sgn (p.b-q.b)) else sgn (far t p q)
def E5 {t:Rt}{p q:Pt}:decide (0<Lg t p q)=leads t p q:=by
 rw[d4,aa,j8];unfold Lg sgn
 grind
def bz (p:Pt):RF.ev (.shape 3) [PP p]=some (PP p):=rfl
def dl (p:Pt):RF.ev (.cell 0) [PP p]=some (.i64 p.id):=rfl
def tT (p:Pt):RF.ev (.cell 1) [PP p]=some (.i64 p.a):=rfl
def nX (p:Pt):RF.ev (.cell 2) [PP p]=some (.i64 p.b):=rfl
def VU {t:Rt}{p q:Pt}(hp:p.ok=true)(hq:q.ok=true)(ht:aX t):Mid ((p.a-q.a)*t.den)/\ Mid ((p.b-q.b)*t.num):=by
 have:=Pt.bnd hp;have:=Pt.bnd hq;exact⟨Ki ⟨by omega,by omega⟩ ht.2,Ki ⟨by omega,by omega⟩ ht.1⟩
def xk {a b:Int}(ha: -1048576<=a/\ a<=1048576)(hb: -1048576<=b/\ b<=1048576):I64 (a-b)/\ IntKind.i64.wrap (a-b)=a-b:=⟨⟨by omega,by omega⟩,bV (by omega) (by omega)⟩
def Xp {p q:Pt}{t:Rt}(hp:p.ok=true)(hq:q.ok=true)(ht:aX t):Ans D 329 [PP p,PP q,R t] [.i64 (Lg t p q)]:=by
 have bp:=Pt.bnd hp;have bq:=Pt.bnd hq;obtain⟨f1,f2⟩:=VU hp hq ht;obtain⟨i1,i2⟩:=xk bp.2.1 bq.2.1;obtain⟨i3,i4⟩:=xk bp.2.2 bq.2.2;have h1:=phi (afE i1 ht.2 i3 ht.1 f1 f2);rw[show(p.a-q.a)*t.den+(p.b-q.b)*t.num=far t p q from rfl] at h1
 have a1:∀a b c d:Int,RF.ev .agg [.i64 a,.i64 b,.i64 c,.i64 d]=some (.agg [.i64 a,.i64 b,.i64 c,.i64 d]):=λ_ _ _ _=>rfl;have a2:∀v:Int,RF.ev (.shape 2) [.agg [hiL v,loL v]]=some (.agg [hiL v,loL v]):=λ_=>rfl;have a3:∀v:Int,RF.ev (.cell 0) [.agg [hiL v,loL v]]=some (.i64 (v/18446744073709551616)):=λ_=>rfl;have a4:RF.ev .agg [.i64 0,.v (.int .u64 0)]=some (.agg [.i64 0,.v (.int .u64 0)]):=rfl;have a5:∀v:Int,RF.ev (.eqv [.i,.i]) [.agg [hiL v,loL v],.agg [.i64 0,.v (.int .u64 0)]]=some (.bool (decide (v=0))):=λv=>by
  have:RF.ev (.eqv [.i,.i]) [.agg [hiL v,loL v],.agg [.i64 0,.v (.int .u64 0)]]=some (.bool (decide (v/18446744073709551616=0)&&(decide (v% 18446744073709551616=0)&& true))):=rfl;rw[this]
  congr 3
  grind
 have a6:∀x y:Int,RF.ev (.bs 2 [KP.z] [0,1]) [.i64 x,.i64 y]=some (.sl [[.i64 x],[.i64 y]]):=λx y=>rfl;have a7:∀x y:Int,RF.ev .sub [.sl [[.i64 x],[.i64 y]],.v (.int .i64 0),.v (.int .i64 2)]=some (.sl [[.i64 x],[.i64 y]]):=λx y=>rfl;refine am ?_;unfold abG;simp only[ax,bz,bU,dl,tT,nX,nV,nW,a1,a2,a3,a4,a5,a6,a7,EV,i2,i4,h1,aF,ak,aa,Xo,phi (Xk _ _),phi (xh _ _),phi (orr _ _)];unfold Lg;by_cases hz:far t p q=0
 .rw[ac (by simp[hz]),ad hz]
 .rw[ad hz,ac hz];unfold sgn;by_cases hn:far t p q<0
  .rw[ad hn,ad hn]
  .rw[ac hn,ac hn,ad (by omega)]
def kO (p q:Pt)(t:Rt):Int:=if(p.ok&&(q.ok&& rok t))=true then(if p.id=q.id then 2 else 0) else 8
def RA {p q:Pt}{t:Rt}(ht:aX t):Ans D 328 [PP p,PP q,R t] [.i64 (kO p q t)]:=by
 refine am ?_;unfold abF kO;simp only[bz,bU,dl,mm2,EV,phi (K9 _),phi (c43 ht),Kh,Bool.and_assoc,qa];cases(p.ok&&(q.ok&& rok t)) with
 |false=>rfl
 |true=>
  grind
def Cp {p q:Pt}{t:Rt}(h:kO p q t=0):p.ok=true/\ q.ok=true/\ rok t=true/\ p.id≠q.id:=by
 unfold kO at h
 grind
def lu {p q:Pt}{t:Rt}(h1:p.ok=true)(h2:q.ok=true)(h3:rok t=true)(h4:p.id≠q.id):kO p q t=0:=by
 unfold kO
 grind
def E6 {p q:Pt}{t:Rt}(ht:aX t):Ans D 249 [PP p,PP q,R t] (if kO p q t=0 then [.bool (leads t p q),.i64 0] else [.bool false,.i64 (kO p q t)]):=by
 refine am ?_;unfold aaC;simp only[bz,bU,EV,phi (RA ht)];by_cases h:kO p q t=0
 .obtain⟨h1,h2,_,_⟩:=Cp h;rw[ac (by simp[h]),ad h];simp[EV,phi (Xp h1 h2 ht),E5]
 .grind
def mkR (n d:Int):Rt:=⟨(if(decide (n<0) !=decide (d<0))=true then-((n.natAbs/Nat.gcd n.natAbs d.natAbs:Nat):Int) else((n.natAbs/Nat.gcd n.natAbs d.natAbs:Nat):Int)),((d.natAbs/Nat.gcd n.natAbs d.natAbs:Nat):Int)⟩
def Sm (n:Int):Prop:= -4194304<=n/\ n<=4194304
def Lh {a b:Nat}(hb:0<b)(ha:a<18446744073709551616):RF.ev (.bin .quo) [U a,U b]=some (U (a/b)):=by
 show de .quo .u64 (a:Int) .u64 (b:Int)=_
 have:=ic a b;rw[ER,ac (by omega),iu (by omega),<-Int.natCast_ediv,wu (by omega)];rfl
def WB (n:Bool)(h l:Nat):PV:= .agg [.bool n,U h,U l]
def Xq (n:Bool)(h l:Nat):RF.ev .agg [.bool n,U h,U l]=some (WB n h l):=rfl
def Xr (n:Bool)(h l:Nat):RF.ev (.shape 3) [WB n h l]=some (WB n h l):=rfl
def cB0 (n:Bool)(h l:Nat):RF.ev (.cell 0) [WB n h l]=some (.bool n):=rfl
def cB1 (n:Bool)(h l:Nat):RF.ev (.cell 1) [WB n h l]=some (.v (.int .u64 (h:Int))):=rfl
def cB2 (n:Bool)(h l:Nat):RF.ev (.cell 2) [WB n h l]=some (.v (.int .u64 (l:Int))):=rfl
def zO (a b:Int):RF.ev .agg [.i64 a,.i64 b]=some (R ⟨a,b⟩):=rfl
def AE (r:Rt):RF.ev .flat [R r]=some (R r):=rfl
def Li (r:Rt):RF.ev (.part 0 2) [R r]=some (R r):=rfl
def U0:PV.v (.int .u64 0)=U 0:=rfl
def afF {n:Bool}{a b:Nat}(ha:a<=4194304)(hb:b<=4194304):Ans D 424 [WB n 0 a,U 0,U b] [R ⟨if n=true then-(a:Int) else a,b⟩,.i64 0]:=by
 refine am ?_;have e:RF.ev (.bin .gtr) [U 0,U 0]=some (.bool false):=rfl;have e2:RF.ev (.bin .gtr) [U b,.v (.int .u64 9223372036854775807)]=some (.bool (decide ((9223372036854775807:Int)<b))):=rfl;unfold acx;simp only[Xr,cB0,U0,cB1,cB2,zO,e,e2,Lf,EV,QG,fP,bV (show-9223372036854775808<=(a:Int) by omega) (by omega),bV (show-9223372036854775808<=(b:Int) by omega) (by omega),bV (show-9223372036854775808<=0-(a:Int) by omega) (by omega)]
 grind
def Lj {n:Int}(h:Sm n):I64 n:=by obtain⟨h1,h2⟩:=h;exact⟨by omega,by omega⟩
def afG {n d:Int}(hn:Sm n)(hd:Sm d)(h0:d≠0):Ans D 416 [.i64 n,.i64 d] [R (mkR n d),.i64 0]:=by
 obtain⟨n1,n2⟩:=hn;obtain⟨d1,d2⟩:=hd;have hg:0<Nat.gcd n.natAbs d.natAbs:=iO _ (by omega);have l1:n.natAbs/Nat.gcd n.natAbs d.natAbs<=n.natAbs:=ic ..;have l2:d.natAbs/Nat.gcd n.natAbs d.natAbs<=d.natAbs:=ic ..;have hc:=phi (Xh n.natAbs d.natAbs);rw[yL] at hc;refine am ?_;unfold acs;simp only[Lh hg (show n.natAbs<18446744073709551616 by omega),Lh hg (show d.natAbs<18446744073709551616 by omega),U0,Xq,EV,phi (Cl (Lj ⟨n1,n2⟩)),phi (Cl (Lj ⟨d1,d2⟩)),hc,phi (afF (show n.natAbs/Nat.gcd n.natAbs d.natAbs<=4194304 by omega) (show d.natAbs/Nat.gcd n.natAbs d.natAbs<=4194304 by omega)),aa]
 rw[ac h0];rfl
def afH {p q:Pt}(hp:p.ok=true)(hq:q.ok=true)(hi:p.id≠q.id)(hb:p.b≠q.b):Ans D 388 [PP p,PP q] [R (mkR (p.a-q.a) (q.b-p.b)),.i64 0]:=by
 have bp:=Pt.bnd hp;have bq:=Pt.bnd hq;have ht:aX ⟨0,1⟩:=⟨⟨by decide,by decide⟩,⟨by decide,by decide⟩⟩;have i2:=(xk bp.2.1 bq.2.1).2;have i4:=(xk bq.2.2 bp.2.2).2;have h1:=phi (RA (p:=p) (q:=q) ht);rw[lu hp hq (by decide) hi] at h1;refine am ?_;unfold ace;simp[bz,bU,tT,nX,zO,EV,h1,i2,i4,phi (afG (n:=p.a-q.a) (d:=q.b-p.b) ⟨by omega,by omega⟩ ⟨by omega,by omega⟩ (by omega))]
 grind
def ef (t:Rt)(hi lo:Pt):Rt×Bool:=if leads t lo hi=true then(t,true) else if hi.b<lo.b then(mkR (hi.a-lo.a) (lo.b-hi.b),true) else(⟨0,0⟩,false)
def Xs {p q:Pt}{t:Rt}(ht:aX t):Ans D 327 [PP p,PP q,R t] (if kO p q t=0 then [R (ef t p q).1,.bool (ef t p q).2,.i64 0] else [R ⟨0,0⟩,.bool false,.i64 (kO p q t)]):=by
 refine am ?_;unfold abE;simp only[bz,bU,zO,EV,phi (RA ht),aF,ak];by_cases h:kO p q t=0
 .obtain⟨h1,h2,_,h3⟩:=Cp h;rw[ac (by simp[h]),ad h];simp only[ax,bU,AE,nX,zO,EV,phi (Xp h2 h1 ht),E5,aa];unfold ef;cases leads t q p with
  |true=>rfl
  |false=>
   simp only[aq,aw];by_cases hb:q.b<=p.b
   .grind
   .rw[ac hb,ad (by omega)];simp only[ax,bU,AE,EV,phi (afH h1 h2 h3 (by omega)),az]
 .grind
def Ug (n:Bool)(a b:Int):RF.ev .agg [.bool n,.v (.int .u64 a),.v (.int .u64 b)]=some (.agg [.bool n,.v (.int .u64 a),.v (.int .u64 b)]):=rfl
def mkW {n:Bool}{h l:Int}{m:Nat}(h1:h=((m/18446744073709551616:Nat):Int))(h2:l=((m% 18446744073709551616:Nat):Int)):PV.agg [.bool n,.v (.int .u64 h),.v (.int .u64 l)]=W n m:=by rw[h1,h2];rfl
def Xt {n k:Bool}{a b:Nat}(ha:a<170141183460469231731687303715884105728)(h:b<=a):Ans D 423 [W n a,W k b] [W false (a-b)]:=by
 refine am ?_;unfold acw;simp only[qb,rA,rB,EV,aa,QF,Ug,kZ];by_cases c:((a% 18446744073709551616:Nat):Int)<((b% 18446744073709551616:Nat):Int)
 .rw[ad c,mkW (m:=a-b) (by omega) (by omega)]
 .rw[ac c,mkW (m:=a-b) (by omega) (by omega)]
def afI {n k:Bool}{a b:Nat}(ha:a<85070591730234615865843651857942052865)(hb:b<85070591730234615865843651857942052865):∃s m,Ans D 414 [W n a,W k b] [W s m]/\ qv s m=qv n a+qv k b:=by
 have l1:a% 18446744073709551616<18446744073709551616:=by omega
 by_cases hs:n=k
 .subst hs;refine⟨n,a+b,?_,by unfold qv;split<;>omega⟩;refine am ?_;unfold MD;simp only[ax,qb,xj,rA,rB,EV,aa,QC,Ug,kZ,fR,aA];by_cases c:(((a% 18446744073709551616:Nat):Int)+((b% 18446744073709551616:Nat):Int))% 18446744073709551616<((a% 18446744073709551616:Nat):Int)
  .rw[ad c,mkW (m:=a+b) (by omega) (by omega)]
  .rw[ac c,mkW (m:=a+b) (by omega) (by omega)]
 .have hbe:(n==k)=false:=by cases n<;>cases k<;>simp_all
  by_cases hle:b<=a
  .refine⟨n&& decide (0<a-b),a-b,?_,by unfold qv;cases n<;>cases k<;>simp_all<;>(repeat' split)<;>omega⟩
   have g:sgn ((a:Int)-b)>=0:=by unfold sgn;repeat' split;all_goals omega
   refine am ?_;unfold MD;simp only[ax,qb,xj,rA,rB,EV,aa,hbe,aq,aw,phi (Rz _ _),phi (Xt (n:=n) (k:=k) (show a<170141183460469231731687303715884105728 by omega) hle)]
   rw[ad g];have fin:∀(v:Bool) (es:List PV),den (aY D) 1 uv [] (.bool v::es)=den (aY D) 1 uv [] (.bool v::es):=λ_ _=>rfl;cases n with
   |false=>
    simp only[aq,aw,ax,AD,E3,Ed,uv,EV,u7]
   |true=>
    simp only[aA,ax,rA,rB,EV,aa,gm];by_cases c:(0:Int)<((((a-b)/18446744073709551616:Nat):Int))
    .rw[ad c,au (show 0<a-b by omega)]
     simp only[ax,AD,E3,Ed,uv,EV]
    .rw[ac c];simp only[ax,AD,E3,Ed,uv,EV];rw[show decide ((0:Int)<(((a-b)% 18446744073709551616:Nat):Int))=decide (0<a-b) from cv.2 (by omega)]
  .refine⟨k,b-a,?_,by unfold qv;cases n<;>cases k<;>simp_all<;>omega⟩;have g:¬sgn ((a:Int)-b)>=0:=by unfold sgn;rw[ad (by omega)];decide
   refine am ?_;unfold MD;simp only[ax,qb,xj,rA,rB,EV,aa,hbe,aq,aw,phi (Rz _ _),phi (Xt (n:=k) (k:=n) (a:=b) (b:=a) (show b<170141183460469231731687303715884105728 by omega) (by omega))]
   rw[ac g];simp only[ax,AD,E3,Ed,xj,EV]
def afJ {p q:Pt}{t:Rt}(hp:p.ok=true)(hq:q.ok=true)(ht:aX t):Ans D 384 [PP p,PP q,R t] [.i64 (sgn (far t p q))]:=by
 have bp:=Pt.bnd hp;have bq:=Pt.bnd hq;obtain⟨i1,i2⟩:=xk bp.2.1 bq.2.1;obtain⟨i3,i4⟩:=xk bp.2.2 bq.2.2;obtain⟨s,m,h1,h2⟩:=afI (n:=Co (p.a-q.a) t.den) (k:=Co (p.b-q.b) t.num) (qJ (ND i1 ht.2)) (qJ (ND i3 ht.1));rw[rC,rC] at h2;refine am ?_;unfold aca;simp[bz,bU,tT,nX,nV,nW,EV,i2,i4,phi (Lb i1 ht.2),phi (Lb i3 ht.1),phi h1,phi (Xm _ _)];rw[h2];rfl
def E7 {n:Int}:sgn n=0↔n=0:=by unfold sgn;repeat' split;all_goals omega
def VV {n:Int}:0<sgn n↔0<n:=by unfold sgn;repeat' split;all_goals omega
def Cq {p q:Pt}{t:Rt}(hp:p.ok=true)(hq:q.ok=true)(ht:aX t):Ans D 323 [PP p,PP q,R t] [.bool (leads t p q)]:=by
 refine am ?_;unfold abv leads;simp[bz,bU,dl,nX,EV,phi (afJ hp hq ht),E7,VV]
 grind
def afK {n:Bool}{a b:Nat}(ha:a<=4194304)(hb:b<=4194304):Ans D 425 [.bool n,WB false 0 a,WB false 0 b] [R ⟨if n=true then-(a:Int) else a,b⟩,.i64 0]:=by
 refine am ?_;unfold acy;simp only[Xr,cB1,cB2,zO,EV,bV (show-9223372036854775808<=(a:Int) by omega) (by omega),bV (show-9223372036854775808<=(b:Int) by omega) (by omega),bV (show-9223372036854775808<=0-(a:Int) by omega) (by omega)]
 grind
def afL {n d:Int}(hn:Sm n)(hd:Sm d)(h0:d≠0):Ans D 419 [.i64 n,.i64 d] [R (mkR n d),.i64 0]:=by
 obtain⟨n1,n2⟩:=hn;obtain⟨d1,d2⟩:=hd;have hg:0<Nat.gcd n.natAbs d.natAbs:=iO _ (by omega);have l1:n.natAbs/Nat.gcd n.natAbs d.natAbs<=n.natAbs:=ic ..;have l2:d.natAbs/Nat.gcd n.natAbs d.natAbs<=d.natAbs:=ic ..;have hc:=phi (Xi n.natAbs d.natAbs);rw[yL] at hc;have hm:=λs=>phi (afK (n:=s) (show n.natAbs/Nat.gcd n.natAbs d.natAbs<=4194304 by omega) (show d.natAbs/Nat.gcd n.natAbs d.natAbs<=4194304 by omega))
 refine am ?_;unfold act;simp[Lh hg (show n.natAbs<18446744073709551616 by omega),Lh hg (show d.natAbs<18446744073709551616 by omega),U0,Xq,bU,nV,nW,zO,AE,QE,EV,phi (EZ (Lj ⟨n1,n2⟩)),phi (EZ (Lj ⟨d1,d2⟩)),hc,hm]
 unfold mkR
 grind
def afM {p q:Pt}(hp:p.ok=true)(hq:q.ok=true)(hb:p.b≠q.b):Ans D 396 [PP p,PP q] [R (mkR (p.a-q.a) (q.b-p.b))]:=by
 have bp:=Pt.bnd hp;have bq:=Pt.bnd hq;have i2:=(xk bp.2.1 bq.2.1).2;have i4:=(xk bq.2.2 bp.2.2).2;refine am ?_;unfold ach;simp[bz,bU,tT,nX,EV,i2,i4,phi (afL (n:=p.a-q.a) (d:=q.b-p.b) ⟨by omega,by omega⟩ ⟨by omega,by omega⟩ (by omega))]
def afN {p q:Pt}{t:Rt}(hp:p.ok=true)(hq:q.ok=true)(ht:aX t):Ans D 348 [PP p,PP q,R t] [R (ef t p q).1,.bool (ef t p q).2]:=by
 refine am ?_;unfold abL ef;simp[bz,bU,nX,zO,EV,phi (Cq hq hp ht)];cases leads t q p with
 |true=>rfl
 |false=>
  simp;by_cases hb:p.b<q.b
  .rw[ad hb,ad hb];simp only[ax,bU,AE,EV,phi (afM hp hq (show p.b≠q.b by omega))]
  .grind
def aO (l:List Pt):RF.ev (.shape 1) [F l]=some (F l):=rfl
def b8 (l:List Pt):RF.ev (.cell 0) [F l]=some (sl row l):=rfl
def gr (p:Pt):cF 0 3 (row p)=some (PP p):=rfl
def pP (p:Pt):cF 0 0 (row p)=some (.i64 p.id):=rfl
def bY (p:Pt):(row p).length=3:=rfl
def I1 (n:Int):List PV:=[.i64 n]
def bZ (n:Int):cF 0 0 (I1 n)=some (.i64 n):=rfl
def B1 (b:Bool):List PV:=[.bool b]
def tj (b:Bool):cF 0 0 (B1 b)=some (.bool b):=rfl
open Classical in
def eO (l:List Pt):Int:=if 64<l.length then 4 else if ru l=true then(if hY l then 0 else 32) else 8
def NE {b:Bool}:okE b=0↔b=true:=by cases b<;>simp[okE]
def jb {b:Bool}{α:Type}{x y:α}:(if¬okE b=0 then x else y)=if b=true then y else x:=by cases b<;>rfl
open Classical in
def vr (l:List Pt):Ans D 231 [F l] [.i64 (eO l)]:=by
 refine an ⟨65,?_⟩;unfold aaq eO;simp only[ax,aO,b8,EV,ai,aa];by_cases h:64<l.length
 .grind
 .rw[ac (by omega),ac h];refine(cw (l:=l) (p:=Pt.ok) (st:=λi=>[.i64 (i:Int)]) (r:=some [.i64 8]) (fin:=some [.i64 (if hY l then 0 else 32)]) (λi p self hp _=>?_) (λhg self=>?_) (by omega)).trans ?_
  .unfold G3;simp only[ax,aO,b8,aS hp (bY p),aJ hp,gr,EV,aa,bi (aN hp),up1 (show i<1000000000 by have:=aN hp;omega),phi (K9 _),qa]
   cases p.ok<;>rfl
  .unfold G3;simp only[EV,aa,bK,Pm,b8,ax,ai];refine(fD (n:=l.length) (P:=λi=>∀p q,l[i]?=some q->(0<i->l[i-1]?=some p->p.id<q.id)) (st:=λi=>[.i64 (i:Int)]) (r:=some [.i64 32]) (fin:=some [.i64 0]) (λi self hi _=>?_) (λ_ self=>?_) (by omega)).trans ?_
   .obtain⟨q,hq⟩:∃q,l[i]?=some q:=⟨l[i],ah _⟩;unfold G2;simp only[ax,b8,aS hq (bY q),aJ hq,gr,EV,aa,bi hi];cases i with
    |zero=>
     rw[ac (by omega),ad (λp q _ h=>by omega)];unfold G1;simp only[EV,aq,aw]
     try rfl
    |succ j=>
     obtain⟨p,hp⟩:∃p,l[j]?=some p:=⟨l[j],ah _⟩;rw[ad (by omega)];simp only[ax,b8,dl,vn (show j<1000000000 by omega),aS hp (bY p),aJ hp,pP,EV]
     unfold G1;simp only[EV,aa,up1 (show j+1<1000000000 by omega)]
     by_cases hc:q.id<=p.id
     .rw[ad hc,ac (λh=>by have:=h p q hq (by omega) (by simpa using hp);omega)]
     .rw[ac hc,ad (λp' q' h1 _ h2=>by
       rw[hq] at h1;cases h1;rw[show j+1-1=j by omega,hp] at h2;cases h2
       omega)]
   .unfold G2;simp only[EV,aa,bK,Pl]
   .have:(∀j,j<l.length->∀p q,l[j]?=some q->(0<j->l[j-1]?=some p->p.id<q.id))↔hY l:=by
     constructor
     .intro h i p q hp hq;exact h (i+1) (aN hq) p q hq (by omega) (by simpa using hp)
     .intro h j hj p q hq h0 hp;exact h (j-1) p q hp (by rw[show j-1+1=j by omega];exact hq)
    by_cases hr:hY l
    .rw[ad (this.2 hr),ad hr]
    .rw[ac (λh=>hr (this.1 h)),ac hr]
  .unfold ru;cases l.all Pt.ok<;>rfl
open Classical in
def Lk (l:List Pt):Ans D 143 [F l] [.i64 (eO l)]:=by
 refine an ⟨65,?_⟩;unfold Zu eO;simp only[ax,aO,b8,EV,ai,aa];by_cases h:64<l.length
 .grind
 .rw[ac (by omega),ac h];refine(cw (l:=l) (p:=Pt.ok) (st:=λi=>[.i64 (i:Int)]) (r:=some [.i64 8]) (fin:=some [.i64 (if hY l then 0 else 32)]) (λi p self hp _=>?_) (λhg self=>?_) (by omega)).trans ?_
  .unfold F4;simp only[ax,b8,aS hp (bY p),aJ hp,gr,EV,ai,aa,bi (aN hp),up1 (show i<1000000000 by have:=aN hp;omega),phi (Rx _),qa]
  .unfold F4;simp only[ax,b8,EV,ai,aa,bK,Ov];refine(fD (n:=l.length-1) (P:=λi=>∀p q,l[i]?=some p->l[i+1]?=some q->p.id<q.id) (st:=λi=>[.i64 ((i+1:Nat):Int)]) (r:=some [.i64 32]) (fin:=some [.i64 0]) (λi self hi _=>?_) (λ_ self=>?_) (by omega)).trans ?_
   .obtain⟨p,hp⟩:∃p,l[i]?=some p:=⟨l[i],ah _⟩;obtain⟨q,hq⟩:∃q,l[i+1]?=some q:=⟨l[i+1],ah _⟩;unfold F3;simp only[ax,b8,vn (show i<1000000000 by omega),aS hp (bY p),aJ hp,aS hq (bY q),aJ hq,pP,EV,ai,aa,bi (aN hq),up1 (show i+1<1000000000 by omega)]
    grind
   .unfold F3;simp only[ax,b8,EV,ai,aa,Ou];rw[ac (by omega)]
   .have:(∀j,j<l.length-1->∀p q,l[j]?=some p->l[j+1]?=some q->p.id<q.id)↔hY l:=
     ⟨λh i p q hp hq=>h i (by have:=aN hq;omega) p q hp hq,λh j _ p q hp hq=>h j p q hp hq⟩
    by_cases hr:hY l
    .rw[ad (this.2 hr),ad hr]
    .rw[ac (λh=>hr (this.1 h)),ac hr]
  .unfold ru;cases l.all Pt.ok<;>rfl
def pos (l:List Pt)(id:Int):Int:=lj (λp=>decide (p.id=id)) l
def Ee {o:Option Nat}:o.elim (some [PV.i64 (-1)]) (λi=>some [.i64 (i:Int)])=some [.i64 (o.elim (-1) λi=>(i:Int))]:=by cases o<;>rfl
def bS (n:Int):(I1 n).length=1:=rfl
def rD (b:Bool):(B1 b).length=1:=rfl
def me {l:List Pt}(hl:l.length<=1000)(id:Int):Ans D 168 [F l,.i64 id] [.i64 (pos l id)]:=by
 refine an ⟨1001,?_⟩;unfold ZI;simp[aO,EV];refine(jy (l:=l) (p:=λp=>decide (p.id=id)) (st:=λi=>[.i64 (i:Int)]) (ret:=λi=>some [.i64 (i:Int)]) (fin:=some [.i64 (-1)]) (λi p self hp=>?_) (λself=>?_) (by omega)).trans Ee
 .unfold Gf;simp only[b8,aS hp (bY p),aJ hp,pP,EV,ai,aa,bi (aN hp),up1 (show i<1000000000 by have:=aN hp;omega)]
 .unfold Gf;simp[b8,EV,OG]
def afO {α:Type}[DecidableEq α]{l k:List α}(h:l.length=k.length):(l.zip k).all (λp=>decide (p.1=p.2))=decide (l=k):=by
 induction l generalizing k with
 |nil=>cases k with
  |nil=>rfl
  |cons=>simp at h
 |cons a l ih=>cases k with
  |nil=>simp at h
  |cons b k=>
   simp_all
def g9 {α β:Type}{l:List α}{k:List β}{i:Nat}{x:α×β}(h:(l.zip k)[i]?=some x):l[i]?=some x.1/\ k[i]?=some x.2:=by
 grind
def eG {α β:Type}{l:List α}{k:List β}(h:l.length=k.length):(l.zip k).length=l.length:=by rw[o7];omega
def pQ {α:Type}[DecidableEq α]{l k:List α}{x:Option (List PV)}(h:l.length=k.length)(hx:x=if(l.zip k).all (λp=>decide (p.1=p.2))=true then some [.bool true] else some [.bool false]):x=some [.bool (decide (l=k))]:=by
 rw[hx,afO h]
 grind
def Xu (p q:Pt):RF.ev (.eqv [.i,.i,.i]) [PP p,PP q]=some (.bool (decide (p=q))):=by
 obtain⟨a,b,c⟩:=p;obtain⟨x,y,z⟩:=q;have:RF.ev (.eqv [.i,.i,.i]) [PP ⟨a,b,c⟩,PP ⟨x,y,z⟩]=some (.bool (decide (a=x)&&(decide (b=y)&&(decide (c=z)&& true)))):=rfl;simp_all
def c28 {l k:List Pt}(hl:l.length<=1000):Ans D 28 [F l,F k] [.bool (decide (l=k))]:=by
 refine an ⟨1001,?_⟩;unfold k28;simp only[ax,aO,b8,EV,ai,aF,ak];by_cases h:l.length=k.length
 .rw[ac (by omega)];refine pQ h (cw (l:=l.zip k) (st:=λi=>[.i64 (i:Int)]) (λi x self hx _=>?_) (λ_ self=>?_) (by rw[eG h];omega))
  .obtain⟨hp,hq⟩:=g9 hx;unfold L0;simp only[ax,b8,aS hp (bY _),aJ hp,aS hq (bY _),aJ hq,gr,Xu,EV,ai,aa,aF,ak,bi (aN hp),up1 (show i<1000000000 by have:=aN hp;omega)]
   grind
  .rw[eG h];unfold L0;simp only[ax,b8,EV,ai,aa,bK,UR]
 .rw[ad (by omega),aj (λe=>h (by rw[e]))]
def Xv {l k:List Int}(hl:l.length<=1000):∃N,den (aY D) N Sr [] [sl I1 l,sl I1 k]=some [.bool (decide (l=k))]:=by
 refine⟨1001,?_⟩;unfold Sr;simp only[EV,ai,aF,ak];by_cases h:l.length=k.length
 .rw[ac (by omega)];refine pQ h (cw (l:=l.zip k) (st:=λi=>[.i64 (i:Int)]) (λi x self hx _=>?_) (λ_ self=>?_) (by rw[eG h];omega))
  .obtain⟨hp,hq⟩:=g9 hx;unfold FU;simp only[aS hp (bS _),aJ hp,aS hq (bS _),aJ hq,bZ,EV,ai,aa,aF,ak,bi (aN hp),up1 (show i<1000000000 by have:=aN hp;omega)]
   grind
  .rw[eG h];unfold FU;simp only[EV,ai,aa,bK,Om]
 .rw[ad (by omega),aj (λe=>h (by rw[e]))]
def Ll {l k:List Int}(hl:l.length<=1000):Ans D 135 [sl I1 l,sl I1 k] [.bool (decide (l=k))]:=an (Xv hl)
def RB {l k:List Int}(hl:l.length<=1000):Ans D 313 [sl I1 l,sl I1 k] [.bool (decide (l=k))]:=an (Xv hl)
def afP {l k:List Bool}(hl:l.length<=1000):Ans D 376 [sl B1 l,sl B1 k] [.bool (decide (l=k))]:=by
 refine an ⟨1001,?_⟩;unfold ab8;simp only[EV,ai,aF,ak];by_cases h:l.length=k.length
 .rw[ac (by omega)];refine pQ h (cw (l:=l.zip k) (st:=λi=>[.i64 (i:Int)]) (λi x self hx _=>?_) (λ_ self=>?_) (by rw[eG h];omega))
  .obtain⟨hp,hq⟩:=g9 hx;unfold It;simp only[aS hp (rD _),aJ hp,aS hq (rD _),aJ hq,tj,EV,ai,aa,bi (aN hp),up1 (show i<1000000000 by have:=aN hp;omega)]
   grind
  .rw[eG h];unfold It;simp only[EV,ai,aa,bK,Qx]
 .rw[ad (by omega),aj (λe=>h (by rw[e]))]
def E8 {l:List Pt}(h:hY l):∀(d i:Nat) (p q:Pt),l[i]?=some p->l[i+d+1]?=some q->p.id<q.id
 |0,i,p,q,hp,hq=>h i p q hp hq
 |d+1,i,p,q,hp,hq=>by
  obtain⟨m,hm⟩:∃m,l[i+d+1]?=some m:=⟨l[i+d+1]'(by have:=aN hq;omega),ah _⟩;have h1:=E8 h d i p m hp hm;have h2:=h (i+d+1) m q hm (by rw[<-hq];congr 1);omega
def iE {l:List Pt}(h:hY l){i j:Nat}{p q:Pt}(hij:i<j)(hp:l[i]?=some p)(hq:l[j]?=some q):p.id<q.id:=
 E8 h (j-i-1) i p q hp (by rw[show i+(j-i-1)+1=j by omega];exact hq)
def dD {l:List Pt}(h:hY l):Ids l:=by
 unfold Ids;rw[dE];intro i j x hi hj;rw[aW,bR] at hi hj;obtain⟨p,hp,rfl⟩:=hi;obtain⟨q,hq,e⟩:=hj;rcases fH i j with g|g|g
 .have:=iE h g hp hq;omega
 .exact g
 .have:=iE h g hq hp;omega
def LB (l:List Pt)(id:Int)(m:Nat):Prop:=m<=l.length/\∀(k:Nat) (p:Pt),l[k]?=some p->(k<m->p.id<id)/\(m<=k->id<=p.id)
def RC {a b:Nat}(h:a<1000000)(k:b<1000000):de .shr .u64 (IntKind.u64.wrap (IntKind.i64.wrap ((a:Int)+(b:Int)))) .u64 1=some (.v (.int .u64 (((a+b)/2:Nat):Int))):=by
 rw[Nc,ac (by decide),bV (by omega) (by omega),kZ,show min (1:Int).toNat IntKind.u64.bits=1 from rfl,it _ (by decide)]
 congr 3
 omega
def zQ {N:Nat}{f:JT}{e0 e2:PV}{l:List Pt}{id:Int}(hs:hY l)(hl:l.length<=1000):∀(m i j:Nat),j-i<m->i<=j->j<=l.length->(∀(k:Nat) (p:Pt),l[k]?=some p->(k<i->p.id<id)/\(j<=k->id<=p.id))->
  ∃P,LB l id P/\ cS (aY D) N ui [f] [e0,.i64 id,F l,sl row l,e2] m [.i64 (i:Int),.i64 (j:Int)]=f [.i64 (P:Int)]
 |0,i,j,h,_,_,_=>by omega
 |m+1,i,j,h,hij,hj,hb=>by
  rw[bc];by_cases hlt:i<j
  .obtain⟨p,hp⟩:∃p,l[(i+j)/2]?=some p:=⟨l[(i+j)/2]'(by omega),ah _⟩;have key:∀self:JT,den (aY D) N ui ([f]++[self]) ([e0,.i64 id,F l,sl row l,e2]++[.i64 (i:Int),.i64 (j:Int)])=if p.id<id then self [.i64 (((i+j)/2+1:Nat):Int),.i64 (j:Int)] else self [.i64 (i:Int),.i64 (((i+j)/2:Nat):Int)]:=λself=>by
    unfold ui;simp only[EV,aa,bi hlt,RC (show i<1000000 by omega) (show j<1000000 by omega),bV (show-9223372036854775808<=(((i+j)/2:Nat):Int) by omega) (by omega),b8,aS hp (bY p),aJ hp,gr,dl,phi (xh _ _),PL,up1 (show(i+j)/2<1000000000 by omega)]
    by_cases c:p.id<id
    .rw[ad c,ad (show sgn (p.id-id)<0 by unfold sgn;rw[ad (by omega)];decide)]
    .rw[ac c,ac (show¬sgn (p.id-id)<0 by unfold sgn;rw[ac (by omega)];split<;>decide)]
   rw[key];by_cases c:p.id<id
   .rw[ad c];refine zQ hs hl m _ j (by omega) (by omega) hj λk q hq=>⟨λhk=>?_,(hb k q hq).2⟩;by_cases e:k=(i+j)/2
    .subst e;rw[hp] at hq;cases hq;exact c
    .have:=iE hs (show k<(i+j)/2 by omega) hq hp;omega
   .rw[ac c];refine zQ hs hl m i _ (by omega) (by omega) (by omega) λk q hq=>⟨(hb k q hq).1,λhk=>?_⟩;by_cases e:k=(i+j)/2
    .subst e;rw[hp] at hq;cases hq;omega
    .have:=iE hs (show(i+j)/2<k by omega) hp hq;omega
  .refine⟨i,⟨by omega,λk p hp=>⟨(hb k p hp).1,λh=>(hb k p hp).2 (by omega)⟩⟩,?_⟩;unfold ui;simp only[EV,aa];rw[ac (by omega)]
def zR {l:List Pt}{id:Int}:(∀p∈l,p.id≠id)->pos l id= -1:=λh=>by
 unfold pos lj;rw[eb.2 (λp hp=>aj (h p hp))];rfl
def zS {l:List Pt}(hs:hY l){i:Nat}{p:Pt}(h:l[i]?=some p):pos l p.id=i:=by
 unfold pos lj;have:l.findIdx? (λq=>decide (q.id=p.id))=some i:=by
  rw[bD];have hi:=aN h;have e:=(aD.1 h).2;refine⟨hi,by rw[e];simp,λj hj=>?_⟩;have:=iE hs hj (ah (by omega)) h;simp;omega
 rw[this];rfl
def pos_cases (l:List Pt)(id:Int):(pos l id= -1/\∀p∈l,p.id≠id)\/∃(i:Nat) (p:Pt),l[i]?=some p/\ p.id=id/\ pos l id=(i:Nat):=by
 unfold pos lj;cases h:l.findIdx? (λq=>decide (q.id=id)) with
 |none=>
  grind
 |some i=>
  obtain⟨h1,h2,_⟩:=bD.1 h
  grind
def rE {e0:PV}{l:List Pt}{id:Int}(hs:hY l)(hl:l.length<=1000):∃P:Nat,LB l id P/\(0<=pos l id->pos l id=P)/\∀(K2 K1:K) (J:List JT),K2=(.jp K1 (.lt (.bin .lss) [.x 5,.x 4] (.br (.x 6) (.lt (.cell 0) [.x 2] (.lt (.tix 3) [.x 7,.x 5] (.lt (.elt 0 3) [.x 7,.x 8] (.lt (.cell 0) [.x 9] (.call 354 [.x 10,.x 1] (.lt (.bin .eql) [.x 11,.c (.i64 0)] (.jmp 0 [.x 12]))))))) (.jmp 0 [.c (.bool false)]))))->
  cS (aY D) 1001 ui [oC (aY D) 1001 K2 [] [e0,.i64 id,F l,sl row l,.i64 (l.length:Int)]] [e0,.i64 id,F l,sl row l,.i64 (l.length:Int)] 1001 [.i64 0,.i64 (l.length:Int)]=den (aY D) 1001 K1 [] [e0,.i64 id,F l,sl row l,.i64 (l.length:Int),.i64 (P:Int),.bool (decide (0<=pos l id))]:=by
 have hbin:=λf:JT=>zQ (N:=1001) (f:=f) (e0:=e0) (e2:= .i64 (l.length:Int)) (id:=id) hs hl 1001 0 l.length (by omega) (by omega) (by omega) λk p hp=>⟨λh=>by omega,λh=>by have:=aN hp;omega⟩;have uniq:∀P P',LB l id P->LB l id P'->P=P':=λP P' h h'=>by
  rcases fH P P' with g|g|g
  .obtain⟨p,hp⟩:∃p,l[P]?=some p:=⟨l[P]'(by have:=h'.1;omega),ah _⟩;have h1:=(h.2 P p hp).2 (aC _);have h2:=(h'.2 P p hp).1 g;omega
  .exact g
  .obtain⟨p,hp⟩:∃p,l[P']?=some p:=⟨l[P']'(by have:=h.1;omega),ah _⟩;have h1:=(h'.2 P' p hp).2 (aC _);have h2:=(h.2 P' p hp).1 g;omega
 obtain⟨P,hLB,_⟩:=hbin λ_=>none;obtain⟨h1,h2⟩:=hLB;have hpos:(0<=pos l id->pos l id=P)/\(0<=pos l id↔∃p,l[P]?=some p/\ p.id=id):=by
  rcases pos_cases l id with⟨e,hn⟩|⟨i,p,hp,he,e⟩
  .refine⟨λh=>by omega,λh=>by omega,λ⟨p,hp,he⟩=>absurd he (hn p (ay hp))⟩
  .have:i=P:=by
    rcases fH i P with g|g|g
    .have:=(h2 i p hp).1 g;omega
    .exact g
    .obtain⟨q,hq⟩:∃q,l[P]?=some q:=⟨l[P]'(by have:=aN hp;omega),ah _⟩;have:=(h2 P q hq).2 (by omega);have:=iE hs g hq hp;omega
   subst this;exact⟨λ_=>e,λ_=>⟨p,hp,he⟩,λ_=>by omega⟩
 refine⟨P,⟨h1,h2⟩,hpos.1,λK2 K1 J hK=>?_⟩;obtain⟨P',hLB',h3⟩:=hbin (oC (aY D) 1001 K2 [] [e0,.i64 id,F l,sl row l,.i64 (l.length:Int)]);have:=uniq P P' ⟨h1,h2⟩ hLB';subst this;refine h3.trans ?_;subst hK;simp only[EV,aa];by_cases hP:P<l.length
 .obtain⟨p,hp⟩:∃p,l[P]?=some p:=⟨l[P],ah _⟩;simp only[bi hP,ax,b8,aS hp (bY p),aJ hp,gr,dl,phi (xh _ _),EV];have:decide (sgn (p.id-id)=0)=decide (0<=pos l id):=by
   rw[cv,E7,hpos.2];constructor
   .intro h;exact⟨p,hp,by omega⟩
   .rintro⟨q,hq,h⟩;rw[hp] at hq;cases hq;omega
  rw[this]
 .rw[ac (by omega)];rw[aj (show¬0<=pos l id by rw[hpos.2];rintro⟨p,hp,_⟩;have:=aN hp;omega)]
def eu {l:List Pt}:eO l=0↔okF l:=by
 unfold eO okF
 grind
def eQ {l:List Pt}(h:okF l){i:Nat}{p:Pt}(hp:l[i]?=some p):p.ok=true:=aV.1 h.2.1 p (ay hp)
def Cr {l:List Pt}(h:okF l){i:Nat}{p:Pt}(hp:l[i]?=some p):decide (0<=pos l p.id)=true/\ pos l p.id=(i:Nat):=by
 have:=zS h.2.2 hp
 grind
def Xw {l:List Pt}(h:okF l){i:Nat}{p:Pt}(hp:l[i]?=some p):Ans D 271 [F l,.i64 p.id] [.i64 (i:Int),.bool true]:=by
 obtain⟨P,_,h2,h1⟩:=rE (e0:=F l) (id:=p.id) h.2.2 (by have:=h.1;omega);obtain⟨e1,e2⟩:=Cr h hp;have:P=i:=by have:=h2 (ba e1);omega
 subst this;refine an ⟨1001,?_⟩;unfold SI;simp[aO,b8,EV];refine(h1 _ xQ [] rfl).trans ?_;simp[xQ,EV,e1]
def Xx {l:List Pt}(h:okF l){i:Nat}{p:Pt}(hp:l[i]?=some p):Ans D 281 [F l,.i64 p.id] [.i64 (i:Int),.i64 0]:=by
 have h0:=phi (vr l);rw[eu.2 h] at h0;refine am ?_;unfold Mu;simp[aO,EV,h0,phi (Xw h hp)]
def Uh (p:Pt):RF.ev .flat [PP p]=some (PP p):=rfl
def E9 {l:List Pt}(h:okF l){i:Nat}{p:Pt}(hp:l[i]?=some p):Ans D 248 [F l,.i64 p.id] [PP p,.i64 0]:=by
 refine am ?_;unfold aaB;simp[aO,b8,EV,phi (Xx h hp),aS hp (bY p),aJ hp,gr]
def afQ {l:List Pt}{t:Rt}(h:okF l)(ht:aX t)(hr:rok t=true){i j:Nat}{p q:Pt}(hp:l[i]?=some p)(hq:l[j]?=some q)(hne:p.id≠q.id):Ans D 156 [F l,R t,.i64 p.id,.i64 q.id] [.bool (leads t p q)]:=by
 have h0:=phi (E6 (p:=p) (q:=q) ht);rw[lu (eQ h hp) (eQ h hq) hr hne] at h0;refine am ?_;unfold ZA;simp[aO,bU,bz,EV,phi (E9 h hp),phi (E9 h hq),h0]
def RD {l:List Pt}(h:okF l){i:Nat}{p:Pt}(hp:l[i]?=some p):Ans D 367 [F l,.i64 p.id] [.i64 (i:Int),.bool true]:=by
 obtain⟨P,_,h2,h1⟩:=rE (e0:=F l) (id:=p.id) h.2.2 (by have:=h.1;omega);obtain⟨e1,e2⟩:=Cr h hp;have:P=i:=by have:=h2 (ba e1);omega
 subst this;refine an ⟨1001,?_⟩;unfold SP;simp[aO,b8,EV];refine(h1 _ Bt [] rfl).trans ?_;simp[Bt,EV,e1]
def adL {l:List Pt}(h:okF l){id:Int}(hn:∀p∈l,p.id≠id):∃P:Nat,Ans D 367 [F l,.i64 id] [.i64 (P:Int),.bool false]:=by
 obtain⟨P,_,_,h1⟩:=rE (e0:=F l) (id:=id) h.2.2 (by have:=h.1;omega);refine⟨P,an ⟨1001,?_⟩⟩;unfold SP;simp[aO,b8,EV];refine(h1 _ Bt [] rfl).trans ?_;simp only[zR hn];rfl
def ptOf (l:List Pt)(id:Int):Pt:=(l.find? λp=>decide (p.id=id)).getD ⟨-1,0,0⟩
def nF {l:List Pt}(h:okF l){i:Nat}{p:Pt}(hp:l[i]?=some p):ptOf l p.id=p:=by
 unfold ptOf;cases e:l.find? λq=>decide (q.id=p.id) with
 |none=>rw[gX] at e;have:=e p (ay hp);simp at this
 |some q=>
  have h1:=jw e;exact(dD h.2.2).inj (eX e) (ay hp) (ba h1)
def Dx {l:List Pt}{id:Int}(hn:∀p∈l,p.id≠id):ptOf l id=⟨-1,0,0⟩:=by
 unfold ptOf;rw[gX.2 (λp hp=>by simpa using hn p hp)]
 rfl
def has_cases (l:List Pt)(id:Int):(∀p∈l,p.id≠id)\/∃(i:Nat) (p:Pt),l[i]?=some p/\ p.id=id:=by
 rcases pos_cases l id with⟨_,h⟩|⟨i,p,h1,h2,_⟩
 .exact .inl h
 .grind
def zT {l:List Pt}(h:okF l)(id:Int):Ans D 315 [F l,.i64 id] [PP (ptOf l id)]:=by
 obtain⟨P,_,h2,h1⟩:=rE (e0:=F l) (id:=id) h.2.2 (by have:=h.1;omega);refine an ⟨1001,?_⟩;unfold abq;simp only[ax,aO,b8,EV,ai];refine(h1 _ HY [] rfl).trans ?_;unfold HY;rcases has_cases l id with hn|⟨i,p,hp,rfl⟩
 .have a3:RF.ev .agg [.i64 (-1),.i64 0,.i64 0]=some (PP ⟨-1,0,0⟩):=rfl;rw[zR hn,aj (by decide)];simp only[ax,aO,b8,EV,bI,aA,a3,Uh,Dx hn]
 .obtain⟨e1,e2⟩:=Cr h hp;have:P=i:=by have:=h2 (ba e1);omega
  subst this;rw[e1];simp only[ax,aO,b8,EV,aE,aq,aw,aS hp (bY p),aJ hp,gr,Uh,nF h hp]
structure Crt where
 low:Int
 high:Int
 deriving DecidableEq
structure Held where
 number:Int
 cert:Crt
 deriving DecidableEq
structure Hnd where
 index:Int
 use:Int
 deriving DecidableEq
structure Evt where
 time:Rt
 number:Int
 hnd:Hnd
 deriving DecidableEq
structure Due where
 number:Int
 hnd:Hnd
 deriving DecidableEq
structure Nod where
 id:Int
 left:Int
 right:Int
 deriving DecidableEq
structure Certs where
 next:Int
 list:List Held
 deriving DecidableEq
structure Agenda where
 slots:Slots
 heap:List Evt
 wher:List Int
 deriving DecidableEq
structure Clock where
 now:Rt
 pts:List Pt
 certs:Certs
 agenda:Agenda
 due:List Due
 deriving DecidableEq
structure Brk where
 places:List Int
 wins:List Int
 deriving DecidableEq
structure Tree where
 root:Int
 nodes:List Nod
 deriving DecidableEq
structure KHeap where
 clock:Clock
 heap:List Int
 deriving DecidableEq
structure KTourn where
 clock:Clock
 brk:Brk
 deriving DecidableEq
structure Heater where
 clock:Clock
 tree:Tree
 deriving DecidableEq
structure Choice where
 tag:Int
 heap:KHeap
 tourn:KTourn
 heater:Heater
 hanger:KHeap
 deriving DecidableEq
def bT (c:Crt):List PV:=[.i64 c.low,.i64 c.high]
def hrow (h:Held):List PV:=[.i64 h.number,.i64 h.cert.low,.i64 h.cert.high]
def bO (e:Evt):List PV:=[.i64 e.time.num,.i64 e.time.den,.i64 e.number,.i64 e.hnd.index,.i64 e.hnd.use]
def cE (d:Due):List PV:=[.i64 d.number,.i64 d.hnd.index,.i64 d.hnd.use]
def dG (n:Nod):List PV:=[.i64 n.id,.i64 n.left,.i64 n.right]
def CP (c:Crt):PV:= .agg (bT c)
def HP (h:Held):PV:= .agg (hrow h)
def EP (e:Evt):PV:= .agg (bO e)
def DP (d:Due):PV:= .agg (cE d)
def NP (n:Nod):PV:= .agg (dG n)
def csC (c:Certs):List PV:=[.i64 c.next,sl hrow c.list]
def slC (s:Slots):List PV:=[sl I1 s.uses,sl B1 s.used,sl I1 s.free]
def agC (a:Agenda):List PV:=slC a.slots++[sl bO a.heap,sl I1 a.wher]
def clC (c:Clock):List PV:= .i64 c.now.num:: .i64 c.now.den::sl row c.pts::(csC c.certs++(agC c.agenda++[sl cE c.due]))
def brC (b:Brk):List PV:=[sl I1 b.places,sl I1 b.wins]
def trC (t:Tree):List PV:=[.i64 t.root,sl dG t.nodes]
def khC (k:KHeap):List PV:=clC k.clock++[sl I1 k.heap]
def ktC (k:KTourn):List PV:=clC k.clock++brC k.brk
def htC (k:Heater):List PV:=clC k.clock++trC k.tree
def bg (c:Choice):List PV:= .v (.int .u8 c.tag)::(khC c.heap++(ktC c.tourn++(htC c.heater++khC c.hanger)))
def CS (c:Certs):PV:= .agg (csC c)
def SL (s:Slots):PV:= .agg (slC s)
def AG (a:Agenda):PV:= .agg (agC a)
def CL (c:Clock):PV:= .agg (clC c)
def BR (b:Brk):PV:= .agg (brC b)
def TR (t:Tree):PV:= .agg (trC t)
def KH (k:KHeap):PV:= .agg (khC k)
def KT (k:KTourn):PV:= .agg (ktC k)
def HT (k:Heater):PV:= .agg (htC k)
def CHO (c:Choice):PV:= .agg (bg c)
def tq (c:Crt):cF 0 2 (bT c)=some (CP c):=rfl
def iS (h:Held):cF 0 3 (hrow h)=some (HP h):=rfl
def Ef (h:Held):cF 1 2 (hrow h)=some (CP h.cert):=rfl
def Lm (h:Held):cF 0 0 (hrow h)=some (.i64 h.number):=rfl
def adM (h:Held):cF 1 0 (hrow h)=some (.i64 h.cert.low):=rfl
def adN (h:Held):cF 2 0 (hrow h)=some (.i64 h.cert.high):=rfl
def eU (e:Evt):cF 0 5 (bO e)=some (EP e):=rfl
def Fa (d:Due):cF 0 3 (cE d)=some (DP d):=rfl
def xl (n:Nod):cF 0 3 (dG n)=some (NP n):=rfl
def jz (c:Crt):(bT c).length=2:=rfl
def fi (c:Held):(hrow c).length=3:=rfl
def kb (c:Evt):(bO c).length=5:=rfl
def iT (c:Due):(cE c).length=3:=rfl
def ke (c:Nod):(dG c).length=3:=rfl
section
variable (c:Certs)(s:Slots)(a:Agenda)(k:Clock)(b:Brk)(t:Tree)(kh:KHeap)(kt:KTourn)(ht:Heater)(ch:Choice)(cr:Crt)(h:Held)
theorem jA:RF.ev (.shape 2) [CP cr]=some (CP cr):=rfl
theorem nY:RF.ev (.cell 0) [CP cr]=some (.i64 cr.low):=rfl
theorem nZ:RF.ev (.cell 1) [CP cr]=some (.i64 cr.high):=rfl
theorem ii:RF.ev (.cell 0) [HP h]=some (.i64 h.number):=rfl
theorem pHP:RF.ev (.part 1 2) [HP h]=some (CP h.cert):=rfl
theorem iI:RF.ev (.shape 2) [CS c]=some (CS c):=rfl
theorem lx:RF.ev (.cell 0) [CS c]=some (.i64 c.next):=rfl
theorem fm:RF.ev (.cell 1) [CS c]=some (sl hrow c.list):=rfl
theorem iW:RF.ev (.shape 3) [SL s]=some (SL s):=rfl
theorem iX:RF.ev (.cell 0) [SL s]=some (sl I1 s.uses):=rfl
theorem kf:RF.ev (.cell 1) [SL s]=some (sl B1 s.used):=rfl
theorem iY:RF.ev (.cell 2) [SL s]=some (sl I1 s.free):=rfl
theorem ga:RF.ev (.shape 5) [AG a]=some (AG a):=rfl
theorem pAG:RF.ev (.part 0 3) [AG a]=some (SL a.slots):=rfl
theorem d7:RF.ev (.cell 3) [AG a]=some (sl bO a.heap):=rfl
theorem gt:RF.ev (.cell 4) [AG a]=some (sl I1 a.wher):=rfl
theorem db:RF.ev (.shape 11) [CL k]=some (CL k):=rfl
theorem fq:RF.ev (.part 0 2) [CL k]=some (R k.now):=rfl
theorem mf:RF.ev (.part 2 1) [CL k]=some (F k.pts):=rfl
theorem mh:RF.ev (.part 3 2) [CL k]=some (CS k.certs):=rfl
theorem mi:RF.ev (.part 5 5) [CL k]=some (AG k.agenda):=rfl
theorem m8:RF.ev (.cell 2) [CL k]=some (sl row k.pts):=rfl
theorem fu:RF.ev (.cell 4) [CL k]=some (sl hrow k.certs.list):=rfl
theorem jB:RF.ev (.cell 8) [CL k]=some (sl bO k.agenda.heap):=rfl
theorem jU:RF.ev (.cell 9) [CL k]=some (sl I1 k.agenda.wher):=rfl
theorem cU:RF.ev (.cell 10) [CL k]=some (sl cE k.due):=rfl
theorem kg:RF.ev (.shape 2) [BR b]=some (BR b):=rfl
theorem qw:RF.ev (.cell 0) [BR b]=some (sl I1 b.places):=rfl
theorem jC:RF.ev (.cell 1) [BR b]=some (sl I1 b.wins):=rfl
theorem qx:RF.ev (.shape 2) [TR t]=some (TR t):=rfl
theorem RE:RF.ev (.cell 0) [TR t]=some (.i64 t.root):=rfl
theorem iZ:RF.ev (.cell 1) [TR t]=some (sl dG t.nodes):=rfl
theorem dz:RF.ev (.shape 12) [KH kh]=some (KH kh):=rfl
theorem pKH:RF.ev (.part 0 11) [KH kh]=some (CL kh.clock):=rfl
theorem cKH:RF.ev (.cell 11) [KH kh]=some (sl I1 kh.heap):=rfl
theorem gu:RF.ev (.shape 13) [KT kt]=some (KT kt):=rfl
theorem pKT:RF.ev (.part 0 11) [KT kt]=some (CL kt.clock):=rfl
theorem zU:RF.ev (.part 11 2) [KT kt]=some (BR kt.brk):=rfl
theorem gC:RF.ev (.shape 13) [HT ht]=some (HT ht):=rfl
theorem pHT:RF.ev (.part 0 11) [HT ht]=some (CL ht.clock):=rfl
theorem Lo:RF.ev (.part 11 2) [HT ht]=some (TR ht.tree):=rfl
theorem er:RF.ev (.shape 51) [CHO ch]=some (CHO ch):=rfl
theorem cCH:RF.ev (.cell 0) [CHO ch]=some (.v (.int .u8 ch.tag)):=rfl
theorem qy:RF.ev (.part 1 12) [CHO ch]=some (KH ch.heap):=rfl
theorem qz:RF.ev (.part 13 13) [CHO ch]=some (KT ch.tourn):=rfl
theorem qA:RF.ev (.part 26 13) [CHO ch]=some (HT ch.heater):=rfl
theorem qB:RF.ev (.part 39 12) [CHO ch]=some (KH ch.hanger):=rfl
end
def gSl (s:Slots):Bool:=decide (210<s.uses.length)||decide (210<s.used.length)||decide (210<s.free.length)
def gAg (a:Agenda):Bool:=gSl a.slots||decide (210<a.heap.length)||decide (210<a.wher.length)
def gF (l:List Pt):Bool:=(decide (16<l.length)&& decide (l.length<64))||decide (70<l.length)
def gCl (c:Clock):Bool:=decide (40<c.certs.list.length)||decide (40<c.due.length)||gF c.pts||gAg c.agenda
def gKh (k:KHeap):Bool:=gCl k.clock||decide (70<k.heap.length)
def gKt (k:KTourn):Bool:=gCl k.clock||(decide (70<k.brk.places.length)||decide (70<k.brk.wins.length))
def gHt (k:Heater):Bool:=gCl k.clock||decide (70<k.tree.nodes.length)
def gCh (c:Choice):Bool:=gKh c.heap||gKt c.tourn||gHt c.heater||gKh c.hanger
def Ui (b:Nat):decide ((210:Int)<(b:Int))=decide (210<b):=cv.2 (by omega)
def Lp (b:Nat):decide ((70:Int)<(b:Int))=decide (70<b):=cv.2 (by omega)
def afR (s:Slots):Ans D 285 [SL s] [.bool (gSl s)]:=by
 refine am ?_;unfold aaY gSl;simp[iW,iX,kf,iY,EV,PW,Ui]
 grind
def afS (a:Agenda):Ans D 206 [AG a] [.bool (gAg a)]:=by
 refine am ?_;unfold Z9 gAg;simp[ga,pAG,d7,gt,EV,O4,Ui,phi (afR _)]
 grind
def c19 (l:List Pt):Ans D 19 [F l] [.bool (gF l)]:=by
 refine am ?_;unfold k19 gF;simp[aO,b8,EV,UJ,Lp]
 grind
def RG (c:Clock):Ans D 109 [CL c] [.bool (gCl c)]:=by
 refine am ?_;unfold Zb gCl;simp[db,fu,cU,mf,mi,EV,N6,phi (c19 _),phi (afS _)]
 grind
def afT (b:Brk):Ans D 110 [BR b] [.bool (decide (70<b.places.length)||decide (70<b.wins.length))]:=by
 refine am ?_;unfold Zc;simp[kg,qw,jC,EV,N7,Lp]
 grind
def afU (t:Tree):Ans D 111 [TR t] [.bool (decide (70<t.nodes.length))]:=by
 refine am ?_;unfold Zd;simp[qx,iZ,EV,Lp]
def d35 (k:KHeap):∃N,den (aY D) N k35 [] [KH k]=some [.bool (gKh k)]:=by
 refine⟨1,?_⟩;unfold k35 gKh;simp[dz,pKH,cKH,EV,UV,Lp,phi (RG _)]
 grind
def c36 (k:KTourn):Ans D 36 [KT k] [.bool (gKt k)]:=by
 refine am ?_;unfold k36 gKt;simp[gu,pKT,zU,EV,UW,phi (RG _),phi (afT _)]
 grind
def c37 (k:Heater):Ans D 37 [HT k] [.bool (gHt k)]:=by
 refine am ?_;unfold k37 gHt;simp[gC,pHT,Lo,EV,UX,phi (RG _),phi (afU _)]
 grind
def c7 (c:Choice):Ans D 7 [CHO c] [.bool (gCh c)]:=by
 refine am ?_;unfold k7 gCh;simp[er,qy,qz,qA,qB,EV,Yv,phi (an (g:=35) (d35 _)),phi (c36 _),phi (c37 _),phi (an (g:=38) (d35 _))]
 grind
def RH (a b c x y z:Int):RF.ev (.eqv [.i,.i,.i]) [.agg [.i64 a,.i64 b,.i64 c],.agg [.i64 x,.i64 y,.i64 z]]=some (.bool (decide (a=x/\ b=y/\ c=z))):=by
 have:RF.ev (.eqv [.i,.i,.i]) [.agg [.i64 a,.i64 b,.i64 c],.agg [.i64 x,.i64 y,.i64 z]]=some (.bool (decide (a=x)&&(decide (b=y)&&(decide (c=z)&& true)))):=rfl;simp_all
def afV (p q:Held):RF.ev (.eqv [.i,.i,.i]) [HP p,HP q]=some (.bool (decide (p=q))):=by
 obtain⟨a,b,c⟩:=p;obtain⟨x,y,z⟩:=q;refine(RH ..).trans ?_;simp_all
def afW (p q:Due):RF.ev (.eqv [.i,.i,.i]) [DP p,DP q]=some (.bool (decide (p=q))):=by
 obtain⟨a,b,c⟩:=p;obtain⟨x,y,z⟩:=q;refine(RH ..).trans ?_;simp_all
def Xy (p q:Nod):RF.ev (.eqv [.i,.i,.i]) [NP p,NP q]=some (.bool (decide (p=q))):=by
 obtain⟨a,b,c⟩:=p;obtain⟨x,y,z⟩:=q;refine(RH ..).trans ?_;simp_all
def Xz (a b x y:Int):RF.ev (.eqv [.i,.i]) [.agg [.i64 a,.i64 b],.agg [.i64 x,.i64 y]]=some (.bool (decide (a=x/\ b=y))):=by
 have:RF.ev (.eqv [.i,.i]) [.agg [.i64 a,.i64 b],.agg [.i64 x,.i64 y]]=some (.bool (decide (a=x)&&(decide (b=y)&& true))):=rfl;simp_all
def xm (p q:Crt):RF.ev (.eqv [.i,.i]) [CP p,CP q]=some (.bool (decide (p=q))):=by
 obtain⟨a,b⟩:=p;obtain⟨x,y⟩:=q;refine(Xz ..).trans ?_;simp_all
def RI (p q:Rt):RF.ev (.eqv [.i,.i]) [R p,R q]=some (.bool (decide (p=q))):=by
 obtain⟨a,b⟩:=p;obtain⟨x,y⟩:=q;refine(Xz ..).trans ?_;simp_all
def XA (p q:Evt):RF.ev (.eqv [.i,.i,.i,.i,.i]) [EP p,EP q]=some (.bool (decide (p=q))):=by
 obtain⟨⟨a,b⟩,c,d,e⟩:=p;obtain⟨⟨x,y⟩,z,u,v⟩:=q;have:RF.ev (.eqv [.i,.i,.i,.i,.i]) [EP ⟨⟨a,b⟩,c,⟨d,e⟩⟩,EP ⟨⟨x,y⟩,z,⟨u,v⟩⟩]=some (.bool (decide (a=x)&&(decide (b=y)&&(decide (c=z)&&(decide (d=u)&&(decide (e=v)&& true)))))):=rfl;rw[this]
 congr 2
 grind
def afX {s t:Slots}(h:gSl s=false):Ans D 312 [SL s,SL t] [.bool (decide (s=t))]:=by
 unfold gSl at h;simp at h;refine am ?_;unfold abk;simp only[ax,iW,iX,kf,iY,EV,P2,phi (RB (l:=s.uses) (k:=t.uses) (by omega)),phi (afP (l:=s.used) (k:=t.used) (by omega)),phi (RB (l:=s.free) (k:=t.free) (by omega)),aa];obtain⟨a,b,c⟩:=s;obtain⟨x,y,z⟩:=t;by_cases h1:a=x<;>by_cases h2:b=y<;>simp[h1,h2]
def afY {s t:Agenda}(h:gAg s=false):Ans D 230 [AG s,AG t] [.bool (decide (s=t))]:=by
 unfold gAg at h;simp only[eN,ak] at h;refine an ⟨1001,?_⟩;unfold aap;obtain⟨a,b,c⟩:=s;obtain⟨x,y,z⟩:=t;simp only[ax,ga,pAG,d7,gt,EV,ai,phi (afX h.1.1),phi (RB (l:=c) (k:=z) (show c.length<=1000 by have:=h.2;simp only at this;omega)),aF,ak]
 by_cases h1:a=x
 .by_cases h2:c=z
  .subst h1;subst h2;simp only[cX,aw];by_cases h3:b.length=y.length
   .rw[ac (by omega)];refine(pQ (l:=b) (k:=y) h3 (cw (l:=b.zip y) (st:=λi=>[.i64 (i:Int)]) (λi x self hx _=>?_) (λ_ self=>?_) (by have:=h.1.2;rw[eG h3];simp only at this;omega))).trans ?_
    .obtain⟨hp,hq⟩:=g9 hx;unfold G0;simp only[ax,d7,aS hp (kb _),aJ hp,aS hq (kb _),aJ hq,eU,XA,EV,ai,aa,aF,ak,bi (aN hp),up1 (show i<1000000000 by have:=aN hp;have:=h.1.2;simp only at this;omega)]
     grind
    .rw[eG h3];unfold G0;simp only[ax,d7,EV,ai,aa,bK,Pk]
    .simp[Agenda.mk.injEq]
   .rw[ad (by omega),aj (λe=>h3 (by cases e;rfl))]
  .rw[ac (by simp[h1]),ad h2,aj (λe=>h2 (by cases e;rfl))]
 .rw[ad h1,aj (λe=>h1 (by cases e;rfl))]
def afZ {s t:Certs}(h:s.list.length<=1000):Ans D 229 [CS s,CS t] [.bool (decide (s=t))]:=by
 refine an ⟨1001,?_⟩;unfold aao;obtain⟨a,b⟩:=s;obtain⟨x,y⟩:=t;simp only at h;simp only[ax,iI,lx,fm,EV,ai,aF,ak];by_cases h1:a=x
 .subst h1;simp only[cX,aw];by_cases h3:b.length=y.length
  .rw[ac (by omega)];refine(pQ (l:=b) (k:=y) h3 (cw (l:=b.zip y) (st:=λi=>[.i64 (i:Int)]) (λi x self hx _=>?_) (λ_ self=>?_) (by rw[eG h3];omega))).trans ?_
   .obtain⟨hp,hq⟩:=g9 hx;unfold GZ;simp only[ax,fm,aS hp (fi _),aJ hp,aS hq (fi _),aJ hq,iS,afV,EV,ai,aa,aF,ak,bi (aN hp),up1 (show i<1000000000 by have:=aN hp;omega)]
    grind
   .rw[eG h3];unfold GZ;simp only[ax,fm,EV,ai,aa,bK,Pj]
   .simp_all
  .rw[ad (by omega),aj (λe=>h3 (by cases e;rfl))]
 .simp_all
structure gW (s:Clock):Prop where
 certs:s.certs.list.length<=1000
 due:s.due.length<=1000
 pts:s.pts.length<=1000
 ag:gAg s.agenda=false
def yO {s:Clock}(h:gCl s=false):gW s:=by
 unfold gCl gF at h;simp at h;obtain⟨⟨⟨h1,h2⟩,h3,h3'⟩,h4⟩:=h;exact⟨by omega,by omega,by omega,h4⟩
def Lq {s t:Clock}(h:gW s):Ans D 134 [CL s,CL t] [.bool (decide (s=t))]:=by
 obtain⟨h1,h2,h3,h4⟩:=h;obtain⟨a,b,c,d,e⟩:=s;obtain⟨x,y,z,u,v⟩:=t;simp only at h1 h2 h3 h4;refine an ⟨1001,?_⟩;unfold Zr;simp only[ax,db,fq,mf,mh,mi,cU,RI,EV,ai,aF,ak,phi (c28 (l:=b) (k:=y) (by omega)),phi (afZ (s:=c) (t:=z) (by omega)),phi (afY (t:=u) h4)];by_cases e1:a=x
 .by_cases e2:b=y
  .by_cases e3:c=z
   .by_cases e4:d=u
    .subst e1;subst e2;subst e3;subst e4;simp only[cX,aw];by_cases e5:e.length=v.length
     .rw[ac (by omega)];refine(pQ (l:=e) (k:=v) e5 (cw (l:=e.zip v) (st:=λi=>[.i64 (i:Int)]) (λi x self hx _=>?_) (λ_ self=>?_) (by rw[eG e5];omega))).trans ?_
      .obtain⟨hp,hq⟩:=g9 hx;unfold FS;simp only[ax,cU,aS hp (iT _),aJ hp,aS hq (iT _),aJ hq,Fa,afW,EV,ai,aa,aF,ak,bi (aN hp),up1 (show i<1000000000 by have:=aN hp;omega)]
       grind
      .rw[eG e5];unfold FS;simp only[ax,cU,EV,ai,aa,bK,Ol]
      .simp[Clock.mk.injEq]
     .rw[ad (by omega),aj (λh=>e5 (by cases h;rfl))]
    .rw[ac (by simp[e1]),ac (by simp[e2]),ac (by simp[e3]),ad e4,aj (λh=>e4 (by cases h;rfl))]
   .rw[ac (by simp[e1]),ac (by simp[e2]),ad e3,aj (λh=>e3 (by cases h;rfl))]
  .rw[ac (by simp[e1]),ad e2,aj (λh=>e2 (by cases h;rfl))]
 .rw[ad e1,aj (λh=>e1 (by cases h;rfl))]
def af0 {s t:Brk}(h:s.places.length<=1000)(k:s.wins.length<=1000):Ans D 136 [BR s,BR t] [.bool (decide (s=t))]:=by
 refine am ?_;unfold Zs;obtain⟨a,b⟩:=s;obtain⟨x,y⟩:=t;simp[kg,qw,jC,EV,On,phi (Ll (l:=a) (k:=x) h),phi (Ll (l:=b) (k:=y) k)];by_cases e1:a=x<;>by_cases e2:b=y<;>simp[e1]
def XB {s t:Tree}(h:s.nodes.length<=1000):Ans D 137 [TR s,TR t] [.bool (decide (s=t))]:=by
 refine an ⟨1001,?_⟩;unfold Zt;obtain⟨a,b⟩:=s;obtain⟨x,y⟩:=t;simp only at h;simp only[ax,qx,RE,iZ,EV,ai,aF,ak];by_cases h1:a=x
 .subst h1;simp only[cX,aw];by_cases h3:b.length=y.length
  .rw[ac (by omega)];refine(pQ (l:=b) (k:=y) h3 (cw (l:=b.zip y) (st:=λi=>[.i64 (i:Int)]) (λi x self hx _=>?_) (λ_ self=>?_) (by rw[eG h3];omega))).trans ?_
   .obtain⟨hp,hq⟩:=g9 hx;unfold FV;simp only[ax,iZ,aS hp (ke _),aJ hp,aS hq (ke _),aJ hq,xl,Xy,EV,ai,aa,aF,ak,bi (aN hp),up1 (show i<1000000000 by have:=aN hp;omega)]
    grind
   .rw[eG h3];unfold FV;simp only[ax,iZ,EV,ai,aa,bK,Oo]
   .simp[Tree.mk.injEq]
  .rw[ad (by omega),aj (λe=>h3 (by cases e;rfl))]
 .rw[ad h1,aj (λe=>h1 (by cases e;rfl))]
def d51 {s t:KHeap}(h:gW s.clock/\ s.heap.length<=1000):∃N,den (aY D) N k51 [] [KH s,KH t]=some [.bool (decide (s=t))]:=by
 unfold k51;obtain⟨a,b⟩:=s;obtain⟨x,y⟩:=t;simp only at h;simp[dz,pKH,cKH,EV,UY,phi (Lq (t:=x) h.1),phi (Ll (l:=b) (k:=y) (by omega))];by_cases e1:a=x<;>by_cases e2:b=y<;>simp[e1]
def Eg {s:KHeap}(h:gKh s=false):gW s.clock/\ s.heap.length<=1000:=by
 unfold gKh at h;simp at h;exact⟨yO h.1,by omega⟩
def XC {s t:KHeap}(h:gW s.clock/\ s.heap.length<=1000):Ans D 51 [KH s,KH t] [.bool (decide (s=t))]:=an (d51 h)
def XD {s t:KHeap}(h:gW s.clock/\ s.heap.length<=1000):Ans D 54 [KH s,KH t] [.bool (decide (s=t))]:=an (d51 h)
def c51 {s t:KHeap}(h:gKh s=false):Ans D 51 [KH s,KH t] [.bool (decide (s=t))]:=XC (Eg h)
def c54 {s t:KHeap}(h:gKh s=false):Ans D 54 [KH s,KH t] [.bool (decide (s=t))]:=XD (Eg h)
def XE {s t:KTourn}(h:gW s.clock/\ s.brk.places.length<=1000/\ s.brk.wins.length<=1000):Ans D 52 [KT s,KT t] [.bool (decide (s=t))]:=by
 refine am ?_;unfold k52;obtain⟨a,b⟩:=s;obtain⟨x,y⟩:=t;simp only at h;simp[gu,pKT,zU,EV,UZ,phi (Lq (t:=x) h.1),phi (af0 (s:=b) (t:=y) (by omega) (by omega))];by_cases e1:a=x<;>by_cases e2:b=y<;>simp[e1]
def XF {s t:Heater}(h:gW s.clock/\ s.tree.nodes.length<=1000):Ans D 53 [HT s,HT t] [.bool (decide (s=t))]:=by
 refine am ?_;unfold k53;obtain⟨a,b⟩:=s;obtain⟨x,y⟩:=t;simp only at h;simp[gC,pHT,Lo,EV,U1,phi (Lq (t:=x) h.1),phi (XB (s:=b) (t:=y) (by omega))];by_cases e1:a=x<;>by_cases e2:b=y<;>simp[e1]
def c52 {s t:KTourn}(h:gKt s=false):Ans D 52 [KT s,KT t] [.bool (decide (s=t))]:=by
 unfold gKt at h;simp at h;exact XE ⟨yO h.1,by omega,by omega⟩
def c53 {s t:Heater}(h:gHt s=false):Ans D 53 [HT s,HT t] [.bool (decide (s=t))]:=by
 unfold gHt at h;simp at h;exact XF ⟨yO h.1,by omega⟩
end Go.Proofs.YtfghdmmapmdcgaaGreat
namespace Go.Sym
open Go.Sym
def foldO {α β:Type}(g:β->α->Option β):β->List α->Option β
 |x,[]=>some x
 |x,a::l=>match g x a with
  |some y=>foldO g y l
  |none=>none
section
variable {Φ:PhT}{N:Nat}{b:K}{J:List JT}{e:List PV}{α β:Type}{l:List α}
def vt {g:β->α->Option β}{I:β->Prop}{S:β->Nat->List PV}{fin:β->Option (List PV)}{r:Option (List PV)}{x:β}(h0:I x)(hi:∀a acc acc',I acc->g acc a=some acc'->I acc')(hs:∀i a acc self,l[i]?=some a->I acc->den Φ N b (J++[self]) (e++S acc i)=match g acc a with|some acc'=>self (S acc' (i+1))|none=>r)
  (hf:∀acc self,I acc->foldO g x l=some acc->den Φ N b (J++[self]) (e++S acc l.length)=fin acc) {m:Nat} (hm:l.length<m):cS Φ N b J e m (S x 0)=match foldO g x l with|some acc=>fin acc|none=>r:=by
 have:∀(k:List α) i m acc,l.drop i=k->i<=l.length->k.length<m->I acc->foldO g x l=foldO g acc k->cS Φ N b J e m (S acc i)=match foldO g acc k with|some acc=>fin acc|none=>r:=by
  intro k;induction k with
  |nil=>
   intro i m acc h hi' hm hI hx;obtain⟨m,rfl⟩:∃m',m=m'+1:=⟨m-1,by omega⟩;have:=li h hi';have hil:i=l.length:=by simpa using this
   rw[bc,hil];exact hf _ _ hI hx
  |cons a k ih=>
   intro i m acc h hi' hm hI hx;obtain⟨m,rfl⟩:∃m',m=m'+1:=⟨m-1,by omega⟩;obtain⟨h1,h2⟩:=gI h;have:=li h hi';simp only[bA] at hm this;rw[bc,hs i a acc _ h1 hI];have hu:foldO g acc (a::k)=match g acc a with|some y=>foldO g y k|none=>none:=rfl
   rw[hu] at hx|-;cases hg:g acc a with
   |none=>rfl
   |some acc'=>
    rw[hg] at hx;exact ih (i+1) m _ h2 (by omega) (by omega) (hi a acc acc' hI hg) hx
 exact this l 0 m x rfl (by omega) hm h0 rfl
end
end Go.Sym
namespace Go.Proofs.YtfghdmmapmdcgaaGreat
open Go.Sym Bnd
set_option maxRecDepth 100000
def n7:∀(xs:List Int) (l:List Bool),oO l xs=foldO (λl x=>if 0<=x/\ x<l.length/\ l[x.toNat]?=some false then some (l.set x.toNat true) else none) l xs
 |[],l=>rfl
 |x::xs,l=>by
  unfold oO foldO;by_cases h:0<=x/\ x<l.length/\ l[x.toNat]?=some false
  .rw[ad h,ad h];exact n7 xs _
  .rw[ac h,ac h]
def Lr {l:List Bool}{i:Nat}(h:i<l.length):RF.ev (.set 0) [sl B1 l,.v (.int .i64 (i:Int)),.v (.bool true)]=some (sl B1 (l.set i true)):=by
 rw[qY,ad (by omega),aG,aW,ah h];exact bj (λx=>some (PV.sl x)) (jZ (f:=B1) (l:=l) (i:=i) (a:=true)).symm
def ixM {i n:Nat}(h:i<n):RF.ev .ix [.v (.int .i64 (i:Int)),.v (.int .i64 (n:Int))]=some (.i64 (i:Int)):=by
 rw[ac7,ad (by omega)]
def rF {x:Int}(h:0<=x):∃n:Nat,x=(n:Int):=⟨x.toNat,by omega⟩
def bbE (a b:Bool):RF.ev (.bbin .eql) [.v (.bool a),.v (.bool b)]=some (.v (.bool (a==b))):=rfl
open Classical in
def af1 (s:Slots)(hf:s.free.length<=1000):Ans D 345 [SL s] [.i64 (okE (decide s.okR))]:=by
 refine an ⟨1001,?_⟩;unfold abI;simp only[ax,iW,iX,kf,iY,EV,ai,aa,aF,ak];have no:∀h:¬s.okR,(some [PV.v (.int .i64 8)]:Option (List PV))=some [.i64 (okE (decide s.okR))]:=λh=>by rw[aj h];rfl
 by_cases h1:s.uses.length<1
 .rw[ad (by omega)];exact no (λh=>by have:=h.1;omega)
 .rw[ac (by omega)];by_cases h2:200<s.uses.length
  .rw[ad (by omega)];exact no (λh=>by have:=h.2.1;omega)
  .rw[ac (by omega)];by_cases h3:s.used.length=s.uses.length
   .rw[ac (by omega)];by_cases h4:s.uses.length<s.free.length
    .rw[ad (by omega)];exact no (λh=>by have:=h.2.2.2.1;omega)
    .rw[ac (by omega)];have hrep:RF.ev (.rep [.v (.bool false)] 1) [.v (.int .i64 (s.uses.length:Int)),.v (.int .i64 (s.uses.length:Int))]=some (sl B1 (List.replicate s.uses.length false)):=by
      rw[VA,ad ⟨by omega,by omega,by omega,by omega⟩,aG];show _=some (PV.sl ((List.replicate s.uses.length false).map B1))
      rw[List.map_replicate];rfl
     simp only[hrep,qk,Ju,Nd,ax,EV,ai,aP];refine(vt (l:=s.free) (g:=λl x=>if 0<=x/\ x<l.length/\ l[x.toNat]?=some false then some (l.set x.toNat true) else none) (I:=λl=>l.length=s.uses.length) (S:=λl i=>[sl B1 l,.i64 (i:Int)]) (r:=some [.i64 8])
      (fin:=λ_=>some [.i64 (okE (decide s.okR))]) (x:=List.replicate s.uses.length false) (by simp) (λa acc acc' hI hg=>?_) (λi x acc self hx hI=>?_) (λacc self hI hm=>?_) (by omega)).trans ?_
     .split at hg
      .cases hg;simpa using hI
      .cases hg
     .unfold Ia;have hi:=aN hx;simp only[ax,iY,aS hx (bS _),aJ hx,bZ,EV,ai,aa,bi hi];by_cases c1:x<0
      .rw[ad c1,ac (by omega)]
      .rw[ac c1];by_cases c2:(s.uses.length:Int)<=x
       .rw[ad c2,ac (by rw[hI];omega)]
       .rw[ac c2];obtain⟨n,rfl⟩:=rF (show 0<=x by omega)
        obtain⟨b,hb⟩:∃b,acc[n]?=some b:=⟨acc[n]'(by omega),ah _⟩;simp only[ax,iY,aS hx (bS _),aJ hx,bZ,ixM (show n<s.uses.length by omega),aJ hb,tj,Lr (show n<acc.length by omega),EV,up1 (show i<1000000000 by omega)]
        cases b with
        |true=>rw[ad rfl,ac (by rw[aG,hb];simp)]
        |false=>rw[ac (by simp),ad ⟨by omega,by omega,by rw[aG];exact hb⟩,aG]
     .unfold Ia;simp only[ax,iY,EV,ai,aa,bK,Qf];rw[<-n7] at hm;have hlist:(List.range s.uses.length).length=s.uses.length:=mF;refine(fD (n:=s.uses.length) (P:=λi=>∀(u:Int) (b c:Bool),s.uses[i]?=some u->s.used[i]?=some b->acc[i]?=some c->0<=u/\ u<=1000000/\ b≠c/\¬(b=true/\ u<1)) (st:=λi=>[.i64 (i:Int)]) (r:=some [.i64 8]) (fin:=some [.i64 0]) (λi self hi _=>?_) (λ_ self=>?_) (by omega)).trans ?_
      .obtain⟨u,hu⟩:∃u,s.uses[i]?=some u:=⟨s.uses[i],ah _⟩;obtain⟨b,hb⟩:∃b,s.used[i]?=some b:=⟨s.used[i]'(by omega),ah _⟩;obtain⟨c,hc⟩:∃c,acc[i]?=some c:=⟨acc[i]'(by omega),ah _⟩;have hP:(∀(u':Int) (b' c':Bool),s.uses[i]?=some u'->s.used[i]?=some b'->acc[i]?=some c'->0<=u'/\ u'<=1000000/\ b'≠c'/\¬(b'=true/\ u'<1))↔(0<=u/\ u<=1000000/\ b≠c/\¬(b=true/\ u<1)):=
        ⟨λh=>h u b c hu hb hc,λh u' b' c' h1 h2 h3=>by rw[hu] at h1;rw[hb] at h2;rw[hc] at h3;cases h1;cases h2;cases h3;exact h⟩
       unfold H9;simp only[hP,ax,iX,kf,aS hu (bS _),aJ hu,bZ,aS hb (rD _),aJ hb,tj,ixM hi,aJ hc,bbE,EV,aa,bi hi,Qe,up1 (show i<1000000000 by omega)]
       by_cases c1:u<0
       .simp only[ad c1,cQ,aA];rw[ac (λh=>by omega)]
       .simp only[ac c1];by_cases c2:1000000<u
        .simp only[ad c2,cQ,aA];rw[ac (λh=>by omega)]
        .simp only[ac c2];cases b<;>cases c<;>simp only[fR,aq,aA,aw,cQ,ne_eq,cX,fI,gZ,eF,fS,nD,aa,show(true==false)=false from rfl,show(false==true)=false from rfl,reduceCtorEq]
         .rw[ad (by omega)]
         .by_cases c3:u<1
          .rw[ad c3,ac (λh=>by omega)]
          .rw[ac c3,ad (by omega)]
      .unfold H9;simp only[EV,aa,bK,Qd]
      .have:(∀i,i<s.uses.length->∀(u:Int) (b c:Bool),s.uses[i]?=some u->s.used[i]?=some b->acc[i]?=some c->0<=u/\ u<=1000000/\ b≠c/\¬(b=true/\ u<1))↔s.okR:=by
        unfold Slots.okR;constructor
        .intro h;exact⟨by omega,by omega,h3,by omega,acc,hm,λi u b c hu hb hc=>h i (aN hu) u b c hu hb hc⟩
        .rintro⟨_,_,_,_,l,hl,h⟩ i hi u b c hu hb hc;rw[hm] at hl;cases hl;exact h i u b c hu hb hc
       by_cases hr:s.okR
       .rw[ad (this.2 hr),au hr];rfl
       .rw[ac (λh=>hr (this.1 h)),aj hr];rfl
     .rw[<-n7];cases hm:oO (List.replicate s.uses.length false) s.free with
      |some l=>rfl
      |none=>exact no (λh=>by obtain⟨_,_,_,_,l,hl,_⟩:=h;rw[hm] at hl;cases hl)
   .rw[ad (by omega)];exact no (λh=>h3 h.2.2.1)
def evLess (x y:Evt):Bool:=decide (sgn (crs x.time y.time)<0)||(decide (sgn (crs x.time y.time)=0)&& decide (x.number<y.number))
def ly (e:Evt):RF.ev (.shape 5) [EP e]=some (EP e):=rfl
def pEP (e:Evt):RF.ev (.part 0 2) [EP e]=some (R e.time):=rfl
def vu (e:Evt):RF.ev (.cell 2) [EP e]=some (.i64 e.number):=rfl
def xn {x y:Evt}(hx:aX x.time)(hy:aX y.time):Ans D 347 [EP x,EP y] [.bool (evLess x y)]:=by
 refine am ?_;unfold abK evLess;simp[ly,pEP,vu,EV,phi (afD hx hy),Qh]
 grind
def HD (h:Hnd):PV:= .agg [.i64 h.index,.i64 h.use]
def lz (h:Hnd):RF.ev (.shape 2) [HD h]=some (HD h):=rfl
def m9 (h:Hnd):RF.ev (.cell 0) [HD h]=some (.i64 h.index):=rfl
def RJ (h:Hnd):RF.ev (.cell 1) [HD h]=some (.i64 h.use):=rfl
def Uj (e:Evt):cF 3 2 (bO e)=some (HD e.hnd):=rfl
def vw (e:Evt):cF 3 0 (bO e)=some (.i64 e.hnd.index):=rfl
def adO (e:Evt):cF 2 0 (bO e)=some (.i64 e.number):=rfl
def gO (s:Slots)(h:Hnd):Prop:=0<=h.index/\ s.used[h.index.toNat]?=some true/\ s.uses[h.index.toNat]?=some h.use
open Classical in
def RK {s:Slots}(hs:s.used.length=s.uses.length)(h:Hnd):Ans D 349 [SL s,HD h] [.bool (decide (gO s h))]:=by
 refine am ?_;unfold abM;simp only[ax,iW,lz,m9,RJ,iX,kf,EV,ai,aa,Qi,bk];by_cases h1:0<=h.index
 .rw[ad h1];obtain⟨n,hn⟩:=rF h1;obtain⟨ix,us⟩:=h;simp only at hn;subst hn;by_cases h2:n<s.uses.length
  .obtain⟨u,hu⟩:∃u,s.uses[n]?=some u:=⟨s.uses[n],ah _⟩;obtain⟨b,hb⟩:∃b,s.used[n]?=some b:=⟨s.used[n]'(by omega),ah _⟩;simp only[bi h2,ax,m9,RJ,iX,kf,aS hu (bS _),aJ hu,bZ,aS hb (rD _),aJ hb,tj,EV];have:decide (gO s ⟨(n:Int),us⟩)=(b&& decide (u=us)):=by rw[d4];simp[gO,hu,hb]
   grind
  .rw[ac (show¬((n:Int)<(s.uses.length:Int)) by omega),aj (λhh=>by
    have h3:=(aD.1 hh.2.2).1;exact h2 h3)]
 .rw[ac h1,aj (λhh=>h1 hh.1)]
def qc (a:Agenda):Prop:=a.wher.length=a.slots.uses.length/\ a.heap.length+a.slots.free.length=a.slots.uses.length/\
 ∀(i:Nat) (b:Bool) (w u:Int),a.slots.used[i]?=some b->a.wher[i]?=some w->a.slots.uses[i]?=some u->if b=true then 0<=w/\∃e,a.heap[w.toNat]?=some e/\ e.hnd=⟨i,u⟩ else w= -1
open Classical in
def af2 {a:Agenda}(hs:a.slots.used.length=a.slots.uses.length)(hl:a.slots.uses.length<=1000)(hf:a.slots.free.length<=1000):Ans D 346 [AG a] [.bool (decide (qc a))]:=by
 have cAG0:RF.ev (.cell 0) [AG a]=some (sl I1 a.slots.uses):=rfl;have cAG1:RF.ev (.cell 1) [AG a]=some (sl B1 a.slots.used):=rfl;have cAG2:RF.ev (.cell 2) [AG a]=some (sl I1 a.slots.free):=rfl;refine an ⟨1001,?_⟩;unfold abJ;simp only[ax,ga,cAG0,cAG2,d7,gt,EV,ai,aa,aF,ak,bV (show-9223372036854775808<=(a.slots.uses.length:Int)-(a.slots.free.length:Int) by omega) (by omega)]
 by_cases h1:a.wher.length=a.slots.uses.length
 .rw[ac (by omega)];by_cases h2:a.heap.length+a.slots.free.length=a.slots.uses.length
  .rw[ac (by omega)];refine(fD (n:=a.slots.uses.length) (P:=λi=>∀(b:Bool) (w u:Int),a.slots.used[i]?=some b->a.wher[i]?=some w->a.slots.uses[i]?=some u->if b=true then 0<=w/\∃e,a.heap[w.toNat]?=some e/\ e.hnd=⟨i,u⟩ else w= -1) (st:=λi=>[.i64 (i:Int)]) (r:=some [.bool false]) (fin:=some [.bool true]) (λi self hi _=>?_) (λ_ self=>?_) (by omega)).trans ?_
   .obtain⟨u,hu⟩:∃u,a.slots.uses[i]?=some u:=⟨a.slots.uses[i],ah _⟩;obtain⟨b,hb⟩:∃b,a.slots.used[i]?=some b:=⟨a.slots.used[i]'(by omega),ah _⟩;obtain⟨w,hw⟩:∃w,a.wher[i]?=some w:=⟨a.wher[i]'(by omega),ah _⟩;have hP:(∀(b':Bool) (w' u':Int),a.slots.used[i]?=some b'->a.wher[i]?=some w'->a.slots.uses[i]?=some u'->if b'=true then 0<=w'/\∃e,a.heap[w'.toNat]?=some e/\ e.hnd=⟨i,u'⟩ else w'= -1)↔(if b=true then 0<=w/\∃e,a.heap[w.toNat]?=some e/\ e.hnd=⟨i,u⟩ else w= -1):=
     ⟨λh=>h b w u hb hw hu,λh b' w' u' h1 h2 h3=>by rw[hu] at h3;rw[hb] at h1;rw[hw] at h2;cases h1;cases h2;cases h3;exact h⟩
    unfold Ic;simp only[hP,ax,cAG1,d7,gt,pAG,aS hb (rD _),aJ hb,tj,aS hw (bS _),aJ hw,bZ,EV,ai,aa,bi hi,Ib,up1 (show i<1000000000 by omega),aF,ak]
    cases b with
    |false=>
     simp only[aq,aw,cQ,aA];by_cases c1:w= -1
     .rw[ac (by simp[c1]),ad c1]
     .rw[ad c1,ac c1]
    |true=>
     simp only[qq,aw,cQ,aA];by_cases c1:w<0
     .rw[ad c1,ac (λh=>by omega)]
     .rw[ac c1];obtain⟨n,rfl⟩:=rF (show 0<=w by omega)
      by_cases c2:n<a.heap.length
      .obtain⟨e,he⟩:∃e,a.heap[n]?=some e:=⟨a.heap[n],ah _⟩;rw[ac (by omega)];simp only[ax,d7,pAG,aS he (kb _),aJ he,vw,Uj,phi (RK hs _),EV,aF,ak,aG,he,bW,exists_eq_left',Ib,up1 (show i<1000000000 by omega)]
       by_cases c3:e.hnd.index=(i:Int)
       .rw[ac (by simp[c3])];have hlive:gO a.slots e.hnd↔e.hnd=⟨i,u⟩:=by
         unfold gO;rw[c3,aG,hb,hu];generalize e.hnd=q at c3|-;obtain⟨x,y⟩:=q;simp only at c3;subst c3;simp only[bW,Hnd.mk.injEq,fS];exact⟨λh=>h.2.symm,λh=>⟨by omega,h.symm⟩⟩
        by_cases c4:e.hnd=⟨i,u⟩
        .rw[ac (by simp[hlive.2 c4]),ad ⟨by omega,c4⟩]
        .rw[ad (λh=>c4 (hlive.1 h)),ac (λh=>c4 h.2)]
       .rw[ad c3,ac (λh=>c3 (by rw[h.2]))]
      .rw[ad (by omega),ac (λh=>by
        obtain⟨_,e,he,_⟩:=h;rw[aG] at he;exact c2 (aN he))]
   .unfold Ic;simp only[EV,aa,bK,Qg]
   .have:(∀i,i<a.slots.uses.length->∀(b:Bool) (w u:Int),a.slots.used[i]?=some b->a.wher[i]?=some w->a.slots.uses[i]?=some u->if b=true then 0<=w/\∃e,a.heap[w.toNat]?=some e/\ e.hnd=⟨i,u⟩ else w= -1)↔qc a:=
     ⟨λh=>⟨h1,h2,λi b w u hb hw hu=>h i (aN hu) b w u hb hw hu⟩,λh i _=>h.2.2 i⟩
    by_cases hr:qc a
    .rw[ad (this.2 hr),au hr]
    .rw[ac (λh=>hr (this.1 h)),aj hr]
  .rw[ad (by omega),aj (λh=>h2 h.2.1)]
 .rw[ad (by omega),aj (λh=>h1 h.1)]
def mj (e:Evt):Prop:=rok e.time=true/\ 0<=e.number/\ e.number<=1000000
def dX (a:Agenda):Prop:=a.slots.okR/\ qc a/\(∀e∈a.heap,mj e)/\(a.heap.map (·.number)).Nodup/\∀(i:Nat) (e p:Evt),a.heap[i+1]?=some e->a.heap[i/2]?=some p->evLess e p=false
def Ls {i:Nat}(h:i<1000000):de .quo .i64 (IntKind.i64.wrap (((i+1:Nat):Int)-1)) .i64 2=some (.v (.int .i64 ((i/2:Nat):Int))):=by
 rw[vn (by omega),ER,ac (by decide),iu (by omega),bV (by omega) (by omega)];rfl
open Classical in
def RL {a:Agenda}(hl:a.heap.length<=1000)(hf:a.slots.free.length<=1000)(h64:∀e∈a.heap,aX e.time):Ans D 260 [AG a] [.i64 (okE (decide (dX a)))]:=by
 refine an ⟨1001,?_⟩;unfold aaG;have no:∀h:¬dX a,(some [PV.v (.int .i64 8)]:Option (List PV))=some [.i64 (okE (decide (dX a)))]:=λh=>by rw[aj h];rfl
 simp only[ax,ga,pAG,EV,phi (af1 a.slots hf),qa,aa];by_cases h1:a.slots.okR
 .have h1':=h1;obtain⟨g1,g2,g3,g4,_⟩:=h1';rw[ad h1];simp only[EV,phi (af2 g3 (by omega) hf),aF,ak];by_cases h2:qc a
  .rw[ac (by simp[h2])];refine(fD (n:=a.heap.length) (P:=λi=>∀e,a.heap[i]?=some e->mj e/\∀k,k<i->∀e',a.heap[k]?=some e'->e'.number≠e.number) (st:=λi=>[.i64 (i:Int)]) (r:=some [.i64 8]) (fin:=some [.i64 (okE (decide (∀(i:Nat) (e p:Evt),a.heap[i+1]?=some e->a.heap[i/2]?=some p->evLess e p=false)))]) (λi self hi _=>?_) (λ_ self=>?_) (by omega)).trans ?_
   .obtain⟨e,he⟩:∃e,a.heap[i]?=some e:=⟨a.heap[i],ah _⟩;have hP:(∀e',a.heap[i]?=some e'->mj e'/\∀k,k<i->∀x,a.heap[k]?=some x->x.number≠e'.number)↔(mj e/\∀k,k<i->∀x,a.heap[k]?=some x->x.number≠e.number):=
     ⟨λh=>h e he,λh e' h1=>by rw[he] at h1;cases h1;exact h⟩
    unfold Hn;simp only[hP,ax,d7,aS he (kb _),aJ he,eU,pEP,vu,phi (Rv (h64 e (ay he))),qa,EV,ai,aa,bi hi];cases c1:rok e.time with
    |false=>
     simp only[aq,aw];rw[ac (λh=>by rw[h.1.1] at c1;cases c1)]
    |true=>
     simp only[aA];by_cases c2:e.number<0
     .rw[ad c2,ac (λh=>by have:=h.1.2;omega)]
     .rw[ac c2];by_cases c3:1000000<e.number
      .rw[ad c3,ac (λh=>by have:=h.1.2;omega)]
      .rw[ac c3];refine(fD (n:=i) (P:=λk=>∀x,a.heap[k]?=some x->x.number≠e.number) (st:=λi=>[.i64 (i:Int)]) (r:=some [.i64 8]) (fin:=self [.i64 ((i+1:Nat):Int)]) (λk self' hk _=>?_) (λ_ self'=>?_) (by omega)).trans ?_
       .obtain⟨x,hx⟩:∃x,a.heap[k]?=some x:=⟨a.heap[k]'(by omega),ah _⟩;have hQ:(∀y,a.heap[k]?=some y->y.number≠e.number)↔x.number≠e.number:=⟨λh=>h x hx,λh y hy=>by rw[hx] at hy;cases hy;exact h⟩;unfold Hl;simp only[hQ,ax,d7,aS hx (kb _),aJ hx,adO,vu,EV,aa,bi hk,up1 (show k<1000000000 by omega)]
        by_cases c4:x.number=e.number
        .rw[ad c4,ac (by simp[c4])]
        .rw[ac c4,ad c4]
       .unfold Hl;simp only[EV,aa,bK,PD,up1 (show i<1000000000 by omega)]
       .by_cases c5:∀k,k<i->∀x,a.heap[k]?=some x->x.number≠e.number
        .rw[ad c5,ad ⟨⟨c1,by omega,by omega⟩,c5⟩]
        .rw[ac c5,ac (λh=>c5 h.2)]
   .unfold Hn;simp only[ax,d7,EV,ai,aa,bK,PC];refine(fD (n:=a.heap.length-1) (P:=λi=>∀e p,a.heap[i+1]?=some e->a.heap[i/2]?=some p->evLess e p=false) (st:=λi=>[.i64 ((i+1:Nat):Int)]) (r:=some [.i64 8]) (fin:=some [.i64 0]) (λi self hi _=>?_) (λ_ self=>?_) (by omega)).trans ?_
    .obtain⟨e,he⟩:∃e,a.heap[i+1]?=some e:=⟨a.heap[i+1],ah _⟩;obtain⟨p,hp⟩:∃p,a.heap[i/2]?=some p:=⟨a.heap[i/2]'(by omega),ah _⟩;have hQ:(∀e' p',a.heap[i+1]?=some e'->a.heap[i/2]?=some p'->evLess e' p'=false)↔evLess e p=false:=⟨λh=>h e p he hp,λh e' p' h1 h2=>by rw[he] at h1;rw[hp] at h2;cases h1;cases h2;exact h⟩;unfold Hk;simp only[hQ,ax,d7,aS he (kb _),aJ he,eU,aS hp (kb _),aJ hp,Ls (show i<1000000 by omega),phi (xn (h64 e (ay he)) (h64 p (ay hp))),fN,EV,ai,aa,bi (aN he),up1 (show i+1<1000000000 by omega)]
     cases evLess e p<;>simp
    .unfold Hk;simp only[ax,d7,EV,ai,aa,PB];rw[ac (by omega)]
    .have:(∀i,i<a.heap.length-1->∀e p,a.heap[i+1]?=some e->a.heap[i/2]?=some p->evLess e p=false)↔∀(i:Nat) (e p:Evt),a.heap[i+1]?=some e->a.heap[i/2]?=some p->evLess e p=false:=
      ⟨λh i e p he hp=>h i (by have:=aN he;omega) e p he hp,λh i _=>h i⟩
     by_cases hr:∀(i:Nat) (e p:Evt),a.heap[i+1]?=some e->a.heap[i/2]?=some p->evLess e p=false
     .rw[ad (this.2 hr),au hr];rfl
     .rw[ac (λh=>hr (this.1 h)),aj hr];rfl
   .have:(∀i,i<a.heap.length->∀e,a.heap[i]?=some e->mj e/\∀k,k<i->∀e',a.heap[k]?=some e'->e'.number≠e.number)↔((∀e∈a.heap,mj e)/\(a.heap.map (·.number)).Nodup):=by
     rw[pF];constructor
     .intro h;refine⟨λe he=>?_,λi j x hj hi hjx=>?_⟩
      .obtain⟨i,hi⟩:=aL.1 he;exact(h i (aN hi) e hi).1
      .rw[aW,bR] at hi hjx;obtain⟨e,he,rfl⟩:=hi;obtain⟨e',he',h'⟩:=hjx;exact(h i (aN he) e he).2 j hj e' he' h'
     .rintro⟨h3,h4⟩ i hi e he;refine⟨h3 e (ay he),λk hk e' he' hn=>?_⟩;exact h4 i k e.number hk (by rw[aW,he];rfl) (by rw[aW,he',cf,hn])
    by_cases hr:(∀e∈a.heap,mj e)/\(a.heap.map (·.number)).Nodup
    .rw[ad (this.2 hr)]
     congr 4
     rw[cv];exact⟨λh=>⟨h1,h2,hr.1,hr.2,h⟩,λh=>h.2.2.2.2⟩
    .rw[ac (λh=>hr (this.1 h))];exact no (λh=>hr ⟨h.2.2.1,h.2.2.2.1⟩)
  .rw[ad h2];exact no (λh=>h2 h.2.1)
 .rw[ac h1];exact no (λh=>h1 h.1)
def Crt.ok (c:Crt):Prop:=0<=c.low/\ c.low<=65535/\ 0<=c.high/\ c.high<=65535/\ c.low≠c.high
instance (c:Crt):Decidable c.ok:=by unfold Crt.ok;infer_instance
def RM (c:Crt):Ans D 344 [CP c] [.bool (decide c.ok)]:=by
 refine am ?_;unfold abH Crt.ok;simp[jA,nY,nZ,EV,Qc];by_cases h1:0<=c.low<;>by_cases h2:c.low<=65535<;>by_cases h3:0<=c.high<;>by_cases h4:c.high<=65535<;>simp[h1,h2,h3,h4]
def RN (c:Crt):Ans D 324 [CP c] [.bool (decide c.ok)]:=by
 have m1:RF.ev (.mm false) [.i64 c.low,.i64 c.high]=some (.i64 (min c.low c.high)):=rfl;have m2:RF.ev (.mm true) [.i64 c.low,.i64 c.high]=some (.i64 (max c.low c.high)):=rfl;refine am ?_;unfold abw Crt.ok;simp[jA,nY,nZ,m1,m2,EV,P8];by_cases h1:0<=c.low<;>by_cases h2:c.low<=65535<;>by_cases h3:0<=c.high<;>by_cases h4:c.high<=65535<;>simp[h1,h2,h3,h4,Int.le_min,Int.max_le]
def dk (c:Certs):Prop:=c.list.length<=200/\ 0<=c.next/\ c.next<=1000000/\∀(i:Nat) (h:Held),c.list[i]?=some h->h.cert.ok/\ 0<=h.number/\ h.number<c.next/\(∀g,0<i->c.list[i-1]?=some g->g.number<h.number)/\∀k,k<i->∀g,c.list[k]?=some g->g.cert≠h.cert
open Classical in
def RP (c:Certs):Ans D 258 [CS c] [.i64 (okE (decide (dk c)))]:=by
 refine an ⟨1001,?_⟩;unfold aaE;have no:∀h:¬dk c,(some [PV.v (.int .i64 8)]:Option (List PV))=some [.i64 (okE (decide (dk c)))]:=λh=>by rw[aj h];rfl
 simp only[ax,iI,lx,fm,EV,ai,aa];by_cases h1:200<c.list.length
 .rw[ad (by omega)];exact no (λh=>by have:=h.1;omega)
 .rw[ac (by omega)];by_cases h2:c.next<0
  .rw[ad h2];exact no (λh=>by have:=h.2.1;omega)
  .rw[ac h2];by_cases h3:1000000<c.next
   .rw[ad h3];exact no (λh=>by have:=h.2.2.1;omega)
   .rw[ac h3];refine(fD (n:=c.list.length) (P:=λi=>∀h,c.list[i]?=some h->h.cert.ok/\ 0<=h.number/\ h.number<c.next/\(∀g,0<i->c.list[i-1]?=some g->g.number<h.number)/\∀k,k<i->∀g,c.list[k]?=some g->g.cert≠h.cert) (st:=λi=>[.i64 (i:Int)]) (r:=some [.i64 8]) (fin:=some [.i64 0]) (λi self hi _=>?_) (λ_ self=>?_) (by omega)).trans ?_
    .obtain⟨h,hh⟩:∃h,c.list[i]?=some h:=⟨c.list[i],ah _⟩;have hP:(∀h',c.list[i]?=some h'->h'.cert.ok/\ 0<=h'.number/\ h'.number<c.next/\(∀g,0<i->c.list[i-1]?=some g->g.number<h'.number)/\∀k,k<i->∀g,c.list[k]?=some g->g.cert≠h'.cert)↔(h.cert.ok/\ 0<=h.number/\ h.number<c.next/\(∀g,0<i->c.list[i-1]?=some g->g.number<h.number)/\∀k,k<i->∀g,c.list[k]?=some g->g.cert≠h.cert):=
      ⟨λx=>x h hh,λx h' e=>by rw[hh] at e;cases e;exact x⟩
     have inner:∀(f:JT) (e0 e2 e3 e4 e5 e6 e7 e8 e10 e11 e12 e13 e14 e16 e17 e18 e19 e20:PV),den (aY D) 1001 rP [f,self] [e0,CS c,e2,e3,e4,e5,e6,e7,e8,.i64 (i:Int),e10,e11,e12,e13,e14,HP h,e16,e17,e18,e19,e20,.v (.bool false)]=if(∀k,k<i->∀g,c.list[k]?=some g->g.cert≠h.cert) then self [.i64 ((i+1:Nat):Int)] else some [.i64 8]:=λf e0 e2 e3 e4 e5 e6 e7 e8 e10 e11 e12 e13 e14 e16 e17 e18 e19 e20=>by
      unfold rP;simp only[EV,aq,aw];refine(fD (m:=1001) (n:=i) (P:=λk=>∀g,c.list[k]?=some g->g.cert≠h.cert) (st:=λi=>[.i64 (i:Int)]) (r:=some [.i64 8]) (fin:=self [.i64 ((i+1:Nat):Int)]) (λk self' hk _=>?_) (λ_ self'=>?_) (by omega)).trans ?_
      .obtain⟨g,hg⟩:∃g,c.list[k]?=some g:=⟨c.list[k]'(by omega),ah _⟩;have hQ:(∀y,c.list[k]?=some y->y.cert≠h.cert)↔g.cert≠h.cert:=⟨λx=>x g hg,λx y hy=>by rw[hg] at hy;cases hy;exact x⟩;unfold Hh;simp only[hQ,ax,fm,aS hg (fi _),aJ hg,Ef,pHP,xm,EV,aa,bi hk,up1 (show k<1000000000 by omega)]
       by_cases c4:g.cert=h.cert
       .rw[ad c4,ac (by simp[c4])]
       .rw[ac c4,ad c4]
      .unfold Hh;simp only[EV,aa,bK,Pz,up1 (show i<1000000000 by omega)]
      .by_cases hq:∀k,k<i->∀g,c.list[k]?=some g->g.cert≠h.cert
       .rw[ad hq,ad hq]
       .rw[ac hq,ac hq]
     unfold Hi;simp only[hP,ax,lx,fm,aS hh (fi _),aJ hh,iS,pHP,ii,phi (RM _),EV,ai,aa,bi hi,aF,ak,bk,cJ];by_cases c1:h.cert.ok
     .rw[ac (kK c1)];by_cases c2:h.number<0
      .rw[ad c2,ac (λx=>by have:=x.2.1;omega)];unfold rP;simp only[EV,cQ,aA]
      .rw[ac c2];by_cases c3:c.next<=h.number
       .rw[ad c3,ac (λx=>by have:=x.2.2.1;omega)];unfold rP;simp only[EV,cQ,aA]
       .rw[ac c3];cases i with
        |zero=>
         rw[ac (by omega)];refine(inner ..).trans ?_;rw[ad (λk hk=>by omega),ad ⟨c1,by omega,by omega,λg h0=>by omega,λk hk=>by omega⟩]
        |succ j=>
         obtain⟨g,hg⟩:∃g,c.list[j]?=some g:=⟨c.list[j]'(by omega),ah _⟩;rw[ad (by omega)];simp only[ax,ii,vn (show j<1000000000 by omega),aS hg (fi _),aJ hg,Lm,EV,bk]
         by_cases c4:h.number<=g.number
         .rw[au c4,ac (λx=>by have:=x.2.2.2.1 g (by omega) (by simpa using hg);omega)]
          unfold rP;simp only[EV,cQ,aA]
         .rw[aj c4];refine(inner ..).trans ?_;by_cases c5:∀k,k<j+1->∀g,c.list[k]?=some g->g.cert≠h.cert
          .rw[ad c5,ad ⟨c1,by omega,by omega,λg' _ hg'=>by
            rw[show j+1-1=j by omega,hg] at hg';cases hg';omega,c5⟩]
          .rw[ac c5,ac (λx=>c5 x.2.2.2.2)]
     .rw[ad c1,ac (λx=>c1 x.1)];unfold rP;simp only[EV,cQ,aA]
    .unfold Hi;simp only[ax,fm,EV,ai,aa,bK,Py]
    .have:(∀i,i<c.list.length->∀h,c.list[i]?=some h->h.cert.ok/\ 0<=h.number/\ h.number<c.next/\(∀g,0<i->c.list[i-1]?=some g->g.number<h.number)/\∀k,k<i->∀g,c.list[k]?=some g->g.cert≠h.cert)↔dk c:=
      ⟨λh=>⟨by omega,by omega,by omega,λi x hx=>h i (aN hx) x hx⟩,λh i _=>h.2.2.2 i⟩
     by_cases hr:dk c
     .rw[ad (this.2 hr),au hr];rfl
     .rw[ac (λh=>hr (this.1 h)),aj hr];rfl
end Go.Proofs.YtfghdmmapmdcgaaGreat
