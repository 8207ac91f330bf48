import Derived.Test.YtoeigdpfcnaaeaaGreatM3
import Derived.Test.YtoeigdpfcnaaeaaGreatP1
import Derived.Test.YtoeigdpfcnaaeaaGreatBcT
import Derived.Test.YtoeigdpfcnaaeaaGreatN1
import Derived.IntWalk
set_option linter.unusedVariables false
set_option linter.unusedSimpArgs false
set_option linter.defProp false
noncomputable section
namespace Go.Sym
open Go.Sym
section
variable {Φ:PhT}{N:Nat}{b:K}{J:List JT}{e:List PV}
def ef {n:Nat}{st:Nat->List PV}{fin:Option (List PV)}(hs:∀i self,i<n->den Φ N b (J++[self]) (e++st i)=self (st (i+1))) (hf:∀self,den Φ N b (J++[self]) (e++st n)=fin):∀m,n<m->di Φ N b J e m (st 0)=fin:=by (have:∀d i m,i+d=n->d<m->di Φ N b J e m (st i)=fin:=by intro d;induction d with|zero=>intro i m h hm;obtain⟨m,rfl⟩:∃m',m=m'+1:=⟨m-1,ω⟩;rw[bi,show i=n from ω];exact hf _|succ d ih=>intro i m h hm;obtain⟨m,rfl⟩:∃m',m=m'+1:=⟨m-1,ω⟩;rw[bi,hs i _ ω];grind);grind
def aav {n:Nat}{st:Nat->List PV}{P:Nat->Prop}{fin r:Option (List PV)}(hs:∀i self,i<n->(∀j,j<i->P j)->P i->den Φ N b (J++[self]) (e++st i)=self (st (i+1))) (hr:∀i self,i<n->(∀j,j<i->P j)->¬P i->den Φ N b (J++[self]) (e++st i)=r) (hf:(∀j,j<n->P j)->∀self,den Φ N b (J++[self]) (e++st n)=fin) {m:Nat} (hm:n<m):((∀j,j<n->P j)->di Φ N b J e m (st 0)=fin)/\((¬∀j,j<n->P j)->di Φ N b J e m (st 0)=r):=by (have:∀d i m,i+d=n->d<m->(∀j,j<i->P j)->((∀j,j<n->P j)->di Φ N b J e m (st i)=fin)/\((¬∀j,j<n->P j)->di Φ N b J e m (st i)=r):=by intro d;induction d with|zero=>intro i m h hm hp;obtain⟨m,rfl⟩:∃m',m=m'+1:=⟨m-1,ω⟩;(have hin:i=n:=ω);subst hin;refine⟨λh=>?_,λh=>absurd hp h⟩;rw[bi];exact hf h _|succ d ih=>intro i m h hm hp;obtain⟨m,rfl⟩:∃m',m=m'+1:=⟨m-1,ω⟩;rw[bi];by_cases hi:P i;grind;grind);grind
open Classical in def fZ {n:Nat}{st:Nat->List PV}{P:Nat->Prop}{fin r:Option (List PV)}(hs:∀i self,i<n->(∀j,j<i->P j)->den Φ N b (J++[self]) (e++st i)=if P i then self (st (i+1)) else r) (hf:(∀j,j<n->P j)->∀self,den Φ N b (J++[self]) (e++st n)=fin) {m:Nat} (hm:n<m):di Φ N b J e m (st 0)=if(∀j,j<n->P j) then fin else r:=by have:=aav (n:=n) (st:=st) (P:=P) (fin:=fin) (r:=r) (λi self h1 h2 h3=>by rw[hs i self h1 h2,ad h3]) (λi self h1 h2 h3=>by rw[hs i self h1 h2,ac h3]) hf hm;grind
end
end Go.Sym
namespace Go.Proofs.YtoeigdpfcnaaeaaGreat
open Go.Sym Bnd
set_option maxRecDepth 100000
def U (n:Nat):PV:= .v (.int .u64 (n:Int))
def phi {g:FuncId}{vs rs:List PV}(h:Ans D g vs rs):bm D g vs=some rs:=ahH h
def Fx {n:Int}(h:I64 n):Ans D 166 [.i64 n] [U n.natAbs]:=by have⟨h1,h2⟩:=h;refine am ?_;unfold aeT;simp[EV];by_cases hn:n<0;rw[ad hn,mJ,mJ];congr 4;omega;rw[ac hn,mJ];congr 4;omega
def Ie {n:Int}(h:I64 n):Ans D 75 [.i64 n] [U n.natAbs]:=by have⟨h1,h2⟩:=h;refine am ?_;unfold aea;simp[EV];by_cases hn:n<0;rw[ad hn,mJ,mJ,IntKind.wrap_i64,IntKind.wrap_i64];congr 4;omega;rw[ac hn,mJ];congr 4;omega
def If {Φ:PhT}{N:Nat}{f:JT}{p q:PV}:∀(n a b:Nat),b<n->di Φ N Ej [f] [p,q] n [U b,U a]=f [U (Nat.gcd b a)]|0,a,b,h=>ω|n+1,a,b,h=>by rw[bi];unfold Ej U;simp[EV,H3];by_cases hb:0<b;rw[ad ω,ac ω];simp[EV];have:=If (Φ:=Φ) (N:=N) (f:=f) (p:=p) (q:=q) n b (a% b) (by have:=Nat.mod_lt a hb;omega);unfold Ej U at this;rw[<-Nat.gcd_rec b a] at this;rw[<-this];rfl;rw[ac ω];(have:b=0:=ω);subst this;rw[Nat.gcd_zero_left]
def ab5 (a b:Nat):Ans D 192 [U a,U b] [U (Nat.gcd b a)]:=by refine an ⟨b+1,?_⟩;unfold ae3;simp[EV];rw[If _ _ _ (iC b)];unfold Ts U;simp[EV]
def BX {Φ:PhT}{N:Nat}{f:JT}{p q:PV}:∀(n a b:Nat),b<n->di Φ N D3 [f] [p,q] n [U b,U a]=f [U (Nat.gcd b a)]|0,a,b,h=>ω|n+1,a,b,h=>by rw[bi];unfold D3 U;simp only[EV,H3,aF,aj];by_cases hb:0<b;rw[ad ω,ac ω];simp;have:=BX (Φ:=Φ) (N:=N) (f:=f) (p:=p) (q:=q) n b (a% b) (by have:=Nat.mod_lt a hb;omega);unfold D3 U at this;rw[<-Nat.gcd_rec b a] at this;rw[<-this];rfl;rw[ac ω];(have:b=0:=ω);subst this;rw[Nat.gcd_zero_left]
def ab6 (a b:Nat):Ans D 74 [U a,U b] [U (Nat.gcd b a)]:=by refine an ⟨b+1,?_⟩;unfold ad9;simp[EV];rw[BX _ _ _ (iC b)];unfold Sl U;simp[EV]
def okE (b:Bool):Int:=if b then 0 else 8
def NI {d:Int}(h:0<=d)(k:d<=9223372036854775807):PV.v (.int .u64 (IntKind.u64.wrap d))=U d.natAbs:=by rw[mJ];congr 2;omega
def c43 {r:Rt}(h:aS r):Ans D 95 [R r] [.i64 (okE (rok r))]:=by have⟨⟨n1,n2⟩,d1,d2⟩:=h;refine am ?_;unfold k43 R;simp only[EV,aa,aA,bS,Nat.reduceAdd,phi (Fx ⟨n1,n2⟩)];by_cases hd:r.den<1;rw[ad hd];unfold rok;rw[ak ω];rfl;rw[ac hd];by_cases hn:r.num= -9223372036854775808;rw[ad hn];unfold rok;rw[aq hn];simp[okE];rw[ac hn,NI ω d2,phi (ab5 _ _)];simp only[EV,U,aa];have hg:0<Nat.gcd r.num.natAbs r.den.natAbs:=gV _ ω;unfold rok;by_cases h1:(Nat.gcd r.num.natAbs r.den.natAbs)=1;rw[ac ω,aq h1,aq (show 1<=r.den from ω),ak hn];rfl;rw[ad ω,ak h1,xy];rfl
def OK {r:Rt}(h:aS r):Ans D 29 [R r] [.i64 (okE (rok r))]:=by have⟨⟨n1,n2⟩,d1,d2⟩:=h;refine am ?_;unfold adx R;simp only[EV,aa,aA,bS,Nat.reduceAdd,phi (Ie ⟨n1,n2⟩)];by_cases hd:r.den<1;rw[ad hd];unfold rok;rw[ak ω];rfl;rw[ac hd];by_cases hn:r.num= -9223372036854775808;rw[ad hn];unfold rok;rw[aq hn];simp[okE];rw[ac hn,NI ω d2,phi (ab6 _ _)];simp only[EV,U,aF,aj];unfold rok;rw[A6];by_cases h1:(Nat.gcd r.num.natAbs r.den.natAbs)=1;rw[ac ω,aq h1,aq (show 1<=r.den from ω),ak hn];rfl;rw[ad ω,ak h1,xy];rfl
def OL (r:Rt):Bool:=decide (r.num.natAbs<=1073741824)&& decide (r.den<=1024)
def dF (r:Rt):Int:=if rok r then(if OL r then 0 else 2) else 8
def c44 {r:Rt}(h:aS r):Ans D 72 [R r] [.i64 (dF r)]:=by refine am ?_;unfold k44;have h0:=phi (c43 h);unfold R at h0|-;simp[EV,h0,phi (Fx h.1),U];unfold dF okE;cases rok r with|false=>rfl|true=>unfold OL;grind
def c64 {r:Rt}(h:aS r):Ans D 30 [R r] [.i64 (dF r)]:=by refine am ?_;unfold k64;have h0:=phi (OK h);unfold R at h0|-;simp[EV,h0];unfold dF okE;cases rok r with|false=>rfl|true=>unfold OL;grind
def PP (p:Pt):PV:= .agg (row p)
def akt (p:Pt):Ans D 73 [PP p] [.i64 (okE p.ok)]:=by refine am ?_;unfold ad8 PP row;simp[EV];unfold Pt.ok okE MK;grind
def OM (p:Pt):Ans D 213 [PP p] [.i64 (okE p.ok)]:=by refine am ?_;unfold ae8 PP row;simp[EV,Tw,Tx];unfold Pt.ok okE MK;grind
end Go.Proofs.YtoeigdpfcnaaeaaGreat
namespace Go.Sym
open Go.Sym
section
variable {Φ:PhT}{N:Nat}{b:K}{J:List JT}{e:List PV}{α β:Type}{l:List α}
def iG {i:Nat}{a:α}{k:List α}(h:l.drop i=a::k):l[i]?=some a/\ l.drop (i+1)=k:=by (have hi:i<l.length:=by rcases uS i l.length with g|g;exact g;rw[List.drop_eq_nil_of_le g] at h;cases h);rw[cU hi] at h;grind
def mQ {i:Nat}{k:List α}(h:l.drop i=k)(hi:i<=l.length):i+k.length=l.length:=by grind
def qD {p:α->Bool}{st:Nat->List PV}{ret:Nat->Option (List PV)}{fin:Option (List PV)}(hs:∀i a self,l[i]?=some a->den Φ N b (J++[self]) (e++st i)=if p a=true then ret i else self (st (i+1))) (hf:∀self,den Φ N b (J++[self]) (e++st l.length)=fin) {m:Nat} (hm:l.length<m):di Φ N b J e m (st 0)=(l.findIdx? p).elim fin ret:=by (have:∀(k:List α) i m,l.drop i=k->i<=l.length->k.length<m->di Φ N b J e m (st i)=(k.findIdx? p).elim fin (λj=>ret (j+i)):=by intro k;induction k with|nil=>intro i m h hi hm;obtain⟨m,rfl⟩:∃m',m=m'+1:=⟨m-1,ω⟩;have:=mQ h hi;rw[bi,show i=l.length by simpa using this];exact hf _|cons a k ih=>intro i m h hi hm;obtain⟨m,rfl⟩:∃m',m=m'+1:=⟨m-1,ω⟩;have⟨h1,h2⟩:=iG h;have:=mQ h hi;rw[bi,hs i a _ h1,kr];simp only[bo] at hm this;cases hp:p a with|true=>simp|false=>rw[ih (i+1) m h2 ω ω];cases k.findIdx? p<;>simp[dw,nG 1 i]);grind
def cv {p:α->Bool}{st:Nat->List PV}{fin r:Option (List PV)}(hs:∀i a self,l[i]?=some a->(l.take i).all p=true->den Φ N b (J++[self]) (e++st i)=if p a=true then self (st (i+1)) else r) (hf:l.all p=true->∀self,den Φ N b (J++[self]) (e++st l.length)=fin) {m:Nat} (hm:l.length<m):di Φ N b J e m (st 0)=if l.all p=true then fin else r:=by (have:∀(k:List α) i m,l.drop i=k->i<=l.length->k.length<m->(l.take i).all p=true->di Φ N b J e m (st i)=if k.all p=true then fin else r:=by intro k;induction k with|nil=>intro i m h hi hm ht;obtain⟨m,rfl⟩:∃m',m=m'+1:=⟨m-1,ω⟩;have:=mQ h hi;(have hil:i=l.length:=by simpa using this);rw[hil,eB] at ht;rw[bi,hil];exact hf ht _|cons a k ih=>intro i m h hi hm ht;obtain⟨m,rfl⟩:∃m',m=m'+1:=⟨m-1,ω⟩;have⟨h1,h2⟩:=iG h;have:=mQ h hi;rw[bi,hs i a _ h1 ht,dN];simp only[bo] at hm this;cases hp:p a with|false=>simp|true=>simp only[aA,fR];refine ih (i+1) m h2 ω ω ?_;rw[cB,h1,qv,ht];simp[hp]);exact this l 0 m rfl ω hm (by simp)
def kx {g:β->α->β}{I:Nat->β->Prop}{S:β->Nat->List PV}{fin:β->Option (List PV)}{x:β}(h0:I 0 x)(hi:∀i a acc,l[i]?=some a->I i acc->I (i+1) (g acc a))(hs:∀i a acc self,l[i]?=some a->I i acc->den Φ N b (J++[self]) (e++S acc i)=self (S (g acc a) (i+1))) (hf:∀acc self,I l.length acc->den Φ N b (J++[self]) (e++S acc l.length)=fin acc) {m:Nat} (hm:l.length<m):di Φ N b J e m (S x 0)=fin (l.foldl g x)/\ I l.length (l.foldl g x):=by (have:∀(k:List α) i m acc,l.drop i=k->i<=l.length->k.length<m->I i acc->di Φ N b J e m (S acc i)=fin (k.foldl g acc)/\ I l.length (k.foldl g acc):=by intro k;induction k with|nil=>intro i m acc h hi' hm hI;obtain⟨m,rfl⟩:∃m',m=m'+1:=⟨m-1,ω⟩;have:=mQ h hi';(have hil:i=l.length:=by simpa using this);rw[hil] at hI;rw[bi,hil];grind|cons a k ih=>intro i m acc h hi' hm hI;obtain⟨m,rfl⟩:∃m',m=m'+1:=⟨m-1,ω⟩;have⟨h1,h2⟩:=iG h;have:=mQ h hi';simp only[bo] at hm this;rw[bi,hs i a acc _ h1 hI,dp];exact ih (i+1) m _ h2 ω ω (hi i a acc h1 hI));exact this l 0 m x rfl ω hm h0
end
section
variable {α:Type}{f:α->List PV}{l:List α}
def aV {i z:Nat}{a:α}(h:l[i]?=some a)(hz:(f a).length=z):RF.ev (.tix z) [.sl (l.map f),.v (.int .i64 (i:Int))]=some (.i64 (i:Int)):=by rw[ajN,ad ω,aH,a8,h];grind
def aN {i o n:Nat}{a:α}(h:l[i]?=some a):RF.ev (.elt o n) [.sl (l.map f),.v (.int .i64 (i:Int))]=cM o n (f a):=by rw[ajL,ad ω,aH,a8,h];rfl
def Fy:RF.ev .len [.sl (l.map f)]=some (.i64 (l.length:Int)):=by rw[Q4,ai]
def up1 {i:Nat}(h:i<1000000000):IntKind.i64.wrap ((i:Int)+1)=((i+1:Nat):Int):=by rw[cg ω ω];rfl
def xG {i:Nat}(h:i<1000000000):IntKind.i64.wrap (((i+1:Nat):Int)-1)=(i:Int):=by rw[cg ω ω];omega
def aL {i:Nat}{a:α}(h:l[i]?=some a):i<l.length:=(aD.1 h).1
def bx {i n:Nat}{γ:Type}{x y:γ}(h:i<n):(if(i:Int)<(n:Int) then x else y)=x:=ad ω
def bJ {n:Nat}{γ:Type}{x y:γ}:(if(n:Int)<(n:Int) then x else y)=y:=ac ω
def bU:RF.ev .sub [.sl (l.map f),.v (.int .i64 0),.v (.int .i64 (l.length:Int))]=some (.sl (l.map f)):=by rw[vB,ad ⟨ω,ω,by rw[ai];omega⟩,aH];simp;rw[bB (by simp)]
def fL {bytes z:Nat}{k:List α}(h:(l.length+k.length)*bytes<=140737488355328)(hz:∀a,(f a).length=z):RF.ev (.app bytes z) [.sl (l.map f),.v (.int .i64 (l.length:Int)),.sl (k.map f)]=some (.sl ((l++k).map f)):=by rw[ajM,ad];rw[aH,bB (by simp)];simp;rw[ai,ai,aH];refine⟨ω,ω,h,?_⟩;cases k with|nil=>rfl|cons a k=>simp[eb,hz]
end
def ky {α:Type}(p:α->Bool)(l:List α):Int:=(l.findIdx? p).elim (-1) λi=>(i:Int)
def Nt {α:Type}{p:α->Bool}{l:List α}:0<=ky p l↔l.any p=true:=by unfold ky;cases h:l.findIdx? p with|none=>grind|some i=>have⟨h1,h2,_⟩:=bA.1 h;grind
def Ch {α:Type}{p:α->Bool}{l:List α}:decide (0<=ky p l)=l.any p:=by rw[eu,aa];exact Nt
end Go.Sym
namespace Go.Proofs.YtoeigdpfcnaaeaaGreat
open Go.Sym Bnd
set_option maxRecDepth 100000
def sgn (n:Int):Int:=if n<0 then-1 else if 0<n then 1 else 0
def uw {n:Int}{m:Nat}(h:n% 18446744073709551616=(m:Int)):PV.v (.int .u64 (IntKind.u64.wrap n))=U m:=by rw[mJ,h];rfl
def wu {n:Nat}(h:n<18446744073709551616):IntKind.u64.wrap (n:Int)=(n:Int):=by rw[mJ];omega
def aiD (n:Nat):dA .shr .u64 (n:Int) .u64 32=some (.v (.int .u64 ((n/4294967296:Nat):Int))):=by rw[Q6,ac (by decide),show min (32:Int).toNat IntKind.u64.bits=32 from rfl,jh _ (by decide)];rfl
def ON {n:Nat}(h:n<18446744073709551616):dA .and .u64 (n:Int) .u64 4294967295=some (.v (.int .u64 ((n% 4294967296:Nat):Int))):=by show some (PV.v (.int .u64 (IntKind.u64.wrap (((BitVec.ofInt 64 (n:Int)&&& BitVec.ofInt 64 4294967295).toNat:Nat):Int))))=_;rw[NE h,wu ω]
def xH {a b:Nat}(h:a+b<18446744073709551616):dA .add .u64 (a:Int) .u64 (b:Int)=some (.v (.int .u64 ((a+b:Nat):Int))):=by rw[Z8,<-Int.natCast_add,wu h]
def xI {a b:Nat}(h:a*b<18446744073709551616):dA .mul .u64 (a:Int) .u64 (b:Int)=some (.v (.int .u64 ((a*b:Nat):Int))):=by rw[Z9,<-qt,wu h]
def Wf {x y:Nat}(hx:x<18446744073709551616)(hy:y<18446744073709551616):Ans D 360 [U x,U y] [U (x*y/18446744073709551616),U (x*y% 18446744073709551616)]:=by refine am ?_;have b0:=rV (a:=x% 4294967296) (b:=y% 4294967296) ω ω;have b1:=rV (a:=x/4294967296) (b:=y% 4294967296) ω ω;have b2:=rV (a:=x% 4294967296) (b:=y/4294967296) ω ω;have b3:=rV (a:=x/4294967296) (b:=y/4294967296) ω ω;have hh:=ahX hx hy;(have hl:x*y/18446744073709551616<18446744073709551616:=by grind);(have s1:(x/4294967296)*(y/4294967296)+((x/4294967296)*(y% 4294967296)+(x% 4294967296)*(y% 4294967296)/4294967296)/4294967296<18446744073709551616:=ω);unfold agz U;simp only[EV,ON hx,ON hy,aiD,ju,xI (show x% 4294967296*(y% 4294967296)<18446744073709551616 from ω),xI (show x/4294967296*(y% 4294967296)<18446744073709551616 from ω),xI (show x% 4294967296*(y/4294967296)<18446744073709551616 from ω),xI (show x/4294967296*(y/4294967296)<18446744073709551616 from ω),xH (show x/4294967296*(y% 4294967296)+x% 4294967296*(y% 4294967296)/4294967296<18446744073709551616 from ω),ON (show x/4294967296*(y% 4294967296)+x% 4294967296*(y% 4294967296)/4294967296<18446744073709551616 from ω),xH (show(x/4294967296*(y% 4294967296)+x% 4294967296*(y% 4294967296)/4294967296)% 4294967296+x% 4294967296*(y/4294967296)<18446744073709551616 from ω),xH s1,xH (show _<18446744073709551616 from hh▸hl)];rw[hh,<-qt,mJ];rfl
def W (neg:Bool)(m:Nat):PV:= .agg [.bool neg,U (m/18446744073709551616),U (m% 18446744073709551616)]
def wx {a:Int}(h:I64 a):a.natAbs<=9223372036854775808:=by have⟨h1,h2⟩:=h;omega
def Rz {a b:Int}(h:I64 a)(k:I64 b):a.natAbs*b.natAbs<=85070591730234615865843651857942052864:=iD (wx h) (wx k)
def ab7 {a b:Int}(h:I64 a)(k:I64 b):Ans D 281 [.i64 a,.i64 b] [W (decide (a<0) !=decide (b<0)) (a.natAbs*b.natAbs)]:=by refine am ?_;have h1:=wx h;have h2:=wx k;unfold afO;simp[EV,phi (Fx h),phi (Fx k),phi (Wf (show a.natAbs<18446744073709551616 from ω) (show b.natAbs<18446744073709551616 from ω))];rfl
def aku (a:Int):Ans D 362 [.i64 a] [.bool false]:=by refine am ?_;unfold agA;simp[EV]
def akv (a:Int):Ans D 310 [.i64 a] [.bool false]:=by refine am ?_;unfold afW;simp[EV]
def mR (a b:Int):sgn (a-b)=if a<b then-1 else if b<a then 1 else 0:=by unfold sgn;grind
def ab8 (a b:Int):Ans D 279 [.i64 a,.i64 b] [.i64 (sgn (a-b))]:=by refine am ?_;unfold afM;simp[EV,phi (aku _),mR];grind
def zn (a b:Int):Ans D 220 [.i64 a,.i64 b] [.i64 (sgn (a-b))]:=by refine am ?_;unfold afc;simp[EV,phi (akv _),mR];grind
def akw (a:Nat):Ans D 421 [U a] [.bool false]:=by refine am ?_;unfold ag4 U;simp[EV]
def akx (a b:Nat):Ans D 363 [U a,U b] [.i64 (sgn ((a:Int)-b))]:=by have h:=λa=>phi (akw a);refine am ?_;unfold agD;unfold U at h|-;simp[EV,h,mR];grind
def aky {n k:Bool}(a b:Nat):Ans D 280 [W n a,W k b] [.i64 (sgn ((a:Int)-b))]:=by refine am ?_;unfold afN W;simp[EV,phi (akx _ _),mR];grind
def NJ (a b:Bool):max (okE a) (okE b)=okE (a&& b):=by cases a<;>cases b<;>rfl
def mm2 (a b:Int):RF.ev (.mm true) [.i64 a,.i64 b]=some (.i64 (max a b)):=rfl
def bL (r:Rt):RF.ev (.shape 2) [R r]=some (R r):=rfl
def pO (r:Rt):RF.ev (.cell 0) [R r]=some (.i64 r.num):=rfl
def pP (r:Rt):RF.ev (.cell 1) [R r]=some (.i64 r.den):=rfl
def akz {r s:Rt}(h:aS r)(k:aS s):Ans D 278 [R r,R s] [.i64 (okE (rok r&& rok s))]:=by refine am ?_;unfold afL;simp[bL,EV,phi (c43 h),phi (c43 k),mm2,NJ]
def rK {b:Bool}{α:Type}{x y:α}:(if(!decide (okE b=0))=true then x else y)=if b=true then y else x:=by cases b<;>rfl
def gn {r:Rt}(h:rok r=true):1<=r.den:=by unfold rok at h;grind
def mF (a b:Int):((a.natAbs*b.natAbs:Nat):Int)=if 0<=a*b then a*b else-(a*b):=by rw[<-rj];split<;>omega
def aaw (n:Int):sgn (-n)= -sgn n:=by unfold sgn;repeat' split;all_goals omega
def aax (n:Int): -1<=sgn n/\ sgn n<=1:=by unfold sgn;repeat' split;all_goals omega
def tE {r s:Rt}(h:aS r)(k:aS s):Ans D 193 [R r,R s] (if(rok r&& rok s)=true then [.i64 (sgn (crs r s)),.i64 0] else [.i64 0,.i64 8]):=by refine am ?_;unfold ae4;simp only[az,bL,pO,pP,EV,phi (akz h k),rK,phi (ab8 _ _),phi (ab7 h.1 k.2),phi (ab7 k.1 h.2),phi (aky _ _)];cases hok:rok r&& rok s with|false=>rfl|true=>simp only[aJ] at hok;have d1:=gn hok.1;have d2:=gn hok.2;simp only[aA,Tt,EV];(have p1:(0<=r.num*s.den)↔0<=r.num:=by constructor;intro h;rcases Int.lt_or_le r.num 0 with g|g;have:=jA g (show 0<s.den from ω);omega;exact g;intro h;exact xA h ω);(have p2:(0<=s.num*r.den)↔0<=s.num:=by constructor;intro h;rcases Int.lt_or_le s.num 0 with g|g;have:=jA g (show 0<r.den from ω);omega;exact g;intro h;exact xA h ω);by_cases h1:r.num<0<;>by_cases h2:s.num<0;rw[aq h1,aq h2];simp only[bne_self_eq_false,au,aw,aA];rw[mF,mF,ac (show¬0<=r.num*s.den from ω),ac (show¬0<=s.num*r.den from ω)];unfold crs;rw[show-(r.num*s.den)- -(s.num*r.den)= -(r.num*s.den-s.num*r.den) from ω,aaw];have:=aax (r.num*s.den-s.num*r.den);rw[show(0:Int)- -sgn (r.num*s.den-s.num*r.den)=sgn (r.num*s.den-s.num*r.den) from ω,cg ω ω];rfl;rw[aq h1,ak h2];(have e1:sgn (r.num-s.num)= -1:=by unfold sgn;rw[ad ω]);(have e2:sgn (crs r s)= -1:=by unfold sgn crs;rw[ad ω]);rw[e1,e2];rfl;rw[ak h1,aq h2];(have e1:sgn (r.num-s.num)=1:=by unfold sgn;rw[ac ω,ad ω]);(have e2:sgn (crs r s)=1:=by unfold sgn crs;rw[ac ω,ad ω]);rw[e1,e2];rfl;rw[ak h1,ak h2];simp only[bne_self_eq_false,au,aw];rw[mF,mF,ad (show 0<=r.num*s.den from ω),ad (show 0<=s.num*r.den from ω)];rfl
def akA {x y:Nat}(hx:x<18446744073709551616)(hy:y<18446744073709551616):Ans D 212 [U x,U y] [W false (x*y)]:=by refine am ?_;have b0:=rV (a:=x% 4294967296) (b:=y% 4294967296) ω ω;have b1:=rV (a:=x/4294967296) (b:=y% 4294967296) ω ω;have b2:=rV (a:=x% 4294967296) (b:=y/4294967296) ω ω;have b3:=rV (a:=x/4294967296) (b:=y/4294967296) ω ω;have sp:=G7 (x:=x) (y:=y);(have q32:∀n:Nat,n<18446744073709551616->dA .quo .u64 (n:Int) .u64 4294967296=some (.v (.int .u64 ((n/4294967296:Nat):Int))):=λn h=>by rw[HZ,ac (by decide),ji ω,mJ];congr 3;omega);(have r32:∀n:Nat,dA .rem .u64 (n:Int) .u64 4294967296=some (.v (.int .u64 ((n% 4294967296:Nat):Int))):=λn=>by rw[H3,ac (by decide),Int.tmod_eq_emod_of_nonneg ω];rfl);generalize hA:x/4294967296*(y/4294967296)=A at*;generalize hB:x/4294967296*(y% 4294967296)=B at*;generalize hC:x% 4294967296*(y/4294967296)=C at*;generalize hE:x% 4294967296*(y% 4294967296)=E at*;have m32:dA .mul .u64 (((C+(B+E/4294967296)% 4294967296)% 4294967296:Nat):Int) .u64 4294967296=some (.v (.int .u64 (((C+(B+E/4294967296)% 4294967296)% 4294967296*4294967296:Nat):Int))):=xI (b:=4294967296) ω;(have mA:dA .mul .u64 ((x/4294967296:Nat):Int) .u64 ((y/4294967296:Nat):Int)=some (.v (.int .u64 (A:Int))):=by rw[xI ω,hA]);(have mB:dA .mul .u64 ((x/4294967296:Nat):Int) .u64 ((y% 4294967296:Nat):Int)=some (.v (.int .u64 (B:Int))):=by rw[xI ω,hB]);(have mC:dA .mul .u64 ((x% 4294967296:Nat):Int) .u64 ((y/4294967296:Nat):Int)=some (.v (.int .u64 (C:Int))):=by rw[xI ω,hC]);(have mE:dA .mul .u64 ((x% 4294967296:Nat):Int) .u64 ((y% 4294967296:Nat):Int)=some (.v (.int .u64 (E:Int))):=by rw[xI ω,hE]);unfold ae7 U;simp only[ju,EV,q32 x hx,q32 y hy,r32,mA,mB,mC,mE,q32 E ω,xH (show B+E/4294967296<18446744073709551616 from ω),xH (show C+(B+E/4294967296)% 4294967296<18446744073709551616 from ω),q32 (B+E/4294967296) ω,q32 (C+(B+E/4294967296)% 4294967296) ω,xH (show A+(B+E/4294967296)/4294967296<18446744073709551616 from ω),xH (show A+(B+E/4294967296)/4294967296+(C+(B+E/4294967296)% 4294967296)/4294967296<18446744073709551616 from ω),m32,xH (show(C+(B+E/4294967296)% 4294967296)% 4294967296*4294967296+E% 4294967296<18446744073709551616 from ω)];unfold W U;rw[show x*y/18446744073709551616=A+(B+E/4294967296)/4294967296+(C+(B+E/4294967296)% 4294967296)/4294967296 from ω,show x*y% 18446744073709551616=(C+(B+E/4294967296)% 4294967296)% 4294967296*4294967296+E% 4294967296 from ω];rfl
def Fz (a b:Int):Bool:=(decide (a<0) !=decide (b<0))&&(!decide (a=0)&& !decide (b=0))
def rL (n:Bool)(m:Nat):RF.ev (.shape 3) [W n m]=some (W n m):=rfl
def zo (n:Bool)(m:Nat):RF.ev (.cell 0) [W n m]=some (.bool n):=rfl
def tF (n:Bool)(m:Nat):RF.ev (.cell 1) [W n m]=some (.v (.int .u64 ((m/18446744073709551616:Nat):Int))):=rfl
def tG (n:Bool)(m:Nat):RF.ev (.cell 2) [W n m]=some (.v (.int .u64 ((m% 18446744073709551616:Nat):Int))):=rfl
def ab9 (n:Bool)(m:Nat):RF.ev (.part 0 3) [W n m]=some (W n m):=rfl
def Ds (n:Bool)(m:Nat):RF.ev (.part 1 2) [W n m]=some (.agg [U (m/18446744073709551616),U (m% 18446744073709551616)]):=rfl
def Ig (n:Bool)(m:Nat):RF.ev .agg [.bool n,.agg [U (m/18446744073709551616),U (m% 18446744073709551616)]]=some (W n m):=rfl
def Hk (n:Bool)(m:Nat):RF.ev .flat [W n m]=some (W n m):=rfl
def OO {a b:Int}(h:I64 a)(k:I64 b):Ans D 111 [.i64 a,.i64 b] [W (Fz a b) (a.natAbs*b.natAbs)]:=by refine am ?_;have h1:=wx h;have h2:=wx k;unfold aeg;simp[rL,Ds,Ig,EV,phi (Ie h),phi (Ie k),phi (akA (show a.natAbs<18446744073709551616 from ω) (show b.natAbs<18446744073709551616 from ω)),Sr];unfold Fz;grind
def sj (n:Bool)(m:Nat):Int:=if n then-(m:Int) else m
def tH (a b:Int):sj (Fz a b) (a.natAbs*b.natAbs)=a*b:=by unfold sj Fz;grind
def aca (n:Bool)(m:Nat):Ans D 112 [W n m] [.i64 (sgn (sj n m))]:=by refine am ?_;unfold aeh;simp[rL,tF,tG,EV];(have fin:∀(e:Bool) (v:PV),(e=true↔m=0)->den (bm D) 1 Jc [] [v,W n m,.bool e]=some [.i64 (sgn (sj n m))]:=λe v he=>by unfold Jc sj;simp[zo,EV];cases e with|true=>have:=he.1 rfl;subst this;cases n<;>rfl|false=>unfold sgn;grind);grind
def Wg {n k:Bool}(a b:Nat):Ans D 113 [W n a,W k b] [.i64 (sgn ((a:Int)-b))]:=by refine am ?_;unfold aei;simp[rL,tF,tG,EV,mR];grind
def akB {r s:Rt}(h:aS r)(k:aS s):Ans D 46 [R r,R s] [.i64 (sgn (crs r s))]:=by refine am ?_;unfold adz;simp only[bL,pO,pP,rL,ab9,EV,phi (OO h.1 k.2),phi (OO k.1 h.2),phi (aca _ _),phi (Wg _ _),tH,aa,aF,aj];have e1:=tH r.num s.den;have e2:=tH s.num r.den;unfold sj at e1 e2;unfold crs;generalize r.num*s.den=x at*;generalize s.num*r.den=y at*;generalize r.num.natAbs*s.den.natAbs=a at*;have hx:sgn x=if x<0 then-1 else if 0<x then 1 else 0:=rfl;have hy:sgn y=if y<0 then-1 else if 0<y then 1 else 0:=rfl;by_cases hne:sgn x=sgn y;grind;rw[ad hne];rw[mR x y];grind
def add64 (x y:Nat):RF.ev .add64 [U x,U y,U 0]=some (.agg [U ((x+y)% 18446744073709551616),U ((x+y)/18446744073709551616)]):=rfl
def acb {x t:Int}(h:(x-t)% 18446744073709551616=0)(ht:I64 t):IntKind.i64.wrap x=t:=by have⟨h1,h2⟩:=ht;simp only[IntKind.wrap,IntKind.bits,IntKind.signed];simp;split<;>omega
def wr (x:Int):∃k:Int,IntKind.i64.wrap x=x+18446744073709551616*k:=by simp only[IntKind.wrap,IntKind.bits];simp;split;exact⟨-(x/18446744073709551616)-1,ω⟩;exact⟨-(x/18446744073709551616),ω⟩
def OP {x y:Int}(h:(x-y)% 18446744073709551616=0):IntKind.i64.wrap x=IntKind.i64.wrap y:=by simp only[IntKind.wrap,IntKind.bits];simp;rw[show x% 18446744073709551616=y% 18446744073709551616 from ω]
def wrA (x y:Int):IntKind.i64.wrap (IntKind.i64.wrap x+y)=IntKind.i64.wrap (x+y):=by have⟨k,h⟩:=wr x;rw[h];exact OP ω
def wrB (x y:Int):IntKind.i64.wrap (y+IntKind.i64.wrap x)=IntKind.i64.wrap (y+x):=by have⟨k,h⟩:=wr x;rw[h];exact OP ω
def wrC (x y:Int):IntKind.i64.wrap (IntKind.i64.wrap x-y)=IntKind.i64.wrap (x-y):=by have⟨k,h⟩:=wr x;rw[h];exact OP ω
def OQ (k:IntKind)(n:Nat):RF.ev (.conv k) [U n]=some (.v (.int k (k.wrap n))):=rfl
abbrev oA2:RF:= .bin .add
def hiL (v:Int):PV:= .i64 (v/18446744073709551616)
def loL (v:Int):PV:= .v (.int .u64 (v% 18446744073709551616))
def Mid (v:Int):Prop:= -154742504910672534362390528<=v/\ v<=154742504910672534362390528
def aay {a b p:Int}(ha:I64 a)(hb:I64 b)(hp:a*b=p):∃x y:Nat,(a% 18446744073709551616=(x:Int)/\ x<18446744073709551616)/\(b% 18446744073709551616=(y:Int)/\ y<18446744073709551616)/\((x*y:Nat):Int)=p+18446744073709551616*((if a<0 then b else 0)+(if b<0 then a else 0))+340282366920938463463374607431768211456*(if a<0/\ b<0 then 1 else 0):=by have⟨a1,a2⟩:=ha;have⟨b1,b2⟩:=hb;(have e1:(((a% 18446744073709551616).toNat:Nat):Int)=if a<0 then a+18446744073709551616 else a:=by split<;>omega);(have e2:(((b% 18446744073709551616).toNat:Nat):Int)=if b<0 then b+18446744073709551616 else b:=by split<;>omega);grind
def Ih {Φ':PhT}{N:Nat}{f self:JT}{e0 w:PV}{a b v:Int}{i:Nat}(hΦ:Φ'=bm D)(hw:RF.ev (.aix 2 2 2) [w,.i64 (i:Int)]=some (.agg [.i64 a,.i64 b]))(hi:i<2)(ha:I64 a)(hb:I64 b)(hm:Mid (a*b))(hv:Mid v):den Φ' N Lw [f,self] [e0,w,hiL v,loL v,.i64 (i:Int)]=self [hiL (v+a*b),loL (v+a*b),.i64 ((i+1:Nat):Int)]:=by subst hΦ;have⟨m1,m2⟩:=hm;have⟨v1,v2⟩:=hv;generalize hp:a*b=p at*;have⟨x,y,⟨x1,x2⟩,⟨y1,y2⟩,hxy⟩:=aay ha hb hp;have ha':=ha;have hb':=hb;have⟨a1,a2⟩:=ha;have⟨b1,b2⟩:=hb;have bd:x*y<=18446744073709551615*18446744073709551615:=iD ω ω;have u1:PV.v (.int .u64 (IntKind.u64.wrap a))=U x:=uw x1;have u2:PV.v (.int .u64 (IntKind.u64.wrap b))=U y:=uw y1;have q1:=phi (Wf x2 y2);(have lo0:loL v=U (v% 18446744073709551616).toNat:=by unfold loL U;congr 2;omega);have q2:=add64 (v% 18446744073709551616).toNat (x*y% 18446744073709551616);rw[<-lo0] at q2;have w1:IntKind.i64.wrap ((i:Int)+1)=((i+1:Nat):Int):=up1 ω;unfold Lw;simp only[az,hw,EV,aa,u1,u2,q1,ad (show(i:Int)<2 from ω),OQ,UI];(have lo2:U (((v% 18446744073709551616).toNat+x*y% 18446744073709551616)% 18446744073709551616)=loL (v+p):=by unfold loL U;congr 2;grind);rw[lo2] at q2;have q3:∀h:Int,RF.ev oA2 [hiL v,.v (.int .i64 h)]=some (.i64 (IntKind.i64.wrap (v/18446744073709551616+h))):=λh=>rfl;have U0:PV.v (.int .u64 0)=U 0:=rfl;by_cases a0:a<0<;>by_cases b0:b<0<;>simp only[a0,b0,aA,aw,az,q3,EV,ay,bf,au,UH,U0,q2,OQ,wrA,wrB,wrC,w1,eC,iE,iS,ez,fQ] at hxy|-;all_goals rw[acb (t:=(v+p)/18446744073709551616) ω ⟨ω,ω⟩];rfl
def akC {a b c d:Int}(ha:I64 a)(hb:I64 b)(hc:I64 c)(hd:I64 d)(h1:Mid (a*b))(h2:Mid (c*d)):Ans D 395 [.agg [.i64 a,.i64 b,.i64 c,.i64 d]] [.agg [hiL (a*b+c*d),loL (a*b+c*d)]]:=by refine an ⟨3,?_⟩;unfold agX;have s0:=λself=>Ih (N:=3) (f:=qV (bm D) 3 Lv [] [.agg [.i64 a,.i64 b,.i64 c,.i64 d],.agg [.i64 a,.i64 b,.i64 c,.i64 d]]) (self:=self) (e0:= .agg [.i64 a,.i64 b,.i64 c,.i64 d]) (w:= .agg [.i64 a,.i64 b,.i64 c,.i64 d]) (i:=0) (v:=0) rfl rfl (by decide) ha hb h1 ⟨by decide,by decide⟩;have s1:=λself=>Ih (N:=3) (f:=qV (bm D) 3 Lv [] [.agg [.i64 a,.i64 b,.i64 c,.i64 d],.agg [.i64 a,.i64 b,.i64 c,.i64 d]]) (self:=self) (e0:= .agg [.i64 a,.i64 b,.i64 c,.i64 d]) (w:= .agg [.i64 a,.i64 b,.i64 c,.i64 d]) (i:=1) (v:=a*b) rfl rfl (by decide) hc hd h2 h1;rw[A5] at s0;have z1:PV.i64 0=hiL 0:=rfl;have z2:PV.v (.int .u64 0)=loL 0:=rfl;have z3:PV.i64 0= .i64 ((0:Nat):Int):=rfl;refine(s0 _).trans ?_;simp only[bi,Mz,Q7,Vq,aab];refine(s1 _).trans ?_;simp only[bi,EV];rfl
def Pt.bnd {p:Pt}(h:p.ok=true):(0<=p.id/\ p.id<=65535)/\(-1048576<=p.a/\ p.a<=1048576)/\(-1048576<=p.b/\ p.b<=1048576):=by unfold Pt.ok MK at h;grind
def NK {a b:Int}(h: -2097152<=a/\ a<=2097152)(k:I64 b):Mid (a*b):=by have⟨k1,k2⟩:=k;have e:=rj a b;have:a.natAbs*b.natAbs<=2097152*9223372036854775808:=iD ω ω;constructor<;>omega
def acd (v:Int):(v/18446744073709551616<0)↔v<0:=ω
def orr (a b:Int):Ans D 219 [.sl [[.i64 a],[.i64 b]]] [.i64 (if a=0 then b else a)]:=by refine an ⟨3,?_⟩;unfold afb;(have w0:IntKind.i64.wrap (0+1)=1:=by decide);(have w1:IntKind.i64.wrap (1+1)=2:=by decide);have e0:RF.ev (.tix 1) [.sl [[.i64 a],[.i64 b]],.v (.int .i64 0)]=some (.i64 0):=rfl;have e1:RF.ev (.tix 1) [.sl [[.i64 a],[.i64 b]],.v (.int .i64 1)]=some (.i64 1):=rfl;have g0:RF.ev (.elt 0 0) [.sl [[.i64 a],[.i64 b]],.v (.int .i64 0)]=some (.i64 a):=rfl;have g1:RF.ev (.elt 0 0) [.sl [[.i64 a],[.i64 b]],.v (.int .i64 1)]=some (.i64 b):=rfl;have h2:([[PV.i64 a],[PV.i64 b]].length:Int)=2:=rfl;simp only[EV,bi,Ty,Tz,e0,e1,g0,g1,w0];grind
def OS (t:Rt)(p q:Pt):Int:=if far t p q=0 then(if sgn (p.b-q.b)=0 then sgn (q.id-p.id) else sgn (p.b-q.b)) else sgn (far t p q)
def Ii {t:Rt}{p q:Pt}:decide (0<OS t p q)=leads t p q:=by rw[eu,aa,leads_iff];unfold OS sgn;grind
def cQ (p:Pt):RF.ev (.shape 3) [PP p]=some (PP p):=rfl
def eY (p:Pt):RF.ev (.cell 0) [PP p]=some (.i64 p.id):=rfl
def wy (p:Pt):RF.ev (.cell 1) [PP p]=some (.i64 p.a):=rfl
def pQ (p:Pt):RF.ev (.cell 2) [PP p]=some (.i64 p.b):=rfl
def aaz {t:Rt}{p q:Pt}(hp:p.ok=true)(hq:q.ok=true)(ht:aS t):Mid ((p.a-q.a)*t.den)/\ Mid ((p.b-q.b)*t.num):=by have:=Pt.bnd hp;have:=Pt.bnd hq;exact⟨NK ⟨ω,ω⟩ ht.2,NK ⟨ω,ω⟩ ht.1⟩
def zr {a b:Int}(ha: -1048576<=a/\ a<=1048576)(hb: -1048576<=b/\ b<=1048576):I64 (a-b)/\ IntKind.i64.wrap (a-b)=a-b:=⟨⟨ω,ω⟩,cg ω ω⟩
def ace {p q:Pt}{t:Rt}(hp:p.ok=true)(hq:q.ok=true)(ht:aS t):Ans D 328 [PP p,PP q,R t] [.i64 (OS t p q)]:=by have bp:=Pt.bnd hp;have bq:=Pt.bnd hq;have⟨f1,f2⟩:=aaz hp hq ht;have⟨i1,i2⟩:=zr bp.2.1 bq.2.1;have⟨i3,i4⟩:=zr bp.2.2 bq.2.2;have h1:=phi (akC i1 ht.2 i3 ht.1 f1 f2);rw[show(p.a-q.a)*t.den+(p.b-q.b)*t.num=far t p q from rfl] at h1;have a1:∀a b c d:Int,RF.ev .agg [.i64 a,.i64 b,.i64 c,.i64 d]=some (.agg [.i64 a,.i64 b,.i64 c,.i64 d]):=λ_ _ _ _=>rfl;have a2:∀v:Int,RF.ev (.shape 2) [.agg [hiL v,loL v]]=some (.agg [hiL v,loL v]):=λ_=>rfl;have a3:∀v:Int,RF.ev (.cell 0) [.agg [hiL v,loL v]]=some (.i64 (v/18446744073709551616)):=λ_=>rfl;have a4:RF.ev .agg [.i64 0,.v (.int .u64 0)]=some (.agg [.i64 0,.v (.int .u64 0)]):=rfl;(have a5:∀v:Int,RF.ev (.eqv [.i,.i]) [.agg [hiL v,loL v],.agg [.i64 0,.v (.int .u64 0)]]=some (.bool (decide (v=0))):=λv=>by have:RF.ev (.eqv [.i,.i]) [.agg [hiL v,loL v],.agg [.i64 0,.v (.int .u64 0)]]=some (.bool (decide (v/18446744073709551616=0)&&(decide (v% 18446744073709551616=0)&& true))):=rfl;rw[this];congr 3;grind);have a6:∀x y:Int,RF.ev (.bs 2 [KP.z] [0,1]) [.i64 x,.i64 y]=some (.sl [[.i64 x],[.i64 y]]):=λx y=>rfl;have a7:∀x y:Int,RF.ev .sub [.sl [[.i64 x],[.i64 y]],.v (.int .i64 0),.v (.int .i64 2)]=some (.sl [[.i64 x],[.i64 y]]):=λx y=>rfl;refine am ?_;unfold agn;simp only[az,cQ,bL,eY,wy,pQ,pO,pP,a1,a2,a3,a4,a5,a6,a7,EV,i2,i4,h1,aF,aj,aa,acd,phi (ab8 _ _),phi (zn _ _),phi (orr _ _)];unfold OS;by_cases hz:far t p q=0;rw[ac (by simp[hz]),ad hz];rw[ad hz,ac hz];unfold sgn;by_cases hn:far t p q<0;rw[ad hn,ad hn];rw[ac hn,ac hn,ad ω]
def kz (p q:Pt)(t:Rt):Int:=if(p.ok&&(q.ok&& rok t))=true then(if p.id=q.id then 2 else 0) else 8
def Wh {p q:Pt}{t:Rt}(ht:aS t):Ans D 215 [PP p,PP q,R t] [.i64 (kz p q t)]:=by refine am ?_;unfold ae9 kz;simp only[cQ,bL,eY,mm2,EV,phi (OM _),phi (c43 ht),NJ,Bool.and_assoc,rK];cases(p.ok&&(q.ok&& rok t)) with|false=>rfl|true=>grind
def FA {p q:Pt}{t:Rt}(h:kz p q t=0):p.ok=true/\ q.ok=true/\ rok t=true/\ p.id≠q.id:=by unfold kz at h;grind
def lz {p q:Pt}{t:Rt}(h1:p.ok=true)(h2:q.ok=true)(h3:rok t=true)(h4:p.id≠q.id):kz p q t=0:=by unfold kz;grind
def FB {p q:Pt}{t:Rt}(ht:aS t):Ans D 244 [PP p,PP q,R t] (if kz p q t=0 then [.bool (leads t p q),.i64 0] else [.bool false,.i64 (kz p q t)]):=by refine am ?_;unfold afx;simp only[cQ,bL,EV,phi (Wh ht)];by_cases h:kz p q t=0;have⟨h1,h2,_,_⟩:=FA h;rw[ac (by simp[h]),ad h];simp[EV,phi (ace h1 h2 ht),Ii];grind
def Sm (n:Int):Prop:= -4194304<=n/\ n<=4194304
def OT {a b:Nat}(hb:0<b)(ha:a<18446744073709551616):RF.ev (.bin .quo) [U a,U b]=some (U (a/b)):=by show dA .quo .u64 (a:Int) .u64 (b:Int)=_;have:=i7 a b;rw[HZ,ac ω,ji ω,<-Int.natCast_ediv,wu ω];rfl
def WB (n:Bool)(h l:Nat):PV:= .agg [.bool n,U h,U l]
def acf (n:Bool)(h l:Nat):RF.ev .agg [.bool n,U h,U l]=some (WB n h l):=rfl
def acg (n:Bool)(h l:Nat):RF.ev (.shape 3) [WB n h l]=some (WB n h l):=rfl
def cB0 (n:Bool)(h l:Nat):RF.ev (.cell 0) [WB n h l]=some (.bool n):=rfl
def cB1 (n:Bool)(h l:Nat):RF.ev (.cell 1) [WB n h l]=some (.v (.int .u64 (h:Int))):=rfl
def cB2 (n:Bool)(h l:Nat):RF.ev (.cell 2) [WB n h l]=some (.v (.int .u64 (l:Int))):=rfl
def Ci (a b:Int):RF.ev .agg [.i64 a,.i64 b]=some (R ⟨a,b⟩):=rfl
def Du (r:Rt):RF.ev .flat [R r]=some (R r):=rfl
def OU (r:Rt):RF.ev (.part 0 2) [R r]=some (R r):=rfl
def U0:PV.v (.int .u64 0)=U 0:=rfl
def akD {n:Bool}{a b:Nat}(ha:a<=4194304)(hb:b<=4194304):Ans D 299 [WB n 0 a,U 0,U b] [R ⟨if n=true then-(a:Int) else a,b⟩,.i64 0]:=by refine am ?_;have e:RF.ev (.bin .gtr) [U 0,U 0]=some (.bool false):=rfl;have e2:RF.ev (.bin .gtr) [U b,.v (.int .u64 9223372036854775807)]=some (.bool (decide ((9223372036854775807:Int)<b))):=rfl;unfold afV;simp only[acg,cB0,U0,cB1,cB2,Ci,e,e2,OQ,EV,Ug,gB,cg (show-9223372036854775808<=(a:Int) from ω) ω,cg (show-9223372036854775808<=(b:Int) from ω) ω,cg (show-9223372036854775808<=0-(a:Int) from ω) ω];grind
def OV {n:Int}(h:Sm n):I64 n:=by have⟨h1,h2⟩:=h;exact⟨ω,ω⟩
def akE {n d:Int}(hn:Sm n)(hd:Sm d)(h0:d≠0):Ans D 216 [.i64 n,.i64 d] [R (mkR n d),.i64 0]:=by have⟨n1,n2⟩:=hn;have⟨d1,d2⟩:=hd;have hg:0<Nat.gcd n.natAbs d.natAbs:=gV _ ω;have l1:n.natAbs/Nat.gcd n.natAbs d.natAbs<=n.natAbs:=i7 ..;have l2:d.natAbs/Nat.gcd n.natAbs d.natAbs<=d.natAbs:=i7 ..;have hc:=phi (ab5 n.natAbs d.natAbs);rw[A6] at hc;refine am ?_;unfold afa;simp only[OT hg (show n.natAbs<18446744073709551616 from ω),OT hg (show d.natAbs<18446744073709551616 from ω),U0,acf,EV,phi (Fx (OV ⟨n1,n2⟩)),phi (Fx (OV ⟨d1,d2⟩)),hc,phi (akD (show n.natAbs/Nat.gcd n.natAbs d.natAbs<=4194304 from ω) (show d.natAbs/Nat.gcd n.natAbs d.natAbs<=4194304 from ω)),aa];rw[ac h0];rfl
def akF {p q:Pt}(hp:p.ok=true)(hq:q.ok=true)(hi:p.id≠q.id)(hb:p.b≠q.b):Ans D 117 [PP p,PP q] [R (mkR (p.a-q.a) (q.b-p.b)),.i64 0]:=by have bp:=Pt.bnd hp;have bq:=Pt.bnd hq;have ht:aS ⟨0,1⟩:=⟨⟨by decide,by decide⟩,⟨by decide,by decide⟩⟩;have i2:=(zr bp.2.1 bq.2.1).2;have i4:=(zr bq.2.2 bp.2.2).2;have h1:=phi (Wh (p:=p) (q:=q) ht);rw[lz hp hq (by decide) hi] at h1;refine am ?_;unfold aek;simp[cQ,bL,wy,pQ,Ci,EV,h1,i2,i4,phi (akE (n:=p.a-q.a) (d:=q.b-p.b) ⟨ω,ω⟩ ⟨ω,ω⟩ ω)];grind
def cO (t:Rt)(hi lo:Pt):Rt×Bool:=if leads t lo hi=true then(t,true) else if hi.b<lo.b then(mkR (hi.a-lo.a) (lo.b-hi.b),true) else(⟨0,0⟩,false)
def ach {p q:Pt}{t:Rt}(ht:aS t):Ans D 326 [PP p,PP q,R t] (if kz p q t=0 then [R (cO t p q).1,.bool (cO t p q).2,.i64 0] else [R ⟨0,0⟩,.bool false,.i64 (kz p q t)]):=by refine am ?_;unfold agi;simp only[cQ,bL,Ci,EV,phi (Wh ht),aF,aj];by_cases h:kz p q t=0;have⟨h1,h2,_,h3⟩:=FA h;rw[ac (by simp[h]),ad h];simp only[az,bL,Du,pQ,Ci,EV,phi (ace h2 h1 ht),Ii,aa];unfold cO;(cases leads t q p with|true=>rfl|false=>simp only[au,aw];by_cases hb:q.b<=p.b;grind;rw[ac hb,ad ω];simp only[az,bL,Du,EV,phi (akF h1 h2 h3 ω),ay]);grind
def YS (n:Bool)(a b:Int):RF.ev .agg [.bool n,.v (.int .u64 a),.v (.int .u64 b)]=some (.agg [.bool n,.v (.int .u64 a),.v (.int .u64 b)]):=rfl
def mkW {n:Bool}{h l:Int}{m:Nat}(h1:h=((m/18446744073709551616:Nat):Int))(h2:l=((m% 18446744073709551616:Nat):Int)):PV.agg [.bool n,.v (.int .u64 h),.v (.int .u64 l)]=W n m:=by rw[h1,h2];rfl
def aci {n k:Bool}{a b:Nat}(ha:a<170141183460469231731687303715884105728)(h:b<=a):Ans D 448 [W n a,W k b] [W false (a-b)]:=by refine am ?_;unfold ahf;simp only[rL,tF,tG,EV,aa,UP,YS,mJ];by_cases c:((a% 18446744073709551616:Nat):Int)<((b% 18446744073709551616:Nat):Int);rw[ad c,mkW (m:=a-b) ω ω];rw[ac c,mkW (m:=a-b) ω ω]
def akG {n k:Bool}{a b:Nat}(ha:a<85070591730234615865843651857942052865)(hb:b<85070591730234615865843651857942052865):∃s m,Ans D 431 [W n a,W k b] [W s m]/\ sj s m=sj n a+sj k b:=by (have l1:a% 18446744073709551616<18446744073709551616:=ω);by_cases hs:n=k;subst hs;refine⟨n,a+b,?_,by unfold sj;split<;>omega⟩;refine am ?_;unfold Qw;simp only[az,rL,zo,tF,tG,EV,aa,UN,YS,mJ,gD,aA];by_cases c:(((a% 18446744073709551616:Nat):Int)+((b% 18446744073709551616:Nat):Int))% 18446744073709551616<((a% 18446744073709551616:Nat):Int);rw[ad c,mkW (m:=a+b) ω ω];rw[ac c,mkW (m:=a+b) ω ω];(have hbe:(n==k)=false:=by cases n<;>cases k<;>simp_all);by_cases hle:b<=a;refine⟨n&& decide (0<a-b),a-b,?_,by unfold sj;cases n<;>cases k<;>simp_all<;>(repeat' split)<;>omega⟩;(have g:sgn ((a:Int)-b)>=0:=by unfold sgn;repeat' split;all_goals omega);refine am ?_;unfold Qw;simp only[az,rL,zo,tF,tG,EV,aa,hbe,au,aw,phi (Wg _ _),phi (aci (n:=n) (k:=k) (show a<170141183460469231731687303715884105728 from ω) hle)];rw[ad g];have fin:∀(v:Bool) (es:List PV),den (bm D) 1 wS [] (.bool v::es)=den (bm D) 1 wS [] (.bool v::es):=λ_ _=>rfl;(cases n with|false=>simp only[au,aw,az,Ds,Ig,Hk,wS,EV,ri]|true=>simp only[aA,az,tF,tG,EV,aa,fR];by_cases c:(0:Int)<((((a-b)/18446744073709551616:Nat):Int));rw[ad c,aq (show 0<a-b from ω)];simp only[az,Ds,Ig,Hk,wS,EV];rw[ac c];simp only[az,Ds,Ig,Hk,wS,EV];rw[show decide ((0:Int)<(((a-b)% 18446744073709551616:Nat):Int))=decide (0<a-b) from c9.2 ω]);refine⟨k,b-a,?_,by unfold sj;cases n<;>cases k<;>simp_all<;>omega⟩;(have g:¬sgn ((a:Int)-b)>=0:=by unfold sgn;rw[ad ω];decide);refine am ?_;unfold Qw;simp only[az,rL,zo,tF,tG,EV,aa,hbe,au,aw,phi (Wg _ _),phi (aci (n:=k) (k:=n) (a:=b) (b:=a) (show b<170141183460469231731687303715884105728 from ω) ω)];rw[ac g];simp only[az,Ds,Ig,Hk,zo,EV]
def akH {p q:Pt}{t:Rt}(hp:p.ok=true)(hq:q.ok=true)(ht:aS t):Ans D 390 [PP p,PP q,R t] [.i64 (sgn (far t p q))]:=by have bp:=Pt.bnd hp;have bq:=Pt.bnd hq;have⟨i1,i2⟩:=zr bp.2.1 bq.2.1;have⟨i3,i4⟩:=zr bp.2.2 bq.2.2;have⟨s,m,h1,h2⟩:=akG (n:=Fz (p.a-q.a) t.den) (k:=Fz (p.b-q.b) t.num) (sI (Rz i1 ht.2)) (sI (Rz i3 ht.1));rw[tH,tH] at h2;refine am ?_;unfold agS;simp[cQ,bL,wy,pQ,pO,pP,EV,i2,i4,phi (OO i1 ht.2),phi (OO i3 ht.1),phi h1,phi (aca _ _)];rw[h2];rfl
def Ij {n:Int}:sgn n=0↔n=0:=by unfold sgn;repeat' split;all_goals omega
def aaA {n:Int}:0<sgn n↔0<n:=by unfold sgn;repeat' split;all_goals omega
def Ik {p q:Pt}{t:Rt}(hp:p.ok=true)(hq:q.ok=true)(ht:aS t):Ans D 320 [PP p,PP q,R t] [.bool (leads t p q)]:=by refine am ?_;unfold af6 leads;simp[cQ,bL,eY,pQ,EV,phi (akH hp hq ht),Ij,aaA];grind
def akI {n:Bool}{a b:Nat}(ha:a<=4194304)(hb:b<=4194304):Ans D 383 [.bool n,WB false 0 a,WB false 0 b] [R ⟨if n=true then-(a:Int) else a,b⟩,.i64 0]:=by refine am ?_;unfold agQ;simp only[acg,cB1,cB2,Ci,EV,cg (show-9223372036854775808<=(a:Int) from ω) ω,cg (show-9223372036854775808<=(b:Int) from ω) ω,cg (show-9223372036854775808<=0-(a:Int) from ω) ω];grind
def akJ {n d:Int}(hn:Sm n)(hd:Sm d)(h0:d≠0):Ans D 297 [.i64 n,.i64 d] [R (mkR n d),.i64 0]:=by have⟨n1,n2⟩:=hn;have⟨d1,d2⟩:=hd;have hg:0<Nat.gcd n.natAbs d.natAbs:=gV _ ω;have l1:n.natAbs/Nat.gcd n.natAbs d.natAbs<=n.natAbs:=i7 ..;have l2:d.natAbs/Nat.gcd n.natAbs d.natAbs<=d.natAbs:=i7 ..;have hc:=phi (ab6 n.natAbs d.natAbs);rw[A6] at hc;have hm:=λs=>phi (akI (n:=s) (show n.natAbs/Nat.gcd n.natAbs d.natAbs<=4194304 from ω) (show d.natAbs/Nat.gcd n.natAbs d.natAbs<=4194304 from ω));refine am ?_;unfold afU;simp[OT hg (show n.natAbs<18446744073709551616 from ω),OT hg (show d.natAbs<18446744073709551616 from ω),U0,acf,bL,pO,pP,Ci,Du,Uf,EV,phi (Ie (OV ⟨n1,n2⟩)),phi (Ie (OV ⟨d1,d2⟩)),hc,hm];unfold mkR;grind
def akK {p q:Pt}(hp:p.ok=true)(hq:q.ok=true)(hb:p.b≠q.b):Ans D 210 [PP p,PP q] [R (mkR (p.a-q.a) (q.b-p.b))]:=by have bp:=Pt.bnd hp;have bq:=Pt.bnd hq;have i2:=(zr bp.2.1 bq.2.1).2;have i4:=(zr bq.2.2 bp.2.2).2;refine am ?_;unfold ae6;simp[cQ,bL,wy,pQ,EV,i2,i4,phi (akJ (n:=p.a-q.a) (d:=q.b-p.b) ⟨ω,ω⟩ ⟨ω,ω⟩ ω)]
def akL {p q:Pt}{t:Rt}(hp:p.ok=true)(hq:q.ok=true)(ht:aS t):Ans D 318 [PP p,PP q,R t] [R (cO t p q).1,.bool (cO t p q).2]:=by refine am ?_;unfold af4 cO;simp[cQ,bL,pQ,Ci,EV,phi (Ik hq hp ht)];cases leads t q p with|true=>rfl|false=>simp;by_cases hb:p.b<q.b;rw[ad hb,ad hb];simp only[az,bL,Du,EV,phi (akK hp hq (show p.b≠q.b from ω))];grind
def ba (l:List Pt):RF.ev (.shape 1) [F l]=some (F l):=rfl
def cy (l:List Pt):RF.ev (.cell 0) [F l]=some (sl row l):=rfl
def it (p:Pt):cM 0 3 (row p)=some (PP p):=rfl
def ro (p:Pt):cM 0 0 (row p)=some (.i64 p.id):=rfl
def cj (p:Pt):(row p).length=3:=rfl
def I1 (n:Int):List PV:=[.i64 n]
def cw (n:Int):cM 0 0 (I1 n)=some (.i64 n):=rfl
def B1 (b:Bool):List PV:=[.bool b]
def vR (b:Bool):cM 0 0 (B1 b)=some (.bool b):=rfl
open Classical in def gE (l:List Pt):Int:=if 64<l.length then 4 else if tu l=true then(if iX l then 0 else 32) else 8
def Il {b:Bool}:okE b=0↔b=true:=by cases b<;>simp[okE]
def jY {b:Bool}{α:Type}{x y:α}:(if¬okE b=0 then x else y)=if b=true then y else x:=by cases b<;>rfl
open Classical in def sn (l:List Pt):Ans D 114 [F l] [.i64 (gE l)]:=by refine an ⟨65,?_⟩;unfold aej gE;simp only[az,ba,cy,EV,ai,aa];by_cases h:64<l.length;grind;.rw[ac ω,ac h];refine(cv (l:=l) (p:=Pt.ok) (st:=λi=>[.i64 (i:Int)]) (r:=some [.i64 8]) (fin:=some [.i64 (if iX l then 0 else 32)]) (λi p self hp _=>?_) (λhg self=>?_) ω).trans ?_;unfold Jf;simp only[az,ba,cy,aV hp (cj p),aN hp,it,EV,aa,bx (aL hp),up1 (show i<1000000000 by have:=aL hp;omega),phi (OM _),rK];cases p.ok<;>rfl;(.unfold Jf;simp only[EV,aa,bJ,Su,cy,az,ai];refine(fZ (n:=l.length) (P:=λi=>∀p q,l[i]?=some q->(0<i->l[i-1]?=some p->p.id<q.id)) (st:=λi=>[.i64 (i:Int)]) (r:=some [.i64 32]) (fin:=some [.i64 0]) (λi self hi _=>?_) (λ_ self=>?_) ω).trans ?_;(.obtain⟨q,hq⟩:∃q,l[i]?=some q:=⟨l[i],ah _⟩;unfold Je;simp only[az,cy,aV hq (cj q),aN hq,it,EV,aa,bx hi];cases i with|zero=>rw[ac ω,ad (λp q _ h=>ω)];unfold Jd;simp only[EV,au,aw];try rfl|succ j=>obtain⟨p,hp⟩:∃p,l[j]?=some p:=⟨l[j],ah _⟩;rw[ad ω];simp only[az,cy,eY,xG (show j<1000000000 from ω),aV hp (cj p),aN hp,ro,EV];unfold Jd;simp only[EV,aa,up1 (show j+1<1000000000 from ω)];by_cases hc:q.id<=p.id;rw[ad hc,ac (λh=>by have:=h p q hq ω (by simpa using hp);omega)];rw[ac hc,ad (λp' q' h1 _ h2=>by rw[hq] at h1;cases h1;rw[show j+1-1=j from ω,hp] at h2;cases h2;omega)]);unfold Je;simp only[EV,aa,bJ,Ss];(have:(∀j,j<l.length->∀p q,l[j]?=some q->(0<j->l[j-1]?=some p->p.id<q.id))↔iX l:=by constructor;intro h i p q hp hq;exact h (i+1) (aL hq) p q hq ω (by simpa using hp);intro h j hj p q hq h0 hp;exact h (j-1) p q hp (by rw[show j-1+1=j from ω];exact hq));by_cases hr:iX l;rw[ad (this.2 hr),ad hr];rw[ac (λh=>hr (this.1 h)),ac hr]);unfold tu;cases l.all Pt.ok<;>rfl
open Classical in def acj (l:List Pt):Ans D 28 [F l] [.i64 (gE l)]:=by refine an ⟨65,?_⟩;unfold adw gE;simp only[az,ba,cy,EV,ai,aa];by_cases h:64<l.length;grind;rw[ac ω,ac h];refine(cv (l:=l) (p:=Pt.ok) (st:=λi=>[.i64 (i:Int)]) (r:=some [.i64 8]) (fin:=some [.i64 (if iX l then 0 else 32)]) (λi p self hp _=>?_) (λhg self=>?_) ω).trans ?_;unfold I5;simp only[az,cy,aV hp (cj p),aN hp,it,EV,ai,aa,bx (aL hp),up1 (show i<1000000000 by have:=aL hp;omega),phi (akt _),rK];unfold I5;simp only[az,cy,EV,ai,aa,bJ,Sd];refine(fZ (n:=l.length-1) (P:=λi=>∀p q,l[i]?=some p->l[i+1]?=some q->p.id<q.id) (st:=λi=>[.i64 ((i+1:Nat):Int)]) (r:=some [.i64 32]) (fin:=some [.i64 0]) (λi self hi _=>?_) (λ_ self=>?_) ω).trans ?_;obtain⟨p,hp⟩:∃p,l[i]?=some p:=⟨l[i],ah _⟩;obtain⟨q,hq⟩:∃q,l[i+1]?=some q:=⟨l[i+1],ah _⟩;unfold I4;simp only[az,cy,xG (show i<1000000000 from ω),aV hp (cj p),aN hp,aV hq (cj q),aN hq,ro,EV,ai,aa,bx (aL hq),up1 (show i+1<1000000000 from ω)];grind;unfold I4;simp only[az,cy,EV,ai,aa,Sc];rw[ac ω];have:(∀j,j<l.length-1->∀p q,l[j]?=some p->l[j+1]?=some q->p.id<q.id)↔iX l:=⟨λh i p q hp hq=>h i (by have:=aL hq;omega) p q hp hq,λh j _ p q hp hq=>h j p q hp hq⟩;by_cases hr:iX l;rw[ad (this.2 hr),ad hr];rw[ac (λh=>hr (this.1 h)),ac hr];unfold tu;cases l.all Pt.ok<;>rfl
def pos (l:List Pt)(id:Int):Int:=ky (λp=>decide (p.id=id)) l
def Hl {o:Option Nat}:o.elim (some [PV.i64 (-1)]) (λi=>some [.i64 (i:Int)])=some [.i64 (o.elim (-1) λi=>(i:Int))]:=by cases o<;>rfl
def cx (n:Int):(I1 n).length=1:=rfl
def tI (b:Bool):(B1 b).length=1:=rfl
def vS {l:List Pt}(hl:l.length<=1000)(id:Int):Ans D 134 [F l,.i64 id] [.i64 (pos l id)]:=by refine an ⟨1001,?_⟩;unfold aep;simp[ba,EV];refine(qD (l:=l) (p:=λp=>decide (p.id=id)) (st:=λi=>[.i64 (i:Int)]) (ret:=λi=>some [.i64 (i:Int)]) (fin:=some [.i64 (-1)]) (λi p self hp=>?_) (λself=>?_) ω).trans Hl;unfold Jk;simp only[cy,aV hp (cj p),aN hp,ro,EV,ai,aa,bx (aL hp),up1 (show i<1000000000 by have:=aL hp;omega)];unfold Jk;simp[cy,EV,SD]
def akM {α:Type}[DecidableEq α]{l k:List α}(h:l.length=k.length):(l.zip k).all (λp=>decide (p.1=p.2))=decide (l=k):=by induction l generalizing k with|nil=>(cases k with|nil=>rfl|cons=>simp at h)|cons a l ih=>cases k with|nil=>simp at h|cons b k=>simp_all
def iT {α β:Type}{l:List α}{k:List β}{i:Nat}{x:α×β}(h:(l.zip k)[i]?=some x):l[i]?=some x.1/\ k[i]?=some x.2:=by grind
def fh {α β:Type}{l:List α}{k:List β}(h:l.length=k.length):(l.zip k).length=l.length:=by rw[mP];omega
def rq {α:Type}[DecidableEq α]{l k:List α}{x:Option (List PV)}(h:l.length=k.length)(hx:x=if(l.zip k).all (λp=>decide (p.1=p.2))=true then some [.bool true] else some [.bool false]):x=some [.bool (decide (l=k))]:=by rw[hx,akM h];grind
def ack (p q:Pt):RF.ev (.eqv [.i,.i,.i]) [PP p,PP q]=some (.bool (decide (p=q))):=by have⟨a,b,c⟩:=p;have⟨x,y,z⟩:=q;have:RF.ev (.eqv [.i,.i,.i]) [PP ⟨a,b,c⟩,PP ⟨x,y,z⟩]=some (.bool (decide (a=x)&&(decide (b=y)&&(decide (c=z)&& true)))):=rfl;simp_all
def c28 {l k:List Pt}(hl:l.length<=1000):Ans D 82 [F l,F k] [.bool (decide (l=k))]:=by refine an ⟨1001,?_⟩;unfold k28;simp only[az,ba,cy,EV,ai,aF,aj];by_cases h:l.length=k.length;rw[ac ω];refine rq h (cv (l:=l.zip k) (st:=λi=>[.i64 (i:Int)]) (λi x self hx _=>?_) (λ_ self=>?_) (by rw[fh h];omega));have⟨hp,hq⟩:=iT hx;unfold Qb;simp only[az,cy,aV hp (cj _),aN hp,aV hq (cj _),aN hq,it,ack,EV,ai,aa,aF,aj,bx (aL hp),up1 (show i<1000000000 by have:=aL hp;omega)];grind;rw[fh h];unfold Qb;simp only[az,cy,EV,ai,aa,bJ,ZG];rw[ad ω,ak (λe=>h (by rw[e]))]
def acl {l k:List Int}(hl:l.length<=1000):∃N,den (bm D) N W0 [] [sl I1 l,sl I1 k]=some [.bool (decide (l=k))]:=by refine⟨1001,?_⟩;unfold W0;simp only[EV,ai,aF,aj];by_cases h:l.length=k.length;rw[ac ω];refine rq h (cv (l:=l.zip k) (st:=λi=>[.i64 (i:Int)]) (λi x self hx _=>?_) (λ_ self=>?_) (by rw[fh h];omega));have⟨hp,hq⟩:=iT hx;unfold Jh;simp only[aV hp (cx _),aN hp,aV hq (cx _),aN hq,cw,EV,ai,aa,aF,aj,bx (aL hp),up1 (show i<1000000000 by have:=aL hp;omega)];grind;rw[fh h];unfold Jh;simp only[EV,ai,aa,bJ,Sw];rw[ad ω,ak (λe=>h (by rw[e]))]
def OW {l k:List Int}(hl:l.length<=1000):Ans D 130 [sl I1 l,sl I1 k] [.bool (decide (l=k))]:=an (acl hl)
def Wi {l k:List Int}(hl:l.length<=1000):Ans D 313 [sl I1 l,sl I1 k] [.bool (decide (l=k))]:=an (acl hl)
def akN {l k:List Bool}(hl:l.length<=1000):Ans D 389 [sl B1 l,sl B1 k] [.bool (decide (l=k))]:=by refine an ⟨1001,?_⟩;unfold agR;simp only[EV,ai,aF,aj];by_cases h:l.length=k.length;rw[ac ω];refine rq h (cv (l:=l.zip k) (st:=λi=>[.i64 (i:Int)]) (λi x self hx _=>?_) (λ_ self=>?_) (by rw[fh h];omega));have⟨hp,hq⟩:=iT hx;unfold Lt;simp only[aV hp (tI _),aN hp,aV hq (tI _),aN hq,vR,EV,ai,aa,bx (aL hp),up1 (show i<1000000000 by have:=aL hp;omega)];grind;rw[fh h];unfold Lt;simp only[EV,ai,aa,bJ,UG];rw[ad ω,ak (λe=>h (by rw[e]))]
def Im {l:List Pt}(h:iX l):∀(d i:Nat) (p q:Pt),l[i]?=some p->l[i+d+1]?=some q->p.id<q.id|0,i,p,q,hp,hq=>h i p q hp hq|d+1,i,p,q,hp,hq=>by obtain⟨m,hm⟩:∃m,l[i+d+1]?=some m:=⟨l[i+d+1]'(by have:=aL hq;omega),ah _⟩;have h1:=Im h d i p m hp hm;have h2:=h (i+d+1) m q hm (by rw[<-hq];congr 1);omega
def jD {l:List Pt}(h:iX l){i j:Nat}{p q:Pt}(hij:i<j)(hp:l[i]?=some p)(hq:l[j]?=some q):p.id<q.id:=Im h (j-i-1) i p q hp (by rw[show i+(j-i-1)+1=j from ω];exact hq)
def bY {l:List Pt}(h:iX l):Ids l:=by unfold Ids;rw[cD];intro i j x hi hj;rw[a8,bT] at hi hj;obtain⟨p,hp,rfl⟩:=hi;have⟨q,hq,e⟩:=hj;rcases gj i j with g|g|g;have:=jD h g hp hq;omega;exact g;have:=jD h g hq hp;omega
def LB (l:List Pt)(id:Int)(m:Nat):Prop:=m<=l.length/\∀(k:Nat) (p:Pt),l[k]?=some p->(k<m->p.id<id)/\(m<=k->id<=p.id)
def Wj {a b:Nat}(h:a<1000000)(k:b<1000000):dA .shr .u64 (IntKind.u64.wrap (IntKind.i64.wrap ((a:Int)+(b:Int)))) .u64 1=some (.v (.int .u64 (((a+b)/2:Nat):Int))):=by rw[Q6,ac (by decide),cg ω ω,mJ,show min (1:Int).toNat IntKind.u64.bits=1 from rfl,jh _ (by decide)];congr 3;omega
def Cj {N:Nat}{f:JT}{e0 e2:PV}{l:List Pt}{id:Int}(hs:iX l)(hl:l.length<=1000):∀(m i j:Nat),j-i<m->i<=j->j<=l.length->(∀(k:Nat) (p:Pt),l[k]?=some p->(k<i->p.id<id)/\(j<=k->id<=p.id))->∃P,LB l id P/\ di (bm D) N wM [f] [e0,.i64 id,F l,sl row l,e2] m [.i64 (i:Int),.i64 (j:Int)]=f [.i64 (P:Int)]|0,i,j,h,_,_,_=>ω|m+1,i,j,h,hij,hj,hb=>by rw[bi];by_cases hlt:i<j;obtain⟨p,hp⟩:∃p,l[(i+j)/2]?=some p:=⟨l[(i+j)/2]' ω,ah _⟩;(have key:∀self:JT,den (bm D) N wM ([f]++[self]) ([e0,.i64 id,F l,sl row l,e2]++[.i64 (i:Int),.i64 (j:Int)])=if p.id<id then self [.i64 (((i+j)/2+1:Nat):Int),.i64 (j:Int)] else self [.i64 (i:Int),.i64 (((i+j)/2:Nat):Int)]:=λself=>by unfold wM;simp only[EV,aa,bx hlt,Wj (show i<1000000 from ω) (show j<1000000 from ω),cg (show-9223372036854775808<=(((i+j)/2:Nat):Int) from ω) ω,cy,aV hp (cj p),aN hp,it,eY,phi (zn _ _),T8,up1 (show(i+j)/2<1000000000 from ω)];by_cases c:p.id<id;rw[ad c,ad (show sgn (p.id-id)<0 by unfold sgn;rw[ad ω];decide)];rw[ac c,ac (show¬sgn (p.id-id)<0 by unfold sgn;rw[ac ω];split<;>decide)]);rw[key];by_cases c:p.id<id;rw[ad c];refine Cj hs hl m _ j ω ω hj λk q hq=>⟨λhk=>?_,(hb k q hq).2⟩;by_cases e:k=(i+j)/2;subst e;rw[hp] at hq;cases hq;exact c;have:=jD hs (show k<(i+j)/2 from ω) hq hp;omega;rw[ac c];refine Cj hs hl m i _ ω ω ω λk q hq=>⟨(hb k q hq).1,λhk=>?_⟩;by_cases e:k=(i+j)/2;subst e;rw[hp] at hq;cases hq;omega;have:=jD hs (show(i+j)/2<k from ω) hp hq;omega;refine⟨i,⟨ω,λk p hp=>⟨(hb k p hp).1,λh=>(hb k p hp).2 ω⟩⟩,?_⟩;unfold wM;simp only[EV,aa];rw[ac ω]
def Cl {l:List Pt}{id:Int}:(∀p∈l,p.id≠id)->pos l id= -1:=λh=>by unfold pos ky;rw[fF.2 (λp hp=>ak (h p hp))];rfl
def Co {l:List Pt}(hs:iX l){i:Nat}{p:Pt}(h:l[i]?=some p):pos l p.id=i:=by unfold pos ky;(have:l.findIdx? (λq=>decide (q.id=p.id))=some i:=by rw[bA];have hi:=aL h;have e:=(aD.1 h).2;refine⟨hi,by rw[e];simp,λj hj=>?_⟩;have:=jD hs hj (ah ω) h;simp;omega);rw[this];rfl
def pos_cases (l:List Pt)(id:Int):(pos l id= -1/\∀p∈l,p.id≠id)\/∃(i:Nat) (p:Pt),l[i]?=some p/\ p.id=id/\ pos l id=(i:Nat):=by unfold pos ky;cases h:l.findIdx? (λq=>decide (q.id=id)) with|none=>grind|some i=>have⟨h1,h2,_⟩:=bA.1 h;grind
def tJ {e0:PV}{l:List Pt}{id:Int}(hs:iX l)(hl:l.length<=1000):∃P:Nat,LB l id P/\(0<=pos l id->pos l id=P)/\∀(K2 K1:K) (J:List JT),K2=(.jp K1 (.lt (.bin .lss) [.x 5,.x 4] (.br (.x 6) (.lt (.cell 0) [.x 2] (.lt (.tix 3) [.x 7,.x 5] (.lt (.elt 0 3) [.x 7,.x 8] (.lt (.cell 0) [.x 9] (.call 220 [.x 10,.x 1] (.lt (.bin .eql) [.x 11,.c (.i64 0)] (.jmp 0 [.x 12]))))))) (.jmp 0 [.c (.bool false)]))))->di (bm D) 1001 wM [qV (bm D) 1001 K2 [] [e0,.i64 id,F l,sl row l,.i64 (l.length:Int)]] [e0,.i64 id,F l,sl row l,.i64 (l.length:Int)] 1001 [.i64 0,.i64 (l.length:Int)]=den (bm D) 1001 K1 [] [e0,.i64 id,F l,sl row l,.i64 (l.length:Int),.i64 (P:Int),.bool (decide (0<=pos l id))]:=by have hbin:=λf:JT=>Cj (N:=1001) (f:=f) (e0:=e0) (e2:= .i64 (l.length:Int)) (id:=id) hs hl 1001 0 l.length ω ω ω λk p hp=>⟨λh=>ω,λh=>by have:=aL hp;omega⟩;(have uniq:∀P P2,LB l id P->LB l id P2->P=P2:=λP P2 h h'=>by rcases gj P P2 with g|g|g;obtain⟨p,hp⟩:∃p,l[P]?=some p:=⟨l[P]'(by have:=h'.1;omega),ah _⟩;have h1:=(h.2 P p hp).2 (aC _);have h2:=(h'.2 P p hp).1 g;omega;exact g;obtain⟨p,hp⟩:∃p,l[P2]?=some p:=⟨l[P2]'(by have:=h.1;omega),ah _⟩;have h1:=(h'.2 P2 p hp).2 (aC _);have h2:=(h.2 P2 p hp).1 g;omega);have⟨P,hLB,_⟩:=hbin λ_=>none;have⟨h1,h2⟩:=hLB;(have hpos:(0<=pos l id->pos l id=P)/\(0<=pos l id↔∃p,l[P]?=some p/\ p.id=id):=by rcases pos_cases l id with⟨e,hn⟩|⟨i,p,hp,he,e⟩;refine⟨λh=>ω,λh=>ω,λ⟨p,hp,he⟩=>absurd he (hn p (ax hp))⟩;(have:i=P:=by rcases gj i P with g|g|g;have:=(h2 i p hp).1 g;omega;exact g;obtain⟨q,hq⟩:∃q,l[P]?=some q:=⟨l[P]'(by have:=aL hp;omega),ah _⟩;have:=(h2 P q hq).2 ω;have:=jD hs g hq hp;omega);subst this;exact⟨λ_=>e,λ_=>⟨p,hp,he⟩,λ_=>ω⟩);refine⟨P,⟨h1,h2⟩,hpos.1,λK2 K1 J hK=>?_⟩;have⟨P2,hLB',h3⟩:=hbin (qV (bm D) 1001 K2 [] [e0,.i64 id,F l,sl row l,.i64 (l.length:Int)]);have:=uniq P P2 ⟨h1,h2⟩ hLB';subst this;refine h3.trans ?_;subst hK;simp only[EV,aa];by_cases hP:P<l.length;obtain⟨p,hp⟩:∃p,l[P]?=some p:=⟨l[P],ah _⟩;simp only[bx hP,az,cy,aV hp (cj p),aN hp,it,eY,phi (zn _ _),EV];(have:decide (sgn (p.id-id)=0)=decide (0<=pos l id):=by rw[c9,Ij,hpos.2];constructor;intro h;exact⟨p,hp,ω⟩;rintro⟨q,hq,h⟩;rw[hp] at hq;cases hq;omega);rw[this];rw[ac ω];rw[ak (show¬0<=pos l id by rw[hpos.2];rintro⟨p,hp,_⟩;have:=aL hp;omega)]
def eJ {l:List Pt}:gE l=0↔okF l:=by unfold gE okF;grind
def dS {l:List Pt}(h:okF l){i:Nat}{p:Pt}(hp:l[i]?=some p):p.ok=true:=aU.1 h.2.1 p (ax hp)
def FC {l:List Pt}(h:okF l){i:Nat}{p:Pt}(hp:l[i]?=some p):decide (0<=pos l p.id)=true/\ pos l p.id=(i:Nat):=by have:=Co h.2.2 hp;grind
def acm {l:List Pt}(h:okF l){i:Nat}{p:Pt}(hp:l[i]?=some p):Ans D 267 [F l,.i64 p.id] [.i64 (i:Int),.bool true]:=by have⟨P,_,h2,h1⟩:=tJ (e0:=F l) (id:=p.id) h.2.2 (by have:=h.1;omega);have⟨e1,e2⟩:=FC h hp;(have:P=i:=by have:=h2 (bb e1);omega);subst this;refine an ⟨1001,?_⟩;unfold W8;simp[ba,cy,EV];refine(h1 _ Ad [] rfl).trans ?_;simp[Ad,EV,e1]
def acn {l:List Pt}(h:okF l){i:Nat}{p:Pt}(hp:l[i]?=some p):Ans D 276 [F l,.i64 p.id] [.i64 (i:Int),.i64 0]:=by have h0:=phi (sn l);rw[eJ.2 h] at h0;refine am ?_;unfold Qo;simp[ba,EV,h0,phi (acm h hp)]
def YT (p:Pt):RF.ev .flat [PP p]=some (PP p):=rfl
def Cp {l:List Pt}(h:okF l){i:Nat}{p:Pt}(hp:l[i]?=some p):Ans D 243 [F l,.i64 p.id] [PP p,.i64 0]:=by refine am ?_;unfold afw;simp[ba,cy,EV,phi (acn h hp),aV hp (cj p),aN hp,it]
def aco {l:List Pt}{t:Rt}(h:okF l)(ht:aS t)(hr:rok t=true){i j:Nat}{p q:Pt}(hp:l[i]?=some p)(hq:l[j]?=some q)(hne:p.id≠q.id):Ans D 151 [F l,R t,.i64 p.id,.i64 q.id] [.bool (leads t p q)]:=by have h0:=phi (FB (p:=p) (q:=q) ht);rw[lz (dS h hp) (dS h hq) hr hne] at h0;refine am ?_;unfold aeG;simp[ba,bL,cQ,EV,phi (Cp h hp),phi (Cp h hq),h0]
def Wl {l:List Pt}(h:okF l){i:Nat}{p:Pt}(hp:l[i]?=some p):Ans D 400 [F l,.i64 p.id] [.i64 (i:Int),.bool true]:=by have⟨P,_,h2,h1⟩:=tJ (e0:=F l) (id:=p.id) h.2.2 (by have:=h.1;omega);have⟨e1,e2⟩:=FC h hp;(have:P=i:=by have:=h2 (bb e1);omega);subst this;refine an ⟨1001,?_⟩;unfold Xe;simp[ba,cy,EV];refine(h1 _ Et [] rfl).trans ?_;simp[Et,EV,e1]
def aiE {l:List Pt}(h:okF l){id:Int}(hn:∀p∈l,p.id≠id):∃P:Nat,Ans D 400 [F l,.i64 id] [.i64 (P:Int),.bool false]:=by have⟨P,_,_,h1⟩:=tJ (e0:=F l) (id:=id) h.2.2 (by have:=h.1;omega);refine⟨P,an ⟨1001,?_⟩⟩;unfold Xe;simp[ba,cy,EV];refine(h1 _ Et [] rfl).trans ?_;simp only[Cl hn];rfl
def ptOf (l:List Pt)(id:Int):Pt:=(l.find? λp=>decide (p.id=id)).getD ⟨-1,0,0⟩
def gG {l:List Pt}(h:okF l){i:Nat}{p:Pt}(hp:l[i]?=some p):ptOf l p.id=p:=by unfold ptOf;cases e:l.find? λq=>decide (q.id=p.id) with|none=>rw[kj] at e;have:=e p (ax hp);simp at this|some q=>have h1:=km e;exact(bY h.2.2).inj (eH e) (ax hp) (bb h1)
def Gy {l:List Pt}{id:Int}(hn:∀p∈l,p.id≠id):ptOf l id=⟨-1,0,0⟩:=by unfold ptOf;rw[kj.2 (λp hp=>by simpa using hn p hp)];rfl
def has_cases (l:List Pt)(id:Int):(∀p∈l,p.id≠id)\/∃(i:Nat) (p:Pt),l[i]?=some p/\ p.id=id:=by rcases pos_cases l id with⟨_,h⟩|⟨i,p,h1,h2,_⟩;exact .inl h;grind
def Cq {l:List Pt}(h:okF l)(id:Int):Ans D 327 [F l,.i64 id] [PP (ptOf l id)]:=by have⟨P,_,h2,h1⟩:=tJ (e0:=F l) (id:=id) h.2.2 (by have:=h.1;omega);refine an ⟨1001,?_⟩;unfold agm;simp only[az,ba,cy,EV,ai];refine(h1 _ K6 [] rfl).trans ?_;unfold K6;rcases has_cases l id with hn|⟨i,p,hp,rfl⟩;have a3:RF.ev .agg [.i64 (-1),.i64 0,.i64 0]=some (PP ⟨-1,0,0⟩):=rfl;rw[Cl hn,ak (by decide)];simp only[az,ba,cy,EV,bX,aA,a3,YT,Gy hn];have⟨e1,e2⟩:=FC h hp;(have:P=i:=by have:=h2 (bb e1);omega);subst this;rw[e1];simp only[az,ba,cy,EV,aE,au,aw,aV hp (cj p),aN hp,it,YT,gG h hp]
structure Crt where
 j:Int
 h:Int
 deriving DecidableEq
structure Held where
 n:Int
 c:Crt
 deriving DecidableEq
structure Hnd where
 i:Int
 use:Int
 deriving DecidableEq
structure Evt where
 time:Rt
 n:Int
 h:Hnd
 deriving DecidableEq
structure Due where
 n:Int
 h:Hnd
 deriving DecidableEq
structure Nod where
 id:Int
 left:Int
 right:Int
 deriving DecidableEq
structure Certs where
 next:Int
 l:List Held
 deriving DecidableEq
structure Agenda where
 s:Slots
 heap:List Evt
 w:List Int
 deriving DecidableEq
structure Clock where
 n:Rt
 p:List Pt
 q:Certs
 a:Agenda
 d:List Due
 deriving DecidableEq
structure Brk where
 p:List Int
 w:List Int
 deriving DecidableEq
structure Tree where
 root:Int
 n:List Nod
 deriving DecidableEq
structure KHeap where
 c:Clock
 heap:List Int
 deriving DecidableEq
structure KTourn where
 c:Clock
 b:Brk
 deriving DecidableEq
structure Heater where
 c:Clock
 t:Tree
 deriving DecidableEq
structure Choice where
 tag:Int
 heap:KHeap
 o:KTourn
 x:Heater
 g:KHeap
 deriving DecidableEq
def crow (c:Crt):List PV:=[.i64 c.j,.i64 c.h]
def hrow (h:Held):List PV:=[.i64 h.n,.i64 h.c.j,.i64 h.c.h]
def b7 (e:Evt):List PV:=[.i64 e.time.num,.i64 e.time.den,.i64 e.n,.i64 e.h.i,.i64 e.h.use]
def cW (d:Due):List PV:=[.i64 d.n,.i64 d.h.i,.i64 d.h.use]
def dL (n:Nod):List PV:=[.i64 n.id,.i64 n.left,.i64 n.right]
def CP (c:Crt):PV:= .agg (crow c)
def HP (h:Held):PV:= .agg (hrow h)
def EP (e:Evt):PV:= .agg (b7 e)
def DP (d:Due):PV:= .agg (cW d)
def NP (n:Nod):PV:= .agg (dL n)
def csC (c:Certs):List PV:=[.i64 c.next,sl hrow c.l]
def slC (s:Slots):List PV:=[sl I1 s.u,sl B1 s.v,sl I1 s.f]
def agC (a:Agenda):List PV:=slC a.s++[sl b7 a.heap,sl I1 a.w]
def clC (c:Clock):List PV:= .i64 c.n.num:: .i64 c.n.den::sl row c.p::(csC c.q++(agC c.a++[sl cW c.d]))
def brC (b:Brk):List PV:=[sl I1 b.p,sl I1 b.w]
def trC (t:Tree):List PV:=[.i64 t.root,sl dL t.n]
def khC (k:KHeap):List PV:=clC k.c++[sl I1 k.heap]
def ktC (k:KTourn):List PV:=clC k.c++brC k.b
def htC (k:Heater):List PV:=clC k.c++trC k.t
def aY (c:Choice):List PV:= .v (.int .u8 c.tag)::(khC c.heap++(ktC c.o++(htC c.x++khC c.g)))
def CS (c:Certs):PV:= .agg (csC c)
def SL (s:Slots):PV:= .agg (slC s)
def AG (a:Agenda):PV:= .agg (agC a)
def CL (c:Clock):PV:= .agg (clC c)
def BR (b:Brk):PV:= .agg (brC b)
def TR (t:Tree):PV:= .agg (trC t)
def KH (k:KHeap):PV:= .agg (khC k)
def KT (k:KTourn):PV:= .agg (ktC k)
def HT (k:Heater):PV:= .agg (htC k)
def CHO (c:Choice):PV:= .agg (aY c)
def xJ (c:Crt):cM 0 2 (crow c)=some (CP c):=rfl
def lI (h:Held):cM 0 3 (hrow h)=some (HP h):=rfl
def OX (h:Held):cM 1 2 (hrow h)=some (CP h.c):=rfl
def aiF (h:Held):cM 0 0 (hrow h)=some (.i64 h.n):=rfl
def aiG (h:Held):cM 1 0 (hrow h)=some (.i64 h.c.j):=rfl
def aiH (h:Held):cM 2 0 (hrow h)=some (.i64 h.c.h):=rfl
def hZ (e:Evt):cM 0 5 (b7 e)=some (EP e):=rfl
def OY (d:Due):cM 0 3 (cW d)=some (DP d):=rfl
def zt (n:Nod):cM 0 3 (dL n)=some (NP n):=rfl
def jq (c:Crt):(crow c).length=2:=rfl
def gO (c:Held):(hrow c).length=3:=rfl
def kD (c:Evt):(b7 c).length=5:=rfl
def pT (c:Due):(cW c).length=3:=rfl
def lJ (c:Nod):(dL c).length=3:=rfl
section
variable (c:Certs)(s:Slots)(a:Agenda)(k:Clock)(b:Brk)(t:Tree)(kh:KHeap)(kt:KTourn)(ht:Heater)(ch:Choice)(cr:Crt)(h:Held)
theorem mi:RF.ev (.shape 2) [CP cr]=some (CP cr):=rfl
theorem mj:RF.ev (.cell 0) [CP cr]=some (.i64 cr.j):=rfl
theorem ml:RF.ev (.cell 1) [CP cr]=some (.i64 cr.h):=rfl
theorem kW:RF.ev (.cell 0) [HP h]=some (.i64 h.n):=rfl
theorem pHP:RF.ev (.part 1 2) [HP h]=some (CP h.c):=rfl
theorem lK:RF.ev (.shape 2) [CS c]=some (CS c):=rfl
theorem oJ:RF.ev (.cell 0) [CS c]=some (.i64 c.next):=rfl
theorem gz:RF.ev (.cell 1) [CS c]=some (sl hrow c.l):=rfl
theorem kY:RF.ev (.shape 3) [SL s]=some (SL s):=rfl
theorem kZ:RF.ev (.cell 0) [SL s]=some (sl I1 s.u):=rfl
theorem mS:RF.ev (.cell 1) [SL s]=some (sl B1 s.v):=rfl
theorem k8:RF.ev (.cell 2) [SL s]=some (sl I1 s.f):=rfl
theorem i9:RF.ev (.shape 5) [AG a]=some (AG a):=rfl
theorem pAG:RF.ev (.part 0 3) [AG a]=some (SL a.s):=rfl
theorem fA:RF.ev (.cell 3) [AG a]=some (sl b7 a.heap):=rfl
theorem kF:RF.ev (.cell 4) [AG a]=some (sl I1 a.w):=rfl
theorem cZ:RF.ev (.shape 11) [CL k]=some (CL k):=rfl
theorem gA:RF.ev (.part 0 2) [CL k]=some (R k.n):=rfl
theorem ja:RF.ev (.part 2 1) [CL k]=some (F k.p):=rfl
theorem qE:RF.ev (.part 3 2) [CL k]=some (CS k.q):=rfl
theorem oO:RF.ev (.part 5 5) [CL k]=some (AG k.a):=rfl
theorem tK:RF.ev (.cell 2) [CL k]=some (sl row k.p):=rfl
theorem jb:RF.ev (.cell 4) [CL k]=some (sl hrow k.q.l):=rfl
theorem mT:RF.ev (.cell 8) [CL k]=some (sl b7 k.a.heap):=rfl
theorem oP:RF.ev (.cell 9) [CL k]=some (sl I1 k.a.w):=rfl
theorem eS:RF.ev (.cell 10) [CL k]=some (sl cW k.d):=rfl
theorem nW:RF.ev (.shape 2) [BR b]=some (BR b):=rfl
theorem vT:RF.ev (.cell 0) [BR b]=some (sl I1 b.p):=rfl
theorem lL:RF.ev (.cell 1) [BR b]=some (sl I1 b.w):=rfl
theorem xK:RF.ev (.shape 2) [TR t]=some (TR t):=rfl
theorem acp:RF.ev (.cell 0) [TR t]=some (.i64 t.root):=rfl
theorem k9:RF.ev (.cell 1) [TR t]=some (sl dL t.n):=rfl
theorem eg:RF.ev (.shape 12) [KH kh]=some (KH kh):=rfl
theorem pKH:RF.ev (.part 0 11) [KH kh]=some (CL kh.c):=rfl
theorem cKH:RF.ev (.cell 11) [KH kh]=some (sl I1 kh.heap):=rfl
theorem jr:RF.ev (.shape 13) [KT kt]=some (KT kt):=rfl
theorem pKT:RF.ev (.part 0 11) [KT kt]=some (CL kt.c):=rfl
theorem FD:RF.ev (.part 11 2) [KT kt]=some (BR kt.b):=rfl
theorem jJ:RF.ev (.shape 13) [HT ht]=some (HT ht):=rfl
theorem pHT:RF.ev (.part 0 11) [HT ht]=some (CL ht.c):=rfl
theorem acq:RF.ev (.part 11 2) [HT ht]=some (TR ht.t):=rfl
theorem ei:RF.ev (.shape 51) [CHO ch]=some (CHO ch):=rfl
theorem cCH:RF.ev (.cell 0) [CHO ch]=some (.v (.int .u8 ch.tag)):=rfl
theorem xL:RF.ev (.part 1 12) [CHO ch]=some (KH ch.heap):=rfl
theorem xM:RF.ev (.part 13 13) [CHO ch]=some (KT ch.o):=rfl
theorem xN:RF.ev (.part 26 13) [CHO ch]=some (HT ch.x):=rfl
theorem xO:RF.ev (.part 39 12) [CHO ch]=some (KH ch.g):=rfl
end
def gSl (s:Slots):Bool:=decide (210<s.u.length)||decide (210<s.v.length)||decide (210<s.f.length)
def gAg (a:Agenda):Bool:=gSl a.s||decide (210<a.heap.length)||decide (210<a.w.length)
def gF (l:List Pt):Bool:=(decide (16<l.length)&& decide (l.length<64))||decide (70<l.length)
def gCl (c:Clock):Bool:=decide (40<c.q.l.length)||decide (40<c.d.length)||gF c.p||gAg c.a
def gKh (k:KHeap):Bool:=gCl k.c||decide (70<k.heap.length)
def gKt (k:KTourn):Bool:=gCl k.c||(decide (70<k.b.p.length)||decide (70<k.b.w.length))
def gHt (k:Heater):Bool:=gCl k.c||decide (70<k.t.n.length)
def gCh (c:Choice):Bool:=gKh c.heap||gKt c.o||gHt c.x||gKh c.g
def Wm (a b c x y z:Int):RF.ev (.eqv [.i,.i,.i]) [.agg [.i64 a,.i64 b,.i64 c],.agg [.i64 x,.i64 y,.i64 z]]=some (.bool (decide (a=x/\ b=y/\ c=z))):=by have:RF.ev (.eqv [.i,.i,.i]) [.agg [.i64 a,.i64 b,.i64 c],.agg [.i64 x,.i64 y,.i64 z]]=some (.bool (decide (a=x)&&(decide (b=y)&&(decide (c=z)&& true)))):=rfl;simp_all
def akO (p q:Held):RF.ev (.eqv [.i,.i,.i]) [HP p,HP q]=some (.bool (decide (p=q))):=by have⟨a,b,c⟩:=p;have⟨x,y,z⟩:=q;refine(Wm ..).trans ?_;simp_all
def akP (p q:Due):RF.ev (.eqv [.i,.i,.i]) [DP p,DP q]=some (.bool (decide (p=q))):=by have⟨a,b,c⟩:=p;have⟨x,y,z⟩:=q;refine(Wm ..).trans ?_;simp_all
def acr (p q:Nod):RF.ev (.eqv [.i,.i,.i]) [NP p,NP q]=some (.bool (decide (p=q))):=by have⟨a,b,c⟩:=p;have⟨x,y,z⟩:=q;refine(Wm ..).trans ?_;simp_all
def acs (a b x y:Int):RF.ev (.eqv [.i,.i]) [.agg [.i64 a,.i64 b],.agg [.i64 x,.i64 y]]=some (.bool (decide (a=x/\ b=y))):=by have:RF.ev (.eqv [.i,.i]) [.agg [.i64 a,.i64 b],.agg [.i64 x,.i64 y]]=some (.bool (decide (a=x)&&(decide (b=y)&& true))):=rfl;simp_all
def Cr (p q:Crt):RF.ev (.eqv [.i,.i]) [CP p,CP q]=some (.bool (decide (p=q))):=by have⟨a,b⟩:=p;have⟨x,y⟩:=q;refine(acs ..).trans ?_;simp_all
def OZ (p q:Rt):RF.ev (.eqv [.i,.i]) [R p,R q]=some (.bool (decide (p=q))):=by have⟨a,b⟩:=p;have⟨x,y⟩:=q;refine(acs ..).trans ?_;simp_all
def act (p q:Evt):RF.ev (.eqv [.i,.i,.i,.i,.i]) [EP p,EP q]=some (.bool (decide (p=q))):=by have⟨⟨a,b⟩,c,d,e⟩:=p;have⟨⟨x,y⟩,z,u,v⟩:=q;have:RF.ev (.eqv [.i,.i,.i,.i,.i]) [EP ⟨⟨a,b⟩,c,⟨d,e⟩⟩,EP ⟨⟨x,y⟩,z,⟨u,v⟩⟩]=some (.bool (decide (a=x)&&(decide (b=y)&&(decide (c=z)&&(decide (d=u)&&(decide (e=v)&& true)))))):=rfl;rw[this];congr 2;grind
def akQ {s t:Slots}(h:gSl s=false):Ans D 312 [SL s,SL t] [.bool (decide (s=t))]:=by unfold gSl at h;simp at h;refine am ?_;unfold afX;simp only[az,kY,kZ,mS,k8,EV,Uh,phi (Wi (l:=s.u) (k:=t.u) ω),phi (akN (l:=s.v) (k:=t.v) ω),phi (Wi (l:=s.f) (k:=t.f) ω),aa];have⟨a,b,c⟩:=s;have⟨x,y,z⟩:=t;by_cases h1:a=x<;>by_cases h2:b=y<;>simp[h1,h2]
def akR {s t:Agenda}(h:gAg s=false):Ans D 225 [AG s,AG t] [.bool (decide (s=t))]:=by unfold gAg at h;simp only[ew,aj] at h;refine an ⟨1001,?_⟩;unfold aff;have⟨a,b,c⟩:=s;have⟨x,y,z⟩:=t;simp only[az,i9,pAG,fA,kF,EV,ai,phi (akQ h.1.1),phi (Wi (l:=c) (k:=z) (show c.length<=1000 by have:=h.2;simp only at this;omega)),aF,aj];by_cases h1:a=x;by_cases h2:c=z;subst h1;subst h2;simp only[dt,aw];by_cases h3:b.length=y.length;rw[ac ω];refine(rq (l:=b) (k:=y) h3 (cv (l:=b.zip y) (st:=λi=>[.i64 (i:Int)]) (λi x self hx _=>?_) (λ_ self=>?_) (by have:=h.1.2;rw[fh h3];simp only at this;omega))).trans ?_;have⟨hp,hq⟩:=iT hx;unfold J4;simp only[az,fA,aV hp (kD _),aN hp,aV hq (kD _),aN hq,hZ,act,EV,ai,aa,aF,aj,bx (aL hp),up1 (show i<1000000000 by have:=aL hp;have:=h.1.2;simp only at this;omega)];grind;rw[fh h3];unfold J4;simp only[az,fA,EV,ai,aa,bJ,TB];simp[Agenda.mk.injEq];rw[ad ω,ak (λe=>h3 (by cases e;rfl))];rw[ac (by simp[h1]),ad h2,ak (λe=>h2 (by cases e;rfl))];rw[ad h1,ak (λe=>h1 (by cases e;rfl))]
def akS {s t:Certs}(h:s.l.length<=1000):Ans D 224 [CS s,CS t] [.bool (decide (s=t))]:=by refine an ⟨1001,?_⟩;unfold afe;have⟨a,b⟩:=s;have⟨x,y⟩:=t;simp only at h;simp only[az,lK,oJ,gz,EV,ai,aF,aj];by_cases h1:a=x;subst h1;simp only[dt,aw];by_cases h3:b.length=y.length;rw[ac ω];refine(rq (l:=b) (k:=y) h3 (cv (l:=b.zip y) (st:=λi=>[.i64 (i:Int)]) (λi x self hx _=>?_) (λ_ self=>?_) (by rw[fh h3];omega))).trans ?_;have⟨hp,hq⟩:=iT hx;unfold J3;simp only[az,gz,aV hp (gO _),aN hp,aV hq (gO _),aN hq,lI,akO,EV,ai,aa,aF,aj,bx (aL hp),up1 (show i<1000000000 by have:=aL hp;omega)];grind;rw[fh h3];unfold J3;simp only[az,gz,EV,ai,aa,bJ,TA];simp_all;rw[ad ω,ak (λe=>h3 (by cases e;rfl))];simp_all
structure gW (s:Clock):Prop where
 q:s.q.l.length<=1000
 d:s.d.length<=1000
 p:s.p.length<=1000
 ag:gAg s.a=false
def Hn {s:Clock}(h:gCl s=false):gW s:=by unfold gCl gF at h;simp at h;have⟨⟨⟨h1,h2⟩,h3,h3'⟩,h4⟩:=h;exact⟨ω,ω,ω,h4⟩
def O0 {s t:Clock}(h:gW s):Ans D 129 [CL s,CL t] [.bool (decide (s=t))]:=by have⟨h1,h2,h3,h4⟩:=h;have⟨a,b,c,d,e⟩:=s;have⟨x,y,z,u,v⟩:=t;simp only at h1 h2 h3 h4;refine an ⟨1001,?_⟩;unfold ael;simp only[az,cZ,gA,ja,qE,oO,eS,OZ,EV,ai,aF,aj,phi (c28 (l:=b) (k:=y) ω),phi (akS (s:=c) (t:=z) ω),phi (akR (t:=u) h4)];by_cases e1:a=x;by_cases e2:b=y;by_cases e3:c=z;by_cases e4:d=u;subst e1;subst e2;subst e3;subst e4;simp only[dt,aw];by_cases e5:e.length=v.length;rw[ac ω];refine(rq (l:=e) (k:=v) e5 (cv (l:=e.zip v) (st:=λi=>[.i64 (i:Int)]) (λi x self hx _=>?_) (λ_ self=>?_) (by rw[fh e5];omega))).trans ?_;have⟨hp,hq⟩:=iT hx;unfold Jg;simp only[az,eS,aV hp (pT _),aN hp,aV hq (pT _),aN hq,OY,akP,EV,ai,aa,aF,aj,bx (aL hp),up1 (show i<1000000000 by have:=aL hp;omega)];grind;rw[fh e5];unfold Jg;simp only[az,eS,EV,ai,aa,bJ,Sv];simp[Clock.mk.injEq];rw[ad ω,ak (λh=>e5 (by cases h;rfl))];rw[ac (by simp[e1]),ac (by simp[e2]),ac (by simp[e3]),ad e4,ak (λh=>e4 (by cases h;rfl))];rw[ac (by simp[e1]),ac (by simp[e2]),ad e3,ak (λh=>e3 (by cases h;rfl))];rw[ac (by simp[e1]),ad e2,ak (λh=>e2 (by cases h;rfl))];rw[ad e1,ak (λh=>e1 (by cases h;rfl))]
def akT {s t:Brk}(h:s.p.length<=1000)(k:s.w.length<=1000):Ans D 131 [BR s,BR t] [.bool (decide (s=t))]:=by refine am ?_;unfold aem;have⟨a,b⟩:=s;have⟨x,y⟩:=t;simp[nW,vT,lL,EV,Sy,phi (OW (l:=a) (k:=x) h),phi (OW (l:=b) (k:=y) k)];by_cases e1:a=x<;>by_cases e2:b=y<;>simp[e1]
def acu {s t:Tree}(h:s.n.length<=1000):Ans D 132 [TR s,TR t] [.bool (decide (s=t))]:=by refine an ⟨1001,?_⟩;unfold aen;have⟨a,b⟩:=s;have⟨x,y⟩:=t;simp only at h;simp only[az,xK,acp,k9,EV,ai,aF,aj];by_cases h1:a=x;subst h1;simp only[dt,aw];by_cases h3:b.length=y.length;rw[ac ω];refine(rq (l:=b) (k:=y) h3 (cv (l:=b.zip y) (st:=λi=>[.i64 (i:Int)]) (λi x self hx _=>?_) (λ_ self=>?_) (by rw[fh h3];omega))).trans ?_;have⟨hp,hq⟩:=iT hx;unfold Ji;simp only[az,k9,aV hp (lJ _),aN hp,aV hq (lJ _),aN hq,zt,acr,EV,ai,aa,aF,aj,bx (aL hp),up1 (show i<1000000000 by have:=aL hp;omega)];grind;rw[fh h3];unfold Ji;simp only[az,k9,EV,ai,aa,bJ,Sz];simp[Tree.mk.injEq];rw[ad ω,ak (λe=>h3 (by cases e;rfl))];rw[ad h1,ak (λe=>h1 (by cases e;rfl))]
def d51 {s t:KHeap}(h:gW s.c/\ s.heap.length<=1000):∃N,den (bm D) N k51 [] [KH s,KH t]=some [.bool (decide (s=t))]:=by unfold k51;have⟨a,b⟩:=s;have⟨x,y⟩:=t;simp only at h;simp[eg,pKH,cKH,EV,Zs,phi (O0 (t:=x) h.1),phi (OW (l:=b) (k:=y) ω)];by_cases e1:a=x<;>by_cases e2:b=y<;>simp[e1]
def YU {s:KHeap}(h:gKh s=false):gW s.c/\ s.heap.length<=1000:=by unfold gKh at h;simp at h;exact⟨Hn h.1,ω⟩
def akU {s t:KHeap}(h:gW s.c/\ s.heap.length<=1000):Ans D 57 [KH s,KH t] [.bool (decide (s=t))]:=an (d51 h)
def akV {s t:KHeap}(h:gW s.c/\ s.heap.length<=1000):Ans D 60 [KH s,KH t] [.bool (decide (s=t))]:=an (d51 h)
def c51 {s t:KHeap}(h:gKh s=false):Ans D 57 [KH s,KH t] [.bool (decide (s=t))]:=akU (YU h)
def c54 {s t:KHeap}(h:gKh s=false):Ans D 60 [KH s,KH t] [.bool (decide (s=t))]:=akV (YU h)
def akW {s t:KTourn}(h:gW s.c/\ s.b.p.length<=1000/\ s.b.w.length<=1000):Ans D 58 [KT s,KT t] [.bool (decide (s=t))]:=by refine am ?_;unfold k52;have⟨a,b⟩:=s;have⟨x,y⟩:=t;simp only at h;simp[jr,pKT,FD,EV,Zt,phi (O0 (t:=x) h.1),phi (akT (s:=b) (t:=y) ω ω)];by_cases e1:a=x<;>by_cases e2:b=y<;>simp[e1]
def akX {s t:Heater}(h:gW s.c/\ s.t.n.length<=1000):Ans D 59 [HT s,HT t] [.bool (decide (s=t))]:=by refine am ?_;unfold k53;have⟨a,b⟩:=s;have⟨x,y⟩:=t;simp only at h;simp[jJ,pHT,acq,EV,Zu,phi (O0 (t:=x) h.1),phi (acu (s:=b) (t:=y) ω)];by_cases e1:a=x<;>by_cases e2:b=y<;>simp[e1]
def c52 {s t:KTourn}(h:gKt s=false):Ans D 58 [KT s,KT t] [.bool (decide (s=t))]:=by unfold gKt at h;simp at h;exact akW ⟨Hn h.1,ω,ω⟩
def c53 {s t:Heater}(h:gHt s=false):Ans D 59 [HT s,HT t] [.bool (decide (s=t))]:=by unfold gHt at h;simp at h;exact akX ⟨Hn h.1,ω⟩
end Go.Proofs.YtoeigdpfcnaaeaaGreat
namespace Go.Sym
open Go.Sym
def foldO {α β:Type}(g:β->α->Option β):β->List α->Option β|x,[]=>some x|x,a::l=>match g x a with|some y=>foldO g y l|none=>none
section
variable {Φ:PhT}{N:Nat}{b:K}{J:List JT}{e:List PV}{α β:Type}{l:List α}
def xP {g:β->α->Option β}{I:β->Prop}{S:β->Nat->List PV}{fin:β->Option (List PV)}{r:Option (List PV)}{x:β}(h0:I x)(hi:∀a acc acc',I acc->g acc a=some acc'->I acc')(hs:∀i a acc self,l[i]?=some a->I acc->den Φ N b (J++[self]) (e++S acc i)=match g acc a with|some acc'=>self (S acc' (i+1))|none=>r) (hf:∀acc self,I acc->foldO g x l=some acc->den Φ N b (J++[self]) (e++S acc l.length)=fin acc) {m:Nat} (hm:l.length<m):di Φ N b J e m (S x 0)=match foldO g x l with|some acc=>fin acc|none=>r:=by (have:∀(k:List α) i m acc,l.drop i=k->i<=l.length->k.length<m->I acc->foldO g x l=foldO g acc k->di Φ N b J e m (S acc i)=match foldO g acc k with|some acc=>fin acc|none=>r:=by intro k;induction k with|nil=>intro i m acc h hi' hm hI hx;obtain⟨m,rfl⟩:∃m',m=m'+1:=⟨m-1,ω⟩;have:=mQ h hi';(have hil:i=l.length:=by simpa using this);rw[bi,hil];exact hf _ _ hI hx|cons a k ih=>intro i m acc h hi' hm hI hx;obtain⟨m,rfl⟩:∃m',m=m'+1:=⟨m-1,ω⟩;have⟨h1,h2⟩:=iG h;have:=mQ h hi';simp only[bo] at hm this;rw[bi,hs i a acc _ h1 hI];have hu:foldO g acc (a::k)=match g acc a with|some y=>foldO g y k|none=>none:=rfl;rw[hu] at hx|-;cases hg:g acc a with|none=>rfl|some acc'=>rw[hg] at hx;exact ih (i+1) m _ h2 ω ω (hi a acc acc' hI hg) hx);exact this l 0 m x rfl ω hm h0 rfl
end
end Go.Sym
namespace Go.Proofs.YtoeigdpfcnaaeaaGreat
open Go.Sym Bnd
set_option maxRecDepth 100000
def pU:∀(xs:List Int) (l:List Bool),qo l xs=foldO (λl x=>if 0<=x/\ x<l.length/\ l[x.toNat]?=some false then some (l.set x.toNat true) else none) l xs|[],l=>rfl|x::xs,l=>by unfold qo foldO;by_cases h:0<=x/\ x<l.length/\ l[x.toNat]?=some false;rw[ad h,ad h];exact pU xs _;rw[ac h,ac h]
def O1 {l:List Bool}{i:Nat}(h:i<l.length):RF.ev (.set 0) [sl B1 l,.v (.int .i64 (i:Int)),.v (.bool true)]=some (sl B1 (l.set i true)):=by rw[sV,ad ω,aH,a8,ah h];exact be (λx=>some (PV.sl x)) (ly (f:=B1) (l:=l) (i:=i) (a:=true)).symm
def ixM {i n:Nat}(h:i<n):RF.ev .ix [.v (.int .i64 (i:Int)),.v (.int .i64 (n:Int))]=some (.i64 (i:Int)):=by rw[ahQ,ad ω]
def tL {x:Int}(h:0<=x):∃n:Nat,x=(n:Int):=⟨x.toNat,ω⟩
def bbE (a b:Bool):RF.ev (.bbin .eql) [.v (.bool a),.v (.bool b)]=some (.v (.bool (a==b))):=rfl
open Classical in def akY (s:Slots)(hf:s.f.length<=1000):Ans D 315 [SL s] [.i64 (okE (decide s.okR))]:=by refine an ⟨1001,?_⟩;unfold af1;simp only[az,kY,kZ,mS,k8,EV,ai,aa,aF,aj];(have no:∀h:¬s.okR,(some [PV.v (.int .i64 8)]:Option (List PV))=some [.i64 (okE (decide s.okR))]:=λh=>by rw[ak h];rfl);by_cases h1:s.u.length<1;rw[ad ω];exact no (λh=>by have:=h.1;omega);rw[ac ω];by_cases h2:200<s.u.length;rw[ad ω];exact no (λh=>by have:=h.2.1;omega);rw[ac ω];by_cases h3:s.v.length=s.u.length;rw[ac ω];by_cases h4:s.u.length<s.f.length;rw[ad ω];exact no (λh=>by have:=h.2.2.2.1;omega);rw[ac ω];(have hrep:RF.ev (.rep [.v (.bool false)] 1) [.v (.int .i64 (s.u.length:Int)),.v (.int .i64 (s.u.length:Int))]=some (sl B1 (List.replicate s.u.length false)):=by rw[Q5,ad ⟨ω,ω,ω,ω⟩,aH];show _=some (PV.sl ((List.replicate s.u.length false).map B1));rw[sf];rfl);simp only[hrep,rU,Mz,Q7,az,EV,ai,aO];refine(xP (l:=s.f) (g:=λl x=>if 0<=x/\ x<l.length/\ l[x.toNat]?=some false then some (l.set x.toNat true) else none) (I:=λl=>l.length=s.u.length) (S:=λl i=>[sl B1 l,.i64 (i:Int)]) (r:=some [.i64 8]) (fin:=λ_=>some [.i64 (okE (decide s.okR))]) (x:=List.replicate s.u.length false) (by simp) (λa acc acc' hI hg=>?_) (λi x acc self hx hI=>?_) (λacc self hI hm=>?_) ω).trans ?_;split at hg;cases hg;simpa using hI;cases hg;unfold KX;have hi:=aL hx;simp only[az,k8,aV hx (cx _),aN hx,cw,EV,ai,aa,bx hi];by_cases c1:x<0;rw[ad c1,ac ω];rw[ac c1];by_cases c2:(s.u.length:Int)<=x;rw[ad c2,ac (by rw[hI];omega)];rw[ac c2];obtain⟨n,rfl⟩:=tL (show 0<=x from ω);obtain⟨b,hb⟩:∃b,acc[n]?=some b:=⟨acc[n]' ω,ah _⟩;simp only[az,k8,aV hx (cx _),aN hx,cw,ixM (show n<s.u.length from ω),aN hb,vR,O1 (show n<acc.length from ω),EV,up1 (show i<1000000000 from ω)];(cases b with|true=>rw[ad rfl,ac (by rw[aH,hb];simp)]|false=>rw[ac (by simp),ad ⟨ω,ω,by rw[aH];exact hb⟩,aH]);unfold KX;simp only[az,k8,EV,ai,aa,bJ,Ul];rw[<-pU] at hm;have hlist:(List.range s.u.length).length=s.u.length:=od;refine(fZ (n:=s.u.length) (P:=λi=>∀(u:Int) (b c:Bool),s.u[i]?=some u->s.v[i]?=some b->acc[i]?=some c->0<=u/\ u<=1000000/\ b≠c/\¬(b=true/\ u<1)) (st:=λi=>[.i64 (i:Int)]) (r:=some [.i64 8]) (fin:=some [.i64 0]) (λi self hi _=>?_) (λ_ self=>?_) ω).trans ?_;obtain⟨u,hu⟩:∃u,s.u[i]?=some u:=⟨s.u[i],ah _⟩;obtain⟨b,hb⟩:∃b,s.v[i]?=some b:=⟨s.v[i]' ω,ah _⟩;obtain⟨c,hc⟩:∃c,acc[i]?=some c:=⟨acc[i]' ω,ah _⟩;have hP:(∀(u':Int) (b' c':Bool),s.u[i]?=some u'->s.v[i]?=some b'->acc[i]?=some c'->0<=u'/\ u'<=1000000/\ b'≠c'/\¬(b'=true/\ u'<1))↔(0<=u/\ u<=1000000/\ b≠c/\¬(b=true/\ u<1)):=⟨λh=>h u b c hu hb hc,λh u' b' c' h1 h2 h3=>by rw[hu] at h1;rw[hb] at h2;rw[hc] at h3;cases h1;cases h2;cases h3;exact h⟩;unfold KW;simp only[hP,az,kZ,mS,aV hu (cx _),aN hu,cw,aV hb (tI _),aN hb,vR,ixM hi,aN hc,bbE,EV,aa,bx hi,Uk,up1 (show i<1000000000 from ω)];by_cases c1:u<0;simp only[ad c1,df,aA];rw[ac (λh=>ω)];simp only[ac c1];by_cases c2:1000000<u;simp only[ad c2,df,aA];rw[ac (λh=>ω)];simp only[ac c2];cases b<;>cases c<;>simp only[gD,au,aA,aw,df,ne_eq,dt,gk,iS,ez,eC,iE,aa,show(true==false)=false from rfl,show(false==true)=false from rfl,reduceCtorEq];rw[ad ω];by_cases c3:u<1;rw[ad c3,ac (λh=>ω)];rw[ac c3,ad ω];unfold KW;simp only[EV,aa,bJ,Uj];(have:(∀i,i<s.u.length->∀(u:Int) (b c:Bool),s.u[i]?=some u->s.v[i]?=some b->acc[i]?=some c->0<=u/\ u<=1000000/\ b≠c/\¬(b=true/\ u<1))↔s.okR:=by unfold Slots.okR;constructor;intro h;exact⟨ω,ω,h3,ω,acc,hm,λi u b c hu hb hc=>h i (aL hu) u b c hu hb hc⟩;rintro⟨_,_,_,_,l,hl,h⟩ i hi u b c hu hb hc;rw[hm] at hl;cases hl;exact h i u b c hu hb hc);by_cases hr:s.okR;rw[ad (this.2 hr),aq hr];rfl;rw[ac (λh=>hr (this.1 h)),ak hr];rfl;rw[<-pU];(cases hm:qo (List.replicate s.u.length false) s.f with|some l=>rfl|none=>exact no (λh=>by have⟨_,_,_,_,l,hl,_⟩:=h;rw[hm] at hl;cases hl));rw[ad ω];exact no (λh=>h3 h.2.2.1)
def evLess (x y:Evt):Bool:=decide (sgn (crs x.time y.time)<0)||(decide (sgn (crs x.time y.time)=0)&& decide (x.n<y.n))
def iM (e:Evt):RF.ev (.shape 5) [EP e]=some (EP e):=rfl
def pEP (e:Evt):RF.ev (.part 0 2) [EP e]=some (R e.time):=rfl
def xQ (e:Evt):RF.ev (.cell 2) [EP e]=some (.i64 e.n):=rfl
def acv {x y:Evt}(hx:aS x.time)(hy:aS y.time):Ans D 317 [EP x,EP y] [.bool (evLess x y)]:=by refine am ?_;unfold af3 evLess;simp[iM,pEP,xQ,EV,phi (akB hx hy),Un];grind
def HD (h:Hnd):PV:= .agg [.i64 h.i,.i64 h.use]
def qF (h:Hnd):RF.ev (.shape 2) [HD h]=some (HD h):=rfl
def tM (h:Hnd):RF.ev (.cell 0) [HD h]=some (.i64 h.i):=rfl
def Wn (h:Hnd):RF.ev (.cell 1) [HD h]=some (.i64 h.use):=rfl
def YV (e:Evt):cM 3 2 (b7 e)=some (HD e.h):=rfl
def YW (e:Evt):cM 3 0 (b7 e)=some (.i64 e.h.i):=rfl
def aiI (e:Evt):cM 2 0 (b7 e)=some (.i64 e.n):=rfl
def iN (s:Slots)(h:Hnd):Prop:=0<=h.i/\ s.v[h.i.toNat]?=some true/\ s.u[h.i.toNat]?=some h.use
open Classical in def Wo {s:Slots}(hs:s.v.length=s.u.length)(h:Hnd):Ans D 319 [SL s,HD h] [.bool (decide (iN s h))]:=by refine am ?_;unfold af5;simp only[az,kY,qF,tM,Wn,kZ,mS,EV,ai,aa,Uo,bF];by_cases h1:0<=h.i;rw[ad h1];have⟨n,hn⟩:=tL h1;have⟨ix,us⟩:=h;simp only at hn;subst hn;by_cases h2:n<s.u.length;obtain⟨u,hu⟩:∃u,s.u[n]?=some u:=⟨s.u[n],ah _⟩;obtain⟨b,hb⟩:∃b,s.v[n]?=some b:=⟨s.v[n]' ω,ah _⟩;simp only[bx h2,az,tM,Wn,kZ,mS,aV hu (cx _),aN hu,cw,aV hb (tI _),aN hb,vR,EV];(have:decide (iN s ⟨(n:Int),us⟩)=(b&& decide (u=us)):=by rw[eu];simp[iN,hu,hb]);grind;rw[ac (show¬((n:Int)<(s.u.length:Int)) from ω),ak (λhh=>by have h3:=(aD.1 hh.2.2).1;exact h2 h3)];rw[ac h1,ak (λhh=>h1 hh.1)]
def rM (a:Agenda):Prop:=a.w.length=a.s.u.length/\ a.heap.length+a.s.f.length=a.s.u.length/\∀(i:Nat) (b:Bool) (w u:Int),a.s.v[i]?=some b->a.w[i]?=some w->a.s.u[i]?=some u->if b=true then 0<=w/\∃e,a.heap[w.toNat]?=some e/\ e.h=⟨i,u⟩ else w= -1
open Classical in def akZ {a:Agenda}(hs:a.s.v.length=a.s.u.length)(hl:a.s.u.length<=1000)(hf:a.s.f.length<=1000):Ans D 316 [AG a] [.bool (decide (rM a))]:=by have cAG0:RF.ev (.cell 0) [AG a]=some (sl I1 a.s.u):=rfl;have cAG1:RF.ev (.cell 1) [AG a]=some (sl B1 a.s.v):=rfl;have cAG2:RF.ev (.cell 2) [AG a]=some (sl I1 a.s.f):=rfl;refine an ⟨1001,?_⟩;unfold af2;simp only[az,i9,cAG0,cAG2,fA,kF,EV,ai,aa,aF,aj,cg (show-9223372036854775808<=(a.s.u.length:Int)-(a.s.f.length:Int) from ω) ω];by_cases h1:a.w.length=a.s.u.length;rw[ac ω];by_cases h2:a.heap.length+a.s.f.length=a.s.u.length;rw[ac ω];refine(fZ (n:=a.s.u.length) (P:=λi=>∀(b:Bool) (w u:Int),a.s.v[i]?=some b->a.w[i]?=some w->a.s.u[i]?=some u->if b=true then 0<=w/\∃e,a.heap[w.toNat]?=some e/\ e.h=⟨i,u⟩ else w= -1) (st:=λi=>[.i64 (i:Int)]) (r:=some [.bool false]) (fin:=some [.bool true]) (λi self hi _=>?_) (λ_ self=>?_) ω).trans ?_;obtain⟨u,hu⟩:∃u,a.s.u[i]?=some u:=⟨a.s.u[i],ah _⟩;obtain⟨b,hb⟩:∃b,a.s.v[i]?=some b:=⟨a.s.v[i]' ω,ah _⟩;obtain⟨w,hw⟩:∃w,a.w[i]?=some w:=⟨a.w[i]' ω,ah _⟩;have hP:(∀(b':Bool) (w' u':Int),a.s.v[i]?=some b'->a.w[i]?=some w'->a.s.u[i]?=some u'->if b'=true then 0<=w'/\∃e,a.heap[w'.toNat]?=some e/\ e.h=⟨i,u'⟩ else w'= -1)↔(if b=true then 0<=w/\∃e,a.heap[w.toNat]?=some e/\ e.h=⟨i,u⟩ else w= -1):=⟨λh=>h b w u hb hw hu,λh b' w' u' h1 h2 h3=>by rw[hu] at h3;rw[hb] at h1;rw[hw] at h2;cases h1;cases h2;cases h3;exact h⟩;unfold KZ;simp only[hP,az,cAG1,fA,kF,pAG,aV hb (tI _),aN hb,vR,aV hw (cx _),aN hw,cw,EV,ai,aa,bx hi,KY,up1 (show i<1000000000 from ω),aF,aj];(cases b with|false=>simp only[au,aw,df,aA];by_cases c1:w= -1;rw[ac (by simp[c1]),ad c1];rw[ad c1,ac c1]|true=>simp only[sa,aw,df,aA];by_cases c1:w<0;rw[ad c1,ac (λh=>ω)];rw[ac c1];obtain⟨n,rfl⟩:=tL (show 0<=w from ω);by_cases c2:n<a.heap.length;obtain⟨e,he⟩:∃e,a.heap[n]?=some e:=⟨a.heap[n],ah _⟩;rw[ac ω];simp only[az,fA,pAG,aV he (kD _),aN he,YW,YV,phi (Wo hs _),EV,aF,aj,aH,he,bW,exists_eq_left',KY,up1 (show i<1000000000 from ω)];by_cases c3:e.h.i=(i:Int);rw[ac (by simp[c3])];(have hlive:iN a.s e.h↔e.h=⟨i,u⟩:=by unfold iN;rw[c3,aH,hb,hu];generalize e.h=q at c3|-;have⟨x,y⟩:=q;simp only at c3;subst c3;simp only[bW,Hnd.mk.injEq,eC];exact⟨λh=>h.2.symm,λh=>⟨ω,h.symm⟩⟩);by_cases c4:e.h=⟨i,u⟩;rw[ac (by simp[hlive.2 c4]),ad ⟨ω,c4⟩];rw[ad (λh=>c4 (hlive.1 h)),ac (λh=>c4 h.2)];rw[ad c3,ac (λh=>c3 (by rw[h.2]))];rw[ad ω,ac (λh=>by have⟨_,e,he,_⟩:=h;rw[aH] at he;exact c2 (aL he))]);unfold KZ;simp only[EV,aa,bJ,Um];have:(∀i,i<a.s.u.length->∀(b:Bool) (w u:Int),a.s.v[i]?=some b->a.w[i]?=some w->a.s.u[i]?=some u->if b=true then 0<=w/\∃e,a.heap[w.toNat]?=some e/\ e.h=⟨i,u⟩ else w= -1)↔rM a:=⟨λh=>⟨h1,h2,λi b w u hb hw hu=>h i (aL hu) b w u hb hw hu⟩,λh i _=>h.2.2 i⟩;by_cases hr:rM a;rw[ad (this.2 hr),aq hr];rw[ac (λh=>hr (this.1 h)),ak hr];rw[ad ω,ak (λh=>h2 h.2.1)];rw[ad ω,ak (λh=>h1 h.1)]
def nX (e:Evt):Prop:=rok e.time=true/\ 0<=e.n/\ e.n<=1000000
def ee (a:Agenda):Prop:=a.s.okR/\ rM a/\(∀e∈a.heap,nX e)/\(a.heap.map (·.n)).Nodup/\∀(i:Nat) (e p:Evt),a.heap[i+1]?=some e->a.heap[i/2]?=some p->evLess e p=false
def O2 {i:Nat}(h:i<1000000):dA .quo .i64 (IntKind.i64.wrap (((i+1:Nat):Int)-1)) .i64 2=some (.v (.int .i64 ((i/2:Nat):Int))):=by rw[xG ω,HZ,ac (by decide),ji ω,cg ω ω];rfl
open Classical in def Wp {a:Agenda}(hl:a.heap.length<=1000)(hf:a.s.f.length<=1000)(h64:∀e∈a.heap,aS e.time):Ans D 228 [AG a] [.i64 (okE (decide (ee a)))]:=by refine an ⟨1001,?_⟩;unfold afi;(have no:∀h:¬ee a,(some [PV.v (.int .i64 8)]:Option (List PV))=some [.i64 (okE (decide (ee a)))]:=λh=>by rw[ak h];rfl);simp only[az,i9,pAG,EV,phi (akY a.s hf),rK,aa];by_cases h1:a.s.okR;have h1':=h1;have⟨g1,g2,g3,g4,_⟩:=h1';rw[ad h1];simp only[EV,phi (akZ g3 ω hf),aF,aj];by_cases h2:rM a;rw[ac (by simp[h2])];refine(fZ (n:=a.heap.length) (P:=λi=>∀e,a.heap[i]?=some e->nX e/\∀k,k<i->∀e',a.heap[k]?=some e'->e'.n≠e.n) (st:=λi=>[.i64 (i:Int)]) (r:=some [.i64 8]) (fin:=some [.i64 (okE (decide (∀(i:Nat) (e p:Evt),a.heap[i+1]?=some e->a.heap[i/2]?=some p->evLess e p=false)))]) (λi self hi _=>?_) (λ_ self=>?_) ω).trans ?_;obtain⟨e,he⟩:∃e,a.heap[i]?=some e:=⟨a.heap[i],ah _⟩;have hP:(∀e',a.heap[i]?=some e'->nX e'/\∀k,k<i->∀x,a.heap[k]?=some x->x.n≠e'.n)↔(nX e/\∀k,k<i->∀x,a.heap[k]?=some x->x.n≠e.n):=⟨λh=>h e he,λh e' h1=>by rw[he] at h1;cases h1;exact h⟩;unfold Ka;simp only[hP,az,fA,aV he (kD _),aN he,hZ,pEP,xQ,phi (OK (h64 e (ax he))),rK,EV,ai,aa,bx hi];(cases c1:rok e.time with|false=>simp only[au,aw];rw[ac (λh=>by rw[h.1.1] at c1;cases c1)]|true=>simp only[aA];by_cases c2:e.n<0;rw[ad c2,ac (λh=>by have:=h.1.2;omega)];rw[ac c2];by_cases c3:1000000<e.n;rw[ad c3,ac (λh=>by have:=h.1.2;omega)];rw[ac c3];refine(fZ (n:=i) (P:=λk=>∀x,a.heap[k]?=some x->x.n≠e.n) (st:=λi=>[.i64 (i:Int)]) (r:=some [.i64 8]) (fin:=self [.i64 ((i+1:Nat):Int)]) (λk self' hk _=>?_) (λ_ self'=>?_) ω).trans ?_;obtain⟨x,hx⟩:∃x,a.heap[k]?=some x:=⟨a.heap[k]' ω,ah _⟩;have hQ:(∀y,a.heap[k]?=some y->y.n≠e.n)↔x.n≠e.n:=⟨λh=>h x hx,λh y hy=>by rw[hx] at hy;cases hy;exact h⟩;unfold J9;simp only[hQ,az,fA,aV hx (kD _),aN hx,aiI,xQ,EV,aa,bx hk,up1 (show k<1000000000 from ω)];by_cases c4:x.n=e.n;rw[ad c4,ac (by simp[c4])];rw[ac c4,ad c4];unfold J9;simp only[EV,aa,bJ,TH,up1 (show i<1000000000 from ω)];by_cases c5:∀k,k<i->∀x,a.heap[k]?=some x->x.n≠e.n;rw[ad c5,ad ⟨⟨c1,ω,ω⟩,c5⟩];rw[ac c5,ac (λh=>c5 h.2)]);unfold Ka;simp only[az,fA,EV,ai,aa,bJ,TG];refine(fZ (n:=a.heap.length-1) (P:=λi=>∀e p,a.heap[i+1]?=some e->a.heap[i/2]?=some p->evLess e p=false) (st:=λi=>[.i64 ((i+1:Nat):Int)]) (r:=some [.i64 8]) (fin:=some [.i64 0]) (λi self hi _=>?_) (λ_ self=>?_) ω).trans ?_;obtain⟨e,he⟩:∃e,a.heap[i+1]?=some e:=⟨a.heap[i+1],ah _⟩;obtain⟨p,hp⟩:∃p,a.heap[i/2]?=some p:=⟨a.heap[i/2]' ω,ah _⟩;have hQ:(∀e' p',a.heap[i+1]?=some e'->a.heap[i/2]?=some p'->evLess e' p'=false)↔evLess e p=false:=⟨λh=>h e p he hp,λh e' p' h1 h2=>by rw[he] at h1;rw[hp] at h2;cases h1;cases h2;exact h⟩;unfold J8;simp only[hQ,az,fA,aV he (kD _),aN he,hZ,aV hp (kD _),aN hp,O2 (show i<1000000 from ω),phi (acv (h64 e (ax he)) (h64 p (ax hp))),ju,EV,ai,aa,bx (aL he),up1 (show i+1<1000000000 from ω)];cases evLess e p<;>simp;unfold J8;simp only[az,fA,EV,ai,aa,TF];rw[ac ω];have:(∀i,i<a.heap.length-1->∀e p,a.heap[i+1]?=some e->a.heap[i/2]?=some p->evLess e p=false)↔∀(i:Nat) (e p:Evt),a.heap[i+1]?=some e->a.heap[i/2]?=some p->evLess e p=false:=⟨λh i e p he hp=>h i (by have:=aL he;omega) e p he hp,λh i _=>h i⟩;by_cases hr:∀(i:Nat) (e p:Evt),a.heap[i+1]?=some e->a.heap[i/2]?=some p->evLess e p=false;rw[ad (this.2 hr),aq hr];rfl;rw[ac (λh=>hr (this.1 h)),ak hr];rfl;(have:(∀i,i<a.heap.length->∀e,a.heap[i]?=some e->nX e/\∀k,k<i->∀e',a.heap[k]?=some e'->e'.n≠e.n)↔((∀e∈a.heap,nX e)/\(a.heap.map (·.n)).Nodup):=by rw[qX];constructor;intro h;refine⟨λe he=>?_,λi j x hj hi hjx=>?_⟩;have⟨i,hi⟩:=aG.1 he;exact(h i (aL hi) e hi).1;rw[a8,bT] at hi hjx;obtain⟨e,he,rfl⟩:=hi;have⟨e',he',h'⟩:=hjx;exact(h i (aL he) e he).2 j hj e' he' h';rintro⟨h3,h4⟩ i hi e he;refine⟨h3 e (ax he),λk hk e' he' hn=>?_⟩;exact h4 i k e.n hk (by rw[a8,he];rfl) (by rw[a8,he',cz,hn]));by_cases hr:(∀e∈a.heap,nX e)/\(a.heap.map (·.n)).Nodup;rw[ad (this.2 hr)];congr 4;rw[c9];exact⟨λh=>⟨h1,h2,hr.1,hr.2,h⟩,λh=>h.2.2.2.2⟩;rw[ac (λh=>hr (this.1 h))];exact no (λh=>hr ⟨h.2.2.1,h.2.2.2.1⟩);rw[ad h2];exact no (λh=>h2 h.2.1);rw[ac h1];exact no (λh=>h1 h.1)
def Crt.ok (c:Crt):Prop:=0<=c.j/\ c.j<=65535/\ 0<=c.h/\ c.h<=65535/\ c.j≠c.h
instance (c:Crt):Decidable c.ok:=by unfold Crt.ok;infer_instance
def acw (c:Crt):Ans D 314 [CP c] [.bool (decide c.ok)]:=by refine am ?_;unfold af0 Crt.ok;simp[mi,mj,ml,EV,Ui];by_cases h1:0<=c.j<;>by_cases h2:c.j<=65535<;>by_cases h3:0<=c.h<;>by_cases h4:c.h<=65535<;>simp[h1,h2,h3,h4]
def Wq (c:Crt):Ans D 323 [CP c] [.bool (decide c.ok)]:=by have m1:RF.ev (.mm false) [.i64 c.j,.i64 c.h]=some (.i64 (min c.j c.h)):=rfl;have m2:RF.ev (.mm true) [.i64 c.j,.i64 c.h]=some (.i64 (max c.j c.h)):=rfl;refine am ?_;unfold af9 Crt.ok;simp[mi,mj,ml,m1,m2,EV,Ur];by_cases h1:0<=c.j<;>by_cases h2:c.j<=65535<;>by_cases h3:0<=c.h<;>by_cases h4:c.h<=65535<;>simp[h1,h2,h3,h4,Int.le_min,Int.max_le]
def dC (c:Certs):Prop:=c.l.length<=200/\ 0<=c.next/\ c.next<=1000000/\∀(i:Nat) (h:Held),c.l[i]?=some h->h.c.ok/\ 0<=h.n/\ h.n<c.next/\(∀g,0<i->c.l[i-1]?=some g->g.n<h.n)/\∀k,k<i->∀g,c.l[k]?=some g->g.c≠h.c
open Classical in def acx (c:Certs):Ans D 226 [CS c] [.i64 (okE (decide (dC c)))]:=by refine an ⟨1001,?_⟩;unfold afg;(have no:∀h:¬dC c,(some [PV.v (.int .i64 8)]:Option (List PV))=some [.i64 (okE (decide (dC c)))]:=λh=>by rw[ak h];rfl);simp only[az,lK,oJ,gz,EV,ai,aa];by_cases h1:200<c.l.length;rw[ad ω];exact no (λh=>by have:=h.1;omega);rw[ac ω];by_cases h2:c.next<0;rw[ad h2];exact no (λh=>by have:=h.2.1;omega);rw[ac h2];by_cases h3:1000000<c.next;rw[ad h3];exact no (λh=>by have:=h.2.2.1;omega);rw[ac h3];refine(fZ (n:=c.l.length) (P:=λi=>∀h,c.l[i]?=some h->h.c.ok/\ 0<=h.n/\ h.n<c.next/\(∀g,0<i->c.l[i-1]?=some g->g.n<h.n)/\∀k,k<i->∀g,c.l[k]?=some g->g.c≠h.c) (st:=λi=>[.i64 (i:Int)]) (r:=some [.i64 8]) (fin:=some [.i64 0]) (λi self hi _=>?_) (λ_ self=>?_) ω).trans ?_;obtain⟨h,hh⟩:∃h,c.l[i]?=some h:=⟨c.l[i],ah _⟩;have hP:(∀h',c.l[i]?=some h'->h'.c.ok/\ 0<=h'.n/\ h'.n<c.next/\(∀g,0<i->c.l[i-1]?=some g->g.n<h'.n)/\∀k,k<i->∀g,c.l[k]?=some g->g.c≠h'.c)↔(h.c.ok/\ 0<=h.n/\ h.n<c.next/\(∀g,0<i->c.l[i-1]?=some g->g.n<h.n)/\∀k,k<i->∀g,c.l[k]?=some g->g.c≠h.c):=⟨λx=>x h hh,λx h' e=>by rw[hh] at e;cases e;exact x⟩;(have inner:∀(f:JT) (e0 e2 e3 e4 e5 e6 e7 e8 e10 e11 e12 e13 e14 e16 e17 e18 e19 e20:PV),den (bm D) 1001 ug [f,self] [e0,CS c,e2,e3,e4,e5,e6,e7,e8,.i64 (i:Int),e10,e11,e12,e13,e14,HP h,e16,e17,e18,e19,e20,.v (.bool false)]=if(∀k,k<i->∀g,c.l[k]?=some g->g.c≠h.c) then self [.i64 ((i+1:Nat):Int)] else some [.i64 8]:=λf e0 e2 e3 e4 e5 e6 e7 e8 e10 e11 e12 e13 e14 e16 e17 e18 e19 e20=>by unfold ug;simp only[EV,au,aw];refine(fZ (m:=1001) (n:=i) (P:=λk=>∀g,c.l[k]?=some g->g.c≠h.c) (st:=λi=>[.i64 (i:Int)]) (r:=some [.i64 8]) (fin:=self [.i64 ((i+1:Nat):Int)]) (λk self' hk _=>?_) (λ_ self'=>?_) ω).trans ?_;obtain⟨g,hg⟩:∃g,c.l[k]?=some g:=⟨c.l[k]' ω,ah _⟩;have hQ:(∀y,c.l[k]?=some y->y.c≠h.c)↔g.c≠h.c:=⟨λx=>x g hg,λx y hy=>by rw[hg] at hy;cases hy;exact x⟩;unfold J5;simp only[hQ,az,gz,aV hg (gO _),aN hg,OX,pHP,Cr,EV,aa,bx hk,up1 (show k<1000000000 from ω)];by_cases c4:g.c=h.c;rw[ad c4,ac (by simp[c4])];rw[ac c4,ad c4];unfold J5;simp only[EV,aa,bJ,TD,up1 (show i<1000000000 from ω)];by_cases hq:∀k,k<i->∀g,c.l[k]?=some g->g.c≠h.c;rw[ad hq,ad hq];rw[ac hq,ac hq]);unfold J6;simp only[hP,az,oJ,gz,aV hh (gO _),aN hh,lI,pHP,kW,phi (acw _),EV,ai,aa,bx hi,aF,aj,bF,cS];by_cases c1:h.c.ok;rw[ac (md c1)];by_cases c2:h.n<0;rw[ad c2,ac (λx=>by have:=x.2.1;omega)];unfold ug;simp only[EV,df,aA];rw[ac c2];by_cases c3:c.next<=h.n;rw[ad c3,ac (λx=>by have:=x.2.2.1;omega)];unfold ug;simp only[EV,df,aA];rw[ac c3];(cases i with|zero=>rw[ac ω];refine(inner ..).trans ?_;rw[ad (λk hk=>ω),ad ⟨c1,ω,ω,λg h0=>ω,λk hk=>ω⟩]|succ j=>obtain⟨g,hg⟩:∃g,c.l[j]?=some g:=⟨c.l[j]' ω,ah _⟩;rw[ad ω];simp only[az,kW,xG (show j<1000000000 from ω),aV hg (gO _),aN hg,aiF,EV,bF];by_cases c4:h.n<=g.n;rw[aq c4,ac (λx=>by have:=x.2.2.2.1 g ω (by simpa using hg);omega)];unfold ug;simp only[EV,df,aA];rw[ak c4];refine(inner ..).trans ?_;by_cases c5:∀k,k<j+1->∀g,c.l[k]?=some g->g.c≠h.c;rw[ad c5,ad ⟨c1,ω,ω,λg' _ hg'=>by rw[show j+1-1=j from ω,hg] at hg';cases hg';omega,c5⟩];rw[ac c5,ac (λx=>c5 x.2.2.2.2)]);rw[ad c1,ac (λx=>c1 x.1)];unfold ug;simp only[EV,df,aA];unfold J6;simp only[az,gz,EV,ai,aa,bJ,TC];have:(∀i,i<c.l.length->∀h,c.l[i]?=some h->h.c.ok/\ 0<=h.n/\ h.n<c.next/\(∀g,0<i->c.l[i-1]?=some g->g.n<h.n)/\∀k,k<i->∀g,c.l[k]?=some g->g.c≠h.c)↔dC c:=⟨λh=>⟨ω,ω,ω,λi x hx=>h i (aL hx) x hx⟩,λh i _=>h.2.2.2 i⟩;by_cases hr:dC c;rw[ad (this.2 hr),aq hr];rfl;rw[ac (λh=>hr (this.1 h)),ak hr];rfl
end Go.Proofs.YtoeigdpfcnaaeaaGreat
