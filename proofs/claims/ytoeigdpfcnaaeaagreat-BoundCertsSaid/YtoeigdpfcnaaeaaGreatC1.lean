import Derived.Test.YtoeigdpfcnaaeaaGreatM3
import Derived.Test.YtoeigdpfcnaaeaaGreatP1
import Derived.Test.YtoeigdpfcnaaeaaGreatBcT
import Derived.Test.YtoeigdpfcnaaeaaGreatN1
import Derived.IntWalk
set_option linter.unusedVariables false
set_option linter.unusedSimpArgs false
set_option linter.defProp false
noncomputable section
namespace Go.Sym
open Go.Sym
section
variable {Φ:PhT}{N:Nat}{b:K}{J:List JT}{e:Γ}
def fA {n:Nat}{st:Nat->Γ}{fin:Option Γ}(hs:∀i self,i<n->den Φ N b (J++[self]) (e++st i)=self (st (i+1))) (hf:∀self,den Φ N b (J++[self]) (e++st n)=fin):∀m,n<m->dA Φ N b J e m (st 0)=fin:=by (have:∀d i m,i+d=n->d<m->dA Φ N b J e m (st i)=fin:=by intro d;induction d with|zero=>intro i m h hm;obtain⟨m,rfl⟩:=ψ m;rw[bm,show i=n from ω];exact hf _|succ d ih=>intro i m h hm;obtain⟨m,rfl⟩:=ψ m;rw[bm,hs i _ ω];grind);grind
def abB {n:Nat}{st:Nat->Γ}{P:Ξ}{fin r:Option Γ}(hs:∀i self,i<n->(∀j,j<i->P j)->P i->den Φ N b (J++[self]) (e++st i)=self (st (i+1))) (hr:∀i self,i<n->(∀j,j<i->P j)->¬P i->den Φ N b (J++[self]) (e++st i)=r) (hf:(∀j,j<n->P j)->∀self,den Φ N b (J++[self]) (e++st n)=fin) {m:Nat} (hm:n<m):((∀j,j<n->P j)->dA Φ N b J e m (st 0)=fin)/\((¬∀j,j<n->P j)->dA Φ N b J e m (st 0)=r):=by (have:∀d i m,i+d=n->d<m->(∀j,j<i->P j)->((∀j,j<n->P j)->dA Φ N b J e m (st i)=fin)/\((¬∀j,j<n->P j)->dA Φ N b J e m (st i)=r):=by intro d;induction d with|zero=>intro i m h hm hp;obtain⟨m,rfl⟩:=ψ m;(have hin:i=n:=ω);subst hin;refine⟨λh=>?_,λh=>absurd hp h⟩;rw[bm];exact hf h _|succ d ih=>intro i m h hm hp;obtain⟨m,rfl⟩:=ψ m;rw[bm];by_cases hi:P i;grind;grind);grind
open Classical in def gy {n:Nat}{st:Nat->List PV}{P:Nat->Prop}{fin r:Option (List PV)}(hs:∀i self,i<n->(∀j,j<i->P j)->den Φ N b (J++[self]) (e++st i)=if P i then self (st (i+1)) else r) (hf:(∀j,j<n->P j)->∀self,den Φ N b (J++[self]) (e++st n)=fin) {m:Nat} (hm:n<m):dA Φ N b J e m (st 0)=if(∀j,j<n->P j) then fin else r:=by have:=abB (n:=n) (st:=st) (P:=P) (fin:=fin) (r:=r) (λi self h1 h2 h3=>by rw[hs i self h1 h2,ad h3]) (λi self h1 h2 h3=>by rw[hs i self h1 h2,ac h3]) hf hm;grind
end
end Go.Sym
namespace Go.Proofs.YtoeigdpfcnaaeaaGreat
open Go.Sym Bnd
set_option maxRecDepth 100000
def U (n:Nat):PV:= .v (.int .u64 (n:Int))
def phi {g:FuncId}{vs rs:Γ}(h:Ans D g vs rs):bo D g vs=some rs:=ai0 h
def F6 {n:Int}(h:I64 n):Ans D 166 [.i64 n] [U n.natAbs]:=by have⟨h1,h2⟩:=h;refine am ?_;unfold agd;simp[EV];by_cases hn:n<0;rw[ad hn,ny,ny];congr 4;omega;rw[ac hn,ny];congr 4;omega
def IS {n:Int}(h:I64 n):Ans D 75 [.i64 n] [U n.natAbs]:=by have⟨h1,h2⟩:=h;refine am ?_;unfold afp;simp[EV];by_cases hn:n<0;rw[ad hn,ny,ny,IntKind.wrap_i64,IntKind.wrap_i64];congr 4;omega;rw[ac hn,ny];congr 4;omega
def IT {Φ:PhT}{N:Nat}{f:JT}{p q:PV}:∀(n a b:Nat),b<n->dA Φ N ER [f] [p,q] n [U b,U a]=f [U (Nat.gcd b a)]|0,a,b,h=>ω|n+1,a,b,h=>by rw[bm];unfold ER U;simp[EV,II];by_cases hb:0<b;rw[ad ω,ac ω];simp[EV];have:=IT (Φ:=Φ) (N:=N) (f:=f) (p:=p) (q:=q) n b (a% b) (by have:=zQ a hb;omega);unfold ER U at this;rw[<-Nat.gcd_rec b a] at this;rw[<-this];rfl;rw[ac ω];(have:b=0:=ω);subst this;rw[Nat.gcd_zero_left]
def ade (a b:Nat):Ans D 192 [U a,U b] [U (Nat.gcd b a)]:=by refine an ⟨b+1,?_⟩;unfold ago;simp[EV];rw[IT _ _ _ (iK b)];unfold Uf U;simp[EV]
def CB {Φ:PhT}{N:Nat}{f:JT}{p q:PV}:∀(n a b:Nat),b<n->dA Φ N EA [f] [p,q] n [U b,U a]=f [U (Nat.gcd b a)]|0,a,b,h=>ω|n+1,a,b,h=>by rw[bm];unfold EA U;simp only[EV,II,aE,aj];by_cases hb:0<b;rw[ad ω,ac ω];simp;have:=CB (Φ:=Φ) (N:=N) (f:=f) (p:=p) (q:=q) n b (a% b) (by have:=zQ a hb;omega);unfold EA U at this;rw[<-Nat.gcd_rec b a] at this;rw[<-this];rfl;rw[ac ω];(have:b=0:=ω);subst this;rw[Nat.gcd_zero_left]
def adf (a b:Nat):Ans D 74 [U a,U b] [U (Nat.gcd b a)]:=by refine an ⟨b+1,?_⟩;unfold afo;simp[EV];rw[CB _ _ _ (iK b)];unfold Tf U;simp[EV]
def okE (b:Bool):Int:=if b then 0 else 8
def Ok {d:Int}(h:0<=d)(k:d<=9223372036854775807):PV.v (.int .u64 (IntKind.u64.wrap d))=U d.natAbs:=by rw[ny];congr 2;omega
def c43 {r:Rt}(h:aR r):Ans D 95 [R r] [.i64 (okE (rok r))]:=by have⟨⟨n1,n2⟩,d1,d2⟩:=h;refine am ?_;unfold k43 R;simp only[EV,aa,az,bW,phi (F6 ⟨n1,n2⟩)];by_cases hd:r.den<1;rw[ad hd];unfold rok;rw[ak ω];rfl;rw[ac hd];by_cases hn:r.num= -9223372036854775808;rw[ad hn];unfold rok;rw[aq hn];simp[okE];rw[ac hn,Ok ω d2,phi (ade _ _)];simp only[EV,U,aa];have hg:0<Nat.gcd r.num.natAbs r.den.natAbs:=ii _ ω;unfold rok;by_cases h1:(Nat.gcd r.num.natAbs r.den.natAbs)=1;rw[ac ω,aq h1,aq (show 1<=r.den from ω),ak hn];rfl;rw[ad ω,ak h1,ya];rfl
def Xa {r:Rt}(h:aR r):Ans D 29 [R r] [.i64 (okE (rok r))]:=by have⟨⟨n1,n2⟩,d1,d2⟩:=h;refine am ?_;unfold aeK R;simp only[EV,aa,az,bW,phi (IS ⟨n1,n2⟩)];by_cases hd:r.den<1;rw[ad hd];unfold rok;rw[ak ω];rfl;rw[ac hd];by_cases hn:r.num= -9223372036854775808;rw[ad hn];unfold rok;rw[aq hn];simp[okE];rw[ac hn,Ok ω d2,phi (adf _ _)];simp only[EV,U,aE,aj];unfold rok;rw[BF];by_cases h1:(Nat.gcd r.num.natAbs r.den.natAbs)=1;rw[ac ω,aq h1,aq (show 1<=r.den from ω),ak hn];rfl;rw[ad ω,ak h1,ya];rfl
def Pw (r:Rt):Bool:=decide (r.num.natAbs<=1073741824)&& decide (r.den<=1024)
def d5 (r:Rt):Int:=if rok r then(if Pw r then 0 else 2) else 8
def c44 {r:Rt}(h:aR r):Ans D 72 [R r] [.i64 (d5 r)]:=by refine am ?_;unfold k44;have h0:=phi (c43 h);unfold R at h0|-;simp[EV,h0,phi (F6 h.1),U];unfold d5 okE;cases rok r with|false=>rfl|true=>unfold Pw;grind
def c64 {r:Rt}(h:aR r):Ans D 30 [R r] [.i64 (d5 r)]:=by refine am ?_;unfold k64;have h0:=phi (Xa h);unfold R at h0|-;simp[EV,h0];unfold d5 okE;cases rok r with|false=>rfl|true=>unfold Pw;grind
def PP (p:Pt):PV:= .agg (row p)
def alT (p:Pt):Ans D 73 [PP p] [.i64 (okE p.ok)]:=by refine am ?_;unfold afn PP row;simp[EV];unfold Pt.ok okE Nt;grind
def Px (p:Pt):Ans D 213 [PP p] [.i64 (okE p.ok)]:=by refine am ?_;unfold agt PP row;simp[EV,Uj,Uk];unfold Pt.ok okE Nt;grind
end Go.Proofs.YtoeigdpfcnaaeaaGreat
namespace Go.Sym
open Go.Sym
section
variable {Φ:PhT}{N:Nat}{b:K}{J:List JT}{e:Γ}{α β:Type}{l:List α}
def jz {i:Nat}{a:α}{k:List α}(h:l.drop i=a::k):l[i]?=some a/\ l.drop (i+1)=k:=by (have hi:i<l.length:=by rcases vD i l.length with g|g;exact g;rw[pe g] at h;cases h);rw[cA hi] at h;grind
def nE {i:Nat}{k:List α}(h:l.drop i=k)(hi:i<=l.length):i+k.length=l.length:=by grind
def ri {p:α->Bool}{st:Nat->Γ}{ret:Nat->Option Γ}{fin:Option Γ}(hs:∀i a self,l[i]?=some a->den Φ N b (J++[self]) (e++st i)=if p a=true then ret i else self (st (i+1))) (hf:∀self,den Φ N b (J++[self]) (e++st l.length)=fin) {m:Nat} (hm:l.length<m):dA Φ N b J e m (st 0)=(l.findIdx? p).elim fin ret:=by (have:∀(k:List α) i m,l.drop i=k->i<=l.length->k.length<m->dA Φ N b J e m (st i)=(k.findIdx? p).elim fin (λj=>ret (j+i)):=by intro k;induction k with|nil=>intro i m h hi hm;obtain⟨m,rfl⟩:=ψ m;have:=nE h hi;rw[bm,show i=l.length by simpa using this];exact hf _|cons a k ih=>intro i m h hi hm;obtain⟨m,rfl⟩:=ψ m;have⟨h1,h2⟩:=jz h;have:=nE h hi;rw[bm,hs i a _ h1,lg];simp only[aW] at hm this;cases hp:p a with|true=>simp|false=>rw[ih (i+1) m h2 ω ω];cases k.findIdx? p<;>simp[dG,nZ 1 i]);grind
def ct {p:α->Bool}{st:Nat->Γ}{fin r:Option Γ}(hs:∀i a self,l[i]?=some a->(l.take i).all p=true->den Φ N b (J++[self]) (e++st i)=if p a=true then self (st (i+1)) else r) (hf:l.all p=true->∀self,den Φ N b (J++[self]) (e++st l.length)=fin) {m:Nat} (hm:l.length<m):dA Φ N b J e m (st 0)=if l.all p=true then fin else r:=by (have:∀(k:List α) i m,l.drop i=k->i<=l.length->k.length<m->(l.take i).all p=true->dA Φ N b J e m (st i)=if k.all p=true then fin else r:=by intro k;induction k with|nil=>intro i m h hi hm ht;obtain⟨m,rfl⟩:=ψ m;have:=nE h hi;(have hil:i=l.length:=by simpa using this);rw[hil,eO] at ht;rw[bm,hil];exact hf ht _|cons a k ih=>intro i m h hi hm ht;obtain⟨m,rfl⟩:=ψ m;have⟨h1,h2⟩:=jz h;have:=nE h hi;rw[bm,hs i a _ h1 ht,dN];simp only[aW] at hm this;cases hp:p a with|false=>simp|true=>simp only[az,iu];refine ih (i+1) m h2 ω ω ?_;rw[cF,h1,qX,ht];simp[hp]);exact this l 0 m rfl ω hm (by simp)
def lr {g:β->α->β}{I:Nat->β->Prop}{S:β->Nat->Γ}{fin:β->Option Γ}{x:β}(h0:I 0 x)(hi:∀i a acc,l[i]?=some a->I i acc->I (i+1) (g acc a))(hs:∀i a acc self,l[i]?=some a->I i acc->den Φ N b (J++[self]) (e++S acc i)=self (S (g acc a) (i+1))) (hf:∀acc self,I l.length acc->den Φ N b (J++[self]) (e++S acc l.length)=fin acc) {m:Nat} (hm:l.length<m):dA Φ N b J e m (S x 0)=fin (l.foldl g x)/\ I l.length (l.foldl g x):=by (have:∀(k:List α) i m acc,l.drop i=k->i<=l.length->k.length<m->I i acc->dA Φ N b J e m (S acc i)=fin (k.foldl g acc)/\ I l.length (k.foldl g acc):=by intro k;induction k with|nil=>intro i m acc h hi' hm hI;obtain⟨m,rfl⟩:=ψ m;have:=nE h hi';(have hil:i=l.length:=by simpa using this);rw[hil] at hI;rw[bm,hil];grind|cons a k ih=>intro i m acc h hi' hm hI;obtain⟨m,rfl⟩:=ψ m;have⟨h1,h2⟩:=jz h;have:=nE h hi';simp only[aW] at hm this;rw[bm,hs i a acc _ h1 hI,dD];exact ih (i+1) m _ h2 ω ω (hi i a acc h1 hI));exact this l 0 m x rfl ω hm h0
end
section
variable {α:Type}{f:α->Γ}{l:List α}
def ba {i z:Nat}{a:α}(h:l[i]?=some a)(hz:(f a).length=z):RF.ev (.tix z) [.sl (l.map f),.i64 (i:Int)]=some (.i64 (i:Int)):=by rw[ak9,ad ω,aG,bg,h];grind
def aN {i o n:Nat}{a:α}(h:l[i]?=some a):RF.ev (.elt o n) [.sl (l.map f),.i64 (i:Int)]=cX o n (f a):=by rw[ak7,ad ω,aG,bg,h];rfl
def Xc:RF.ev .len [.sl (l.map f)]=some (.i64 (l.length:Int)):=by rw[abc,ai]
def up1 {i:Nat}(h:i<1000000000):IntKind.i64.wrap ((i:Int)+1)=((i+1:Nat):Int):=by rw[b5 ω ω];rfl
def yi {i:Nat}(h:i<1000000000):IntKind.i64.wrap (((i+1:Nat):Int)-1)=(i:Int):=by rw[b5 ω ω];omega
def aL {i:Nat}{a:α}(h:l[i]?=some a):i<l.length:=(aD.1 h).1
def bA {i n:Nat}{γ:Type}{x y:γ}(h:i<n):(if(i:Int)<(n:Int) then x else y)=x:=ad ω
def bM {n:Nat}{γ:Type}{x y:γ}:(if(n:Int)<(n:Int) then x else y)=y:=ac ω
def bZ:RF.ev .sub [.sl (l.map f),.i64 0,.i64 (l.length:Int)]=some (.sl (l.map f)):=by rw[wa,ad ⟨ω,ω,by rw[ai];omega⟩,aG];simp;rw[bD (by simp)]
def gA {bytes z:Nat}{k:List α}(h:(l.length+k.length)*bytes<=140737488355328)(hz:∀a,(f a).length=z):RF.ev (.app bytes z) [.sl (l.map f),.i64 (l.length:Int),.sl (k.map f)]=some (.sl ((l++k).map f)):=by rw[ak8,ad];rw[aG,bD (by simp)];simp;rw[ai,ai,aG];refine⟨ω,ω,h,?_⟩;cases k with|nil=>rfl|cons a k=>simp[eB,hz]
end
def nF {α:Type}(p:α->Bool)(l:List α):Int:=(l.findIdx? p).elim (-1) λi=>(i:Int)
def N8 {α:Type}{p:α->Bool}{l:List α}:0<=nF p l↔l.any p=true:=by unfold nF;cases h:l.findIdx? p with|none=>grind|some i=>have⟨h1,h2,_⟩:=bC.1 h;grind
def CX {α:Type}{p:α->Bool}{l:List α}:decide (0<=nF p l)=l.any p:=by rw[eK,aa];exact N8
end Go.Sym
namespace Go.Proofs.YtoeigdpfcnaaeaaGreat
open Go.Sym Bnd
set_option maxRecDepth 100000
def sgn (n:Int):Int:=if n<0 then-1 else if 0<n then 1 else 0
def uw {n:Int}{m:Nat}(h:n% 18446744073709551616=(m:Int)):PV.v (.int .u64 (IntKind.u64.wrap n))=U m:=by rw[ny,h];rfl
def wu {n:Nat}(h:n<18446744073709551616):IntKind.u64.wrap (n:Int)=(n:Int):=by rw[ny];omega
def ajU (n:Nat):dJ .shr .u64 (n:Int) .u64 32=some (.v (.int .u64 ((n/4294967296:Nat):Int))):=by rw[RV,ac (by decide),show min (32:Int).toNat IntKind.u64.bits=32 from rfl,jq _ (by decide)];rfl
def Py {n:Nat}(h:n<18446744073709551616):dJ .and .u64 (n:Int) .u64 4294967295=some (.v (.int .u64 ((n% 4294967296:Nat):Int))):=by show some (PV.v (.int .u64 (IntKind.u64.wrap (((BitVec.ofInt 64 (n:Int)&&& BitVec.ofInt 64 4294967295).toNat:Nat):Int))))=_;rw[Oi h,wu ω]
def yj {a b:Nat}(h:a+b<18446744073709551616):dJ .add .u64 (a:Int) .u64 (b:Int)=some (.v (.int .u64 ((a+b:Nat):Int))):=by rw[abd,<-Int.natCast_add,wu h]
def yl {a b:Nat}(h:a*b<18446744073709551616):dJ .mul .u64 (a:Int) .u64 (b:Int)=some (.v (.int .u64 ((a*b:Nat):Int))):=by rw[abe,<-qV,wu h]
def Xd {x y:Nat}(hx:x<18446744073709551616)(hy:y<18446744073709551616):Ans D 360 [U x,U y] [U (x*y/18446744073709551616),U (x*y% 18446744073709551616)]:=by refine am ?_;have b0:=sL (a:=x% 4294967296) (b:=y% 4294967296) ω ω;have b1:=sL (a:=x/4294967296) (b:=y% 4294967296) ω ω;have b2:=sL (a:=x% 4294967296) (b:=y/4294967296) ω ω;have b3:=sL (a:=x/4294967296) (b:=y/4294967296) ω ω;have hh:=aje hx hy;(have hl:x*y/18446744073709551616<18446744073709551616:=by grind);(have s1:(x/4294967296)*(y/4294967296)+((x/4294967296)*(y% 4294967296)+(x% 4294967296)*(y% 4294967296)/4294967296)/4294967296<18446744073709551616:=ω);unfold ahV U;simp only[EV,Py hx,Py hy,ajU,yl (show x% 4294967296*(y% 4294967296)<18446744073709551616 from ω),yl (show x/4294967296*(y% 4294967296)<18446744073709551616 from ω),yl (show x% 4294967296*(y/4294967296)<18446744073709551616 from ω),yl (show x/4294967296*(y/4294967296)<18446744073709551616 from ω),yj (show x/4294967296*(y% 4294967296)+x% 4294967296*(y% 4294967296)/4294967296<18446744073709551616 from ω),Py (show x/4294967296*(y% 4294967296)+x% 4294967296*(y% 4294967296)/4294967296<18446744073709551616 from ω),yj (show(x/4294967296*(y% 4294967296)+x% 4294967296*(y% 4294967296)/4294967296)% 4294967296+x% 4294967296*(y/4294967296)<18446744073709551616 from ω),yj s1,yj (show _<18446744073709551616 from hh▸hl)];rw[hh,<-qV,ny];rfl
def W (neg:Bool)(m:Nat):PV:= .agg [.bool neg,U (m/18446744073709551616),U (m% 18446744073709551616)]
def xd {a:Int}(h:I64 a):a.natAbs<=9223372036854775808:=by have⟨h1,h2⟩:=h;omega
def Sl {a b:Int}(h:I64 a)(k:I64 b):a.natAbs*b.natAbs<=85070591730234615865843651857942052864:=fu (xd h) (xd k)
def adg {a b:Int}(h:I64 a)(k:I64 b):Ans D 281 [.i64 a,.i64 b] [W (decide (a<0) !=decide (b<0)) (a.natAbs*b.natAbs)]:=by refine am ?_;have h1:=xd h;have h2:=xd k;unfold aha;simp[EV,phi (F6 h),phi (F6 k),phi (Xd (show a.natAbs<18446744073709551616 from ω) (show b.natAbs<18446744073709551616 from ω))];rfl
def alU (a:Int):Ans D 362 [.i64 a] [.bool false]:=by refine am ?_;unfold ahW;simp[EV]
def alV (a:Int):Ans D 310 [.i64 a] [.bool false]:=by refine am ?_;unfold ahi;simp[EV]
def nG (a b:Int):sgn (a-b)=if a<b then-1 else if b<a then 1 else 0:=by unfold sgn;grind
def adh (a b:Int):Ans D 279 [.i64 a,.i64 b] [.i64 (sgn (a-b))]:=by refine am ?_;unfold ag8;simp[EV,phi (alU _),nG];grind
def ym (a b:Int):Ans D 220 [.i64 a,.i64 b] [.i64 (sgn (a-b))]:=by refine am ?_;unfold agw;simp[EV,phi (alV _),nG];grind
def alW (a:Nat):Ans D 421 [U a] [.bool false]:=by refine am ?_;unfold ain U;simp[EV]
def alX (a b:Nat):Ans D 363 [U a,U b] [.i64 (sgn ((a:Int)-b))]:=by have h:=λa=>phi (alW a);refine am ?_;unfold ahX;unfold U at h|-;simp[EV,h,nG];grind
def alY {n k:Bool}(a b:Nat):Ans D 280 [W n a,W k b] [.i64 (sgn ((a:Int)-b))]:=by refine am ?_;unfold ag9 W;simp[EV,phi (alX _ _),nG];grind
def Ol (a b:Bool):max (okE a) (okE b)=okE (a&& b):=by cases a<;>cases b<;>rfl
def mm2 (a b:Int):RF.ev (.mm true) [.i64 a,.i64 b]=some (.i64 (max a b)):=rfl
def bP (r:Rt):RF.ev (.shape 2) [R r]=some (R r):=rfl
def qr (r:Rt):RF.ev (.cell 0) [R r]=some (.i64 r.num):=rfl
def qt (r:Rt):RF.ev (.cell 1) [R r]=some (.i64 r.den):=rfl
def alZ {r s:Rt}(h:aR r)(k:aR s):Ans D 278 [R r,R s] [.i64 (okE (rok r&& rok s))]:=by refine am ?_;unfold ag7;simp[bP,EV,phi (c43 h),phi (c43 k),mm2,Ol]
def ul {b:Bool}{α:Type}{x y:α}:(if(!decide (okE b=0))=true then x else y)=if b=true then y else x:=by cases b<;>rfl
def fP {r:Rt}(h:rok r=true):1<=r.den:=by unfold rok at h;grind
def nh (a b:Int):((a.natAbs*b.natAbs:Nat):Int)=if 0<=a*b then a*b else-(a*b):=by rw[<-rU];split<;>omega
def abC (n:Int):sgn (-n)= -sgn n:=by unfold sgn;repeat' split;all_goals omega
def abD (n:Int): -1<=sgn n/\ sgn n<=1:=by unfold sgn;repeat' split;all_goals omega
def sV {r s:Rt}(h:aR r)(k:aR s):Ans D 193 [R r,R s] (if(rok r&& rok s)=true then [.i64 (sgn (crs r s)),.i64 0] else [.i64 0,.i64 8]):=by refine am ?_;unfold agp;simp only[aA,bP,qr,qt,EV,phi (alZ h k),ul,phi (adh _ _),phi (adg h.1 k.2),phi (adg k.1 h.2),phi (alY _ _)];cases hok:rok r&& rok s with|false=>rfl|true=>simp only[aJ] at hok;have d1:=fP hok.1;have d2:=fP hok.2;simp only[az,Ug,EV];(have p1:(0<=r.num*s.den)↔0<=r.num:=by constructor;intro h;rcases Int.lt_or_le r.num 0 with g|g;have:=jI g (show 0<s.den from ω);omega;exact g;intro h;exact yd h ω);(have p2:(0<=s.num*r.den)↔0<=s.num:=by constructor;intro h;rcases Int.lt_or_le s.num 0 with g|g;have:=jI g (show 0<r.den from ω);omega;exact g;intro h;exact yd h ω);by_cases h1:r.num<0<;>by_cases h2:s.num<0;rw[aq h1,aq h2];simp only[az];rw[nh,nh,ac (show¬0<=r.num*s.den from ω),ac (show¬0<=s.num*r.den from ω)];unfold crs;rw[show-(r.num*s.den)- -(s.num*r.den)= -(r.num*s.den-s.num*r.den) from ω,abC];have:=abD (r.num*s.den-s.num*r.den);rw[show(0:Int)- -sgn (r.num*s.den-s.num*r.den)=sgn (r.num*s.den-s.num*r.den) from ω,b5 ω ω];rfl;rw[aq h1,ak h2];(have e1:sgn (r.num-s.num)= -1:=by unfold sgn;rw[ad ω]);(have e2:sgn (crs r s)= -1:=by unfold sgn crs;rw[ad ω]);rw[e1,e2];rfl;rw[ak h1,aq h2];(have e1:sgn (r.num-s.num)=1:=by unfold sgn;rw[ac ω,ad ω]);(have e2:sgn (crs r s)=1:=by unfold sgn crs;rw[ac ω,ad ω]);rw[e1,e2];rfl;rw[ak h1,ak h2];simp only[au,aw];rw[nh,nh,ad (show 0<=r.num*s.den from ω),ad (show 0<=s.num*r.den from ω)];rfl
def al0 {x y:Nat}(hx:x<18446744073709551616)(hy:y<18446744073709551616):Ans D 212 [U x,U y] [W false (x*y)]:=by refine am ?_;have b0:=sL (a:=x% 4294967296) (b:=y% 4294967296) ω ω;have b1:=sL (a:=x/4294967296) (b:=y% 4294967296) ω ω;have b2:=sL (a:=x% 4294967296) (b:=y/4294967296) ω ω;have b3:=sL (a:=x/4294967296) (b:=y/4294967296) ω ω;have sp:=HH (x:=x) (y:=y);(have q32:∀n:Nat,n<18446744073709551616->dJ .quo .u64 (n:Int) .u64 4294967296=some (.v (.int .u64 ((n/4294967296:Nat):Int))):=λn h=>by rw[FD,ac (by decide),jr ω,ny];congr 3;omega);(have r32:∀n:Nat,dJ .rem .u64 (n:Int) .u64 4294967296=some (.v (.int .u64 ((n% 4294967296:Nat):Int))):=λn=>by rw[II,ac (by decide),Int.tmod_eq_emod_of_nonneg ω];rfl);generalize hA:x/4294967296*(y/4294967296)=A at*;generalize hB:x/4294967296*(y% 4294967296)=B at*;generalize hC:x% 4294967296*(y/4294967296)=C at*;generalize hE:x% 4294967296*(y% 4294967296)=E at*;have m32:dJ .mul .u64 (((C+(B+E/4294967296)% 4294967296)% 4294967296:Nat):Int) .u64 4294967296=some (.v (.int .u64 (((C+(B+E/4294967296)% 4294967296)% 4294967296*4294967296:Nat):Int))):=yl (b:=4294967296) ω;(have mA:dJ .mul .u64 ((x/4294967296:Nat):Int) .u64 ((y/4294967296:Nat):Int)=some (.v (.int .u64 (A:Int))):=by rw[yl ω,hA]);(have mB:dJ .mul .u64 ((x/4294967296:Nat):Int) .u64 ((y% 4294967296:Nat):Int)=some (.v (.int .u64 (B:Int))):=by rw[yl ω,hB]);(have mC:dJ .mul .u64 ((x% 4294967296:Nat):Int) .u64 ((y/4294967296:Nat):Int)=some (.v (.int .u64 (C:Int))):=by rw[yl ω,hC]);(have mE:dJ .mul .u64 ((x% 4294967296:Nat):Int) .u64 ((y% 4294967296:Nat):Int)=some (.v (.int .u64 (E:Int))):=by rw[yl ω,hE]);unfold ags U;simp only[qN,EV,q32 x hx,q32 y hy,r32,mA,mB,mC,mE,q32 E ω,yj (show B+E/4294967296<18446744073709551616 from ω),yj (show C+(B+E/4294967296)% 4294967296<18446744073709551616 from ω),q32 (B+E/4294967296) ω,q32 (C+(B+E/4294967296)% 4294967296) ω,yj (show A+(B+E/4294967296)/4294967296<18446744073709551616 from ω),yj (show A+(B+E/4294967296)/4294967296+(C+(B+E/4294967296)% 4294967296)/4294967296<18446744073709551616 from ω),m32,yj (show(C+(B+E/4294967296)% 4294967296)% 4294967296*4294967296+E% 4294967296<18446744073709551616 from ω)];unfold W U;rw[show x*y/18446744073709551616=A+(B+E/4294967296)/4294967296+(C+(B+E/4294967296)% 4294967296)/4294967296 from ω,show x*y% 18446744073709551616=(C+(B+E/4294967296)% 4294967296)% 4294967296*4294967296+E% 4294967296 from ω];rfl
def F7 (a b:Int):Bool:=(decide (a<0) !=decide (b<0))&&(!decide (a=0)&& !decide (b=0))
def sB (n:Bool)(m:Nat):RF.ev (.shape 3) [W n m]=some (W n m):=rfl
def DZ (n:Bool)(m:Nat):RF.ev (.cell 0) [W n m]=some (.bool n):=rfl
def xe (n:Bool)(m:Nat):RF.ev (.cell 1) [W n m]=some (.v (.int .u64 ((m/18446744073709551616:Nat):Int))):=rfl
def xf (n:Bool)(m:Nat):RF.ev (.cell 2) [W n m]=some (.v (.int .u64 ((m% 18446744073709551616:Nat):Int))):=rfl
def adi (n:Bool)(m:Nat):RF.ev (.part 0 3) [W n m]=some (W n m):=rfl
def D2 (n:Bool)(m:Nat):RF.ev (.part 1 2) [W n m]=some (.agg [U (m/18446744073709551616),U (m% 18446744073709551616)]):=rfl
def IU (n:Bool)(m:Nat):RF.ev .agg [.bool n,.agg [U (m/18446744073709551616),U (m% 18446744073709551616)]]=some (W n m):=rfl
def Pz {a b:Int}(h:I64 a)(k:I64 b):Ans D 111 [.i64 a,.i64 b] [W (F7 a b) (a.natAbs*b.natAbs)]:=by refine am ?_;have h1:=xd h;have h2:=xd k;unfold afv;simp[sB,D2,IU,EV,phi (IS h),phi (IS k),phi (al0 (show a.natAbs<18446744073709551616 from ω) (show b.natAbs<18446744073709551616 from ω)),Tj];unfold F7;grind
def sW (n:Bool)(m:Nat):Int:=if n then-(m:Int) else m
def um (a b:Int):sW (F7 a b) (a.natAbs*b.natAbs)=a*b:=by unfold sW F7;grind
def adj (n:Bool)(m:Nat):Ans D 112 [W n m] [.i64 (sgn (sW n m))]:=by refine am ?_;unfold afw;simp[sB,xe,xf,EV];(have fin:∀(e:Bool) (v:PV),(e=true↔m=0)->den (bo D) 1 JN [] [v,W n m,.bool e]=some [.i64 (sgn (sW n m))]:=λe v he=>by unfold JN sW;simp[DZ,EV];cases e with|true=>have:=he.1 rfl;subst this;cases n<;>rfl|false=>unfold sgn;grind);grind
def Xe {n k:Bool}(a b:Nat):Ans D 113 [W n a,W k b] [.i64 (sgn ((a:Int)-b))]:=by refine am ?_;unfold afx;simp[sB,xe,xf,EV,nG];grind
def al1 {r s:Rt}(h:aR r)(k:aR s):Ans D 46 [R r,R s] [.i64 (sgn (crs r s))]:=by refine am ?_;unfold aeO;simp only[bP,qr,qt,sB,adi,EV,phi (Pz h.1 k.2),phi (Pz k.1 h.2),phi (adj _ _),phi (Xe _ _),um,aa,aE,aj];have e1:=um r.num s.den;have e2:=um s.num r.den;unfold sW at e1 e2;unfold crs;generalize r.num*s.den=x at*;generalize s.num*r.den=y at*;generalize r.num.natAbs*s.den.natAbs=a at*;have hx:sgn x=if x<0 then-1 else if 0<x then 1 else 0:=rfl;have hy:sgn y=if y<0 then-1 else if 0<y then 1 else 0:=rfl;by_cases hne:sgn x=sgn y;grind;rw[ad hne];rw[nG x y];grind
def add64 (x y:Nat):RF.ev .add64 [U x,U y,U 0]=some (.agg [U ((x+y)% 18446744073709551616),U ((x+y)/18446744073709551616)]):=rfl
def adk {x t:Int}(h:(x-t)% 18446744073709551616=0)(ht:I64 t):IntKind.i64.wrap x=t:=by have⟨h1,h2⟩:=ht;simp only[IntKind.wrap,IntKind.bits,IntKind.signed];simp;split<;>omega
def wr (x:Int):∃k:Int,IntKind.i64.wrap x=x+18446744073709551616*k:=by simp only[IntKind.wrap,IntKind.bits];simp;split;exact⟨-(x/18446744073709551616)-1,ω⟩;exact⟨-(x/18446744073709551616),ω⟩
def PA {x y:Int}(h:(x-y)% 18446744073709551616=0):IntKind.i64.wrap x=IntKind.i64.wrap y:=by simp only[IntKind.wrap,IntKind.bits];simp;rw[show x% 18446744073709551616=y% 18446744073709551616 from ω]
def wrA (x y:Int):IntKind.i64.wrap (IntKind.i64.wrap x+y)=IntKind.i64.wrap (x+y):=by have⟨k,h⟩:=wr x;rw[h];exact PA ω
def wrB (x y:Int):IntKind.i64.wrap (y+IntKind.i64.wrap x)=IntKind.i64.wrap (y+x):=by have⟨k,h⟩:=wr x;rw[h];exact PA ω
def wrC (x y:Int):IntKind.i64.wrap (IntKind.i64.wrap x-y)=IntKind.i64.wrap (x-y):=by have⟨k,h⟩:=wr x;rw[h];exact PA ω
def PB (k:IntKind)(n:Nat):RF.ev (.conv k) [U n]=some (.v (.int k (k.wrap n))):=rfl
abbrev oA2:RF:= .bin .add
def hiL (v:Int):PV:= .i64 (v/18446744073709551616)
def loL (v:Int):PV:= .v (.int .u64 (v% 18446744073709551616))
def Mid (v:Int):Prop:= -154742504910672534362390528<=v/\ v<=154742504910672534362390528
def abE {a b p:Int}(ha:I64 a)(hb:I64 b)(hp:a*b=p):∃x y:Nat,(a% 18446744073709551616=(x:Int)/\ x<18446744073709551616)/\(b% 18446744073709551616=(y:Int)/\ y<18446744073709551616)/\((x*y:Nat):Int)=p+18446744073709551616*((if a<0 then b else 0)+(if b<0 then a else 0))+340282366920938463463374607431768211456*(if a<0/\ b<0 then 1 else 0):=by have⟨a1,a2⟩:=ha;have⟨b1,b2⟩:=hb;(have e1:(((a% 18446744073709551616).toNat:Nat):Int)=if a<0 then a+18446744073709551616 else a:=by split<;>omega);(have e2:(((b% 18446744073709551616).toNat:Nat):Int)=if b<0 then b+18446744073709551616 else b:=by split<;>omega);grind
def IV {Φ':PhT}{N:Nat}{f self:JT}{e0 w:PV}{a b v:Int}{i:Nat}(hΦ:Φ'=bo D)(hw:RF.ev (.aix 2 2 2) [w,.i64 (i:Int)]=some (.agg [.i64 a,.i64 b]))(hi:i<2)(ha:I64 a)(hb:I64 b)(hm:Mid (a*b))(hv:Mid v):den Φ' N Mb [f,self] [e0,w,hiL v,loL v,.i64 (i:Int)]=self [hiL (v+a*b),loL (v+a*b),.i64 ((i+1:Nat):Int)]:=by subst hΦ;have⟨m1,m2⟩:=hm;have⟨v1,v2⟩:=hv;generalize hp:a*b=p at*;have⟨x,y,⟨x1,x2⟩,⟨y1,y2⟩,hxy⟩:=abE ha hb hp;have ha':=ha;have hb':=hb;have⟨a1,a2⟩:=ha;have⟨b1,b2⟩:=hb;have bd:x*y<=18446744073709551615*18446744073709551615:=fu ω ω;have u1:PV.v (.int .u64 (IntKind.u64.wrap a))=U x:=uw x1;have u2:PV.v (.int .u64 (IntKind.u64.wrap b))=U y:=uw y1;have q1:=phi (Xd x2 y2);(have lo0:loL v=U (v% 18446744073709551616).toNat:=by unfold loL U;congr 2;omega);have q2:=add64 (v% 18446744073709551616).toNat (x*y% 18446744073709551616);rw[<-lo0] at q2;have w1:IntKind.i64.wrap ((i:Int)+1)=((i+1:Nat):Int):=up1 ω;unfold Mb;simp only[aA,hw,EV,aa,u1,u2,q1,ad (show(i:Int)<2 from ω),PB,Vw];(have lo2:U (((v% 18446744073709551616).toNat+x*y% 18446744073709551616)% 18446744073709551616)=loL (v+p):=by unfold loL U;congr 2;grind);rw[lo2] at q2;have q3:∀h:Int,RF.ev oA2 [hiL v,.i64 h]=some (.i64 (IntKind.i64.wrap (v/18446744073709551616+h))):=λh=>rfl;have U0:PV.v (.int .u64 0)=U 0:=rfl;by_cases a0:a<0<;>by_cases b0:b<0<;>simp only[a0,b0,az,aw,aA,q3,EV,ay,be,Vv,U0,q2,PB,wrA,wrB,wrC,w1,iL,eM,gj] at hxy|-;all_goals rw[adk (t:=(v+p)/18446744073709551616) ω ⟨ω,ω⟩];rfl
def al2 {a b c d:Int}(ha:I64 a)(hb:I64 b)(hc:I64 c)(hd:I64 d)(h1:Mid (a*b))(h2:Mid (c*d)):Ans D 395 [.agg [.i64 a,.i64 b,.i64 c,.i64 d]] [.agg [hiL (a*b+c*d),loL (a*b+c*d)]]:=by refine an ⟨3,?_⟩;unfold aig;have s0:=λself=>IV (N:=3) (f:=rI (bo D) 3 Ma [] [.agg [.i64 a,.i64 b,.i64 c,.i64 d],.agg [.i64 a,.i64 b,.i64 c,.i64 d]]) (self:=self) (e0:= .agg [.i64 a,.i64 b,.i64 c,.i64 d]) (w:= .agg [.i64 a,.i64 b,.i64 c,.i64 d]) (i:=0) (v:=0) rfl rfl (by decide) ha hb h1 ⟨by decide,by decide⟩;have s1:=λself=>IV (N:=3) (f:=rI (bo D) 3 Ma [] [.agg [.i64 a,.i64 b,.i64 c,.i64 d],.agg [.i64 a,.i64 b,.i64 c,.i64 d]]) (self:=self) (e0:= .agg [.i64 a,.i64 b,.i64 c,.i64 d]) (w:= .agg [.i64 a,.i64 b,.i64 c,.i64 d]) (i:=1) (v:=a*b) rfl rfl (by decide) hc hd h2 h1;rw[BD] at s0;have z1:PV.i64 0=hiL 0:=rfl;have z2:PV.v (.int .u64 0)=loL 0:=rfl;have z3:PV.i64 0= .i64 ((0:Nat):Int):=rfl;refine(s0 _).trans ?_;simp only[Nf,RW,Wd,abg];refine(s1 _).trans ?_;simp only[EV];rfl
def Pt.bnd {p:Pt}(h:p.ok=true):(0<=p.id/\ p.id<=65535)/\(-1048576<=p.a/\ p.a<=1048576)/\(-1048576<=p.b/\ p.b<=1048576):=by unfold Pt.ok Nt at h;grind
def Om {a b:Int}(h: -2097152<=a/\ a<=2097152)(k:I64 b):Mid (a*b):=by have⟨k1,k2⟩:=k;have e:=rU a b;have:a.natAbs*b.natAbs<=2097152*9223372036854775808:=fu ω ω;constructor<;>omega
def adl (v:Int):(v/18446744073709551616<0)↔v<0:=ω
def orr (a b:Int):Ans D 219 [.sl [[.i64 a],[.i64 b]]] [.i64 (if a=0 then b else a)]:=by refine an ⟨3,?_⟩;unfold XX;(have w0:IntKind.i64.wrap (0+1)=1:=by decide);(have w1:IntKind.i64.wrap (1+1)=2:=by decide);have e0:RF.ev (.tix 1) [.sl [[.i64 a],[.i64 b]],.i64 0]=some (.i64 0):=rfl;have e1:RF.ev (.tix 1) [.sl [[.i64 a],[.i64 b]],.i64 1]=some (.i64 1):=rfl;have g0:RF.ev (.elt 0 0) [.sl [[.i64 a],[.i64 b]],.i64 0]=some (.i64 a):=rfl;have g1:RF.ev (.elt 0 0) [.sl [[.i64 a],[.i64 b]],.i64 1]=some (.i64 b):=rfl;have h2:([[PV.i64 a],[PV.i64 b]].length:Int)=2:=rfl;simp only[EV,bm,KE,KF,e0,e1,g0,g1,w0];grind
def PC (t:Rt)(p q:Pt):Int:=if far t p q=0 then(if sgn (p.b-q.b)=0 then sgn (q.id-p.id) else sgn (p.b-q.b)) else sgn (far t p q)
def IW {t:Rt}{p q:Pt}:decide (0<PC t p q)=leads t p q:=by rw[eK,aa,leads_iff];unfold PC sgn;grind
def cT (p:Pt):RF.ev (.shape 3) [PP p]=some (PP p):=rfl
def fJ (p:Pt):RF.ev (.cell 0) [PP p]=some (.i64 p.id):=rfl
def xg (p:Pt):RF.ev (.cell 1) [PP p]=some (.i64 p.a):=rfl
def oZ (p:Pt):RF.ev (.cell 2) [PP p]=some (.i64 p.b):=rfl
def abF {t:Rt}{p q:Pt}(hp:p.ok=true)(hq:q.ok=true)(ht:aR t):Mid ((p.a-q.a)*t.den)/\ Mid ((p.b-q.b)*t.num):=by have:=Pt.bnd hp;have:=Pt.bnd hq;exact⟨Om ⟨ω,ω⟩ ht.2,Om ⟨ω,ω⟩ ht.1⟩
def z6 {a b:Int}(ha: -1048576<=a/\ a<=1048576)(hb: -1048576<=b/\ b<=1048576):I64 (a-b)/\ IntKind.i64.wrap (a-b)=a-b:=⟨⟨ω,ω⟩,b5 ω ω⟩
def adm {p q:Pt}{t:Rt}(hp:p.ok=true)(hq:q.ok=true)(ht:aR t):Ans D 328 [PP p,PP q,R t] [.i64 (PC t p q)]:=by have bp:=Pt.bnd hp;have bq:=Pt.bnd hq;have⟨f1,f2⟩:=abF hp hq ht;have⟨i1,i2⟩:=z6 bp.2.1 bq.2.1;have⟨i3,i4⟩:=z6 bp.2.2 bq.2.2;have h1:=phi (al2 i1 ht.2 i3 ht.1 f1 f2);rw[show(p.a-q.a)*t.den+(p.b-q.b)*t.num=far t p q from rfl] at h1;have a1:∀a b c d:Int,RF.ev .agg [.i64 a,.i64 b,.i64 c,.i64 d]=some (.agg [.i64 a,.i64 b,.i64 c,.i64 d]):=λ_ _ _ _=>rfl;have a2:∀v:Int,RF.ev (.shape 2) [.agg [hiL v,loL v]]=some (.agg [hiL v,loL v]):=λ_=>rfl;have a3:∀v:Int,RF.ev (.cell 0) [.agg [hiL v,loL v]]=some (.i64 (v/18446744073709551616)):=λ_=>rfl;have a4:RF.ev .agg [.i64 0,.v (.int .u64 0)]=some (.agg [.i64 0,.v (.int .u64 0)]):=rfl;(have a5:∀v:Int,RF.ev (.eqv [.i,.i]) [.agg [hiL v,loL v],.agg [.i64 0,.v (.int .u64 0)]]=some (.bool (decide (v=0))):=λv=>by have:RF.ev (.eqv [.i,.i]) [.agg [hiL v,loL v],.agg [.i64 0,.v (.int .u64 0)]]=some (.bool (decide (v/18446744073709551616=0)&&(decide (v% 18446744073709551616=0)&& true))):=rfl;rw[this];congr 3;grind);have a6:∀x y:Int,RF.ev (.bs 2 [KP.z] [0,1]) [.i64 x,.i64 y]=some (.sl [[.i64 x],[.i64 y]]):=λx y=>rfl;have a7:∀x y:Int,RF.ev .sub [.sl [[.i64 x],[.i64 y]],.i64 0,.i64 2]=some (.sl [[.i64 x],[.i64 y]]):=λx y=>rfl;refine am ?_;unfold ahJ;simp only[aA,cT,bP,fJ,xg,oZ,qr,qt,a1,a2,a3,a4,a5,a6,a7,EV,i2,i4,h1,aE,aj,aa,adl,phi (adh _ _),phi (ym _ _),phi (orr _ _)];unfold PC;by_cases hz:far t p q=0;rw[ac (by simp[hz]),ad hz];rw[ad hz,ac hz];unfold sgn;by_cases hn:far t p q<0;rw[ad hn,ad hn];rw[ac hn,ac hn,ad ω]
def mM (p q:Pt)(t:Rt):Int:=if(p.ok&&(q.ok&& rok t))=true then(if p.id=q.id then 2 else 0) else 8
def PD {p q:Pt}{t:Rt}(ht:aR t):Ans D 215 [PP p,PP q,R t] [.i64 (mM p q t)]:=by refine am ?_;unfold agu mM;simp only[cT,bP,fJ,mm2,EV,phi (Px _),phi (c43 ht),Ol,Bool.and_assoc,ul];cases(p.ok&&(q.ok&& rok t)) with|false=>rfl|true=>grind
def F8 {p q:Pt}{t:Rt}(h:mM p q t=0):p.ok=true/\ q.ok=true/\ rok t=true/\ p.id≠q.id:=by unfold mM at h;grind
def lR {p q:Pt}{t:Rt}(h1:p.ok=true)(h2:q.ok=true)(h3:rok t=true)(h4:p.id≠q.id):mM p q t=0:=by unfold mM;grind
def IX {p q:Pt}{t:Rt}(ht:aR t):Ans D 244 [PP p,PP q,R t] (if mM p q t=0 then [.bool (leads t p q),.i64 0] else [.bool false,.i64 (mM p q t)]):=by refine am ?_;unfold agS;simp only[cT,bP,EV,phi (PD ht)];by_cases h:mM p q t=0;have⟨h1,h2,_,_⟩:=F8 h;rw[ac (by simp[h]),ad h];simp[EV,phi (adm h1 h2 ht),IW];grind
def Sm (n:Int):Prop:= -4194304<=n/\ n<=4194304
def PE {a b:Nat}(hb:0<b)(ha:a<18446744073709551616):RF.ev (.bin .quo) [U a,U b]=some (U (a/b)):=by show dJ .quo .u64 (a:Int) .u64 (b:Int)=_;have:=jm a b;rw[FD,ac ω,jr ω,<-Int.natCast_ediv,wu ω];rfl
def WB (n:Bool)(h l:Nat):PV:= .agg [.bool n,U h,U l]
def adn (n:Bool)(h l:Nat):RF.ev .agg [.bool n,U h,U l]=some (WB n h l):=rfl
def ado (n:Bool)(h l:Nat):RF.ev (.shape 3) [WB n h l]=some (WB n h l):=rfl
def cB0 (n:Bool)(h l:Nat):RF.ev (.cell 0) [WB n h l]=some (.bool n):=rfl
def cB1 (n:Bool)(h l:Nat):RF.ev (.cell 1) [WB n h l]=some (.v (.int .u64 (h:Int))):=rfl
def cB2 (n:Bool)(h l:Nat):RF.ev (.cell 2) [WB n h l]=some (.v (.int .u64 (l:Int))):=rfl
def z7 (a b:Int):RF.ev .agg [.i64 a,.i64 b]=some (R ⟨a,b⟩):=rfl
def PF (r:Rt):RF.ev (.part 0 2) [R r]=some (R r):=rfl
def U0:PV.v (.int .u64 0)=U 0:=rfl
def al3 {n:Bool}{a b:Nat}(ha:a<=4194304)(hb:b<=4194304):Ans D 299 [WB n 0 a,U 0,U b] [R ⟨if n=true then-(a:Int) else a,b⟩,.i64 0]:=by refine am ?_;have e:RF.ev (.bin .gtr) [U 0,U 0]=some (.bool false):=rfl;have e2:RF.ev (.bin .gtr) [U b,.v (.int .u64 9223372036854775807)]=some (.bool (decide ((9223372036854775807:Int)<b))):=rfl;unfold ahh;simp only[ado,cB0,U0,cB1,cB2,z7,e,e2,PB,EV,U2,gP,b5 (show-9223372036854775808<=(a:Int) from ω) ω,b5 (show-9223372036854775808<=(b:Int) from ω) ω,b5 (show-9223372036854775808<=0-(a:Int) from ω) ω];grind
def PG {n:Int}(h:Sm n):I64 n:=by have⟨h1,h2⟩:=h;exact⟨ω,ω⟩
def al4 {n d:Int}(hn:Sm n)(hd:Sm d)(h0:d≠0):Ans D 216 [.i64 n,.i64 d] [R (mkR n d),.i64 0]:=by have⟨n1,n2⟩:=hn;have⟨d1,d2⟩:=hd;have hg:0<Nat.gcd n.natAbs d.natAbs:=ii _ ω;have l1:n.natAbs/Nat.gcd n.natAbs d.natAbs<=n.natAbs:=jm ..;have l2:d.natAbs/Nat.gcd n.natAbs d.natAbs<=d.natAbs:=jm ..;have hc:=phi (ade n.natAbs d.natAbs);rw[BF] at hc;refine am ?_;unfold agv;simp only[PE hg (show n.natAbs<18446744073709551616 from ω),PE hg (show d.natAbs<18446744073709551616 from ω),U0,adn,EV,phi (F6 (PG ⟨n1,n2⟩)),phi (F6 (PG ⟨d1,d2⟩)),hc,phi (al3 (show n.natAbs/Nat.gcd n.natAbs d.natAbs<=4194304 from ω) (show d.natAbs/Nat.gcd n.natAbs d.natAbs<=4194304 from ω)),aa];rw[ac h0];rfl
def adp {p q:Pt}(hp:p.ok=true)(hq:q.ok=true)(hi:p.id≠q.id)(hb:p.b≠q.b):Ans D 117 [PP p,PP q] [R (mkR (p.a-q.a) (q.b-p.b)),.i64 0]:=by have bp:=Pt.bnd hp;have bq:=Pt.bnd hq;have ht:aR ⟨0,1⟩:=⟨⟨by decide,by decide⟩,⟨by decide,by decide⟩⟩;have i2:=(z6 bp.2.1 bq.2.1).2;have i4:=(z6 bq.2.2 bp.2.2).2;have h1:=phi (PD (p:=p) (q:=q) ht);rw[lR hp hq (by decide) hi] at h1;refine am ?_;unfold XR;simp[cT,bP,xg,oZ,z7,EV,h1,i2,i4,phi (al4 (n:=p.a-q.a) (d:=q.b-p.b) ⟨ω,ω⟩ ⟨ω,ω⟩ ω)];grind
def cV (t:Rt)(hi lo:Pt):Rt×Bool:=if leads t lo hi=true then(t,true) else if hi.b<lo.b then(mkR (hi.a-lo.a) (lo.b-hi.b),true) else(⟨0,0⟩,false)
def adq {p q:Pt}{t:Rt}(ht:aR t):Ans D 326 [PP p,PP q,R t] (if mM p q t=0 then [R (cV t p q).1,.bool (cV t p q).2,.i64 0] else [R ⟨0,0⟩,.bool false,.i64 (mM p q t)]):=by refine am ?_;unfold ahE;simp only[cT,bP,z7,EV,phi (PD ht),aE,aj];by_cases h:mM p q t=0;have⟨h1,h2,_,h3⟩:=F8 h;rw[ac (by simp[h]),ad h];simp only[aA,oZ,z7,EV,phi (adm h2 h1 ht),IW,aa];unfold cV;(cases leads t q p with|true=>rfl|false=>simp only[au,aw];by_cases hb:q.b<=p.b;grind;rw[ac hb,ad ω];simp only[aA,bP,EV,phi (adp h1 h2 h3 ω),ay]);grind
def ZQ (n:Bool)(a b:Int):RF.ev .agg [.bool n,.v (.int .u64 a),.v (.int .u64 b)]=some (.agg [.bool n,.v (.int .u64 a),.v (.int .u64 b)]):=rfl
def mkW {n:Bool}{h l:Int}{m:Nat}(h1:h=((m/18446744073709551616:Nat):Int))(h2:l=((m% 18446744073709551616:Nat):Int)):PV.agg [.bool n,.v (.int .u64 h),.v (.int .u64 l)]=W n m:=by rw[h1,h2];rfl
def adr {n k:Bool}{a b:Nat}(ha:a<170141183460469231731687303715884105728)(h:b<=a):Ans D 448 [W n a,W k b] [W false (a-b)]:=by refine am ?_;unfold aiz;simp only[sB,xe,xf,EV,aa,VD,ZQ,ny];by_cases c:((a% 18446744073709551616:Nat):Int)<((b% 18446744073709551616:Nat):Int);rw[ad c,mkW (m:=a-b) ω ω];rw[ac c,mkW (m:=a-b) ω ω]
def al5 {n k:Bool}{a b:Nat}(ha:a<85070591730234615865843651857942052865)(hb:b<85070591730234615865843651857942052865):∃s m,Ans D 431 [W n a,W k b] [W s m]/\ sW s m=sW n a+sW k b:=by (have l1:a% 18446744073709551616<18446744073709551616:=ω);by_cases hs:n=k;subst hs;refine⟨n,a+b,?_,by unfold sW;split<;>omega⟩;refine am ?_;unfold Re;simp only[aA,sB,DZ,xe,xf,EV,aa,VB,ZQ,ny,gR,az];by_cases c:(((a% 18446744073709551616:Nat):Int)+((b% 18446744073709551616:Nat):Int))% 18446744073709551616<((a% 18446744073709551616:Nat):Int);rw[ad c,mkW (m:=a+b) ω ω];rw[ac c,mkW (m:=a+b) ω ω];(have hbe:(n==k)=false:=by cases n<;>cases k<;>simp_all);by_cases hle:b<=a;refine⟨n&& decide (0<a-b),a-b,?_,by unfold sW;cases n<;>cases k<;>simp_all<;>(repeat' split)<;>omega⟩;(have g:sgn ((a:Int)-b)>=0:=by unfold sgn;repeat' split;all_goals omega);refine am ?_;unfold Re;simp only[aA,sB,DZ,xe,xf,EV,aa,hbe,au,aw,phi (Xe _ _),phi (adr (n:=n) (k:=k) (show a<170141183460469231731687303715884105728 from ω) hle)];rw[ad g];have fin:∀(v:Bool) (es:Γ),den (bo D) 1 xE [] (.bool v::es)=den (bo D) 1 xE [] (.bool v::es):=λ_ _=>rfl;(cases n with|false=>simp only[au,aw,aA,D2,IU,xE,EV,yb]|true=>simp only[az,iu];by_cases c:(0:Int)<((((a-b)/18446744073709551616:Nat):Int));rw[ad c,aq (show 0<a-b from ω)];simp only[aA,D2,IU,xE,EV];rw[ac c];simp only[aA,D2,IU,xE,EV];rw[show decide ((0:Int)<(((a-b)% 18446744073709551616:Nat):Int))=decide (0<a-b) from cq.2 ω]);refine⟨k,b-a,?_,by unfold sW;cases n<;>cases k<;>simp_all<;>omega⟩;(have g:¬sgn ((a:Int)-b)>=0:=by unfold sgn;rw[ad ω];decide);refine am ?_;unfold Re;simp only[aA,sB,DZ,xe,xf,EV,aa,hbe,au,aw,phi (Xe _ _),phi (adr (n:=k) (k:=n) (a:=b) (b:=a) (show b<170141183460469231731687303715884105728 from ω) ω)];rw[ac g];simp only[aA,D2,IU,EV]
def al6 {p q:Pt}{t:Rt}(hp:p.ok=true)(hq:q.ok=true)(ht:aR t):Ans D 390 [PP p,PP q,R t] [.i64 (sgn (far t p q))]:=by have bp:=Pt.bnd hp;have bq:=Pt.bnd hq;have⟨i1,i2⟩:=z6 bp.2.1 bq.2.1;have⟨i3,i4⟩:=z6 bp.2.2 bq.2.2;have⟨s,m,h1,h2⟩:=al5 (n:=F7 (p.a-q.a) t.den) (k:=F7 (p.b-q.b) t.num) (tu (Sl i1 ht.2)) (tu (Sl i3 ht.1));rw[um,um] at h2;refine am ?_;unfold aic;simp[cT,bP,xg,oZ,qr,qt,EV,i2,i4,phi (Pz i1 ht.2),phi (Pz i3 ht.1),phi h1,phi (adj _ _)];rw[h2];rfl
def IY {n:Int}:sgn n=0↔n=0:=by unfold sgn;repeat' split;all_goals omega
def xh {n:Int}:0<sgn n↔0<n:=by unfold sgn;repeat' split;all_goals omega
def IZ {p q:Pt}{t:Rt}(hp:p.ok=true)(hq:q.ok=true)(ht:aR t):Ans D 320 [PP p,PP q,R t] [.bool (leads t p q)]:=by refine am ?_;unfold aht leads;simp[cT,bP,fJ,oZ,EV,phi (al6 hp hq ht),IY,xh];grind
def al7 {n:Bool}{a b:Nat}(ha:a<=4194304)(hb:b<=4194304):Ans D 383 [.bool n,WB false 0 a,WB false 0 b] [R ⟨if n=true then-(a:Int) else a,b⟩,.i64 0]:=by refine am ?_;unfold aia;simp only[ado,cB1,cB2,z7,EV,b5 (show-9223372036854775808<=(a:Int) from ω) ω,b5 (show-9223372036854775808<=(b:Int) from ω) ω,b5 (show-9223372036854775808<=0-(a:Int) from ω) ω];grind
def al8 {n d:Int}(hn:Sm n)(hd:Sm d)(h0:d≠0):Ans D 297 [.i64 n,.i64 d] [R (mkR n d),.i64 0]:=by have⟨n1,n2⟩:=hn;have⟨d1,d2⟩:=hd;have hg:0<Nat.gcd n.natAbs d.natAbs:=ii _ ω;have l1:n.natAbs/Nat.gcd n.natAbs d.natAbs<=n.natAbs:=jm ..;have l2:d.natAbs/Nat.gcd n.natAbs d.natAbs<=d.natAbs:=jm ..;have hc:=phi (adf n.natAbs d.natAbs);rw[BF] at hc;have hm:=λs=>phi (al7 (n:=s) (show n.natAbs/Nat.gcd n.natAbs d.natAbs<=4194304 from ω) (show d.natAbs/Nat.gcd n.natAbs d.natAbs<=4194304 from ω));refine am ?_;unfold ahg;simp[PE hg (show n.natAbs<18446744073709551616 from ω),PE hg (show d.natAbs<18446744073709551616 from ω),U0,adn,bP,qr,qt,z7,U1,EV,phi (IS (PG ⟨n1,n2⟩)),phi (IS (PG ⟨d1,d2⟩)),hc,hm];unfold mkR;grind
def al9 {p q:Pt}(hp:p.ok=true)(hq:q.ok=true)(hb:p.b≠q.b):Ans D 210 [PP p,PP q] [R (mkR (p.a-q.a) (q.b-p.b))]:=by have bp:=Pt.bnd hp;have bq:=Pt.bnd hq;have i2:=(z6 bp.2.1 bq.2.1).2;have i4:=(z6 bq.2.2 bp.2.2).2;refine am ?_;unfold agr;simp[cT,bP,xg,oZ,EV,i2,i4,phi (al8 (n:=p.a-q.a) (d:=q.b-p.b) ⟨ω,ω⟩ ⟨ω,ω⟩ ω)]
def ama {p q:Pt}{t:Rt}(hp:p.ok=true)(hq:q.ok=true)(ht:aR t):Ans D 318 [PP p,PP q,R t] [R (cV t p q).1,.bool (cV t p q).2]:=by refine am ?_;unfold ahr cV;simp[cT,bP,oZ,z7,EV,phi (IZ hq hp ht)];cases leads t q p with|true=>rfl|false=>simp;by_cases hb:p.b<q.b;rw[ad hb,ad hb];simp only[aA,bP,EV,phi (al9 hp hq (show p.b≠q.b from ω))];grind
def bf (l:Δ):RF.ev (.shape 1) [F l]=some (F l):=rfl
def cz (l:Δ):RF.ev (.cell 0) [F l]=some (sl row l):=rfl
def iC (p:Pt):cX 0 3 (row p)=some (PP p):=rfl
def yn (p:Pt):cX 0 0 (row p)=some (.i64 p.id):=rfl
def cG (p:Pt):(row p).length=3:=rfl
def I1 (n:Int):Γ:=[.i64 n]
def cL (n:Int):cX 0 0 (I1 n)=some (.i64 n):=rfl
def B1 (b:Bool):Γ:=[.bool b]
def wD (b:Bool):cX 0 0 (B1 b)=some (.bool b):=rfl
open Classical in def fK (l:List Pt):Int:=if 64<l.length then 4 else if tZ l=true then(if jh l then 0 else 32) else 8
def Sn {b:Bool}:okE b=0↔b=true:=by cases b<;>simp[okE]
def ki {b:Bool}{α:Type}{x y:α}:(if¬okE b=0 then x else y)=if b=true then y else x:=by cases b<;>rfl
open Classical in def sX (l:List Pt):Ans D 114 [F l] [.i64 (fK l)]:=by refine an ⟨65,?_⟩;unfold afy fK;simp only[aA,bf,cz,EV,ai,aa];by_cases h:64<l.length;grind;.rw[ac ω,ac h];refine(ct (l:=l) (p:=Pt.ok) (st:=λi=>[.i64 (i:Int)]) (r:=some [.i64 8]) (fin:=some [.i64 (if jh l then 0 else 32)]) (λi p self hp _=>?_) (λhg self=>?_) ω).trans ?_;unfold JQ;simp only[aA,cz,ba hp (cG p),aN hp,iC,EV,aa,bA (aL hp),up1 (show i<1000000000 by have:=aL hp;omega),phi (Px _),ul];cases p.ok<;>rfl;(.unfold JQ;simp only[EV,aa,bM,Tn,cz,ai];refine(gy (n:=l.length) (P:=λi=>∀p q,l[i]?=some q->(0<i->l[i-1]?=some p->p.id<q.id)) (st:=λi=>[.i64 (i:Int)]) (r:=some [.i64 32]) (fin:=some [.i64 0]) (λi self hi _=>?_) (λ_ self=>?_) ω).trans ?_;(.obtain⟨q,hq⟩:∃q,l[i]?=some q:=⟨l[i],ah _⟩;unfold JP;simp only[aA,cz,ba hq (cG q),aN hq,iC,EV,aa,bA hi];cases i with|zero=>rw[ac ω,ad (λp q _ h=>ω)];unfold JO;simp only[EV,au,aw];try rfl|succ j=>obtain⟨p,hp⟩:∃p,l[j]?=some p:=⟨l[j],ah _⟩;rw[ad ω];simp only[aA,fJ,yi (show j<1000000000 from ω),ba hp (cG p),aN hp,yn,EV];unfold JO;simp only[EV,aa,up1 (show j+1<1000000000 from ω)];by_cases hc:q.id<=p.id;rw[ad hc,ac (λh=>by have:=h p q hq ω (by simpa using hp);omega)];rw[ac hc,ad (λp' q' h1 _ h2=>by rw[hq] at h1;cases h1;rw[show j+1-1=j from ω,hp] at h2;cases h2;omega)]);unfold JP;simp only[EV,aa,bM,Tl];(have:(∀j,j<l.length->∀p q,l[j]?=some q->(0<j->l[j-1]?=some p->p.id<q.id))↔jh l:=by constructor;intro h i p q hp hq;exact h (i+1) (aL hq) p q hq ω (by simpa using hp);intro h j hj p q hq h0 hp;exact h (j-1) p q hp (by rw[show j-1+1=j from ω];exact hq));by_cases hr:jh l;rw[ad (this.2 hr),ad hr];rw[ac (λh=>hr (this.1 h)),ac hr]);unfold tZ;cases l.all Pt.ok<;>rfl
open Classical in def amc (l:List Pt):Ans D 28 [F l] [.i64 (fK l)]:=by refine an ⟨65,?_⟩;unfold aeJ fK;simp only[aA,bf,cz,EV,ai,aa];by_cases h:64<l.length;grind;rw[ac ω,ac h];refine(ct (l:=l) (p:=Pt.ok) (st:=λi=>[.i64 (i:Int)]) (r:=some [.i64 8]) (fin:=some [.i64 (if jh l then 0 else 32)]) (λi p self hp _=>?_) (λhg self=>?_) ω).trans ?_;unfold JE;simp only[aA,cz,ba hp (cG p),aN hp,iC,EV,ai,aa,bA (aL hp),up1 (show i<1000000000 by have:=aL hp;omega),phi (alT _),ul];unfold JE;simp only[aA,cz,EV,ai,aa,bM,S5];refine(gy (n:=l.length-1) (P:=λi=>∀p q,l[i]?=some p->l[i+1]?=some q->p.id<q.id) (st:=λi=>[.i64 ((i+1:Nat):Int)]) (r:=some [.i64 32]) (fin:=some [.i64 0]) (λi self hi _=>?_) (λ_ self=>?_) ω).trans ?_;obtain⟨p,hp⟩:∃p,l[i]?=some p:=⟨l[i],ah _⟩;obtain⟨q,hq⟩:∃q,l[i+1]?=some q:=⟨l[i+1],ah _⟩;unfold JD;simp only[aA,cz,yi (show i<1000000000 from ω),ba hp (cG p),aN hp,ba hq (cG q),aN hq,yn,EV,ai,aa,bA (aL hq),up1 (show i+1<1000000000 from ω)];grind;unfold JD;simp only[aA,cz,EV,ai,aa,S4];rw[ac ω];have:(∀j,j<l.length-1->∀p q,l[j]?=some p->l[j+1]?=some q->p.id<q.id)↔jh l:=⟨λh i p q hp hq=>h i (by have:=aL hq;omega) p q hp hq,λh j _ p q hp hq=>h j p q hp hq⟩;by_cases hr:jh l;rw[ad (this.2 hr),ad hr];rw[ac (λh=>hr (this.1 h)),ac hr];unfold tZ;cases l.all Pt.ok<;>rfl
def pos (l:Δ)(id:Int):Int:=nF (λp=>decide (p.id=id)) l
def H4 {o:Option Nat}:o.elim (some [PV.i64 (-1)]) (λi=>some [.i64 (i:Int)])=some [.i64 (o.elim (-1) λi=>(i:Int))]:=by cases o<;>rfl
def cI (n:Int):(I1 n).length=1:=rfl
def uo (b:Bool):(B1 b).length=1:=rfl
def wE {l:Δ}(hl:l.length<=1000)(id:Int):Ans D 134 [F l,.i64 id] [.i64 (pos l id)]:=by refine an ⟨1001,?_⟩;unfold afJ;simp[bf,EV];refine(ri (l:=l) (p:=λp=>decide (p.id=id)) (st:=λi=>[.i64 (i:Int)]) (ret:=λi=>some [.i64 (i:Int)]) (fin:=some [.i64 (-1)]) (λi p self hp=>?_) (λself=>?_) ω).trans H4;unfold JW;simp only[cz,ba hp (cG p),aN hp,yn,EV,ai,aa,bA (aL hp),@up1 i (by have:=aL hp;omega)];unfold JW;simp[cz,EV,Tw]
def amd {α:Type}[DecidableEq α]{l k:List α}(h:l.length=k.length):(l.zip k).all (λp=>decide (p.1=p.2))=decide (l=k):=by induction l generalizing k with|nil=>(cases k with|nil=>rfl|cons=>simp at h)|cons a l ih=>cases k with|nil=>simp at h|cons b k=>simp_all
def jb {α β:Type}{l:List α}{k:List β}{i:Nat}{x:α×β}(h:(l.zip k)[i]?=some x):l[i]?=some x.1/\ k[i]?=some x.2:=by grind
def fC {α β:Type}{l:List α}{k:List β}(h:l.length=k.length):(l.zip k).length=l.length:=by rw[nD];omega
def rX {α:Type}[DecidableEq α]{l k:List α}{x:Option Γ}(h:l.length=k.length)(hx:x=if(l.zip k).all (λp=>decide (p.1=p.2))=true then some [.bool true] else some [.bool false]):x=some [.bool (decide (l=k))]:=by rw[hx,amd h];grind
def ads (p q:Pt):RF.ev (.eqv [.i,.i,.i]) [PP p,PP q]=some (.bool (decide (p=q))):=by have⟨a,b,c⟩:=p;have⟨x,y,z⟩:=q;have:RF.ev (.eqv [.i,.i,.i]) [PP ⟨a,b,c⟩,PP ⟨x,y,z⟩]=some (.bool (decide (a=x)&&(decide (b=y)&&(decide (c=z)&& true)))):=rfl;simp_all
def c28 {l k:Δ}(hl:l.length<=1000):Ans D 82 [F l,F k] [.bool (decide (l=k))]:=by refine an ⟨1001,?_⟩;unfold k28;simp only[aA,bf,cz,EV,ai,aE,aj];by_cases h:l.length=k.length;rw[ac ω];refine rX h (ct (l:=l.zip k) (st:=λi=>[.i64 (i:Int)]) (λi x self hx _=>?_) (λ_ self=>?_) (by rw[fC h];omega));have⟨hp,hq⟩:=jb hx;unfold QR;simp only[aA,cz,ba hp (cG _),aN hp,ba hq (cG _),aN hq,iC,ads,EV,ai,aa,aE,aj,bA (aL hp),@up1 i (by have:=aL hp;omega)];grind;rw[fC h];unfold QR;simp only[aA,cz,EV,ai,aa,bM,aaI];rw[ad ω,ak (λe=>h (by rw[e]))]
def adt {l k:Θ}(hl:l.length<=1000):∃N,den (bo D) N XS [] [sl I1 l,sl I1 k]=some [.bool (decide (l=k))]:=by refine⟨1001,?_⟩;unfold XS;simp only[EV,ai,aE,aj];by_cases h:l.length=k.length;rw[ac ω];refine rX h (ct (l:=l.zip k) (st:=λi=>[.i64 (i:Int)]) (λi x self hx _=>?_) (λ_ self=>?_) (by rw[fC h];omega));have⟨hp,hq⟩:=jb hx;unfold JS;simp only[ba hp (cI _),aN hp,ba hq (cI _),aN hq,cL,EV,ai,aa,aE,aj,bA (aL hp),@up1 i (by have:=aL hp;omega)];grind;rw[fC h];unfold JS;simp only[EV,ai,aa,bM,Ts];rw[ad ω,ak (λe=>h (by rw[e]))]
def PH {l k:Θ}(hl:l.length<=1000):Ans D 130 [sl I1 l,sl I1 k] [.bool (decide (l=k))]:=an (adt hl)
def Xf {l k:Θ}(hl:l.length<=1000):Ans D 313 [sl I1 l,sl I1 k] [.bool (decide (l=k))]:=an (adt hl)
def ame {l k:List Bool}(hl:l.length<=1000):Ans D 389 [sl B1 l,sl B1 k] [.bool (decide (l=k))]:=by refine an ⟨1001,?_⟩;unfold aib;simp only[EV,ai,aE,aj];by_cases h:l.length=k.length;rw[ac ω];refine rX h (ct (l:=l.zip k) (st:=λi=>[.i64 (i:Int)]) (λi x self hx _=>?_) (λ_ self=>?_) (by rw[fC h];omega));have⟨hp,hq⟩:=jb hx;unfold L8;simp only[ba hp (uo _),aN hp,ba hq (uo _),aN hq,wD,EV,ai,aa,bA (aL hp),@up1 i (by have:=aL hp;omega)];grind;rw[fC h];unfold L8;simp only[EV,ai,aa,bM,Vu];rw[ad ω,ak (λe=>h (by rw[e]))]
def I0 {l:Δ}(h:jh l):∀(d i:Nat) (p q:Pt),l[i]?=some p->l[i+d+1]?=some q->p.id<q.id|0,i,p,q,hp,hq=>h i p q hp hq|d+1,i,p,q,hp,hq=>by obtain⟨m,hm⟩:∃m,l[i+d+1]?=some m:=⟨l[i+d+1]'(by have:=aL hq;omega),ah _⟩;have h1:=I0 h d i p m hp hm;have h2:=h (i+d+1) m q hm (by rw[<-hq];congr 1);omega
def jL {l:Δ}(h:jh l){i j:Nat}{p q:Pt}(hij:i<j)(hp:l[i]?=some p)(hq:l[j]?=some q):p.id<q.id:=I0 h (j-i-1) i p q hp (by rw[show i+(j-i-1)+1=j from ω];exact hq)
def cJ {l:Δ}(h:jh l):Ids l:=by unfold Ids;rw[c9];intro i j x hi hj;rw[bg,bX] at hi hj;obtain⟨p,hp,rfl⟩:=hi;have⟨q,hq,e⟩:=hj;rcases gH i j with g|g|g;have:=jL h g hp hq;omega;exact g;have:=jL h g hq hp;omega
def LB (l:Δ)(id:Int)(m:Nat):Prop:=m<=l.length/\∀(k:Nat) (p:Pt),l[k]?=some p->(k<m->p.id<id)/\(m<=k->id<=p.id)
def PI {a b:Nat}(h:a<1000000)(k:b<1000000):dJ .shr .u64 (IntKind.u64.wrap (IntKind.i64.wrap ((a:Int)+(b:Int)))) .u64 1=some (.v (.int .u64 (((a+b)/2:Nat):Int))):=by rw[RV,ac (by decide),b5 ω ω,ny,show min (1:Int).toNat IntKind.u64.bits=1 from rfl,jq _ (by decide)];congr 3;omega
def CY {N:Nat}{f:JT}{e0 e2:PV}{l:Δ}{id:Int}(hs:jh l)(hl:l.length<=1000):∀(m i j:Nat),j-i<m->i<=j->j<=l.length->(∀(k:Nat) (p:Pt),l[k]?=some p->(k<i->p.id<id)/\(j<=k->id<=p.id))->∃P,LB l id P/\ dA (bo D) N xy [f] [e0,.i64 id,F l,sl row l,e2] m [.i64 (i:Int),.i64 (j:Int)]=f [.i64 (P:Int)]|0,i,j,h,_,_,_=>ω|m+1,i,j,h,hij,hj,hb=>by rw[bm];by_cases hlt:i<j;obtain⟨p,hp⟩:∃p,l[(i+j)/2]?=some p:=⟨l[(i+j)/2]' ω,ah _⟩;(have key:∀self:JT,den (bo D) N xy ([f]++[self]) ([e0,.i64 id,F l,sl row l,e2]++[.i64 (i:Int),.i64 (j:Int)])=if p.id<id then self [.i64 (((i+j)/2+1:Nat):Int),.i64 (j:Int)] else self [.i64 (i:Int),.i64 (((i+j)/2:Nat):Int)]:=λself=>by unfold xy;simp only[EV,aa,bA hlt,PI (show i<1000000 from ω) (show j<1000000 from ω),b5 (show-9223372036854775808<=(((i+j)/2:Nat):Int) from ω) ω,cz,ba hp (cG p),aN hp,iC,fJ,phi (ym _ _),UT,up1 (show(i+j)/2<1000000000 from ω)];by_cases c:p.id<id;rw[ad c,ad (show sgn (p.id-id)<0 by unfold sgn;rw[ad ω];decide)];rw[ac c,ac (show¬sgn (p.id-id)<0 by unfold sgn;rw[ac ω];split<;>decide)]);rw[key];by_cases c:p.id<id;rw[ad c];refine CY hs hl m _ j ω ω hj λk q hq=>⟨λhk=>?_,(hb k q hq).2⟩;by_cases e:k=(i+j)/2;subst e;rw[hp] at hq;cases hq;exact c;have:=jL hs (show k<(i+j)/2 from ω) hq hp;omega;rw[ac c];refine CY hs hl m i _ ω ω ω λk q hq=>⟨(hb k q hq).1,λhk=>?_⟩;by_cases e:k=(i+j)/2;subst e;rw[hp] at hq;cases hq;omega;have:=jL hs (show(i+j)/2<k from ω) hp hq;omega;refine⟨i,⟨ω,λk p hp=>⟨(hb k p hp).1,λh=>(hb k p hp).2 ω⟩⟩,?_⟩;unfold xy;simp only[EV,aa];rw[ac ω]
def CZ {l:Δ}{id:Int}:(∀p∈l,p.id≠id)->pos l id= -1:=λh=>by unfold pos nF;rw[eR.2 (λp hp=>ak (h p hp))];rfl
def uq {l:Δ}(hs:jh l){i:Nat}{p:Pt}(h:l[i]?=some p):pos l p.id=i:=by unfold pos nF;(have:l.findIdx? (λq=>decide (q.id=p.id))=some i:=by rw[bC];have hi:=aL h;have e:=(aD.1 h).2;refine⟨hi,by rw[e];simp,λj hj=>?_⟩;have:=jL hs hj (ah ω) h;simp;omega);rw[this];rfl
def pos_cases (l:Δ)(id:Int):(pos l id= -1/\∀p∈l,p.id≠id)\/∃(i:Nat) (p:Pt),l[i]?=some p/\ p.id=id/\ pos l id=(i:Nat):=by unfold pos nF;cases h:l.findIdx? (λq=>decide (q.id=id)) with|none=>grind|some i=>have⟨h1,h2,_⟩:=bC.1 h;grind
def ur {e0:PV}{l:Δ}{id:Int}(hs:jh l)(hl:l.length<=1000):∃P:Nat,LB l id P/\(0<=pos l id->pos l id=P)/\∀(K2 K1:K) (J:List JT),K2=(.jp K1 (.lt (.bin .lss) [.x 5,.x 4] (.br (.x 6) (.lt (.cell 0) [.x 2] (.lt (.tix 3) [.x 7,.x 5] (.lt (.elt 0 3) [.x 7,.x 8] (.lt (.cell 0) [.x 9] (.call 220 [.x 10,.x 1] (.lt (.bin .eql) [.x 11,.c (.i64 0)] (.jmp 0 [.x 12]))))))) (.jmp 0 [.c (.bool false)]))))->dA (bo D) 1001 xy [rI (bo D) 1001 K2 [] [e0,.i64 id,F l,sl row l,.i64 (l.length:Int)]] [e0,.i64 id,F l,sl row l,.i64 (l.length:Int)] 1001 [.i64 0,.i64 (l.length:Int)]=den (bo D) 1001 K1 [] [e0,.i64 id,F l,sl row l,.i64 (l.length:Int),.i64 (P:Int),.bool (decide (0<=pos l id))]:=by have hbin:=λf:JT=>CY (N:=1001) (f:=f) (e0:=e0) (e2:= .i64 (l.length:Int)) (id:=id) hs hl 1001 0 l.length ω ω ω λk p hp=>⟨λh=>ω,λh=>by have:=aL hp;omega⟩;(have uniq:∀P P2,LB l id P->LB l id P2->P=P2:=λP P2 h h'=>by rcases gH P P2 with g|g|g;obtain⟨p,hp⟩:∃p,l[P]?=some p:=⟨l[P]'(by have:=h'.1;omega),ah _⟩;have h1:=(h.2 P p hp).2 (aC _);have h2:=(h'.2 P p hp).1 g;omega;exact g;obtain⟨p,hp⟩:∃p,l[P2]?=some p:=⟨l[P2]'(by have:=h.1;omega),ah _⟩;have h1:=(h'.2 P2 p hp).2 (aC _);have h2:=(h.2 P2 p hp).1 g;omega);have⟨P,hLB,_⟩:=hbin λ_=>none;have⟨h1,h2⟩:=hLB;(have hpos:(0<=pos l id->pos l id=P)/\(0<=pos l id↔∃p,l[P]?=some p/\ p.id=id):=by rcases pos_cases l id with⟨e,hn⟩|⟨i,p,hp,he,e⟩;refine⟨λh=>ω,λh=>ω,λ⟨p,hp,he⟩=>absurd he (hn p (ax hp))⟩;(have:i=P:=by rcases gH i P with g|g|g;have:=(h2 i p hp).1 g;omega;exact g;obtain⟨q,hq⟩:∃q,l[P]?=some q:=⟨l[P]'(by have:=aL hp;omega),ah _⟩;have:=(h2 P q hq).2 ω;have:=jL hs g hq hp;omega);subst this;exact⟨λ_=>e,λ_=>⟨p,hp,he⟩,λ_=>ω⟩);refine⟨P,⟨h1,h2⟩,hpos.1,λK2 K1 J hK=>?_⟩;have⟨P2,hLB',h3⟩:=hbin (rI (bo D) 1001 K2 [] [e0,.i64 id,F l,sl row l,.i64 (l.length:Int)]);have:=uniq P P2 ⟨h1,h2⟩ hLB';subst this;refine h3.trans ?_;subst hK;simp only[EV,aa];by_cases hP:P<l.length;obtain⟨p,hp⟩:∃p,l[P]?=some p:=⟨l[P],ah _⟩;simp only[bA hP,aA,cz,ba hp (cG p),aN hp,iC,fJ,phi (ym _ _),EV];(have:decide (sgn (p.id-id)=0)=decide (0<=pos l id):=by rw[cq,IY,hpos.2];constructor;intro h;exact⟨p,hp,ω⟩;rintro⟨q,hq,h⟩;rw[hp] at hq;cases hq;omega);rw[this];rw[ac ω];rw[ak (show¬0<=pos l id by rw[hpos.2];rintro⟨p,hp,_⟩;have:=aL hp;omega)]
def eX {l:Δ}:fK l=0↔okF l:=by unfold fK okF;grind
def dR {l:Δ}(h:okF l){i:Nat}{p:Pt}(hp:l[i]?=some p):p.ok=true:=aV.1 h.2.1 p (ax hp)
def F9 {l:Δ}(h:okF l){i:Nat}{p:Pt}(hp:l[i]?=some p):decide (0<=pos l p.id)=true/\ pos l p.id=(i:Nat):=by have:=uq h.2.2 hp;grind
def adu {l:Δ}(h:okF l){i:Nat}{p:Pt}(hp:l[i]?=some p):Ans D 267 [F l,.i64 p.id] [.i64 (i:Int),.bool true]:=by have⟨P,_,h2,h1⟩:=ur (e0:=F l) (id:=p.id) h.2.2 (by have:=h.1;omega);have⟨e1,e2⟩:=F9 h hp;(have:P=i:=by have:=h2 (aZ e1);omega);subst this;refine an ⟨1001,?_⟩;unfold X3;simp[bf,cz,EV];refine(h1 _ AI [] rfl).trans ?_;simp[AI,EV,e1]
def adw {l:Δ}(h:okF l){i:Nat}{p:Pt}(hp:l[i]?=some p):Ans D 276 [F l,.i64 p.id] [.i64 (i:Int),.i64 0]:=by have h0:=phi (sX l);rw[eX.2 h] at h0;refine am ?_;unfold Q6;simp[bf,EV,h0,phi (adu h hp)]
def C4 {l:Δ}(h:okF l){i:Nat}{p:Pt}(hp:l[i]?=some p):Ans D 243 [F l,.i64 p.id] [PP p,.i64 0]:=by refine am ?_;unfold agR;simp[bf,cz,EV,phi (adw h hp),ba hp (cG p),aN hp,iC]
def adx {l:Δ}{t:Rt}(h:okF l)(ht:aR t)(hr:rok t=true){i j:Nat}{p q:Pt}(hp:l[i]?=some p)(hq:l[j]?=some q)(hne:p.id≠q.id):Ans D 151 [F l,R t,.i64 p.id,.i64 q.id] [.bool (leads t p q)]:=by have h0:=phi (IX (p:=p) (q:=q) ht);rw[lR (dR h hp) (dR h hq) hr hne] at h0;refine am ?_;unfold af0;simp[bf,bP,cT,EV,phi (C4 h hp),phi (C4 h hq),h0]
def Xg {l:Δ}(h:okF l){i:Nat}{p:Pt}(hp:l[i]?=some p):Ans D 400 [F l,.i64 p.id] [.i64 (i:Int),.bool true]:=by have⟨P,_,h2,h1⟩:=ur (e0:=F l) (id:=p.id) h.2.2 (by have:=h.1;omega);have⟨e1,e2⟩:=F9 h hp;(have:P=i:=by have:=h2 (aZ e1);omega);subst this;refine an ⟨1001,?_⟩;unfold X8;simp[bf,cz,EV];refine(h1 _ EY [] rfl).trans ?_;simp[EY,EV,e1]
def ajV {l:Δ}(h:okF l){id:Int}(hn:∀p∈l,p.id≠id):∃P:Nat,Ans D 400 [F l,.i64 id] [.i64 (P:Int),.bool false]:=by have⟨P,_,_,h1⟩:=ur (e0:=F l) (id:=id) h.2.2 (by have:=h.1;omega);refine⟨P,an ⟨1001,?_⟩⟩;unfold X8;simp[bf,cz,EV];refine(h1 _ EY [] rfl).trans ?_;simp only[CZ hn];rfl
def ptOf (l:Δ)(id:Int):Pt:=(l.find? λp=>decide (p.id=id)).getD ⟨-1,0,0⟩
def io {l:Δ}(h:okF l){i:Nat}{p:Pt}(hp:l[i]?=some p):ptOf l p.id=p:=by unfold ptOf;cases e:l.find? λq=>decide (q.id=p.id) with|none=>rw[kZ] at e;have:=e p (ax hp);simp at this|some q=>have h1:=k9 e;exact(cJ h.2.2).inj (eS e) (ax hp) (aZ h1)
def G8 {l:Δ}{id:Int}(hn:∀p∈l,p.id≠id):ptOf l id=⟨-1,0,0⟩:=by unfold ptOf;rw[kZ.2 (λp hp=>by simpa using hn p hp)];rfl
def has_cases (l:Δ)(id:Int):(∀p∈l,p.id≠id)\/∃(i:Nat) (p:Pt),l[i]?=some p/\ p.id=id:=by rcases pos_cases l id with⟨_,h⟩|⟨i,p,h1,h2,_⟩;exact .inl h;grind
def C5 {l:Δ}(h:okF l)(id:Int):Ans D 327 [F l,.i64 id] [PP (ptOf l id)]:=by have⟨P,_,h2,h1⟩:=ur (e0:=F l) (id:=id) h.2.2 (by have:=h.1;omega);refine an ⟨1001,?_⟩;unfold ahI;simp only[aA,bf,cz,EV,ai];refine(h1 _ LN [] rfl).trans ?_;unfold LN;rcases has_cases l id with hn|⟨i,p,hp,rfl⟩;have a3:RF.ev .agg [.i64 (-1),.i64 0,.i64 0]=some (PP ⟨-1,0,0⟩):=rfl;rw[CZ hn,ak (by decide)];simp only[aA,cz,EV,cw,az,a3,G8 hn];have⟨e1,e2⟩:=F9 h hp;(have:P=i:=by have:=h2 (aZ e1);omega);subst this;rw[e1];simp only[aA,cz,EV,aF,au,aw,ba hp (cG p),aN hp,iC,io h hp]
structure Crt where
 j:Int
 h:Int
 deriving DecidableEq
abbrev Υ:=List Crt
structure Held where
 n:Int
 c:Crt
 deriving DecidableEq
structure Hnd where
 i:Int
 use:Int
 deriving DecidableEq
structure Evt where
 time:Rt
 n:Int
 h:Hnd
 deriving DecidableEq
structure Due where
 n:Int
 h:Hnd
 deriving DecidableEq
structure Nod where
 id:Int
 left:Int
 right:Int
 deriving DecidableEq
structure Certs where
 next:Int
 l:List Held
 deriving DecidableEq
structure Agenda where
 s:Slots
 heap:List Evt
 w:List Int
 deriving DecidableEq
structure Clock where
 n:Rt
 p:List Pt
 q:Certs
 a:Agenda
 d:List Due
 deriving DecidableEq
structure Brk where
 p:List Int
 w:List Int
 deriving DecidableEq
structure Tree where
 root:Int
 n:List Nod
 deriving DecidableEq
structure KHeap where
 c:Clock
 heap:List Int
 deriving DecidableEq
structure KTourn where
 c:Clock
 b:Brk
 deriving DecidableEq
structure Heater where
 c:Clock
 t:Tree
 deriving DecidableEq
structure Choice where
 tag:Int
 heap:KHeap
 o:KTourn
 x:Heater
 g:KHeap
 deriving DecidableEq
def crow (c:Crt):Γ:=[.i64 c.j,.i64 c.h]
def hrow (h:Held):Γ:=[.i64 h.n,.i64 h.c.j,.i64 h.c.h]
def cg (e:Evt):Γ:=[.i64 e.time.num,.i64 e.time.den,.i64 e.n,.i64 e.h.i,.i64 e.h.use]
def cZ (d:Due):Γ:=[.i64 d.n,.i64 d.h.i,.i64 d.h.use]
def dY (n:Nod):Γ:=[.i64 n.id,.i64 n.left,.i64 n.right]
def CP (c:Crt):PV:= .agg (crow c)
def HP (h:Held):PV:= .agg (hrow h)
def EP (e:Evt):PV:= .agg (cg e)
def DP (d:Due):PV:= .agg (cZ d)
def NP (n:Nod):PV:= .agg (dY n)
def csC (c:Certs):Γ:=[.i64 c.next,sl hrow c.l]
def slC (s:Slots):Γ:=[sl I1 s.u,sl B1 s.v,sl I1 s.f]
def agC (a:Agenda):Γ:=slC a.s++[sl cg a.heap,sl I1 a.w]
def clC (c:Clock):Γ:= .i64 c.n.num:: .i64 c.n.den::sl row c.p::(csC c.q++(agC c.a++[sl cZ c.d]))
def brC (b:Brk):Γ:=[sl I1 b.p,sl I1 b.w]
def trC (t:Tree):Γ:=[.i64 t.root,sl dY t.n]
def khC (k:KHeap):Γ:=clC k.c++[sl I1 k.heap]
def ktC (k:KTourn):Γ:=clC k.c++brC k.b
def htC (k:Heater):Γ:=clC k.c++trC k.t
def bk (c:Choice):Γ:= .v (.int .u8 c.tag)::(khC c.heap++(ktC c.o++(htC c.x++khC c.g)))
def CS (c:Certs):PV:= .agg (csC c)
def SL (s:Slots):PV:= .agg (slC s)
def AG (a:Agenda):PV:= .agg (agC a)
def CL (c:Clock):PV:= .agg (clC c)
def BR (b:Brk):PV:= .agg (brC b)
def TR (t:Tree):PV:= .agg (trC t)
def KH (k:KHeap):PV:= .agg (khC k)
def KT (k:KTourn):PV:= .agg (ktC k)
def HT (k:Heater):PV:= .agg (htC k)
def CHO (c:Choice):PV:= .agg (bk c)
def yp (c:Crt):cX 0 2 (crow c)=some (CP c):=rfl
def l5 (h:Held):cX 0 3 (hrow h)=some (HP h):=rfl
def PJ (h:Held):cX 1 2 (hrow h)=some (CP h.c):=rfl
def ajW (h:Held):cX 0 0 (hrow h)=some (.i64 h.n):=rfl
def ajX (h:Held):cX 1 0 (hrow h)=some (.i64 h.c.j):=rfl
def ajY (h:Held):cX 2 0 (hrow h)=some (.i64 h.c.h):=rfl
def iT (e:Evt):cX 0 5 (cg e)=some (EP e):=rfl
def PK (d:Due):cX 0 3 (cZ d)=some (DP d):=rfl
def z8 (n:Nod):cX 0 3 (dY n)=some (NP n):=rfl
def jA (c:Crt):(crow c).length=2:=rfl
def g9 (c:Held):(hrow c).length=3:=rfl
def lu (c:Evt):(cg c).length=5:=rfl
def qu (c:Due):(cZ c).length=3:=rfl
def mN (c:Nod):(dY c).length=3:=rfl
section
variable (c:Certs)(s:Slots)(a:Agenda)(k:Clock)(b:Brk)(t:Tree)(kh:KHeap)(kt:KTourn)(ht:Heater)(ch:Choice)(cr:Crt)(h:Held)
theorem mO:RF.ev (.shape 2) [CP cr]=some (CP cr):=rfl
theorem mP:RF.ev (.cell 0) [CP cr]=some (.i64 cr.j):=rfl
theorem mQ:RF.ev (.cell 1) [CP cr]=some (.i64 cr.h):=rfl
theorem mR:RF.ev (.cell 0) [HP h]=some (.i64 h.n):=rfl
theorem pHP:RF.ev (.part 1 2) [HP h]=some (CP h.c):=rfl
theorem l6:RF.ev (.shape 2) [CS c]=some (CS c):=rfl
theorem pF:RF.ev (.cell 0) [CS c]=some (.i64 c.next):=rfl
theorem gX:RF.ev (.cell 1) [CS c]=some (sl hrow c.l):=rfl
theorem lw:RF.ev (.shape 3) [SL s]=some (SL s):=rfl
theorem lE:RF.ev (.cell 0) [SL s]=some (sl I1 s.u):=rfl
theorem oD:RF.ev (.cell 1) [SL s]=some (sl B1 s.v):=rfl
theorem l7:RF.ev (.cell 2) [SL s]=some (sl I1 s.f):=rfl
theorem iW:RF.ev (.shape 5) [AG a]=some (AG a):=rfl
theorem pAG:RF.ev (.part 0 3) [AG a]=some (SL a.s):=rfl
theorem fL:RF.ev (.cell 3) [AG a]=some (sl cg a.heap):=rfl
theorem j8:RF.ev (.cell 4) [AG a]=some (sl I1 a.w):=rfl
theorem df:RF.ev (.shape 11) [CL k]=some (CL k):=rfl
theorem gO:RF.ev (.part 0 2) [CL k]=some (R k.n):=rfl
theorem iX:RF.ev (.part 2 1) [CL k]=some (F k.p):=rfl
theorem rj:RF.ev (.part 3 2) [CL k]=some (CS k.q):=rfl
theorem sY:RF.ev (.part 5 5) [CL k]=some (AG k.a):=rfl
theorem ut:RF.ev (.cell 2) [CL k]=some (sl row k.p):=rfl
theorem iY:RF.ev (.cell 4) [CL k]=some (sl hrow k.q.l):=rfl
theorem pG:RF.ev (.cell 8) [CL k]=some (sl cg k.a.heap):=rfl
theorem qv:RF.ev (.cell 9) [CL k]=some (sl I1 k.a.w):=rfl
theorem fO:RF.ev (.cell 10) [CL k]=some (sl cZ k.d):=rfl
theorem oF:RF.ev (.shape 2) [BR b]=some (BR b):=rfl
theorem uu:RF.ev (.cell 0) [BR b]=some (sl I1 b.p):=rfl
theorem lF:RF.ev (.cell 1) [BR b]=some (sl I1 b.w):=rfl
theorem wF:RF.ev (.shape 2) [TR t]=some (TR t):=rfl
theorem ady:RF.ev (.cell 0) [TR t]=some (.i64 t.root):=rfl
theorem lx:RF.ev (.cell 1) [TR t]=some (sl dY t.n):=rfl
theorem eN:RF.ev (.shape 12) [KH kh]=some (KH kh):=rfl
theorem pKH:RF.ev (.part 0 11) [KH kh]=some (CL kh.c):=rfl
theorem cKH:RF.ev (.cell 11) [KH kh]=some (sl I1 kh.heap):=rfl
theorem jB:RF.ev (.shape 13) [KT kt]=some (KT kt):=rfl
theorem pKT:RF.ev (.part 0 11) [KT kt]=some (CL kt.c):=rfl
theorem Ga:RF.ev (.part 11 2) [KT kt]=some (BR kt.b):=rfl
theorem jR:RF.ev (.shape 13) [HT ht]=some (HT ht):=rfl
theorem pHT:RF.ev (.part 0 11) [HT ht]=some (CL ht.c):=rfl
theorem Xh:RF.ev (.part 11 2) [HT ht]=some (TR ht.t):=rfl
theorem eW:RF.ev (.shape 51) [CHO ch]=some (CHO ch):=rfl
theorem cCH:RF.ev (.cell 0) [CHO ch]=some (.v (.int .u8 ch.tag)):=rfl
theorem wG:RF.ev (.part 1 12) [CHO ch]=some (KH ch.heap):=rfl
theorem wH:RF.ev (.part 13 13) [CHO ch]=some (KT ch.o):=rfl
theorem wI:RF.ev (.part 26 13) [CHO ch]=some (HT ch.x):=rfl
theorem wJ:RF.ev (.part 39 12) [CHO ch]=some (KH ch.g):=rfl
end
def gSl (s:Slots):Bool:=decide (210<s.u.length)||decide (210<s.v.length)||decide (210<s.f.length)
def gAg (a:Agenda):Bool:=gSl a.s||decide (210<a.heap.length)||decide (210<a.w.length)
def gF (bb:Nat)(l:Δ):Bool:=(decide (bb<l.length)&& decide (l.length<64))||decide (70<l.length)
def gCl (bb:Nat)(c:Clock):Bool:=decide (40<c.q.l.length)||decide (40<c.d.length)||gF bb c.p||gAg c.a
def gKh (bb:Nat)(k:KHeap):Bool:=gCl bb k.c||decide (70<k.heap.length)
def gKt (bb:Nat)(k:KTourn):Bool:=gCl bb k.c||(decide (70<k.b.p.length)||decide (70<k.b.w.length))
def gHt (bb:Nat)(k:Heater):Bool:=gCl bb k.c||decide (70<k.t.n.length)
def gCh (bb:Nat)(c:Choice):Bool:=gKh bb c.heap||gKt bb c.o||gHt bb c.x||gKh bb c.g
def ZR (b:Nat):decide ((210:Int)<(b:Int))=decide (210<b):=cq.2 ω
def PL (b:Nat):decide ((70:Int)<(b:Int))=decide (70<b):=cq.2 ω
def amf (s:Slots):Ans D 311 [SL s] [.bool (gSl s)]:=by refine am ?_;unfold ahj gSl;simp[lw,lE,oD,l7,EV,U3,ZR];grind
def amg (a:Agenda):Ans D 223 [AG a] [.bool (gAg a)]:=by refine am ?_;unfold agx gAg;simp[iW,pAG,fL,j8,EV,Ul,ZR,phi (amf _)];grind
def c19 (l:Δ):Ans D 222 [F l] [.bool (gF 16 l)]:=by refine am ?_;unfold k19 gF;simp[bf,cz,EV,aaU,PL];grind
def Xi (c:Clock):Ans D 126 [CL c] [.bool (gCl 16 c)]:=by refine am ?_;unfold afC gCl;simp[df,iY,fO,iX,sY,EV,To,phi (c19 _),phi (amg _)];grind
def amh (b:Brk):Ans D 127 [BR b] [.bool (decide (70<b.p.length)||decide (70<b.w.length))]:=by refine am ?_;unfold afD;simp[oF,uu,lF,EV,Tp,PL];grind
def ami (t:Tree):Ans D 128 [TR t] [.bool (decide (70<t.n.length))]:=by refine am ?_;unfold afE;simp[wF,lx,EV,PL]
def d35 (k:KHeap):∃N,den (bo D) N k35 [] [KH k]=some [.bool (gKh 16 k)]:=by refine⟨1,?_⟩;unfold k35 gKh;simp[eN,pKH,cKH,EV,aar,PL,phi (Xi _)];grind
def c36 (k:KTourn):Ans D 54 [KT k] [.bool (gKt 16 k)]:=by refine am ?_;unfold k36 gKt;simp[jB,pKT,Ga,EV,aas,phi (Xi _),phi (amh _)];grind
def c37 (k:Heater):Ans D 55 [HT k] [.bool (gHt 16 k)]:=by refine am ?_;unfold k37 gHt;simp[jR,pHT,Xh,EV,aat,phi (Xi _),phi (ami _)];grind
def c7 (c:Choice):Ans D 20 [CHO c] [.bool (gCh 16 c)]:=by refine am ?_;unfold k7 gCh;simp[eW,wG,wH,wI,wJ,EV,aeI,phi (an (g:=53) (d35 _)),phi (c36 _),phi (c37 _),phi (an (g:=56) (d35 _))];grind
def Xj (a b c x y z:Int):RF.ev (.eqv [.i,.i,.i]) [.agg [.i64 a,.i64 b,.i64 c],.agg [.i64 x,.i64 y,.i64 z]]=some (.bool (decide (a=x/\ b=y/\ c=z))):=by have:RF.ev (.eqv [.i,.i,.i]) [.agg [.i64 a,.i64 b,.i64 c],.agg [.i64 x,.i64 y,.i64 z]]=some (.bool (decide (a=x)&&(decide (b=y)&&(decide (c=z)&& true)))):=rfl;simp_all
def amj (p q:Held):RF.ev (.eqv [.i,.i,.i]) [HP p,HP q]=some (.bool (decide (p=q))):=by have⟨a,b,c⟩:=p;have⟨x,y,z⟩:=q;refine(Xj ..).trans ?_;simp_all
def amk (p q:Due):RF.ev (.eqv [.i,.i,.i]) [DP p,DP q]=some (.bool (decide (p=q))):=by have⟨a,b,c⟩:=p;have⟨x,y,z⟩:=q;refine(Xj ..).trans ?_;simp_all
def adz (p q:Nod):RF.ev (.eqv [.i,.i,.i]) [NP p,NP q]=some (.bool (decide (p=q))):=by have⟨a,b,c⟩:=p;have⟨x,y,z⟩:=q;refine(Xj ..).trans ?_;simp_all
def adA (a b x y:Int):RF.ev (.eqv [.i,.i]) [.agg [.i64 a,.i64 b],.agg [.i64 x,.i64 y]]=some (.bool (decide (a=x/\ b=y))):=by have:RF.ev (.eqv [.i,.i]) [.agg [.i64 a,.i64 b],.agg [.i64 x,.i64 y]]=some (.bool (decide (a=x)&&(decide (b=y)&& true))):=rfl;simp_all
def C6 (p q:Crt):RF.ev (.eqv [.i,.i]) [CP p,CP q]=some (.bool (decide (p=q))):=by have⟨a,b⟩:=p;have⟨x,y⟩:=q;refine(adA ..).trans ?_;simp_all
def Xk (p q:Rt):RF.ev (.eqv [.i,.i]) [R p,R q]=some (.bool (decide (p=q))):=by have⟨a,b⟩:=p;have⟨x,y⟩:=q;refine(adA ..).trans ?_;simp_all
def adB (p q:Evt):RF.ev (.eqv [.i,.i,.i,.i,.i]) [EP p,EP q]=some (.bool (decide (p=q))):=by have⟨⟨a,b⟩,c,d,e⟩:=p;have⟨⟨x,y⟩,z,u,v⟩:=q;have:RF.ev (.eqv [.i,.i,.i,.i,.i]) [EP ⟨⟨a,b⟩,c,⟨d,e⟩⟩,EP ⟨⟨x,y⟩,z,⟨u,v⟩⟩]=some (.bool (decide (a=x)&&(decide (b=y)&&(decide (c=z)&&(decide (d=u)&&(decide (e=v)&& true)))))):=rfl;rw[this];congr 2;grind
def aml {s t:Slots}(h:gSl s=false):Ans D 312 [SL s,SL t] [.bool (decide (s=t))]:=by unfold gSl at h;simp at h;refine am ?_;unfold ahk;simp only[aA,lw,lE,oD,l7,EV,U4,phi (Xf (l:=s.u) (k:=t.u) ω),phi (ame (l:=s.v) (k:=t.v) ω),phi (Xf (l:=s.f) (k:=t.f) ω),aa];have⟨a,b,c⟩:=s;have⟨x,y,z⟩:=t;by_cases h1:a=x<;>by_cases h2:b=y<;>simp[h1,h2]
def amm {s t:Agenda}(h:gAg s=false):Ans D 225 [AG s,AG t] [.bool (decide (s=t))]:=by unfold gAg at h;simp only[dB,aj] at h;refine an ⟨1001,?_⟩;unfold agz;have⟨a,b,c⟩:=s;have⟨x,y,z⟩:=t;simp only[aA,iW,pAG,fL,j8,EV,ai,phi (aml h.1.1),phi (Xf (l:=c) (k:=z) (show c.length<=1000 by have:=h.2;simp only at this;omega)),aE,aj];by_cases h1:a=x;by_cases h2:c=z;subst h1;subst h2;simp only[c6,aw];by_cases h3:b.length=y.length;rw[ac ω];refine(rX (l:=b) (k:=y) h3 (ct (l:=b.zip y) (st:=λi=>[.i64 (i:Int)]) (λi x self hx _=>?_) (λ_ self=>?_) (by have:=h.1.2;rw[fC h3];simp only at this;omega))).trans ?_;have⟨hp,hq⟩:=jb hx;unfold KI;simp only[aA,fL,ba hp (lu _),aN hp,ba hq (lu _),aN hq,iT,adB,EV,ai,aa,aE,aj,bA (aL hp),@up1 i (by have:=aL hp;have:=h.1.2;simp only at this;omega)];grind;rw[fC h3];unfold KI;simp only[aA,fL,EV,ai,aa,bM,Un];simp[Agenda.mk.injEq];rw[ad ω,ak (λe=>h3 (by cases e;rfl))];rw[ac (by simp[h1]),ad h2,ak (λe=>h2 (by cases e;rfl))];rw[ad h1,ak (λe=>h1 (by cases e;rfl))]
def amn {s t:Certs}(h:s.l.length<=1000):Ans D 224 [CS s,CS t] [.bool (decide (s=t))]:=by refine an ⟨1001,?_⟩;unfold agy;have⟨a,b⟩:=s;have⟨x,y⟩:=t;simp only at h;simp only[aA,l6,pF,gX,EV,ai,aE,aj];by_cases h1:a=x;subst h1;simp only[c6,aw];by_cases h3:b.length=y.length;rw[ac ω];refine(rX (l:=b) (k:=y) h3 (ct (l:=b.zip y) (st:=λi=>[.i64 (i:Int)]) (λi x self hx _=>?_) (λ_ self=>?_) (by rw[fC h3];omega))).trans ?_;have⟨hp,hq⟩:=jb hx;unfold KG;simp only[aA,gX,ba hp (g9 _),aN hp,ba hq (g9 _),aN hq,l5,amj,EV,ai,aa,aE,aj,bA (aL hp),@up1 i (by have:=aL hp;omega)];grind;rw[fC h3];unfold KG;simp only[aA,gX,EV,ai,aa,bM,Um];simp_all;rw[ad ω,ak (λe=>h3 (by cases e;rfl))];simp_all
structure gW (s:Clock):Prop where
 q:s.q.l.length<=1000
 d:s.d.length<=1000
 p:s.p.length<=1000
 ag:gAg s.a=false
def H5 {bb:Nat}{s:Clock}(h:gCl bb s=false):gW s:=by unfold gCl gF at h;simp at h;have⟨⟨⟨h1,h2⟩,h3,h3'⟩,h4⟩:=h;exact⟨ω,ω,ω,h4⟩
def PM {s t:Clock}(h:gW s):Ans D 129 [CL s,CL t] [.bool (decide (s=t))]:=by have⟨h1,h2,h3,h4⟩:=h;have⟨a,b,c,d,e⟩:=s;have⟨x,y,z,u,v⟩:=t;simp only at h1 h2 h3 h4;refine an ⟨1001,?_⟩;unfold afF;simp only[aA,df,gO,iX,rj,sY,fO,Xk,EV,ai,aE,aj,phi (c28 (l:=b) (k:=y) ω),phi (amn (s:=c) (t:=z) ω),phi (amm (t:=u) h4)];by_cases e1:a=x;by_cases e2:b=y;by_cases e3:c=z;by_cases e4:d=u;subst e1;subst e2;subst e3;subst e4;simp only[c6,aw];by_cases e5:e.length=v.length;rw[ac ω];refine(rX (l:=e) (k:=v) e5 (ct (l:=e.zip v) (st:=λi=>[.i64 (i:Int)]) (λi x self hx _=>?_) (λ_ self=>?_) (by rw[fC e5];omega))).trans ?_;have⟨hp,hq⟩:=jb hx;unfold JR;simp only[aA,fO,ba hp (qu _),aN hp,ba hq (qu _),aN hq,PK,amk,EV,ai,aa,aE,aj,bA (aL hp),@up1 i (by have:=aL hp;omega)];grind;rw[fC e5];unfold JR;simp only[aA,fO,EV,ai,aa,bM,Tq];simp[Clock.mk.injEq];rw[ad ω,ak (λh=>e5 (by cases h;rfl))];rw[ac (by simp[e1]),ac (by simp[e2]),ac (by simp[e3]),ad e4,ak (λh=>e4 (by cases h;rfl))];rw[ac (by simp[e1]),ac (by simp[e2]),ad e3,ak (λh=>e3 (by cases h;rfl))];rw[ac (by simp[e1]),ad e2,ak (λh=>e2 (by cases h;rfl))];rw[ad e1,ak (λh=>e1 (by cases h;rfl))]
def amo {s t:Brk}(h:s.p.length<=1000)(k:s.w.length<=1000):Ans D 131 [BR s,BR t] [.bool (decide (s=t))]:=by refine am ?_;unfold afG;have⟨a,b⟩:=s;have⟨x,y⟩:=t;simp[oF,uu,lF,EV,Tt,phi (PH (l:=a) (k:=x) h),phi (PH (l:=b) (k:=y) k)];by_cases e1:a=x<;>by_cases e2:b=y<;>simp[e1]
def adC {s t:Tree}(h:s.n.length<=1000):Ans D 132 [TR s,TR t] [.bool (decide (s=t))]:=by refine an ⟨1001,?_⟩;unfold afH;have⟨a,b⟩:=s;have⟨x,y⟩:=t;simp only at h;simp only[aA,wF,ady,lx,EV,ai,aE,aj];by_cases h1:a=x;subst h1;simp only[c6,aw];by_cases h3:b.length=y.length;rw[ac ω];refine(rX (l:=b) (k:=y) h3 (ct (l:=b.zip y) (st:=λi=>[.i64 (i:Int)]) (λi x self hx _=>?_) (λ_ self=>?_) (by rw[fC h3];omega))).trans ?_;have⟨hp,hq⟩:=jb hx;unfold JU;simp only[aA,lx,ba hp (mN _),aN hp,ba hq (mN _),aN hq,z8,adz,EV,ai,aa,aE,aj,bA (aL hp),@up1 i (by have:=aL hp;omega)];grind;rw[fC h3];unfold JU;simp only[aA,lx,EV,ai,aa,bM,Tu];simp[Tree.mk.injEq];rw[ad ω,ak (λe=>h3 (by cases e;rfl))];rw[ad h1,ak (λe=>h1 (by cases e;rfl))]
def d51 {s t:KHeap}(h:gW s.c/\ s.heap.length<=1000):∃N,den (bo D) N k51 [] [KH s,KH t]=some [.bool (decide (s=t))]:=by unfold k51;have⟨a,b⟩:=s;have⟨x,y⟩:=t;simp only at h;simp[eN,pKH,cKH,EV,aau,phi (PM (t:=x) h.1),phi (PH (l:=b) (k:=y) ω)];by_cases e1:a=x<;>by_cases e2:b=y<;>simp[e1]
def ZS {bb:Nat}{s:KHeap}(h:gKh bb s=false):gW s.c/\ s.heap.length<=1000:=by unfold gKh at h;simp at h;exact⟨H5 h.1,ω⟩
def adD {s t:KHeap}(h:gW s.c/\ s.heap.length<=1000):Ans D 57 [KH s,KH t] [.bool (decide (s=t))]:=an (d51 h)
def adE {s t:KHeap}(h:gW s.c/\ s.heap.length<=1000):Ans D 60 [KH s,KH t] [.bool (decide (s=t))]:=an (d51 h)
def c51 {bb:Nat}{s t:KHeap}(h:gKh bb s=false):Ans D 57 [KH s,KH t] [.bool (decide (s=t))]:=adD (ZS h)
def c54 {bb:Nat}{s t:KHeap}(h:gKh bb s=false):Ans D 60 [KH s,KH t] [.bool (decide (s=t))]:=adE (ZS h)
def adF {s t:KTourn}(h:gW s.c/\ s.b.p.length<=1000/\ s.b.w.length<=1000):Ans D 58 [KT s,KT t] [.bool (decide (s=t))]:=by refine am ?_;unfold k52;have⟨a,b⟩:=s;have⟨x,y⟩:=t;simp only at h;simp[jB,pKT,Ga,EV,aav,phi (PM (t:=x) h.1),phi (amo (s:=b) (t:=y) ω ω)];by_cases e1:a=x<;>by_cases e2:b=y<;>simp[e1]
def adG {s t:Heater}(h:gW s.c/\ s.t.n.length<=1000):Ans D 59 [HT s,HT t] [.bool (decide (s=t))]:=by refine am ?_;unfold k53;have⟨a,b⟩:=s;have⟨x,y⟩:=t;simp only at h;simp[jR,pHT,Xh,EV,aaw,phi (PM (t:=x) h.1),phi (adC (s:=b) (t:=y) ω)];by_cases e1:a=x<;>by_cases e2:b=y<;>simp[e1]
def c52 {bb:Nat}{s t:KTourn}(h:gKt bb s=false):Ans D 58 [KT s,KT t] [.bool (decide (s=t))]:=by unfold gKt at h;simp at h;exact adF ⟨H5 h.1,ω,ω⟩
def c53 {bb:Nat}{s t:Heater}(h:gHt bb s=false):Ans D 59 [HT s,HT t] [.bool (decide (s=t))]:=by unfold gHt at h;simp at h;exact adG ⟨H5 h.1,ω⟩
end Go.Proofs.YtoeigdpfcnaaeaaGreat
namespace Go.Sym
open Go.Sym
def foldO {α β:Type}(g:β->α->Option β):β->List α->Option β|x,[]=>some x|x,a::l=>match g x a with|some y=>foldO g y l|none=>none
section
variable {Φ:PhT}{N:Nat}{b:K}{J:List JT}{e:Γ}{α β:Type}{l:List α}
def yq {g:β->α->Option β}{I:β->Prop}{S:β->Nat->Γ}{fin:β->Option Γ}{r:Option Γ}{x:β}(h0:I x)(hi:∀a acc acc',I acc->g acc a=some acc'->I acc')(hs:∀i a acc self,l[i]?=some a->I acc->den Φ N b (J++[self]) (e++S acc i)=match g acc a with|some acc'=>self (S acc' (i+1))|none=>r) (hf:∀acc self,I acc->foldO g x l=some acc->den Φ N b (J++[self]) (e++S acc l.length)=fin acc) {m:Nat} (hm:l.length<m):dA Φ N b J e m (S x 0)=match foldO g x l with|some acc=>fin acc|none=>r:=by (have:∀(k:List α) i m acc,l.drop i=k->i<=l.length->k.length<m->I acc->foldO g x l=foldO g acc k->dA Φ N b J e m (S acc i)=match foldO g acc k with|some acc=>fin acc|none=>r:=by intro k;induction k with|nil=>intro i m acc h hi' hm hI hx;obtain⟨m,rfl⟩:=ψ m;have:=nE h hi';(have hil:i=l.length:=by simpa using this);rw[bm,hil];exact hf _ _ hI hx|cons a k ih=>intro i m acc h hi' hm hI hx;obtain⟨m,rfl⟩:=ψ m;have⟨h1,h2⟩:=jz h;have:=nE h hi';simp only[aW] at hm this;rw[bm,hs i a acc _ h1 hI];have hu:foldO g acc (a::k)=match g acc a with|some y=>foldO g y k|none=>none:=rfl;rw[hu] at hx|-;cases hg:g acc a with|none=>rfl|some acc'=>rw[hg] at hx;exact ih (i+1) m _ h2 ω ω (hi a acc acc' hI hg) hx);exact this l 0 m x rfl ω hm h0 rfl
end
end Go.Sym
namespace Go.Proofs.YtoeigdpfcnaaeaaGreat
open Go.Sym Bnd
set_option maxRecDepth 100000
def qw:∀(xs:Θ) (l:List Bool),qR l xs=foldO (λl x=>if 0<=x/\ x<l.length/\ l[x.toNat]?=some false then some (l.set x.toNat true) else none) l xs|[],l=>rfl|x::xs,l=>by unfold qR foldO;by_cases h:0<=x/\ x<l.length/\ l[x.toNat]?=some false;rw[ad h,ad h];exact qw xs _;rw[ac h,ac h]
def PN {l:List Bool}{i:Nat}(h:i<l.length):RF.ev (.set 0) [sl B1 l,.i64 (i:Int),.v (.bool true)]=some (sl B1 (l.set i true)):=by rw[wb,ad ω,aG,bg,ah h];exact bc (λx=>some (PV.sl x)) (nX (f:=B1) (l:=l) (i:=i) (a:=true)).symm
def ixM {i n:Nat}(h:i<n):RF.ev .ix [.i64 (i:Int),.i64 (n:Int)]=some (.i64 (i:Int)):=by rw[ai8,ad ω]
def uv {x:Int}(h:0<=x):∃n:Nat,x=(n:Int):=⟨x.toNat,ω⟩
open Classical in def amp (s:Slots)(hf:s.f.length<=1000):Ans D 315 [SL s] [.i64 (okE (decide s.okR))]:=by refine an ⟨1001,?_⟩;unfold aho;simp only[aA,lw,lE,oD,l7,EV,ai,aa,aE,aj];(have no:∀h:¬s.okR,(some [PV.v (.int .i64 8)]:Option (List PV))=some [.i64 (okE (decide s.okR))]:=λh=>by rw[ak h];rfl);by_cases h1:s.u.length<1;rw[ad ω];exact no (λh=>by have:=h.1;omega);rw[ac ω];by_cases h2:200<s.u.length;rw[ad ω];exact no (λh=>by have:=h.2.1;omega);rw[ac ω];by_cases h3:s.v.length=s.u.length;rw[ac ω];by_cases h4:s.u.length<s.f.length;rw[ad ω];exact no (λh=>by have:=h.2.2.2.1;omega);rw[ac ω];(have hrep:RF.ev (.rep [.v (.bool false)] 1) [.v (.int .i64 (s.u.length:Int)),.v (.int .i64 (s.u.length:Int))]=some (sl B1 (List.replicate s.u.length false)):=by rw[RU,ad ⟨ω,ω,ω,ω⟩,aG];show _=some (PV.sl ((List.replicate s.u.length false).map B1));rw[sS];rfl);simp only[hrep,qe,Nf,RW,aA,EV,ai,aO];refine(yq (l:=s.f) (g:=λl x=>if 0<=x/\ x<l.length/\ l[x.toNat]?=some false then some (l.set x.toNat true) else none) (I:=λl=>l.length=s.u.length) (S:=λl i=>[sl B1 l,.i64 (i:Int)]) (r:=some [.i64 8]) (fin:=λ_=>some [.i64 (okE (decide s.okR))]) (x:=List.replicate s.u.length false) (by simp) (λa acc acc' hI hg=>?_) (λi x acc self hx hI=>?_) (λacc self hI hm=>?_) ω).trans ?_;split at hg;cases hg;simpa using hI;cases hg;unfold LH;have hi:=aL hx;simp only[aA,l7,ba hx (cI _),aN hx,cL,EV,ai,aa,bA hi];by_cases c1:x<0;rw[ad c1,ac ω];rw[ac c1];by_cases c2:(s.u.length:Int)<=x;rw[ad c2,ac (by rw[hI];omega)];rw[ac c2];obtain⟨n,rfl⟩:=uv (show 0<=x from ω);obtain⟨b,hb⟩:∃b,acc[n]?=some b:=⟨acc[n]' ω,ah _⟩;simp only[aA,l7,ba hx (cI _),aN hx,cL,ixM (show n<s.u.length from ω),aN hb,wD,PN (show n<acc.length from ω),EV,up1 (show i<1000000000 from ω)];(cases b with|true=>rw[ad rfl,ac (by rw[aG,hb];simp)]|false=>rw[ac (by simp),ad ⟨ω,ω,by rw[aG];exact hb⟩,aG]);unfold LH;simp only[aA,l7,EV,ai,aa,bM,U8];rw[<-qw] at hm;have hlist:(List.range s.u.length).length=s.u.length:=oW;refine(gy (n:=s.u.length) (P:=λi=>∀(u:Int) (b c:Bool),s.u[i]?=some u->s.v[i]?=some b->acc[i]?=some c->0<=u/\ u<=1000000/\ b≠c/\¬(b=true/\ u<1)) (st:=λi=>[.i64 (i:Int)]) (r:=some [.i64 8]) (fin:=some [.i64 0]) (λi self hi _=>?_) (λ_ self=>?_) ω).trans ?_;obtain⟨u,hu⟩:∃u,s.u[i]?=some u:=⟨s.u[i],ah _⟩;obtain⟨b,hb⟩:∃b,s.v[i]?=some b:=⟨s.v[i]' ω,ah _⟩;obtain⟨c,hc⟩:∃c,acc[i]?=some c:=⟨acc[i]' ω,ah _⟩;have hP:(∀(u':Int) (b' c':Bool),s.u[i]?=some u'->s.v[i]?=some b'->acc[i]?=some c'->0<=u'/\ u'<=1000000/\ b'≠c'/\¬(b'=true/\ u'<1))↔(0<=u/\ u<=1000000/\ b≠c/\¬(b=true/\ u<1)):=⟨λh=>h u b c hu hb hc,λh u' b' c' h1 h2 h3=>by rw[hu] at h1;rw[hb] at h2;rw[hc] at h3;cases h1;cases h2;cases h3;exact h⟩;unfold LG;simp only[hP,aA,lE,oD,ba hu (cI _),aN hu,cL,ba hb (uo _),aN hb,wD,ixM hi,aN hc,EV,aa,bA hi,U7,up1 (show i<1000000000 from ω)];by_cases c1:u<0;simp only[ad c1,az];rw[ac (λh=>ω)];simp only[ac c1];by_cases c2:1000000<u;simp only[ad c2,az];rw[ac (λh=>ω)];simp only[ac c2];cases b<;>cases c<;>simp only[gR,au,az,aw,dM,ne_eq,c6,jy,oa,eM,iN,iL,show(true==false)=false from rfl,show(false==true)=false from rfl,reduceCtorEq];rw[ad ω];by_cases c3:u<1;rw[ad c3,ac (λh=>ω)];rw[ac c3,ad ω];unfold LG;simp only[EV,aa,bM,U6];(have:(∀i,i<s.u.length->∀(u:Int) (b c:Bool),s.u[i]?=some u->s.v[i]?=some b->acc[i]?=some c->0<=u/\ u<=1000000/\ b≠c/\¬(b=true/\ u<1))↔s.okR:=by unfold Slots.okR;constructor;intro h;exact⟨ω,ω,h3,ω,acc,hm,λi u b c hu hb hc=>h i (aL hu) u b c hu hb hc⟩;rintro⟨_,_,_,_,l,hl,h⟩ i hi u b c hu hb hc;rw[hm] at hl;cases hl;exact h i u b c hu hb hc);by_cases hr:s.okR;rw[ad (this.2 hr),aq hr];rfl;rw[ac (λh=>hr (this.1 h)),ak hr];rfl;rw[<-qw];(cases hm:qR (List.replicate s.u.length false) s.f with|some l=>rfl|none=>exact no (λh=>by have⟨_,_,_,_,l,hl,_⟩:=h;rw[hm] at hl;cases hl));rw[ad ω];exact no (λh=>h3 h.2.2.1)
def evLess (x y:Evt):Bool:=decide (sgn (crs x.time y.time)<0)||(decide (sgn (crs x.time y.time)=0)&& decide (x.n<y.n))
def iZ (e:Evt):RF.ev (.shape 5) [EP e]=some (EP e):=rfl
def pEP (e:Evt):RF.ev (.part 0 2) [EP e]=some (R e.time):=rfl
def Aa (e:Evt):RF.ev (.cell 2) [EP e]=some (.i64 e.n):=rfl
def adH {x y:Evt}(hx:aR x.time)(hy:aR y.time):Ans D 317 [EP x,EP y] [.bool (evLess x y)]:=by refine am ?_;unfold ahq evLess;simp[iZ,pEP,Aa,EV,phi (al1 hx hy),Vb];grind
def HD (h:Hnd):PV:= .agg [.i64 h.i,.i64 h.use]
def rk (h:Hnd):RF.ev (.shape 2) [HD h]=some (HD h):=rfl
def ux (h:Hnd):RF.ev (.cell 0) [HD h]=some (.i64 h.i):=rfl
def adI (h:Hnd):RF.ev (.cell 1) [HD h]=some (.i64 h.use):=rfl
def ZT (e:Evt):cX 3 2 (cg e)=some (HD e.h):=rfl
def ZU (e:Evt):cX 3 0 (cg e)=some (.i64 e.h.i):=rfl
def ajZ (e:Evt):cX 2 0 (cg e)=some (.i64 e.n):=rfl
def i7 (s:Slots)(h:Hnd):Prop:=0<=h.i/\ s.v[h.i.toNat]?=some true/\ s.u[h.i.toNat]?=some h.use
open Classical in def Xl {s:Slots}(hs:s.v.length=s.u.length)(h:Hnd):Ans D 319 [SL s,HD h] [.bool (decide (i7 s h))]:=by refine am ?_;unfold ahs;simp only[aA,lw,rk,ux,lE,oD,EV,ai,aa,Vc];by_cases h1:0<=h.i;rw[ad h1];have⟨n,hn⟩:=uv h1;have⟨ix,us⟩:=h;simp only at hn;subst hn;by_cases h2:n<s.u.length;obtain⟨u,hu⟩:∃u,s.u[n]?=some u:=⟨s.u[n],ah _⟩;obtain⟨b,hb⟩:∃b,s.v[n]?=some b:=⟨s.v[n]' ω,ah _⟩;simp only[bA h2,aA,ux,adI,lE,ba hu (cI _),aN hu,cL,ba hb (uo _),aN hb,wD,EV];(have:decide (i7 s ⟨(n:Int),us⟩)=(b&& decide (u=us)):=by rw[eK];simp[i7,hu,hb]);grind;rw[ac (show¬((n:Int)<(s.u.length:Int)) from ω),ak (λhh=>by have h3:=(aD.1 hh.2.2).1;exact h2 h3)];rw[ac h1,ak (λhh=>h1 hh.1)]
def sC (a:Agenda):Prop:=a.w.length=a.s.u.length/\ a.heap.length+a.s.f.length=a.s.u.length/\∀(i:Nat) (b:Bool) (w u:Int),a.s.v[i]?=some b->a.w[i]?=some w->a.s.u[i]?=some u->if b=true then 0<=w/\∃e,a.heap[w.toNat]?=some e/\ e.h=⟨i,u⟩ else w= -1
open Classical in def amq {a:Agenda}(hs:a.s.v.length=a.s.u.length)(hl:a.s.u.length<=1000)(hf:a.s.f.length<=1000):Ans D 316 [AG a] [.bool (decide (sC a))]:=by have cAG0:RF.ev (.cell 0) [AG a]=some (sl I1 a.s.u):=rfl;have cAG1:RF.ev (.cell 1) [AG a]=some (sl B1 a.s.v):=rfl;have cAG2:RF.ev (.cell 2) [AG a]=some (sl I1 a.s.f):=rfl;refine an ⟨1001,?_⟩;unfold ahp;simp only[aA,iW,cAG0,cAG2,fL,j8,EV,ai,aE,aj,b5 (show-9223372036854775808<=(a.s.u.length:Int)-(a.s.f.length:Int) from ω) ω];by_cases h1:a.w.length=a.s.u.length;rw[ac ω];by_cases h2:a.heap.length+a.s.f.length=a.s.u.length;rw[ac ω];refine(gy (n:=a.s.u.length) (P:=λi=>∀(b:Bool) (w u:Int),a.s.v[i]?=some b->a.w[i]?=some w->a.s.u[i]?=some u->if b=true then 0<=w/\∃e,a.heap[w.toNat]?=some e/\ e.h=⟨i,u⟩ else w= -1) (st:=λi=>[.i64 (i:Int)]) (r:=some [.bool false]) (fin:=some [.bool true]) (λi self hi _=>?_) (λ_ self=>?_) ω).trans ?_;obtain⟨u,hu⟩:∃u,a.s.u[i]?=some u:=⟨a.s.u[i],ah _⟩;obtain⟨b,hb⟩:∃b,a.s.v[i]?=some b:=⟨a.s.v[i]' ω,ah _⟩;obtain⟨w,hw⟩:∃w,a.w[i]?=some w:=⟨a.w[i]' ω,ah _⟩;have hP:(∀(b':Bool) (w' u':Int),a.s.v[i]?=some b'->a.w[i]?=some w'->a.s.u[i]?=some u'->if b'=true then 0<=w'/\∃e,a.heap[w'.toNat]?=some e/\ e.h=⟨i,u'⟩ else w'= -1)↔(if b=true then 0<=w/\∃e,a.heap[w.toNat]?=some e/\ e.h=⟨i,u⟩ else w= -1):=⟨λh=>h b w u hb hw hu,λh b' w' u' h1 h2 h3=>by rw[hu] at h3;rw[hb] at h1;rw[hw] at h2;cases h1;cases h2;cases h3;exact h⟩;unfold LI;simp only[hP,aA,cAG1,fL,j8,ba hb (uo _),aN hb,wD,ba hw (cI _),aN hw,cL,EV,ai,aa,bA hi,Va,up1 (show i<1000000000 from ω),aE,aj];(cases b with|false=>simp only[au,aw,dM,az];by_cases c1:w= -1;rw[ac (by simp[c1]),ad c1];rw[ad c1,ac c1]|true=>simp only[sQ,aw,dM,az];by_cases c1:w<0;rw[ad c1,ac (λh=>ω)];rw[ac c1];obtain⟨n,rfl⟩:=uv (show 0<=w from ω);by_cases c2:n<a.heap.length;obtain⟨e,he⟩:∃e,a.heap[n]?=some e:=⟨a.heap[n],ah _⟩;rw[ac ω];simp only[aA,fL,pAG,ba he (lu _),aN he,ZU,ZT,phi (Xl hs _),EV,aE,aj,aG,he,cd,exists_eq_left',up1 (show i<1000000000 from ω)];by_cases c3:e.h.i=(i:Int);rw[ac (by simp[c3])];(have hlive:i7 a.s e.h↔e.h=⟨i,u⟩:=by unfold i7;rw[c3,aG,hb,hu];generalize e.h=q at c3|-;have⟨x,y⟩:=q;simp only at c3;subst c3;simp only[cd,Hnd.mk.injEq,iN];exact⟨λh=>h.2.symm,λh=>⟨ω,h.symm⟩⟩);by_cases c4:e.h=⟨i,u⟩;rw[ac (by simp[hlive.2 c4]),ad ⟨ω,c4⟩];rw[ad (λh=>c4 (hlive.1 h)),ac (λh=>c4 h.2)];rw[ad c3,ac (λh=>c3 (by rw[h.2]))];rw[ad ω,ac (λh=>by have⟨_,e,he,_⟩:=h;rw[aG] at he;exact c2 (aL he))]);unfold LI;simp only[EV,aa,bM,U9];have:(∀i,i<a.s.u.length->∀(b:Bool) (w u:Int),a.s.v[i]?=some b->a.w[i]?=some w->a.s.u[i]?=some u->if b=true then 0<=w/\∃e,a.heap[w.toNat]?=some e/\ e.h=⟨i,u⟩ else w= -1)↔sC a:=⟨λh=>⟨h1,h2,λi b w u hb hw hu=>h i (aL hu) b w u hb hw hu⟩,λh i _=>h.2.2 i⟩;by_cases hr:sC a;rw[ad (this.2 hr),aq hr];rw[ac (λh=>hr (this.1 h)),ak hr];rw[ad ω,ak (λh=>h2 h.2.1)];rw[ad ω,ak (λh=>h1 h.1)]
def oI (e:Evt):Prop:=rok e.time=true/\ 0<=e.n/\ e.n<=1000000
def eF (a:Agenda):Prop:=a.s.okR/\ sC a/\(∀e∈a.heap,oI e)/\(a.heap.map (·.n)).Nodup/\∀(i:Nat) (e p:Evt),a.heap[i+1]?=some e->a.heap[i/2]?=some p->evLess e p=false
def PO {i:Nat}(h:i<1000000):dJ .quo .i64 (IntKind.i64.wrap (((i+1:Nat):Int)-1)) .i64 2=some (.i64 ((i/2:Nat):Int)):=by rw[yi ω,FD,ac (by decide),jr ω,b5 ω ω];rfl
open Classical in def adJ {a:Agenda}(hl:a.heap.length<=1000)(hf:a.s.f.length<=1000)(h64:∀e∈a.heap,aR e.time):Ans D 228 [AG a] [.i64 (okE (decide (eF a)))]:=by refine an ⟨1001,?_⟩;unfold agE;(have no:∀h:¬eF a,(some [PV.v (.int .i64 8)]:Option (List PV))=some [.i64 (okE (decide (eF a)))]:=λh=>by rw[ak h];rfl);simp only[aA,iW,pAG,EV,phi (amp a.s hf),ul,aa];by_cases h1:a.s.okR;have h1':=h1;have⟨g1,g2,g3,g4,_⟩:=h1';rw[ad h1];simp only[EV,phi (amq g3 ω hf),aE,aj];by_cases h2:sC a;rw[ac (by simp[h2])];refine(gy (n:=a.heap.length) (P:=λi=>∀e,a.heap[i]?=some e->oI e/\∀k,k<i->∀e',a.heap[k]?=some e'->e'.n≠e.n) (st:=λi=>[.i64 (i:Int)]) (r:=some [.i64 8]) (fin:=some [.i64 (okE (decide (∀(i:Nat) (e p:Evt),a.heap[i+1]?=some e->a.heap[i/2]?=some p->evLess e p=false)))]) (λi self hi _=>?_) (λ_ self=>?_) ω).trans ?_;obtain⟨e,he⟩:∃e,a.heap[i]?=some e:=⟨a.heap[i],ah _⟩;have hP:(∀e',a.heap[i]?=some e'->oI e'/\∀k,k<i->∀x,a.heap[k]?=some x->x.n≠e'.n)↔(oI e/\∀k,k<i->∀x,a.heap[k]?=some x->x.n≠e.n):=⟨λh=>h e he,λh e' h1=>by rw[he] at h1;cases h1;exact h⟩;unfold KO;simp only[hP,aA,fL,ba he (lu _),aN he,iT,pEP,Aa,phi (Xa (h64 e (ax he))),ul,EV,ai,aa,bA hi];(cases c1:rok e.time with|false=>simp only[au,aw];rw[ac (λh=>by rw[h.1.1] at c1;cases c1)]|true=>simp only[az];by_cases c2:e.n<0;rw[ad c2,ac (λh=>by have:=h.1.2;omega)];rw[ac c2];by_cases c3:1000000<e.n;rw[ad c3,ac (λh=>by have:=h.1.2;omega)];rw[ac c3];refine(gy (n:=i) (P:=λk=>∀x,a.heap[k]?=some x->x.n≠e.n) (st:=λi=>[.i64 (i:Int)]) (r:=some [.i64 8]) (fin:=self [.i64 ((i+1:Nat):Int)]) (λk self' hk _=>?_) (λ_ self'=>?_) ω).trans ?_;obtain⟨x,hx⟩:∃x,a.heap[k]?=some x:=⟨a.heap[k]' ω,ah _⟩;have hQ:(∀y,a.heap[k]?=some y->y.n≠e.n)↔x.n≠e.n:=⟨λh=>h x hx,λh y hy=>by rw[hx] at hy;cases hy;exact h⟩;unfold KN;simp only[hQ,aA,fL,ba hx (lu _),aN hx,ajZ,Aa,EV,aa,bA hk,up1 (show k<1000000000 from ω)];by_cases c4:x.n=e.n;rw[ad c4,ac (by simp[c4])];rw[ac c4,ad c4];unfold KN;simp only[EV,aa,bM,Ut,up1 (show i<1000000000 from ω)];by_cases c5:∀k,k<i->∀x,a.heap[k]?=some x->x.n≠e.n;rw[ad c5,ad ⟨⟨c1,ω,ω⟩,c5⟩];rw[ac c5,ac (λh=>c5 h.2)]);unfold KO;simp only[aA,fL,EV,ai,aa,bM,Us];refine(gy (n:=a.heap.length-1) (P:=λi=>∀e p,a.heap[i+1]?=some e->a.heap[i/2]?=some p->evLess e p=false) (st:=λi=>[.i64 ((i+1:Nat):Int)]) (r:=some [.i64 8]) (fin:=some [.i64 0]) (λi self hi _=>?_) (λ_ self=>?_) ω).trans ?_;obtain⟨e,he⟩:∃e,a.heap[i+1]?=some e:=⟨a.heap[i+1],ah _⟩;obtain⟨p,hp⟩:∃p,a.heap[i/2]?=some p:=⟨a.heap[i/2]' ω,ah _⟩;have hQ:(∀e' p',a.heap[i+1]?=some e'->a.heap[i/2]?=some p'->evLess e' p'=false)↔evLess e p=false:=⟨λh=>h e p he hp,λh e' p' h1 h2=>by rw[he] at h1;rw[hp] at h2;cases h1;cases h2;exact h⟩;unfold KM;simp only[hQ,aA,fL,ba he (lu _),aN he,iT,ba hp (lu _),aN hp,PO (show i<1000000 from ω),phi (adH (h64 e (ax he)) (h64 p (ax hp))),qN,EV,ai,aa,bA (aL he),up1 (show i+1<1000000000 from ω)];cases evLess e p<;>simp;unfold KM;simp only[aA,fL,EV,ai,aa,Ur];rw[ac ω];have:(∀i,i<a.heap.length-1->∀e p,a.heap[i+1]?=some e->a.heap[i/2]?=some p->evLess e p=false)↔∀(i:Nat) (e p:Evt),a.heap[i+1]?=some e->a.heap[i/2]?=some p->evLess e p=false:=⟨λh i e p he hp=>h i (by have:=aL he;omega) e p he hp,λh i _=>h i⟩;by_cases hr:∀(i:Nat) (e p:Evt),a.heap[i+1]?=some e->a.heap[i/2]?=some p->evLess e p=false;rw[ad (this.2 hr),aq hr];rfl;rw[ac (λh=>hr (this.1 h)),ak hr];rfl;(have:(∀i,i<a.heap.length->∀e,a.heap[i]?=some e->oI e/\∀k,k<i->∀e',a.heap[k]?=some e'->e'.n≠e.n)↔((∀e∈a.heap,oI e)/\(a.heap.map (·.n)).Nodup):=by rw[rK];constructor;intro h;refine⟨λe he=>?_,λi j x hj hi hjx=>?_⟩;have⟨i,hi⟩:=aH.1 he;exact(h i (aL hi) e hi).1;rw[bg,bX] at hi hjx;obtain⟨e,he,rfl⟩:=hi;have⟨e',he',h'⟩:=hjx;exact(h i (aL he) e he).2 j hj e' he' h';rintro⟨h3,h4⟩ i hi e he;refine⟨h3 e (ax he),λk hk e' he' hn=>?_⟩;exact h4 i k e.n hk (by rw[bg,he];rfl) (by rw[bg,he',cy,hn]));by_cases hr:(∀e∈a.heap,oI e)/\(a.heap.map (·.n)).Nodup;rw[ad (this.2 hr)];congr 4;rw[cq];exact⟨λh=>⟨h1,h2,hr.1,hr.2,h⟩,λh=>h.2.2.2.2⟩;rw[ac (λh=>hr (this.1 h))];exact no (λh=>hr ⟨h.2.2.1,h.2.2.2.1⟩);rw[ad h2];exact no (λh=>h2 h.2.1);rw[ac h1];exact no (λh=>h1 h.1)
def Crt.ok (c:Crt):Prop:=0<=c.j/\ c.j<=65535/\ 0<=c.h/\ c.h<=65535/\ c.j≠c.h
instance (c:Crt):Decidable c.ok:=by unfold Crt.ok;infer_instance
def adK (c:Crt):Ans D 314 [CP c] [.bool (decide c.ok)]:=by refine am ?_;unfold ahn Crt.ok;simp[mO,mP,mQ,EV,U5];by_cases h1:0<=c.j<;>by_cases h2:c.j<=65535<;>by_cases h3:0<=c.h<;>by_cases h4:c.h<=65535<;>simp[h1,h2,h3,h4]
def Xm (c:Crt):Ans D 323 [CP c] [.bool (decide c.ok)]:=by have m1:RF.ev (.mm false) [.i64 c.j,.i64 c.h]=some (.i64 (min c.j c.h)):=rfl;have m2:RF.ev (.mm true) [.i64 c.j,.i64 c.h]=some (.i64 (max c.j c.h)):=rfl;refine am ?_;unfold ahw Crt.ok;simp[mO,mP,mQ,m1,m2,EV,Vf];by_cases h1:0<=c.j<;>by_cases h2:c.j<=65535<;>by_cases h3:0<=c.h<;>by_cases h4:c.h<=65535<;>simp[h1,h2,h3,h4,Int.le_min,Int.max_le]
def dQ (c:Certs):Prop:=c.l.length<=200/\ 0<=c.next/\ c.next<=1000000/\∀(i:Nat) (h:Held),c.l[i]?=some h->h.c.ok/\ 0<=h.n/\ h.n<c.next/\(∀g,0<i->c.l[i-1]?=some g->g.n<h.n)/\∀k,k<i->∀g,c.l[k]?=some g->g.c≠h.c
open Classical in def adL (c:Certs):Ans D 226 [CS c] [.i64 (okE (decide (dQ c)))]:=by refine an ⟨1001,?_⟩;unfold agA;(have no:∀h:¬dQ c,(some [PV.v (.int .i64 8)]:Option (List PV))=some [.i64 (okE (decide (dQ c)))]:=λh=>by rw[ak h];rfl);simp only[aA,l6,pF,gX,EV,ai,aa];by_cases h1:200<c.l.length;rw[ad ω];exact no (λh=>by have:=h.1;omega);rw[ac ω];by_cases h2:c.next<0;rw[ad h2];exact no (λh=>by have:=h.2.1;omega);rw[ac h2];by_cases h3:1000000<c.next;rw[ad h3];exact no (λh=>by have:=h.2.2.1;omega);rw[ac h3];refine(gy (n:=c.l.length) (P:=λi=>∀h,c.l[i]?=some h->h.c.ok/\ 0<=h.n/\ h.n<c.next/\(∀g,0<i->c.l[i-1]?=some g->g.n<h.n)/\∀k,k<i->∀g,c.l[k]?=some g->g.c≠h.c) (st:=λi=>[.i64 (i:Int)]) (r:=some [.i64 8]) (fin:=some [.i64 0]) (λi self hi _=>?_) (λ_ self=>?_) ω).trans ?_;obtain⟨h,hh⟩:∃h,c.l[i]?=some h:=⟨c.l[i],ah _⟩;have hP:(∀h',c.l[i]?=some h'->h'.c.ok/\ 0<=h'.n/\ h'.n<c.next/\(∀g,0<i->c.l[i-1]?=some g->g.n<h'.n)/\∀k,k<i->∀g,c.l[k]?=some g->g.c≠h'.c)↔(h.c.ok/\ 0<=h.n/\ h.n<c.next/\(∀g,0<i->c.l[i-1]?=some g->g.n<h.n)/\∀k,k<i->∀g,c.l[k]?=some g->g.c≠h.c):=⟨λx=>x h hh,λx h' e=>by rw[hh] at e;cases e;exact x⟩;(have inner:∀(f:JT) (e0 e2 e3 e4 e5 e6 e7 e8 e10 e11 e12 e13 e14 e16 e17 e18 e19 e20:PV),den (bo D) 1001 uL [f,self] [e0,CS c,e2,e3,e4,e5,e6,e7,e8,.i64 (i:Int),e10,e11,e12,e13,e14,HP h,e16,e17,e18,e19,e20,.v (.bool false)]=if(∀k,k<i->∀g,c.l[k]?=some g->g.c≠h.c) then self [.i64 ((i+1:Nat):Int)] else some [.i64 8]:=λf e0 e2 e3 e4 e5 e6 e7 e8 e10 e11 e12 e13 e14 e16 e17 e18 e19 e20=>by unfold uL;simp only[EV,au,aw];refine(gy (m:=1001) (n:=i) (P:=λk=>∀g,c.l[k]?=some g->g.c≠h.c) (st:=λi=>[.i64 (i:Int)]) (r:=some [.i64 8]) (fin:=self [.i64 ((i+1:Nat):Int)]) (λk self' hk _=>?_) (λ_ self'=>?_) ω).trans ?_;obtain⟨g,hg⟩:∃g,c.l[k]?=some g:=⟨c.l[k]' ω,ah _⟩;have hQ:(∀y,c.l[k]?=some y->y.c≠h.c)↔g.c≠h.c:=⟨λx=>x g hg,λx y hy=>by rw[hg] at hy;cases hy;exact x⟩;unfold KJ;simp only[hQ,aA,gX,ba hg (g9 _),aN hg,PJ,pHP,C6,EV,aa,bA hk,up1 (show k<1000000000 from ω)];by_cases c4:g.c=h.c;rw[ad c4,ac (by simp[c4])];rw[ac c4,ad c4];unfold KJ;simp only[EV,aa,bM,Up,up1 (show i<1000000000 from ω)];by_cases hq:∀k,k<i->∀g,c.l[k]?=some g->g.c≠h.c;rw[ad hq,ad hq];rw[ac hq,ac hq]);unfold KK;simp only[hP,aA,pF,gX,ba hh (g9 _),aN hh,l5,pHP,mR,phi (adK _),EV,ai,aa,bA hi,aE,aj];by_cases c1:h.c.ok;rw[ac (mI c1)];by_cases c2:h.n<0;rw[ad c2,ac (λx=>by have:=x.2.1;omega)];unfold uL;simp only[EV,dM,az];rw[ac c2];by_cases c3:c.next<=h.n;rw[ad c3,ac (λx=>by have:=x.2.2.1;omega)];unfold uL;simp only[EV,dM,az];rw[ac c3];(cases i with|zero=>rw[ac ω];refine(inner ..).trans ?_;rw[ad (λk hk=>ω),ad ⟨c1,ω,ω,λg h0=>ω,λk hk=>ω⟩]|succ j=>obtain⟨g,hg⟩:∃g,c.l[j]?=some g:=⟨c.l[j]' ω,ah _⟩;rw[ad ω];simp only[aA,mR,yi (show j<1000000000 from ω),ba hg (g9 _),aN hg,ajW,EV];by_cases c4:h.n<=g.n;rw[aq c4,ac (λx=>by have:=x.2.2.2.1 g ω (by simpa using hg);omega)];unfold uL;simp only[EV,dM,az];rw[ak c4];refine(inner ..).trans ?_;by_cases c5:∀k,k<j+1->∀g,c.l[k]?=some g->g.c≠h.c;rw[ad c5,ad ⟨c1,ω,ω,λg' _ hg'=>by rw[show j+1-1=j from ω,hg] at hg';cases hg';omega,c5⟩];rw[ac c5,ac (λx=>c5 x.2.2.2.2)]);rw[ad c1,ac (λx=>c1 x.1)];unfold uL;simp only[EV,dM,az];unfold KK;simp only[aA,gX,EV,ai,aa,bM,Uo];have:(∀i,i<c.l.length->∀h,c.l[i]?=some h->h.c.ok/\ 0<=h.n/\ h.n<c.next/\(∀g,0<i->c.l[i-1]?=some g->g.n<h.n)/\∀k,k<i->∀g,c.l[k]?=some g->g.c≠h.c)↔dQ c:=⟨λh=>⟨ω,ω,ω,λi x hx=>h i (aL hx) x hx⟩,λh i _=>h.2.2.2 i⟩;by_cases hr:dQ c;rw[ad (this.2 hr),aq hr];rfl;rw[ac (λh=>hr (this.1 h)),ak hr];rfl
end Go.Proofs.YtoeigdpfcnaaeaaGreat
