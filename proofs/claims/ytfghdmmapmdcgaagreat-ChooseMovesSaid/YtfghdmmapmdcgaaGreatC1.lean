import Derived.Test.YtfghdmmapmdcgaaGreatM3
import Derived.Test.YtfghdmmapmdcgaaGreatP1
import Derived.Test.YtfghdmmapmdcgaaGreatBcT
import Derived.IntWalk
set_option linter.unusedVariables false
set_option linter.unusedSimpArgs false
set_option linter.defProp false
noncomputable section
namespace Go.Sym
open Go.Sym
section
variable {Φ:PhT}{N:Nat}{b:K}{J:List JT}{e:List PV}
theorem dQ {n:Nat}{st:Nat→List PV}{fin:Option (List PV)}(hs: ∀i self,i<n→den Φ N b (J++[self]) (e++st i)=self (st (i+1)))
  (hf: ∀self,den Φ N b (J++[self]) (e++st n)=fin): ∀m,n<m→denW Φ N b J e m (st 0)=fin:=by
 have: ∀d i m,i+d=n→d<m→denW Φ N b J e m (st i)=fin:=by
  intro d;induction d with
  |zero=>
   intro i m h hm;obtain⟨m,rfl⟩: ∃m',m=m'+1:=⟨m-1,by omega⟩;rw[denW_succ,show i=n by omega]
   exact hf _
  |succ d ih=>
   intro i m h hm;obtain⟨m,rfl⟩: ∃m',m=m'+1:=⟨m-1,by omega⟩;rw[denW_succ,hs i _ (by omega)];exact ih (i+1) m (by omega) (by omega)
 exact fun m hm=>this n 0 m (by omega) hm
theorem N8 {n:Nat}{st:Nat→List PV}{P:Nat→Prop}{fin r:Option (List PV)}(hs: ∀i self,i<n→(∀j,j<i→P j)→P i→den Φ N b (J++[self]) (e++st i)=self (st (i+1)))
  (hr: ∀i self,i<n→(∀j,j<i→P j)→¬P i→den Φ N b (J++[self]) (e++st i)=r)
  (hf:(∀j,j<n→P j)→ ∀self,den Φ N b (J++[self]) (e++st n)=fin) {m:Nat} (hm:n<m):((∀j,j<n→P j)→denW Φ N b J e m (st 0)=fin)∧((¬ ∀j,j<n→P j)→denW Φ N b J e m (st 0)=r):=by
 have: ∀d i m,i+d=n→d<m→(∀j,j<i→P j)→((∀j,j<n→P j)→denW Φ N b J e m (st i)=fin)∧((¬ ∀j,j<n→P j)→denW Φ N b J e m (st i)=r):=by
  intro d;induction d with
  |zero=>
   intro i m h hm hp;obtain⟨m,rfl⟩: ∃m',m=m'+1:=⟨m-1,by omega⟩;have hin:i=n:=by omega
   subst hin;refine⟨fun h=>?_,fun h=>absurd hp h⟩;rw[denW_succ];exact hf h _
  |succ d ih=>
   intro i m h hm hp;obtain⟨m,rfl⟩: ∃m',m=m'+1:=⟨m-1,by omega⟩;rw[denW_succ];by_cases hi:P i
   ·rw[hs i _ (by omega) hp hi];exact ih (i+1) m (by omega) (by omega) fun j hj=>by
     by_cases e:j=i
     ·rw[e];exact hi
     ·exact hp j (by omega)
   ·rw[hr i _ (by omega) hp hi];exact⟨fun h=>absurd (h i (by omega)) hi,fun _=>rfl⟩
 exact this n 0 m (by omega) hm (fun j hj=>by omega)
open Classical in
theorem run_if {n:Nat}{st:Nat→List PV}{P:Nat→Prop}{fin r:Option (List PV)}(hs: ∀i self,i<n→(∀j,j<i→P j)→den Φ N b (J++[self]) (e++st i)=if P i then self (st (i+1)) else r)
  (hf:(∀j,j<n→P j)→ ∀self,den Φ N b (J++[self]) (e++st n)=fin) {m:Nat} (hm:n<m):denW Φ N b J e m (st 0)=if(∀j,j<n→P j) then fin else r:=by
 have:=N8 (n:=n) (st:=st) (P:=P) (fin:=fin) (r:=r) (fun i self h1 h2 h3=>by rw[hs i self h1 h2,if_pos h3]) (fun i self h1 h2 h3=>by rw[hs i self h1 h2,if_neg h3]) hf hm;by_cases h: ∀j,j<n→P j
 ·rw[if_pos h];exact this.1 h
 ·rw[if_neg h];exact this.2 h
end
end Go.Sym
namespace Go.Proofs.YtfghdmmapmdcgaaGreat
open Go.Sym Bnd
set_option maxRecDepth 100000
def U (n:Nat):PV:= .v (.int .u64 (n:Int))
def I64 (n:Int):Prop:= -9223372036854775808≤n∧n≤9223372036854775807
theorem phi {g:FuncId}{vs rs:List PV}(h:Ans D g vs rs):PhiS D g vs=some rs:=RZ h
theorem ans_of {g:FuncId}{ss:List Sh}{m:Nat}{vs rs:List PV}{k:K}(hk:Kok D g k)(hs:shs D.toDcf g=some (ss,m))(ha:gr ss vs=true)(hd: ∃N,den (PhiS D) N k [] vs=some rs)(hl:rs.length=m:=by first|rfl|(split<;>rfl)|(split<;>split<;>rfl)|(split<;>first|rfl|(split<;>first|rfl|split<;>rfl))):Ans D g vs rs:=Go.Sym.ans_of hk hs ha hd hl
theorem c116 {n:Int}(h:I64 n):Ans D 116 [.i64 n] [U n.natAbs]:=by
 obtain⟨h1,h2⟩:=h;refine ans_of LF TG rfl ⟨1,?_⟩;unfold BW;simp only[EV,decide_eq_true_eq];by_cases hn:n<0
 ·rw[if_pos hn,gg,gg];unfold U
  congr 4
  omega
 ·rw[if_neg hn,gg];unfold U
  congr 4
  omega
theorem vG {n:Int}(h:I64 n):Ans D 223 [.i64 n] [U n.natAbs]:=by
 obtain⟨h1,h2⟩:=h;refine ans_of Mv Ux rfl ⟨1,?_⟩;unfold CQ;simp only[EV,decide_eq_true_eq];by_cases hn:n<0
 ·rw[if_pos hn,gg,gg,IntKind.wrap_i64,IntKind.wrap_i64];unfold U
  congr 4
  omega
 ·rw[if_neg hn,gg];unfold U
  congr 4
  omega
theorem vH {Φ:PhT}{N:Nat}{f:JT}{p q:PV}: ∀(n a b:Nat),b<n→denW Φ N rN [f] [p,q] n [U b,U a]=f [U (Nat.gcd b a)]
 |0,a,b,h=>by omega
 |n+1,a,b,h=>by
  rw[denW_succ];unfold rN U;simp only[EV,decide_eq_true_eq,vE];by_cases hb:0<b
  ·rw[if_pos (by omega),if_neg (by omega)];simp only[EV];have:=vH (Φ:=Φ) (N:=N) (f:=f) (p:=p) (q:=q) n b (a% b) (by have:=Nat.mod_lt a hb;omega);unfold rN U at this;rw[←Nat.gcd_rec b a] at this;rw[←this];rfl
  ·rw[if_neg (by omega)];have:b=0:=by omega
   subst this;rw[Nat.gcd_zero_left]
theorem PJ (a b:Nat):Ans D 115 [U a,U b] [U (Nat.gcd b a)]:=by
 refine ans_of LE TF rfl ⟨b+1,?_⟩;unfold BV;simp only[EV];rw[vH _ _ _ (dN b)];unfold FJ U;simp only[EV]
theorem qf {Φ:PhT}{N:Nat}{f:JT}{p q:PV}: ∀(n a b:Nat),b<n→denW Φ N rU [f] [p,q] n [U b,U a]=f [U (Nat.gcd b a)]
 |0,a,b,h=>by omega
 |n+1,a,b,h=>by
  rw[denW_succ];unfold rU U;simp only[EV,vE,ai,decide_eq_false_iff_not];by_cases hb:0<b
  ·rw[if_pos (by omega),if_neg (by omega)];simp only[EV];have:=qf (Φ:=Φ) (N:=N) (f:=f) (p:=p) (q:=q) n b (a% b) (by have:=Nat.mod_lt a hb;omega);unfold rU U at this;rw[←Nat.gcd_rec b a] at this;rw[←this];rfl
  ·rw[if_neg (by omega)];have:b=0:=by omega
   subst this;rw[Nat.gcd_zero_left]
theorem PK (a b:Nat):Ans D 222 [U a,U b] [U (Nat.gcd b a)]:=by
 refine ans_of Mu Uw rfl ⟨b+1,?_⟩;unfold CO;simp only[EV];rw[qf _ _ _ (dN b)];unfold GQ U;simp only[EV]
def R (r:Rt):PV:= .agg [.i64 r.num,.i64 r.den]
def In64 (r:Rt):Prop:=I64 r.num∧I64 r.den
def rok (r:Rt):Bool:=decide (1≤r.den)&& !decide (r.num= -9223372036854775808)&& decide (Nat.gcd r.num.natAbs r.den.natAbs=1)
def okE (b:Bool):Int:=if b then 0 else 8
theorem Aq {d:Int}(h:0≤d)(k:d≤9223372036854775807):PV.v (.int .u64 (IntKind.u64.wrap d))=U d.natAbs:=by
 unfold U;rw[gg]
 congr 2
 omega
theorem c43 {r:Rt}(h:In64 r):Ans D 43 [R r] [.i64 (okE (rok r))]:=by
 obtain⟨⟨n1,n2⟩,d1,d2⟩:=h;refine ans_of Pn s43 rfl ⟨1,?_⟩;unfold k43 R;simp only[EV,decide_eq_true_eq,if_true,be,Nat.reduceAdd,phi (c116 ⟨n1,n2⟩)];by_cases hd:r.den<1
 ·rw[if_pos hd];unfold rok;rw[decide_eq_false (by omega)];rfl
 ·rw[if_neg hd];by_cases hn:r.num= -9223372036854775808
  ·rw[if_pos hn];unfold rok;rw[decide_eq_true hn];simp[okE]
  ·rw[if_neg hn,Aq (by omega) d2,phi (PJ _ _)];simp only[EV,U,decide_eq_true_eq];have hg:0<Nat.gcd r.num.natAbs r.den.natAbs:=dC _ (by omega);unfold rok;by_cases h1:(Nat.gcd r.num.natAbs r.den.natAbs)=1
   ·rw[if_neg (by omega),decide_eq_true h1,decide_eq_true (show 1≤r.den by omega),decide_eq_false hn]
    rfl
   ·rw[if_pos (by omega),decide_eq_false h1,mR];rfl
theorem vI {r:Rt}(h:In64 r):Ans D 128 [R r] [.i64 (okE (rok r))]:=by
 obtain⟨⟨n1,n2⟩,d1,d2⟩:=h;refine ans_of LM TM rfl ⟨1,?_⟩;unfold B4 R;simp only[EV,decide_eq_true_eq,if_true,be,Nat.reduceAdd,phi (vG ⟨n1,n2⟩)];by_cases hd:r.den<1
 ·rw[if_pos hd];unfold rok;rw[decide_eq_false (by omega)];rfl
 ·rw[if_neg hd];by_cases hn:r.num= -9223372036854775808
  ·rw[if_pos hn];unfold rok;rw[decide_eq_true hn];simp[okE]
  ·rw[if_neg hn,Aq (by omega) d2,phi (PK _ _)];simp only[EV,U,ai,decide_eq_false_iff_not];unfold rok;rw[pL];by_cases h1:(Nat.gcd r.num.natAbs r.den.natAbs)=1
   ·rw[if_neg (by omega),decide_eq_true h1,decide_eq_true (show 1≤r.den by omega),decide_eq_false hn]
    rfl
   ·rw[if_pos (by omega),decide_eq_false h1,mR];rfl
def A3 (r:Rt):Bool:=decide (r.num.natAbs≤1073741824)&& decide (r.den≤1024)
def asked (r:Rt):Int:=if rok r then(if A3 r then 0 else 2) else 8
theorem c44 {r:Rt}(h:In64 r):Ans D 44 [R r] [.i64 (asked r)]:=by
 refine ans_of Po s44 rfl ⟨1,?_⟩;unfold k44;have h0:=phi (c43 h);unfold R at h0⊢;simp only[EV,if_true,be,Nat.reduceAdd,h0,phi (c116 h.1),ai,decide_eq_false_iff_not,U,decide_eq_true_eq];unfold asked okE;cases rok r with
 |false=>rfl
 |true=>
  rw[if_neg (by simp)];unfold A3;by_cases h1:1073741824<(r.num.natAbs:Int)
  ·rw[if_pos h1,decide_eq_false (show¬r.num.natAbs≤1073741824 by omega)]
   rfl
  ·rw[if_neg h1,decide_eq_true (show r.num.natAbs≤1073741824 by omega)]
   by_cases h2:1024<r.den
   ·rw[if_pos h2,decide_eq_false (by omega)];rfl
   ·rw[if_neg h2,decide_eq_true (by omega)];rfl
theorem c64 {r:Rt}(h:In64 r):Ans D 64 [R r] [.i64 (asked r)]:=by
 refine ans_of Pv s64 rfl ⟨1,?_⟩;unfold k64;have h0:=phi (vI h);unfold R at h0⊢;simp only[EV,if_true,be,Nat.reduceAdd,h0,ai,decide_eq_false_iff_not,decide_eq_true_eq];unfold asked okE;cases rok r with
 |false=>rfl
 |true=>
  rw[if_neg (by simp)];unfold A3;by_cases h1:1073741824<r.num
  ·rw[if_pos h1,decide_eq_false (show¬r.num.natAbs≤1073741824 by omega)]
   rfl
  ·rw[if_neg h1];by_cases h3:r.num< -1073741824
   ·rw[if_pos h3,decide_eq_false (show¬r.num.natAbs≤1073741824 by omega)]
    rfl
   ·rw[if_neg h3,decide_eq_true (show r.num.natAbs≤1073741824 by omega)]
    by_cases h2:1024<r.den
    ·rw[if_pos h2,decide_eq_false (by omega)];rfl
    ·rw[if_neg h2,decide_eq_true (by omega)];rfl
def row (p:Pt):List PV:=[.i64 p.id,.i64 p.a,.i64 p.b]
def PP (p:Pt):PV:= .agg (row p)
theorem V7 (p:Pt):Ans D 239 [PP p] [.i64 (okE p.ok)]:=by
 refine ans_of MD UF rfl ⟨1,?_⟩;unfold C1 PP row;simp only[EV,if_true,be,Nat.reduceAdd,decide_eq_true_eq];unfold Pt.ok okE zS
 repeat' split
 all_goals simp_all
 all_goals omega
theorem PL (p:Pt):Ans D 270 [PP p] [.i64 (okE p.ok)]:=by
 refine ans_of MY UY rfl ⟨1,?_⟩;unfold Dk PP row;simp only[EV,He,Hf,if_true,be,Nat.reduceAdd,decide_eq_true_eq];unfold Pt.ok okE zS
 repeat' split
 all_goals simp_all
 all_goals omega
end Go.Proofs.YtfghdmmapmdcgaaGreat
namespace Go.Sym
open Go.Sym
section
variable {Φ:PhT}{N:Nat}{b:K}{J:List JT}{e:List PV}{α β:Type}{l:List α}
theorem dG {i:Nat}{a:α}{k:List α}(h:l.drop i=a::k):l[i]?=some a∧l.drop (i+1)=k:=by
 have hi:i<l.length:=by
  rcases jh i l.length with g|g
  ·exact g
  ·rw[List.drop_eq_nil_of_le g] at h;cases h
 rw[bG hi] at h;cases h;exact⟨ac hi,rfl⟩
theorem gk {i:Nat}{k:List α}(h:l.drop i=k)(hi:i≤l.length):i+k.length=l.length:=by
 rw[←h,bu];omega
theorem eY {p:α→Bool}{st:Nat→List PV}{ret:Nat→Option (List PV)}{fin:Option (List PV)}(hs: ∀i a self,l[i]?=some a→den Φ N b (J++[self]) (e++st i)=if p a=true then ret i else self (st (i+1)))
  (hf: ∀self,den Φ N b (J++[self]) (e++st l.length)=fin) {m:Nat} (hm:l.length<m):denW Φ N b J e m (st 0)=(l.findIdx? p).elim fin ret:=by
 have: ∀(k:List α) i m,l.drop i=k→i≤l.length→k.length<m→denW Φ N b J e m (st i)=(k.findIdx? p).elim fin (fun j=>ret (j+i)):=by
  intro k;induction k with
  |nil=>
   intro i m h hi hm;obtain⟨m,rfl⟩: ∃m',m=m'+1:=⟨m-1,by omega⟩;have:=gk h hi;rw[denW_succ,show i=l.length by simpa using this]
   exact hf _
  |cons a k ih=>
   intro i m h hi hm;obtain⟨m,rfl⟩: ∃m',m=m'+1:=⟨m-1,by omega⟩;obtain⟨h1,h2⟩:=dG h;have:=gk h hi;rw[denW_succ,hs i a _ h1,jM];simp only[aD] at hm this;cases hp:p a with
   |true=>simp
   |false=>
    simp only[ad,if_false];rw[ih (i+1) m h2 (by omega) (by omega)];cases k.findIdx? p<;>simp[bZ,jb 1 i]
 have:=this l 0 m rfl (by omega) hm;rw[this];cases l.findIdx? p<;>rfl
theorem run_list {p:α→Bool}{st:Nat→List PV}{fin r:Option (List PV)}(hs: ∀i a self,l[i]?=some a→(l.take i).all p=true→den Φ N b (J++[self]) (e++st i)=if p a=true then self (st (i+1)) else r)
  (hf:l.all p=true→ ∀self,den Φ N b (J++[self]) (e++st l.length)=fin) {m:Nat} (hm:l.length<m):denW Φ N b J e m (st 0)=if l.all p=true then fin else r:=by
 have: ∀(k:List α) i m,l.drop i=k→i≤l.length→k.length<m→(l.take i).all p=true→denW Φ N b J e m (st i)=if k.all p=true then fin else r:=by
  intro k;induction k with
  |nil=>
   intro i m h hi hm ht;obtain⟨m,rfl⟩: ∃m',m=m'+1:=⟨m-1,by omega⟩;have:=gk h hi;have hil:i=l.length:=by simpa using this
   rw[hil,ii] at ht;rw[denW_succ,hil];exact hf ht _
  |cons a k ih=>
   intro i m h hi hm ht;obtain⟨m,rfl⟩: ∃m',m=m'+1:=⟨m-1,by omega⟩;obtain⟨h1,h2⟩:=dG h;have:=gk h hi;rw[denW_succ,hs i a _ h1 ht,bL];simp only[aD] at hm this;cases hp:p a with
   |false=>simp
   |true=>
    simp only[if_true,cR];refine ih (i+1) m h2 (by omega) (by omega) ?_;rw[cG,h1,i8,ht];simp[hp]
 exact this l 0 m rfl (by omega) hm (by simp)
theorem er {g:β→α→β}{I:Nat→β→Prop}{S:β→Nat→List PV}{fin:β→Option (List PV)}{x:β}(h0:I 0 x)(hi: ∀i a acc,l[i]?=some a→I i acc→I (i+1) (g acc a))(hs: ∀i a acc self,l[i]?=some a→I i acc→den Φ N b (J++[self]) (e++S acc i)=self (S (g acc a) (i+1)))
  (hf: ∀acc self,I l.length acc→den Φ N b (J++[self]) (e++S acc l.length)=fin acc) {m:Nat} (hm:l.length<m):denW Φ N b J e m (S x 0)=fin (l.foldl g x)∧I l.length (l.foldl g x):=by
 have: ∀(k:List α) i m acc,l.drop i=k→i≤l.length→k.length<m→I i acc→denW Φ N b J e m (S acc i)=fin (k.foldl g acc)∧I l.length (k.foldl g acc):=by
  intro k;induction k with
  |nil=>
   intro i m acc h hi' hm hI;obtain⟨m,rfl⟩: ∃m',m=m'+1:=⟨m-1,by omega⟩;have:=gk h hi';have hil:i=l.length:=by simpa using this
   rw[hil] at hI;rw[denW_succ,hil];exact⟨hf _ _ hI,hI⟩
  |cons a k ih=>
   intro i m acc h hi' hm hI;obtain⟨m,rfl⟩: ∃m',m=m'+1:=⟨m-1,by omega⟩;obtain⟨h1,h2⟩:=dG h;have:=gk h hi';simp only[aD] at hm this;rw[denW_succ,hs i a acc _ h1 hI,bI];exact ih (i+1) m _ h2 (by omega) (by omega) (hi i a acc h1 hI)
 exact this l 0 m x rfl (by omega) hm h0
end
section
variable {α:Type}{f:α→List PV}{l:List α}
theorem tixM {i z:Nat}{a:α}(h:l[i]?=some a)(hz:(f a).length=z):RF.ev (.tix z) [.sl (l.map f),.v (.int .i64 (i:Int))]=some (.i64 (i:Int)):=by
 rw[Tu,if_pos (by omega),aq,aI,h];simp only[aZ,hz,if_true]
theorem eltM {i o n:Nat}{a:α}(h:l[i]?=some a):RF.ev (.elt o n) [.sl (l.map f),.v (.int .i64 (i:Int))]=rowPart o n (f a):=by
 rw[Ts,if_pos (by omega),aq,aI,h];rfl
theorem up1 {i:Nat}(h:i<1000000000):IntKind.i64.wrap ((i:Int)+1)=((i+1:Nat):Int):=by rw[bU (by omega) (by omega)];rfl
theorem m9 {i:Nat}(h:i<1000000000):IntKind.i64.wrap (((i+1:Nat):Int)-1)=(i:Int):=by rw[bU (by omega) (by omega)];omega
theorem get_lt {i:Nat}{a:α}(h:l[i]?=some a):i<l.length:=(aj.1 h).1
theorem if_lt {i n:Nat}{γ:Type}{x y:γ}(h:i<n):(if(i:Int)<(n:Int) then x else y)=x:=if_pos (by omega)
theorem if_ge {n:Nat}{γ:Type}{x y:γ}:(if(n:Int)<(n:Int) then x else y)=y:=if_neg (by omega)
theorem subM:RF.ev .sub [.sl (l.map f),.v (.int .i64 0),.v (.int .i64 (l.length:Int))]=some (.sl (l.map f)):=by
 rw[qa,if_pos ⟨by omega,by omega,by rw[aa];omega⟩,aq];simp only[mU,bS];rw[aR (by simp)]
theorem dc {bytes z:Nat}{k:List α}(h:(l.length+k.length)*bytes≤140737488355328)(hz: ∀a,(f a).length=z):RF.ev (.app bytes z) [.sl (l.map f),.v (.int .i64 (l.length:Int)),.sl (k.map f)]=some (.sl ((l++k).map f)):=by
 rw[Tt,if_pos]
 ·rw[aq,aR (by simp)];simp
 ·rw[aa,aa,aq];refine⟨by omega,by omega,h,?_⟩;cases k with
  |nil=>rfl
  |cons a k=>simp[elsOk',hz]
end
def jP {α:Type}(p:α→Bool)(l:List α):Int:=(l.findIdx? p).elim (-1) fun i=>(i:Int)
theorem Ad {α:Type}{p:α→Bool}{l:List α}:0≤jP p l↔l.any p=true:=by
 unfold jP;cases h:l.findIdx? p with
 |none=>
  rw[bO] at h;simp only[Option.elim_none,eE];constructor
  ·intro h;omega
  ·rintro⟨x,h1,h2⟩;rw[h x h1] at h2;cases h2
 |some i=>
  simp only[Option.elim_some,eE];obtain⟨h1,h2,_⟩:=ba.1 h;exact⟨fun _=>⟨_,List.getElem_mem h1,h2⟩,fun _=>by omega⟩
theorem qx {α:Type}{p:α→Bool}{l:List α}:decide (0≤jP p l)=l.any p:=by
 rw[cj,decide_eq_true_eq];exact Ad
end Go.Sym
namespace Go.Proofs.YtfghdmmapmdcgaaGreat
open Go.Sym Bnd
set_option maxRecDepth 100000
def sgn (n:Int):Int:=if n<0 then-1 else if 0<n then 1 else 0
theorem uw {n:Int}{m:Nat}(h:n% 18446744073709551616=(m:Int)):PV.v (.int .u64 (IntKind.u64.wrap n))=U m:=by rw[gg,h];rfl
theorem wu {n:Nat}(h:n<18446744073709551616):IntKind.u64.wrap (n:Int)=(n:Int):=by rw[gg];omega
theorem R9 (n:Nat):intB .shr .u64 (n:Int) .u64 32=some (.v (.int .u64 ((n/4294967296:Nat):Int))):=by
 rw[E3,if_neg (by decide),show min (32:Int).toNat IntKind.u64.bits=32 from rfl,dm _ (by decide)]
 rfl
theorem A4 {n:Nat}(h:n<18446744073709551616):intB .and .u64 (n:Int) .u64 4294967295=some (.v (.int .u64 ((n% 4294967296:Nat):Int))):=by
 rw[i_and];show some (PV.v (.int .u64 (IntKind.u64.wrap (((BitVec.ofInt 64 (n:Int)&&& BitVec.ofInt 64 4294967295).toNat:Nat):Int))))=_
 rw[Am h,wu (by omega)]
theorem nc {a b:Nat}(h:a+b<18446744073709551616):intB .add .u64 (a:Int) .u64 (b:Int)=some (.v (.int .u64 ((a+b:Nat):Int))):=by
 rw[i_add,←Int.natCast_add,wu h]
theorem nf {a b:Nat}(h:a*b<18446744073709551616):intB .mul .u64 (a:Int) .u64 (b:Int)=some (.v (.int .u64 ((a*b:Nat):Int))):=by
 rw[i_mul,←eT,wu h]
theorem PM {x y:Nat}(hx:x<18446744073709551616)(hy:y<18446744073709551616):Ans D 289 [U x,U y] [U (x*y/18446744073709551616),U (x*y% 18446744073709551616)]:=by
 refine ans_of M4 U5 rfl ⟨1,?_⟩;have b0:=fU (a:=x% 4294967296) (b:=y% 4294967296) (by omega) (by omega);have b1:=fU (a:=x/4294967296) (b:=y% 4294967296) (by omega) (by omega);have b2:=fU (a:=x% 4294967296) (b:=y/4294967296) (by omega) (by omega);have b3:=fU (a:=x/4294967296) (b:=y/4294967296) (by omega) (by omega);have hh:=R3 hx hy;have hl:x*y/18446744073709551616<18446744073709551616:=by
  have:x*y≤18446744073709551615*18446744073709551615:=dx (by omega) (by omega);omega
 have s1:(x/4294967296)*(y/4294967296)+((x/4294967296)*(y% 4294967296)+(x% 4294967296)*(y% 4294967296)/4294967296)/4294967296<18446744073709551616:=by omega
 unfold Dq U;simp only[EV,A4 hx,A4 hy,R9,f_bin,nf (show x% 4294967296*(y% 4294967296)<18446744073709551616 by omega),nf (show x/4294967296*(y% 4294967296)<18446744073709551616 by omega),
  nf (show x% 4294967296*(y/4294967296)<18446744073709551616 by omega),nf (show x/4294967296*(y/4294967296)<18446744073709551616 by omega),
  nc (show x/4294967296*(y% 4294967296)+x% 4294967296*(y% 4294967296)/4294967296<18446744073709551616 by omega),
  A4 (show x/4294967296*(y% 4294967296)+x% 4294967296*(y% 4294967296)/4294967296<18446744073709551616 by omega),
  nc (show(x/4294967296*(y% 4294967296)+x% 4294967296*(y% 4294967296)/4294967296)% 4294967296+x% 4294967296*(y/4294967296)<18446744073709551616 by omega),
  nc s1,nc (show _<18446744073709551616 from hh▸hl)]
 rw[hh,←eT,gg];rfl
def W (neg:Bool)(m:Nat):PV:= .agg [.bool neg,U (m/18446744073709551616),U (m% 18446744073709551616)]
theorem me {a:Int}(h:I64 a):a.natAbs≤9223372036854775808:=by obtain⟨h1,h2⟩:=h;omega
theorem Ff {a b:Int}(h:I64 a)(k:I64 b):a.natAbs*b.natAbs≤85070591730234615865843651857942052864:=dx (me h) (me k)
theorem PN {a b:Int}(h:I64 a)(k:I64 b):Ans D 213 [.i64 a,.i64 b] [W (decide (a<0) !=decide (b<0)) (a.natAbs*b.natAbs)]:=by
 refine ans_of Mn Uq rfl ⟨1,?_⟩;have h1:=me h;have h2:=me k;unfold CH;simp only[EV,phi (c116 h),phi (c116 k),phi (PM (show a.natAbs<18446744073709551616 by omega) (show b.natAbs<18446744073709551616 by omega))]
 rfl
theorem V8 (a:Int):Ans D 287 [.i64 a] [.bool false]:=by
 refine ans_of M2 U3 rfl ⟨1,?_⟩;unfold Do;simp only[EV,decide_true,ak]
theorem V9 (a:Int):Ans D 395 [.i64 a] [.bool false]:=by
 refine ans_of NV VU rfl ⟨1,?_⟩;unfold Eg;simp only[EV,decide_true,ak]
theorem sgn_cases (a b:Int):sgn (a-b)=if a<b then-1 else if b<a then 1 else 0:=by
 unfold sgn;by_cases h:a<b
 ·rw[if_pos (by omega),if_pos h]
 ·rw[if_neg (by omega),if_neg h];by_cases k:b<a
  ·rw[if_pos (by omega),if_pos k]
  ·rw[if_neg (by omega),if_neg k]
theorem PO (a b:Int):Ans D 211 [.i64 a,.i64 b] [.i64 (sgn (a-b))]:=by
 refine ans_of Ml Uo rfl ⟨1,?_⟩;unfold CF;simp only[EV,phi (V8 _),ad,if_false,decide_eq_true_eq,sgn_cases]
 repeat' split
 all_goals rfl
theorem oB (a b:Int):Ans D 354 [.i64 a,.i64 b] [.i64 (sgn (a-b))]:=by
 refine ans_of NG VE rfl ⟨1,?_⟩;unfold D2;simp only[EV,phi (V9 _),ad,if_false,decide_eq_true_eq,sgn_cases]
 repeat' split
 all_goals rfl
theorem Wa (a:Nat):Ans D 359 [U a] [.bool false]:=by
 refine ans_of NH VF rfl ⟨1,?_⟩;unfold D3 U;simp only[EV,decide_true,ak]
theorem Wb (a b:Nat):Ans D 288 [U a,U b] [.i64 (sgn ((a:Int)-b))]:=by
 have h:=fun a=>phi (Wa a);refine ans_of M3 U4 rfl ⟨1,?_⟩;unfold Dp;unfold U at h⊢;simp only[EV,h,ad,if_false,decide_eq_true_eq,sgn_cases]
 repeat' split
 all_goals rfl
theorem Wc {n k:Bool}(a b:Nat):Ans D 212 [W n a,W k b] [.i64 (sgn ((a:Int)-b))]:=by
 refine ans_of Mm Up rfl ⟨1,?_⟩;unfold CG W;simp only[EV,if_true,be,Nat.reduceAdd,phi (Wb _ _),sgn_cases,ai,decide_eq_false_iff_not];generalize hp:((a/18446744073709551616:Nat):Int)=p;generalize hq:((b/18446744073709551616:Nat):Int)=q;generalize hr:((a% 18446744073709551616:Nat):Int)=r;generalize hs:((b% 18446744073709551616:Nat):Int)=s;by_cases h1:p<q
 ·simp only[if_pos h1,if_pos (show(a:Int)<b by omega),Int.reduceNeg,Int.reduceEq,not_false_eq_true,if_true]
 ·by_cases h2:q<p
  ·simp only[if_neg h1,if_pos h2,if_neg (show¬(a:Int)<b by omega),if_pos (show(b:Int)<a by omega),Int.reduceEq,not_false_eq_true,if_true]
  ·simp only[if_neg h1,if_neg h2,not_true_eq_false,if_false];by_cases h3:r<s
   ·rw[if_pos h3,if_pos (show(a:Int)<b by omega)]
   ·rw[if_neg h3,if_neg (show¬(a:Int)<b by omega)]
    by_cases h4:s<r
    ·rw[if_pos h4,if_pos (show(b:Int)<a by omega)]
    ·rw[if_neg h4,if_neg (show¬(b:Int)<a by omega)]
theorem Ar (a b:Bool):max (okE a) (okE b)=okE (a&& b):=by cases a<;>cases b<;>rfl
theorem mm2 (a b:Int):RF.ev (.mm true) [.i64 a,.i64 b]=some (.i64 (max a b)):=rfl
theorem shapeR (r:Rt):RF.ev (.shape 2) [R r]=some (R r):=rfl
theorem cellR0 (r:Rt):RF.ev (.cell 0) [R r]=some (.i64 r.num):=rfl
theorem cellR1 (r:Rt):RF.ev (.cell 1) [R r]=some (.i64 r.den):=rfl
theorem Wd {r s:Rt}(h:In64 r)(k:In64 s):Ans D 210 [R r,R s] [.i64 (okE (rok r&& rok s))]:=by
 refine ans_of Mk Un rfl ⟨1,?_⟩;unfold CE;simp only[den_lt,shapeR,EV,phi (c43 h),phi (c43 k),mm2,Ar]
def crs (r s:Rt):Int:=r.num*s.den-s.num*r.den
theorem jy {b:Bool}{α:Type}{x y:α}:(if(!decide (okE b=0))=true then x else y)=if b=true then y else x:=by cases b<;>rfl
theorem dJ {r:Rt}(h:rok r=true):1≤r.den:=by
 unfold rok at h;simp only[au,decide_eq_true_eq] at h;exact h.1.1
theorem eM (a b:Int):((a.natAbs*b.natAbs:Nat):Int)=if 0≤a*b then a*b else-(a*b):=by
 rw[←js];split<;>omega
theorem N9 (n:Int):sgn (-n)= -sgn n:=by unfold sgn;repeat' split;all_goals omega
theorem Oa (n:Int): -1≤sgn n∧sgn n≤1:=by unfold sgn;repeat' split;all_goals omega
theorem kw {r s:Rt}(h:In64 r)(k:In64 s):Ans D 117 [R r,R s] (if(rok r&& rok s)=true then [.i64 (sgn (crs r s)),.i64 0] else [.i64 0,.i64 8]):=by
 refine ans_of LG TH rfl ⟨1,?_⟩;unfold BX;simp only[den_lt,shapeR,cellR0,cellR1,EV,phi (Wd h k),jy,phi (PO _ _),phi (PN h.1 k.2),phi (PN k.1 h.2),phi (Wc _ _)];cases hok:rok r&& rok s with
 |false=>rfl
 |true=>
  simp only[au] at hok;have d1:=dJ hok.1;have d2:=dJ hok.2;simp only[if_true,FK,EV];have p1:(0≤r.num*s.den)↔0≤r.num:=by
   constructor
   ·intro h;rcases Int.lt_or_le r.num 0 with g|g
    ·have:=dz g (show 0<s.den by omega);omega
    ·exact g
   ·intro h;exact mT h (by omega)
  have p2:(0≤s.num*r.den)↔0≤s.num:=by
   constructor
   ·intro h;rcases Int.lt_or_le s.num 0 with g|g
    ·have:=dz g (show 0<r.den by omega);omega
    ·exact g
   ·intro h;exact mT h (by omega)
  by_cases h1:r.num<0<;>by_cases h2:s.num<0
  ·rw[decide_eq_true h1,decide_eq_true h2];simp only[bne_self_eq_false,ad,if_false,if_true];rw[eM,eM,if_neg (show¬0≤r.num*s.den by omega),if_neg (show¬0≤s.num*r.den by omega)]
   unfold crs;rw[show-(r.num*s.den)- -(s.num*r.den)= -(r.num*s.den-s.num*r.den) by omega,N9]
   have:=Oa (r.num*s.den-s.num*r.den);rw[show(0:Int)- -sgn (r.num*s.den-s.num*r.den)=sgn (r.num*s.den-s.num*r.den) by omega,bU (by omega) (by omega)]
   rfl
  ·rw[decide_eq_true h1,decide_eq_false h2];have e1:sgn (r.num-s.num)= -1:=by unfold sgn;rw[if_pos (by omega)]
   have e2:sgn (crs r s)= -1:=by unfold sgn crs;rw[if_pos (by omega)]
   rw[e1,e2];rfl
  ·rw[decide_eq_false h1,decide_eq_true h2];have e1:sgn (r.num-s.num)=1:=by unfold sgn;rw[if_neg (by omega),if_pos (by omega)]
   have e2:sgn (crs r s)=1:=by unfold sgn crs;rw[if_neg (by omega),if_pos (by omega)]
   rw[e1,e2];rfl
  ·rw[decide_eq_false h1,decide_eq_false h2];simp only[bne_self_eq_false,ad,if_false];rw[eM,eM,if_pos (show 0≤r.num*s.den by omega),if_pos (show 0≤s.num*r.den by omega)]
   rfl
theorem We {x y:Nat}(hx:x<18446744073709551616)(hy:y<18446744073709551616):Ans D 368 [U x,U y] [W false (x*y)]:=by
 refine ans_of NL VJ rfl ⟨1,?_⟩;have b0:=fU (a:=x% 4294967296) (b:=y% 4294967296) (by omega) (by omega);have b1:=fU (a:=x/4294967296) (b:=y% 4294967296) (by omega) (by omega);have b2:=fU (a:=x% 4294967296) (b:=y/4294967296) (by omega) (by omega);have b3:=fU (a:=x/4294967296) (b:=y/4294967296) (by omega) (by omega);have sp:=uO (x:=x) (y:=y);have q32: ∀n:Nat,n<18446744073709551616→intB .quo .u64 (n:Int) .u64 4294967296=some (.v (.int .u64 ((n/4294967296:Nat):Int))):=fun n h=>by
  rw[EZ,if_neg (by decide),fV (by omega),gg]
  congr 3
  omega
 have r32: ∀n:Nat,intB .rem .u64 (n:Int) .u64 4294967296=some (.v (.int .u64 ((n% 4294967296:Nat):Int))):=fun n=>by
  rw[vE,if_neg (by decide),jT (by omega)];rfl
 generalize hA:x/4294967296*(y/4294967296)=A at*;generalize hB:x/4294967296*(y% 4294967296)=B at*;generalize hC:x% 4294967296*(y/4294967296)=C at*;generalize hE:x% 4294967296*(y% 4294967296)=E at*;have m32:intB .mul .u64 (((C+(B+E/4294967296)% 4294967296)% 4294967296:Nat):Int) .u64 4294967296=some (.v (.int .u64 (((C+(B+E/4294967296)% 4294967296)% 4294967296*4294967296:Nat):Int))):=nf (b:=4294967296) (by omega);have mA:intB .mul .u64 ((x/4294967296:Nat):Int) .u64 ((y/4294967296:Nat):Int)=some (.v (.int .u64 (A:Int))):=by rw[nf (by omega),hA]
 have mB:intB .mul .u64 ((x/4294967296:Nat):Int) .u64 ((y% 4294967296:Nat):Int)=some (.v (.int .u64 (B:Int))):=by rw[nf (by omega),hB]
 have mC:intB .mul .u64 ((x% 4294967296:Nat):Int) .u64 ((y/4294967296:Nat):Int)=some (.v (.int .u64 (C:Int))):=by rw[nf (by omega),hC]
 have mE:intB .mul .u64 ((x% 4294967296:Nat):Int) .u64 ((y% 4294967296:Nat):Int)=some (.v (.int .u64 (E:Int))):=by rw[nf (by omega),hE]
 unfold D7 U;simp only[f_bin,EV,q32 x hx,q32 y hy,r32,mA,mB,mC,mE,q32 E (by omega),nc (show B+E/4294967296<18446744073709551616 by omega),nc (show C+(B+E/4294967296)% 4294967296<18446744073709551616 by omega),
  q32 (B+E/4294967296) (by omega),q32 (C+(B+E/4294967296)% 4294967296) (by omega),nc (show A+(B+E/4294967296)/4294967296<18446744073709551616 by omega),
  nc (show A+(B+E/4294967296)/4294967296+(C+(B+E/4294967296)% 4294967296)/4294967296<18446744073709551616 by omega),m32,nc (show(C+(B+E/4294967296)% 4294967296)% 4294967296*4294967296+E% 4294967296<18446744073709551616 by omega)]
 unfold W U;rw[show x*y/18446744073709551616=A+(B+E/4294967296)/4294967296+(C+(B+E/4294967296)% 4294967296)/4294967296 by omega,show x*y% 18446744073709551616=(C+(B+E/4294967296)% 4294967296)% 4294967296*4294967296+E% 4294967296 by omega]
 rfl
def th (a b:Int):Bool:=(decide (a<0) !=decide (b<0))&&(!decide (a=0)&& !decide (b=0))
theorem jz (n:Bool)(m:Nat):RF.ev (.shape 3) [W n m]=some (W n m):=rfl
theorem oC (n:Bool)(m:Nat):RF.ev (.cell 0) [W n m]=some (.bool n):=rfl
theorem kx (n:Bool)(m:Nat):RF.ev (.cell 1) [W n m]=some (.v (.int .u64 ((m/18446744073709551616:Nat):Int))):=rfl
theorem ky (n:Bool)(m:Nat):RF.ev (.cell 2) [W n m]=some (.v (.int .u64 ((m% 18446744073709551616:Nat):Int))):=rfl
theorem PQ (n:Bool)(m:Nat):RF.ev (.part 0 3) [W n m]=some (W n m):=rfl
theorem rc (n:Bool)(m:Nat):RF.ev (.part 1 2) [W n m]=some (.agg [U (m/18446744073709551616),U (m% 18446744073709551616)]):=rfl
theorem vJ (n:Bool)(m:Nat):RF.ev .agg [.bool n,.agg [U (m/18446744073709551616),U (m% 18446744073709551616)]]=some (W n m):=rfl
theorem rd (n:Bool)(m:Nat):RF.ev .flat [W n m]=some (W n m):=rfl
theorem c304 {a b:Int}(h:I64 a)(k:I64 b):Ans D 304 [.i64 a,.i64 b] [W (th a b) (a.natAbs*b.natAbs)]:=by
 refine ans_of Nh Vh rfl ⟨1,?_⟩;have h1:=me h;have h2:=me k;unfold DD;simp only[jz,rc,vJ,rd,EV,phi (vG h),phi (vG k),phi (We (show a.natAbs<18446744073709551616 by omega) (show b.natAbs<18446744073709551616 by omega)),Hk]
 unfold th;cases decide (a<0)<;>cases decide (b<0)<;>cases decide (a=0)<;>rfl
def bigV (n:Bool)(m:Nat):Int:=if n then-(m:Int) else m
theorem kz (a b:Int):bigV (th a b) (a.natAbs*b.natAbs)=a*b:=by
 unfold bigV th;rw[eM];rcases Int.lt_trichotomy a 0 with h|h|h<;>rcases Int.lt_trichotomy b 0 with k|k|k
 ·have:=Int.mul_pos_of_neg_of_neg h k;simp[h,k];omega
 ·subst k;simp
 ·have:=dz h k;simp[h,show¬b<0 by omega,show a≠0 by omega,show b≠0 by omega];omega
 ·subst h;simp
 ·subst h;simp
 ·subst h;simp
 ·have:=Int.mul_neg_of_pos_of_neg h k;simp[k,show¬a<0 by omega,show a≠0 by omega,show b≠0 by omega];omega
 ·subst k;simp
 ·have:=l7 h k;simp[show¬a<0 by omega,show¬b<0 by omega];omega
theorem c305 (n:Bool)(m:Nat):Ans D 305 [W n m] [.i64 (sgn (bigV n m))]:=by
 refine ans_of Ni Vi rfl ⟨1,?_⟩;unfold DE;simp only[den_lt,jz,kx,ky,EV,decide_eq_true_eq];have fin: ∀(e:Bool) (v:PV),(e=true↔m=0)→den (PhiS D) 1 yi [] [v,W n m,.bool e]=some [.i64 (sgn (bigV n m))]:=fun e v he=>by
  unfold yi bigV;simp only[oC,EV];cases e with
  |true=>have:=he.1 rfl;subst this;cases n<;>rfl
  |false=>
   have:m≠0:=fun h=>by have:=he.2 h;cases this
   simp only[ad,if_false];unfold sgn;cases n with
   |true=>simp only[if_true];rw[if_pos (by omega)]
   |false=>simp only[ad,if_false];rw[if_neg (by omega),if_pos (by omega)]
 by_cases h:((m/18446744073709551616:Nat):Int)=0
 ·rw[if_pos h];exact fin _ _ (by rw[decide_eq_true_eq];omega)
 ·rw[if_neg h];exact fin _ _ ⟨fun h=>(by cases h),fun h'=>(by subst h';exact absurd rfl h)⟩
theorem IE {n k:Bool}(a b:Nat):Ans D 306 [W n a,W k b] [.i64 (sgn ((a:Int)-b))]:=by
 refine ans_of Nj Vj rfl ⟨1,?_⟩;unfold DF;simp only[den_lt,jz,kx,ky,EV,decide_eq_true_eq,sgn_cases,ai,decide_eq_false_iff_not];by_cases h1:a/18446744073709551616=b/18446744073709551616
 ·rw[if_neg (by omega)];by_cases h2:a% 18446744073709551616=b% 18446744073709551616
  ·rw[if_neg (by omega),if_neg (by omega),if_neg (by omega)]
  ·rw[if_pos (by omega)];by_cases h3:a<b
   ·rw[if_pos (by omega),if_pos (by omega)]
   ·rw[if_neg (by omega),if_neg (by omega),if_pos (by omega)]
 ·rw[if_pos (by omega)];by_cases h3:a<b
  ·rw[if_pos (by omega),if_pos (by omega)]
  ·rw[if_neg (by omega),if_neg (by omega),if_pos (by omega)]
theorem IF {r s:Rt}(h:In64 r)(k:In64 s):Ans D 224 [R r,R s] [.i64 (sgn (crs r s))]:=by
 refine ans_of Mw Uy rfl ⟨1,?_⟩;unfold CT;simp only[den_lt,shapeR,cellR0,cellR1,jz,PQ,EV,phi (c304 h.1 k.2),phi (c304 k.1 h.2),phi (c305 _ _),phi (IE _ _),kz,decide_eq_true_eq,ai,decide_eq_false_iff_not];have e1:=kz r.num s.den;have e2:=kz s.num r.den;unfold bigV at e1 e2;unfold crs;generalize r.num*s.den=x at*;generalize s.num*r.den=y at*;generalize r.num.natAbs*s.den.natAbs=a at*;generalize s.num.natAbs*r.den.natAbs=b at*;have hx:sgn x=if x<0 then-1 else if 0<x then 1 else 0:=rfl
 have hy:sgn y=if y<0 then-1 else if 0<y then 1 else 0:=rfl
 by_cases hne:sgn x=sgn y
 ·rw[if_neg (by omega)];by_cases hn:sgn x<0
  ·rw[if_pos hn];have:(b:Int)-a=x-y:=by
    revert e1 e2
    split<;>split<;>intros<;>(repeat' split at hx)<;>(repeat' split at hy)<;>omega
   rw[this]
  ·rw[if_neg hn];have:(a:Int)-b=x-y:=by
    revert e1 e2
    split<;>split<;>intros<;>(repeat' split at hx)<;>(repeat' split at hy)<;>omega
   rw[this]
 ·rw[if_pos hne];rw[sgn_cases x y];by_cases hl:sgn x<sgn y
  ·rw[if_pos hl,if_pos (show x<y by repeat' split at hx;all_goals (repeat' split at hy)<;>omega)]
  ·rw[if_neg hl,if_neg (show¬x<y by repeat' split at hx;all_goals (repeat' split at hy)<;>omega),if_pos (show y<x by repeat' split at hx;all_goals (repeat' split at hy)<;>omega)]
theorem add64 (x y:Nat):RF.ev .add64 [U x,U y,U 0]=some (.agg [U ((x+y)% 18446744073709551616),U ((x+y)/18446744073709551616)]):=rfl
theorem PR {x t:Int}(h:(x-t)% 18446744073709551616=0)(ht:I64 t):IntKind.i64.wrap x=t:=by
 obtain⟨h1,h2⟩:=ht;simp only[IntKind.wrap,IntKind.bits,IntKind.signed];simp;split<;>omega
theorem wr (x:Int): ∃k:Int,IntKind.i64.wrap x=x+18446744073709551616*k:=by
 simp only[IntKind.wrap,IntKind.bits,IntKind.signed];simp;split
 ·exact⟨-(x/18446744073709551616)-1,by omega⟩
 ·exact⟨-(x/18446744073709551616),by omega⟩
theorem A5 {x y:Int}(h:(x-y)% 18446744073709551616=0):IntKind.i64.wrap x=IntKind.i64.wrap y:=by
 simp only[IntKind.wrap,IntKind.bits,IntKind.signed];simp;rw[show x% 18446744073709551616=y% 18446744073709551616 by omega]
theorem wrA (x y:Int):IntKind.i64.wrap (IntKind.i64.wrap x+y)=IntKind.i64.wrap (x+y):=by obtain⟨k,h⟩:=wr x;rw[h];exact A5 (by omega)
theorem wrB (x y:Int):IntKind.i64.wrap (y+IntKind.i64.wrap x)=IntKind.i64.wrap (y+x):=by obtain⟨k,h⟩:=wr x;rw[h];exact A5 (by omega)
theorem wrC (x y:Int):IntKind.i64.wrap (IntKind.i64.wrap x-y)=IntKind.i64.wrap (x-y):=by obtain⟨k,h⟩:=wr x;rw[h];exact A5 (by omega)
theorem A6 (k:IntKind)(n:Nat):RF.ev (.conv k) [U n]=some (.v (.int k (k.wrap n))):=rfl
abbrev oA2:RF:= .bin .add
def hiL (v:Int):PV:= .i64 (v/18446744073709551616)
def loL (v:Int):PV:= .v (.int .u64 (v% 18446744073709551616))
def Mid (v:Int):Prop:= -154742504910672534362390528≤v∧v≤154742504910672534362390528
theorem Ob {a b p:Int}(ha:I64 a)(hb:I64 b)(hp:a*b=p): ∃x y:Nat,(a% 18446744073709551616=(x:Int)∧x<18446744073709551616)∧(b% 18446744073709551616=(y:Int)∧y<18446744073709551616)∧
  ((x*y:Nat):Int)=p+18446744073709551616*((if a<0 then b else 0)+(if b<0 then a else 0))+340282366920938463463374607431768211456*(if a<0∧b<0 then 1 else 0):=by
 obtain⟨a1,a2⟩:=ha;obtain⟨b1,b2⟩:=hb;refine⟨(a% 18446744073709551616).toNat,(b% 18446744073709551616).toNat,⟨by omega,by omega⟩,⟨by omega,by omega⟩,?_⟩;have e1:(((a% 18446744073709551616).toNat:Nat):Int)=if a<0 then a+18446744073709551616 else a:=by split<;>omega
 have e2:(((b% 18446744073709551616).toNat:Nat):Int)=if b<0 then b+18446744073709551616 else b:=by split<;>omega
 rw[eT,e1,e2];by_cases h1:a<0<;>by_cases h2:b<0<;>simp only[h1,h2,if_true,if_false,and_true,and_false,eG,l6,Int.mul_add,hp]<;>omega
theorem vK {Φ':PhT}{N:Nat}{f self:JT}{e0 w:PV}{a b v:Int}{i:Nat}(hΦ:Φ'=PhiS D)(hw:RF.ev (.aix 2 2 2) [w,.i64 (i:Int)]=some (.agg [.i64 a,.i64 b]))(hi:i<2)(ha:I64 a)(hb:I64 b)(hm:Mid (a*b))(hv:Mid v):
  den Φ' N se [f,self] [e0,w,hiL v,loL v,.i64 (i:Int)]=self [hiL (v+a*b),loL (v+a*b),.i64 ((i+1:Nat):Int)]:=by
 subst hΦ;obtain⟨m1,m2⟩:=hm;obtain⟨v1,v2⟩:=hv;generalize hp:a*b=p at*;obtain⟨x,y,⟨x1,x2⟩,⟨y1,y2⟩,hxy⟩:=Ob ha hb hp;have ha':=ha;have hb':=hb;obtain⟨a1,a2⟩:=ha;obtain⟨b1,b2⟩:=hb;have bd:x*y≤18446744073709551615*18446744073709551615:=dx (by omega) (by omega);have u1:PV.v (.int .u64 (IntKind.u64.wrap a))=U x:=uw x1;have u2:PV.v (.int .u64 (IntKind.u64.wrap b))=U y:=uw y1;have q1:=phi (PM x2 y2);have lo0:loL v=U (v% 18446744073709551616).toNat:=by unfold loL U;congr 2;omega
 have q2:=add64 (v% 18446744073709551616).toNat (x*y% 18446744073709551616);rw[←lo0] at q2;have w1:IntKind.i64.wrap ((i:Int)+1)=((i+1:Nat):Int):=up1 (by omega);unfold se;simp only[den_lt,hw,EV,decide_eq_true_eq,u1,u2,q1,if_pos (show(i:Int)<2 by omega),A6,HL]
 have lo2:U (((v% 18446744073709551616).toNat+x*y% 18446744073709551616)% 18446744073709551616)=loL (v+p):=by
  unfold loL U
  congr 2
  split at hxy<;>split at hxy<;>split at hxy<;>omega
 rw[lo2] at q2;have q3: ∀h:Int,RF.ev oA2 [hiL v,.v (.int .i64 h)]=some (.i64 (IntKind.i64.wrap (v/18446744073709551616+h))):=fun h=>rfl;have U0:PV.v (.int .u64 0)=U 0:=rfl;by_cases a0:a<0<;>by_cases b0:b<0<;>simp only[a0,b0,if_true,if_false,den_lt,q3,EV,decide_true,decide_false,ad,HK,U0,q2,A6,wrA,wrB,wrC,w1,true_and,and_true,false_and,and_false,eG] at hxy⊢
 all_goals
  rw[PR (t:=(v+p)/18446744073709551616) (by omega) ⟨by omega,by omega⟩];rfl
theorem Wf {a b c d:Int}(ha:I64 a)(hb:I64 b)(hc:I64 c)(hd:I64 d)(h1:Mid (a*b))(h2:Mid (c*d)):Ans D 389 [.agg [.i64 a,.i64 b,.i64 c,.i64 d]] [.agg [hiL (a*b+c*d),loL (a*b+c*d)]]:=by
 refine ans_of NU VT rfl ⟨3,?_⟩;unfold Ef;have s0:=fun self=>vK (N:=3) (f:=jR (PhiS D) 3 sc [] [.agg [.i64 a,.i64 b,.i64 c,.i64 d],.agg [.i64 a,.i64 b,.i64 c,.i64 d]]) (self:=self) (e0:= .agg [.i64 a,.i64 b,.i64 c,.i64 d]) (w:= .agg [.i64 a,.i64 b,.i64 c,.i64 d]) (i:=0) (v:=0) rfl rfl (by decide) ha hb h1 ⟨by decide,by decide⟩;have s1:=fun self=>vK (N:=3) (f:=jR (PhiS D) 3 sc [] [.agg [.i64 a,.i64 b,.i64 c,.i64 d],.agg [.i64 a,.i64 b,.i64 c,.i64 d]]) (self:=self) (e0:= .agg [.i64 a,.i64 b,.i64 c,.i64 d]) (w:= .agg [.i64 a,.i64 b,.i64 c,.i64 d]) (i:=1) (v:=a*b) rfl rfl (by decide) hc hd h2 h1;rw[Int.zero_add] at s0;have z1:PV.i64 0=hiL 0:=rfl;have z2:PV.v (.int .u64 0)=loL 0:=rfl;have z3:PV.i64 0= .i64 ((0:Nat):Int):=rfl;simp only[EV,if_true,be,Nat.reduceAdd,denW_succ];refine(s0 _).trans ?_;simp only[denW_succ,l_cons,l_nil,j_cons,j_nil];refine(s1 _).trans ?_;simp only[denW_succ,EV];unfold se;simp only[EV,sc];rfl
theorem Pt.bnd {p:Pt}(h:p.ok=true):(0≤p.id∧p.id≤65535)∧(-1048576≤p.a∧p.a≤1048576)∧(-1048576≤p.b∧p.b≤1048576):=by
 unfold Pt.ok zS at h;simp only[au,decide_eq_true_eq] at h;omega
theorem As {a b:Int}(h: -2097152≤a∧a≤2097152)(k:I64 b):Mid (a*b):=by
 obtain⟨k1,k2⟩:=k;have e:=js a b;have:a.natAbs*b.natAbs≤2097152*9223372036854775808:=dx (by omega) (by omega);constructor<;>omega
theorem PS (v:Int):(v/18446744073709551616<0)↔v<0:=by omega
theorem orr (a b:Int):Ans D 387 [.sl [[.i64 a],[.i64 b]]] [.i64 (if a=0 then b else a)]:=by
 refine ans_of NT VS rfl ⟨3,?_⟩;unfold Ee;have w0:IntKind.i64.wrap (0+1)=1:=by decide
 have w1:IntKind.i64.wrap (1+1)=2:=by decide
 have e0:RF.ev (.tix 1) [.sl [[.i64 a],[.i64 b]],.v (.int .i64 0)]=some (.i64 0):=rfl;have e1:RF.ev (.tix 1) [.sl [[.i64 a],[.i64 b]],.v (.int .i64 1)]=some (.i64 1):=rfl;have g0:RF.ev (.elt 0 0) [.sl [[.i64 a],[.i64 b]],.v (.int .i64 0)]=some (.i64 a):=rfl;have g1:RF.ev (.elt 0 0) [.sl [[.i64 a],[.i64 b]],.v (.int .i64 1)]=some (.i64 b):=rfl;have h2:([[PV.i64 a],[PV.i64 b]].length:Int)=2:=rfl;simp only[EV,denW_succ,HI,HJ,h2,e0,e1,g0,g1,w0,w1,decide_eq_true_eq,ai,decide_eq_false_iff_not,Int.reduceLT,if_true,if_false];by_cases ha:a=0
 ·rw[if_neg (by simp[ha]),if_pos ha];by_cases hb:b=0
  ·rw[if_neg (by simp[hb]),hb]
  ·rw[if_pos hb]
 ·rw[if_pos ha,if_neg ha]
def A7 (t:Rt)(p q:Pt):Int:=if far t p q=0 then(if sgn (p.b-q.b)=0 then sgn (q.id-p.id) else sgn (p.b-q.b)) else sgn (far t p q)
theorem vL {t:Rt}{p q:Pt}:decide (0<A7 t p q)=leads t p q:=by
 rw[cj,decide_eq_true_eq,leads_iff];unfold A7 sgn
 repeat' split
 all_goals omega
theorem shapeP (p:Pt):RF.ev (.shape 3) [PP p]=some (PP p):=rfl
theorem cellP0 (p:Pt):RF.ev (.cell 0) [PP p]=some (.i64 p.id):=rfl
theorem cellP1 (p:Pt):RF.ev (.cell 1) [PP p]=some (.i64 p.a):=rfl
theorem cellP2 (p:Pt):RF.ev (.cell 2) [PP p]=some (.i64 p.b):=rfl
theorem Oc {t:Rt}{p q:Pt}(hp:p.ok=true)(hq:q.ok=true)(ht:In64 t):Mid ((p.a-q.a)*t.den)∧Mid ((p.b-q.b)*t.num):=by
 have:=Pt.bnd hp;have:=Pt.bnd hq;exact⟨As ⟨by omega,by omega⟩ ht.2,As ⟨by omega,by omega⟩ ht.1⟩
theorem oD {a b:Int}(ha: -1048576≤a∧a≤1048576)(hb: -1048576≤b∧b≤1048576):I64 (a-b)∧IntKind.i64.wrap (a-b)=a-b:=⟨⟨by omega,by omega⟩,bU (by omega) (by omega)⟩
theorem PT {p q:Pt}{t:Rt}(hp:p.ok=true)(hq:q.ok=true)(ht:In64 t):Ans D 329 [PP p,PP q,R t] [.i64 (A7 t p q)]:=by
 have bp:=Pt.bnd hp;have bq:=Pt.bnd hq;obtain⟨f1,f2⟩:=Oc hp hq ht;obtain⟨i1,i2⟩:=oD bp.2.1 bq.2.1;obtain⟨i3,i4⟩:=oD bp.2.2 bq.2.2;have h1:=phi (Wf i1 ht.2 i3 ht.1 f1 f2);rw[show(p.a-q.a)*t.den+(p.b-q.b)*t.num=far t p q from rfl] at h1
 have a1: ∀a b c d:Int,RF.ev .agg [.i64 a,.i64 b,.i64 c,.i64 d]=some (.agg [.i64 a,.i64 b,.i64 c,.i64 d]):=fun _ _ _ _=>rfl;have a2: ∀v:Int,RF.ev (.shape 2) [.agg [hiL v,loL v]]=some (.agg [hiL v,loL v]):=fun _=>rfl;have a3: ∀v:Int,RF.ev (.cell 0) [.agg [hiL v,loL v]]=some (.i64 (v/18446744073709551616)):=fun _=>rfl;have a4:RF.ev .agg [.i64 0,.v (.int .u64 0)]=some (.agg [.i64 0,.v (.int .u64 0)]):=rfl;have a5: ∀v:Int,RF.ev (.eqv [.i,.i]) [.agg [hiL v,loL v],.agg [.i64 0,.v (.int .u64 0)]]=some (.bool (decide (v=0))):=fun v=>by
  have:RF.ev (.eqv [.i,.i]) [.agg [hiL v,loL v],.agg [.i64 0,.v (.int .u64 0)]]=some (.bool (decide (v/18446744073709551616=0)&&(decide (v% 18446744073709551616=0)&& true))):=rfl;rw[this]
  congr 3
  rw[cj];simp only[eL,au,decide_eq_true_eq];omega
 have a6: ∀x y:Int,RF.ev (.bs 2 [KP.z] [0,1]) [.i64 x,.i64 y]=some (.sl [[.i64 x],[.i64 y]]):=fun x y=>rfl;have a7: ∀x y:Int,RF.ev .sub [.sl [[.i64 x],[.i64 y]],.v (.int .i64 0),.v (.int .i64 2)]=some (.sl [[.i64 x],[.i64 y]]):=fun x y=>rfl;refine ans_of Ny Vw rfl ⟨1,?_⟩;unfold DS;simp only[den_lt,shapeP,shapeR,cellP0,cellP1,cellP2,cellR0,cellR1,a1,a2,a3,a4,a5,a6,a7,EV,i2,i4,h1,ai,decide_eq_false_iff_not,decide_eq_true_eq,PS,phi (PO _ _),phi (oB _ _),phi (orr _ _)];unfold A7;by_cases hz:far t p q=0
 ·rw[if_neg (by simp[hz]),if_pos hz]
 ·rw[if_pos hz,if_neg hz];unfold sgn;by_cases hn:far t p q<0
  ·rw[if_pos hn,if_pos hn]
  ·rw[if_neg hn,if_neg hn,if_pos (by omega)]
def f8 (p q:Pt)(t:Rt):Int:=if(p.ok&&(q.ok&& rok t))=true then(if p.id=q.id then 2 else 0) else 8
theorem IG {p q:Pt}{t:Rt}(ht:In64 t):Ans D 328 [PP p,PP q,R t] [.i64 (f8 p q t)]:=by
 refine ans_of Nw Vv rfl ⟨1,?_⟩;unfold DR f8;simp only[den_lt,shapeP,shapeR,cellP0,mm2,EV,phi (PL _),phi (c43 ht),Ar,mQ,jy,decide_eq_true_eq];cases(p.ok&&(q.ok&& rok t)) with
 |false=>rfl
 |true=>
  simp only[if_true];by_cases h:p.id=q.id
  ·rw[if_pos h,if_pos h]
  ·rw[if_neg h,if_neg h]
theorem ti {p q:Pt}{t:Rt}(h:f8 p q t=0):p.ok=true∧q.ok=true∧rok t=true∧p.id≠q.id:=by
 unfold f8 at h;split at h
 ·rename_i h1;simp only[au] at h1;split at h
  ·cases h
  ·rename_i h2;exact⟨h1.1,h1.2.1,h1.2.2,h2⟩
 ·cases h
theorem ik {p q:Pt}{t:Rt}(h1:p.ok=true)(h2:q.ok=true)(h3:rok t=true)(h4:p.id≠q.id):f8 p q t=0:=by
 unfold f8;rw[h1,h2,h3];simp[h4]
theorem A8 {p q:Pt}{t:Rt}(ht:In64 t):Ans D 249 [PP p,PP q,R t] (if f8 p q t=0 then [.bool (leads t p q),.i64 0] else [.bool false,.i64 (f8 p q t)]):=by
 refine ans_of MM UO rfl ⟨1,?_⟩;unfold Da;simp only[den_lt,shapeP,shapeR,EV,phi (IG ht),ai,decide_eq_false_iff_not];by_cases h:f8 p q t=0
 ·obtain⟨h1,h2,_,_⟩:=ti h;rw[if_neg (by simp[h]),if_pos h];simp only[EV,phi (PT h1 h2 ht),vL]
 ·rw[if_pos h,if_neg h]
def mkR (n d:Int):Rt:=⟨(if(decide (n<0) !=decide (d<0))=true then-((n.natAbs/Nat.gcd n.natAbs d.natAbs:Nat):Int) else((n.natAbs/Nat.gcd n.natAbs d.natAbs:Nat):Int)),((d.natAbs/Nat.gcd n.natAbs d.natAbs:Nat):Int)⟩
def Sm (n:Int):Prop:= -4194304≤n∧n≤4194304
theorem quoU {a b:Nat}(hb:0<b)(ha:a<18446744073709551616):RF.ev (.bin .quo) [U a,U b]=some (U (a/b)):=by
 show intB .quo .u64 (a:Int) .u64 (b:Int)=_
 have:a/b≤a:=d7 a b;rw[EZ,if_neg (by omega),fV (by omega),←Int.natCast_ediv,wu (by omega)];rfl
def WB (n:Bool)(h l:Nat):PV:= .agg [.bool n,U h,U l]
theorem aggB (n:Bool)(h l:Nat):RF.ev .agg [.bool n,U h,U l]=some (WB n h l):=rfl
theorem PU (n:Bool)(h l:Nat):RF.ev (.shape 3) [WB n h l]=some (WB n h l):=rfl
theorem cB0 (n:Bool)(h l:Nat):RF.ev (.cell 0) [WB n h l]=some (.bool n):=rfl
theorem cB1 (n:Bool)(h l:Nat):RF.ev (.cell 1) [WB n h l]=some (.v (.int .u64 (h:Int))):=rfl
theorem cB2 (n:Bool)(h l:Nat):RF.ev (.cell 2) [WB n h l]=some (.v (.int .u64 (l:Int))):=rfl
theorem aggR (a b:Int):RF.ev .agg [.i64 a,.i64 b]=some (R ⟨a,b⟩):=rfl
theorem flatRt (r:Rt):RF.ev .flat [R r]=some (R r):=rfl
theorem partR (r:Rt):RF.ev (.part 0 2) [R r]=some (R r):=rfl
theorem U0:PV.v (.int .u64 0)=U 0:=rfl
theorem c424 {n:Bool}{a b:Nat}(ha:a≤4194304)(hb:b≤4194304):Ans D 424 [WB n 0 a,U 0,U b] [R ⟨if n=true then-(a:Int) else a,b⟩,.i64 0]:=by
 refine ans_of N6 V5 rfl ⟨1,?_⟩;have e:RF.ev (.bin .gtr) [U 0,U 0]=some (.bool false):=rfl;have e2:RF.ev (.bin .gtr) [U b,.v (.int .u64 9223372036854775807)]=some (.bool (decide ((9223372036854775807:Int)<b))):=rfl;unfold Et;simp only[den_lt,PU,cB0,U0,cB1,cB2,aggR,flatRt,e,e2,A6,EV,decide_eq_true_eq,HS,cO,Int.reduceLT,decide_false,ad,if_false,bU (show-9223372036854775808≤(a:Int) by omega) (by omega),bU (show-9223372036854775808≤(b:Int) by omega) (by omega),bU (show-9223372036854775808≤0-(a:Int) by omega) (by omega)]
 rw[if_neg (by omega),if_neg (by omega)];cases n
 ·rfl
 ·simp only[if_true];rw[show(0:Int)-a= -a by omega]
theorem I64m {n:Int}(h:Sm n):I64 n:=by obtain⟨h1,h2⟩:=h;exact⟨by omega,by omega⟩
theorem c416 {n d:Int}(hn:Sm n)(hd:Sm d)(h0:d≠0):Ans D 416 [.i64 n,.i64 d] [R (mkR n d),.i64 0]:=by
 obtain⟨n1,n2⟩:=hn;obtain⟨d1,d2⟩:=hd;have hg:0<Nat.gcd n.natAbs d.natAbs:=dC _ (by omega);have l1:n.natAbs/Nat.gcd n.natAbs d.natAbs≤n.natAbs:=d7 ..;have l2:d.natAbs/Nat.gcd n.natAbs d.natAbs≤d.natAbs:=d7 ..;have hc:=phi (PJ n.natAbs d.natAbs);rw[pL] at hc;refine ans_of k416_ok s416 rfl ⟨1,?_⟩;unfold k416;simp only[den_lt,quoU hg (show n.natAbs<18446744073709551616 by omega),quoU hg (show d.natAbs<18446744073709551616 by omega),U0,aggB,shapeR,flatRt,EV,phi (c116 (I64m ⟨n1,n2⟩)),phi (c116 (I64m ⟨d1,d2⟩)),hc,phi (c424 (show n.natAbs/Nat.gcd n.natAbs d.natAbs≤4194304 by omega) (show d.natAbs/Nat.gcd n.natAbs d.natAbs≤4194304 by omega)),decide_eq_true_eq]
 rw[if_neg h0];rfl
theorem Wg {p q:Pt}(hp:p.ok=true)(hq:q.ok=true)(hi:p.id≠q.id)(hb:p.b≠q.b):Ans D 388 [PP p,PP q] [R (mkR (p.a-q.a) (q.b-p.b)),.i64 0]:=by
 have bp:=Pt.bnd hp;have bq:=Pt.bnd hq;have ht:In64 ⟨0,1⟩:=⟨⟨by decide,by decide⟩,⟨by decide,by decide⟩⟩;have i2:=(oD bp.2.1 bq.2.1).2;have i4:=(oD bq.2.2 bp.2.2).2;have h1:=phi (IG (p:=p) (q:=q) ht);rw[ik hp hq (by decide) hi] at h1;refine ans_of k388_ok s388 rfl ⟨1,?_⟩;unfold k388;simp only[den_lt,shapeP,shapeR,cellP0,cellP1,cellP2,aggR,flatRt,EV,h1,i2,i4,decide_true,ak,ad,if_false,decide_eq_true_eq,phi (c416 (n:=p.a-q.a) (d:=q.b-p.b) ⟨by omega,by omega⟩ ⟨by omega,by omega⟩ (by omega))];rw[if_neg (by omega)]
def failT (t:Rt)(hi lo:Pt):Rt×Bool:=if leads t lo hi=true then(t,true) else if hi.b<lo.b then(mkR (hi.a-lo.a) (lo.b-hi.b),true) else(⟨0,0⟩,false)
theorem PW {p q:Pt}{t:Rt}(ht:In64 t):Ans D 327 [PP p,PP q,R t] (if f8 p q t=0 then [R (failT t p q).1,.bool (failT t p q).2,.i64 0] else [R ⟨0,0⟩,.bool false,.i64 (f8 p q t)]):=by
 refine ans_of Nv Vu rfl ⟨1,?_⟩;unfold DQ;simp only[den_lt,shapeP,shapeR,cellP2,aggR,flatRt,EV,phi (IG ht),ai,decide_eq_false_iff_not];by_cases h:f8 p q t=0
 ·obtain⟨h1,h2,_,h3⟩:=ti h;rw[if_neg (by simp[h]),if_pos h];simp only[den_lt,shapeR,flatRt,cellP2,aggR,EV,phi (PT h2 h1 ht),vL,decide_eq_true_eq];unfold failT;cases leads t q p with
  |true=>rfl
  |false=>
   simp only[ad,if_false];by_cases hb:q.b≤p.b
   ·rw[if_pos hb,if_neg (by omega)]
   ·rw[if_neg hb,if_pos (by omega)];simp only[den_lt,shapeR,flatRt,EV,phi (Wg h1 h2 h3 (by omega)),decide_true]
 ·rw[if_pos h,if_neg h]
theorem Kd (n:Bool)(a b:Int):RF.ev .agg [.bool n,.v (.int .u64 a),.v (.int .u64 b)]=some (.agg [.bool n,.v (.int .u64 a),.v (.int .u64 b)]):=rfl
theorem mkW {n:Bool}{h l:Int}{m:Nat}(h1:h=((m/18446744073709551616:Nat):Int))(h2:l=((m% 18446744073709551616:Nat):Int)):PV.agg [.bool n,.v (.int .u64 h),.v (.int .u64 l)]=W n m:=by rw[h1,h2];rfl
theorem PX {n k:Bool}{a b:Nat}(ha:a<170141183460469231731687303715884105728)(h:b≤a):Ans D 423 [W n a,W k b] [W false (a-b)]:=by
 refine ans_of N5 V4 rfl ⟨1,?_⟩;unfold Es;simp only[den_lt,jz,kx,ky,EV,decide_eq_true_eq,HR,Kd,gg];by_cases c:((a% 18446744073709551616:Nat):Int)<((b% 18446744073709551616:Nat):Int)
 ·rw[if_pos c,mkW (m:=a-b) (by omega) (by omega)]
 ·rw[if_neg c,mkW (m:=a-b) (by omega) (by omega)]
theorem Wh {n k:Bool}{a b:Nat}(ha:a<85070591730234615865843651857942052865)(hb:b<85070591730234615865843651857942052865): ∃s m,Ans D 414 [W n a,W k b] [W s m]∧bigV s m=bigV n a+bigV k b:=by
 have l1:a% 18446744073709551616<18446744073709551616:=by omega
 by_cases hs:n=k
 ·subst hs;refine⟨n,a+b,?_,by unfold bigV;split<;>omega⟩;refine ans_of tg ID rfl ⟨1,?_⟩;unfold tF;simp only[den_lt,jz,oC,kx,ky,EV,decide_eq_true_eq,HN,Kd,gg,beq_self_eq_true,if_true];by_cases c:(((a% 18446744073709551616:Nat):Int)+((b% 18446744073709551616:Nat):Int))% 18446744073709551616<((a% 18446744073709551616:Nat):Int)
  ·rw[if_pos c,mkW (m:=a+b) (by omega) (by omega)]
  ·rw[if_neg c,mkW (m:=a+b) (by omega) (by omega)]
 ·have hbe:(n==k)=false:=by cases n<;>cases k<;>simp_all
  by_cases hle:b≤a
  ·refine⟨n&& decide (0<a-b),a-b,?_,by unfold bigV;cases n<;>cases k<;>simp_all<;>(repeat' split)<;>omega⟩
   have g:sgn ((a:Int)-b)≥0:=by unfold sgn;repeat' split;all_goals omega
   refine ans_of tg ID rfl ⟨1,?_⟩;unfold tF;simp only[den_lt,jz,oC,kx,ky,EV,decide_eq_true_eq,hbe,ad,if_false,phi (IE _ _),phi (PX (n:=n) (k:=k) (show a<170141183460469231731687303715884105728 by omega) hle)]
   rw[if_pos g];have fin: ∀(v:Bool) (es:List PV),den (PhiS D) 1 mw [] (.bool v::es)=den (PhiS D) 1 mw [] (.bool v::es):=fun _ _=>rfl;cases n with
   |false=>
    simp only[ad,if_false,den_lt,rc,vJ,rd,mw,EV,gM]
   |true=>
    simp only[if_true,den_lt,kx,ky,EV,decide_eq_true_eq,cR];by_cases c:(0:Int)<((((a-b)/18446744073709551616:Nat):Int))
    ·rw[if_pos c,decide_eq_true (show 0<a-b by omega)]
     simp only[den_lt,rc,vJ,rd,mw,EV]
    ·rw[if_neg c];simp only[den_lt,rc,vJ,rd,mw,EV];rw[show decide ((0:Int)<(((a-b)% 18446744073709551616:Nat):Int))=decide (0<a-b) from aV.2 (by omega)]
  ·refine⟨k,b-a,?_,by unfold bigV;cases n<;>cases k<;>simp_all<;>omega⟩;have g:¬sgn ((a:Int)-b)≥0:=by unfold sgn;rw[if_pos (by omega)];decide
   refine ans_of tg ID rfl ⟨1,?_⟩;unfold tF;simp only[den_lt,jz,oC,kx,ky,EV,decide_eq_true_eq,hbe,ad,if_false,phi (IE _ _),phi (PX (n:=k) (k:=n) (a:=b) (b:=a) (show b<170141183460469231731687303715884105728 by omega) (by omega))]
   rw[if_neg g];simp only[den_lt,rc,vJ,rd,oC,EV]
theorem Wi {p q:Pt}{t:Rt}(hp:p.ok=true)(hq:q.ok=true)(ht:In64 t):Ans D 384 [PP p,PP q,R t] [.i64 (sgn (far t p q))]:=by
 have bp:=Pt.bnd hp;have bq:=Pt.bnd hq;obtain⟨i1,i2⟩:=oD bp.2.1 bq.2.1;obtain⟨i3,i4⟩:=oD bp.2.2 bq.2.2;obtain⟨s,m,h1,h2⟩:=Wh (n:=th (p.a-q.a) t.den) (k:=th (p.b-q.b) t.num) (jX (Ff i1 ht.2)) (jX (Ff i3 ht.1));rw[kz,kz] at h2;refine ans_of k384_ok s384 rfl ⟨1,?_⟩;unfold k384;simp only[den_lt,shapeP,shapeR,cellP1,cellP2,cellR0,cellR1,EV,i2,i4,phi (c304 i1 ht.2),phi (c304 i3 ht.1),phi h1,phi (c305 _ _)];rw[h2];rfl
theorem vM {n:Int}:sgn n=0↔n=0:=by unfold sgn;repeat' split;all_goals omega
theorem Od {n:Int}:0<sgn n↔0<n:=by unfold sgn;repeat' split;all_goals omega
theorem c323 {p q:Pt}{t:Rt}(hp:p.ok=true)(hq:q.ok=true)(ht:In64 t):Ans D 323 [PP p,PP q,R t] [.bool (leads t p q)]:=by
 refine ans_of Nr Vq rfl ⟨1,?_⟩;unfold DL leads;simp only[den_lt,shapeP,shapeR,cellP0,cellP2,EV,phi (Wi hp hq ht),decide_eq_true_eq,ai,decide_eq_false_iff_not,vM,Od];by_cases h:far t p q=0
 ·simp only[h,not_true_eq_false,if_false,ne_eq];by_cases k:p.b=q.b
  ·simp only[k,not_true_eq_false,if_false]
  ·simp only[k,not_false_eq_true,if_true]
 ·simp only[h,not_false_eq_true,if_true,ne_eq]
theorem Wj {n:Bool}{a b:Nat}(ha:a≤4194304)(hb:b≤4194304):Ans D 425 [.bool n,WB false 0 a,WB false 0 b] [R ⟨if n=true then-(a:Int) else a,b⟩,.i64 0]:=by
 refine ans_of N7 V6 rfl ⟨1,?_⟩;unfold Eu;simp only[den_lt,PU,cB0,cB1,cB2,aggR,flatRt,EV,decide_eq_true_eq,cO,Int.reduceLT,decide_false,ad,if_false,bU (show-9223372036854775808≤(a:Int) by omega) (by omega),bU (show-9223372036854775808≤(b:Int) by omega) (by omega),bU (show-9223372036854775808≤0-(a:Int) by omega) (by omega)]
 rw[if_neg (by omega),if_neg (by omega)];cases n
 ·rfl
 ·simp only[if_true];rw[show(0:Int)-a= -a by omega]
theorem Wk {n d:Int}(hn:Sm n)(hd:Sm d)(h0:d≠0):Ans D 419 [.i64 n,.i64 d] [R (mkR n d),.i64 0]:=by
 obtain⟨n1,n2⟩:=hn;obtain⟨d1,d2⟩:=hd;have hg:0<Nat.gcd n.natAbs d.natAbs:=dC _ (by omega);have l1:n.natAbs/Nat.gcd n.natAbs d.natAbs≤n.natAbs:=d7 ..;have l2:d.natAbs/Nat.gcd n.natAbs d.natAbs≤d.natAbs:=d7 ..;have hc:=phi (PK n.natAbs d.natAbs);rw[pL] at hc;have hm:=fun s=>phi (Wj (n:=s) (show n.natAbs/Nat.gcd n.natAbs d.natAbs≤4194304 by omega) (show d.natAbs/Nat.gcd n.natAbs d.natAbs≤4194304 by omega))
 refine ans_of N2 V1 rfl ⟨1,?_⟩;unfold Eo;simp only[den_lt,quoU hg (show n.natAbs<18446744073709551616 by omega),quoU hg (show d.natAbs<18446744073709551616 by omega),U0,aggB,shapeR,cellR0,cellR1,aggR,flatRt,HQ,EV,phi (vG (I64m ⟨n1,n2⟩)),phi (vG (I64m ⟨d1,d2⟩)),hc,hm,decide_eq_true_eq]
 rw[if_neg h0];unfold mkR;by_cases hs:(decide (n<0) !=decide (d<0))=true
 ·rw[if_pos (show(!(decide (n<0)==decide (d<0)))=true from hs),if_pos hs]
  by_cases hz:n=0
  ·subst hz;simp
  ·simp[hz]
 ·rw[if_neg (show¬(!(decide (n<0)==decide (d<0)))=true from hs),if_neg hs]
  simp
theorem Wl {p q:Pt}(hp:p.ok=true)(hq:q.ok=true)(hb:p.b≠q.b):Ans D 396 [PP p,PP q] [R (mkR (p.a-q.a) (q.b-p.b))]:=by
 have bp:=Pt.bnd hp;have bq:=Pt.bnd hq;have i2:=(oD bp.2.1 bq.2.1).2;have i4:=(oD bq.2.2 bp.2.2).2;refine ans_of NW VV rfl ⟨1,?_⟩;unfold Eh;simp only[den_lt,shapeP,shapeR,cellP1,cellP2,flatRt,EV,i2,i4,phi (Wk (n:=p.a-q.a) (d:=q.b-p.b) ⟨by omega,by omega⟩ ⟨by omega,by omega⟩ (by omega))]
theorem c348 {p q:Pt}{t:Rt}(hp:p.ok=true)(hq:q.ok=true)(ht:In64 t):Ans D 348 [PP p,PP q,R t] [R (failT t p q).1,.bool (failT t p q).2]:=by
 refine ans_of ND VB rfl ⟨1,?_⟩;unfold DY failT;simp only[den_lt,shapeP,shapeR,cellP2,aggR,flatRt,EV,phi (c323 hq hp ht),decide_eq_true_eq];cases leads t q p with
 |true=>rfl
 |false=>
  simp only[ad,if_false];by_cases hb:p.b<q.b
  ·rw[if_pos hb,if_pos hb];simp only[den_lt,shapeR,flatRt,EV,phi (Wl hp hq (show p.b≠q.b by omega))]
  ·rw[if_neg hb,if_neg hb]
abbrev sl {α:Type}(f:α→List PV)(l:List α):PV:= .sl (l.map f)
def F (l:List Pt):PV:= .agg [sl row l]
theorem shapeF (l:List Pt):RF.ev (.shape 1) [F l]=some (F l):=rfl
theorem cellF (l:List Pt):RF.ev (.cell 0) [F l]=some (sl row l):=rfl
theorem rowP (p:Pt):rowPart 0 3 (row p)=some (PP p):=rfl
theorem lh (p:Pt):rowPart 0 0 (row p)=some (.i64 p.id):=rfl
theorem row_len (p:Pt):(row p).length=3:=rfl
def I1 (n:Int):List PV:=[.i64 n]
theorem rowI (n:Int):rowPart 0 0 (I1 n)=some (.i64 n):=rfl
def B1 (b:Bool):List PV:=[.bool b]
theorem rowB (b:Bool):rowPart 0 0 (B1 b)=some (.bool b):=rfl
def pO (l:List Pt):Bool:=l.all Pt.ok
def eN (l:List Pt):Prop:= ∀(i:Nat) (p q:Pt),l[i]?=some p→l[i+1]?=some q→p.id<q.id
open Classical in
def jA (l:List Pt):Int:=if 64<l.length then 4 else if pO l=true then(if eN l then 0 else 32) else 8
theorem Fg {b:Bool}:okE b=0↔b=true:=by cases b<;>simp[okE]
theorem eK {b:Bool}{α:Type}{x y:α}:(if¬okE b=0 then x else y)=if b=true then y else x:=by cases b<;>rfl
open Classical in
theorem vN (l:List Pt):Ans D 231 [F l] [.i64 (jA l)]:=by
 refine ans_of MB UD rfl ⟨65,?_⟩;unfold CY jA;simp only[den_lt,shapeF,cellF,EV,aa,decide_eq_true_eq];by_cases h:64<l.length
 ·rw[if_pos (by omega),if_pos h]
 ·rw[if_neg (by omega),if_neg h];refine(run_list (l:=l) (p:=Pt.ok) (st:=fun i=>[.i64 (i:Int)]) (r:=some [.i64 8]) (fin:=some [.i64 (if eN l then 0 else 32)]) (fun i p self hp _=>?_) (fun hg self=>?_) (by omega)).trans ?_
  ·unfold xO;simp only[den_lt,shapeF,cellF,tixM hp (row_len p),eltM hp,rowP,EV,decide_eq_true_eq,if_lt (get_lt hp),up1 (show i<1000000000 by have:=get_lt hp;omega),phi (PL _),jy]
   cases p.ok<;>rfl
  ·unfold xO;simp only[EV,decide_eq_true_eq,if_ge,GX,cellF,den_lt,aa];refine(run_if (n:=l.length) (P:=fun i=> ∀p q,l[i]?=some q→(0<i→l[i-1]?=some p→p.id<q.id)) (st:=fun i=>[.i64 (i:Int)]) (r:=some [.i64 32]) (fin:=some [.i64 0]) (fun i self hi _=>?_) (fun _ self=>?_) (by omega)).trans ?_
   ·obtain⟨q,hq⟩: ∃q,l[i]?=some q:=⟨l[i],ac _⟩;unfold xN;simp only[den_lt,cellF,tixM hq (row_len q),eltM hq,rowP,EV,decide_eq_true_eq,if_lt hi];cases i with
    |zero=>
     rw[if_neg (by omega),if_pos (fun p q _ h=>by omega)];unfold xM;simp only[EV,ad,if_false]
     try rfl
    |succ j=>
     obtain⟨p,hp⟩: ∃p,l[j]?=some p:=⟨l[j],ac _⟩;rw[if_pos (by omega)];simp only[den_lt,cellF,cellP0,m9 (show j<1000000000 by omega),tixM hp (row_len p),eltM hp,lh,EV]
     unfold xM;simp only[EV,decide_eq_true_eq,up1 (show j+1<1000000000 by omega)]
     by_cases hc:q.id≤p.id
     ·rw[if_pos hc,if_neg (fun h=>by have:=h p q hq (by omega) (by simpa using hp);omega)]
     ·rw[if_neg hc,if_pos (fun p' q' h1 _ h2=>by
       rw[hq] at h1;cases h1;rw[show j+1-1=j by omega,hp] at h2;cases h2
       omega)]
   ·unfold xN;simp only[EV,decide_eq_true_eq,if_ge,GW]
   ·have:(∀j,j<l.length→ ∀p q,l[j]?=some q→(0<j→l[j-1]?=some p→p.id<q.id))↔eN l:=by
     constructor
     ·intro h i p q hp hq;exact h (i+1) (get_lt hq) p q hq (by omega) (by simpa using hp)
     ·intro h j hj p q hq h0 hp;exact h (j-1) p q hp (by rw[show j-1+1=j by omega];exact hq)
    by_cases hr:eN l
    ·rw[if_pos (this.2 hr),if_pos hr]
    ·rw[if_neg (fun h=>hr (this.1 h)),if_neg hr]
  ·unfold pO;cases l.all Pt.ok<;>rfl
open Classical in
theorem Wm (l:List Pt):Ans D 143 [F l] [.i64 (jA l)]:=by
 refine ans_of LS TT rfl ⟨65,?_⟩;unfold B8 jA;simp only[den_lt,shapeF,cellF,EV,aa,decide_eq_true_eq];by_cases h:64<l.length
 ·rw[if_pos (by omega),if_pos h]
 ·rw[if_neg (by omega),if_neg h];refine(run_list (l:=l) (p:=Pt.ok) (st:=fun i=>[.i64 (i:Int)]) (r:=some [.i64 8]) (fin:=some [.i64 (if eN l then 0 else 32)]) (fun i p self hp _=>?_) (fun hg self=>?_) (by omega)).trans ?_
  ·unfold xa;simp only[den_lt,cellF,tixM hp (row_len p),eltM hp,rowP,EV,aa,decide_eq_true_eq,if_lt (get_lt hp),up1 (show i<1000000000 by have:=get_lt hp;omega),phi (V7 _),jy]
  ·unfold xa;simp only[den_lt,cellF,EV,aa,decide_eq_true_eq,if_ge,Ge];refine(run_if (n:=l.length-1) (P:=fun i=> ∀p q,l[i]?=some p→l[i+1]?=some q→p.id<q.id) (st:=fun i=>[.i64 ((i+1:Nat):Int)]) (r:=some [.i64 32]) (fin:=some [.i64 0]) (fun i self hi _=>?_) (fun _ self=>?_) (by omega)).trans ?_
   ·obtain⟨p,hp⟩: ∃p,l[i]?=some p:=⟨l[i],ac _⟩;obtain⟨q,hq⟩: ∃q,l[i+1]?=some q:=⟨l[i+1],ac _⟩;unfold wZ;simp only[den_lt,cellF,m9 (show i<1000000000 by omega),tixM hp (row_len p),eltM hp,tixM hq (row_len q),eltM hq,lh,EV,aa,decide_eq_true_eq,if_lt (get_lt hq),up1 (show i+1<1000000000 by omega)]
    by_cases hc:q.id≤p.id
    ·rw[if_pos hc,if_neg (fun h=>by have:=h p q hp hq;omega)]
    ·rw[if_neg hc,if_pos (fun p' q' h1 h2=>by
      rw[hp] at h1;cases h1;rw[hq] at h2;cases h2;omega)]
   ·unfold wZ;simp only[den_lt,cellF,EV,aa,decide_eq_true_eq,Gc];rw[if_neg (by omega)]
   ·have:(∀j,j<l.length-1→ ∀p q,l[j]?=some p→l[j+1]?=some q→p.id<q.id)↔eN l:=
     ⟨fun h i p q hp hq=>h i (by have:=get_lt hq;omega) p q hp hq,fun h j _ p q hp hq=>h j p q hp hq⟩
    by_cases hr:eN l
    ·rw[if_pos (this.2 hr),if_pos hr]
    ·rw[if_neg (fun h=>hr (this.1 h)),if_neg hr]
  ·unfold pO;cases l.all Pt.ok<;>rfl
def pos (l:List Pt)(id:Int):Int:=jP (fun p=>decide (p.id=id)) l
theorem uX {o:Option Nat}:o.elim (some [PV.i64 (-1)]) (fun i=>some [.i64 (i:Int)])=some [.i64 (o.elim (-1) fun i=>(i:Int))]:=by cases o<;>rfl
theorem lenI (n:Int):(I1 n).length=1:=rfl
theorem lenB (b:Bool):(B1 b).length=1:=rfl
theorem lO {l:List Pt}(hl:l.length≤1000)(id:Int):Ans D 168 [F l,.i64 id] [.i64 (pos l id)]:=by
 refine ans_of L2 T5 rfl ⟨1001,?_⟩;unfold Ci;simp only[den_lt,shapeF,EV];refine(eY (l:=l) (p:=fun p=>decide (p.id=id)) (st:=fun i=>[.i64 (i:Int)]) (ret:=fun i=>some [.i64 (i:Int)]) (fin:=some [.i64 (-1)]) (fun i p self hp=>?_) (fun self=>?_) (by omega)).trans uX
 ·unfold xk;simp only[den_lt,cellF,tixM hp (row_len p),eltM hp,lh,EV,aa,decide_eq_true_eq,if_lt (get_lt hp),up1 (show i<1000000000 by have:=get_lt hp;omega)]
 ·unfold xk;simp only[den_lt,cellF,EV,aa,decide_eq_true_eq,if_ge,Gn]
theorem Wn {α:Type}[DecidableEq α]{l k:List α}(h:l.length=k.length):(l.zip k).all (fun p=>decide (p.1=p.2))=decide (l=k):=by
 induction l generalizing k with
 |nil=>cases k with
  |nil=>rfl
  |cons=>simp at h
 |cons a l ih=>cases k with
  |nil=>simp at h
  |cons b k=>
   rw[jO,bL,ih (by simpa using h)]
   by_cases e:a=b
   ·subst e;simp
   ·simp[e]
theorem dK {α β:Type}{l:List α}{k:List β}{i:Nat}{x:α×β}(h:(l.zip k)[i]?=some x):l[i]?=some x.1∧k[i]?=some x.2:=by
 rw[gi] at h;exact h
theorem cx {α β:Type}{l:List α}{k:List β}(h:l.length=k.length):(l.zip k).length=l.length:=by rw[cv];omega
theorem ju {α:Type}[DecidableEq α]{l k:List α}{x:Option (List PV)}(h:l.length=k.length)(hx:x=if(l.zip k).all (fun p=>decide (p.1=p.2))=true then some [.bool true] else some [.bool false]):x=some [.bool (decide (l=k))]:=by
 rw[hx,Wn h];cases decide (l=k)<;>rfl
theorem PY (p q:Pt):RF.ev (.eqv [.i,.i,.i]) [PP p,PP q]=some (.bool (decide (p=q))):=by
 obtain⟨a,b,c⟩:=p;obtain⟨x,y,z⟩:=q;have:RF.ev (.eqv [.i,.i,.i]) [PP ⟨a,b,c⟩,PP ⟨x,y,z⟩]=some (.bool (decide (a=x)&&(decide (b=y)&&(decide (c=z)&& true)))):=rfl;rw[this]
 congr 2
 simp[Pt.mk.injEq,iZ]
theorem c28 {l k:List Pt}(hl:l.length≤1000):Ans D 28 [F l,F k] [.bool (decide (l=k))]:=by
 refine ans_of Pe s28 rfl ⟨1001,?_⟩;unfold k28;simp only[den_lt,shapeF,cellF,EV,aa,ai,decide_eq_false_iff_not];by_cases h:l.length=k.length
 ·rw[if_neg (by omega)];refine ju h (run_list (l:=l.zip k) (st:=fun i=>[.i64 (i:Int)]) (fun i x self hx _=>?_) (fun _ self=>?_) (by rw[cx h];omega))
  ·obtain⟨hp,hq⟩:=dK hx;unfold BF;simp only[den_lt,cellF,tixM hp (row_len _),eltM hp,tixM hq (row_len _),eltM hq,rowP,PY,EV,aa,decide_eq_true_eq,ai,decide_eq_false_iff_not,if_lt (get_lt hp),up1 (show i<1000000000 by have:=get_lt hp;omega)]
   by_cases e:x.1=x.2<;>simp[e]
  ·rw[cx h];unfold BF;simp only[den_lt,cellF,EV,aa,decide_eq_true_eq,if_ge,KO]
 ·rw[if_pos (by omega),decide_eq_false (fun e=>h (by rw[e]))]
theorem PZ {l k:List Int}(hl:l.length≤1000): ∃N,den (PhiS D) N k135 [] [sl I1 l,sl I1 k]=some [.bool (decide (l=k))]:=by
 refine⟨1001,?_⟩;unfold k135;simp only[EV,aa,ai,decide_eq_false_iff_not];by_cases h:l.length=k.length
 ·rw[if_neg (by omega)];refine ju h (run_list (l:=l.zip k) (st:=fun i=>[.i64 (i:Int)]) (fun i x self hx _=>?_) (fun _ self=>?_) (by rw[cx h];omega))
  ·obtain⟨hp,hq⟩:=dK hx;unfold wQ;simp only[tixM hp (lenI _),eltM hp,tixM hq (lenI _),eltM hq,rowI,EV,aa,decide_eq_true_eq,ai,decide_eq_false_iff_not,if_lt (get_lt hp),up1 (show i<1000000000 by have:=get_lt hp;omega)]
   by_cases e:x.1=x.2<;>simp[e]
  ·rw[cx h];unfold wQ;simp only[EV,aa,decide_eq_true_eq,if_ge,F4]
 ·rw[if_pos (by omega),decide_eq_false (fun e=>h (by rw[e]))]
theorem A9 {l k:List Int}(hl:l.length≤1000):Ans D 135 [sl I1 l,sl I1 k] [.bool (decide (l=k))]:=ans_of LO TO rfl (PZ hl)
theorem c313 {l k:List Int}(hl:l.length≤1000):Ans D 313 [sl I1 l,sl I1 k] [.bool (decide (l=k))]:=ans_of No Vn rfl (PZ hl)
theorem Wo {l k:List Bool}(hl:l.length≤1000):Ans D 376 [sl B1 l,sl B1 k] [.bool (decide (l=k))]:=by
 refine ans_of NQ VO rfl ⟨1001,?_⟩;unfold Eb;simp only[EV,aa,ai,decide_eq_false_iff_not];by_cases h:l.length=k.length
 ·rw[if_neg (by omega)];refine ju h (run_list (l:=l.zip k) (st:=fun i=>[.i64 (i:Int)]) (fun i x self hx _=>?_) (fun _ self=>?_) (by rw[cx h];omega))
  ·obtain⟨hp,hq⟩:=dK hx;unfold yO;simp only[tixM hp (lenB _),eltM hp,tixM hq (lenB _),eltM hq,rowB,EV,aa,decide_eq_true_eq,if_lt (get_lt hp),up1 (show i<1000000000 by have:=get_lt hp;omega)]
   obtain⟨a,b⟩:=x;cases a<;>cases b<;>rfl
  ·rw[cx h];unfold yO;simp only[EV,aa,decide_eq_true_eq,if_ge,HH]
 ·rw[if_pos (by omega),decide_eq_false (fun e=>h (by rw[e]))]
theorem vO {l:List Pt}(h:eN l): ∀(d i:Nat) (p q:Pt),l[i]?=some p→l[i+d+1]?=some q→p.id<q.id
 |0,i,p,q,hp,hq=>h i p q hp hq
 |d+1,i,p,q,hp,hq=>by
  obtain⟨m,hm⟩: ∃m,l[i+d+1]?=some m:=⟨l[i+d+1]'(by have:=get_lt hq;omega),ac _⟩;have h1:=vO h d i p m hp hm;have h2:=h (i+d+1) m q hm (by rw[←hq];congr 1);omega
theorem eO {l:List Pt}(h:eN l){i j:Nat}{p q:Pt}(hij:i<j)(hp:l[i]?=some p)(hq:l[j]?=some q):p.id<q.id:=
 vO h (j-i-1) i p q hp (by rw[show i+(j-i-1)+1=j by omega];exact hq)
theorem risen_ids {l:List Pt}(h:eN l):Ids l:=by
 unfold Ids;rw[nodup_get];intro i j x hi hj;rw[aI,bf] at hi hj;obtain⟨p,hp,rfl⟩:=hi;obtain⟨q,hq,e⟩:=hj;rcases cq i j with g|g|g
 ·have:=eO h g hp hq;omega
 ·exact g
 ·have:=eO h g hq hp;omega
def LB (l:List Pt)(id:Int)(m:Nat):Prop:=m≤l.length∧ ∀(k:Nat) (p:Pt),l[k]?=some p→(k<m→p.id<id)∧(m≤k→id≤p.id)
theorem IH {a b:Nat}(h:a<1000000)(k:b<1000000):intB .shr .u64 (IntKind.u64.wrap (IntKind.i64.wrap ((a:Int)+(b:Int)))) .u64 1=some (.v (.int .u64 (((a+b)/2:Nat):Int))):=by
 rw[E3,if_neg (by decide),bU (by omega) (by omega),gg,show min (1:Int).toNat IntKind.u64.bits=1 from rfl,dm _ (by decide)]
 congr 3
 omega
theorem qy {N:Nat}{f:JT}{e0 e2:PV}{l:List Pt}{id:Int}(hs:eN l)(hl:l.length≤1000): ∀(m i j:Nat),j-i<m→i≤j→j≤l.length→(∀(k:Nat) (p:Pt),l[k]?=some p→(k<i→p.id<id)∧(j≤k→id≤p.id))→
  ∃P,LB l id P∧denW (PhiS D) N k271_4 [f] [e0,.i64 id,F l,sl row l,e2] m [.i64 (i:Int),.i64 (j:Int)]=f [.i64 (P:Int)]
 |0,i,j,h,_,_,_=>by omega
 |m+1,i,j,h,hij,hj,hb=>by
  rw[denW_succ];by_cases hlt:i<j
  ·obtain⟨p,hp⟩: ∃p,l[(i+j)/2]?=some p:=⟨l[(i+j)/2]'(by omega),ac _⟩;have key: ∀self:JT,den (PhiS D) N k271_4 ([f]++[self]) ([e0,.i64 id,F l,sl row l,e2]++[.i64 (i:Int),.i64 (j:Int)])=if p.id<id then self [.i64 (((i+j)/2+1:Nat):Int),.i64 (j:Int)] else self [.i64 (i:Int),.i64 (((i+j)/2:Nat):Int)]:=fun self=>by
    unfold k271_4;simp only[EV,decide_eq_true_eq,if_lt hlt,IH (show i<1000000 by omega) (show j<1000000 by omega),bU (show-9223372036854775808≤(((i+j)/2:Nat):Int) by omega) (by omega),den_lt,cellF,tixM hp (row_len p),eltM hp,rowP,cellP0,phi (oB _ _),Hg,up1 (show(i+j)/2<1000000000 by omega)]
    by_cases c:p.id<id
    ·rw[if_pos c,if_pos (show sgn (p.id-id)<0 by unfold sgn;rw[if_pos (by omega)];decide)]
    ·rw[if_neg c,if_neg (show¬sgn (p.id-id)<0 by unfold sgn;rw[if_neg (by omega)];split<;>decide)]
   rw[key];by_cases c:p.id<id
   ·rw[if_pos c];refine qy hs hl m _ j (by omega) (by omega) hj fun k q hq=>⟨fun hk=>?_,(hb k q hq).2⟩;by_cases e:k=(i+j)/2
    ·subst e;rw[hp] at hq;cases hq;exact c
    ·have:=eO hs (show k<(i+j)/2 by omega) hq hp;omega
   ·rw[if_neg c];refine qy hs hl m i _ (by omega) (by omega) (by omega) fun k q hq=>⟨(hb k q hq).1,fun hk=>?_⟩;by_cases e:k=(i+j)/2
    ·subst e;rw[hp] at hq;cases hq;omega
    ·have:=eO hs (show(i+j)/2<k by omega) hp hq;omega
  ·refine⟨i,⟨by omega,fun k p hp=>⟨(hb k p hp).1,fun h=>(hb k p hp).2 (by omega)⟩⟩,?_⟩;unfold k271_4;simp only[EV,decide_eq_true_eq];rw[if_neg (by omega)]
theorem vP {l:List Pt}{id:Int}:(∀p∈l,p.id≠id)→pos l id= -1:=fun h=>by
 unfold pos jP;rw[bO.2 (fun p hp=>decide_eq_false (h p hp))];rfl
theorem qz {l:List Pt}(hs:eN l){i:Nat}{p:Pt}(h:l[i]?=some p):pos l p.id=i:=by
 unfold pos jP;have:l.findIdx? (fun q=>decide (q.id=p.id))=some i:=by
  rw[ba];have hi:=get_lt h;have e:=(aj.1 h).2;refine⟨hi,by rw[e];simp,fun j hj=>?_⟩;have:=eO hs hj (ac (by omega)) h;simp;omega
 rw[this];rfl
theorem pos_cases (l:List Pt)(id:Int):(pos l id= -1∧ ∀p∈l,p.id≠id)∨ ∃(i:Nat) (p:Pt),l[i]?=some p∧p.id=id∧pos l id=(i:Nat):=by
 unfold pos jP;cases h:l.findIdx? (fun q=>decide (q.id=id)) with
 |none=>
  rw[bO] at h;exact .inl ⟨rfl,fun p hp=>dZ (h p hp)⟩
 |some i=>
  obtain⟨h1,h2,_⟩:=ba.1 h;exact .inr ⟨i,l[i],ac h1,of_decide_eq_true h2,rfl⟩
theorem nh {e0:PV}{l:List Pt}{id:Int}(hs:eN l)(hl:l.length≤1000): ∃P:Nat,(0≤pos l id→pos l id=P)∧ ∀(K2 K1:K) (J:List JT),K2=(.jp K1 (.lt (.bin .lss) [.x 5,.x 4] (.br (.x 6) (.lt (.cell 0) [.x 2] (.lt (.tix 3) [.x 7,.x 5] (.lt (.elt 0 3) [.x 7,.x 8] (.lt (.cell 0) [.x 9] (.call 354 [.x 10,.x 1] (.lt (.bin .eql) [.x 11,.c (.i64 0)] (.jmp 0 [.x 12]))))))) (.jmp 0 [.c (.bool false)]))))→
  denW (PhiS D) 1001 k271_4 [jR (PhiS D) 1001 K2 [] [e0,.i64 id,F l,sl row l,.i64 (l.length:Int)]] [e0,.i64 id,F l,sl row l,.i64 (l.length:Int)] 1001 [.i64 0,.i64 (l.length:Int)]=den (PhiS D) 1001 K1 [] [e0,.i64 id,F l,sl row l,.i64 (l.length:Int),.i64 (P:Int),.bool (decide (0≤pos l id))]:=by
 have hbin:=fun f:JT=>qy (N:=1001) (f:=f) (e0:=e0) (e2:= .i64 (l.length:Int)) (id:=id) hs hl 1001 0 l.length (by omega) (by omega) (by omega) fun k p hp=>⟨fun h=>by omega,fun h=>by have:=get_lt hp;omega⟩;have uniq: ∀P P',LB l id P→LB l id P'→P=P':=fun P P' h h'=>by
  rcases cq P P' with g|g|g
  ·obtain⟨p,hp⟩: ∃p,l[P]?=some p:=⟨l[P]'(by have:=h'.1;omega),ac _⟩;have h1:=(h.2 P p hp).2 (am _);have h2:=(h'.2 P p hp).1 g;omega
  ·exact g
  ·obtain⟨p,hp⟩: ∃p,l[P']?=some p:=⟨l[P']'(by have:=h.1;omega),ac _⟩;have h1:=(h'.2 P' p hp).2 (am _);have h2:=(h.2 P' p hp).1 g;omega
 obtain⟨P,hLB,_⟩:=hbin fun _=>none;obtain⟨h1,h2⟩:=hLB;have hpos:(0≤pos l id→pos l id=P)∧(0≤pos l id↔ ∃p,l[P]?=some p∧p.id=id):=by
  rcases pos_cases l id with⟨e,hn⟩|⟨i,p,hp,he,e⟩
  ·refine⟨fun h=>by omega,fun h=>by omega,fun⟨p,hp,he⟩=>absurd he (hn p (ah hp))⟩
  ·have:i=P:=by
    rcases cq i P with g|g|g
    ·have:=(h2 i p hp).1 g;omega
    ·exact g
    ·obtain⟨q,hq⟩: ∃q,l[P]?=some q:=⟨l[P]'(by have:=get_lt hp;omega),ac _⟩;have:=(h2 P q hq).2 (by omega);have:=eO hs g hq hp;omega
   subst this;exact⟨fun _=>e,fun _=>⟨p,hp,he⟩,fun _=>by omega⟩
 refine⟨P,hpos.1,fun K2 K1 J hK=>?_⟩;obtain⟨P',hLB',h3⟩:=hbin (jR (PhiS D) 1001 K2 [] [e0,.i64 id,F l,sl row l,.i64 (l.length:Int)]);have:=uniq P P' ⟨h1,h2⟩ hLB';subst this;refine h3.trans ?_;subst hK;simp only[EV,decide_eq_true_eq];by_cases hP:P<l.length
 ·obtain⟨p,hp⟩: ∃p,l[P]?=some p:=⟨l[P],ac _⟩;simp only[if_lt hP,den_lt,cellF,tixM hp (row_len p),eltM hp,rowP,cellP0,phi (oB _ _),EV];have:decide (sgn (p.id-id)=0)=decide (0≤pos l id):=by
   rw[aV,vM,hpos.2];constructor
   ·intro h;exact⟨p,hp,by omega⟩
   ·rintro⟨q,hq,h⟩;rw[hp] at hq;cases hq;omega
  rw[this]
 ·rw[if_neg (by omega)];rw[decide_eq_false (show¬0≤pos l id by rw[hpos.2];rintro⟨p,hp,_⟩;have:=get_lt hp;omega)]
def okF (l:List Pt):Prop:=l.length≤64∧pO l=true∧eN l
theorem fD {l:List Pt}:jA l=0↔okF l:=by
 unfold jA okF;constructor
 ·intro h;split at h
  ·cases h
  ·split at h
   ·split at h
    ·exact⟨by omega,by assumption,by assumption⟩
    ·cases h
   ·cases h
 ·rintro⟨h1,h2,h3⟩;rw[if_neg (by omega),if_pos h2,if_pos h3]
theorem okF_pt {l:List Pt}(h:okF l){i:Nat}{p:Pt}(hp:l[i]?=some p):p.ok=true:=aG.1 h.2.1 p (ah hp)
theorem tj {l:List Pt}(h:okF l){i:Nat}{p:Pt}(hp:l[i]?=some p):decide (0≤pos l p.id)=true∧pos l p.id=(i:Nat):=by
 have:=qz h.2.2 hp;exact⟨by rw[this];exact decide_eq_true (by omega),this⟩
theorem d271 {l:List Pt}(h:okF l){i:Nat}{p:Pt}(hp:l[i]?=some p):Ans D 271 [F l,.i64 p.id] [.i64 (i:Int),.bool true]:=by
 obtain⟨P,h2,h1⟩:=nh (e0:=F l) (id:=p.id) h.2.2 (by have:=h.1;omega);obtain⟨e1,e2⟩:=tj h hp;have:P=i:=by have:=h2 (of_decide_eq_true e1);omega
 subst this;refine ans_of MZ UZ rfl ⟨1001,?_⟩;unfold Dl;simp only[den_lt,shapeF,cellF,EV,aa];refine(h1 _ x9 [] rfl).trans ?_;simp only[x9,EV,e1]
theorem Wp {l:List Pt}(h:okF l){i:Nat}{p:Pt}(hp:l[i]?=some p):Ans D 281 [F l,.i64 p.id] [.i64 (i:Int),.i64 0]:=by
 have h0:=phi (vN l);rw[fD.2 h] at h0;refine ans_of k281_ok s281 rfl ⟨1,?_⟩;unfold k281;simp only[den_lt,shapeF,EV,h0,phi (d271 h hp),decide_true,ak,ad,if_false]
theorem Ba (p:Pt):RF.ev .flat [PP p]=some (PP p):=rfl
theorem c248 {l:List Pt}(h:okF l){i:Nat}{p:Pt}(hp:l[i]?=some p):Ans D 248 [F l,.i64 p.id] [PP p,.i64 0]:=by
 refine ans_of ML UN rfl ⟨1,?_⟩;unfold C9;simp only[den_lt,shapeF,cellF,EV,phi (Wp h hp),decide_true,ak,ad,if_false,tixM hp (row_len p),eltM hp,rowP,Ba]
theorem Wq {l:List Pt}{t:Rt}(h:okF l)(ht:In64 t)(hr:rok t=true){i j:Nat}{p q:Pt}(hp:l[i]?=some p)(hq:l[j]?=some q)(hne:p.id≠q.id):Ans D 156 [F l,R t,.i64 p.id,.i64 q.id] [.bool (leads t p q)]:=by
 have h0:=phi (A8 (p:=p) (q:=q) ht);rw[ik (okF_pt h hp) (okF_pt h hq) hr hne] at h0;refine ans_of k156_ok s156 rfl ⟨1,?_⟩;unfold k156;simp only[den_lt,shapeF,shapeR,shapeP,EV,phi (c248 h hp),phi (c248 h hq),h0,if_true]
theorem II {l:List Pt}(h:okF l){i:Nat}{p:Pt}(hp:l[i]?=some p):Ans D 367 [F l,.i64 p.id] [.i64 (i:Int),.bool true]:=by
 obtain⟨P,h2,h1⟩:=nh (e0:=F l) (id:=p.id) h.2.2 (by have:=h.1;omega);obtain⟨e1,e2⟩:=tj h hp;have:P=i:=by have:=h2 (of_decide_eq_true e1);omega
 subst this;refine ans_of Ao PH rfl ⟨1001,?_⟩;unfold yG;simp only[den_lt,shapeF,cellF,EV,aa];refine(h1 _ oU [] rfl).trans ?_;simp only[oU,EV,e1]
theorem Sa {l:List Pt}(h:okF l){id:Int}(hn: ∀p∈l,p.id≠id): ∃P:Nat,Ans D 367 [F l,.i64 id] [.i64 (P:Int),.bool false]:=by
 obtain⟨P,_,h1⟩:=nh (e0:=F l) (id:=id) h.2.2 (by have:=h.1;omega);refine⟨P,ans_of Ao PH rfl ⟨1001,?_⟩⟩;unfold yG;simp only[den_lt,shapeF,cellF,EV,aa];refine(h1 _ oU [] rfl).trans ?_;simp only[oU,EV,vP hn];rfl
def ptOf (l:List Pt)(id:Int):Pt:=(l.find? fun p=>decide (p.id=id)).getD ⟨-1,0,0⟩
theorem ptOf_some {l:List Pt}(h:okF l){i:Nat}{p:Pt}(hp:l[i]?=some p):ptOf l p.id=p:=by
 unfold ptOf;cases e:l.find? fun q=>decide (q.id=p.id) with
 |none=>rw[dW] at e;have:=e p (ah hp);simp at this
 |some q=>
  have h1:=d5 e;exact(risen_ids h.2.2).inj (cf e) (ah hp) (of_decide_eq_true h1)
theorem ui {l:List Pt}{id:Int}(hn: ∀p∈l,p.id≠id):ptOf l id=⟨-1,0,0⟩:=by
 unfold ptOf;rw[dW.2 (fun p hp=>by simpa using hn p hp)]
 rfl
theorem has_cases (l:List Pt)(id:Int):(∀p∈l,p.id≠id)∨ ∃(i:Nat) (p:Pt),l[i]?=some p∧p.id=id:=by
 rcases pos_cases l id with⟨_,h⟩|⟨i,p,h1,h2,_⟩
 ·exact .inl h
 ·exact .inr ⟨i,p,h1,h2⟩
theorem c315 {l:List Pt}(h:okF l)(id:Int):Ans D 315 [F l,.i64 id] [PP (ptOf l id)]:=by
 obtain⟨P,h2,h1⟩:=nh (e0:=F l) (id:=id) h.2.2 (by have:=h.1;omega);refine ans_of Np Vo rfl ⟨1001,?_⟩;unfold DJ;simp only[den_lt,shapeF,cellF,EV,aa];refine(h1 _ yp [] rfl).trans ?_;unfold yp;rcases has_cases l id with hn|⟨i,p,hp,rfl⟩
 ·have a3:RF.ev .agg [.i64 (-1),.i64 0,.i64 0]=some (PP ⟨-1,0,0⟩):=rfl;rw[vP hn,decide_eq_false (by decide)];simp only[den_lt,shapeF,cellF,EV,aM,if_true,a3,Ba,ui hn]
 ·obtain⟨e1,e2⟩:=tj h hp;have:P=i:=by have:=h2 (of_decide_eq_true e1);omega
  subst this;rw[e1];simp only[den_lt,shapeF,cellF,EV,ak,ad,if_false,tixM hp (row_len p),eltM hp,rowP,Ba,ptOf_some h hp]
structure Crt where
 low:Int
 high:Int
 deriving DecidableEq
structure Held where
 number:Int
 cert:Crt
 deriving DecidableEq
structure Hnd where
 index:Int
 use:Int
 deriving DecidableEq
structure Evt where
 time:Rt
 number:Int
 hnd:Hnd
 deriving DecidableEq
structure Due where
 number:Int
 hnd:Hnd
 deriving DecidableEq
structure Nod where
 id:Int
 left:Int
 right:Int
 deriving DecidableEq
structure Certs where
 next:Int
 list:List Held
 deriving DecidableEq
structure Agenda where
 slots:Slots
 heap:List Evt
 wher:List Int
 deriving DecidableEq
structure Clock where
 now:Rt
 pts:List Pt
 certs:Certs
 agenda:Agenda
 due:List Due
 deriving DecidableEq
structure Brk where
 places:List Int
 wins:List Int
 deriving DecidableEq
structure Tree where
 root:Int
 nodes:List Nod
 deriving DecidableEq
structure KHeap where
 clock:Clock
 heap:List Int
 deriving DecidableEq
structure KTourn where
 clock:Clock
 brk:Brk
 deriving DecidableEq
structure Heater where
 clock:Clock
 tree:Tree
 deriving DecidableEq
structure Choice where
 tag:Int
 heap:KHeap
 tourn:KTourn
 heater:Heater
 hanger:KHeap
 deriving DecidableEq
def crow (c:Crt):List PV:=[.i64 c.low,.i64 c.high]
def hrow (h:Held):List PV:=[.i64 h.number,.i64 h.cert.low,.i64 h.cert.high]
def erow (e:Evt):List PV:=[.i64 e.time.num,.i64 e.time.den,.i64 e.number,.i64 e.hnd.index,.i64 e.hnd.use]
def bF (d:Due):List PV:=[.i64 d.number,.i64 d.hnd.index,.i64 d.hnd.use]
def nrow (n:Nod):List PV:=[.i64 n.id,.i64 n.left,.i64 n.right]
def CP (c:Crt):PV:= .agg (crow c)
def HP (h:Held):PV:= .agg (hrow h)
def EP (e:Evt):PV:= .agg (erow e)
def DP (d:Due):PV:= .agg (bF d)
def NP (n:Nod):PV:= .agg (nrow n)
def csC (c:Certs):List PV:=[.i64 c.next,sl hrow c.list]
def slC (s:Slots):List PV:=[sl I1 s.uses,sl B1 s.used,sl I1 s.free]
def agC (a:Agenda):List PV:=slC a.slots++[sl erow a.heap,sl I1 a.wher]
def clC (c:Clock):List PV:= .i64 c.now.num:: .i64 c.now.den::sl row c.pts::(csC c.certs++(agC c.agenda++[sl bF c.due]))
def brC (b:Brk):List PV:=[sl I1 b.places,sl I1 b.wins]
def trC (t:Tree):List PV:=[.i64 t.root,sl nrow t.nodes]
def khC (k:KHeap):List PV:=clC k.clock++[sl I1 k.heap]
def ktC (k:KTourn):List PV:=clC k.clock++brC k.brk
def htC (k:Heater):List PV:=clC k.clock++trC k.tree
def aL (c:Choice):List PV:= .v (.int .u8 c.tag)::(khC c.heap++(ktC c.tourn++(htC c.heater++khC c.hanger)))
def CS (c:Certs):PV:= .agg (csC c)
def SL (s:Slots):PV:= .agg (slC s)
def AG (a:Agenda):PV:= .agg (agC a)
def CL (c:Clock):PV:= .agg (clC c)
def BR (b:Brk):PV:= .agg (brC b)
def TR (t:Tree):PV:= .agg (trC t)
def KH (k:KHeap):PV:= .agg (khC k)
def KT (k:KTourn):PV:= .agg (ktC k)
def HT (k:Heater):PV:= .agg (htC k)
def CHO (c:Choice):PV:= .agg (aL c)
theorem rowC (c:Crt):rowPart 0 2 (crow c)=some (CP c):=rfl
theorem rowH (h:Held):rowPart 0 3 (hrow h)=some (HP h):=rfl
theorem rowHc (h:Held):rowPart 1 2 (hrow h)=some (CP h.cert):=rfl
theorem uY (h:Held):rowPart 0 0 (hrow h)=some (.i64 h.number):=rfl
theorem Sb (h:Held):rowPart 1 0 (hrow h)=some (.i64 h.cert.low):=rfl
theorem Sc (h:Held):rowPart 2 0 (hrow h)=some (.i64 h.cert.high):=rfl
theorem rowE (e:Evt):rowPart 0 5 (erow e)=some (EP e):=rfl
theorem IJ (d:Due):rowPart 0 3 (bF d)=some (DP d):=rfl
theorem rowN (n:Nod):rowPart 0 3 (nrow n)=some (NP n):=rfl
theorem lenC (c:Crt):(crow c).length=2:=rfl
theorem lenH (c:Held):(hrow c).length=3:=rfl
theorem lenE (c:Evt):(erow c).length=5:=rfl
theorem lenD (c:Due):(bF c).length=3:=rfl
theorem lenN (c:Nod):(nrow c).length=3:=rfl
section
variable (c:Certs)(s:Slots)(a:Agenda)(k:Clock)(b:Brk)(t:Tree)(kh:KHeap)(kt:KTourn)(ht:Heater)(ch:Choice)(cr:Crt)(h:Held)
theorem shCP:RF.ev (.shape 2) [CP cr]=some (CP cr):=rfl
theorem cCP0:RF.ev (.cell 0) [CP cr]=some (.i64 cr.low):=rfl
theorem cCP1:RF.ev (.cell 1) [CP cr]=some (.i64 cr.high):=rfl
theorem cHP0:RF.ev (.cell 0) [HP h]=some (.i64 h.number):=rfl
theorem pHP:RF.ev (.part 1 2) [HP h]=some (CP h.cert):=rfl
theorem shCS:RF.ev (.shape 2) [CS c]=some (CS c):=rfl
theorem cCS0:RF.ev (.cell 0) [CS c]=some (.i64 c.next):=rfl
theorem cCS1:RF.ev (.cell 1) [CS c]=some (sl hrow c.list):=rfl
theorem shSL:RF.ev (.shape 3) [SL s]=some (SL s):=rfl
theorem cSL0:RF.ev (.cell 0) [SL s]=some (sl I1 s.uses):=rfl
theorem cSL1:RF.ev (.cell 1) [SL s]=some (sl B1 s.used):=rfl
theorem cSL2:RF.ev (.cell 2) [SL s]=some (sl I1 s.free):=rfl
theorem shAG:RF.ev (.shape 5) [AG a]=some (AG a):=rfl
theorem pAG:RF.ev (.part 0 3) [AG a]=some (SL a.slots):=rfl
theorem cAG3:RF.ev (.cell 3) [AG a]=some (sl erow a.heap):=rfl
theorem cAG4:RF.ev (.cell 4) [AG a]=some (sl I1 a.wher):=rfl
theorem shCL:RF.ev (.shape 11) [CL k]=some (CL k):=rfl
theorem pCL0:RF.ev (.part 0 2) [CL k]=some (R k.now):=rfl
theorem pCL2:RF.ev (.part 2 1) [CL k]=some (F k.pts):=rfl
theorem pCL3:RF.ev (.part 3 2) [CL k]=some (CS k.certs):=rfl
theorem pCL5:RF.ev (.part 5 5) [CL k]=some (AG k.agenda):=rfl
theorem cCL2:RF.ev (.cell 2) [CL k]=some (sl row k.pts):=rfl
theorem cCL4:RF.ev (.cell 4) [CL k]=some (sl hrow k.certs.list):=rfl
theorem cCL8:RF.ev (.cell 8) [CL k]=some (sl erow k.agenda.heap):=rfl
theorem cCL9:RF.ev (.cell 9) [CL k]=some (sl I1 k.agenda.wher):=rfl
theorem cCL10:RF.ev (.cell 10) [CL k]=some (sl bF k.due):=rfl
theorem shBR:RF.ev (.shape 2) [BR b]=some (BR b):=rfl
theorem iD:RF.ev (.cell 0) [BR b]=some (sl I1 b.places):=rfl
theorem cBR1:RF.ev (.cell 1) [BR b]=some (sl I1 b.wins):=rfl
theorem shTR:RF.ev (.shape 2) [TR t]=some (TR t):=rfl
theorem cTR0:RF.ev (.cell 0) [TR t]=some (.i64 t.root):=rfl
theorem cTR1:RF.ev (.cell 1) [TR t]=some (sl nrow t.nodes):=rfl
theorem shKH:RF.ev (.shape 12) [KH kh]=some (KH kh):=rfl
theorem pKH:RF.ev (.part 0 11) [KH kh]=some (CL kh.clock):=rfl
theorem cKH:RF.ev (.cell 11) [KH kh]=some (sl I1 kh.heap):=rfl
theorem shKT:RF.ev (.shape 13) [KT kt]=some (KT kt):=rfl
theorem pKT:RF.ev (.part 0 11) [KT kt]=some (CL kt.clock):=rfl
theorem pKTb:RF.ev (.part 11 2) [KT kt]=some (BR kt.brk):=rfl
theorem shHT:RF.ev (.shape 13) [HT ht]=some (HT ht):=rfl
theorem pHT:RF.ev (.part 0 11) [HT ht]=some (CL ht.clock):=rfl
theorem pHTt:RF.ev (.part 11 2) [HT ht]=some (TR ht.tree):=rfl
theorem shCH:RF.ev (.shape 51) [CHO ch]=some (CHO ch):=rfl
theorem cCH:RF.ev (.cell 0) [CHO ch]=some (.v (.int .u8 ch.tag)):=rfl
theorem pCH1:RF.ev (.part 1 12) [CHO ch]=some (KH ch.heap):=rfl
theorem pCH2:RF.ev (.part 13 13) [CHO ch]=some (KT ch.tourn):=rfl
theorem pCH3:RF.ev (.part 26 13) [CHO ch]=some (HT ch.heater):=rfl
theorem pCH4:RF.ev (.part 39 12) [CHO ch]=some (KH ch.hanger):=rfl
end
def gSl (s:Slots):Bool:=decide (210<s.uses.length)||decide (210<s.used.length)||decide (210<s.free.length)
def gAg (a:Agenda):Bool:=gSl a.slots||decide (210<a.heap.length)||decide (210<a.wher.length)
def gF (l:List Pt):Bool:=(decide (16<l.length)&& decide (l.length<64))||decide (70<l.length)
def gCl (c:Clock):Bool:=decide (40<c.certs.list.length)||decide (40<c.due.length)||gF c.pts||gAg c.agenda
def gKh (k:KHeap):Bool:=gCl k.clock||decide (70<k.heap.length)
def gKt (k:KTourn):Bool:=gCl k.clock||(decide (70<k.brk.places.length)||decide (70<k.brk.wins.length))
def gHt (k:Heater):Bool:=gCl k.clock||decide (70<k.tree.nodes.length)
def gCh (c:Choice):Bool:=gKh c.heap||gKt c.tourn||gHt c.heater||gKh c.hanger
theorem Ke (b:Nat):decide ((210:Int)<(b:Int))=decide (210<b):=aV.2 (by omega)
theorem Bb (b:Nat):decide ((70:Int)<(b:Int))=decide (70<b):=aV.2 (by omega)
theorem Wr (b:Nat):decide ((40:Int)<(b:Int))=decide (40<b):=aV.2 (by omega)
theorem Ws (b:Nat):decide ((16:Int)<(b:Int))=decide (16<b):=aV.2 (by omega)
theorem Wt (b:Nat):decide ((b:Int)<64)=decide (b<64):=aV.2 (by omega)
theorem Wu (s:Slots):Ans D 285 [SL s] [.bool (gSl s)]:=by
 refine ans_of M0 U1 rfl ⟨1,?_⟩;unfold Dm gSl;simp only[den_lt,shSL,cSL0,cSL1,cSL2,EV,aa,Hh,Ke];cases decide (210<s.uses.length)<;>cases decide (210<s.used.length)<;>rfl
theorem Wv (a:Agenda):Ans D 206 [AG a] [.bool (gAg a)]:=by
 refine ans_of Mg Uj rfl ⟨1,?_⟩;unfold CA gAg;simp only[den_lt,shAG,pAG,cAG3,cAG4,EV,aa,GE,Ke,phi (Wu _)];cases gSl a.slots<;>cases decide (210<a.heap.length)<;>rfl
theorem c19 (l:List Pt):Ans D 19 [F l] [.bool (gF l)]:=by
 refine ans_of Pb s19 rfl ⟨1,?_⟩;unfold k19 gF;simp only[den_lt,shapeF,cellF,EV,aa,KF,Bb,Ws,Wt];cases decide (16<l.length)<;>cases decide (l.length<64)<;>rfl
theorem IK (c:Clock):Ans D 109 [CL c] [.bool (gCl c)]:=by
 refine ans_of Lx Tz rfl ⟨1,?_⟩;unfold BO gCl;simp only[den_lt,shCL,cCL4,cCL10,pCL2,pCL5,EV,aa,FH,Wr,phi (c19 _),phi (Wv _)];cases decide (40<c.certs.list.length)<;>cases decide (40<c.due.length)<;>cases gF c.pts<;>rfl
theorem Ww (b:Brk):Ans D 110 [BR b] [.bool (decide (70<b.places.length)||decide (70<b.wins.length))]:=by
 refine ans_of Ly TA rfl ⟨1,?_⟩;unfold BP;simp only[den_lt,shBR,iD,cBR1,EV,aa,FI,Bb];cases decide (70<b.places.length)<;>rfl
theorem Wx (t:Tree):Ans D 111 [TR t] [.bool (decide (70<t.nodes.length))]:=by
 refine ans_of Lz TB rfl ⟨1,?_⟩;unfold BQ;simp only[den_lt,shTR,cTR1,EV,aa,Bb]
theorem d35 (k:KHeap): ∃N,den (PhiS D) N k35 [] [KH k]=some [.bool (gKh k)]:=by
 refine⟨1,?_⟩;unfold k35 gKh;simp only[den_lt,shKH,pKH,cKH,EV,aa,KQ,Bb,phi (IK _)];cases gCl k.clock<;>rfl
theorem c36 (k:KTourn):Ans D 36 [KT k] [.bool (gKt k)]:=by
 refine ans_of Pg s36 rfl ⟨1,?_⟩;unfold k36 gKt;simp only[den_lt,shKT,pKT,pKTb,EV,KR,phi (IK _),phi (Ww _)];cases gCl k.clock<;>rfl
theorem c37 (k:Heater):Ans D 37 [HT k] [.bool (gHt k)]:=by
 refine ans_of Ph s37 rfl ⟨1,?_⟩;unfold k37 gHt;simp only[den_lt,shHT,pHT,pHTt,EV,KS,phi (IK _),phi (Wx _)];cases gCl k.clock<;>rfl
theorem c7 (c:Choice):Ans D 7 [CHO c] [.bool (gCh c)]:=by
 refine ans_of R8 s7 rfl ⟨1,?_⟩;unfold k7 gCh;simp only[den_lt,shCH,pCH1,pCH2,pCH3,pCH4,EV,QC,phi (ans_of Pf s35 rfl (d35 _)),phi (c36 _),phi (c37 _),phi (ans_of Pi s38 rfl (d35 _))];cases gKh c.heap<;>cases gKt c.tourn<;>cases gHt c.heater<;>rfl
theorem IL (a b c x y z:Int):RF.ev (.eqv [.i,.i,.i]) [.agg [.i64 a,.i64 b,.i64 c],.agg [.i64 x,.i64 y,.i64 z]]=some (.bool (decide (a=x∧b=y∧c=z))):=by
 have:RF.ev (.eqv [.i,.i,.i]) [.agg [.i64 a,.i64 b,.i64 c],.agg [.i64 x,.i64 y,.i64 z]]=some (.bool (decide (a=x)&&(decide (b=y)&&(decide (c=z)&& true)))):=rfl;rw[this]
 congr 2
 simp[iZ]
theorem Wy (p q:Held):RF.ev (.eqv [.i,.i,.i]) [HP p,HP q]=some (.bool (decide (p=q))):=by
 obtain⟨a,b,c⟩:=p;obtain⟨x,y,z⟩:=q;refine(IL ..).trans ?_;simp[Held.mk.injEq,Crt.mk.injEq]
theorem Wz (p q:Due):RF.ev (.eqv [.i,.i,.i]) [DP p,DP q]=some (.bool (decide (p=q))):=by
 obtain⟨a,b,c⟩:=p;obtain⟨x,y,z⟩:=q;refine(IL ..).trans ?_;simp[Due.mk.injEq,Hnd.mk.injEq]
theorem P0 (p q:Nod):RF.ev (.eqv [.i,.i,.i]) [NP p,NP q]=some (.bool (decide (p=q))):=by
 obtain⟨a,b,c⟩:=p;obtain⟨x,y,z⟩:=q;refine(IL ..).trans ?_;simp[Nod.mk.injEq]
theorem P1 (a b x y:Int):RF.ev (.eqv [.i,.i]) [.agg [.i64 a,.i64 b],.agg [.i64 x,.i64 y]]=some (.bool (decide (a=x∧b=y))):=by
 have:RF.ev (.eqv [.i,.i]) [.agg [.i64 a,.i64 b],.agg [.i64 x,.i64 y]]=some (.bool (decide (a=x)&&(decide (b=y)&& true))):=rfl;rw[this]
 congr 2
 simp[iZ]
theorem eqvC (p q:Crt):RF.ev (.eqv [.i,.i]) [CP p,CP q]=some (.bool (decide (p=q))):=by
 obtain⟨a,b⟩:=p;obtain⟨x,y⟩:=q;refine(P1 ..).trans ?_;simp[Crt.mk.injEq]
theorem eqvR (p q:Rt):RF.ev (.eqv [.i,.i]) [R p,R q]=some (.bool (decide (p=q))):=by
 obtain⟨a,b⟩:=p;obtain⟨x,y⟩:=q;refine(P1 ..).trans ?_;simp[Rt.mk.injEq]
theorem P2 (p q:Evt):RF.ev (.eqv [.i,.i,.i,.i,.i]) [EP p,EP q]=some (.bool (decide (p=q))):=by
 obtain⟨⟨a,b⟩,c,d,e⟩:=p;obtain⟨⟨x,y⟩,z,u,v⟩:=q;have:RF.ev (.eqv [.i,.i,.i,.i,.i]) [EP ⟨⟨a,b⟩,c,⟨d,e⟩⟩,EP ⟨⟨x,y⟩,z,⟨u,v⟩⟩]=some (.bool (decide (a=x)&&(decide (b=y)&&(decide (c=z)&&(decide (d=u)&&(decide (e=v)&& true)))))):=rfl;rw[this]
 congr 2
 simp[Evt.mk.injEq,Rt.mk.injEq,Hnd.mk.injEq,iZ,mQ]
theorem WA {s t:Slots}(h:gSl s=false):Ans D 312 [SL s,SL t] [.bool (decide (s=t))]:=by
 unfold gSl at h;simp only[aY,decide_eq_false_iff_not] at h;refine ans_of k312_ok s312 rfl ⟨1,?_⟩;unfold k312;simp only[den_lt,shSL,cSL0,cSL1,cSL2,EV,k312_1,phi (c313 (l:=s.uses) (k:=t.uses) (by omega)),phi (Wo (l:=s.used) (k:=t.used) (by omega)),phi (c313 (l:=s.free) (k:=t.free) (by omega)),decide_eq_true_eq];obtain⟨a,b,c⟩:=s;obtain⟨x,y,z⟩:=t;by_cases h1:a=x<;>by_cases h2:b=y<;>simp[h1,h2]
theorem WC {s t:Agenda}(h:gAg s=false):Ans D 230 [AG s,AG t] [.bool (decide (s=t))]:=by
 unfold gAg at h;simp only[aY,decide_eq_false_iff_not] at h;refine ans_of k230_ok s230 rfl ⟨1001,?_⟩;unfold k230;obtain⟨a,b,c⟩:=s;obtain⟨x,y,z⟩:=t;simp only[den_lt,shAG,pAG,cAG3,cAG4,EV,aa,phi (WA h.1.1),phi (c313 (l:=c) (k:=z) (show c.length≤1000 by have:=h.2;simp only at this;omega)),ai,decide_eq_false_iff_not]
 by_cases h1:a=x
 ·by_cases h2:c=z
  ·subst h1;subst h2;simp only[not_true_eq_false,if_false];by_cases h3:b.length=y.length
   ·rw[if_neg (by omega)];refine(ju (l:=b) (k:=y) h3 (run_list (l:=b.zip y) (st:=fun i=>[.i64 (i:Int)]) (fun i x self hx _=>?_) (fun _ self=>?_) (by have:=h.1.2;rw[cx h3];simp only at this;omega))).trans ?_
    ·obtain⟨hp,hq⟩:=dK hx;unfold xL;simp only[den_lt,cAG3,tixM hp (lenE _),eltM hp,tixM hq (lenE _),eltM hq,rowE,P2,EV,aa,decide_eq_true_eq,ai,decide_eq_false_iff_not,if_lt (get_lt hp),up1 (show i<1000000000 by have:=get_lt hp;have:=h.1.2;simp only at this;omega)]
     by_cases e:x.1=x.2<;>simp[e]
    ·rw[cx h3];unfold xL;simp only[den_lt,cAG3,EV,aa,decide_eq_true_eq,if_ge,GV]
    ·simp[Agenda.mk.injEq]
   ·rw[if_pos (by omega),decide_eq_false (fun e=>h3 (by cases e;rfl))]
  ·rw[if_neg (by simp[h1]),if_pos h2,decide_eq_false (fun e=>h2 (by cases e;rfl))]
 ·rw[if_pos h1,decide_eq_false (fun e=>h1 (by cases e;rfl))]
theorem WD {s t:Certs}(h:s.list.length≤1000):Ans D 229 [CS s,CS t] [.bool (decide (s=t))]:=by
 refine ans_of MA UC rfl ⟨1001,?_⟩;unfold CX;obtain⟨a,b⟩:=s;obtain⟨x,y⟩:=t;simp only at h;simp only[den_lt,shCS,cCS0,cCS1,EV,aa,ai,decide_eq_false_iff_not];by_cases h1:a=x
 ·subst h1;simp only[not_true_eq_false,if_false];by_cases h3:b.length=y.length
  ·rw[if_neg (by omega)];refine(ju (l:=b) (k:=y) h3 (run_list (l:=b.zip y) (st:=fun i=>[.i64 (i:Int)]) (fun i x self hx _=>?_) (fun _ self=>?_) (by rw[cx h3];omega))).trans ?_
   ·obtain⟨hp,hq⟩:=dK hx;unfold xK;simp only[den_lt,cCS1,tixM hp (lenH _),eltM hp,tixM hq (lenH _),eltM hq,rowH,Wy,EV,aa,decide_eq_true_eq,ai,decide_eq_false_iff_not,if_lt (get_lt hp),up1 (show i<1000000000 by have:=get_lt hp;omega)]
    by_cases e:x.1=x.2<;>simp[e]
   ·rw[cx h3];unfold xK;simp only[den_lt,cCS1,EV,aa,decide_eq_true_eq,if_ge,GU]
   ·simp[Certs.mk.injEq]
  ·rw[if_pos (by omega),decide_eq_false (fun e=>h3 (by cases e;rfl))]
 ·rw[if_pos h1,decide_eq_false (fun e=>h1 (by cases e;rfl))]
structure gW (s:Clock):Prop where
 certs:s.certs.list.length≤1000
 due:s.due.length≤1000
 pts:s.pts.length≤1000
 ag:gAg s.agenda=false
theorem gCl_w {s:Clock}(h:gCl s=false):gW s:=by
 unfold gCl gF at h;simp only[aY,decide_eq_false_iff_not,iA] at h;obtain⟨⟨⟨h1,h2⟩,h3,h3'⟩,h4⟩:=h;exact⟨by omega,by omega,by omega,h4⟩
theorem c134w {s t:Clock}(h:gW s):Ans D 134 [CL s,CL t] [.bool (decide (s=t))]:=by
 obtain⟨h1,h2,h3,h4⟩:=h;obtain⟨a,b,c,d,e⟩:=s;obtain⟨x,y,z,u,v⟩:=t;simp only at h1 h2 h3 h4;refine ans_of k134_ok s134 rfl ⟨1001,?_⟩;unfold k134;simp only[den_lt,shCL,pCL0,pCL2,pCL3,pCL5,cCL10,eqvR,EV,aa,ai,decide_eq_false_iff_not,phi (c28 (l:=b) (k:=y) (by omega)),phi (WD (s:=c) (t:=z) (by omega)),phi (WC (t:=u) h4)];by_cases e1:a=x
 ·by_cases e2:b=y
  ·by_cases e3:c=z
   ·by_cases e4:d=u
    ·subst e1;subst e2;subst e3;subst e4;simp only[not_true_eq_false,if_false];by_cases e5:e.length=v.length
     ·rw[if_neg (by omega)];refine(ju (l:=e) (k:=v) e5 (run_list (l:=e.zip v) (st:=fun i=>[.i64 (i:Int)]) (fun i x self hx _=>?_) (fun _ self=>?_) (by rw[cx e5];omega))).trans ?_
      ·obtain⟨hp,hq⟩:=dK hx;unfold wP;simp only[den_lt,cCL10,tixM hp (lenD _),eltM hp,tixM hq (lenD _),eltM hq,IJ,Wz,EV,aa,decide_eq_true_eq,ai,decide_eq_false_iff_not,if_lt (get_lt hp),up1 (show i<1000000000 by have:=get_lt hp;omega)]
       by_cases e:x.1=x.2<;>simp[e]
      ·rw[cx e5];unfold wP;simp only[den_lt,cCL10,EV,aa,decide_eq_true_eq,if_ge,F3]
      ·simp[Clock.mk.injEq]
     ·rw[if_pos (by omega),decide_eq_false (fun h=>e5 (by cases h;rfl))]
    ·rw[if_neg (by simp[e1]),if_neg (by simp[e2]),if_neg (by simp[e3]),if_pos e4,decide_eq_false (fun h=>e4 (by cases h;rfl))]
   ·rw[if_neg (by simp[e1]),if_neg (by simp[e2]),if_pos e3,decide_eq_false (fun h=>e3 (by cases h;rfl))]
  ·rw[if_neg (by simp[e1]),if_pos e2,decide_eq_false (fun h=>e2 (by cases h;rfl))]
 ·rw[if_pos e1,decide_eq_false (fun h=>e1 (by cases h;rfl))]
theorem WE {s t:Brk}(h:s.places.length≤1000)(k:s.wins.length≤1000):Ans D 136 [BR s,BR t] [.bool (decide (s=t))]:=by
 refine ans_of LP TP rfl ⟨1,?_⟩;unfold B6;obtain⟨a,b⟩:=s;obtain⟨x,y⟩:=t;simp only[den_lt,shBR,iD,cBR1,EV,F5,phi (A9 (l:=a) (k:=x) h),phi (A9 (l:=b) (k:=y) k),decide_eq_true_eq];by_cases e1:a=x<;>by_cases e2:b=y<;>simp[e1,e2]
theorem P3 {s t:Tree}(h:s.nodes.length≤1000):Ans D 137 [TR s,TR t] [.bool (decide (s=t))]:=by
 refine ans_of LQ TQ rfl ⟨1001,?_⟩;unfold B7;obtain⟨a,b⟩:=s;obtain⟨x,y⟩:=t;simp only at h;simp only[den_lt,shTR,cTR0,cTR1,EV,aa,ai,decide_eq_false_iff_not];by_cases h1:a=x
 ·subst h1;simp only[not_true_eq_false,if_false];by_cases h3:b.length=y.length
  ·rw[if_neg (by omega)];refine(ju (l:=b) (k:=y) h3 (run_list (l:=b.zip y) (st:=fun i=>[.i64 (i:Int)]) (fun i x self hx _=>?_) (fun _ self=>?_) (by rw[cx h3];omega))).trans ?_
   ·obtain⟨hp,hq⟩:=dK hx;unfold wR;simp only[den_lt,cTR1,tixM hp (lenN _),eltM hp,tixM hq (lenN _),eltM hq,rowN,P0,EV,aa,decide_eq_true_eq,ai,decide_eq_false_iff_not,if_lt (get_lt hp),up1 (show i<1000000000 by have:=get_lt hp;omega)]
    by_cases e:x.1=x.2<;>simp[e]
   ·rw[cx h3];unfold wR;simp only[den_lt,cTR1,EV,aa,decide_eq_true_eq,if_ge,F6]
   ·simp[Tree.mk.injEq]
  ·rw[if_pos (by omega),decide_eq_false (fun e=>h3 (by cases e;rfl))]
 ·rw[if_pos h1,decide_eq_false (fun e=>h1 (by cases e;rfl))]
theorem d51 {s t:KHeap}(h:gW s.clock∧s.heap.length≤1000): ∃N,den (PhiS D) N k51 [] [KH s,KH t]=some [.bool (decide (s=t))]:=by
 refine⟨1,?_⟩;unfold k51;obtain⟨a,b⟩:=s;obtain⟨x,y⟩:=t;simp only at h;simp only[den_lt,shKH,pKH,cKH,EV,k51_1,phi (c134w (t:=x) h.1),phi (A9 (l:=b) (k:=y) (by omega)),decide_eq_true_eq];by_cases e1:a=x<;>by_cases e2:b=y<;>simp[e1,e2]
theorem uZ {s:KHeap}(h:gKh s=false):gW s.clock∧s.heap.length≤1000:=by
 unfold gKh at h;simp only[aY,decide_eq_false_iff_not] at h;exact⟨gCl_w h.1,by omega⟩
theorem P4 {s t:KHeap}(h:gW s.clock∧s.heap.length≤1000):Ans D 51 [KH s,KH t] [.bool (decide (s=t))]:=ans_of Pq s51 rfl (d51 h)
theorem P5 {s t:KHeap}(h:gW s.clock∧s.heap.length≤1000):Ans D 54 [KH s,KH t] [.bool (decide (s=t))]:=ans_of Pu s54 rfl (d51 h)
theorem c51 {s t:KHeap}(h:gKh s=false):Ans D 51 [KH s,KH t] [.bool (decide (s=t))]:=P4 (uZ h)
theorem c54 {s t:KHeap}(h:gKh s=false):Ans D 54 [KH s,KH t] [.bool (decide (s=t))]:=P5 (uZ h)
theorem c52w {s t:KTourn}(h:gW s.clock∧s.brk.places.length≤1000∧s.brk.wins.length≤1000):Ans D 52 [KT s,KT t] [.bool (decide (s=t))]:=by
 refine ans_of Pr s52 rfl ⟨1,?_⟩;unfold k52;obtain⟨a,b⟩:=s;obtain⟨x,y⟩:=t;simp only at h;simp only[den_lt,shKT,pKT,pKTb,EV,k52_1,phi (c134w (t:=x) h.1),phi (WE (s:=b) (t:=y) (by omega) (by omega)),decide_eq_true_eq];by_cases e1:a=x<;>by_cases e2:b=y<;>simp[e1,e2]
theorem c53w {s t:Heater}(h:gW s.clock∧s.tree.nodes.length≤1000):Ans D 53 [HT s,HT t] [.bool (decide (s=t))]:=by
 refine ans_of Ps s53 rfl ⟨1,?_⟩;unfold k53;obtain⟨a,b⟩:=s;obtain⟨x,y⟩:=t;simp only at h;simp only[den_lt,shHT,pHT,pHTt,EV,k53_1,phi (c134w (t:=x) h.1),phi (P3 (s:=b) (t:=y) (by omega)),decide_eq_true_eq];by_cases e1:a=x<;>by_cases e2:b=y<;>simp[e1,e2]
theorem c52 {s t:KTourn}(h:gKt s=false):Ans D 52 [KT s,KT t] [.bool (decide (s=t))]:=by
 unfold gKt at h;simp only[aY,decide_eq_false_iff_not] at h;exact c52w ⟨gCl_w h.1,by omega,by omega⟩
theorem c53 {s t:Heater}(h:gHt s=false):Ans D 53 [HT s,HT t] [.bool (decide (s=t))]:=by
 unfold gHt at h;simp only[aY,decide_eq_false_iff_not] at h;exact c53w ⟨gCl_w h.1,by omega⟩
end Go.Proofs.YtfghdmmapmdcgaaGreat
namespace Go.Sym
open Go.Sym
def foldO {α β:Type}(g:β→α→Option β):β→List α→Option β
 |x,[]=>some x
 |x,a::l=>match g x a with
  |some y=>foldO g y l
  |none=>none
section
variable {Φ:PhT}{N:Nat}{b:K}{J:List JT}{e:List PV}{α β:Type}{l:List α}
theorem nj {g:β→α→Option β}{I:β→Prop}{S:β→Nat→List PV}{fin:β→Option (List PV)}{r:Option (List PV)}{x:β}(h0:I x)(hi: ∀a acc acc',I acc→g acc a=some acc'→I acc')(hs: ∀i a acc self,l[i]?=some a→I acc→den Φ N b (J++[self]) (e++S acc i)=match g acc a with|some acc'=>self (S acc' (i+1))|none=>r)
  (hf: ∀acc self,I acc→foldO g x l=some acc→den Φ N b (J++[self]) (e++S acc l.length)=fin acc) {m:Nat} (hm:l.length<m):denW Φ N b J e m (S x 0)=match foldO g x l with|some acc=>fin acc|none=>r:=by
 have: ∀(k:List α) i m acc,l.drop i=k→i≤l.length→k.length<m→I acc→foldO g x l=foldO g acc k→denW Φ N b J e m (S acc i)=match foldO g acc k with|some acc=>fin acc|none=>r:=by
  intro k;induction k with
  |nil=>
   intro i m acc h hi' hm hI hx;obtain⟨m,rfl⟩: ∃m',m=m'+1:=⟨m-1,by omega⟩;have:=gk h hi';have hil:i=l.length:=by simpa using this
   rw[denW_succ,hil];exact hf _ _ hI hx
  |cons a k ih=>
   intro i m acc h hi' hm hI hx;obtain⟨m,rfl⟩: ∃m',m=m'+1:=⟨m-1,by omega⟩;obtain⟨h1,h2⟩:=dG h;have:=gk h hi';simp only[aD] at hm this;rw[denW_succ,hs i a acc _ h1 hI];have hu:foldO g acc (a::k)=match g acc a with|some y=>foldO g y k|none=>none:=rfl
   rw[hu] at hx⊢;cases hg:g acc a with
   |none=>rfl
   |some acc'=>
    rw[hg] at hx;exact ih (i+1) m _ h2 (by omega) (by omega) (hi a acc acc' hI hg) hx
 exact this l 0 m x rfl (by omega) hm h0 rfl
end
end Go.Sym
namespace Go.Proofs.YtfghdmmapmdcgaaGreat
open Go.Sym Bnd
set_option maxRecDepth 100000
theorem iE: ∀(xs:List Int) (l:List Bool),markF l xs=foldO (fun l x=>if 0≤x∧x<l.length∧l[x.toNat]?=some false then some (l.set x.toNat true) else none) l xs
 |[],l=>rfl
 |x::xs,l=>by
  unfold markF foldO;by_cases h:0≤x∧x<l.length∧l[x.toNat]?=some false
  ·rw[if_pos h,if_pos h];exact iE xs _
  ·rw[if_neg h,if_neg h]
theorem setB {l:List Bool}{i:Nat}(h:i<l.length):RF.ev (.set 0) [sl B1 l,.v (.int .i64 (i:Int)),.v (.bool true)]=some (sl B1 (l.set i true)):=by
 rw[qb,if_pos (by omega),aq,aI,ac h];have e:(B1 l[i]).length=1:=rfl;simp only[aZ,e,show(PV.v (.bool true)).cells=[.v (.bool true)] from rfl,az,be,am,if_true]
 exact congrArg (fun x=>some (PV.sl x)) (gB (f:=B1) (l:=l) (i:=i) (a:=true)).symm
theorem ixM {i n:Nat}(h:i<n):RF.ev .ix [.v (.int .i64 (i:Int)),.v (.int .i64 (n:Int))]=some (.i64 (i:Int)):=by
 rw[R0,if_pos (by omega)]
theorem lP {x:Int}(h:0≤x): ∃n:Nat,x=(n:Int):=⟨x.toNat,by omega⟩
theorem bbE (a b:Bool):RF.ev (.bbin .eql) [.v (.bool a),.v (.bool b)]=some (.v (.bool (a==b))):=rfl
open Classical in
theorem WG (s:Slots)(hf:s.free.length≤1000):Ans D 345 [SL s] [.i64 (okE (decide s.okR))]:=by
 refine ans_of NA Vy rfl ⟨1001,?_⟩;unfold DV;simp only[den_lt,shSL,cSL0,cSL1,cSL2,EV,aa,decide_eq_true_eq,ai,decide_eq_false_iff_not];have no: ∀h:¬s.okR,(some [PV.v (.int .i64 8)]:Option (List PV))=some [.i64 (okE (decide s.okR))]:=fun h=>by rw[decide_eq_false h];rfl
 by_cases h1:s.uses.length<1
 ·rw[if_pos (by omega)];exact no (fun h=>by have:=h.1;omega)
 ·rw[if_neg (by omega)];by_cases h2:200<s.uses.length
  ·rw[if_pos (by omega)];exact no (fun h=>by have:=h.2.1;omega)
  ·rw[if_neg (by omega)];by_cases h3:s.used.length=s.uses.length
   ·rw[if_neg (by omega)];by_cases h4:s.uses.length<s.free.length
    ·rw[if_pos (by omega)];exact no (fun h=>by have:=h.2.2.2.1;omega)
    ·rw[if_neg (by omega)];have hrep:RF.ev (.rep [.v (.bool false)] 1) [.v (.int .i64 (s.uses.length:Int)),.v (.int .i64 (s.uses.length:Int))]=some (sl B1 (List.replicate s.uses.length false)):=by
      rw[Ls,if_pos ⟨by omega,by omega,by omega,by omega⟩,aq];show _=some (PV.sl ((List.replicate s.uses.length false).map B1))
      rw[List.map_replicate];rfl
     simp only[hrep,denF_some,l_cons,l_nil,den_lt,EV,aa,aQ];refine(nj (l:=s.free) (g:=fun l x=>if 0≤x∧x<l.length∧l[x.toNat]?=some false then some (l.set x.toNat true) else none) (I:=fun l=>l.length=s.uses.length) (S:=fun l i=>[sl B1 l,.i64 (i:Int)]) (r:=some [.i64 8])
      (fin:=fun _=>some [.i64 (okE (decide s.okR))]) (x:=List.replicate s.uses.length false) (by simp) (fun a acc acc' hI hg=>?_) (fun i x acc self hx hI=>?_) (fun acc self hI hm=>?_) (by omega)).trans ?_
     ·split at hg
      ·cases hg;simpa using hI
      ·cases hg
     ·unfold yA;have hi:=get_lt hx;simp only[den_lt,cSL2,tixM hx (lenI _),eltM hx,rowI,EV,aa,decide_eq_true_eq,if_lt hi];by_cases c1:x<0
      ·rw[if_pos c1,if_neg (by omega)]
      ·rw[if_neg c1];by_cases c2:(s.uses.length:Int)≤x
       ·rw[if_pos c2,if_neg (by rw[hI];omega)]
       ·rw[if_neg c2];obtain⟨n,rfl⟩:=lP (show 0≤x by omega)
        obtain⟨b,hb⟩: ∃b,acc[n]?=some b:=⟨acc[n]'(by omega),ac _⟩;simp only[den_lt,cSL2,tixM hx (lenI _),eltM hx,rowI,ixM (show n<s.uses.length by omega),eltM hb,rowB,setB (show n<acc.length by omega),EV,up1 (show i<1000000000 by omega)]
        cases b with
        |true=>rw[if_pos rfl,if_neg (by rw[aq,hb];simp)]
        |false=>rw[if_neg (by simp),if_pos ⟨by omega,by omega,by rw[aq];exact hb⟩,aq]
     ·unfold yA;simp only[den_lt,cSL2,EV,aa,decide_eq_true_eq,if_ge,Hx];rw[←iE] at hm;have hlist:(List.range s.uses.length).length=s.uses.length:=gQ;refine(run_if (n:=s.uses.length) (P:=fun i=> ∀(u:Int) (b c:Bool),s.uses[i]?=some u→s.used[i]?=some b→acc[i]?=some c→0≤u∧u≤1000000∧b≠c∧¬(b=true∧u<1)) (st:=fun i=>[.i64 (i:Int)]) (r:=some [.i64 8]) (fin:=some [.i64 0]) (fun i self hi _=>?_) (fun _ self=>?_) (by omega)).trans ?_
      ·obtain⟨u,hu⟩: ∃u,s.uses[i]?=some u:=⟨s.uses[i],ac _⟩;obtain⟨b,hb⟩: ∃b,s.used[i]?=some b:=⟨s.used[i]'(by omega),ac _⟩;obtain⟨c,hc⟩: ∃c,acc[i]?=some c:=⟨acc[i]'(by omega),ac _⟩;have hP:(∀(u':Int) (b' c':Bool),s.uses[i]?=some u'→s.used[i]?=some b'→acc[i]?=some c'→0≤u'∧u'≤1000000∧b'≠c'∧¬(b'=true∧u'<1))↔(0≤u∧u≤1000000∧b≠c∧¬(b=true∧u<1)):=
        ⟨fun h=>h u b c hu hb hc,fun h u' b' c' h1 h2 h3=>by rw[hu] at h1;rw[hb] at h2;rw[hc] at h3;cases h1;cases h2;cases h3;exact h⟩
       unfold yz;simp only[hP,den_lt,cSL0,cSL1,tixM hu (lenI _),eltM hu,rowI,tixM hb (lenB _),eltM hb,rowB,ixM hi,eltM hc,bbE,EV,decide_eq_true_eq,if_lt hi,Hw,up1 (show i<1000000000 by omega)]
       by_cases c1:u<0
       ·simp only[if_pos c1,eq_self,if_true];rw[if_neg (fun h=>by omega)]
       ·simp only[if_neg c1];by_cases c2:1000000<u
        ·simp only[if_pos c2,eq_self,if_true];rw[if_neg (fun h=>by omega)]
        ·simp only[if_neg c2];cases b<;>cases c<;>simp only[beq_self_eq_true,ad,if_true,if_false,eq_self,ne_eq,not_true_eq_false,not_false_eq_true,false_and,and_false,true_and,and_true,decide_eq_true_eq,show(true==false)=false from rfl,show(false==true)=false from rfl,reduceCtorEq]
         ·rw[if_pos (by omega)]
         ·by_cases c3:u<1
          ·rw[if_pos c3,if_neg (fun h=>by omega)]
          ·rw[if_neg c3,if_pos (by omega)]
      ·unfold yz;simp only[EV,decide_eq_true_eq,if_ge,Hv]
      ·have:(∀i,i<s.uses.length→ ∀(u:Int) (b c:Bool),s.uses[i]?=some u→s.used[i]?=some b→acc[i]?=some c→0≤u∧u≤1000000∧b≠c∧¬(b=true∧u<1))↔s.okR:=by
        unfold Slots.okR;constructor
        ·intro h;exact⟨by omega,by omega,h3,by omega,acc,hm,fun i u b c hu hb hc=>h i (get_lt hu) u b c hu hb hc⟩
        ·rintro⟨_,_,_,_,l,hl,h⟩ i hi u b c hu hb hc;rw[hm] at hl;cases hl;exact h i u b c hu hb hc
       by_cases hr:s.okR
       ·rw[if_pos (this.2 hr),decide_eq_true hr];rfl
       ·rw[if_neg (fun h=>hr (this.1 h)),decide_eq_false hr];rfl
     ·rw[←iE];cases hm:markF (List.replicate s.uses.length false) s.free with
      |some l=>rfl
      |none=>exact no (fun h=>by obtain⟨_,_,_,_,l,hl,_⟩:=h;rw[hm] at hl;cases hl)
   ·rw[if_pos (by omega)];exact no (fun h=>h3 h.2.2.1)
def evLess (x y:Evt):Bool:=decide (sgn (crs x.time y.time)<0)||(decide (sgn (crs x.time y.time)=0)&& decide (x.number<y.number))
theorem shEP (e:Evt):RF.ev (.shape 5) [EP e]=some (EP e):=rfl
theorem pEP (e:Evt):RF.ev (.part 0 2) [EP e]=some (R e.time):=rfl
theorem cEP2 (e:Evt):RF.ev (.cell 2) [EP e]=some (.i64 e.number):=rfl
theorem c347 {x y:Evt}(hx:In64 x.time)(hy:In64 y.time):Ans D 347 [EP x,EP y] [.bool (evLess x y)]:=by
 refine ans_of NC VA rfl ⟨1,?_⟩;unfold DX evLess;simp only[den_lt,shEP,pEP,cEP2,EV,phi (IF hx hy),Hz,decide_eq_true_eq];by_cases h1:sgn (crs x.time y.time)<0
 ·simp[h1]
 ·rw[if_neg h1,decide_eq_false h1,jS];by_cases h2:sgn (crs x.time y.time)=0
  ·rw[if_pos h2,decide_eq_true h2,cR]
  ·rw[if_neg h2,decide_eq_false h2,gM]
def HD (h:Hnd):PV:= .agg [.i64 h.index,.i64 h.use]
theorem shHD (h:Hnd):RF.ev (.shape 2) [HD h]=some (HD h):=rfl
theorem cHD0 (h:Hnd):RF.ev (.cell 0) [HD h]=some (.i64 h.index):=rfl
theorem cHD1 (h:Hnd):RF.ev (.cell 1) [HD h]=some (.i64 h.use):=rfl
theorem Kf (e:Evt):rowPart 3 2 (erow e)=some (HD e.hnd):=rfl
theorem rf (e:Evt):rowPart 3 0 (erow e)=some (.i64 e.hnd.index):=rfl
theorem rowE2 (e:Evt):rowPart 2 0 (erow e)=some (.i64 e.number):=rfl
def dR (s:Slots)(h:Hnd):Prop:=0≤h.index∧s.used[h.index.toNat]?=some true∧s.uses[h.index.toNat]?=some h.use
open Classical in
theorem c349 {s:Slots}(hs:s.used.length=s.uses.length)(h:Hnd):Ans D 349 [SL s,HD h] [.bool (decide (dR s h))]:=by
 refine ans_of NE VC rfl ⟨1,?_⟩;unfold DZ;simp only[den_lt,shSL,shHD,cHD0,cHD1,cSL0,cSL1,EV,aa,decide_eq_true_eq,HA,ge_iff_le];by_cases h1:0≤h.index
 ·rw[if_pos h1];obtain⟨n,hn⟩:=lP h1;obtain⟨ix,us⟩:=h;simp only at hn;subst hn;by_cases h2:n<s.uses.length
  ·obtain⟨u,hu⟩: ∃u,s.uses[n]?=some u:=⟨s.uses[n],ac _⟩;obtain⟨b,hb⟩: ∃b,s.used[n]?=some b:=⟨s.used[n]'(by omega),ac _⟩;simp only[if_lt h2,den_lt,cHD0,cHD1,cSL0,cSL1,tixM hu (lenI _),eltM hu,rowI,tixM hb (lenB _),eltM hb,rowB,EV];have:decide (dR s ⟨(n:Int),us⟩)=(b&& decide (u=us)):=by rw[cj];simp[dR,hu,hb]
   rw[this];cases b<;>simp
  ·rw[if_neg (show¬((n:Int)<(s.uses.length:Int)) by omega),decide_eq_false (fun hh=>by
    have h3:=(aj.1 hh.2.2).1;exact h2 h3)]
 ·rw[if_neg h1,decide_eq_false (fun hh=>h1 hh.1)]
def jB (a:Agenda):Prop:=a.wher.length=a.slots.uses.length∧a.heap.length+a.slots.free.length=a.slots.uses.length∧
 ∀(i:Nat) (b:Bool) (w u:Int),a.slots.used[i]?=some b→a.wher[i]?=some w→a.slots.uses[i]?=some u→if b=true then 0≤w∧ ∃e,a.heap[w.toNat]?=some e∧e.hnd=⟨i,u⟩ else w= -1
open Classical in
theorem WH {a:Agenda}(hs:a.slots.used.length=a.slots.uses.length)(hl:a.slots.uses.length≤1000)(hf:a.slots.free.length≤1000):Ans D 346 [AG a] [.bool (decide (jB a))]:=by
 have cAG0:RF.ev (.cell 0) [AG a]=some (sl I1 a.slots.uses):=rfl;have cAG1:RF.ev (.cell 1) [AG a]=some (sl B1 a.slots.used):=rfl;have cAG2:RF.ev (.cell 2) [AG a]=some (sl I1 a.slots.free):=rfl;refine ans_of NB Vz rfl ⟨1001,?_⟩;unfold DW;simp only[den_lt,shAG,cAG0,cAG2,cAG3,cAG4,EV,aa,decide_eq_true_eq,ai,decide_eq_false_iff_not,bU (show-9223372036854775808≤(a.slots.uses.length:Int)-(a.slots.free.length:Int) by omega) (by omega)]
 by_cases h1:a.wher.length=a.slots.uses.length
 ·rw[if_neg (by omega)];by_cases h2:a.heap.length+a.slots.free.length=a.slots.uses.length
  ·rw[if_neg (by omega)];refine(run_if (n:=a.slots.uses.length) (P:=fun i=> ∀(b:Bool) (w u:Int),a.slots.used[i]?=some b→a.wher[i]?=some w→a.slots.uses[i]?=some u→if b=true then 0≤w∧ ∃e,a.heap[w.toNat]?=some e∧e.hnd=⟨i,u⟩ else w= -1) (st:=fun i=>[.i64 (i:Int)]) (r:=some [.bool false]) (fin:=some [.bool true]) (fun i self hi _=>?_) (fun _ self=>?_) (by omega)).trans ?_
   ·obtain⟨u,hu⟩: ∃u,a.slots.uses[i]?=some u:=⟨a.slots.uses[i],ac _⟩;obtain⟨b,hb⟩: ∃b,a.slots.used[i]?=some b:=⟨a.slots.used[i]'(by omega),ac _⟩;obtain⟨w,hw⟩: ∃w,a.wher[i]?=some w:=⟨a.wher[i]'(by omega),ac _⟩;have hP:(∀(b':Bool) (w' u':Int),a.slots.used[i]?=some b'→a.wher[i]?=some w'→a.slots.uses[i]?=some u'→if b'=true then 0≤w'∧ ∃e,a.heap[w'.toNat]?=some e∧e.hnd=⟨i,u'⟩ else w'= -1)↔(if b=true then 0≤w∧ ∃e,a.heap[w.toNat]?=some e∧e.hnd=⟨i,u⟩ else w= -1):=
     ⟨fun h=>h b w u hb hw hu,fun h b' w' u' h1 h2 h3=>by rw[hu] at h3;rw[hb] at h1;rw[hw] at h2;cases h1;cases h2;cases h3;exact h⟩
    unfold yC;simp only[hP,den_lt,cAG1,cAG3,cAG4,pAG,tixM hb (lenB _),eltM hb,rowB,tixM hw (lenI _),eltM hw,rowI,EV,aa,decide_eq_true_eq,if_lt hi,yB,up1 (show i<1000000000 by omega),ai,decide_eq_false_iff_not]
    cases b with
    |false=>
     simp only[ad,if_false,eq_self,if_true];by_cases c1:w= -1
     ·rw[if_neg (by simp[c1]),if_pos c1]
     ·rw[if_pos c1,if_neg c1]
    |true=>
     simp only[jI,if_false,eq_self,if_true];by_cases c1:w<0
     ·rw[if_pos c1,if_neg (fun h=>by omega)]
     ·rw[if_neg c1];obtain⟨n,rfl⟩:=lP (show 0≤w by omega)
      by_cases c2:n<a.heap.length
      ·obtain⟨e,he⟩: ∃e,a.heap[n]?=some e:=⟨a.heap[n],ac _⟩;rw[if_neg (by omega)];simp only[den_lt,cAG3,pAG,tixM he (lenE _),eltM he,rf,Kf,phi (c349 hs _),EV,ai,decide_eq_false_iff_not,aq,he,aK,exists_eq_left',yB,up1 (show i<1000000000 by omega)]
       by_cases c3:e.hnd.index=(i:Int)
       ·rw[if_neg (by simp[c3])];have hlive:dR a.slots e.hnd↔e.hnd=⟨i,u⟩:=by
         unfold dR;rw[c3,aq,hb,hu];generalize e.hnd=q at c3⊢;obtain⟨x,y⟩:=q;simp only at c3;subst c3;simp only[aK,Hnd.mk.injEq,true_and];exact⟨fun h=>h.2.symm,fun h=>⟨by omega,h.symm⟩⟩
        by_cases c4:e.hnd=⟨i,u⟩
        ·rw[if_neg (by simp[hlive.2 c4]),if_pos ⟨by omega,c4⟩]
        ·rw[if_pos (fun h=>c4 (hlive.1 h)),if_neg (fun h=>c4 h.2)]
       ·rw[if_pos c3,if_neg (fun h=>c3 (by rw[h.2]))]
      ·rw[if_pos (by omega),if_neg (fun h=>by
        obtain⟨_,e,he,_⟩:=h;rw[aq] at he;exact c2 (get_lt he))]
   ·unfold yC;simp only[EV,decide_eq_true_eq,if_ge,Hy]
   ·have:(∀i,i<a.slots.uses.length→ ∀(b:Bool) (w u:Int),a.slots.used[i]?=some b→a.wher[i]?=some w→a.slots.uses[i]?=some u→if b=true then 0≤w∧ ∃e,a.heap[w.toNat]?=some e∧e.hnd=⟨i,u⟩ else w= -1)↔jB a:=
     ⟨fun h=>⟨h1,h2,fun i b w u hb hw hu=>h i (get_lt hu) b w u hb hw hu⟩,fun h i _=>h.2.2 i⟩
    by_cases hr:jB a
    ·rw[if_pos (this.2 hr),decide_eq_true hr]
    ·rw[if_neg (fun h=>hr (this.1 h)),decide_eq_false hr]
  ·rw[if_pos (by omega),decide_eq_false (fun h=>h2 h.2.1)]
 ·rw[if_pos (by omega),decide_eq_false (fun h=>h1 h.1)]
def EvOk (e:Evt):Prop:=rok e.time=true∧0≤e.number∧e.number≤1000000
def cV (a:Agenda):Prop:=a.slots.okR∧jB a∧(∀e∈a.heap,EvOk e)∧(a.heap.map (·.number)).Nodup∧ ∀(i:Nat) (e p:Evt),a.heap[i+1]?=some e→a.heap[i/2]?=some p→evLess e p=false
theorem half {i:Nat}(h:i<1000000):intB .quo .i64 (IntKind.i64.wrap (((i+1:Nat):Int)-1)) .i64 2=some (.v (.int .i64 ((i/2:Nat):Int))):=by
 rw[m9 (by omega),EZ,if_neg (by decide),fV (by omega),bU (by omega) (by omega)];rfl
open Classical in
theorem IM {a:Agenda}(hl:a.heap.length≤1000)(hf:a.slots.free.length≤1000)(h64: ∀e∈a.heap,In64 e.time):Ans D 260 [AG a] [.i64 (okE (decide (cV a)))]:=by
 refine ans_of MQ US rfl ⟨1001,?_⟩;unfold De;have no: ∀h:¬cV a,(some [PV.v (.int .i64 8)]:Option (List PV))=some [.i64 (okE (decide (cV a)))]:=fun h=>by rw[decide_eq_false h];rfl
 simp only[den_lt,shAG,pAG,EV,phi (WG a.slots hf),jy,decide_eq_true_eq];by_cases h1:a.slots.okR
 ·have h1':=h1;obtain⟨g1,g2,g3,g4,_⟩:=h1';rw[if_pos h1];simp only[EV,phi (WH g3 (by omega) hf),ai,decide_eq_false_iff_not];by_cases h2:jB a
  ·rw[if_neg (by simp[h2])];refine(run_if (n:=a.heap.length) (P:=fun i=> ∀e,a.heap[i]?=some e→EvOk e∧ ∀k,k<i→ ∀e',a.heap[k]?=some e'→e'.number≠e.number) (st:=fun i=>[.i64 (i:Int)]) (r:=some [.i64 8]) (fin:=some [.i64 (okE (decide (∀(i:Nat) (e p:Evt),a.heap[i+1]?=some e→a.heap[i/2]?=some p→evLess e p=false)))]) (fun i self hi _=>?_) (fun _ self=>?_) (by omega)).trans ?_
   ·obtain⟨e,he⟩: ∃e,a.heap[i]?=some e:=⟨a.heap[i],ac _⟩;have hP:(∀e',a.heap[i]?=some e'→EvOk e'∧ ∀k,k<i→ ∀x,a.heap[k]?=some x→x.number≠e'.number)↔(EvOk e∧ ∀k,k<i→ ∀x,a.heap[k]?=some x→x.number≠e.number):=
     ⟨fun h=>h e he,fun h e' h1=>by rw[he] at h1;cases h1;exact h⟩
    unfold xX;simp only[hP,den_lt,cAG3,tixM he (lenE _),eltM he,rowE,pEP,cEP2,phi (vI (h64 e (ah he))),jy,EV,aa,decide_eq_true_eq,if_lt hi];cases c1:rok e.time with
    |false=>
     simp only[ad,if_false];rw[if_neg (fun h=>by rw[h.1.1] at c1;cases c1)]
    |true=>
     simp only[if_true];by_cases c2:e.number<0
     ·rw[if_pos c2,if_neg (fun h=>by have:=h.1.2;omega)]
     ·rw[if_neg c2];by_cases c3:1000000<e.number
      ·rw[if_pos c3,if_neg (fun h=>by have:=h.1.2;omega)]
      ·rw[if_neg c3];refine(run_if (n:=i) (P:=fun k=> ∀x,a.heap[k]?=some x→x.number≠e.number) (st:=fun i=>[.i64 (i:Int)]) (r:=some [.i64 8]) (fin:=self [.i64 ((i+1:Nat):Int)]) (fun k self' hk _=>?_) (fun _ self'=>?_) (by omega)).trans ?_
       ·obtain⟨x,hx⟩: ∃x,a.heap[k]?=some x:=⟨a.heap[k]'(by omega),ac _⟩;have hQ:(∀y,a.heap[k]?=some y→y.number≠e.number)↔x.number≠e.number:=⟨fun h=>h x hx,fun h y hy=>by rw[hx] at hy;cases hy;exact h⟩;unfold k260_5;simp only[hQ,den_lt,cAG3,tixM hx (lenE _),eltM hx,rowE2,cEP2,EV,decide_eq_true_eq,if_lt hk,up1 (show k<1000000000 by omega)]
        by_cases c4:x.number=e.number
        ·rw[if_pos c4,if_neg (by simp[c4])]
        ·rw[if_neg c4,if_pos c4]
       ·unfold k260_5;simp only[EV,decide_eq_true_eq,if_ge,Ha,up1 (show i<1000000000 by omega)]
       ·by_cases c5: ∀k,k<i→ ∀x,a.heap[k]?=some x→x.number≠e.number
        ·rw[if_pos c5,if_pos ⟨⟨c1,by omega,by omega⟩,c5⟩]
        ·rw[if_neg c5,if_neg (fun h=>c5 h.2)]
   ·unfold xX;simp only[den_lt,cAG3,EV,aa,decide_eq_true_eq,if_ge,G9];refine(run_if (n:=a.heap.length-1) (P:=fun i=> ∀e p,a.heap[i+1]?=some e→a.heap[i/2]?=some p→evLess e p=false) (st:=fun i=>[.i64 ((i+1:Nat):Int)]) (r:=some [.i64 8]) (fin:=some [.i64 0]) (fun i self hi _=>?_) (fun _ self=>?_) (by omega)).trans ?_
    ·obtain⟨e,he⟩: ∃e,a.heap[i+1]?=some e:=⟨a.heap[i+1],ac _⟩;obtain⟨p,hp⟩: ∃p,a.heap[i/2]?=some p:=⟨a.heap[i/2]'(by omega),ac _⟩;have hQ:(∀e' p',a.heap[i+1]?=some e'→a.heap[i/2]?=some p'→evLess e' p'=false)↔evLess e p=false:=⟨fun h=>h e p he hp,fun h e' p' h1 h2=>by rw[he] at h1;rw[hp] at h2;cases h1;cases h2;exact h⟩;unfold k260_2;simp only[hQ,den_lt,cAG3,tixM he (lenE _),eltM he,rowE,tixM hp (lenE _),eltM hp,half (show i<1000000 by omega),phi (c347 (h64 e (ah he)) (h64 p (ah hp))),f_bin,EV,aa,decide_eq_true_eq,if_lt (get_lt he),up1 (show i+1<1000000000 by omega)]
     cases evLess e p<;>simp
    ·unfold k260_2;simp only[den_lt,cAG3,EV,aa,decide_eq_true_eq,G8];rw[if_neg (by omega)]
    ·have:(∀i,i<a.heap.length-1→ ∀e p,a.heap[i+1]?=some e→a.heap[i/2]?=some p→evLess e p=false)↔ ∀(i:Nat) (e p:Evt),a.heap[i+1]?=some e→a.heap[i/2]?=some p→evLess e p=false:=
      ⟨fun h i e p he hp=>h i (by have:=get_lt he;omega) e p he hp,fun h i _=>h i⟩
     by_cases hr: ∀(i:Nat) (e p:Evt),a.heap[i+1]?=some e→a.heap[i/2]?=some p→evLess e p=false
     ·rw[if_pos (this.2 hr),decide_eq_true hr];rfl
     ·rw[if_neg (fun h=>hr (this.1 h)),decide_eq_false hr];rfl
   ·have:(∀i,i<a.heap.length→ ∀e,a.heap[i]?=some e→EvOk e∧ ∀k,k<i→ ∀e',a.heap[k]?=some e'→e'.number≠e.number)↔((∀e∈a.heap,EvOk e)∧(a.heap.map (·.number)).Nodup):=by
     rw[nodup_lt];constructor
     ·intro h;refine⟨fun e he=>?_,fun i j x hj hi hjx=>?_⟩
      ·obtain⟨i,hi⟩:=aA.1 he;exact(h i (get_lt hi) e hi).1
      ·rw[aI,bf] at hi hjx;obtain⟨e,he,rfl⟩:=hi;obtain⟨e',he',h'⟩:=hjx;exact(h i (get_lt he) e he).2 j hj e' he' h'
     ·rintro⟨h3,h4⟩ i hi e he;refine⟨h3 e (ah he),fun k hk e' he' hn=>?_⟩;exact h4 i k e.number hk (by rw[aI,he];rfl) (by rw[aI,he',aZ,hn])
    by_cases hr:(∀e∈a.heap,EvOk e)∧(a.heap.map (·.number)).Nodup
    ·rw[if_pos (this.2 hr)]
     congr 4
     rw[aV];exact⟨fun h=>⟨h1,h2,hr.1,hr.2,h⟩,fun h=>h.2.2.2.2⟩
    ·rw[if_neg (fun h=>hr (this.1 h))];exact no (fun h=>hr ⟨h.2.2.1,h.2.2.2.1⟩)
  ·rw[if_pos h2];exact no (fun h=>h2 h.2.1)
 ·rw[if_neg h1];exact no (fun h=>h1 h.1)
end Go.Proofs.YtfghdmmapmdcgaaGreat
