import Derived.Test.YtfghdmmapmdcgaaGreatM3
import Derived.Test.YtfghdmmapmdcgaaGreatP1
import Derived.Test.YtfghdmmapmdcgaaGreatBcT
import Derived.IntWalk
set_option linter.unusedVariables false
set_option linter.unusedSimpArgs false
set_option linter.defProp false
noncomputable section
namespace Go.Sym
open Go.Sym
section
variable {Φ:PhT}{N:Nat}{b:K}{J:List JT}{e:List PV}
theorem run_up {n:Nat}{st:Nat→List PV}{fin:Option (List PV)}(hs: ∀i self,i<n→den Φ N b (J++[self]) (e++st i)=self (st (i+1)))
  (hf: ∀self,den Φ N b (J++[self]) (e++st n)=fin): ∀m,n<m→denW Φ N b J e m (st 0)=fin:=by
 have: ∀d i m,i+d=n→d<m→denW Φ N b J e m (st i)=fin:=by
  intro d;induction d with
  |zero=>
   intro i m h hm;obtain⟨m,rfl⟩: ∃m',m=m'+1:=⟨m-1,by omega⟩;rw[denW_succ,show i=n by omega]
   exact hf _
  |succ d ih=>
   intro i m h hm;obtain⟨m,rfl⟩: ∃m',m=m'+1:=⟨m-1,by omega⟩;rw[denW_succ,hs i _ (by omega)];exact ih (i+1) m (by omega) (by omega)
 exact fun m hm=>this n 0 m (by omega) hm
theorem Gr {n:Nat}{st:Nat→List PV}{P:Nat→Prop}{fin r:Option (List PV)}(hs: ∀i self,i<n→(∀j,j<i→P j)→P i→den Φ N b (J++[self]) (e++st i)=self (st (i+1)))
  (hr: ∀i self,i<n→(∀j,j<i→P j)→¬P i→den Φ N b (J++[self]) (e++st i)=r)
  (hf:(∀j,j<n→P j)→ ∀self,den Φ N b (J++[self]) (e++st n)=fin) {m:Nat} (hm:n<m):((∀j,j<n→P j)→denW Φ N b J e m (st 0)=fin)∧((¬ ∀j,j<n→P j)→denW Φ N b J e m (st 0)=r):=by
 have: ∀d i m,i+d=n→d<m→(∀j,j<i→P j)→((∀j,j<n→P j)→denW Φ N b J e m (st i)=fin)∧((¬ ∀j,j<n→P j)→denW Φ N b J e m (st i)=r):=by
  intro d;induction d with
  |zero=>
   intro i m h hm hp;obtain⟨m,rfl⟩: ∃m',m=m'+1:=⟨m-1,by omega⟩;have hin:i=n:=by omega
   subst hin;refine⟨fun h=>?_,fun h=>absurd hp h⟩;rw[denW_succ];exact hf h _
  |succ d ih=>
   intro i m h hm hp;obtain⟨m,rfl⟩: ∃m',m=m'+1:=⟨m-1,by omega⟩;rw[denW_succ];by_cases hi:P i
   ·rw[hs i _ (by omega) hp hi];exact ih (i+1) m (by omega) (by omega) fun j hj=>by
     by_cases e:j=i
     ·rw[e];exact hi
     ·exact hp j (by omega)
   ·rw[hr i _ (by omega) hp hi];exact⟨fun h=>absurd (h i (by omega)) hi,fun _=>rfl⟩
 exact this n 0 m (by omega) hm (fun j hj=>by omega)
open Classical in
theorem run_if {n:Nat}{st:Nat→List PV}{P:Nat→Prop}{fin r:Option (List PV)}(hs: ∀i self,i<n→(∀j,j<i→P j)→den Φ N b (J++[self]) (e++st i)=if P i then self (st (i+1)) else r)
  (hf:(∀j,j<n→P j)→ ∀self,den Φ N b (J++[self]) (e++st n)=fin) {m:Nat} (hm:n<m):denW Φ N b J e m (st 0)=if(∀j,j<n→P j) then fin else r:=by
 have:=Gr (n:=n) (st:=st) (P:=P) (fin:=fin) (r:=r) (fun i self h1 h2 h3=>by rw[hs i self h1 h2,if_pos h3]) (fun i self h1 h2 h3=>by rw[hs i self h1 h2,if_neg h3]) hf hm;by_cases h: ∀j,j<n→P j
 ·rw[if_pos h];exact this.1 h
 ·rw[if_neg h];exact this.2 h
end
end Go.Sym
namespace Go.Proofs.YtfghdmmapmdcgaaGreat
open Go.Sym Bnd
set_option maxRecDepth 100000
def U (n:Nat):PV:= .v (.int .u64 (n:Int))
def I64 (n:Int):Prop:= -9223372036854775808≤n∧n≤9223372036854775807
theorem phi {g:FuncId}{vs rs:List PV}(h:Ans D g vs rs):PhiS D g vs=some rs:=KC h
theorem ans_of {g:FuncId}{ss:List Sh}{m:Nat}{vs rs:List PV}{k:K}(hk:Kok D g k)(hs:shs D.toDcf g=some (ss,m))(ha:b8 ss vs=true)(hd: ∃N,den (PhiS D) N k [] vs=some rs)(hl:rs.length=m:=by first|rfl|(split<;>rfl)|(split<;>split<;>rfl)|(split<;>first|rfl|(split<;>first|rfl|split<;>rfl))):Ans D g vs rs:=Go.Sym.ans_of hk hs ha hd hl
theorem c116 {n:Int}(h:I64 n):Ans D 116 [.i64 n] [U n.natAbs]:=by
 obtain⟨h1,h2⟩:=h;refine ans_of DS LV rfl ⟨1,?_⟩;unfold tC;simp only[EV,decide_eq_true_eq];by_cases hn:n<0
 ·rw[if_pos hn,bW,bW];unfold U
  congr 4
  omega
 ·rw[if_neg hn,bW];unfold U
  congr 4
  omega
theorem mR {n:Int}(h:I64 n):Ans D 223 [.i64 n] [U n.natAbs]:=by
 obtain⟨h1,h2⟩:=h;refine ans_of ET MS rfl ⟨1,?_⟩;unfold uM;simp only[EV,decide_eq_true_eq];by_cases hn:n<0
 ·rw[if_pos hn,bW,bW,IntKind.wrap_i64,IntKind.wrap_i64];unfold U
  congr 4
  omega
 ·rw[if_neg hn,bW];unfold U
  congr 4
  omega
theorem mS {Φ:PhT}{N:Nat}{f:JT}{p q:PV}: ∀(n a b:Nat),b<n→denW Φ N jC [f] [p,q] n [U b,U a]=f [U (Nat.gcd b a)]
 |0,a,b,h=>by omega
 |n+1,a,b,h=>by
  rw[denW_succ];unfold jC U;simp only[EV,decide_eq_true_eq,mP];by_cases hb:0<b
  ·rw[if_pos (by omega),if_neg (by omega)];simp only[EV];have:=mS (Φ:=Φ) (N:=N) (f:=f) (p:=p) (q:=q) n b (a% b) (by have:=Nat.mod_lt a hb;omega);unfold jC U at this;rw[←Nat.gcd_rec b a] at this;rw[←this];rfl
  ·rw[if_neg (by omega)];have:b=0:=by omega
   subst this;rw[Nat.gcd_zero_left]
theorem H7 (a b:Nat):Ans D 115 [U a,U b] [U (Nat.gcd b a)]:=by
 refine ans_of DR LU rfl ⟨b+1,?_⟩;unfold tB;simp only[EV];rw[mS _ _ _ (Nat.lt_succ_self b)];unfold yb U;simp only[EV]
theorem iA {Φ:PhT}{N:Nat}{f:JT}{p q:PV}: ∀(n a b:Nat),b<n→denW Φ N jL [f] [p,q] n [U b,U a]=f [U (Nat.gcd b a)]
 |0,a,b,h=>by omega
 |n+1,a,b,h=>by
  rw[denW_succ];unfold jL U;simp only[EV,mP,Bool.not_eq_true',decide_eq_false_iff_not];by_cases hb:0<b
  ·rw[if_pos (by omega),if_neg (by omega)];simp only[EV];have:=iA (Φ:=Φ) (N:=N) (f:=f) (p:=p) (q:=q) n b (a% b) (by have:=Nat.mod_lt a hb;omega);unfold jL U at this;rw[←Nat.gcd_rec b a] at this;rw[←this];rfl
  ·rw[if_neg (by omega)];have:b=0:=by omega
   subst this;rw[Nat.gcd_zero_left]
theorem H8 (a b:Nat):Ans D 222 [U a,U b] [U (Nat.gcd b a)]:=by
 refine ans_of ES MQ rfl ⟨b+1,?_⟩;unfold uL;simp only[EV];rw[iA _ _ _ (Nat.lt_succ_self b)];unfold zt U;simp only[EV]
def R (r:Rt):PV:= .agg [.i64 r.num,.i64 r.den]
def In64 (r:Rt):Prop:=I64 r.num∧I64 r.den
def rok (r:Rt):Bool:=decide (1≤r.den)&& !decide (r.num= -9223372036854775808)&& decide (Nat.gcd r.num.natAbs r.den.natAbs=1)
def okE (b:Bool):Int:=if b then 0 else 8
theorem rB {d:Int}(h:0≤d)(k:d≤9223372036854775807):PV.v (.int .u64 (IntKind.u64.wrap d))=U d.natAbs:=by
 unfold U;rw[bW]
 congr 2
 omega
theorem c43 {r:Rt}(h:In64 r):Ans D 43 [R r] [.i64 (okE (rok r))]:=by
 obtain⟨⟨n1,n2⟩,d1,d2⟩:=h;refine ans_of HF s43 rfl ⟨1,?_⟩;unfold k43 R;simp only[EV,decide_eq_true_eq,if_true,Nat.zero_add,Nat.reduceAdd,phi (c116 ⟨n1,n2⟩)];by_cases hd:r.den<1
 ·rw[if_pos hd];unfold rok;rw[decide_eq_false (by omega)];rfl
 ·rw[if_neg hd];by_cases hn:r.num= -9223372036854775808
  ·rw[if_pos hn];unfold rok;rw[decide_eq_true hn];simp[okE]
  ·rw[if_neg hn,rB (by omega) d2,phi (H7 _ _)];simp only[EV,U,decide_eq_true_eq];have hg:0<Nat.gcd r.num.natAbs r.den.natAbs:=Nat.gcd_pos_of_pos_right _ (by omega);unfold rok;by_cases h1:(Nat.gcd r.num.natAbs r.den.natAbs)=1
   ·rw[if_neg (by omega),decide_eq_true h1,decide_eq_true (show 1≤r.den by omega),decide_eq_false hn]
    rfl
   ·rw[if_pos (by omega),decide_eq_false h1,Bool.and_false];rfl
theorem dU {r:Rt}(h:In64 r):Ans D 128 [R r] [.i64 (okE (rok r))]:=by
 obtain⟨⟨n1,n2⟩,d1,d2⟩:=h;refine ans_of D2 L3 rfl ⟨1,?_⟩;unfold tK R;simp only[EV,decide_eq_true_eq,if_true,Nat.zero_add,Nat.reduceAdd,phi (mR ⟨n1,n2⟩)];by_cases hd:r.den<1
 ·rw[if_pos hd];unfold rok;rw[decide_eq_false (by omega)];rfl
 ·rw[if_neg hd];by_cases hn:r.num= -9223372036854775808
  ·rw[if_pos hn];unfold rok;rw[decide_eq_true hn];simp[okE]
  ·rw[if_neg hn,rB (by omega) d2,phi (H8 _ _)];simp only[EV,U,Bool.not_eq_true',decide_eq_false_iff_not];unfold rok;rw[Nat.gcd_comm];by_cases h1:(Nat.gcd r.num.natAbs r.den.natAbs)=1
   ·rw[if_neg (by omega),decide_eq_true h1,decide_eq_true (show 1≤r.den by omega),decide_eq_false hn]
    rfl
   ·rw[if_pos (by omega),decide_eq_false h1,Bool.and_false];rfl
def sf (r:Rt):Bool:=decide (r.num.natAbs≤1073741824)&& decide (r.den≤1024)
def asked (r:Rt):Int:=if rok r then(if sf r then 0 else 2) else 8
theorem c44 {r:Rt}(h:In64 r):Ans D 44 [R r] [.i64 (asked r)]:=by
 refine ans_of HG s44 rfl ⟨1,?_⟩;unfold k44;have h0:=phi (c43 h);unfold R at h0⊢;simp only[EV,if_true,Nat.zero_add,Nat.reduceAdd,h0,phi (c116 h.1),Bool.not_eq_true',decide_eq_false_iff_not,U,decide_eq_true_eq];unfold asked okE;cases rok r with
 |false=>rfl
 |true=>
  rw[if_neg (by simp)];unfold sf;by_cases h1:1073741824<(r.num.natAbs:Int)
  ·rw[if_pos h1,decide_eq_false (show¬r.num.natAbs≤1073741824 by omega)]
   rfl
  ·rw[if_neg h1,decide_eq_true (show r.num.natAbs≤1073741824 by omega)]
   by_cases h2:1024<r.den
   ·rw[if_pos h2,decide_eq_false (by omega)];rfl
   ·rw[if_neg h2,decide_eq_true (by omega)];rfl
theorem c64 {r:Rt}(h:In64 r):Ans D 64 [R r] [.i64 (asked r)]:=by
 refine ans_of HM s64 rfl ⟨1,?_⟩;unfold k64;have h0:=phi (dU h);unfold R at h0⊢;simp only[EV,if_true,Nat.zero_add,Nat.reduceAdd,h0,Bool.not_eq_true',decide_eq_false_iff_not,decide_eq_true_eq];unfold asked okE;cases rok r with
 |false=>rfl
 |true=>
  rw[if_neg (by simp)];unfold sf;by_cases h1:1073741824<r.num
  ·rw[if_pos h1,decide_eq_false (show¬r.num.natAbs≤1073741824 by omega)]
   rfl
  ·rw[if_neg h1];by_cases h3:r.num< -1073741824
   ·rw[if_pos h3,decide_eq_false (show¬r.num.natAbs≤1073741824 by omega)]
    rfl
   ·rw[if_neg h3,decide_eq_true (show r.num.natAbs≤1073741824 by omega)]
    by_cases h2:1024<r.den
    ·rw[if_pos h2,decide_eq_false (by omega)];rfl
    ·rw[if_neg h2,decide_eq_true (by omega)];rfl
def row (p:Pt):List PV:=[.i64 p.id,.i64 p.a,.i64 p.b]
def PP (p:Pt):PV:= .agg (row p)
theorem Ok (p:Pt):Ans D 239 [PP p] [.i64 (okE p.ok)]:=by
 refine ans_of E0 MZ rfl ⟨1,?_⟩;unfold uS PP row;simp only[EV,if_true,Nat.zero_add,Nat.reduceAdd,decide_eq_true_eq];unfold Pt.ok okE rb
 repeat' split
 all_goals simp_all
 all_goals omega
theorem H9 (p:Pt):Ans D 270 [PP p] [.i64 (okE p.ok)]:=by
 refine ans_of Fo Nk rfl ⟨1,?_⟩;unfold vt PP row;simp only[EV,zX,zY,if_true,Nat.zero_add,Nat.reduceAdd,decide_eq_true_eq];unfold Pt.ok okE rb
 repeat' split
 all_goals simp_all
 all_goals omega
end Go.Proofs.YtfghdmmapmdcgaaGreat
namespace Go.Sym
open Go.Sym
section
variable {Φ:PhT}{N:Nat}{b:K}{J:List JT}{e:List PV}{α β:Type}{l:List α}
theorem jh {i:Nat}{a:α}{k:List α}(h:l.drop i=a::k):l[i]?=some a∧l.drop (i+1)=k:=by
 have hi:i<l.length:=by
  rcases Nat.lt_or_ge i l.length with g|g
  ·exact g
  ·rw[List.drop_eq_nil_of_le g] at h;cases h
 rw[List.drop_eq_getElem_cons hi] at h;cases h;exact⟨List.getElem?_eq_getElem hi,rfl⟩
theorem bZ {i:Nat}{k:List α}(h:l.drop i=k)(hi:i≤l.length):i+k.length=l.length:=by
 rw[←h,List.length_drop];omega
theorem da {p:α→Bool}{st:Nat→List PV}{ret:Nat→Option (List PV)}{fin:Option (List PV)}(hs: ∀i a self,l[i]?=some a→den Φ N b (J++[self]) (e++st i)=if p a=true then ret i else self (st (i+1)))
  (hf: ∀self,den Φ N b (J++[self]) (e++st l.length)=fin) {m:Nat} (hm:l.length<m):denW Φ N b J e m (st 0)=(l.findIdx? p).elim fin ret:=by
 have: ∀(k:List α) i m,l.drop i=k→i≤l.length→k.length<m→denW Φ N b J e m (st i)=(k.findIdx? p).elim fin (fun j=>ret (j+i)):=by
  intro k;induction k with
  |nil=>
   intro i m h hi hm;obtain⟨m,rfl⟩: ∃m',m=m'+1:=⟨m-1,by omega⟩;have:=bZ h hi;rw[denW_succ,show i=l.length by simpa using this]
   exact hf _
  |cons a k ih=>
   intro i m h hi hm;obtain⟨m,rfl⟩: ∃m',m=m'+1:=⟨m-1,by omega⟩;obtain⟨h1,h2⟩:=jh h;have:=bZ h hi;rw[denW_succ,hs i a _ h1,List.findIdx?_cons];simp only[List.length_cons] at hm this;cases hp:p a with
   |true=>simp
   |false=>
    simp only[Bool.false_eq_true,if_false];rw[ih (i+1) m h2 (by omega) (by omega)];cases k.findIdx? p<;>simp[Nat.add_assoc,Nat.add_comm 1 i]
 have:=this l 0 m rfl (by omega) hm;rw[this];cases l.findIdx? p<;>rfl
theorem run_list {p:α→Bool}{st:Nat→List PV}{fin r:Option (List PV)}(hs: ∀i a self,l[i]?=some a→(l.take i).all p=true→den Φ N b (J++[self]) (e++st i)=if p a=true then self (st (i+1)) else r)
  (hf:l.all p=true→ ∀self,den Φ N b (J++[self]) (e++st l.length)=fin) {m:Nat} (hm:l.length<m):denW Φ N b J e m (st 0)=if l.all p=true then fin else r:=by
 have: ∀(k:List α) i m,l.drop i=k→i≤l.length→k.length<m→(l.take i).all p=true→denW Φ N b J e m (st i)=if k.all p=true then fin else r:=by
  intro k;induction k with
  |nil=>
   intro i m h hi hm ht;obtain⟨m,rfl⟩: ∃m',m=m'+1:=⟨m-1,by omega⟩;have:=bZ h hi;have hil:i=l.length:=by simpa using this
   rw[hil,List.take_length] at ht;rw[denW_succ,hil];exact hf ht _
  |cons a k ih=>
   intro i m h hi hm ht;obtain⟨m,rfl⟩: ∃m',m=m'+1:=⟨m-1,by omega⟩;obtain⟨h1,h2⟩:=jh h;have:=bZ h hi;rw[denW_succ,hs i a _ h1 ht,List.all_cons];simp only[List.length_cons] at hm this;cases hp:p a with
   |false=>simp
   |true=>
    simp only[if_true,Bool.true_and];refine ih (i+1) m h2 (by omega) (by omega) ?_;rw[List.take_add_one,h1,List.all_append,ht];simp[hp]
 exact this l 0 m rfl (by omega) hm (by simp)
theorem bv {g:β→α→β}{I:Nat→β→Prop}{S:β→Nat→List PV}{fin:β→Option (List PV)}{x:β}(h0:I 0 x)(hi: ∀i a acc,l[i]?=some a→I i acc→I (i+1) (g acc a))(hs: ∀i a acc self,l[i]?=some a→I i acc→den Φ N b (J++[self]) (e++S acc i)=self (S (g acc a) (i+1)))
  (hf: ∀acc self,I l.length acc→den Φ N b (J++[self]) (e++S acc l.length)=fin acc) {m:Nat} (hm:l.length<m):denW Φ N b J e m (S x 0)=fin (l.foldl g x)∧I l.length (l.foldl g x):=by
 have: ∀(k:List α) i m acc,l.drop i=k→i≤l.length→k.length<m→I i acc→denW Φ N b J e m (S acc i)=fin (k.foldl g acc)∧I l.length (k.foldl g acc):=by
  intro k;induction k with
  |nil=>
   intro i m acc h hi' hm hI;obtain⟨m,rfl⟩: ∃m',m=m'+1:=⟨m-1,by omega⟩;have:=bZ h hi';have hil:i=l.length:=by simpa using this
   rw[hil] at hI;rw[denW_succ,hil];exact⟨hf _ _ hI,hI⟩
  |cons a k ih=>
   intro i m acc h hi' hm hI;obtain⟨m,rfl⟩: ∃m',m=m'+1:=⟨m-1,by omega⟩;obtain⟨h1,h2⟩:=jh h;have:=bZ h hi';simp only[List.length_cons] at hm this;rw[denW_succ,hs i a acc _ h1 hI,List.foldl_cons];exact ih (i+1) m _ h2 (by omega) (by omega) (hi i a acc h1 hI)
 exact this l 0 m x rfl (by omega) hm h0
end
section
variable {α:Type}{f:α→List PV}{l:List α}
theorem tixM {i z:Nat}{a:α}(h:l[i]?=some a)(hz:(f a).length=z):RF.ev (.tix z) [.sl (l.map f),.v (.int .i64 (i:Int))]=some (.i64 (i:Int)):=by
 rw[LM,if_pos (by omega),Int.toNat_natCast,List.getElem?_map,h];simp only[Option.map_some,hz,if_true]
theorem eltM {i o n:Nat}{a:α}(h:l[i]?=some a):RF.ev (.elt o n) [.sl (l.map f),.v (.int .i64 (i:Int))]=rowPart o n (f a):=by
 rw[LJ,if_pos (by omega),Int.toNat_natCast,List.getElem?_map,h];rfl
theorem up1 {i:Nat}(h:i<1000000000):IntKind.i64.wrap ((i:Int)+1)=((i+1:Nat):Int):=by rw[ah (by omega) (by omega)];rfl
theorem fk {i:Nat}(h:i<1000000000):IntKind.i64.wrap (((i+1:Nat):Int)-1)=(i:Int):=by rw[ah (by omega) (by omega)];omega
theorem get_lt {i:Nat}{a:α}(h:l[i]?=some a):i<l.length:=(List.getElem?_eq_some_iff.1 h).1
theorem if_lt {i n:Nat}{γ:Type}{x y:γ}(h:i<n):(if(i:Int)<(n:Int) then x else y)=x:=if_pos (by omega)
theorem if_ge {n:Nat}{γ:Type}{x y:γ}:(if(n:Int)<(n:Int) then x else y)=y:=if_neg (by omega)
theorem subM:RF.ev .sub [.sl (l.map f),.v (.int .i64 0),.v (.int .i64 (l.length:Int))]=some (.sl (l.map f)):=by
 rw[mO,if_pos ⟨by omega,by omega,by rw[List.length_map];omega⟩,Int.toNat_natCast];simp only[Int.toNat_zero,List.drop_zero];rw[List.take_of_length_le (by simp)]
theorem aN {bytes z:Nat}{k:List α}(h:(l.length+k.length)*bytes≤140737488355328)(hz: ∀a,(f a).length=z):RF.ev (.app bytes z) [.sl (l.map f),.v (.int .i64 (l.length:Int)),.sl (k.map f)]=some (.sl ((l++k).map f)):=by
 rw[LL,if_pos]
 ·rw[Int.toNat_natCast,List.take_of_length_le (by simp)];simp
 ·rw[List.length_map,List.length_map,Int.toNat_natCast];refine⟨by omega,by omega,h,?_⟩;cases k with
  |nil=>rfl
  |cons a k=>simp[elsOk',hz]
end
def cL {α:Type}(p:α→Bool)(l:List α):Int:=(l.findIdx? p).elim (-1) fun i=>(i:Int)
theorem rg {α:Type}{p:α→Bool}{l:List α}:0≤cL p l↔l.any p=true:=by
 unfold cL;cases h:l.findIdx? p with
 |none=>
  rw[List.findIdx?_eq_none_iff] at h;simp only[Option.elim_none,List.any_eq_true];constructor
  ·intro h;omega
  ·rintro⟨x,h1,h2⟩;rw[h x h1] at h2;cases h2
 |some i=>
  simp only[Option.elim_some,List.any_eq_true];obtain⟨h1,h2,_⟩:=List.findIdx?_eq_some_iff_getElem.1 h;exact⟨fun _=>⟨_,List.getElem_mem h1,h2⟩,fun _=>by omega⟩
theorem iN {α:Type}{p:α→Bool}{l:List α}:decide (0≤cL p l)=l.any p:=by
 rw[Bool.eq_iff_iff,decide_eq_true_eq];exact rg
end Go.Sym
namespace Go.Proofs.YtfghdmmapmdcgaaGreat
open Go.Sym Bnd
set_option maxRecDepth 100000
def sgn (n:Int):Int:=if n<0 then-1 else if 0<n then 1 else 0
theorem uw {n:Int}{m:Nat}(h:n% 18446744073709551616=(m:Int)):PV.v (.int .u64 (IntKind.u64.wrap n))=U m:=by rw[bW,h];rfl
theorem wu {n:Nat}(h:n<18446744073709551616):IntKind.u64.wrap (n:Int)=(n:Int):=by rw[bW];omega
theorem KL (n:Nat):intB .shr .u64 (n:Int) .u64 32=some (.v (.int .u64 ((n/4294967296:Nat):Int))):=by
 rw[xq,if_neg (by decide),show min (32:Int).toNat IntKind.u64.bits=32 from rfl,Int.fdiv_eq_ediv_of_nonneg _ (by decide)]
 rfl
theorem sg {n:Nat}(h:n<18446744073709551616):intB .and .u64 (n:Int) .u64 4294967295=some (.v (.int .u64 ((n% 4294967296:Nat):Int))):=by
 rw[i_and];show some (PV.v (.int .u64 (IntKind.u64.wrap (((BitVec.ofInt 64 (n:Int)&&& BitVec.ofInt 64 4294967295).toNat:Nat):Int))))=_
 rw[rv h,wu (by omega)]
theorem fm {a b:Nat}(h:a+b<18446744073709551616):intB .add .u64 (a:Int) .u64 (b:Int)=some (.v (.int .u64 ((a+b:Nat):Int))):=by
 rw[i_add,←Int.natCast_add,wu h]
theorem fo {a b:Nat}(h:a*b<18446744073709551616):intB .mul .u64 (a:Int) .u64 (b:Int)=some (.v (.int .u64 ((a*b:Nat):Int))):=by
 rw[i_mul,←Int.natCast_mul,wu h]
theorem A9 {x y:Nat}(hx:x<18446744073709551616)(hy:y<18446744073709551616):Ans D 289 [U x,U y] [U (x*y/18446744073709551616),U (x*y% 18446744073709551616)]:=by
 refine ans_of Fw Ns rfl ⟨1,?_⟩;have b0:=bN (a:=x% 4294967296) (b:=y% 4294967296) (by omega) (by omega);have b1:=bN (a:=x/4294967296) (b:=y% 4294967296) (by omega) (by omega);have b2:=bN (a:=x% 4294967296) (b:=y/4294967296) (by omega) (by omega);have b3:=bN (a:=x/4294967296) (b:=y/4294967296) (by omega) (by omega);have hh:=KG hx hy;have hl:x*y/18446744073709551616<18446744073709551616:=by
  have:x*y≤18446744073709551615*18446744073709551615:=Nat.mul_le_mul (by omega) (by omega);omega
 have s1:(x/4294967296)*(y/4294967296)+((x/4294967296)*(y% 4294967296)+(x% 4294967296)*(y% 4294967296)/4294967296)/4294967296<18446744073709551616:=by omega
 unfold vD U;simp only[EV,sg hx,sg hy,KL,f_bin,fo (show x% 4294967296*(y% 4294967296)<18446744073709551616 by omega),fo (show x/4294967296*(y% 4294967296)<18446744073709551616 by omega),
  fo (show x% 4294967296*(y/4294967296)<18446744073709551616 by omega),fo (show x/4294967296*(y/4294967296)<18446744073709551616 by omega),
  fm (show x/4294967296*(y% 4294967296)+x% 4294967296*(y% 4294967296)/4294967296<18446744073709551616 by omega),
  sg (show x/4294967296*(y% 4294967296)+x% 4294967296*(y% 4294967296)/4294967296<18446744073709551616 by omega),
  fm (show(x/4294967296*(y% 4294967296)+x% 4294967296*(y% 4294967296)/4294967296)% 4294967296+x% 4294967296*(y/4294967296)<18446744073709551616 by omega),
  fm s1,fm (show _<18446744073709551616 from hh▸hl)]
 rw[hh,←Int.natCast_mul,bW];rfl
def W (neg:Bool)(m:Nat):PV:= .agg [.bool neg,U (m/18446744073709551616),U (m% 18446744073709551616)]
theorem eQ {a:Int}(h:I64 a):a.natAbs≤9223372036854775808:=by obtain⟨h1,h2⟩:=h;omega
theorem xF {a b:Int}(h:I64 a)(k:I64 b):a.natAbs*b.natAbs≤85070591730234615865843651857942052864:=Nat.mul_le_mul (eQ h) (eQ k)
theorem Ia {a b:Int}(h:I64 a)(k:I64 b):Ans D 213 [.i64 a,.i64 b] [W (decide (a<0) !=decide (b<0)) (a.natAbs*b.natAbs)]:=by
 refine ans_of EN MM rfl ⟨1,?_⟩;have h1:=eQ h;have h2:=eQ k;unfold uH;simp only[EV,phi (c116 h),phi (c116 k),phi (A9 (show a.natAbs<18446744073709551616 by omega) (show b.natAbs<18446744073709551616 by omega))]
 rfl
theorem Ol (a:Int):Ans D 287 [.i64 a] [.bool false]:=by
 refine ans_of Fu Nq rfl ⟨1,?_⟩;unfold vB;simp only[EV,decide_true,Bool.not_true]
theorem Om (a:Int):Ans D 395 [.i64 a] [.bool false]:=by
 refine ans_of Gf N9 rfl ⟨1,?_⟩;unfold wA;simp only[EV,decide_true,Bool.not_true]
theorem sgn_cases (a b:Int):sgn (a-b)=if a<b then-1 else if b<a then 1 else 0:=by
 unfold sgn;by_cases h:a<b
 ·rw[if_pos (by omega),if_pos h]
 ·rw[if_neg (by omega),if_neg h];by_cases k:b<a
  ·rw[if_pos (by omega),if_pos k]
  ·rw[if_neg (by omega),if_neg k]
theorem Ib (a b:Int):Ans D 211 [.i64 a,.i64 b] [.i64 (sgn (a-b))]:=by
 refine ans_of EK MK rfl ⟨1,?_⟩;unfold uF;simp only[EV,phi (Ol _),Bool.false_eq_true,if_false,decide_eq_true_eq,sgn_cases]
 repeat' split
 all_goals rfl
theorem sj (a b:Int):Ans D 354 [.i64 a,.i64 b] [.i64 (sgn (a-b))]:=by
 refine ans_of F4 NZ rfl ⟨1,?_⟩;unfold wg;simp only[EV,phi (Om _),Bool.false_eq_true,if_false,decide_eq_true_eq,sgn_cases]
 repeat' split
 all_goals rfl
theorem On (a:Nat):Ans D 359 [U a] [.bool false]:=by
 refine ans_of F5 N0 rfl ⟨1,?_⟩;unfold wj U;simp only[EV,decide_true,Bool.not_true]
theorem Oo (a b:Nat):Ans D 288 [U a,U b] [.i64 (sgn ((a:Int)-b))]:=by
 have h:=fun a=>phi (On a);refine ans_of Fv Nr rfl ⟨1,?_⟩;unfold vC;unfold U at h⊢;simp only[EV,h,Bool.false_eq_true,if_false,decide_eq_true_eq,sgn_cases]
 repeat' split
 all_goals rfl
theorem Oq {n k:Bool}(a b:Nat):Ans D 212 [W n a,W k b] [.i64 (sgn ((a:Int)-b))]:=by
 refine ans_of EL ML rfl ⟨1,?_⟩;unfold uG W;simp only[EV,if_true,Nat.zero_add,Nat.reduceAdd,phi (Oo _ _),sgn_cases,Bool.not_eq_true',decide_eq_false_iff_not];generalize hp:((a/18446744073709551616:Nat):Int)=p;generalize hq:((b/18446744073709551616:Nat):Int)=q;generalize hr:((a% 18446744073709551616:Nat):Int)=r;generalize hs:((b% 18446744073709551616:Nat):Int)=s;by_cases h1:p<q
 ·simp only[if_pos h1,if_pos (show(a:Int)<b by omega),Int.reduceNeg,Int.reduceEq,not_false_eq_true,if_true]
 ·by_cases h2:q<p
  ·simp only[if_neg h1,if_pos h2,if_neg (show¬(a:Int)<b by omega),if_pos (show(b:Int)<a by omega),Int.reduceEq,not_false_eq_true,if_true]
  ·simp only[if_neg h1,if_neg h2,not_true_eq_false,if_false];by_cases h3:r<s
   ·rw[if_pos h3,if_pos (show(a:Int)<b by omega)]
   ·rw[if_neg h3,if_neg (show¬(a:Int)<b by omega)]
    by_cases h4:s<r
    ·rw[if_pos h4,if_pos (show(b:Int)<a by omega)]
    ·rw[if_neg h4,if_neg (show¬(b:Int)<a by omega)]
theorem rC (a b:Bool):max (okE a) (okE b)=okE (a&& b):=by cases a<;>cases b<;>rfl
theorem mm2 (a b:Int):RF.ev (.mm true) [.i64 a,.i64 b]=some (.i64 (max a b)):=rfl
theorem shapeR (r:Rt):RF.ev (.shape 2) [R r]=some (R r):=rfl
theorem cellR0 (r:Rt):RF.ev (.cell 0) [R r]=some (.i64 r.num):=rfl
theorem cellR1 (r:Rt):RF.ev (.cell 1) [R r]=some (.i64 r.den):=rfl
theorem Or {r s:Rt}(h:In64 r)(k:In64 s):Ans D 210 [R r,R s] [.i64 (okE (rok r&& rok s))]:=by
 refine ans_of EJ MJ rfl ⟨1,?_⟩;unfold uE;simp only[den_lt,shapeR,EV,phi (c43 h),phi (c43 k),mm2,rC]
def crs (r s:Rt):Int:=r.num*s.den-s.num*r.den
theorem dz {b:Bool}{α:Type}{x y:α}:(if(!decide (okE b=0))=true then x else y)=if b=true then y else x:=by cases b<;>rfl
theorem cC {r:Rt}(h:rok r=true):1≤r.den:=by
 unfold rok at h;simp only[Bool.and_eq_true,decide_eq_true_eq] at h;exact h.1.1
theorem bg (a b:Int):((a.natAbs*b.natAbs:Nat):Int)=if 0≤a*b then a*b else-(a*b):=by
 rw[←Int.natAbs_mul];split<;>omega
theorem Gs (n:Int):sgn (-n)= -sgn n:=by unfold sgn;repeat' split;all_goals omega
theorem Gt (n:Int): -1≤sgn n∧sgn n≤1:=by unfold sgn;repeat' split;all_goals omega
theorem Ot {r s:Rt}(h:In64 r)(k:In64 s):Ans D 117 [R r,R s] (if(rok r&& rok s)=true then [.i64 (sgn (crs r s)),.i64 0] else [.i64 0,.i64 8]):=by
 refine ans_of DU LW rfl ⟨1,?_⟩;unfold tD;simp only[den_lt,shapeR,cellR0,cellR1,EV,phi (Or h k),dz,phi (Ib _ _),phi (Ia h.1 k.2),phi (Ia k.1 h.2),phi (Oq _ _)];cases hok:rok r&& rok s with
 |false=>rfl
 |true=>
  simp only[Bool.and_eq_true] at hok;have d1:=cC hok.1;have d2:=cC hok.2;simp only[if_true,yc,EV];have p1:(0≤r.num*s.den)↔0≤r.num:=by
   constructor
   ·intro h;rcases Int.lt_or_le r.num 0 with g|g
    ·have:=Int.mul_neg_of_neg_of_pos g (show 0<s.den by omega);omega
    ·exact g
   ·intro h;exact Int.mul_nonneg h (by omega)
  have p2:(0≤s.num*r.den)↔0≤s.num:=by
   constructor
   ·intro h;rcases Int.lt_or_le s.num 0 with g|g
    ·have:=Int.mul_neg_of_neg_of_pos g (show 0<r.den by omega);omega
    ·exact g
   ·intro h;exact Int.mul_nonneg h (by omega)
  by_cases h1:r.num<0<;>by_cases h2:s.num<0
  ·rw[decide_eq_true h1,decide_eq_true h2];simp only[bne_self_eq_false,Bool.false_eq_true,if_false,if_true];rw[bg,bg,if_neg (show¬0≤r.num*s.den by omega),if_neg (show¬0≤s.num*r.den by omega)]
   unfold crs;rw[show-(r.num*s.den)- -(s.num*r.den)= -(r.num*s.den-s.num*r.den) by omega,Gs]
   have:=Gt (r.num*s.den-s.num*r.den);rw[show(0:Int)- -sgn (r.num*s.den-s.num*r.den)=sgn (r.num*s.den-s.num*r.den) by omega,ah (by omega) (by omega)]
   rfl
  ·rw[decide_eq_true h1,decide_eq_false h2];have e1:sgn (r.num-s.num)= -1:=by unfold sgn;rw[if_pos (by omega)]
   have e2:sgn (crs r s)= -1:=by unfold sgn crs;rw[if_pos (by omega)]
   rw[e1,e2];rfl
  ·rw[decide_eq_false h1,decide_eq_true h2];have e1:sgn (r.num-s.num)=1:=by unfold sgn;rw[if_neg (by omega),if_pos (by omega)]
   have e2:sgn (crs r s)=1:=by unfold sgn crs;rw[if_neg (by omega),if_pos (by omega)]
   rw[e1,e2];rfl
  ·rw[decide_eq_false h1,decide_eq_false h2];simp only[bne_self_eq_false,Bool.false_eq_true,if_false];rw[bg,bg,if_pos (show 0≤r.num*s.den by omega),if_pos (show 0≤s.num*r.den by omega)]
   rfl
theorem Ou {x y:Nat}(hx:x<18446744073709551616)(hy:y<18446744073709551616):Ans D 368 [U x,U y] [W false (x*y)]:=by
 refine ans_of F6 N1 rfl ⟨1,?_⟩;have b0:=bN (a:=x% 4294967296) (b:=y% 4294967296) (by omega) (by omega);have b1:=bN (a:=x/4294967296) (b:=y% 4294967296) (by omega) (by omega);have b2:=bN (a:=x% 4294967296) (b:=y/4294967296) (by omega) (by omega);have b3:=bN (a:=x/4294967296) (b:=y/4294967296) (by omega) (by omega);have sp:=l8 (x:=x) (y:=y);have q32: ∀n:Nat,n<18446744073709551616→intB .quo .u64 (n:Int) .u64 4294967296=some (.v (.int .u64 ((n/4294967296:Nat):Int))):=fun n h=>by
  rw[xp,if_neg (by decide),Int.tdiv_eq_ediv_of_nonneg (by omega),bW]
  congr 3
  omega
 have r32: ∀n:Nat,intB .rem .u64 (n:Int) .u64 4294967296=some (.v (.int .u64 ((n% 4294967296:Nat):Int))):=fun n=>by
  rw[mP,if_neg (by decide),Int.tmod_eq_emod_of_nonneg (by omega)];rfl
 generalize hA:x/4294967296*(y/4294967296)=A at*;generalize hB:x/4294967296*(y% 4294967296)=B at*;generalize hC:x% 4294967296*(y/4294967296)=C at*;generalize hE:x% 4294967296*(y% 4294967296)=E at*;have m32:intB .mul .u64 (((C+(B+E/4294967296)% 4294967296)% 4294967296:Nat):Int) .u64 4294967296=some (.v (.int .u64 (((C+(B+E/4294967296)% 4294967296)% 4294967296*4294967296:Nat):Int))):=fo (b:=4294967296) (by omega);have mA:intB .mul .u64 ((x/4294967296:Nat):Int) .u64 ((y/4294967296:Nat):Int)=some (.v (.int .u64 (A:Int))):=by rw[fo (by omega),hA]
 have mB:intB .mul .u64 ((x/4294967296:Nat):Int) .u64 ((y% 4294967296:Nat):Int)=some (.v (.int .u64 (B:Int))):=by rw[fo (by omega),hB]
 have mC:intB .mul .u64 ((x% 4294967296:Nat):Int) .u64 ((y/4294967296:Nat):Int)=some (.v (.int .u64 (C:Int))):=by rw[fo (by omega),hC]
 have mE:intB .mul .u64 ((x% 4294967296:Nat):Int) .u64 ((y% 4294967296:Nat):Int)=some (.v (.int .u64 (E:Int))):=by rw[fo (by omega),hE]
 unfold wl U;simp only[f_bin,EV,q32 x hx,q32 y hy,r32,mA,mB,mC,mE,q32 E (by omega),fm (show B+E/4294967296<18446744073709551616 by omega),fm (show C+(B+E/4294967296)% 4294967296<18446744073709551616 by omega),
  q32 (B+E/4294967296) (by omega),q32 (C+(B+E/4294967296)% 4294967296) (by omega),fm (show A+(B+E/4294967296)/4294967296<18446744073709551616 by omega),
  fm (show A+(B+E/4294967296)/4294967296+(C+(B+E/4294967296)% 4294967296)/4294967296<18446744073709551616 by omega),m32,fm (show(C+(B+E/4294967296)% 4294967296)% 4294967296*4294967296+E% 4294967296<18446744073709551616 by omega)]
 unfold W U;rw[show x*y/18446744073709551616=A+(B+E/4294967296)/4294967296+(C+(B+E/4294967296)% 4294967296)/4294967296 by omega,show x*y% 18446744073709551616=(C+(B+E/4294967296)% 4294967296)% 4294967296*4294967296+E% 4294967296 by omega]
 rfl
def kF (a b:Int):Bool:=(decide (a<0) !=decide (b<0))&&(!decide (a=0)&& !decide (b=0))
theorem dA (n:Bool)(m:Nat):RF.ev (.shape 3) [W n m]=some (W n m):=rfl
theorem gc (n:Bool)(m:Nat):RF.ev (.cell 0) [W n m]=some (.bool n):=rfl
theorem dV (n:Bool)(m:Nat):RF.ev (.cell 1) [W n m]=some (.v (.int .u64 ((m/18446744073709551616:Nat):Int))):=rfl
theorem dW (n:Bool)(m:Nat):RF.ev (.cell 2) [W n m]=some (.v (.int .u64 ((m% 18446744073709551616:Nat):Int))):=rfl
theorem Ic (n:Bool)(m:Nat):RF.ev (.part 0 3) [W n m]=some (W n m):=rfl
theorem ji (n:Bool)(m:Nat):RF.ev (.part 1 2) [W n m]=some (.agg [U (m/18446744073709551616),U (m% 18446744073709551616)]):=rfl
theorem mT (n:Bool)(m:Nat):RF.ev .agg [.bool n,.agg [U (m/18446744073709551616),U (m% 18446744073709551616)]]=some (W n m):=rfl
theorem jk (n:Bool)(m:Nat):RF.ev .flat [W n m]=some (W n m):=rfl
theorem c304 {a b:Int}(h:I64 a)(k:I64 b):Ans D 304 [.i64 a,.i64 b] [W (kF a b) (a.natAbs*b.natAbs)]:=by
 refine ans_of FE NB rfl ⟨1,?_⟩;have h1:=eQ h;have h2:=eQ k;unfold vL;simp only[dA,ji,mT,jk,EV,phi (mR h),phi (mR k),phi (Ou (show a.natAbs<18446744073709551616 by omega) (show b.natAbs<18446744073709551616 by omega)),z8]
 unfold kF;cases decide (a<0)<;>cases decide (b<0)<;>cases decide (a=0)<;>rfl
def bigV (n:Bool)(m:Nat):Int:=if n then-(m:Int) else m
theorem dX (a b:Int):bigV (kF a b) (a.natAbs*b.natAbs)=a*b:=by
 unfold bigV kF;rw[bg];rcases Int.lt_trichotomy a 0 with h|h|h<;>rcases Int.lt_trichotomy b 0 with k|k|k
 ·have:=Int.mul_pos_of_neg_of_neg h k;simp[h,k];omega
 ·subst k;simp
 ·have:=Int.mul_neg_of_neg_of_pos h k;simp[h,show¬b<0 by omega,show a≠0 by omega,show b≠0 by omega];omega
 ·subst h;simp
 ·subst h;simp
 ·subst h;simp
 ·have:=Int.mul_neg_of_pos_of_neg h k;simp[k,show¬a<0 by omega,show a≠0 by omega,show b≠0 by omega];omega
 ·subst k;simp
 ·have:=Int.mul_pos h k;simp[show¬a<0 by omega,show¬b<0 by omega];omega
theorem c305 (n:Bool)(m:Nat):Ans D 305 [W n m] [.i64 (sgn (bigV n m))]:=by
 refine ans_of FF NC rfl ⟨1,?_⟩;unfold vM;simp only[den_lt,dA,dV,dW,EV,decide_eq_true_eq];have fin: ∀(e:Bool) (v:PV),(e=true↔m=0)→den (PhiS D) 1 pT [] [v,W n m,.bool e]=some [.i64 (sgn (bigV n m))]:=fun e v he=>by
  unfold pT bigV;simp only[gc,EV];cases e with
  |true=>have:=he.1 rfl;subst this;cases n<;>rfl
  |false=>
   have:m≠0:=fun h=>by have:=he.2 h;cases this
   simp only[Bool.false_eq_true,if_false];unfold sgn;cases n with
   |true=>simp only[if_true];rw[if_pos (by omega)]
   |false=>simp only[Bool.false_eq_true,if_false];rw[if_neg (by omega),if_pos (by omega)]
 by_cases h:((m/18446744073709551616:Nat):Int)=0
 ·rw[if_pos h];exact fin _ _ (by rw[decide_eq_true_eq];omega)
 ·rw[if_neg h];exact fin _ _ ⟨fun h=>(by cases h),fun h'=>(by subst h';exact absurd rfl h)⟩
theorem Ba {n k:Bool}(a b:Nat):Ans D 306 [W n a,W k b] [.i64 (sgn ((a:Int)-b))]:=by
 refine ans_of FG ND rfl ⟨1,?_⟩;unfold vN;simp only[den_lt,dA,dV,dW,EV,decide_eq_true_eq,sgn_cases,Bool.not_eq_true',decide_eq_false_iff_not];by_cases h1:a/18446744073709551616=b/18446744073709551616
 ·rw[if_neg (by omega)];by_cases h2:a% 18446744073709551616=b% 18446744073709551616
  ·rw[if_neg (by omega),if_neg (by omega),if_neg (by omega)]
  ·rw[if_pos (by omega)];by_cases h3:a<b
   ·rw[if_pos (by omega),if_pos (by omega)]
   ·rw[if_neg (by omega),if_neg (by omega),if_pos (by omega)]
 ·rw[if_pos (by omega)];by_cases h3:a<b
  ·rw[if_pos (by omega),if_pos (by omega)]
  ·rw[if_neg (by omega),if_neg (by omega),if_pos (by omega)]
theorem Ov {r s:Rt}(h:In64 r)(k:In64 s):Ans D 224 [R r,R s] [.i64 (sgn (crs r s))]:=by
 refine ans_of EU MU rfl ⟨1,?_⟩;unfold uN;simp only[den_lt,shapeR,cellR0,cellR1,dA,Ic,EV,phi (c304 h.1 k.2),phi (c304 k.1 h.2),phi (c305 _ _),phi (Ba _ _),dX,decide_eq_true_eq,Bool.not_eq_true',decide_eq_false_iff_not];have e1:=dX r.num s.den;have e2:=dX s.num r.den;unfold bigV at e1 e2;unfold crs;generalize r.num*s.den=x at*;generalize s.num*r.den=y at*;generalize r.num.natAbs*s.den.natAbs=a at*;generalize s.num.natAbs*r.den.natAbs=b at*;have hx:sgn x=if x<0 then-1 else if 0<x then 1 else 0:=rfl
 have hy:sgn y=if y<0 then-1 else if 0<y then 1 else 0:=rfl
 by_cases hne:sgn x=sgn y
 ·rw[if_neg (by omega)];by_cases hn:sgn x<0
  ·rw[if_pos hn];have:(b:Int)-a=x-y:=by
    revert e1 e2
    split<;>split<;>intros<;>(repeat' split at hx)<;>(repeat' split at hy)<;>omega
   rw[this]
  ·rw[if_neg hn];have:(a:Int)-b=x-y:=by
    revert e1 e2
    split<;>split<;>intros<;>(repeat' split at hx)<;>(repeat' split at hy)<;>omega
   rw[this]
 ·rw[if_pos hne];rw[sgn_cases x y];by_cases hl:sgn x<sgn y
  ·rw[if_pos hl,if_pos (show x<y by repeat' split at hx;all_goals (repeat' split at hy)<;>omega)]
  ·rw[if_neg hl,if_neg (show¬x<y by repeat' split at hx;all_goals (repeat' split at hy)<;>omega),if_pos (show y<x by repeat' split at hx;all_goals (repeat' split at hy)<;>omega)]
theorem add64 (x y:Nat):RF.ev .add64 [U x,U y,U 0]=some (.agg [U ((x+y)% 18446744073709551616),U ((x+y)/18446744073709551616)]):=rfl
theorem Id {x t:Int}(h:(x-t)% 18446744073709551616=0)(ht:I64 t):IntKind.i64.wrap x=t:=by
 obtain⟨h1,h2⟩:=ht;simp only[IntKind.wrap,IntKind.bits,IntKind.signed];simp;split<;>omega
theorem wr (x:Int): ∃k:Int,IntKind.i64.wrap x=x+18446744073709551616*k:=by
 simp only[IntKind.wrap,IntKind.bits,IntKind.signed];simp;split
 ·exact⟨-(x/18446744073709551616)-1,by omega⟩
 ·exact⟨-(x/18446744073709551616),by omega⟩
theorem sk {x y:Int}(h:(x-y)% 18446744073709551616=0):IntKind.i64.wrap x=IntKind.i64.wrap y:=by
 simp only[IntKind.wrap,IntKind.bits,IntKind.signed];simp;rw[show x% 18446744073709551616=y% 18446744073709551616 by omega]
theorem wrA (x y:Int):IntKind.i64.wrap (IntKind.i64.wrap x+y)=IntKind.i64.wrap (x+y):=by obtain⟨k,h⟩:=wr x;rw[h];exact sk (by omega)
theorem wrB (x y:Int):IntKind.i64.wrap (y+IntKind.i64.wrap x)=IntKind.i64.wrap (y+x):=by obtain⟨k,h⟩:=wr x;rw[h];exact sk (by omega)
theorem wrC (x y:Int):IntKind.i64.wrap (IntKind.i64.wrap x-y)=IntKind.i64.wrap (x-y):=by obtain⟨k,h⟩:=wr x;rw[h];exact sk (by omega)
theorem sm (k:IntKind)(n:Nat):RF.ev (.conv k) [U n]=some (.v (.int k (k.wrap n))):=rfl
abbrev oA2:RF:= .bin .add
def hiL (v:Int):PV:= .i64 (v/18446744073709551616)
def loL (v:Int):PV:= .v (.int .u64 (v% 18446744073709551616))
def Mid (v:Int):Prop:= -154742504910672534362390528≤v∧v≤154742504910672534362390528
theorem Gu {a b p:Int}(ha:I64 a)(hb:I64 b)(hp:a*b=p): ∃x y:Nat,(a% 18446744073709551616=(x:Int)∧x<18446744073709551616)∧(b% 18446744073709551616=(y:Int)∧y<18446744073709551616)∧
  ((x*y:Nat):Int)=p+18446744073709551616*((if a<0 then b else 0)+(if b<0 then a else 0))+340282366920938463463374607431768211456*(if a<0∧b<0 then 1 else 0):=by
 obtain⟨a1,a2⟩:=ha;obtain⟨b1,b2⟩:=hb;refine⟨(a% 18446744073709551616).toNat,(b% 18446744073709551616).toNat,⟨by omega,by omega⟩,⟨by omega,by omega⟩,?_⟩;have e1:(((a% 18446744073709551616).toNat:Nat):Int)=if a<0 then a+18446744073709551616 else a:=by split<;>omega
 have e2:(((b% 18446744073709551616).toNat:Nat):Int)=if b<0 then b+18446744073709551616 else b:=by split<;>omega
 rw[Int.natCast_mul,e1,e2];by_cases h1:a<0<;>by_cases h2:b<0<;>simp only[h1,h2,if_true,if_false,and_true,and_false,and_self,Int.add_mul,Int.mul_add,hp]<;>omega
theorem mU {Φ':PhT}{N:Nat}{f self:JT}{e0 w:PV}{a b v:Int}{i:Nat}(hΦ:Φ'=PhiS D)(hw:RF.ev (.aix 2 2 2) [w,.i64 (i:Int)]=some (.agg [.i64 a,.i64 b]))(hi:i<2)(ha:I64 a)(hb:I64 b)(hm:Mid (a*b))(hv:Mid v):
  den Φ' N jQ [f,self] [e0,w,hiL v,loL v,.i64 (i:Int)]=self [hiL (v+a*b),loL (v+a*b),.i64 ((i+1:Nat):Int)]:=by
 subst hΦ;obtain⟨m1,m2⟩:=hm;obtain⟨v1,v2⟩:=hv;generalize hp:a*b=p at*;obtain⟨x,y,⟨x1,x2⟩,⟨y1,y2⟩,hxy⟩:=Gu ha hb hp;have ha':=ha;have hb':=hb;obtain⟨a1,a2⟩:=ha;obtain⟨b1,b2⟩:=hb;have bd:x*y≤18446744073709551615*18446744073709551615:=Nat.mul_le_mul (by omega) (by omega);have u1:PV.v (.int .u64 (IntKind.u64.wrap a))=U x:=uw x1;have u2:PV.v (.int .u64 (IntKind.u64.wrap b))=U y:=uw y1;have q1:=phi (A9 x2 y2);have lo0:loL v=U (v% 18446744073709551616).toNat:=by unfold loL U;congr 2;omega
 have q2:=add64 (v% 18446744073709551616).toNat (x*y% 18446744073709551616);rw[←lo0] at q2;have w1:IntKind.i64.wrap ((i:Int)+1)=((i+1:Nat):Int):=up1 (by omega);unfold jQ;simp only[den_lt,hw,EV,decide_eq_true_eq,u1,u2,q1,if_pos (show(i:Int)<2 by omega),sm,Ax]
 have lo2:U (((v% 18446744073709551616).toNat+x*y% 18446744073709551616)% 18446744073709551616)=loL (v+p):=by
  unfold loL U
  congr 2
  split at hxy<;>split at hxy<;>split at hxy<;>omega
 rw[lo2] at q2;have q3: ∀h:Int,RF.ev oA2 [hiL v,.v (.int .i64 h)]=some (.i64 (IntKind.i64.wrap (v/18446744073709551616+h))):=fun h=>rfl;have U0:PV.v (.int .u64 0)=U 0:=rfl;by_cases a0:a<0<;>by_cases b0:b<0<;>simp only[a0,b0,if_true,if_false,den_lt,q3,EV,decide_true,decide_false,Bool.false_eq_true,Aw,U0,q2,sm,wrA,wrB,wrC,w1,true_and,and_true,false_and,and_false,and_self] at hxy⊢
 all_goals
  rw[Id (t:=(v+p)/18446744073709551616) (by omega) ⟨by omega,by omega⟩];rfl
theorem Ow {a b c d:Int}(ha:I64 a)(hb:I64 b)(hc:I64 c)(hd:I64 d)(h1:Mid (a*b))(h2:Mid (c*d)):Ans D 389 [.agg [.i64 a,.i64 b,.i64 c,.i64 d]] [.agg [hiL (a*b+c*d),loL (a*b+c*d)]]:=by
 refine ans_of Ge N8 rfl ⟨3,?_⟩;unfold wy;have s0:=fun self=>mU (N:=3) (f:=eO (PhiS D) 3 jP [] [.agg [.i64 a,.i64 b,.i64 c,.i64 d],.agg [.i64 a,.i64 b,.i64 c,.i64 d]]) (self:=self) (e0:= .agg [.i64 a,.i64 b,.i64 c,.i64 d]) (w:= .agg [.i64 a,.i64 b,.i64 c,.i64 d]) (i:=0) (v:=0) rfl rfl (by decide) ha hb h1 ⟨by decide,by decide⟩;have s1:=fun self=>mU (N:=3) (f:=eO (PhiS D) 3 jP [] [.agg [.i64 a,.i64 b,.i64 c,.i64 d],.agg [.i64 a,.i64 b,.i64 c,.i64 d]]) (self:=self) (e0:= .agg [.i64 a,.i64 b,.i64 c,.i64 d]) (w:= .agg [.i64 a,.i64 b,.i64 c,.i64 d]) (i:=1) (v:=a*b) rfl rfl (by decide) hc hd h2 h1;rw[Int.zero_add] at s0;have z1:PV.i64 0=hiL 0:=rfl;have z2:PV.v (.int .u64 0)=loL 0:=rfl;have z3:PV.i64 0= .i64 ((0:Nat):Int):=rfl;simp only[EV,if_true,Nat.zero_add,Nat.reduceAdd,denW_succ];refine(s0 _).trans ?_;simp only[denW_succ,l_cons,l_nil,j_cons,j_nil];refine(s1 _).trans ?_;simp only[denW_succ,EV];unfold jQ;simp only[EV,jP];rfl
theorem Pt.bnd {p:Pt}(h:p.ok=true):(0≤p.id∧p.id≤65535)∧(-1048576≤p.a∧p.a≤1048576)∧(-1048576≤p.b∧p.b≤1048576):=by
 unfold Pt.ok rb at h;simp only[Bool.and_eq_true,decide_eq_true_eq] at h;omega
theorem rD {a b:Int}(h: -2097152≤a∧a≤2097152)(k:I64 b):Mid (a*b):=by
 obtain⟨k1,k2⟩:=k;have e:=Int.natAbs_mul a b;have:a.natAbs*b.natAbs≤2097152*9223372036854775808:=Nat.mul_le_mul (by omega) (by omega);constructor<;>omega
theorem Ie (v:Int):(v/18446744073709551616<0)↔v<0:=by omega
theorem orr (a b:Int):Ans D 387 [.sl [[.i64 a],[.i64 b]]] [.i64 (if a=0 then b else a)]:=by
 refine ans_of Gc N7 rfl ⟨3,?_⟩;unfold wx;have w0:IntKind.i64.wrap (0+1)=1:=by decide
 have w1:IntKind.i64.wrap (1+1)=2:=by decide
 have e0:RF.ev (.tix 1) [.sl [[.i64 a],[.i64 b]],.v (.int .i64 0)]=some (.i64 0):=rfl;have e1:RF.ev (.tix 1) [.sl [[.i64 a],[.i64 b]],.v (.int .i64 1)]=some (.i64 1):=rfl;have g0:RF.ev (.elt 0 0) [.sl [[.i64 a],[.i64 b]],.v (.int .i64 0)]=some (.i64 a):=rfl;have g1:RF.ev (.elt 0 0) [.sl [[.i64 a],[.i64 b]],.v (.int .i64 1)]=some (.i64 b):=rfl;have h2:([[PV.i64 a],[PV.i64 b]].length:Int)=2:=rfl;simp only[EV,denW_succ,Au,Av,h2,e0,e1,g0,g1,w0,w1,decide_eq_true_eq,Bool.not_eq_true',decide_eq_false_iff_not,Int.reduceLT,if_true,if_false];by_cases ha:a=0
 ·rw[if_neg (by simp[ha]),if_pos ha];by_cases hb:b=0
  ·rw[if_neg (by simp[hb]),hb]
  ·rw[if_pos hb]
 ·rw[if_pos ha,if_neg ha]
def sn (t:Rt)(p q:Pt):Int:=if far t p q=0 then(if sgn (p.b-q.b)=0 then sgn (q.id-p.id) else sgn (p.b-q.b)) else sgn (far t p q)
theorem mX {t:Rt}{p q:Pt}:decide (0<sn t p q)=leads t p q:=by
 rw[Bool.eq_iff_iff,decide_eq_true_eq,bH];unfold sn sgn
 repeat' split
 all_goals omega
theorem shapeP (p:Pt):RF.ev (.shape 3) [PP p]=some (PP p):=rfl
theorem cellP0 (p:Pt):RF.ev (.cell 0) [PP p]=some (.i64 p.id):=rfl
theorem cellP1 (p:Pt):RF.ev (.cell 1) [PP p]=some (.i64 p.a):=rfl
theorem cellP2 (p:Pt):RF.ev (.cell 2) [PP p]=some (.i64 p.b):=rfl
theorem Gw {t:Rt}{p q:Pt}(hp:p.ok=true)(hq:q.ok=true)(ht:In64 t):Mid ((p.a-q.a)*t.den)∧Mid ((p.b-q.b)*t.num):=by
 have:=Pt.bnd hp;have:=Pt.bnd hq;exact⟨rD ⟨by omega,by omega⟩ ht.2,rD ⟨by omega,by omega⟩ ht.1⟩
theorem gf {a b:Int}(ha: -1048576≤a∧a≤1048576)(hb: -1048576≤b∧b≤1048576):I64 (a-b)∧IntKind.i64.wrap (a-b)=a-b:=⟨⟨by omega,by omega⟩,ah (by omega) (by omega)⟩
theorem If {p q:Pt}{t:Rt}(hp:p.ok=true)(hq:q.ok=true)(ht:In64 t):Ans D 329 [PP p,PP q,R t] [.i64 (sn t p q)]:=by
 have bp:=Pt.bnd hp;have bq:=Pt.bnd hq;obtain⟨f1,f2⟩:=Gw hp hq ht;obtain⟨i1,i2⟩:=gf bp.2.1 bq.2.1;obtain⟨i3,i4⟩:=gf bp.2.2 bq.2.2;have h1:=phi (Ow i1 ht.2 i3 ht.1 f1 f2);rw[show(p.a-q.a)*t.den+(p.b-q.b)*t.num=far t p q from rfl] at h1
 have a1: ∀a b c d:Int,RF.ev .agg [.i64 a,.i64 b,.i64 c,.i64 d]=some (.agg [.i64 a,.i64 b,.i64 c,.i64 d]):=fun _ _ _ _=>rfl;have a2: ∀v:Int,RF.ev (.shape 2) [.agg [hiL v,loL v]]=some (.agg [hiL v,loL v]):=fun _=>rfl;have a3: ∀v:Int,RF.ev (.cell 0) [.agg [hiL v,loL v]]=some (.i64 (v/18446744073709551616)):=fun _=>rfl;have a4:RF.ev .agg [.i64 0,.v (.int .u64 0)]=some (.agg [.i64 0,.v (.int .u64 0)]):=rfl;have a5: ∀v:Int,RF.ev (.eqv [.i,.i]) [.agg [hiL v,loL v],.agg [.i64 0,.v (.int .u64 0)]]=some (.bool (decide (v=0))):=fun v=>by
  have:RF.ev (.eqv [.i,.i]) [.agg [hiL v,loL v],.agg [.i64 0,.v (.int .u64 0)]]=some (.bool (decide (v/18446744073709551616=0)&&(decide (v% 18446744073709551616=0)&& true))):=rfl;rw[this]
  congr 3
  rw[Bool.eq_iff_iff];simp only[Bool.and_true,Bool.and_eq_true,decide_eq_true_eq];omega
 have a6: ∀x y:Int,RF.ev (.bs 2 [KP.z] [0,1]) [.i64 x,.i64 y]=some (.sl [[.i64 x],[.i64 y]]):=fun x y=>rfl;have a7: ∀x y:Int,RF.ev .sub [.sl [[.i64 x],[.i64 y]],.v (.int .i64 0),.v (.int .i64 2)]=some (.sl [[.i64 x],[.i64 y]]):=fun x y=>rfl;refine ans_of FV NR rfl ⟨1,?_⟩;unfold vZ;simp only[den_lt,shapeP,shapeR,cellP0,cellP1,cellP2,cellR0,cellR1,a1,a2,a3,a4,a5,a6,a7,EV,i2,i4,h1,Bool.not_eq_true',decide_eq_false_iff_not,decide_eq_true_eq,Ie,phi (Ib _ _),phi (sj _ _),phi (orr _ _)];unfold sn;by_cases hz:far t p q=0
 ·rw[if_neg (by simp[hz]),if_pos hz]
 ·rw[if_pos hz,if_neg hz];unfold sgn;by_cases hn:far t p q<0
  ·rw[if_pos hn,if_pos hn]
  ·rw[if_neg hn,if_neg hn,if_pos (by omega)]
def bS (p q:Pt)(t:Rt):Int:=if(p.ok&&(q.ok&& rok t))=true then(if p.id=q.id then 2 else 0) else 8
theorem Bb {p q:Pt}{t:Rt}(ht:In64 t):Ans D 328 [PP p,PP q,R t] [.i64 (bS p q t)]:=by
 refine ans_of FU NQ rfl ⟨1,?_⟩;unfold vY bS;simp only[den_lt,shapeP,shapeR,cellP0,mm2,EV,phi (H9 _),phi (c43 ht),rC,Bool.and_assoc,dz,decide_eq_true_eq];cases(p.ok&&(q.ok&& rok t)) with
 |false=>rfl
 |true=>
  simp only[if_true];by_cases h:p.id=q.id
  ·rw[if_pos h,if_pos h]
  ·rw[if_neg h,if_neg h]
theorem kG {p q:Pt}{t:Rt}(h:bS p q t=0):p.ok=true∧q.ok=true∧rok t=true∧p.id≠q.id:=by
 unfold bS at h;split at h
 ·rename_i h1;simp only[Bool.and_eq_true] at h1;split at h
  ·cases h
  ·rename_i h2;exact⟨h1.1,h1.2.1,h1.2.2,h2⟩
 ·cases h
theorem cD {p q:Pt}{t:Rt}(h1:p.ok=true)(h2:q.ok=true)(h3:rok t=true)(h4:p.id≠q.id):bS p q t=0:=by
 unfold bS;rw[h1,h2,h3];simp[h4]
theorem so {p q:Pt}{t:Rt}(ht:In64 t):Ans D 249 [PP p,PP q,R t] (if bS p q t=0 then [.bool (leads t p q),.i64 0] else [.bool false,.i64 (bS p q t)]):=by
 refine ans_of Fc M9 rfl ⟨1,?_⟩;unfold vb;simp only[den_lt,shapeP,shapeR,EV,phi (Bb ht),Bool.not_eq_true',decide_eq_false_iff_not];by_cases h:bS p q t=0
 ·obtain⟨h1,h2,_,_⟩:=kG h;rw[if_neg (by simp[h]),if_pos h];simp only[EV,phi (If h1 h2 ht),mX]
 ·rw[if_pos h,if_neg h]
def mkR (n d:Int):Rt:=⟨(if(decide (n<0) !=decide (d<0))=true then-((n.natAbs/Nat.gcd n.natAbs d.natAbs:Nat):Int) else((n.natAbs/Nat.gcd n.natAbs d.natAbs:Nat):Int)),((d.natAbs/Nat.gcd n.natAbs d.natAbs:Nat):Int)⟩
def Sm (n:Int):Prop:= -4194304≤n∧n≤4194304
theorem quoU {a b:Nat}(hb:0<b)(ha:a<18446744073709551616):RF.ev (.bin .quo) [U a,U b]=some (U (a/b)):=by
 show intB .quo .u64 (a:Int) .u64 (b:Int)=_
 have:a/b≤a:=Nat.div_le_self a b;rw[xp,if_neg (by omega),Int.tdiv_eq_ediv_of_nonneg (by omega),←Int.natCast_ediv,wu (by omega)];rfl
def WB (n:Bool)(h l:Nat):PV:= .agg [.bool n,U h,U l]
theorem aggB (n:Bool)(h l:Nat):RF.ev .agg [.bool n,U h,U l]=some (WB n h l):=rfl
theorem Ig (n:Bool)(h l:Nat):RF.ev (.shape 3) [WB n h l]=some (WB n h l):=rfl
theorem cB0 (n:Bool)(h l:Nat):RF.ev (.cell 0) [WB n h l]=some (.bool n):=rfl
theorem cB1 (n:Bool)(h l:Nat):RF.ev (.cell 1) [WB n h l]=some (.v (.int .u64 (h:Int))):=rfl
theorem cB2 (n:Bool)(h l:Nat):RF.ev (.cell 2) [WB n h l]=some (.v (.int .u64 (l:Int))):=rfl
theorem aggR (a b:Int):RF.ev .agg [.i64 a,.i64 b]=some (R ⟨a,b⟩):=rfl
theorem flatRt (r:Rt):RF.ev .flat [R r]=some (R r):=rfl
theorem partR (r:Rt):RF.ev (.part 0 2) [R r]=some (R r):=rfl
theorem U0:PV.v (.int .u64 0)=U 0:=rfl
theorem c424 {n:Bool}{a b:Nat}(ha:a≤4194304)(hb:b≤4194304):Ans D 424 [WB n 0 a,U 0,U b] [R ⟨if n=true then-(a:Int) else a,b⟩,.i64 0]:=by
 refine ans_of Gp Oi rfl ⟨1,?_⟩;have e:RF.ev (.bin .gtr) [U 0,U 0]=some (.bool false):=rfl;have e2:RF.ev (.bin .gtr) [U b,.v (.int .u64 9223372036854775807)]=some (.bool (decide ((9223372036854775807:Int)<b))):=rfl;unfold wJ;simp only[den_lt,Ig,cB0,U0,cB1,cB2,aggR,flatRt,e,e2,sm,EV,decide_eq_true_eq,AD,Int.natCast_zero,Int.reduceLT,decide_false,Bool.false_eq_true,if_false,ah (show-9223372036854775808≤(a:Int) by omega) (by omega),ah (show-9223372036854775808≤(b:Int) by omega) (by omega),ah (show-9223372036854775808≤0-(a:Int) by omega) (by omega)]
 rw[if_neg (by omega),if_neg (by omega)];cases n
 ·rfl
 ·simp only[if_true];rw[show(0:Int)-a= -a by omega]
theorem I64m {n:Int}(h:Sm n):I64 n:=by obtain⟨h1,h2⟩:=h;exact⟨by omega,by omega⟩
theorem c416 {n d:Int}(hn:Sm n)(hd:Sm d)(h0:d≠0):Ans D 416 [.i64 n,.i64 d] [R (mkR n d),.i64 0]:=by
 obtain⟨n1,n2⟩:=hn;obtain⟨d1,d2⟩:=hd;have hg:0<Nat.gcd n.natAbs d.natAbs:=Nat.gcd_pos_of_pos_right _ (by omega);have l1:n.natAbs/Nat.gcd n.natAbs d.natAbs≤n.natAbs:=Nat.div_le_self ..;have l2:d.natAbs/Nat.gcd n.natAbs d.natAbs≤d.natAbs:=Nat.div_le_self ..;have hc:=phi (H7 n.natAbs d.natAbs);rw[Nat.gcd_comm] at hc;refine ans_of k416_ok s416 rfl ⟨1,?_⟩;unfold k416;simp only[den_lt,quoU hg (show n.natAbs<18446744073709551616 by omega),quoU hg (show d.natAbs<18446744073709551616 by omega),U0,aggB,shapeR,flatRt,EV,phi (c116 (I64m ⟨n1,n2⟩)),phi (c116 (I64m ⟨d1,d2⟩)),hc,phi (c424 (show n.natAbs/Nat.gcd n.natAbs d.natAbs≤4194304 by omega) (show d.natAbs/Nat.gcd n.natAbs d.natAbs≤4194304 by omega)),decide_eq_true_eq]
 rw[if_neg h0];rfl
theorem Ox {p q:Pt}(hp:p.ok=true)(hq:q.ok=true)(hi:p.id≠q.id)(hb:p.b≠q.b):Ans D 388 [PP p,PP q] [R (mkR (p.a-q.a) (q.b-p.b)),.i64 0]:=by
 have bp:=Pt.bnd hp;have bq:=Pt.bnd hq;have ht:In64 ⟨0,1⟩:=⟨⟨by decide,by decide⟩,⟨by decide,by decide⟩⟩;have i2:=(gf bp.2.1 bq.2.1).2;have i4:=(gf bq.2.2 bp.2.2).2;have h1:=phi (Bb (p:=p) (q:=q) ht);rw[cD hp hq (by decide) hi] at h1;refine ans_of k388_ok s388 rfl ⟨1,?_⟩;unfold k388;simp only[den_lt,shapeP,shapeR,cellP0,cellP1,cellP2,aggR,flatRt,EV,h1,i2,i4,decide_true,Bool.not_true,Bool.false_eq_true,if_false,decide_eq_true_eq,phi (c416 (n:=p.a-q.a) (d:=q.b-p.b) ⟨by omega,by omega⟩ ⟨by omega,by omega⟩ (by omega))];rw[if_neg (by omega)]
def failT (t:Rt)(hi lo:Pt):Rt×Bool:=if leads t lo hi=true then(t,true) else if hi.b<lo.b then(mkR (hi.a-lo.a) (lo.b-hi.b),true) else(⟨0,0⟩,false)
theorem Ih {p q:Pt}{t:Rt}(ht:In64 t):Ans D 327 [PP p,PP q,R t] (if bS p q t=0 then [R (failT t p q).1,.bool (failT t p q).2,.i64 0] else [R ⟨0,0⟩,.bool false,.i64 (bS p q t)]):=by
 refine ans_of FS NO rfl ⟨1,?_⟩;unfold vX;simp only[den_lt,shapeP,shapeR,cellP2,aggR,flatRt,EV,phi (Bb ht),Bool.not_eq_true',decide_eq_false_iff_not];by_cases h:bS p q t=0
 ·obtain⟨h1,h2,_,h3⟩:=kG h;rw[if_neg (by simp[h]),if_pos h];simp only[den_lt,shapeR,flatRt,cellP2,aggR,EV,phi (If h2 h1 ht),mX,decide_eq_true_eq];unfold failT;cases leads t q p with
  |true=>rfl
  |false=>
   simp only[Bool.false_eq_true,if_false];by_cases hb:q.b≤p.b
   ·rw[if_pos hb,if_neg (by omega)]
   ·rw[if_neg hb,if_pos (by omega)];simp only[den_lt,shapeR,flatRt,EV,phi (Ox h1 h2 h3 (by omega)),decide_true]
 ·rw[if_pos h,if_neg h]
theorem CF (n:Bool)(a b:Int):RF.ev .agg [.bool n,.v (.int .u64 a),.v (.int .u64 b)]=some (.agg [.bool n,.v (.int .u64 a),.v (.int .u64 b)]):=rfl
theorem mkW {n:Bool}{h l:Int}{m:Nat}(h1:h=((m/18446744073709551616:Nat):Int))(h2:l=((m% 18446744073709551616:Nat):Int)):PV.agg [.bool n,.v (.int .u64 h),.v (.int .u64 l)]=W n m:=by rw[h1,h2];rfl
theorem Ii {n k:Bool}{a b:Nat}(ha:a<170141183460469231731687303715884105728)(h:b≤a):Ans D 423 [W n a,W k b] [W false (a-b)]:=by
 refine ans_of Gn Oh rfl ⟨1,?_⟩;unfold wI;simp only[den_lt,dA,dV,dW,EV,decide_eq_true_eq,AC,CF,bW];by_cases c:((a% 18446744073709551616:Nat):Int)<((b% 18446744073709551616:Nat):Int)
 ·rw[if_pos c,mkW (m:=a-b) (by omega) (by omega)]
 ·rw[if_neg c,mkW (m:=a-b) (by omega) (by omega)]
theorem Oy {n k:Bool}{a b:Nat}(ha:a<85070591730234615865843651857942052865)(hb:b<85070591730234615865843651857942052865): ∃s m,Ans D 414 [W n a,W k b] [W s m]∧bigV s m=bigV n a+bigV k b:=by
 have l1:a% 18446744073709551616<18446744073709551616:=by omega
 by_cases hs:n=k
 ·subst hs;refine⟨n,a+b,?_,by unfold bigV;split<;>omega⟩;refine ans_of kE A8 rfl ⟨1,?_⟩;unfold kV;simp only[den_lt,dA,gc,dV,dW,EV,decide_eq_true_eq,Az,CF,bW,beq_self_eq_true,if_true];by_cases c:(((a% 18446744073709551616:Nat):Int)+((b% 18446744073709551616:Nat):Int))% 18446744073709551616<((a% 18446744073709551616:Nat):Int)
  ·rw[if_pos c,mkW (m:=a+b) (by omega) (by omega)]
  ·rw[if_neg c,mkW (m:=a+b) (by omega) (by omega)]
 ·have hbe:(n==k)=false:=by cases n<;>cases k<;>simp_all
  by_cases hle:b≤a
  ·refine⟨n&& decide (0<a-b),a-b,?_,by unfold bigV;cases n<;>cases k<;>simp_all<;>(repeat' split)<;>omega⟩
   have g:sgn ((a:Int)-b)≥0:=by unfold sgn;repeat' split;all_goals omega
   refine ans_of kE A8 rfl ⟨1,?_⟩;unfold kV;simp only[den_lt,dA,gc,dV,dW,EV,decide_eq_true_eq,hbe,Bool.false_eq_true,if_false,phi (Ba _ _),phi (Ii (n:=n) (k:=k) (show a<170141183460469231731687303715884105728 by omega) hle)]
   rw[if_pos g];have fin: ∀(v:Bool) (es:List PV),den (PhiS D) 1 eT [] (.bool v::es)=den (PhiS D) 1 eT [] (.bool v::es):=fun _ _=>rfl;cases n with
   |false=>
    simp only[Bool.false_eq_true,if_false,den_lt,ji,mT,jk,eT,EV,Bool.false_and]
   |true=>
    simp only[if_true,den_lt,dV,dW,EV,decide_eq_true_eq,Bool.true_and];by_cases c:(0:Int)<((((a-b)/18446744073709551616:Nat):Int))
    ·rw[if_pos c,decide_eq_true (show 0<a-b by omega)]
     simp only[den_lt,ji,mT,jk,eT,EV]
    ·rw[if_neg c];simp only[den_lt,ji,mT,jk,eT,EV];rw[show decide ((0:Int)<(((a-b)% 18446744073709551616:Nat):Int))=decide (0<a-b) from decide_eq_decide.2 (by omega)]
  ·refine⟨k,b-a,?_,by unfold bigV;cases n<;>cases k<;>simp_all<;>omega⟩;have g:¬sgn ((a:Int)-b)≥0:=by unfold sgn;rw[if_pos (by omega)];decide
   refine ans_of kE A8 rfl ⟨1,?_⟩;unfold kV;simp only[den_lt,dA,gc,dV,dW,EV,decide_eq_true_eq,hbe,Bool.false_eq_true,if_false,phi (Ba _ _),phi (Ii (n:=k) (k:=n) (a:=b) (b:=a) (show b<170141183460469231731687303715884105728 by omega) (by omega))]
   rw[if_neg g];simp only[den_lt,ji,mT,jk,gc,EV]
theorem Oz {p q:Pt}{t:Rt}(hp:p.ok=true)(hq:q.ok=true)(ht:In64 t):Ans D 384 [PP p,PP q,R t] [.i64 (sgn (far t p q))]:=by
 have bp:=Pt.bnd hp;have bq:=Pt.bnd hq;obtain⟨i1,i2⟩:=gf bp.2.1 bq.2.1;obtain⟨i3,i4⟩:=gf bp.2.2 bq.2.2;obtain⟨s,m,h1,h2⟩:=Oy (n:=kF (p.a-q.a) t.den) (k:=kF (p.b-q.b) t.num) (Nat.lt_succ_of_le (xF i1 ht.2)) (Nat.lt_succ_of_le (xF i3 ht.1));rw[dX,dX] at h2;refine ans_of k384_ok s384 rfl ⟨1,?_⟩;unfold k384;simp only[den_lt,shapeP,shapeR,cellP1,cellP2,cellR0,cellR1,EV,i2,i4,phi (c304 i1 ht.2),phi (c304 i3 ht.1),phi h1,phi (c305 _ _)];rw[h2];rfl
theorem mY {n:Int}:sgn n=0↔n=0:=by unfold sgn;repeat' split;all_goals omega
theorem Gx {n:Int}:0<sgn n↔0<n:=by unfold sgn;repeat' split;all_goals omega
theorem c323 {p q:Pt}{t:Rt}(hp:p.ok=true)(hq:q.ok=true)(ht:In64 t):Ans D 323 [PP p,PP q,R t] [.bool (leads t p q)]:=by
 refine ans_of FN NK rfl ⟨1,?_⟩;unfold vT leads;simp only[den_lt,shapeP,shapeR,cellP0,cellP2,EV,phi (Oz hp hq ht),decide_eq_true_eq,Bool.not_eq_true',decide_eq_false_iff_not,mY,Gx];by_cases h:far t p q=0
 ·simp only[h,not_true_eq_false,if_false,ne_eq];by_cases k:p.b=q.b
  ·simp only[k,not_true_eq_false,if_false]
  ·simp only[k,not_false_eq_true,if_true]
 ·simp only[h,not_false_eq_true,if_true,ne_eq]
theorem OA {n:Bool}{a b:Nat}(ha:a≤4194304)(hb:b≤4194304):Ans D 425 [.bool n,WB false 0 a,WB false 0 b] [R ⟨if n=true then-(a:Int) else a,b⟩,.i64 0]:=by
 refine ans_of Gq Oj rfl ⟨1,?_⟩;unfold wK;simp only[den_lt,Ig,cB0,cB1,cB2,aggR,flatRt,EV,decide_eq_true_eq,Int.natCast_zero,Int.reduceLT,decide_false,Bool.false_eq_true,if_false,ah (show-9223372036854775808≤(a:Int) by omega) (by omega),ah (show-9223372036854775808≤(b:Int) by omega) (by omega),ah (show-9223372036854775808≤0-(a:Int) by omega) (by omega)]
 rw[if_neg (by omega),if_neg (by omega)];cases n
 ·rfl
 ·simp only[if_true];rw[show(0:Int)-a= -a by omega]
theorem OB {n d:Int}(hn:Sm n)(hd:Sm d)(h0:d≠0):Ans D 419 [.i64 n,.i64 d] [R (mkR n d),.i64 0]:=by
 obtain⟨n1,n2⟩:=hn;obtain⟨d1,d2⟩:=hd;have hg:0<Nat.gcd n.natAbs d.natAbs:=Nat.gcd_pos_of_pos_right _ (by omega);have l1:n.natAbs/Nat.gcd n.natAbs d.natAbs≤n.natAbs:=Nat.div_le_self ..;have l2:d.natAbs/Nat.gcd n.natAbs d.natAbs≤d.natAbs:=Nat.div_le_self ..;have hc:=phi (H8 n.natAbs d.natAbs);rw[Nat.gcd_comm] at hc;have hm:=fun s=>phi (OA (n:=s) (show n.natAbs/Nat.gcd n.natAbs d.natAbs≤4194304 by omega) (show d.natAbs/Nat.gcd n.natAbs d.natAbs≤4194304 by omega))
 refine ans_of Gl Of rfl ⟨1,?_⟩;unfold wG;simp only[den_lt,quoU hg (show n.natAbs<18446744073709551616 by omega),quoU hg (show d.natAbs<18446744073709551616 by omega),U0,aggB,shapeR,cellR0,cellR1,aggR,flatRt,AB,EV,phi (mR (I64m ⟨n1,n2⟩)),phi (mR (I64m ⟨d1,d2⟩)),hc,hm,decide_eq_true_eq]
 rw[if_neg h0];unfold mkR;by_cases hs:(decide (n<0) !=decide (d<0))=true
 ·rw[if_pos (show(!(decide (n<0)==decide (d<0)))=true from hs),if_pos hs]
  by_cases hz:n=0
  ·subst hz;simp
  ·simp[hz]
 ·rw[if_neg (show¬(!(decide (n<0)==decide (d<0)))=true from hs),if_neg hs]
  simp
theorem OC {p q:Pt}(hp:p.ok=true)(hq:q.ok=true)(hb:p.b≠q.b):Ans D 396 [PP p,PP q] [R (mkR (p.a-q.a) (q.b-p.b))]:=by
 have bp:=Pt.bnd hp;have bq:=Pt.bnd hq;have i2:=(gf bp.2.1 bq.2.1).2;have i4:=(gf bq.2.2 bp.2.2).2;refine ans_of Gg Oa rfl ⟨1,?_⟩;unfold wB;simp only[den_lt,shapeP,shapeR,cellP1,cellP2,flatRt,EV,i2,i4,phi (OB (n:=p.a-q.a) (d:=q.b-p.b) ⟨by omega,by omega⟩ ⟨by omega,by omega⟩ (by omega))]
theorem c348 {p q:Pt}{t:Rt}(hp:p.ok=true)(hq:q.ok=true)(ht:In64 t):Ans D 348 [PP p,PP q,R t] [R (failT t p q).1,.bool (failT t p q).2]:=by
 refine ans_of F0 NW rfl ⟨1,?_⟩;unfold wb failT;simp only[den_lt,shapeP,shapeR,cellP2,aggR,flatRt,EV,phi (c323 hq hp ht),decide_eq_true_eq];cases leads t q p with
 |true=>rfl
 |false=>
  simp only[Bool.false_eq_true,if_false];by_cases hb:p.b<q.b
  ·rw[if_pos hb,if_pos hb];simp only[den_lt,shapeR,flatRt,EV,phi (OC hp hq (show p.b≠q.b by omega))]
  ·rw[if_neg hb,if_neg hb]
abbrev sl {α:Type}(f:α→List PV)(l:List α):PV:= .sl (l.map f)
def F (l:List Pt):PV:= .agg [sl row l]
theorem shapeF (l:List Pt):RF.ev (.shape 1) [F l]=some (F l):=rfl
theorem cellF (l:List Pt):RF.ev (.cell 0) [F l]=some (sl row l):=rfl
theorem rowP (p:Pt):rowPart 0 3 (row p)=some (PP p):=rfl
theorem cM (p:Pt):rowPart 0 0 (row p)=some (.i64 p.id):=rfl
theorem row_len (p:Pt):(row p).length=3:=rfl
def I1 (n:Int):List PV:=[.i64 n]
theorem rowI (n:Int):rowPart 0 0 (I1 n)=some (.i64 n):=rfl
def B1 (b:Bool):List PV:=[.bool b]
theorem fq (b:Bool):rowPart 0 0 (B1 b)=some (.bool b):=rfl
def gU (l:List Pt):Bool:=l.all Pt.ok
def bh (l:List Pt):Prop:= ∀(i:Nat) (p q:Pt),l[i]?=some p→l[i+1]?=some q→p.id<q.id
open Classical in
def aZ (l:List Pt):Int:=if 64<l.length then 4 else if gU l=true then(if bh l then 0 else 32) else 8
theorem okE_eq {b:Bool}:okE b=0↔b=true:=by cases b<;>simp[okE]
theorem bf {b:Bool}{α:Type}{x y:α}:(if¬okE b=0 then x else y)=if b=true then y else x:=by cases b<;>rfl
open Classical in
theorem c231 (l:List Pt):Ans D 231 [F l] [.i64 (aZ l)]:=by
 refine ans_of EY MX rfl ⟨65,?_⟩;unfold uQ aZ;simp only[den_lt,shapeF,cellF,EV,List.length_map,decide_eq_true_eq];by_cases h:64<l.length
 ·rw[if_pos (by omega),if_pos h]
 ·rw[if_neg (by omega),if_neg h];refine(run_list (l:=l) (p:=Pt.ok) (st:=fun i=>[.i64 (i:Int)]) (r:=some [.i64 8]) (fin:=some [.i64 (if bh l then 0 else 32)]) (fun i p self hp _=>?_) (fun hg self=>?_) (by omega)).trans ?_
  ·unfold ph;simp only[den_lt,shapeF,cellF,tixM hp (row_len p),eltM hp,rowP,EV,decide_eq_true_eq,if_lt (get_lt hp),up1 (show i<1000000000 by have:=get_lt hp;omega),phi (H9 _),dz]
   cases p.ok<;>rfl
  ·unfold ph;simp only[EV,decide_eq_true_eq,if_ge,zE,cellF,den_lt,List.length_map];refine(run_if (n:=l.length) (P:=fun i=> ∀p q,l[i]?=some q→(0<i→l[i-1]?=some p→p.id<q.id)) (st:=fun i=>[.i64 (i:Int)]) (r:=some [.i64 32]) (fin:=some [.i64 0]) (fun i self hi _=>?_) (fun _ self=>?_) (by omega)).trans ?_
   ·obtain⟨q,hq⟩: ∃q,l[i]?=some q:=⟨l[i],List.getElem?_eq_getElem _⟩;unfold pg;simp only[den_lt,cellF,tixM hq (row_len q),eltM hq,rowP,EV,decide_eq_true_eq,if_lt hi];cases i with
    |zero=>
     rw[if_neg (by omega),if_pos (fun p q _ h=>by omega)];unfold pf;simp only[EV,Bool.false_eq_true,if_false]
     try rfl
    |succ j=>
     obtain⟨p,hp⟩: ∃p,l[j]?=some p:=⟨l[j],List.getElem?_eq_getElem _⟩;rw[if_pos (by omega)];simp only[den_lt,cellF,cellP0,fk (show j<1000000000 by omega),tixM hp (row_len p),eltM hp,cM,EV]
     unfold pf;simp only[EV,decide_eq_true_eq,up1 (show j+1<1000000000 by omega)]
     by_cases hc:q.id≤p.id
     ·rw[if_pos hc,if_neg (fun h=>by have:=h p q hq (by omega) (by simpa using hp);omega)]
     ·rw[if_neg hc,if_pos (fun p' q' h1 _ h2=>by
       rw[hq] at h1;cases h1;rw[show j+1-1=j by omega,hp] at h2;cases h2
       omega)]
   ·unfold pg;simp only[EV,decide_eq_true_eq,if_ge,zD]
   ·have:(∀j,j<l.length→ ∀p q,l[j]?=some q→(0<j→l[j-1]?=some p→p.id<q.id))↔bh l:=by
     constructor
     ·intro h i p q hp hq;exact h (i+1) (get_lt hq) p q hq (by omega) (by simpa using hp)
     ·intro h j hj p q hq h0 hp;exact h (j-1) p q hp (by rw[show j-1+1=j by omega];exact hq)
    by_cases hr:bh l
    ·rw[if_pos (this.2 hr),if_pos hr]
    ·rw[if_neg (fun h=>hr (this.1 h)),if_neg hr]
  ·unfold gU;cases l.all Pt.ok<;>rfl
open Classical in
theorem db (l:List Pt):Ans D 143 [F l] [.i64 (aZ l)]:=by
 refine ans_of D9 Ma rfl ⟨65,?_⟩;unfold tP aZ;simp only[den_lt,shapeF,cellF,EV,List.length_map,decide_eq_true_eq];by_cases h:64<l.length
 ·rw[if_pos (by omega),if_pos h]
 ·rw[if_neg (by omega),if_neg h];refine(run_list (l:=l) (p:=Pt.ok) (st:=fun i=>[.i64 (i:Int)]) (r:=some [.i64 8]) (fin:=some [.i64 (if bh l then 0 else 32)]) (fun i p self hp _=>?_) (fun hg self=>?_) (by omega)).trans ?_
  ·unfold ot;simp only[den_lt,cellF,tixM hp (row_len p),eltM hp,rowP,EV,List.length_map,decide_eq_true_eq,if_lt (get_lt hp),up1 (show i<1000000000 by have:=get_lt hp;omega),phi (Ok _),dz]
  ·unfold ot;simp only[den_lt,cellF,EV,List.length_map,decide_eq_true_eq,if_ge,yF];refine(run_if (n:=l.length-1) (P:=fun i=> ∀p q,l[i]?=some p→l[i+1]?=some q→p.id<q.id) (st:=fun i=>[.i64 ((i+1:Nat):Int)]) (r:=some [.i64 32]) (fin:=some [.i64 0]) (fun i self hi _=>?_) (fun _ self=>?_) (by omega)).trans ?_
   ·obtain⟨p,hp⟩: ∃p,l[i]?=some p:=⟨l[i],List.getElem?_eq_getElem _⟩;obtain⟨q,hq⟩: ∃q,l[i+1]?=some q:=⟨l[i+1],List.getElem?_eq_getElem _⟩;unfold oq;simp only[den_lt,cellF,fk (show i<1000000000 by omega),tixM hp (row_len p),eltM hp,tixM hq (row_len q),eltM hq,cM,EV,List.length_map,decide_eq_true_eq,if_lt (get_lt hq),up1 (show i+1<1000000000 by omega)]
    by_cases hc:q.id≤p.id
    ·rw[if_pos hc,if_neg (fun h=>by have:=h p q hp hq;omega)]
    ·rw[if_neg hc,if_pos (fun p' q' h1 h2=>by
      rw[hp] at h1;cases h1;rw[hq] at h2;cases h2;omega)]
   ·unfold oq;simp only[den_lt,cellF,EV,List.length_map,decide_eq_true_eq,yE];rw[if_neg (by omega)]
   ·have:(∀j,j<l.length-1→ ∀p q,l[j]?=some p→l[j+1]?=some q→p.id<q.id)↔bh l:=
     ⟨fun h i p q hp hq=>h i (by have:=get_lt hq;omega) p q hp hq,fun h j _ p q hp hq=>h j p q hp hq⟩
    by_cases hr:bh l
    ·rw[if_pos (this.2 hr),if_pos hr]
    ·rw[if_neg (fun h=>hr (this.1 h)),if_neg hr]
  ·unfold gU;cases l.all Pt.ok<;>rfl
def pos (l:List Pt)(id:Int):Int:=cL (fun p=>decide (p.id=id)) l
theorem mf {o:Option Nat}:o.elim (some [PV.i64 (-1)]) (fun i=>some [.i64 (i:Int)])=some [.i64 (o.elim (-1) fun i=>(i:Int))]:=by cases o<;>rfl
theorem lenI (n:Int):(I1 n).length=1:=rfl
theorem eG (b:Bool):(B1 b).length=1:=rfl
theorem dG {l:List Pt}(hl:l.length≤1000)(id:Int):Ans D 168 [F l,.i64 id] [.i64 (pos l id)]:=by
 refine ans_of Er Mq rfl ⟨1001,?_⟩;unfold ui;simp only[den_lt,shapeF,EV];refine(da (l:=l) (p:=fun p=>decide (p.id=id)) (st:=fun i=>[.i64 (i:Int)]) (ret:=fun i=>some [.i64 (i:Int)]) (fin:=some [.i64 (-1)]) (fun i p self hp=>?_) (fun self=>?_) (by omega)).trans mf
 ·unfold oI;simp only[den_lt,cellF,tixM hp (row_len p),eltM hp,cM,EV,List.length_map,decide_eq_true_eq,if_lt (get_lt hp),up1 (show i<1000000000 by have:=get_lt hp;omega)]
 ·unfold oI;simp only[den_lt,cellF,EV,List.length_map,decide_eq_true_eq,if_ge,yR]
theorem OD {α:Type}[DecidableEq α]{l k:List α}(h:l.length=k.length):(l.zip k).all (fun p=>decide (p.1=p.2))=decide (l=k):=by
 induction l generalizing k with
 |nil=>cases k with
  |nil=>rfl
  |cons=>simp at h
 |cons a l ih=>cases k with
  |nil=>simp at h
  |cons b k=>
   rw[List.zip_cons_cons,List.all_cons,ih (by simpa using h)]
   by_cases e:a=b
   ·subst e;simp
   ·simp[e]
theorem aL {α β:Type}{l:List α}{k:List β}{i:Nat}{x:α×β}(h:(l.zip k)[i]?=some x):l[i]?=some x.1∧k[i]?=some x.2:=by
 rw[List.getElem?_zip_eq_some] at h;exact h
theorem an {α β:Type}{l:List α}{k:List β}(h:l.length=k.length):(l.zip k).length=l.length:=by rw[List.length_zip];omega
theorem dq {α:Type}[DecidableEq α]{l k:List α}{x:Option (List PV)}(h:l.length=k.length)(hx:x=if(l.zip k).all (fun p=>decide (p.1=p.2))=true then some [.bool true] else some [.bool false]):x=some [.bool (decide (l=k))]:=by
 rw[hx,OD h];cases decide (l=k)<;>rfl
theorem Ij (p q:Pt):RF.ev (.eqv [.i,.i,.i]) [PP p,PP q]=some (.bool (decide (p=q))):=by
 obtain⟨a,b,c⟩:=p;obtain⟨x,y,z⟩:=q;have:RF.ev (.eqv [.i,.i,.i]) [PP ⟨a,b,c⟩,PP ⟨x,y,z⟩]=some (.bool (decide (a=x)&&(decide (b=y)&&(decide (c=z)&& true)))):=rfl;rw[this]
 congr 2
 simp[Pt.mk.injEq,Bool.decide_and]
theorem c28 {l k:List Pt}(hl:l.length≤1000):Ans D 28 [F l,F k] [.bool (decide (l=k))]:=by
 refine ans_of Hz s28 rfl ⟨1001,?_⟩;unfold k28;simp only[den_lt,shapeF,cellF,EV,List.length_map,Bool.not_eq_true',decide_eq_false_iff_not];by_cases h:l.length=k.length
 ·rw[if_neg (by omega)];refine dq h (run_list (l:=l.zip k) (st:=fun i=>[.i64 (i:Int)]) (fun i x self hx _=>?_) (fun _ self=>?_) (by rw[an h];omega))
  ·obtain⟨hp,hq⟩:=aL hx;unfold te;simp only[den_lt,cellF,tixM hp (row_len _),eltM hp,tixM hq (row_len _),eltM hq,rowP,Ij,EV,List.length_map,decide_eq_true_eq,Bool.not_eq_true',decide_eq_false_iff_not,if_lt (get_lt hp),up1 (show i<1000000000 by have:=get_lt hp;omega)]
   by_cases e:x.1=x.2<;>simp[e]
  ·rw[an h];unfold te;simp only[den_lt,cellF,EV,List.length_map,decide_eq_true_eq,if_ge,De]
 ·rw[if_pos (by omega),decide_eq_false (fun e=>h (by rw[e]))]
theorem Ik {l k:List Int}(hl:l.length≤1000): ∃N,den (PhiS D) N k135 [] [sl I1 l,sl I1 k]=some [.bool (decide (l=k))]:=by
 refine⟨1001,?_⟩;unfold k135;simp only[EV,List.length_map,Bool.not_eq_true',decide_eq_false_iff_not];by_cases h:l.length=k.length
 ·rw[if_neg (by omega)];refine dq h (run_list (l:=l.zip k) (st:=fun i=>[.i64 (i:Int)]) (fun i x self hx _=>?_) (fun _ self=>?_) (by rw[an h];omega))
  ·obtain⟨hp,hq⟩:=aL hx;unfold oh;simp only[tixM hp (lenI _),eltM hp,tixM hq (lenI _),eltM hq,rowI,EV,List.length_map,decide_eq_true_eq,Bool.not_eq_true',decide_eq_false_iff_not,if_lt (get_lt hp),up1 (show i<1000000000 by have:=get_lt hp;omega)]
   by_cases e:x.1=x.2<;>simp[e]
  ·rw[an h];unfold oh;simp only[EV,List.length_map,decide_eq_true_eq,if_ge,yr]
 ·rw[if_pos (by omega),decide_eq_false (fun e=>h (by rw[e]))]
theorem sq {l k:List Int}(hl:l.length≤1000):Ans D 135 [sl I1 l,sl I1 k] [.bool (decide (l=k))]:=ans_of D3 L4 rfl (Ik hl)
theorem c313 {l k:List Int}(hl:l.length≤1000):Ans D 313 [sl I1 l,sl I1 k] [.bool (decide (l=k))]:=ans_of FH NE rfl (Ik hl)
theorem OE {l k:List Bool}(hl:l.length≤1000):Ans D 376 [sl B1 l,sl B1 k] [.bool (decide (l=k))]:=by
 refine ans_of F9 N4 rfl ⟨1001,?_⟩;unfold wq;simp only[EV,List.length_map,Bool.not_eq_true',decide_eq_false_iff_not];by_cases h:l.length=k.length
 ·rw[if_neg (by omega)];refine dq h (run_list (l:=l.zip k) (st:=fun i=>[.i64 (i:Int)]) (fun i x self hx _=>?_) (fun _ self=>?_) (by rw[an h];omega))
  ·obtain⟨hp,hq⟩:=aL hx;unfold qe;simp only[tixM hp (eG _),eltM hp,tixM hq (eG _),eltM hq,fq,EV,List.length_map,decide_eq_true_eq,if_lt (get_lt hp),up1 (show i<1000000000 by have:=get_lt hp;omega)]
   obtain⟨a,b⟩:=x;cases a<;>cases b<;>rfl
  ·rw[an h];unfold qe;simp only[EV,List.length_map,decide_eq_true_eq,if_ge,At]
 ·rw[if_pos (by omega),decide_eq_false (fun e=>h (by rw[e]))]
theorem mZ {l:List Pt}(h:bh l): ∀(d i:Nat) (p q:Pt),l[i]?=some p→l[i+d+1]?=some q→p.id<q.id
 |0,i,p,q,hp,hq=>h i p q hp hq
 |d+1,i,p,q,hp,hq=>by
  obtain⟨m,hm⟩: ∃m,l[i+d+1]?=some m:=⟨l[i+d+1]'(by have:=get_lt hq;omega),List.getElem?_eq_getElem _⟩;have h1:=mZ h d i p m hp hm;have h2:=h (i+d+1) m q hm (by rw[←hq];congr 1);omega
theorem bi {l:List Pt}(h:bh l){i j:Nat}{p q:Pt}(hij:i<j)(hp:l[i]?=some p)(hq:l[j]?=some q):p.id<q.id:=
 mZ h (j-i-1) i p q hp (by rw[show i+(j-i-1)+1=j by omega];exact hq)
theorem risen_ids {l:List Pt}(h:bh l):Ids l:=by
 unfold Ids;rw[nodup_get];intro i j x hi hj;rw[List.getElem?_map,Option.map_eq_some_iff] at hi hj;obtain⟨p,hp,rfl⟩:=hi;obtain⟨q,hq,e⟩:=hj;rcases Nat.lt_trichotomy i j with g|g|g
 ·have:=bi h g hp hq;omega
 ·exact g
 ·have:=bi h g hq hp;omega
def LB (l:List Pt)(id:Int)(m:Nat):Prop:=m≤l.length∧ ∀(k:Nat) (p:Pt),l[k]?=some p→(k<m→p.id<id)∧(m≤k→id≤p.id)
theorem OF {a b:Nat}(h:a<1000000)(k:b<1000000):intB .shr .u64 (IntKind.u64.wrap (IntKind.i64.wrap ((a:Int)+(b:Int)))) .u64 1=some (.v (.int .u64 (((a+b)/2:Nat):Int))):=by
 rw[xq,if_neg (by decide),ah (by omega) (by omega),bW,show min (1:Int).toNat IntKind.u64.bits=1 from rfl,Int.fdiv_eq_ediv_of_nonneg _ (by decide)]
 congr 3
 omega
theorem iO {N:Nat}{f:JT}{e0 e2:PV}{l:List Pt}{id:Int}(hs:bh l)(hl:l.length≤1000): ∀(m i j:Nat),j-i<m→i≤j→j≤l.length→(∀(k:Nat) (p:Pt),l[k]?=some p→(k<i→p.id<id)∧(j≤k→id≤p.id))→
  ∃P,LB l id P∧denW (PhiS D) N k271_4 [f] [e0,.i64 id,F l,sl row l,e2] m [.i64 (i:Int),.i64 (j:Int)]=f [.i64 (P:Int)]
 |0,i,j,h,_,_,_=>by omega
 |m+1,i,j,h,hij,hj,hb=>by
  rw[denW_succ];by_cases hlt:i<j
  ·obtain⟨p,hp⟩: ∃p,l[(i+j)/2]?=some p:=⟨l[(i+j)/2]'(by omega),List.getElem?_eq_getElem _⟩;have key: ∀self:JT,den (PhiS D) N k271_4 ([f]++[self]) ([e0,.i64 id,F l,sl row l,e2]++[.i64 (i:Int),.i64 (j:Int)])=if p.id<id then self [.i64 (((i+j)/2+1:Nat):Int),.i64 (j:Int)] else self [.i64 (i:Int),.i64 (((i+j)/2:Nat):Int)]:=fun self=>by
    unfold k271_4;simp only[EV,decide_eq_true_eq,if_lt hlt,OF (show i<1000000 by omega) (show j<1000000 by omega),ah (show-9223372036854775808≤(((i+j)/2:Nat):Int) by omega) (by omega),den_lt,cellF,tixM hp (row_len p),eltM hp,rowP,cellP0,phi (sj _ _),zZ,up1 (show(i+j)/2<1000000000 by omega)]
    by_cases c:p.id<id
    ·rw[if_pos c,if_pos (show sgn (p.id-id)<0 by unfold sgn;rw[if_pos (by omega)];decide)]
    ·rw[if_neg c,if_neg (show¬sgn (p.id-id)<0 by unfold sgn;rw[if_neg (by omega)];split<;>decide)]
   rw[key];by_cases c:p.id<id
   ·rw[if_pos c];refine iO hs hl m _ j (by omega) (by omega) hj fun k q hq=>⟨fun hk=>?_,(hb k q hq).2⟩;by_cases e:k=(i+j)/2
    ·subst e;rw[hp] at hq;cases hq;exact c
    ·have:=bi hs (show k<(i+j)/2 by omega) hq hp;omega
   ·rw[if_neg c];refine iO hs hl m i _ (by omega) (by omega) (by omega) fun k q hq=>⟨(hb k q hq).1,fun hk=>?_⟩;by_cases e:k=(i+j)/2
    ·subst e;rw[hp] at hq;cases hq;omega
    ·have:=bi hs (show(i+j)/2<k by omega) hp hq;omega
  ·refine⟨i,⟨by omega,fun k p hp=>⟨(hb k p hp).1,fun h=>(hb k p hp).2 (by omega)⟩⟩,?_⟩;unfold k271_4;simp only[EV,decide_eq_true_eq];rw[if_neg (by omega)]
theorem m6 {l:List Pt}{id:Int}:(∀p∈l,p.id≠id)→pos l id= -1:=fun h=>by
 unfold pos cL;rw[List.findIdx?_eq_none_iff.2 (fun p hp=>decide_eq_false (h p hp))];rfl
theorem iP {l:List Pt}(hs:bh l){i:Nat}{p:Pt}(h:l[i]?=some p):pos l p.id=i:=by
 unfold pos cL;have:l.findIdx? (fun q=>decide (q.id=p.id))=some i:=by
  rw[List.findIdx?_eq_some_iff_getElem];have hi:=get_lt h;have e:=(List.getElem?_eq_some_iff.1 h).2;refine⟨hi,by rw[e];simp,fun j hj=>?_⟩;have:=bi hs hj (List.getElem?_eq_getElem (by omega)) h;simp;omega
 rw[this];rfl
theorem pos_cases (l:List Pt)(id:Int):(pos l id= -1∧ ∀p∈l,p.id≠id)∨ ∃(i:Nat) (p:Pt),l[i]?=some p∧p.id=id∧pos l id=(i:Nat):=by
 unfold pos cL;cases h:l.findIdx? (fun q=>decide (q.id=id)) with
 |none=>
  rw[List.findIdx?_eq_none_iff] at h;exact .inl ⟨rfl,fun p hp=>of_decide_eq_false (h p hp)⟩
 |some i=>
  obtain⟨h1,h2,_⟩:=List.findIdx?_eq_some_iff_getElem.1 h;exact .inr ⟨i,l[i],List.getElem?_eq_getElem h1,of_decide_eq_true h2,rfl⟩
theorem fu {e0:PV}{l:List Pt}{id:Int}(hs:bh l)(hl:l.length≤1000): ∃P:Nat,(0≤pos l id→pos l id=P)∧ ∀(K2 K1:K) (J:List JT),K2=(.jp K1 (.lt (.bin .lss) [.x 5,.x 4] (.br (.x 6) (.lt (.cell 0) [.x 2] (.lt (.tix 3) [.x 7,.x 5] (.lt (.elt 0 3) [.x 7,.x 8] (.lt (.cell 0) [.x 9] (.call 354 [.x 10,.x 1] (.lt (.bin .eql) [.x 11,.c (.i64 0)] (.jmp 0 [.x 12]))))))) (.jmp 0 [.c (.bool false)]))))→
  denW (PhiS D) 1001 k271_4 [eO (PhiS D) 1001 K2 [] [e0,.i64 id,F l,sl row l,.i64 (l.length:Int)]] [e0,.i64 id,F l,sl row l,.i64 (l.length:Int)] 1001 [.i64 0,.i64 (l.length:Int)]=den (PhiS D) 1001 K1 [] [e0,.i64 id,F l,sl row l,.i64 (l.length:Int),.i64 (P:Int),.bool (decide (0≤pos l id))]:=by
 have hbin:=fun f:JT=>iO (N:=1001) (f:=f) (e0:=e0) (e2:= .i64 (l.length:Int)) (id:=id) hs hl 1001 0 l.length (by omega) (by omega) (by omega) fun k p hp=>⟨fun h=>by omega,fun h=>by have:=get_lt hp;omega⟩;have uniq: ∀P P',LB l id P→LB l id P'→P=P':=fun P P' h h'=>by
  rcases Nat.lt_trichotomy P P' with g|g|g
  ·obtain⟨p,hp⟩: ∃p,l[P]?=some p:=⟨l[P]'(by have:=h'.1;omega),List.getElem?_eq_getElem _⟩;have h1:=(h.2 P p hp).2 (Nat.le_refl _);have h2:=(h'.2 P p hp).1 g;omega
  ·exact g
  ·obtain⟨p,hp⟩: ∃p,l[P']?=some p:=⟨l[P']'(by have:=h.1;omega),List.getElem?_eq_getElem _⟩;have h1:=(h'.2 P' p hp).2 (Nat.le_refl _);have h2:=(h.2 P' p hp).1 g;omega
 obtain⟨P,hLB,_⟩:=hbin fun _=>none;obtain⟨h1,h2⟩:=hLB;have hpos:(0≤pos l id→pos l id=P)∧(0≤pos l id↔ ∃p,l[P]?=some p∧p.id=id):=by
  rcases pos_cases l id with⟨e,hn⟩|⟨i,p,hp,he,e⟩
  ·refine⟨fun h=>by omega,fun h=>by omega,fun⟨p,hp,he⟩=>absurd he (hn p (List.mem_of_getElem? hp))⟩
  ·have:i=P:=by
    rcases Nat.lt_trichotomy i P with g|g|g
    ·have:=(h2 i p hp).1 g;omega
    ·exact g
    ·obtain⟨q,hq⟩: ∃q,l[P]?=some q:=⟨l[P]'(by have:=get_lt hp;omega),List.getElem?_eq_getElem _⟩;have:=(h2 P q hq).2 (by omega);have:=bi hs g hq hp;omega
   subst this;exact⟨fun _=>e,fun _=>⟨p,hp,he⟩,fun _=>by omega⟩
 refine⟨P,hpos.1,fun K2 K1 J hK=>?_⟩;obtain⟨P',hLB',h3⟩:=hbin (eO (PhiS D) 1001 K2 [] [e0,.i64 id,F l,sl row l,.i64 (l.length:Int)]);have:=uniq P P' ⟨h1,h2⟩ hLB';subst this;refine h3.trans ?_;subst hK;simp only[EV,decide_eq_true_eq];by_cases hP:P<l.length
 ·obtain⟨p,hp⟩: ∃p,l[P]?=some p:=⟨l[P],List.getElem?_eq_getElem _⟩;simp only[if_lt hP,den_lt,cellF,tixM hp (row_len p),eltM hp,rowP,cellP0,phi (sj _ _),EV];have:decide (sgn (p.id-id)=0)=decide (0≤pos l id):=by
   rw[decide_eq_decide,mY,hpos.2];constructor
   ·intro h;exact⟨p,hp,by omega⟩
   ·rintro⟨q,hq,h⟩;rw[hp] at hq;cases hq;omega
  rw[this]
 ·rw[if_neg (by omega)];rw[decide_eq_false (show¬0≤pos l id by rw[hpos.2];rintro⟨p,hp,_⟩;have:=get_lt hp;omega)]
def okF (l:List Pt):Prop:=l.length≤64∧gU l=true∧bh l
theorem fieldE_ok {l:List Pt}:aZ l=0↔okF l:=by
 unfold aZ okF;constructor
 ·intro h;split at h
  ·cases h
  ·split at h
   ·split at h
    ·exact⟨by omega,by assumption,by assumption⟩
    ·cases h
   ·cases h
 ·rintro⟨h1,h2,h3⟩;rw[if_neg (by omega),if_pos h2,if_pos h3]
theorem okF_pt {l:List Pt}(h:okF l){i:Nat}{p:Pt}(hp:l[i]?=some p):p.ok=true:=List.all_eq_true.1 h.2.1 p (List.mem_of_getElem? hp)
theorem kH {l:List Pt}(h:okF l){i:Nat}{p:Pt}(hp:l[i]?=some p):decide (0≤pos l p.id)=true∧pos l p.id=(i:Nat):=by
 have:=iP h.2.2 hp;exact⟨by rw[this];exact decide_eq_true (by omega),this⟩
theorem d271 {l:List Pt}(h:okF l){i:Nat}{p:Pt}(hp:l[i]?=some p):Ans D 271 [F l,.i64 p.id] [.i64 (i:Int),.bool true]:=by
 obtain⟨P,h2,h1⟩:=fu (e0:=F l) (id:=p.id) h.2.2 (by have:=h.1;omega);obtain⟨e1,e2⟩:=kH h hp;have:P=i:=by have:=h2 (of_decide_eq_true e1);omega
 subst this;refine ans_of Fq Nl rfl ⟨1001,?_⟩;unfold vu;simp only[den_lt,shapeF,cellF,EV,List.length_map];refine(h1 _ pJ [] rfl).trans ?_;simp only[pJ,EV,e1]
theorem OG {l:List Pt}(h:okF l){i:Nat}{p:Pt}(hp:l[i]?=some p):Ans D 281 [F l,.i64 p.id] [.i64 (i:Int),.i64 0]:=by
 have h0:=phi (c231 l);rw[fieldE_ok.2 h] at h0;refine ans_of k281_ok s281 rfl ⟨1,?_⟩;unfold k281;simp only[den_lt,shapeF,EV,h0,phi (d271 h hp),decide_true,Bool.not_true,Bool.false_eq_true,if_false]
theorem sw (p:Pt):RF.ev .flat [PP p]=some (PP p):=rfl
theorem c248 {l:List Pt}(h:okF l){i:Nat}{p:Pt}(hp:l[i]?=some p):Ans D 248 [F l,.i64 p.id] [PP p,.i64 0]:=by
 refine ans_of Fb M8 rfl ⟨1,?_⟩;unfold u9;simp only[den_lt,shapeF,cellF,EV,phi (OG h hp),decide_true,Bool.not_true,Bool.false_eq_true,if_false,tixM hp (row_len p),eltM hp,rowP,sw]
theorem Il {l:List Pt}{t:Rt}(h:okF l)(ht:In64 t)(hr:rok t=true){i j:Nat}{p q:Pt}(hp:l[i]?=some p)(hq:l[j]?=some q)(hne:p.id≠q.id):Ans D 156 [F l,R t,.i64 p.id,.i64 q.id] [.bool (leads t p q)]:=by
 have h0:=phi (so (p:=p) (q:=q) ht);rw[cD (okF_pt h hp) (okF_pt h hq) hr hne] at h0;refine ans_of k156_ok s156 rfl ⟨1,?_⟩;unfold k156;simp only[den_lt,shapeF,shapeR,shapeP,EV,phi (c248 h hp),phi (c248 h hq),h0,if_true]
theorem Bc {l:List Pt}(h:okF l){i:Nat}{p:Pt}(hp:l[i]?=some p):Ans D 367 [F l,.i64 p.id] [.i64 (i:Int),.bool true]:=by
 obtain⟨P,h2,h1⟩:=fu (e0:=F l) (id:=p.id) h.2.2 (by have:=h.1;omega);obtain⟨e1,e2⟩:=kH h hp;have:P=i:=by have:=h2 (of_decide_eq_true e1);omega
 subst this;refine ans_of rA H6 rfl ⟨1001,?_⟩;unfold qc;simp only[den_lt,shapeF,cellF,EV,List.length_map];refine(h1 _ gv [] rfl).trans ?_;simp only[gv,EV,e1]
theorem KM {l:List Pt}(h:okF l){id:Int}(hn: ∀p∈l,p.id≠id): ∃P:Nat,Ans D 367 [F l,.i64 id] [.i64 (P:Int),.bool false]:=by
 obtain⟨P,_,h1⟩:=fu (e0:=F l) (id:=id) h.2.2 (by have:=h.1;omega);refine⟨P,ans_of rA H6 rfl ⟨1001,?_⟩⟩;unfold qc;simp only[den_lt,shapeF,cellF,EV,List.length_map];refine(h1 _ gv [] rfl).trans ?_;simp only[gv,EV,m6 hn];rfl
def ptOf (l:List Pt)(id:Int):Pt:=(l.find? fun p=>decide (p.id=id)).getD ⟨-1,0,0⟩
theorem ptOf_some {l:List Pt}(h:okF l){i:Nat}{p:Pt}(hp:l[i]?=some p):ptOf l p.id=p:=by
 unfold ptOf;cases e:l.find? fun q=>decide (q.id=p.id) with
 |none=>rw[List.find?_eq_none] at e;have:=e p (List.mem_of_getElem? hp);simp at this
 |some q=>
  have h1:=List.find?_some e;exact(risen_ids h.2.2).inj (List.mem_of_find?_eq_some e) (List.mem_of_getElem? hp) (of_decide_eq_true h1)
theorem lC {l:List Pt}{id:Int}(hn: ∀p∈l,p.id≠id):ptOf l id=⟨-1,0,0⟩:=by
 unfold ptOf;rw[List.find?_eq_none.2 (fun p hp=>by simpa using hn p hp)]
 rfl
theorem has_cases (l:List Pt)(id:Int):(∀p∈l,p.id≠id)∨ ∃(i:Nat) (p:Pt),l[i]?=some p∧p.id=id:=by
 rcases pos_cases l id with⟨_,h⟩|⟨i,p,h1,h2,_⟩
 ·exact .inl h
 ·exact .inr ⟨i,p,h1,h2⟩
theorem c315 {l:List Pt}(h:okF l)(id:Int):Ans D 315 [F l,.i64 id] [PP (ptOf l id)]:=by
 obtain⟨P,h2,h1⟩:=fu (e0:=F l) (id:=id) h.2.2 (by have:=h.1;omega);refine ans_of FJ NG rfl ⟨1001,?_⟩;unfold vP;simp only[den_lt,shapeF,cellF,EV,List.length_map];refine(h1 _ pU [] rfl).trans ?_;unfold pU;rcases has_cases l id with hn|⟨i,p,hp,rfl⟩
 ·have a3:RF.ev .agg [.i64 (-1),.i64 0,.i64 0]=some (PP ⟨-1,0,0⟩):=rfl;rw[m6 hn,decide_eq_false (by decide)];simp only[den_lt,shapeF,cellF,EV,Bool.not_false,if_true,a3,sw,lC hn]
 ·obtain⟨e1,e2⟩:=kH h hp;have:P=i:=by have:=h2 (of_decide_eq_true e1);omega
  subst this;rw[e1];simp only[den_lt,shapeF,cellF,EV,Bool.not_true,Bool.false_eq_true,if_false,tixM hp (row_len p),eltM hp,rowP,sw,ptOf_some h hp]
structure Crt where
 low:Int
 high:Int
 deriving DecidableEq
structure Held where
 number:Int
 cert:Crt
 deriving DecidableEq
structure Hnd where
 index:Int
 use:Int
 deriving DecidableEq
structure Evt where
 time:Rt
 number:Int
 hnd:Hnd
 deriving DecidableEq
structure Due where
 number:Int
 hnd:Hnd
 deriving DecidableEq
structure Nod where
 id:Int
 left:Int
 right:Int
 deriving DecidableEq
structure Certs where
 next:Int
 list:List Held
 deriving DecidableEq
structure Agenda where
 slots:Slots
 heap:List Evt
 wher:List Int
 deriving DecidableEq
structure Clock where
 now:Rt
 pts:List Pt
 certs:Certs
 agenda:Agenda
 due:List Due
 deriving DecidableEq
structure Brk where
 places:List Int
 wins:List Int
 deriving DecidableEq
structure Tree where
 root:Int
 nodes:List Nod
 deriving DecidableEq
structure KHeap where
 clock:Clock
 heap:List Int
 deriving DecidableEq
structure KTourn where
 clock:Clock
 brk:Brk
 deriving DecidableEq
structure Heater where
 clock:Clock
 tree:Tree
 deriving DecidableEq
structure Choice where
 tag:Int
 heap:KHeap
 tourn:KTourn
 heater:Heater
 hanger:KHeap
 deriving DecidableEq
def ac (c:Crt):List PV:=[.i64 c.low,.i64 c.high]
def hrow (h:Held):List PV:=[.i64 h.number,.i64 h.cert.low,.i64 h.cert.high]
def erow (e:Evt):List PV:=[.i64 e.time.num,.i64 e.time.den,.i64 e.number,.i64 e.hnd.index,.i64 e.hnd.use]
def am (d:Due):List PV:=[.i64 d.number,.i64 d.hnd.index,.i64 d.hnd.use]
def nrow (n:Nod):List PV:=[.i64 n.id,.i64 n.left,.i64 n.right]
def CP (c:Crt):PV:= .agg (ac c)
def HP (h:Held):PV:= .agg (hrow h)
def EP (e:Evt):PV:= .agg (erow e)
def DP (d:Due):PV:= .agg (am d)
def NP (n:Nod):PV:= .agg (nrow n)
def csC (c:Certs):List PV:=[.i64 c.next,sl hrow c.list]
def slC (s:Slots):List PV:=[sl I1 s.uses,sl B1 s.used,sl I1 s.free]
def agC (a:Agenda):List PV:=slC a.slots++[sl erow a.heap,sl I1 a.wher]
def clC (c:Clock):List PV:= .i64 c.now.num:: .i64 c.now.den::sl row c.pts::(csC c.certs++(agC c.agenda++[sl am c.due]))
def brC (b:Brk):List PV:=[sl I1 b.places,sl I1 b.wins]
def trC (t:Tree):List PV:=[.i64 t.root,sl nrow t.nodes]
def khC (k:KHeap):List PV:=clC k.clock++[sl I1 k.heap]
def ktC (k:KTourn):List PV:=clC k.clock++brC k.brk
def htC (k:Heater):List PV:=clC k.clock++trC k.tree
def OH (c:Choice):List PV:= .v (.int .u8 c.tag)::(khC c.heap++(ktC c.tourn++(htC c.heater++khC c.hanger)))
def CS (c:Certs):PV:= .agg (csC c)
def SL (s:Slots):PV:= .agg (slC s)
def AG (a:Agenda):PV:= .agg (agC a)
def CL (c:Clock):PV:= .agg (clC c)
def BR (b:Brk):PV:= .agg (brC b)
def TR (t:Tree):PV:= .agg (trC t)
def KH (k:KHeap):PV:= .agg (khC k)
def KT (k:KTourn):PV:= .agg (ktC k)
def HT (k:Heater):PV:= .agg (htC k)
def CHO (c:Choice):PV:= .agg (OH c)
theorem rowC (c:Crt):rowPart 0 2 (ac c)=some (CP c):=rfl
theorem rowH (h:Held):rowPart 0 3 (hrow h)=some (HP h):=rfl
theorem rowHc (h:Held):rowPart 1 2 (hrow h)=some (CP h.cert):=rfl
theorem KN (h:Held):rowPart 0 0 (hrow h)=some (.i64 h.number):=rfl
theorem KO (h:Held):rowPart 1 0 (hrow h)=some (.i64 h.cert.low):=rfl
theorem KQ (h:Held):rowPart 2 0 (hrow h)=some (.i64 h.cert.high):=rfl
theorem rowE (e:Evt):rowPart 0 5 (erow e)=some (EP e):=rfl
theorem OI (d:Due):rowPart 0 3 (am d)=some (DP d):=rfl
theorem rowN (n:Nod):rowPart 0 3 (nrow n)=some (NP n):=rfl
theorem lenC (c:Crt):(ac c).length=2:=rfl
theorem lenH (c:Held):(hrow c).length=3:=rfl
theorem lenE (c:Evt):(erow c).length=5:=rfl
theorem iQ (c:Due):(am c).length=3:=rfl
theorem lenN (c:Nod):(nrow c).length=3:=rfl
section
variable (c:Certs)(s:Slots)(a:Agenda)(k:Clock)(b:Brk)(t:Tree)(kh:KHeap)(kt:KTourn)(ht:Heater)(ch:Choice)(cr:Crt)(h:Held)
theorem shCP:RF.ev (.shape 2) [CP cr]=some (CP cr):=rfl
theorem cCP0:RF.ev (.cell 0) [CP cr]=some (.i64 cr.low):=rfl
theorem cCP1:RF.ev (.cell 1) [CP cr]=some (.i64 cr.high):=rfl
theorem cHP0:RF.ev (.cell 0) [HP h]=some (.i64 h.number):=rfl
theorem pHP:RF.ev (.part 1 2) [HP h]=some (CP h.cert):=rfl
theorem shCS:RF.ev (.shape 2) [CS c]=some (CS c):=rfl
theorem cCS0:RF.ev (.cell 0) [CS c]=some (.i64 c.next):=rfl
theorem cCS1:RF.ev (.cell 1) [CS c]=some (sl hrow c.list):=rfl
theorem shSL:RF.ev (.shape 3) [SL s]=some (SL s):=rfl
theorem cSL0:RF.ev (.cell 0) [SL s]=some (sl I1 s.uses):=rfl
theorem cSL1:RF.ev (.cell 1) [SL s]=some (sl B1 s.used):=rfl
theorem cSL2:RF.ev (.cell 2) [SL s]=some (sl I1 s.free):=rfl
theorem shAG:RF.ev (.shape 5) [AG a]=some (AG a):=rfl
theorem pAG:RF.ev (.part 0 3) [AG a]=some (SL a.slots):=rfl
theorem cAG3:RF.ev (.cell 3) [AG a]=some (sl erow a.heap):=rfl
theorem cAG4:RF.ev (.cell 4) [AG a]=some (sl I1 a.wher):=rfl
theorem shCL:RF.ev (.shape 11) [CL k]=some (CL k):=rfl
theorem pCL0:RF.ev (.part 0 2) [CL k]=some (R k.now):=rfl
theorem pCL2:RF.ev (.part 2 1) [CL k]=some (F k.pts):=rfl
theorem pCL3:RF.ev (.part 3 2) [CL k]=some (CS k.certs):=rfl
theorem pCL5:RF.ev (.part 5 5) [CL k]=some (AG k.agenda):=rfl
theorem cCL2:RF.ev (.cell 2) [CL k]=some (sl row k.pts):=rfl
theorem cCL4:RF.ev (.cell 4) [CL k]=some (sl hrow k.certs.list):=rfl
theorem cCL8:RF.ev (.cell 8) [CL k]=some (sl erow k.agenda.heap):=rfl
theorem cCL9:RF.ev (.cell 9) [CL k]=some (sl I1 k.agenda.wher):=rfl
theorem cCL10:RF.ev (.cell 10) [CL k]=some (sl am k.due):=rfl
theorem shBR:RF.ev (.shape 2) [BR b]=some (BR b):=rfl
theorem dc:RF.ev (.cell 0) [BR b]=some (sl I1 b.places):=rfl
theorem cBR1:RF.ev (.cell 1) [BR b]=some (sl I1 b.wins):=rfl
theorem shTR:RF.ev (.shape 2) [TR t]=some (TR t):=rfl
theorem cTR0:RF.ev (.cell 0) [TR t]=some (.i64 t.root):=rfl
theorem cTR1:RF.ev (.cell 1) [TR t]=some (sl nrow t.nodes):=rfl
theorem shKH:RF.ev (.shape 12) [KH kh]=some (KH kh):=rfl
theorem pKH:RF.ev (.part 0 11) [KH kh]=some (CL kh.clock):=rfl
theorem cKH:RF.ev (.cell 11) [KH kh]=some (sl I1 kh.heap):=rfl
theorem shKT:RF.ev (.shape 13) [KT kt]=some (KT kt):=rfl
theorem pKT:RF.ev (.part 0 11) [KT kt]=some (CL kt.clock):=rfl
theorem pKTb:RF.ev (.part 11 2) [KT kt]=some (BR kt.brk):=rfl
theorem shHT:RF.ev (.shape 13) [HT ht]=some (HT ht):=rfl
theorem pHT:RF.ev (.part 0 11) [HT ht]=some (CL ht.clock):=rfl
theorem pHTt:RF.ev (.part 11 2) [HT ht]=some (TR ht.tree):=rfl
theorem shCH:RF.ev (.shape 51) [CHO ch]=some (CHO ch):=rfl
theorem cCH:RF.ev (.cell 0) [CHO ch]=some (.v (.int .u8 ch.tag)):=rfl
theorem pCH1:RF.ev (.part 1 12) [CHO ch]=some (KH ch.heap):=rfl
theorem pCH2:RF.ev (.part 13 13) [CHO ch]=some (KT ch.tourn):=rfl
theorem pCH3:RF.ev (.part 26 13) [CHO ch]=some (HT ch.heater):=rfl
theorem pCH4:RF.ev (.part 39 12) [CHO ch]=some (KH ch.hanger):=rfl
end
def gSl (s:Slots):Bool:=decide (210<s.uses.length)||decide (210<s.used.length)||decide (210<s.free.length)
def gAg (a:Agenda):Bool:=gSl a.slots||decide (210<a.heap.length)||decide (210<a.wher.length)
def gF (l:List Pt):Bool:=(decide (16<l.length)&& decide (l.length<64))||decide (70<l.length)
def gCl (c:Clock):Bool:=decide (40<c.certs.list.length)||decide (40<c.due.length)||gF c.pts||gAg c.agenda
def gKh (k:KHeap):Bool:=gCl k.clock||decide (70<k.heap.length)
def gKt (k:KTourn):Bool:=gCl k.clock||(decide (70<k.brk.places.length)||decide (70<k.brk.wins.length))
def gHt (k:Heater):Bool:=gCl k.clock||decide (70<k.tree.nodes.length)
def gCh (c:Choice):Bool:=gKh c.heap||gKt c.tourn||gHt c.heater||gKh c.hanger
theorem CG (b:Nat):decide ((210:Int)<(b:Int))=decide (210<b):=decide_eq_decide.2 (by omega)
theorem sy (b:Nat):decide ((70:Int)<(b:Int))=decide (70<b):=decide_eq_decide.2 (by omega)
theorem OJ (b:Nat):decide ((40:Int)<(b:Int))=decide (40<b):=decide_eq_decide.2 (by omega)
theorem OK (b:Nat):decide ((16:Int)<(b:Int))=decide (16<b):=decide_eq_decide.2 (by omega)
theorem OL (b:Nat):decide ((b:Int)<64)=decide (b<64):=decide_eq_decide.2 (by omega)
theorem OM (s:Slots):Ans D 285 [SL s] [.bool (gSl s)]:=by
 refine ans_of Fs No rfl ⟨1,?_⟩;unfold vz gSl;simp only[den_lt,shSL,cSL0,cSL1,cSL2,EV,List.length_map,z6,CG];cases decide (210<s.uses.length)<;>cases decide (210<s.used.length)<;>rfl
theorem ON (a:Agenda):Ans D 206 [AG a] [.bool (gAg a)]:=by
 refine ans_of EF MF rfl ⟨1,?_⟩;unfold uA gAg;simp only[den_lt,shAG,pAG,cAG3,cAG4,EV,List.length_map,zd,CG,phi (OM _)];cases gSl a.slots<;>cases decide (210<a.heap.length)<;>rfl
theorem c19 (l:List Pt):Ans D 19 [F l] [.bool (gF l)]:=by
 refine ans_of Hq s19 rfl ⟨1,?_⟩;unfold k19 gF;simp only[den_lt,shapeF,cellF,EV,List.length_map,C6,sy,OK,OL];cases decide (16<l.length)<;>cases decide (l.length<64)<;>rfl
theorem Be (c:Clock):Ans D 109 [CL c] [.bool (gCl c)]:=by
 refine ans_of DM LQ rfl ⟨1,?_⟩;unfold tv gCl;simp only[den_lt,shCL,cCL4,cCL10,pCL2,pCL5,EV,List.length_map,x9,OJ,phi (c19 _),phi (ON _)];cases decide (40<c.certs.list.length)<;>cases decide (40<c.due.length)<;>cases gF c.pts<;>rfl
theorem OO (b:Brk):Ans D 110 [BR b] [.bool (decide (70<b.places.length)||decide (70<b.wins.length))]:=by
 refine ans_of DN LR rfl ⟨1,?_⟩;unfold tw;simp only[den_lt,shBR,dc,cBR1,EV,List.length_map,ya,sy];cases decide (70<b.places.length)<;>rfl
theorem OP (t:Tree):Ans D 111 [TR t] [.bool (decide (70<t.nodes.length))]:=by
 refine ans_of DO LS rfl ⟨1,?_⟩;unfold tz;simp only[den_lt,shTR,cTR1,EV,List.length_map,sy]
theorem d35 (k:KHeap): ∃N,den (PhiS D) N k35 [] [KH k]=some [.bool (gKh k)]:=by
 refine⟨1,?_⟩;unfold k35 gKh;simp only[den_lt,shKH,pKH,cKH,EV,List.length_map,Df,sy,phi (Be _)];cases gCl k.clock<;>rfl
theorem c36 (k:KTourn):Ans D 36 [KT k] [.bool (gKt k)]:=by
 refine ans_of HB s36 rfl ⟨1,?_⟩;unfold k36 gKt;simp only[den_lt,shKT,pKT,pKTb,EV,Dg,phi (Be _),phi (OO _)];cases gCl k.clock<;>rfl
theorem c37 (k:Heater):Ans D 37 [HT k] [.bool (gHt k)]:=by
 refine ans_of HC s37 rfl ⟨1,?_⟩;unfold k37 gHt;simp only[den_lt,shHT,pHT,pHTt,EV,Dh,phi (Be _),phi (OP _)];cases gCl k.clock<;>rfl
theorem c7 (c:Choice):Ans D 7 [CHO c] [.bool (gCh c)]:=by
 refine ans_of KK s7 rfl ⟨1,?_⟩;unfold k7 gCh;simp only[den_lt,shCH,pCH1,pCH2,pCH3,pCH4,EV,Jb,phi (ans_of HA s35 rfl (d35 _)),phi (c36 _),phi (c37 _),phi (ans_of HE s38 rfl (d35 _))];cases gKh c.heap<;>cases gKt c.tourn<;>cases gHt c.heater<;>rfl
theorem Bf (a b c x y z:Int):RF.ev (.eqv [.i,.i,.i]) [.agg [.i64 a,.i64 b,.i64 c],.agg [.i64 x,.i64 y,.i64 z]]=some (.bool (decide (a=x∧b=y∧c=z))):=by
 have:RF.ev (.eqv [.i,.i,.i]) [.agg [.i64 a,.i64 b,.i64 c],.agg [.i64 x,.i64 y,.i64 z]]=some (.bool (decide (a=x)&&(decide (b=y)&&(decide (c=z)&& true)))):=rfl;rw[this]
 congr 2
 simp[Bool.decide_and]
theorem OQ (p q:Held):RF.ev (.eqv [.i,.i,.i]) [HP p,HP q]=some (.bool (decide (p=q))):=by
 obtain⟨a,b,c⟩:=p;obtain⟨x,y,z⟩:=q;refine(Bf ..).trans ?_;simp[Held.mk.injEq,Crt.mk.injEq]
theorem OS (p q:Due):RF.ev (.eqv [.i,.i,.i]) [DP p,DP q]=some (.bool (decide (p=q))):=by
 obtain⟨a,b,c⟩:=p;obtain⟨x,y,z⟩:=q;refine(Bf ..).trans ?_;simp[Due.mk.injEq,Hnd.mk.injEq]
theorem Im (p q:Nod):RF.ev (.eqv [.i,.i,.i]) [NP p,NP q]=some (.bool (decide (p=q))):=by
 obtain⟨a,b,c⟩:=p;obtain⟨x,y,z⟩:=q;refine(Bf ..).trans ?_;simp[Nod.mk.injEq]
theorem In (a b x y:Int):RF.ev (.eqv [.i,.i]) [.agg [.i64 a,.i64 b],.agg [.i64 x,.i64 y]]=some (.bool (decide (a=x∧b=y))):=by
 have:RF.ev (.eqv [.i,.i]) [.agg [.i64 a,.i64 b],.agg [.i64 x,.i64 y]]=some (.bool (decide (a=x)&&(decide (b=y)&& true))):=rfl;rw[this]
 congr 2
 simp[Bool.decide_and]
theorem eqvC (p q:Crt):RF.ev (.eqv [.i,.i]) [CP p,CP q]=some (.bool (decide (p=q))):=by
 obtain⟨a,b⟩:=p;obtain⟨x,y⟩:=q;refine(In ..).trans ?_;simp[Crt.mk.injEq]
theorem eqvR (p q:Rt):RF.ev (.eqv [.i,.i]) [R p,R q]=some (.bool (decide (p=q))):=by
 obtain⟨a,b⟩:=p;obtain⟨x,y⟩:=q;refine(In ..).trans ?_;simp[Rt.mk.injEq]
theorem Io (p q:Evt):RF.ev (.eqv [.i,.i,.i,.i,.i]) [EP p,EP q]=some (.bool (decide (p=q))):=by
 obtain⟨⟨a,b⟩,c,d,e⟩:=p;obtain⟨⟨x,y⟩,z,u,v⟩:=q;have:RF.ev (.eqv [.i,.i,.i,.i,.i]) [EP ⟨⟨a,b⟩,c,⟨d,e⟩⟩,EP ⟨⟨x,y⟩,z,⟨u,v⟩⟩]=some (.bool (decide (a=x)&&(decide (b=y)&&(decide (c=z)&&(decide (d=u)&&(decide (e=v)&& true)))))):=rfl;rw[this]
 congr 2
 simp[Evt.mk.injEq,Rt.mk.injEq,Hnd.mk.injEq,Bool.decide_and,Bool.and_assoc]
theorem OT {s t:Slots}(h:gSl s=false):Ans D 312 [SL s,SL t] [.bool (decide (s=t))]:=by
 unfold gSl at h;simp only[Bool.or_eq_false_iff,decide_eq_false_iff_not] at h;refine ans_of k312_ok s312 rfl ⟨1,?_⟩;unfold k312;simp only[den_lt,shSL,cSL0,cSL1,cSL2,EV,k312_1,phi (c313 (l:=s.uses) (k:=t.uses) (by omega)),phi (OE (l:=s.used) (k:=t.used) (by omega)),phi (c313 (l:=s.free) (k:=t.free) (by omega)),decide_eq_true_eq];obtain⟨a,b,c⟩:=s;obtain⟨x,y,z⟩:=t;by_cases h1:a=x<;>by_cases h2:b=y<;>simp[h1,h2]
theorem OU {s t:Agenda}(h:gAg s=false):Ans D 230 [AG s,AG t] [.bool (decide (s=t))]:=by
 unfold gAg at h;simp only[Bool.or_eq_false_iff,decide_eq_false_iff_not] at h;refine ans_of k230_ok s230 rfl ⟨1001,?_⟩;unfold k230;obtain⟨a,b,c⟩:=s;obtain⟨x,y,z⟩:=t;simp only[den_lt,shAG,pAG,cAG3,cAG4,EV,List.length_map,phi (OT h.1.1),phi (c313 (l:=c) (k:=z) (show c.length≤1000 by have:=h.2;simp only at this;omega)),Bool.not_eq_true',decide_eq_false_iff_not]
 by_cases h1:a=x
 ·by_cases h2:c=z
  ·subst h1;subst h2;simp only[not_true_eq_false,if_false];by_cases h3:b.length=y.length
   ·rw[if_neg (by omega)];refine(dq (l:=b) (k:=y) h3 (run_list (l:=b.zip y) (st:=fun i=>[.i64 (i:Int)]) (fun i x self hx _=>?_) (fun _ self=>?_) (by have:=h.1.2;rw[an h3];simp only at this;omega))).trans ?_
    ·obtain⟨hp,hq⟩:=aL hx;unfold pe;simp only[den_lt,cAG3,tixM hp (lenE _),eltM hp,tixM hq (lenE _),eltM hq,rowE,Io,EV,List.length_map,decide_eq_true_eq,Bool.not_eq_true',decide_eq_false_iff_not,if_lt (get_lt hp),up1 (show i<1000000000 by have:=get_lt hp;have:=h.1.2;simp only at this;omega)]
     by_cases e:x.1=x.2<;>simp[e]
    ·rw[an h3];unfold pe;simp only[den_lt,cAG3,EV,List.length_map,decide_eq_true_eq,if_ge,zB]
    ·simp[Agenda.mk.injEq]
   ·rw[if_pos (by omega),decide_eq_false (fun e=>h3 (by cases e;rfl))]
  ·rw[if_neg (by simp[h1]),if_pos h2,decide_eq_false (fun e=>h2 (by cases e;rfl))]
 ·rw[if_pos h1,decide_eq_false (fun e=>h1 (by cases e;rfl))]
theorem OV {s t:Certs}(h:s.list.length≤1000):Ans D 229 [CS s,CS t] [.bool (decide (s=t))]:=by
 refine ans_of EX MW rfl ⟨1001,?_⟩;unfold uP;obtain⟨a,b⟩:=s;obtain⟨x,y⟩:=t;simp only at h;simp only[den_lt,shCS,cCS0,cCS1,EV,List.length_map,Bool.not_eq_true',decide_eq_false_iff_not];by_cases h1:a=x
 ·subst h1;simp only[not_true_eq_false,if_false];by_cases h3:b.length=y.length
  ·rw[if_neg (by omega)];refine(dq (l:=b) (k:=y) h3 (run_list (l:=b.zip y) (st:=fun i=>[.i64 (i:Int)]) (fun i x self hx _=>?_) (fun _ self=>?_) (by rw[an h3];omega))).trans ?_
   ·obtain⟨hp,hq⟩:=aL hx;unfold pd;simp only[den_lt,cCS1,tixM hp (lenH _),eltM hp,tixM hq (lenH _),eltM hq,rowH,OQ,EV,List.length_map,decide_eq_true_eq,Bool.not_eq_true',decide_eq_false_iff_not,if_lt (get_lt hp),up1 (show i<1000000000 by have:=get_lt hp;omega)]
    by_cases e:x.1=x.2<;>simp[e]
   ·rw[an h3];unfold pd;simp only[den_lt,cCS1,EV,List.length_map,decide_eq_true_eq,if_ge,zA]
   ·simp[Certs.mk.injEq]
  ·rw[if_pos (by omega),decide_eq_false (fun e=>h3 (by cases e;rfl))]
 ·rw[if_pos h1,decide_eq_false (fun e=>h1 (by cases e;rfl))]
structure gW (s:Clock):Prop where
 certs:s.certs.list.length≤1000
 due:s.due.length≤1000
 pts:s.pts.length≤1000
 ag:gAg s.agenda=false
theorem gCl_w {s:Clock}(h:gCl s=false):gW s:=by
 unfold gCl gF at h;simp only[Bool.or_eq_false_iff,decide_eq_false_iff_not,Bool.and_eq_false_iff] at h;obtain⟨⟨⟨h1,h2⟩,h3,h3'⟩,h4⟩:=h;exact⟨by omega,by omega,by omega,h4⟩
theorem c134w {s t:Clock}(h:gW s):Ans D 134 [CL s,CL t] [.bool (decide (s=t))]:=by
 obtain⟨h1,h2,h3,h4⟩:=h;obtain⟨a,b,c,d,e⟩:=s;obtain⟨x,y,z,u,v⟩:=t;simp only at h1 h2 h3 h4;refine ans_of k134_ok s134 rfl ⟨1001,?_⟩;unfold k134;simp only[den_lt,shCL,pCL0,pCL2,pCL3,pCL5,cCL10,eqvR,EV,List.length_map,Bool.not_eq_true',decide_eq_false_iff_not,phi (c28 (l:=b) (k:=y) (by omega)),phi (OV (s:=c) (t:=z) (by omega)),phi (OU (t:=u) h4)];by_cases e1:a=x
 ·by_cases e2:b=y
  ·by_cases e3:c=z
   ·by_cases e4:d=u
    ·subst e1;subst e2;subst e3;subst e4;simp only[not_true_eq_false,if_false];by_cases e5:e.length=v.length
     ·rw[if_neg (by omega)];refine(dq (l:=e) (k:=v) e5 (run_list (l:=e.zip v) (st:=fun i=>[.i64 (i:Int)]) (fun i x self hx _=>?_) (fun _ self=>?_) (by rw[an e5];omega))).trans ?_
      ·obtain⟨hp,hq⟩:=aL hx;unfold og;simp only[den_lt,cCL10,tixM hp (iQ _),eltM hp,tixM hq (iQ _),eltM hq,OI,OS,EV,List.length_map,decide_eq_true_eq,Bool.not_eq_true',decide_eq_false_iff_not,if_lt (get_lt hp),up1 (show i<1000000000 by have:=get_lt hp;omega)]
       by_cases e:x.1=x.2<;>simp[e]
      ·rw[an e5];unfold og;simp only[den_lt,cCL10,EV,List.length_map,decide_eq_true_eq,if_ge,yq]
      ·simp[Clock.mk.injEq]
     ·rw[if_pos (by omega),decide_eq_false (fun h=>e5 (by cases h;rfl))]
    ·rw[if_neg (by simp[e1]),if_neg (by simp[e2]),if_neg (by simp[e3]),if_pos e4,decide_eq_false (fun h=>e4 (by cases h;rfl))]
   ·rw[if_neg (by simp[e1]),if_neg (by simp[e2]),if_pos e3,decide_eq_false (fun h=>e3 (by cases h;rfl))]
  ·rw[if_neg (by simp[e1]),if_pos e2,decide_eq_false (fun h=>e2 (by cases h;rfl))]
 ·rw[if_pos e1,decide_eq_false (fun h=>e1 (by cases h;rfl))]
theorem OW {s t:Brk}(h:s.places.length≤1000)(k:s.wins.length≤1000):Ans D 136 [BR s,BR t] [.bool (decide (s=t))]:=by
 refine ans_of D4 L5 rfl ⟨1,?_⟩;unfold tL;obtain⟨a,b⟩:=s;obtain⟨x,y⟩:=t;simp only[den_lt,shBR,dc,cBR1,EV,yu,phi (sq (l:=a) (k:=x) h),phi (sq (l:=b) (k:=y) k),decide_eq_true_eq];by_cases e1:a=x<;>by_cases e2:b=y<;>simp[e1,e2]
theorem Ip {s t:Tree}(h:s.nodes.length≤1000):Ans D 137 [TR s,TR t] [.bool (decide (s=t))]:=by
 refine ans_of D5 L6 rfl ⟨1001,?_⟩;unfold tM;obtain⟨a,b⟩:=s;obtain⟨x,y⟩:=t;simp only at h;simp only[den_lt,shTR,cTR0,cTR1,EV,List.length_map,Bool.not_eq_true',decide_eq_false_iff_not];by_cases h1:a=x
 ·subst h1;simp only[not_true_eq_false,if_false];by_cases h3:b.length=y.length
  ·rw[if_neg (by omega)];refine(dq (l:=b) (k:=y) h3 (run_list (l:=b.zip y) (st:=fun i=>[.i64 (i:Int)]) (fun i x self hx _=>?_) (fun _ self=>?_) (by rw[an h3];omega))).trans ?_
   ·obtain⟨hp,hq⟩:=aL hx;unfold oj;simp only[den_lt,cTR1,tixM hp (lenN _),eltM hp,tixM hq (lenN _),eltM hq,rowN,Im,EV,List.length_map,decide_eq_true_eq,Bool.not_eq_true',decide_eq_false_iff_not,if_lt (get_lt hp),up1 (show i<1000000000 by have:=get_lt hp;omega)]
    by_cases e:x.1=x.2<;>simp[e]
   ·rw[an h3];unfold oj;simp only[den_lt,cTR1,EV,List.length_map,decide_eq_true_eq,if_ge,yw]
   ·simp[Tree.mk.injEq]
  ·rw[if_pos (by omega),decide_eq_false (fun e=>h3 (by cases e;rfl))]
 ·rw[if_pos h1,decide_eq_false (fun e=>h1 (by cases e;rfl))]
theorem d51 {s t:KHeap}(h:gW s.clock∧s.heap.length≤1000): ∃N,den (PhiS D) N k51 [] [KH s,KH t]=some [.bool (decide (s=t))]:=by
 refine⟨1,?_⟩;unfold k51;obtain⟨a,b⟩:=s;obtain⟨x,y⟩:=t;simp only at h;simp only[den_lt,shKH,pKH,cKH,EV,k51_1,phi (c134w (t:=x) h.1),phi (sq (l:=b) (k:=y) (by omega)),decide_eq_true_eq];by_cases e1:a=x<;>by_cases e2:b=y<;>simp[e1,e2]
theorem CH {s:KHeap}(h:gKh s=false):gW s.clock∧s.heap.length≤1000:=by
 unfold gKh at h;simp only[Bool.or_eq_false_iff,decide_eq_false_iff_not] at h;exact⟨gCl_w h.1,by omega⟩
theorem Iq {s t:KHeap}(h:gW s.clock∧s.heap.length≤1000):Ans D 51 [KH s,KH t] [.bool (decide (s=t))]:=ans_of HH s51 rfl (d51 h)
theorem Ir {s t:KHeap}(h:gW s.clock∧s.heap.length≤1000):Ans D 54 [KH s,KH t] [.bool (decide (s=t))]:=ans_of HK s54 rfl (d51 h)
theorem c51 {s t:KHeap}(h:gKh s=false):Ans D 51 [KH s,KH t] [.bool (decide (s=t))]:=Iq (CH h)
theorem c54 {s t:KHeap}(h:gKh s=false):Ans D 54 [KH s,KH t] [.bool (decide (s=t))]:=Ir (CH h)
theorem c52w {s t:KTourn}(h:gW s.clock∧s.brk.places.length≤1000∧s.brk.wins.length≤1000):Ans D 52 [KT s,KT t] [.bool (decide (s=t))]:=by
 refine ans_of HI s52 rfl ⟨1,?_⟩;unfold k52;obtain⟨a,b⟩:=s;obtain⟨x,y⟩:=t;simp only at h;simp only[den_lt,shKT,pKT,pKTb,EV,k52_1,phi (c134w (t:=x) h.1),phi (OW (s:=b) (t:=y) (by omega) (by omega)),decide_eq_true_eq];by_cases e1:a=x<;>by_cases e2:b=y<;>simp[e1,e2]
theorem c53w {s t:Heater}(h:gW s.clock∧s.tree.nodes.length≤1000):Ans D 53 [HT s,HT t] [.bool (decide (s=t))]:=by
 refine ans_of HJ s53 rfl ⟨1,?_⟩;unfold k53;obtain⟨a,b⟩:=s;obtain⟨x,y⟩:=t;simp only at h;simp only[den_lt,shHT,pHT,pHTt,EV,k53_1,phi (c134w (t:=x) h.1),phi (Ip (s:=b) (t:=y) (by omega)),decide_eq_true_eq];by_cases e1:a=x<;>by_cases e2:b=y<;>simp[e1,e2]
theorem c52 {s t:KTourn}(h:gKt s=false):Ans D 52 [KT s,KT t] [.bool (decide (s=t))]:=by
 unfold gKt at h;simp only[Bool.or_eq_false_iff,decide_eq_false_iff_not] at h;exact c52w ⟨gCl_w h.1,by omega,by omega⟩
theorem c53 {s t:Heater}(h:gHt s=false):Ans D 53 [HT s,HT t] [.bool (decide (s=t))]:=by
 unfold gHt at h;simp only[Bool.or_eq_false_iff,decide_eq_false_iff_not] at h;exact c53w ⟨gCl_w h.1,by omega⟩
end Go.Proofs.YtfghdmmapmdcgaaGreat
namespace Go.Sym
open Go.Sym
def foldO {α β:Type}(g:β→α→Option β):β→List α→Option β
 |x,[]=>some x
 |x,a::l=>match g x a with
  |some y=>foldO g y l
  |none=>none
section
variable {Φ:PhT}{N:Nat}{b:K}{J:List JT}{e:List PV}{α β:Type}{l:List α}
theorem fv {g:β→α→Option β}{I:β→Prop}{S:β→Nat→List PV}{fin:β→Option (List PV)}{r:Option (List PV)}{x:β}(h0:I x)(hi: ∀a acc acc',I acc→g acc a=some acc'→I acc')(hs: ∀i a acc self,l[i]?=some a→I acc→den Φ N b (J++[self]) (e++S acc i)=match g acc a with|some acc'=>self (S acc' (i+1))|none=>r)
  (hf: ∀acc self,I acc→foldO g x l=some acc→den Φ N b (J++[self]) (e++S acc l.length)=fin acc) {m:Nat} (hm:l.length<m):denW Φ N b J e m (S x 0)=match foldO g x l with|some acc=>fin acc|none=>r:=by
 have: ∀(k:List α) i m acc,l.drop i=k→i≤l.length→k.length<m→I acc→foldO g x l=foldO g acc k→denW Φ N b J e m (S acc i)=match foldO g acc k with|some acc=>fin acc|none=>r:=by
  intro k;induction k with
  |nil=>
   intro i m acc h hi' hm hI hx;obtain⟨m,rfl⟩: ∃m',m=m'+1:=⟨m-1,by omega⟩;have:=bZ h hi';have hil:i=l.length:=by simpa using this
   rw[denW_succ,hil];exact hf _ _ hI hx
  |cons a k ih=>
   intro i m acc h hi' hm hI hx;obtain⟨m,rfl⟩: ∃m',m=m'+1:=⟨m-1,by omega⟩;obtain⟨h1,h2⟩:=jh h;have:=bZ h hi';simp only[List.length_cons] at hm this;rw[denW_succ,hs i a acc _ h1 hI];have hu:foldO g acc (a::k)=match g acc a with|some y=>foldO g y k|none=>none:=rfl
   rw[hu] at hx⊢;cases hg:g acc a with
   |none=>rfl
   |some acc'=>
    rw[hg] at hx;exact ih (i+1) m _ h2 (by omega) (by omega) (hi a acc acc' hI hg) hx
 exact this l 0 m x rfl (by omega) hm h0 rfl
end
end Go.Sym
namespace Go.Proofs.YtfghdmmapmdcgaaGreat
open Go.Sym Bnd
set_option maxRecDepth 100000
theorem cO: ∀(xs:List Int) (l:List Bool),markF l xs=foldO (fun l x=>if 0≤x∧x<l.length∧l[x.toNat]?=some false then some (l.set x.toNat true) else none) l xs
 |[],l=>rfl
 |x::xs,l=>by
  unfold markF foldO;by_cases h:0≤x∧x<l.length∧l[x.toNat]?=some false
  ·rw[if_pos h,if_pos h];exact cO xs _
  ·rw[if_neg h,if_neg h]
theorem setB {l:List Bool}{i:Nat}(h:i<l.length):RF.ev (.set 0) [sl B1 l,.v (.int .i64 (i:Int)),.v (.bool true)]=some (sl B1 (l.set i true)):=by
 rw[ku,if_pos (by omega),Int.toNat_natCast,List.getElem?_map,List.getElem?_eq_getElem h];have e:(B1 l[i]).length=1:=rfl;simp only[Option.map_some,e,show(PV.v (.bool true)).cells=[.v (.bool true)] from rfl,List.length_singleton,Nat.zero_add,Nat.le_refl,if_true]
 exact congrArg (fun x=>some (PV.sl x)) (List.map_set (f:=B1) (l:=l) (i:=i) (a:=true)).symm
theorem ixM {i n:Nat}(h:i<n):RF.ev .ix [.v (.int .i64 (i:Int)),.v (.int .i64 (n:Int))]=some (.i64 (i:Int)):=by
 rw[KD,if_pos (by omega)]
theorem eH {x:Int}(h:0≤x): ∃n:Nat,x=(n:Int):=⟨x.toNat,by omega⟩
theorem bbE (a b:Bool):RF.ev (.bbin .eql) [.v (.bool a),.v (.bool b)]=some (.v (.bool (a==b))):=rfl
open Classical in
theorem OX (s:Slots)(hf:s.free.length≤1000):Ans D 345 [SL s] [.i64 (okE (decide s.okR))]:=by
 refine ans_of FX NT rfl ⟨1001,?_⟩;unfold v7;simp only[den_lt,shSL,cSL0,cSL1,cSL2,EV,List.length_map,decide_eq_true_eq,Bool.not_eq_true',decide_eq_false_iff_not];have no: ∀h:¬s.okR,(some [PV.v (.int .i64 8)]:Option (List PV))=some [.i64 (okE (decide s.okR))]:=fun h=>by rw[decide_eq_false h];rfl
 by_cases h1:s.uses.length<1
 ·rw[if_pos (by omega)];exact no (fun h=>by have:=h.1;omega)
 ·rw[if_neg (by omega)];by_cases h2:200<s.uses.length
  ·rw[if_pos (by omega)];exact no (fun h=>by have:=h.2.1;omega)
  ·rw[if_neg (by omega)];by_cases h3:s.used.length=s.uses.length
   ·rw[if_neg (by omega)];by_cases h4:s.uses.length<s.free.length
    ·rw[if_pos (by omega)];exact no (fun h=>by have:=h.2.2.2.1;omega)
    ·rw[if_neg (by omega)];have hrep:RF.ev (.rep [.v (.bool false)] 1) [.v (.int .i64 (s.uses.length:Int)),.v (.int .i64 (s.uses.length:Int))]=some (sl B1 (List.replicate s.uses.length false)):=by
      rw[xn,if_pos ⟨by omega,by omega,by omega,by omega⟩,Int.toNat_natCast];show _=some (PV.sl ((List.replicate s.uses.length false).map B1))
      rw[List.map_replicate];rfl
     simp only[hrep,denF_some,l_cons,l_nil,den_lt,EV,List.length_map,List.length_replicate];refine(fv (l:=s.free) (g:=fun l x=>if 0≤x∧x<l.length∧l[x.toNat]?=some false then some (l.set x.toNat true) else none) (I:=fun l=>l.length=s.uses.length) (S:=fun l i=>[sl B1 l,.i64 (i:Int)]) (r:=some [.i64 8])
      (fin:=fun _=>some [.i64 (okE (decide s.okR))]) (x:=List.replicate s.uses.length false) (by simp) (fun a acc acc' hI hg=>?_) (fun i x acc self hx hI=>?_) (fun acc self hI hm=>?_) (by omega)).trans ?_
     ·split at hg
      ·cases hg;simpa using hI
      ·cases hg
     ·unfold p9;have hi:=get_lt hx;simp only[den_lt,cSL2,tixM hx (lenI _),eltM hx,rowI,EV,List.length_map,decide_eq_true_eq,if_lt hi];by_cases c1:x<0
      ·rw[if_pos c1,if_neg (by omega)]
      ·rw[if_neg c1];by_cases c2:(s.uses.length:Int)≤x
       ·rw[if_pos c2,if_neg (by rw[hI];omega)]
       ·rw[if_neg c2];obtain⟨n,rfl⟩:=eH (show 0≤x by omega)
        obtain⟨b,hb⟩: ∃b,acc[n]?=some b:=⟨acc[n]'(by omega),List.getElem?_eq_getElem _⟩;simp only[den_lt,cSL2,tixM hx (lenI _),eltM hx,rowI,ixM (show n<s.uses.length by omega),eltM hb,fq,setB (show n<acc.length by omega),EV,up1 (show i<1000000000 by omega)]
        cases b with
        |true=>rw[if_pos rfl,if_neg (by rw[Int.toNat_natCast,hb];simp)]
        |false=>rw[if_neg (by simp),if_pos ⟨by omega,by omega,by rw[Int.toNat_natCast];exact hb⟩,Int.toNat_natCast]
     ·unfold p9;simp only[den_lt,cSL2,EV,List.length_map,decide_eq_true_eq,if_ge,Ao];rw[←cO] at hm;have hlist:(List.range s.uses.length).length=s.uses.length:=List.length_range;refine(run_if (n:=s.uses.length) (P:=fun i=> ∀(u:Int) (b c:Bool),s.uses[i]?=some u→s.used[i]?=some b→acc[i]?=some c→0≤u∧u≤1000000∧b≠c∧¬(b=true∧u<1)) (st:=fun i=>[.i64 (i:Int)]) (r:=some [.i64 8]) (fin:=some [.i64 0]) (fun i self hi _=>?_) (fun _ self=>?_) (by omega)).trans ?_
      ·obtain⟨u,hu⟩: ∃u,s.uses[i]?=some u:=⟨s.uses[i],List.getElem?_eq_getElem _⟩;obtain⟨b,hb⟩: ∃b,s.used[i]?=some b:=⟨s.used[i]'(by omega),List.getElem?_eq_getElem _⟩;obtain⟨c,hc⟩: ∃c,acc[i]?=some c:=⟨acc[i]'(by omega),List.getElem?_eq_getElem _⟩;have hP:(∀(u':Int) (b' c':Bool),s.uses[i]?=some u'→s.used[i]?=some b'→acc[i]?=some c'→0≤u'∧u'≤1000000∧b'≠c'∧¬(b'=true∧u'<1))↔(0≤u∧u≤1000000∧b≠c∧¬(b=true∧u<1)):=
        ⟨fun h=>h u b c hu hb hc,fun h u' b' c' h1 h2 h3=>by rw[hu] at h1;rw[hb] at h2;rw[hc] at h3;cases h1;cases h2;cases h3;exact h⟩
       unfold p8;simp only[hP,den_lt,cSL0,cSL1,tixM hu (lenI _),eltM hu,rowI,tixM hb (eG _),eltM hb,fq,ixM hi,eltM hc,bbE,EV,decide_eq_true_eq,if_lt hi,An,up1 (show i<1000000000 by omega)]
       by_cases c1:u<0
       ·simp only[if_pos c1,eq_self,if_true];rw[if_neg (fun h=>by omega)]
       ·simp only[if_neg c1];by_cases c2:1000000<u
        ·simp only[if_pos c2,eq_self,if_true];rw[if_neg (fun h=>by omega)]
        ·simp only[if_neg c2];cases b<;>cases c<;>simp only[beq_self_eq_true,Bool.false_eq_true,if_true,if_false,eq_self,ne_eq,not_true_eq_false,not_false_eq_true,false_and,and_false,true_and,and_true,decide_eq_true_eq,show(true==false)=false from rfl,show(false==true)=false from rfl,reduceCtorEq]
         ·rw[if_pos (by omega)]
         ·by_cases c3:u<1
          ·rw[if_pos c3,if_neg (fun h=>by omega)]
          ·rw[if_neg c3,if_pos (by omega)]
      ·unfold p8;simp only[EV,decide_eq_true_eq,if_ge,Am]
      ·have:(∀i,i<s.uses.length→ ∀(u:Int) (b c:Bool),s.uses[i]?=some u→s.used[i]?=some b→acc[i]?=some c→0≤u∧u≤1000000∧b≠c∧¬(b=true∧u<1))↔s.okR:=by
        unfold Slots.okR;constructor
        ·intro h;exact⟨by omega,by omega,h3,by omega,acc,hm,fun i u b c hu hb hc=>h i (get_lt hu) u b c hu hb hc⟩
        ·rintro⟨_,_,_,_,l,hl,h⟩ i hi u b c hu hb hc;rw[hm] at hl;cases hl;exact h i u b c hu hb hc
       by_cases hr:s.okR
       ·rw[if_pos (this.2 hr),decide_eq_true hr];rfl
       ·rw[if_neg (fun h=>hr (this.1 h)),decide_eq_false hr];rfl
     ·rw[←cO];cases hm:markF (List.replicate s.uses.length false) s.free with
      |some l=>rfl
      |none=>exact no (fun h=>by obtain⟨_,_,_,_,l,hl,_⟩:=h;rw[hm] at hl;cases hl)
   ·rw[if_pos (by omega)];exact no (fun h=>h3 h.2.2.1)
def evLess (x y:Evt):Bool:=decide (sgn (crs x.time y.time)<0)||(decide (sgn (crs x.time y.time)=0)&& decide (x.number<y.number))
theorem kI (e:Evt):RF.ev (.shape 5) [EP e]=some (EP e):=rfl
theorem pEP (e:Evt):RF.ev (.part 0 2) [EP e]=some (R e.time):=rfl
theorem cEP2 (e:Evt):RF.ev (.cell 2) [EP e]=some (.i64 e.number):=rfl
theorem c347 {x y:Evt}(hx:In64 x.time)(hy:In64 y.time):Ans D 347 [EP x,EP y] [.bool (evLess x y)]:=by
 refine ans_of FZ NV rfl ⟨1,?_⟩;unfold wa evLess;simp only[den_lt,kI,pEP,cEP2,EV,phi (Ov hx hy),Aq,decide_eq_true_eq];by_cases h1:sgn (crs x.time y.time)<0
 ·simp[h1]
 ·rw[if_neg h1,decide_eq_false h1,Bool.false_or];by_cases h2:sgn (crs x.time y.time)=0
  ·rw[if_pos h2,decide_eq_true h2,Bool.true_and]
  ·rw[if_neg h2,decide_eq_false h2,Bool.false_and]
def HD (h:Hnd):PV:= .agg [.i64 h.index,.i64 h.use]
theorem shHD (h:Hnd):RF.ev (.shape 2) [HD h]=some (HD h):=rfl
theorem cHD0 (h:Hnd):RF.ev (.cell 0) [HD h]=some (.i64 h.index):=rfl
theorem Is (h:Hnd):RF.ev (.cell 1) [HD h]=some (.i64 h.use):=rfl
theorem CI (e:Evt):rowPart 3 2 (erow e)=some (HD e.hnd):=rfl
theorem CJ (e:Evt):rowPart 3 0 (erow e)=some (.i64 e.hnd.index):=rfl
theorem rowE2 (e:Evt):rowPart 2 0 (erow e)=some (.i64 e.number):=rfl
def aO (s:Slots)(h:Hnd):Prop:=0≤h.index∧s.used[h.index.toNat]?=some true∧s.uses[h.index.toNat]?=some h.use
open Classical in
theorem c349 {s:Slots}(hs:s.used.length=s.uses.length)(h:Hnd):Ans D 349 [SL s,HD h] [.bool (decide (aO s h))]:=by
 refine ans_of F1 NX rfl ⟨1,?_⟩;unfold wc;simp only[den_lt,shSL,shHD,cHD0,Is,cSL0,cSL1,EV,List.length_map,decide_eq_true_eq,Ar,ge_iff_le];by_cases h1:0≤h.index
 ·rw[if_pos h1];obtain⟨n,hn⟩:=eH h1;obtain⟨ix,us⟩:=h;simp only at hn;subst hn;by_cases h2:n<s.uses.length
  ·obtain⟨u,hu⟩: ∃u,s.uses[n]?=some u:=⟨s.uses[n],List.getElem?_eq_getElem _⟩;obtain⟨b,hb⟩: ∃b,s.used[n]?=some b:=⟨s.used[n]'(by omega),List.getElem?_eq_getElem _⟩;simp only[if_lt h2,den_lt,cHD0,Is,cSL0,cSL1,tixM hu (lenI _),eltM hu,rowI,tixM hb (eG _),eltM hb,fq,EV];have:decide (aO s ⟨(n:Int),us⟩)=(b&& decide (u=us)):=by rw[Bool.eq_iff_iff];simp[aO,hu,hb]
   rw[this];cases b<;>simp
  ·rw[if_neg (show¬((n:Int)<(s.uses.length:Int)) by omega),decide_eq_false (fun hh=>by
    have h3:=(List.getElem?_eq_some_iff.1 hh.2.2).1;exact h2 h3)]
 ·rw[if_neg h1,decide_eq_false (fun hh=>h1 hh.1)]
def dB (a:Agenda):Prop:=a.wher.length=a.slots.uses.length∧a.heap.length+a.slots.free.length=a.slots.uses.length∧
 ∀(i:Nat) (b:Bool) (w u:Int),a.slots.used[i]?=some b→a.wher[i]?=some w→a.slots.uses[i]?=some u→if b=true then 0≤w∧ ∃e,a.heap[w.toNat]?=some e∧e.hnd=⟨i,u⟩ else w= -1
open Classical in
theorem OY {a:Agenda}(hs:a.slots.used.length=a.slots.uses.length)(hl:a.slots.uses.length≤1000)(hf:a.slots.free.length≤1000):Ans D 346 [AG a] [.bool (decide (dB a))]:=by
 have cAG0:RF.ev (.cell 0) [AG a]=some (sl I1 a.slots.uses):=rfl;have cAG1:RF.ev (.cell 1) [AG a]=some (sl B1 a.slots.used):=rfl;have cAG2:RF.ev (.cell 2) [AG a]=some (sl I1 a.slots.free):=rfl;refine ans_of FY NU rfl ⟨1001,?_⟩;unfold v8;simp only[den_lt,shAG,cAG0,cAG2,cAG3,cAG4,EV,List.length_map,decide_eq_true_eq,Bool.not_eq_true',decide_eq_false_iff_not,ah (show-9223372036854775808≤(a.slots.uses.length:Int)-(a.slots.free.length:Int) by omega) (by omega)]
 by_cases h1:a.wher.length=a.slots.uses.length
 ·rw[if_neg (by omega)];by_cases h2:a.heap.length+a.slots.free.length=a.slots.uses.length
  ·rw[if_neg (by omega)];refine(run_if (n:=a.slots.uses.length) (P:=fun i=> ∀(b:Bool) (w u:Int),a.slots.used[i]?=some b→a.wher[i]?=some w→a.slots.uses[i]?=some u→if b=true then 0≤w∧ ∃e,a.heap[w.toNat]?=some e∧e.hnd=⟨i,u⟩ else w= -1) (st:=fun i=>[.i64 (i:Int)]) (r:=some [.bool false]) (fin:=some [.bool true]) (fun i self hi _=>?_) (fun _ self=>?_) (by omega)).trans ?_
   ·obtain⟨u,hu⟩: ∃u,a.slots.uses[i]?=some u:=⟨a.slots.uses[i],List.getElem?_eq_getElem _⟩;obtain⟨b,hb⟩: ∃b,a.slots.used[i]?=some b:=⟨a.slots.used[i]'(by omega),List.getElem?_eq_getElem _⟩;obtain⟨w,hw⟩: ∃w,a.wher[i]?=some w:=⟨a.wher[i]'(by omega),List.getElem?_eq_getElem _⟩;have hP:(∀(b':Bool) (w' u':Int),a.slots.used[i]?=some b'→a.wher[i]?=some w'→a.slots.uses[i]?=some u'→if b'=true then 0≤w'∧ ∃e,a.heap[w'.toNat]?=some e∧e.hnd=⟨i,u'⟩ else w'= -1)↔(if b=true then 0≤w∧ ∃e,a.heap[w.toNat]?=some e∧e.hnd=⟨i,u⟩ else w= -1):=
     ⟨fun h=>h b w u hb hw hu,fun h b' w' u' h1 h2 h3=>by rw[hu] at h3;rw[hb] at h1;rw[hw] at h2;cases h1;cases h2;cases h3;exact h⟩
    unfold qb;simp only[hP,den_lt,cAG1,cAG3,cAG4,pAG,tixM hb (eG _),eltM hb,fq,tixM hw (lenI _),eltM hw,rowI,EV,List.length_map,decide_eq_true_eq,if_lt hi,qa,up1 (show i<1000000000 by omega),Bool.not_eq_true',decide_eq_false_iff_not]
    cases b with
    |false=>
     simp only[Bool.false_eq_true,if_false,eq_self,if_true];by_cases c1:w= -1
     ·rw[if_neg (by simp[c1]),if_pos c1]
     ·rw[if_pos c1,if_neg c1]
    |true=>
     simp only[Bool.true_eq_false,if_false,eq_self,if_true];by_cases c1:w<0
     ·rw[if_pos c1,if_neg (fun h=>by omega)]
     ·rw[if_neg c1];obtain⟨n,rfl⟩:=eH (show 0≤w by omega)
      by_cases c2:n<a.heap.length
      ·obtain⟨e,he⟩: ∃e,a.heap[n]?=some e:=⟨a.heap[n],List.getElem?_eq_getElem _⟩;rw[if_neg (by omega)];simp only[den_lt,cAG3,pAG,tixM he (lenE _),eltM he,CJ,CI,phi (c349 hs _),EV,Bool.not_eq_true',decide_eq_false_iff_not,Int.toNat_natCast,he,Option.some.injEq,exists_eq_left',qa,up1 (show i<1000000000 by omega)]
       by_cases c3:e.hnd.index=(i:Int)
       ·rw[if_neg (by simp[c3])];have hlive:aO a.slots e.hnd↔e.hnd=⟨i,u⟩:=by
         unfold aO;rw[c3,Int.toNat_natCast,hb,hu];generalize e.hnd=q at c3⊢;obtain⟨x,y⟩:=q;simp only at c3;subst c3;simp only[Option.some.injEq,Hnd.mk.injEq,true_and];exact⟨fun h=>h.2.symm,fun h=>⟨by omega,h.symm⟩⟩
        by_cases c4:e.hnd=⟨i,u⟩
        ·rw[if_neg (by simp[hlive.2 c4]),if_pos ⟨by omega,c4⟩]
        ·rw[if_pos (fun h=>c4 (hlive.1 h)),if_neg (fun h=>c4 h.2)]
       ·rw[if_pos c3,if_neg (fun h=>c3 (by rw[h.2]))]
      ·rw[if_pos (by omega),if_neg (fun h=>by
        obtain⟨_,e,he,_⟩:=h;rw[Int.toNat_natCast] at he;exact c2 (get_lt he))]
   ·unfold qb;simp only[EV,decide_eq_true_eq,if_ge,Ap]
   ·have:(∀i,i<a.slots.uses.length→ ∀(b:Bool) (w u:Int),a.slots.used[i]?=some b→a.wher[i]?=some w→a.slots.uses[i]?=some u→if b=true then 0≤w∧ ∃e,a.heap[w.toNat]?=some e∧e.hnd=⟨i,u⟩ else w= -1)↔dB a:=
     ⟨fun h=>⟨h1,h2,fun i b w u hb hw hu=>h i (get_lt hu) b w u hb hw hu⟩,fun h i _=>h.2.2 i⟩
    by_cases hr:dB a
    ·rw[if_pos (this.2 hr),decide_eq_true hr]
    ·rw[if_neg (fun h=>hr (this.1 h)),decide_eq_false hr]
  ·rw[if_pos (by omega),decide_eq_false (fun h=>h2 h.2.1)]
 ·rw[if_pos (by omega),decide_eq_false (fun h=>h1 h.1)]
def EvOk (e:Evt):Prop:=rok e.time=true∧0≤e.number∧e.number≤1000000
def aW (a:Agenda):Prop:=a.slots.okR∧dB a∧(∀e∈a.heap,EvOk e)∧(a.heap.map (·.number)).Nodup∧ ∀(i:Nat) (e p:Evt),a.heap[i+1]?=some e→a.heap[i/2]?=some p→evLess e p=false
theorem half {i:Nat}(h:i<1000000):intB .quo .i64 (IntKind.i64.wrap (((i+1:Nat):Int)-1)) .i64 2=some (.v (.int .i64 ((i/2:Nat):Int))):=by
 rw[fk (by omega),xp,if_neg (by decide),Int.tdiv_eq_ediv_of_nonneg (by omega),ah (by omega) (by omega)];rfl
open Classical in
theorem Bg {a:Agenda}(hl:a.heap.length≤1000)(hf:a.slots.free.length≤1000)(h64: ∀e∈a.heap,In64 e.time):Ans D 260 [AG a] [.i64 (okE (decide (aW a)))]:=by
 refine ans_of Fh Nd rfl ⟨1001,?_⟩;unfold vl;have no: ∀h:¬aW a,(some [PV.v (.int .i64 8)]:Option (List PV))=some [.i64 (okE (decide (aW a)))]:=fun h=>by rw[decide_eq_false h];rfl
 simp only[den_lt,shAG,pAG,EV,phi (OX a.slots hf),dz,decide_eq_true_eq];by_cases h1:a.slots.okR
 ·have h1':=h1;obtain⟨g1,g2,g3,g4,_⟩:=h1';rw[if_pos h1];simp only[EV,phi (OY g3 (by omega) hf),Bool.not_eq_true',decide_eq_false_iff_not];by_cases h2:dB a
  ·rw[if_neg (by simp[h2])];refine(run_if (n:=a.heap.length) (P:=fun i=> ∀e,a.heap[i]?=some e→EvOk e∧ ∀k,k<i→ ∀e',a.heap[k]?=some e'→e'.number≠e.number) (st:=fun i=>[.i64 (i:Int)]) (r:=some [.i64 8]) (fin:=some [.i64 (okE (decide (∀(i:Nat) (e p:Evt),a.heap[i+1]?=some e→a.heap[i/2]?=some p→evLess e p=false)))]) (fun i self hi _=>?_) (fun _ self=>?_) (by omega)).trans ?_
   ·obtain⟨e,he⟩: ∃e,a.heap[i]?=some e:=⟨a.heap[i],List.getElem?_eq_getElem _⟩;have hP:(∀e',a.heap[i]?=some e'→EvOk e'∧ ∀k,k<i→ ∀x,a.heap[k]?=some x→x.number≠e'.number)↔(EvOk e∧ ∀k,k<i→ ∀x,a.heap[k]?=some x→x.number≠e.number):=
     ⟨fun h=>h e he,fun h e' h1=>by rw[he] at h1;cases h1;exact h⟩
    unfold pB;simp only[hP,den_lt,cAG3,tixM he (lenE _),eltM he,rowE,pEP,cEP2,phi (dU (h64 e (List.mem_of_getElem? he))),dz,EV,List.length_map,decide_eq_true_eq,if_lt hi];cases c1:rok e.time with
    |false=>
     simp only[Bool.false_eq_true,if_false];rw[if_neg (fun h=>by rw[h.1.1] at c1;cases c1)]
    |true=>
     simp only[if_true];by_cases c2:e.number<0
     ·rw[if_pos c2,if_neg (fun h=>by have:=h.1.2;omega)]
     ·rw[if_neg c2];by_cases c3:1000000<e.number
      ·rw[if_pos c3,if_neg (fun h=>by have:=h.1.2;omega)]
      ·rw[if_neg c3];refine(run_if (n:=i) (P:=fun k=> ∀x,a.heap[k]?=some x→x.number≠e.number) (st:=fun i=>[.i64 (i:Int)]) (r:=some [.i64 8]) (fin:=self [.i64 ((i+1:Nat):Int)]) (fun k self' hk _=>?_) (fun _ self'=>?_) (by omega)).trans ?_
       ·obtain⟨x,hx⟩: ∃x,a.heap[k]?=some x:=⟨a.heap[k]'(by omega),List.getElem?_eq_getElem _⟩;have hQ:(∀y,a.heap[k]?=some y→y.number≠e.number)↔x.number≠e.number:=⟨fun h=>h x hx,fun h y hy=>by rw[hx] at hy;cases hy;exact h⟩;unfold k260_5;simp only[hQ,den_lt,cAG3,tixM hx (lenE _),eltM hx,rowE2,cEP2,EV,decide_eq_true_eq,if_lt hk,up1 (show k<1000000000 by omega)]
        by_cases c4:x.number=e.number
        ·rw[if_pos c4,if_neg (by simp[c4])]
        ·rw[if_neg c4,if_pos c4]
       ·unfold k260_5;simp only[EV,decide_eq_true_eq,if_ge,zT,up1 (show i<1000000000 by omega)]
       ·by_cases c5: ∀k,k<i→ ∀x,a.heap[k]?=some x→x.number≠e.number
        ·rw[if_pos c5,if_pos ⟨⟨c1,by omega,by omega⟩,c5⟩]
        ·rw[if_neg c5,if_neg (fun h=>c5 h.2)]
   ·unfold pB;simp only[den_lt,cAG3,EV,List.length_map,decide_eq_true_eq,if_ge,zS];refine(run_if (n:=a.heap.length-1) (P:=fun i=> ∀e p,a.heap[i+1]?=some e→a.heap[i/2]?=some p→evLess e p=false) (st:=fun i=>[.i64 ((i+1:Nat):Int)]) (r:=some [.i64 8]) (fin:=some [.i64 0]) (fun i self hi _=>?_) (fun _ self=>?_) (by omega)).trans ?_
    ·obtain⟨e,he⟩: ∃e,a.heap[i+1]?=some e:=⟨a.heap[i+1],List.getElem?_eq_getElem _⟩;obtain⟨p,hp⟩: ∃p,a.heap[i/2]?=some p:=⟨a.heap[i/2]'(by omega),List.getElem?_eq_getElem _⟩;have hQ:(∀e' p',a.heap[i+1]?=some e'→a.heap[i/2]?=some p'→evLess e' p'=false)↔evLess e p=false:=⟨fun h=>h e p he hp,fun h e' p' h1 h2=>by rw[he] at h1;rw[hp] at h2;cases h1;cases h2;exact h⟩;unfold k260_2;simp only[hQ,den_lt,cAG3,tixM he (lenE _),eltM he,rowE,tixM hp (lenE _),eltM hp,half (show i<1000000 by omega),phi (c347 (h64 e (List.mem_of_getElem? he)) (h64 p (List.mem_of_getElem? hp))),f_bin,EV,List.length_map,decide_eq_true_eq,if_lt (get_lt he),up1 (show i+1<1000000000 by omega)]
     cases evLess e p<;>simp
    ·unfold k260_2;simp only[den_lt,cAG3,EV,List.length_map,decide_eq_true_eq,zR];rw[if_neg (by omega)]
    ·have:(∀i,i<a.heap.length-1→ ∀e p,a.heap[i+1]?=some e→a.heap[i/2]?=some p→evLess e p=false)↔ ∀(i:Nat) (e p:Evt),a.heap[i+1]?=some e→a.heap[i/2]?=some p→evLess e p=false:=
      ⟨fun h i e p he hp=>h i (by have:=get_lt he;omega) e p he hp,fun h i _=>h i⟩
     by_cases hr: ∀(i:Nat) (e p:Evt),a.heap[i+1]?=some e→a.heap[i/2]?=some p→evLess e p=false
     ·rw[if_pos (this.2 hr),decide_eq_true hr];rfl
     ·rw[if_neg (fun h=>hr (this.1 h)),decide_eq_false hr];rfl
   ·have:(∀i,i<a.heap.length→ ∀e,a.heap[i]?=some e→EvOk e∧ ∀k,k<i→ ∀e',a.heap[k]?=some e'→e'.number≠e.number)↔((∀e∈a.heap,EvOk e)∧(a.heap.map (·.number)).Nodup):=by
     rw[nodup_lt];constructor
     ·intro h;refine⟨fun e he=>?_,fun i j x hj hi hjx=>?_⟩
      ·obtain⟨i,hi⟩:=List.mem_iff_getElem?.1 he;exact(h i (get_lt hi) e hi).1
      ·rw[List.getElem?_map,Option.map_eq_some_iff] at hi hjx;obtain⟨e,he,rfl⟩:=hi;obtain⟨e',he',h'⟩:=hjx;exact(h i (get_lt he) e he).2 j hj e' he' h'
     ·rintro⟨h3,h4⟩ i hi e he;refine⟨h3 e (List.mem_of_getElem? he),fun k hk e' he' hn=>?_⟩;exact h4 i k e.number hk (by rw[List.getElem?_map,he];rfl) (by rw[List.getElem?_map,he',Option.map_some,hn])
    by_cases hr:(∀e∈a.heap,EvOk e)∧(a.heap.map (·.number)).Nodup
    ·rw[if_pos (this.2 hr)]
     congr 4
     rw[decide_eq_decide];exact⟨fun h=>⟨h1,h2,hr.1,hr.2,h⟩,fun h=>h.2.2.2.2⟩
    ·rw[if_neg (fun h=>hr (this.1 h))];exact no (fun h=>hr ⟨h.2.2.1,h.2.2.2.1⟩)
  ·rw[if_pos h2];exact no (fun h=>h2 h.2.1)
 ·rw[if_neg h1];exact no (fun h=>h1 h.1)
def Crt.ok (c:Crt):Prop:=0≤c.low∧c.low≤65535∧0≤c.high∧c.high≤65535∧c.low≠c.high
instance (c:Crt):Decidable c.ok:=by unfold Crt.ok;infer_instance
theorem It (c:Crt):Ans D 344 [CP c] [.bool (decide c.ok)]:=by
 refine ans_of FW NS rfl ⟨1,?_⟩;unfold v6 Crt.ok;simp only[den_lt,shCP,cCP0,cCP1,EV,Ak,decide_eq_true_eq,ge_iff_le];by_cases h1:0≤c.low<;>by_cases h2:c.low≤65535<;>by_cases h3:0≤c.high<;>by_cases h4:c.high≤65535<;>simp[h1,h2,h3,h4]
theorem Iu (c:Crt):Ans D 324 [CP c] [.bool (decide c.ok)]:=by
 have m1:RF.ev (.mm false) [.i64 c.low,.i64 c.high]=some (.i64 (min c.low c.high)):=rfl;have m2:RF.ev (.mm true) [.i64 c.low,.i64 c.high]=some (.i64 (max c.low c.high)):=rfl;refine ans_of FO NL rfl ⟨1,?_⟩;unfold vU Crt.ok;simp only[den_lt,shCP,cCP0,cCP1,m1,m2,EV,Ag,decide_eq_true_eq,ge_iff_le];by_cases h1:0≤c.low<;>by_cases h2:c.low≤65535<;>by_cases h3:0≤c.high<;>by_cases h4:c.high≤65535<;>simp[h1,h2,h3,h4,Int.le_min,Int.max_le]
def aq (c:Certs):Prop:=c.list.length≤200∧0≤c.next∧c.next≤1000000∧ ∀(i:Nat) (h:Held),c.list[i]?=some h→h.cert.ok∧0≤h.number∧h.number<c.next∧(∀g,0<i→c.list[i-1]?=some g→g.number<h.number)∧ ∀k,k<i→ ∀g,c.list[k]?=some g→g.cert≠h.cert
open Classical in
theorem Iw (c:Certs):Ans D 258 [CS c] [.i64 (okE (decide (aq c)))]:=by
 refine ans_of Ff Nb rfl ⟨1001,?_⟩;unfold vg;have no: ∀h:¬aq c,(some [PV.v (.int .i64 8)]:Option (List PV))=some [.i64 (okE (decide (aq c)))]:=fun h=>by rw[decide_eq_false h];rfl
 simp only[den_lt,shCS,cCS0,cCS1,EV,List.length_map,decide_eq_true_eq];by_cases h1:200<c.list.length
 ·rw[if_pos (by omega)];exact no (fun h=>by have:=h.1;omega)
 ·rw[if_neg (by omega)];by_cases h2:c.next<0
  ·rw[if_pos h2];exact no (fun h=>by have:=h.2.1;omega)
  ·rw[if_neg h2];by_cases h3:1000000<c.next
   ·rw[if_pos h3];exact no (fun h=>by have:=h.2.2.1;omega)
   ·rw[if_neg h3];refine(run_if (n:=c.list.length) (P:=fun i=> ∀h,c.list[i]?=some h→h.cert.ok∧0≤h.number∧h.number<c.next∧(∀g,0<i→c.list[i-1]?=some g→g.number<h.number)∧ ∀k,k<i→ ∀g,c.list[k]?=some g→g.cert≠h.cert) (st:=fun i=>[.i64 (i:Int)]) (r:=some [.i64 8]) (fin:=some [.i64 0]) (fun i self hi _=>?_) (fun _ self=>?_) (by omega)).trans ?_
    ·obtain⟨h,hh⟩: ∃h,c.list[i]?=some h:=⟨c.list[i],List.getElem?_eq_getElem _⟩;have hP:(∀h',c.list[i]?=some h'→h'.cert.ok∧0≤h'.number∧h'.number<c.next∧(∀g,0<i→c.list[i-1]?=some g→g.number<h'.number)∧ ∀k,k<i→ ∀g,c.list[k]?=some g→g.cert≠h'.cert)↔(h.cert.ok∧0≤h.number∧h.number<c.next∧(∀g,0<i→c.list[i-1]?=some g→g.number<h.number)∧ ∀k,k<i→ ∀g,c.list[k]?=some g→g.cert≠h.cert):=
      ⟨fun x=>x h hh,fun x h' e=>by rw[hh] at e;cases e;exact x⟩
     have inner: ∀(f:JT) (e0 e2 e3 e4 e5 e6 e7 e8 e10 e11 e12 e13 e14 e16 e17 e18 e19 e20:PV),den (PhiS D) 1001 d6 [f,self] [e0,CS c,e2,e3,e4,e5,e6,e7,e8,.i64 (i:Int),e10,e11,e12,e13,e14,HP h,e16,e17,e18,e19,e20,.v (.bool false)]=if(∀k,k<i→ ∀g,c.list[k]?=some g→g.cert≠h.cert) then self [.i64 ((i+1:Nat):Int)] else some [.i64 8]:=fun f e0 e2 e3 e4 e5 e6 e7 e8 e10 e11 e12 e13 e14 e16 e17 e18 e19 e20=>by
      unfold d6;simp only[EV,Bool.false_eq_true,if_false];refine(run_if (m:=1001) (n:=i) (P:=fun k=> ∀g,c.list[k]?=some g→g.cert≠h.cert) (st:=fun i=>[.i64 (i:Int)]) (r:=some [.i64 8]) (fin:=self [.i64 ((i+1:Nat):Int)]) (fun k self' hk _=>?_) (fun _ self'=>?_) (by omega)).trans ?_
      ·obtain⟨g,hg⟩: ∃g,c.list[k]?=some g:=⟨c.list[k]'(by omega),List.getElem?_eq_getElem _⟩;have hQ:(∀y,c.list[k]?=some y→y.cert≠h.cert)↔g.cert≠h.cert:=⟨fun x=>x g hg,fun x y hy=>by rw[hg] at hy;cases hy;exact x⟩;unfold k258_3;simp only[hQ,den_lt,cCS1,tixM hg (lenH _),eltM hg,rowHc,pHP,eqvC,EV,decide_eq_true_eq,if_lt hk,up1 (show k<1000000000 by omega)]
       by_cases c4:g.cert=h.cert
       ·rw[if_pos c4,if_neg (by simp[c4])]
       ·rw[if_neg c4,if_pos c4]
      ·unfold k258_3;simp only[EV,decide_eq_true_eq,if_ge,zP,up1 (show i<1000000000 by omega)]
      ·by_cases hq: ∀k,k<i→ ∀g,c.list[k]?=some g→g.cert≠h.cert
       ·rw[if_pos hq,if_pos hq]
       ·rw[if_neg hq,if_neg hq]
     unfold pz;simp only[hP,den_lt,cCS0,cCS1,tixM hh (lenH _),eltM hh,rowH,pHP,cHP0,phi (It _),EV,List.length_map,decide_eq_true_eq,if_lt hi,Bool.not_eq_true',decide_eq_false_iff_not,ge_iff_le,gt_iff_lt];by_cases c1:h.cert.ok
     ·rw[if_neg (not_not_intro c1)];by_cases c2:h.number<0
      ·rw[if_pos c2,if_neg (fun x=>by have:=x.2.1;omega)];unfold d6;simp only[EV,eq_self,if_true]
      ·rw[if_neg c2];by_cases c3:c.next≤h.number
       ·rw[if_pos c3,if_neg (fun x=>by have:=x.2.2.1;omega)];unfold d6;simp only[EV,eq_self,if_true]
       ·rw[if_neg c3];cases i with
        |zero=>
         rw[if_neg (by omega)];refine(inner ..).trans ?_;rw[if_pos (fun k hk=>by omega),if_pos ⟨c1,by omega,by omega,fun g h0=>by omega,fun k hk=>by omega⟩]
        |succ j=>
         obtain⟨g,hg⟩: ∃g,c.list[j]?=some g:=⟨c.list[j]'(by omega),List.getElem?_eq_getElem _⟩;rw[if_pos (by omega)];simp only[den_lt,cHP0,fk (show j<1000000000 by omega),tixM hg (lenH _),eltM hg,KN,EV,ge_iff_le]
         by_cases c4:h.number≤g.number
         ·rw[decide_eq_true c4,if_neg (fun x=>by have:=x.2.2.2.1 g (by omega) (by simpa using hg);omega)]
          unfold d6;simp only[EV,eq_self,if_true]
         ·rw[decide_eq_false c4];refine(inner ..).trans ?_;by_cases c5: ∀k,k<j+1→ ∀g,c.list[k]?=some g→g.cert≠h.cert
          ·rw[if_pos c5,if_pos ⟨c1,by omega,by omega,fun g' _ hg'=>by
            rw[show j+1-1=j by omega,hg] at hg';cases hg';omega,c5⟩]
          ·rw[if_neg c5,if_neg (fun x=>c5 x.2.2.2.2)]
     ·rw[if_pos c1,if_neg (fun x=>c1 x.1)];unfold d6;simp only[EV,eq_self,if_true]
    ·unfold pz;simp only[den_lt,cCS1,EV,List.length_map,decide_eq_true_eq,if_ge,zO]
    ·have:(∀i,i<c.list.length→ ∀h,c.list[i]?=some h→h.cert.ok∧0≤h.number∧h.number<c.next∧(∀g,0<i→c.list[i-1]?=some g→g.number<h.number)∧ ∀k,k<i→ ∀g,c.list[k]?=some g→g.cert≠h.cert)↔aq c:=
      ⟨fun h=>⟨by omega,by omega,by omega,fun i x hx=>h i (get_lt hx) x hx⟩,fun h i _=>h.2.2.2 i⟩
     by_cases hr:aq c
     ·rw[if_pos (this.2 hr),decide_eq_true hr];rfl
     ·rw[if_neg (fun h=>hr (this.1 h)),decide_eq_false hr];rfl
def inF (l:List Pt)(id:Int):Bool:=decide (0≤pos l id)
theorem aU {l:List Pt}(h:okF l){id:Int}(hi:inF l id=true): ∃(i:Nat) (p:Pt),l[i]?=some p∧p.id=id∧pos l id=(i:Nat)∧ptOf l id=p:=by
 unfold inF at hi;have hi:=of_decide_eq_true hi;rcases pos_cases l id with⟨e,_⟩|⟨i,p,h1,h2,h3⟩
 ·omega
 ·exact⟨i,p,h1,h2,h3,by rw[←h2];exact ptOf_some h h1⟩
theorem rE {l:List Pt}{id:Int}(hi:inF l id=false): ∀p∈l,p.id≠id:=by
 unfold inF at hi;have hi:=of_decide_eq_false hi;rcases pos_cases l id with⟨_,h⟩|⟨i,p,h1,h2,h3⟩
 ·exact h
 ·omega
def knownH (l:List Pt)(h:Held):Bool:=inF l h.cert.low&& inF l h.cert.high
theorem OZ {c:Certs}{l:List Pt}(hl:l.length≤1000)(hc:c.list.length≤1000):Ans D 259 [CS c,F l] [.bool (c.list.all (knownH l))]:=by
 refine ans_of Fg Nc rfl ⟨1001,?_⟩;unfold vk;simp only[den_lt,shCS,shapeF,EV];refine(run_list (l:=c.list) (p:=knownH l) (st:=fun i=>[.i64 (i:Int)]) (r:=some [.bool false]) (fin:=some [.bool true]) (fun i h self hh _=>?_) (fun _ self=>?_) (by omega)).trans ?_
 ·unfold pA knownH inF;simp only[den_lt,cCS1,tixM hh (lenH _),eltM hh,KO,KQ,phi (dG hl _),EV,List.length_map,decide_eq_true_eq,if_lt (get_lt hh),up1 (show i<1000000000 by have:=get_lt hh;omega),Bool.and_eq_true]
  by_cases h1:pos l h.cert.low<0
  ·rw[if_pos h1,if_neg (fun x=>by omega)]
  ·rw[if_neg h1];by_cases h2:pos l h.cert.high<0
   ·rw[if_pos h2,if_neg (fun x=>by omega)]
   ·rw[if_neg h2,if_pos ⟨by omega,by omega⟩]
 ·unfold pA;simp only[den_lt,cCS1,EV,List.length_map,decide_eq_true_eq,if_ge,zQ]
 ·cases c.list.all (knownH l)<;>rfl
theorem KR {o:Option Nat}:o.elim (some [PV.bool false]) (fun _=>some [.bool true])=some [.bool o.isSome]:=by cases o<;>rfl
theorem Bh {c:Certs}{x:Crt}(hc:c.list.length≤1000):Ans D 263 [CS c,CP x] [.bool (c.list.any fun h=>decide (h.cert=x))]:=by
 refine ans_of Fi Nf rfl ⟨1001,?_⟩;unfold vn;simp only[den_lt,shCS,shCP,EV];refine(da (l:=c.list) (p:=fun h=>decide (h.cert=x)) (st:=fun i=>[.i64 (i:Int)]) (ret:=fun _=>some [.bool true]) (fin:=some [.bool false]) (fun i h self hh=>?_) (fun self=>?_) (by omega)).trans (KR.trans ?_)
 ·unfold pC;simp only[den_lt,cCS1,tixM hh (lenH _),eltM hh,rowHc,eqvC,EV,List.length_map,decide_eq_true_eq,if_lt (get_lt hh),up1 (show i<1000000000 by have:=get_lt hh;omega)]
 ·unfold pC;simp only[den_lt,cCS1,EV,List.length_map,decide_eq_true_eq,if_ge,zU]
 ·rw[List.findIdx?_isSome]
theorem O0 {x:Crt}{l:List Pt}{t:Rt}(h:okF l)(ht:In64 t)(h1:inF l x.low=true)(h2:inF l x.high=true):Ans D 264 [CP x,F l,R t] [.bool (leads t (ptOf l x.high) (ptOf l x.low))]:=by
 obtain⟨i,p,a1,a2,a3,a4⟩:=aU h h1;obtain⟨j,q,b1,b2,b3,b4⟩:=aU h h2;have q1:=phi (dG (l:=l) (by have:=h.1;omega) x.low);have q2:=phi (dG (l:=l) (by have:=h.1;omega) x.high);rw[a3] at q1;rw[b3] at q2;refine ans_of k264_ok s264 rfl ⟨1,?_⟩;unfold k264;simp only[den_lt,shCP,shapeF,shapeR,cCP0,cCP1,cellF,q1,q2,tixM a1 (row_len _),eltM a1,tixM b1 (row_len _),eltM b1,rowP,EV,phi (c323 (okF_pt h b1) (okF_pt h a1) ht),a4,b4]
theorem Ix {x:Crt}{l:List Pt}{t:Rt}(h:okF l)(ht:In64 t)(h1:inF l x.low=true)(h2:inF l x.high=true):Ans D 261 [F l,CP x,R t] [R (failT t (ptOf l x.high) (ptOf l x.low)).1,.bool (failT t (ptOf l x.high) (ptOf l x.low)).2]:=by
 obtain⟨i,p,a1,a2,a3,a4⟩:=aU h h1;obtain⟨j,q,b1,b2,b3,b4⟩:=aU h h2;have q1:=phi (dG (l:=l) (by have:=h.1;omega) x.low);have q2:=phi (dG (l:=l) (by have:=h.1;omega) x.high);rw[a3] at q1;rw[b3] at q2;refine ans_of k261_ok s261 rfl ⟨1,?_⟩;unfold k261;simp only[den_lt,shCP,shapeF,shapeR,cCP0,cCP1,cellF,q1,q2,tixM a1 (row_len _),eltM a1,tixM b1 (row_len _),eltM b1,rowP,flatRt,partR,EV,phi (c348 (okF_pt h b1) (okF_pt h a1) ht),a4,b4]
theorem Iy {x:Crt}{l:List Pt}{t:Rt}(h:okF l)(ht:In64 t):Ans D 246 [F l,CP x,R t] (if bS (ptOf l x.high) (ptOf l x.low) t=0 then [R (failT t (ptOf l x.high) (ptOf l x.low)).1,.bool (failT t (ptOf l x.high) (ptOf l x.low)).2,.i64 0] else [R ⟨0,0⟩,.bool false,.i64 (bS (ptOf l x.high) (ptOf l x.low) t)]):=by
 refine ans_of E9 M6 rfl ⟨1,?_⟩;unfold uZ;by_cases hz:bS (ptOf l x.high) (ptOf l x.low) t=0
 ·have:=phi (Ih (p:=ptOf l x.high) (q:=ptOf l x.low) ht);rw[if_pos hz] at this⊢;simp only[den_lt,shCP,shapeF,shapeR,cCP0,cCP1,flatRt,partR,EV,phi (c315 h _),this]
 ·have:=phi (Ih (p:=ptOf l x.high) (q:=ptOf l x.low) ht);rw[if_neg hz] at this⊢;simp only[den_lt,shCP,shapeF,shapeR,cCP0,cCP1,flatRt,partR,EV,phi (c315 h _),this]
theorem agg5:RF.ev .agg [.i64 0,.i64 0,.i64 0,.i64 0,.i64 0]=some (EP ⟨⟨0,0⟩,0,⟨0,0⟩⟩):=rfl
theorem flatE (e:Evt):RF.ev .flat [EP e]=some (EP e):=rfl
theorem shE5 (e:Evt):RF.ev (.shape 5) [EP e]=some (EP e):=rfl
theorem partE (e:Evt):RF.ev (.part 0 5) [EP e]=some (EP e):=rfl
theorem m7 {a:Agenda}(h:aW a){x:Hnd}(hl:aO a.slots x): ∃(i:Nat) (w:Int) (n:Nat) (e:Evt),x.index=i∧a.wher[i]?=some w∧w=(n:Int)∧a.heap[n]?=some e∧e.hnd=x:=by
 obtain⟨l1,l2,l3⟩:=hl;obtain⟨i,hi⟩:=eH l1;rw[hi,Int.toNat_natCast] at l2 l3;obtain⟨w,hw⟩: ∃w,a.wher[i]?=some w:=⟨a.wher[i]'(by have:=get_lt l3;have:=h.2.1.1;omega),List.getElem?_eq_getElem _⟩;have:=h.2.1.2.2 i true w x.use l2 hw l3;rw[if_pos rfl] at this;obtain⟨w0,e,he,hx⟩:=this;obtain⟨n,hn⟩:=eH w0;rw[hn,Int.toNat_natCast] at he;exact⟨i,w,n,e,hi,hw,hn,he,by rw[hx,←hi]⟩
open Classical in
theorem O1 {a:Agenda}(h:aW a)(hl:a.heap.length≤1000)(hf:a.slots.free.length≤1000)(h64: ∀e∈a.heap,In64 e.time)(x:Hnd):(¬aO a.slots x→Ans D 262 [AG a,HD x] [EP ⟨⟨0,0⟩,0,⟨0,0⟩⟩,.i64 6])∧ ∀(i n:Nat) (e:Evt),x.index=i→a.wher[i]?=some (n:Int)→a.heap[n]?=some e→aO a.slots x→Ans D 262 [AG a,HD x] [EP e,.i64 0]:=by
 have hc:=phi (Bg hl hf h64);rw[decide_eq_true h] at hc;have e0:okE true=0:=rfl;rw[e0] at hc;constructor
 ·intro hn;refine ans_of k262_ok s262 rfl ⟨1,?_⟩;unfold k262;simp only[den_lt,shAG,shHD,pAG,agg5,flatE,partE,shE5,EV,hc,decide_true,Bool.not_true,Bool.false_eq_true,if_false,phi (c349 h.1.2.2.1 x),decide_eq_false hn,Bool.not_false,if_true]
 ·intro i n e hi hw he hl;refine ans_of k262_ok s262 rfl ⟨1,?_⟩;unfold k262;simp only[den_lt,shAG,shHD,pAG,agg5,flatE,partE,shE5,EV,hc,decide_true,Bool.not_true,Bool.false_eq_true,if_false,phi (c349 h.1.2.2.1 x),decide_eq_true hl,cAG3,cAG4,cHD0,hi,tixM hw (lenI _),eltM hw,rowI,tixM he (lenE _),eltM he,rowE]
def DueAt (a:Agenda)(d:Due)(number:Int)(t:Rt):Prop:=d.number=number∧aO a.slots d.hnd∧ ∀(i n:Nat) (e:Evt),d.hnd.index=i→a.wher[i]?=some (n:Int)→a.heap[n]?=some e→e.number=number∧e.time=t
open Classical in
def dueStep (c:Clock)(left:List Due)(h:Held):Option (List Due):=
 if knownH c.pts h=true then
  (if(failT c.now (ptOf c.pts h.cert.high) (ptOf c.pts h.cert.low)).2=true then
   (match left with
    |[]=>none
    |d::rest=>if DueAt c.agenda d h.number (failT c.now (ptOf c.pts h.cert.high) (ptOf c.pts h.cert.low)).1 then some rest else none)
  else some left)
 else none
def aw (c:Clock):Prop:=rok c.now=true∧okF c.pts∧aq c.certs∧aW c.agenda∧c.agenda.wher.length=200∧c.agenda.heap.length=c.due.length∧foldO (dueStep c) c.due c.certs.list=some []
def aE (c:Clock):Prop:=In64 c.now∧ ∀e∈c.agenda.heap,In64 e.time
theorem jl {c:Clock}: ∀{l:List Held} {left out:List Due},foldO (dueStep c) left l=some out→l.all (knownH c.pts)=true
 |[],_,_,_=>rfl
 |h::l,left,out,hh=>by
  unfold foldO dueStep at hh;rw[List.all_cons];by_cases hk:knownH c.pts h=true
  ·rw[hk,Bool.true_and];split at hh
   ·exact jl hh
   ·cases hh
  ·rw[if_neg hk] at hh;cases hh
theorem Bi {α:Type}{l rest:List α}{k:Nat}{d:α}(h:l.drop k=d::rest):l.drop (k+1)=rest:=(jh h).2
theorem cHP1 (h:Held):RF.ev (.cell 1) [HP h]=some (.i64 h.cert.low):=rfl
theorem cHP2 (h:Held):RF.ev (.cell 2) [HP h]=some (.i64 h.cert.high):=rfl
theorem CK (d:Due):rowPart 0 0 (am d)=some (.i64 d.number):=rfl
theorem CM (d:Due):rowPart 1 2 (am d)=some (HD d.hnd):=rfl
open Classical in
theorem sA {c:Clock}(h64:aE c)(hg:gCl c=false):Ans D 167 [CL c] [.i64 (okE (decide (aw c)))]:=by
 unfold gCl gAg gSl at hg;simp only[Bool.or_eq_false_iff,decide_eq_false_iff_not] at hg;have no: ∀h:¬aw c,(some [PV.v (.int .i64 8)]:Option (List PV))=some [.i64 (okE (decide (aw c)))]:=fun h=>by rw[decide_eq_false h];rfl
 refine ans_of Ep Mp rfl ⟨1001,?_⟩;unfold uh;simp only[den_lt,shCL,pCL0,pCL2,pCL3,pCL5,cCL8,cCL9,cCL10,EV,List.length_map,phi (dU h64.1),phi (db _),phi (Iw _),phi (Bg (a:=c.agenda) (by omega) (by omega) h64.2),bf,Bool.not_eq_true',decide_eq_false_iff_not,decide_eq_true_eq];by_cases h1:rok c.now=true
 ·rw[if_pos h1];by_cases h2:aZ c.pts=0
  ·have h2':=fieldE_ok.1 h2;rw[if_neg (by simp[h2])];by_cases h3:aq c.certs
   ·rw[if_pos h3];simp only[den_lt,pCL5,cCL8,cCL9,cCL10,EV,List.length_map,phi (OZ (c:=c.certs) (l:=c.pts) (by have:=h2'.1;omega) (by omega)),phi (Bg (a:=c.agenda) (by omega) (by omega) h64.2),bf,Bool.not_eq_true',decide_eq_false_iff_not,decide_eq_true_eq];by_cases h4:c.certs.list.all (knownH c.pts)=true
    ·rw[if_neg (by simp[h4])];by_cases h5:aW c.agenda
     ·rw[if_pos h5];by_cases h6:c.agenda.wher.length=200
      ·rw[if_neg (by omega)];by_cases h7:c.agenda.heap.length=c.due.length
       ·rw[if_neg (by omega)];have e0:([PV.v (.int .i64 0),.v (.int .i64 0)]:List PV)=[.i64 ((c.due.length-c.due.length:Nat):Int),.i64 ((0:Nat):Int)]:=by rw[Nat.sub_self];rfl
        rw[e0];refine(fv (m:=1001) (l:=c.certs.list) (b:=k167_3) (g:=dueStep c) (I:=fun left=>left=c.due.drop (c.due.length-left.length)∧left.length≤c.due.length) (S:=fun left i=>[.i64 ((c.due.length-left.length:Nat):Int),.i64 (i:Int)]) (r:=some [.i64 8]) (fin:=fun left=>some [.i64 (if left=[] then 0 else 8)]) (x:=c.due) (by simp) (fun h left out hI hg=>?_) (fun i h left self hh hI=>?_) (fun left self hI hm=>?_) (by omega)).trans ?_
        ·unfold dueStep at hg;split at hg
         ·split at hg
          ·cases left with
           |nil=>cases hg
           |cons d rest=>
            simp only at hg;split at hg
            ·cases hg;obtain⟨e1,e2⟩:=hI;simp only[List.length_cons] at e1 e2;refine⟨?_,by omega⟩;rw[show c.due.length-out.length=c.due.length-(out.length+1)+1 by omega]
             exact(Bi e1.symm).symm
            ·cases hg
          ·cases hg;exact hI
         ·cases hg
        ·obtain⟨hI1,hI2⟩:=hI;have hk:knownH c.pts h=true:=List.all_eq_true.1 h4 h (List.mem_of_getElem? hh);have hk':=hk;unfold knownH at hk';simp only[Bool.and_eq_true] at hk';unfold k167_3 dueStep;rw[if_pos hk];generalize hF:failT c.now (ptOf c.pts h.cert.high) (ptOf c.pts h.cert.low)=FT;have hw:=phi (Ix (x:=h.cert) (t:=c.now) h2' h64.1 hk'.1 hk'.2);rw[hF] at hw;simp only[den_lt,cCL4,cCL10,pCL0,pCL2,pCL5,tixM hh (lenH _),eltM hh,rowH,pHP,cHP0,shapeR,hw,EV,List.length_map,decide_eq_true_eq,if_lt (get_lt hh),ge_iff_le,Bool.not_eq_true'];cases hF2:FT.2 with
         |false=>
          simp only[eq_self,if_true,Bool.false_eq_true,if_false];simp only[den_lt,cHP0,cHP1,cHP2,cellR0,cellR1,EV,oF,up1 (show i<1000000000 by have:=get_lt hh;omega)]
         |true=>
          simp only[Bool.true_eq_false,if_false,if_true];cases left with
          |nil=>rw[if_pos (by simp)]
          |cons d rest=>
           simp only[List.length_cons] at hI1 hI2⊢;have hd:c.due[c.due.length-(rest.length+1)]?=some d:=by
            have:=congrArg (fun l=>l[0]?) hI1;simp only[List.getElem?_cons_zero,List.getElem?_drop,Nat.add_zero] at this;exact this.symm
           rw[if_neg (by omega)];simp only[den_lt,cCL10,pCL5,tixM hd (iQ _),eltM hd,CK,CM,cHP0,EV,Bool.not_eq_true',decide_eq_false_iff_not];by_cases n1:d.number=h.number
           ·rw[if_neg (by simp[n1])];obtain⟨q1,q2⟩:=O1 h5 (by omega) (by omega) h64.2 d.hnd;by_cases n2:aO c.agenda.slots d.hnd
            ·obtain⟨ix,w,n,e,x1,x2,x3,x4,x5⟩:=m7 h5 n2;subst x3;have hD:DueAt c.agenda d h.number FT.1↔(e.number=h.number∧e.time=FT.1):=
              ⟨fun y=>y.2.2 ix n e x1 x2 x4,fun y=>⟨n1,n2,fun i' n' e' y1 y2 y3=>by
               rw[x1] at y1;have:ix=i':=by omega
               subst this;rw[x2] at y2;have:n=n':=by
                have:(n:Int)=n':=by simpa using y2
                omega
               subst this;rw[x4] at y3;cases y3;exact y⟩⟩
             simp only[den_lt,kI,cEP2,pEP,cHP0,cHP1,cHP2,cellR0,cellR1,eqvR,phi (q2 ix n e x1 x2 x4 n2),EV,decide_true,Bool.not_true,Bool.false_eq_true,if_false,Bool.not_eq_true',decide_eq_false_iff_not];by_cases n3:e.number=h.number
             ·rw[if_neg (by simp[n3])];by_cases n4:e.time=FT.1
              ·rw[if_neg (by simp[n4]),if_pos (hD.2 ⟨n3,n4⟩)];simp only[oF,EV,up1 (show i<1000000000 by have:=get_lt hh;omega),up1 (show c.due.length-(rest.length+1)<1000000000 by omega)]
               rw[show c.due.length-(rest.length+1)+1=c.due.length-rest.length by omega]
              ·rw[if_pos n4,if_neg (fun y=>n4 (hD.1 y).2)]
             ·rw[if_pos n3,if_neg (fun y=>n3 (hD.1 y).1)]
            ·simp only[den_lt,kI,phi (q1 n2),EV,Int.reduceEq,not_false_eq_true,if_true,decide_false,Bool.not_false];rw[if_neg (fun y=>n2 y.2.1)]
           ·rw[if_pos n1,if_neg (fun y=>n1 y.1)]
        ·unfold k167_3;simp only[den_lt,cCL4,cCL10,EV,List.length_map,decide_eq_true_eq,if_ge,yQ,Bool.not_eq_true',decide_eq_false_iff_not];cases left with
         |nil=>rw[if_neg (by simp),if_pos rfl]
         |cons d rest=>
          rw[if_pos (by have:=hI.2;simp only[List.length_cons] at this⊢;omega),if_neg (by simp)]
        ·cases hm:foldO (dueStep c) c.due c.certs.list with
         |none=>exact no (fun h=>by rw[h.2.2.2.2.2.2] at hm;cases hm)
         |some left=>
          cases left with
          |nil=>rw[decide_eq_true (show aw c from⟨h1,h2',h3,h5,h6,h7,hm⟩)];rfl
          |cons d rest=>exact no (fun h=>by rw[h.2.2.2.2.2.2] at hm;cases hm)
       ·rw[if_pos (by omega)];exact no (fun h=>h7 h.2.2.2.2.2.1)
      ·rw[if_pos (by omega)];exact no (fun h=>h6 h.2.2.2.2.1)
     ·rw[if_neg h5];exact no (fun h=>h5 h.2.2.2.1)
    ·rw[if_pos (by simpa using h4)]
     exact no (fun h=>h4 (jl h.2.2.2.2.2.2))
   ·rw[if_neg h3];exact no (fun h=>h3 h.2.2.1)
  ·rw[if_pos h2];exact no (fun h=>h2 (fieldE_ok.2 h.2.1))
 ·rw[if_neg h1];exact no (fun h=>h1 h.1)
end Go.Proofs.YtfghdmmapmdcgaaGreat
