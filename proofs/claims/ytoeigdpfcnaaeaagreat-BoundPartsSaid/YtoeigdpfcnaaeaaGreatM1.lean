import Derived.Test.YtoeigdpfcnaaeaaGreatA1
import Derived.Tactics
import Derived.Orders
import Derived.Below
import Derived.Eval
import Derived.Laws.Rows
import Derived.Laws.Append
set_option linter.unusedVariables false
set_option linter.unusedSimpArgs false
set_option linter.defProp false
noncomputable section
namespace Go.Sym
inductive PV where
 |v (x:Value)
 |sl (els:List (List PV))
 |agg (cs:List PV)
 deriving Inhabited
abbrev PV.int (k:IntKind)(n:Int):PV:= .v (.int k n)
abbrev PV.i64 (n:Int):PV:= .v (.int .i64 n)
abbrev PV.bool (b:Bool):PV:= .v (.bool b)
def PV.cells:PV->List PV
 | .agg cs=>cs
 |x=>[x]
inductive A where
 |x (i:Nat)
 |c (p:PV)
 deriving Inhabited
def A.ev (e:List PV):A->Option PV
 | .x i=>e[i]?
 | .c p=>some p
def evs (e:List PV):List A->Option (List PV)
 |[]=>some []
 |a::as=>match a.ev e with
  |some v=>match evs e as with
   |some vs=>some (v::vs)
   |none=>none
  |none=>none
def t0:PV->Bool
 | .v _| .sl _=>true
 |_=>false
inductive Ck where
 |i
 |b
 |s
 deriving Inhabited
inductive RF where
 |bin (op:BinOp)
 |bbin (op:BinOp)
 |un (op:UnOp)
 |eqv (ks:List Ck)
 |conv (k:IntKind)
 |mm (mx:Bool)
 |shape (n:Nat)
 |cell (i:Nat)
 |part (o n:Nat)
 |agg
 |len
 |ix
 |sum
 |dif
 |bnd
 |elt (o n:Nat)
 |set (o:Nat)
 |app (bytes z:Nat)
 |sub
 |bs (len:Nat) (z:List PV) (ids:List Nat)
 |rep (z:List PV) (bytes:Nat)
 |tix (z:Nat)
 |tsub (z:Nat)
 |aix (z len n:Nat)
 |mget (ks:List Ck) (z:List PV)
 |mhas (ks:List Ck)
 |mset (ks:List Ck) (z:Nat)
 |clr (z:List PV)
 |srt
 |flat
 |flatL
 |add64
 |appK (bytes z:Nat)
 deriving Inhabited
def dq (op:BinOp)(k:IntKind)(a:Int)(k':IntKind)(b:Int):Option PV:=
 match op with
 | .shl=>if b<0 then none else some (.v (.int k (k.wrap (a*2^(min b.toNat k.bits)))))
 | .shr=>if b<0 then none else some (.v (.int k (a.fdiv (2^(min b.toNat k.bits)))))
 |op=>if k=k' then match op with
  | .add=>some (.v (.int k (k.wrap (a+b))))
  | .sub=>some (.v (.int k (k.wrap (a-b))))
  | .mul=>some (.v (.int k (k.wrap (a*b))))
  | .quo=>if b=0 then none else some (.v (.int k (k.wrap (a.tdiv b))))
  | .rem=>if b=0 then none else some (.v (.int k (a.tmod b)))
  | .and=>some (.v (.int k (k.wrap (BitVec.ofInt k.bits a&&& BitVec.ofInt k.bits b).toNat)))
  | .or=>some (.v (.int k (k.wrap (BitVec.ofInt k.bits a|||BitVec.ofInt k.bits b).toNat)))
  | .xor=>some (.v (.int k (k.wrap (BitVec.ofInt k.bits a^^^ BitVec.ofInt k.bits b).toNat)))
  | .andNot=>some (.v (.int k (k.wrap (BitVec.ofInt k.bits a&&& ~~~BitVec.ofInt k.bits b).toNat)))
  | .eql=>some (.v (.bool (decide (a=b))))
  | .neq=>some (.v (.bool (!decide (a=b))))
  | .lss=>some (.v (.bool (decide (a<b))))
  | .leq=>some (.v (.bool (decide (a<=b))))
  | .gtr=>some (.v (.bool (decide (b<a))))
  | .geq=>some (.v (.bool (decide (b<=a))))
  |_=>none
  else none
def xv (op:BinOp)(a b:ByteArray):Option PV:=
 match op with
 | .eql=>some (.v (.bool (a.toList==b.toList)))
 | .neq=>some (.v (.bool (!(a.toList==b.toList))))
 | .add=>if((a.size+b.size:Nat):Int)>9223372036854775807 then none else some (.v (.string (a++b)))
 |_=>none
def sN (op:BinOp)(a b:Bool):Option PV:=
 match op with
 | .eql=>some (.v (.bool (a==b)))
 | .neq=>some (.v (.bool (!(a==b))))
 |_=>none
def eqC:Ck->PV->PV->Option Bool
 | .i,.v (.int k a),.v (.int k' b)=>if k=k' then some (decide (a=b)) else none
 | .b,.v (.bool a),.v (.bool b)=>some (a==b)
 | .s,.v (.string a),.v (.string b)=>some (a==b)
 |_,_,_=>none
def eqL:List Ck->List PV->List PV->Option Bool
 |[],[],[]=>some true
 |k::ks,x::xs,y::ys=>match eqC k x y with
  |some b=>match eqL ks xs ys with
   |some c=>some (b&& c)
   |none=>none
  |none=>none
 |_,_,_=>none
def pK (cs:List PV)(o:Nat)(vs:List PV):List PV:=cs.take o++vs++cs.drop (o+vs.length)
def cF (o n:Nat)(row:List PV):Option PV:=
 match n with
 |0=>match row[o]? with
  |some p=>if t0 p then some p else none
  |none=>none
 |n=>if o+n<=row.length/\((row.drop o).take n).all t0=true then some (.agg ((row.drop o).take n)) else none
def ec (z:Nat):List (List PV)->Bool
 |[]=>true
 |cs::_=>decide (cs.length=z)
def um (z:Nat):List (List PV)->List Nat->List PV->Option (List (List PV))
 |els,i::is,p::ps=>if i<els.length/\ p.cells.length=z then um z (els.set i p.cells) is ps else none
 |els,[],[]=>some els
 |_,_,_=>none
def dR (ks:List Ck)(k:List PV):List (List PV)->Option (Option (List PV))
 |[]=>match eqL ks k k with
  |some _=>some none
  |none=>none
 |r::rs=>match eqL ks (r.take ks.length) k with
  |some true=>some (some (r.drop ks.length))
  |some false=>dR ks k rs
  |none=>none
def ji (ks:List Ck)(k v:List PV):List (List PV)->Option (List (List PV))
 |[]=>match eqL ks k k with
  |some _=>some [k++v]
  |none=>none
 |r::rs=>match eqL ks (r.take ks.length) k with
  |some true=>some ((r.take ks.length++v)::rs)
  |some false=>match ji ks k v rs with
   |some l=>some (r::l)
   |none=>none
  |none=>none
def isV:PV->Bool
 | .v _=>true
 |_=>false
def HJ:List PV->PV
 |[p]=>p
 |l=> .agg l
def rG:List (List PV)->Option (List Int)
 |[]=>some []
 |[.v (.int .i64 n)]::r=>(rG r).map (n::·)
 |_=>none
def RF.ev (f:RF)(vs:List PV):Option PV:=
 match f with
 | .bin op=>match vs with
  |[.v (.int k a),.v (.int k' b)]=>dq op k a k' b
  |[.v (.string a),.v (.string b)]=>xv op a b
  |_=>none
 | .bbin op=>match vs with
  |[.v (.bool a),.v (.bool b)]=>sN op a b
  |_=>none
 | .un op=>match vs with
  |[.v (.bool b)]=>match op with
   | .not=>some (.v (.bool (!b)))
   |_=>none
  |[.v (.int k a)]=>match op with
   | .neg=>some (.v (.int k (k.wrap (0-a))))
   |_=>none
  |_=>none
 | .eqv ks=>match vs with
  |[.agg xs,.agg ys]=>match eqL ks xs ys with
   |some b=>some (.v (.bool b))
   |none=>none
  |_=>none
 | .conv k=>match vs with
  |[.v (.int _ n)]=>some (.v (.int k (k.wrap n)))
  |_=>none
 | .mm mx=>match vs with
  |[.v (.int k a),.v (.int k' b)]=>if k=k' then some (.v (.int k (if mx then max a b else min a b))) else none
  |_=>none
 | .shape n=>match vs with
  |[.agg cs]=>if cs.length=n then some (.agg cs) else none
  |_=>none
 | .cell i=>match vs with
  |[.agg cs]=>cs[i]?
  |_=>none
 | .part o n=>match vs with
  |[.agg cs]=>if o+n<=cs.length then some (.agg ((cs.drop o).take n)) else none
  |_=>none
 | .agg=>if(vs.flatMap PV.cells).all t0=true then some (.agg (vs.flatMap PV.cells)) else none
 | .len=>match vs with
  |[.sl els]=>some (.i64 els.length)
  |_=>none
 | .ix=>match vs with
  |[.v (.int k i),.v (.int _ n)]=>if 0<=i/\ i<n then some (.v (.int k i)) else none
  |_=>none
 | .sum=>match vs with
  |[.v (.int _ a),.v (.int _ b)]=>some (.i64 (a+b))
  |_=>none
 | .dif=>match vs with
  |[.v (.int _ a),.v (.int _ b)]=>some (.i64 (a-b))
  |_=>none
 | .bnd=>match vs with
  |[.v (.int _ a),.v (.int _ b)]=>if 0<=a/\ a<=b then some (.i64 a) else none
  |_=>none
 | .elt o n=>match vs with
  |[.sl els,.v (.int _ i)]=>if 0<=i then match els[i.toNat]? with
   |some row=>cF o n row
   |none=>none
   else none
  |_=>none
 | .set o=>match vs with
  |[.sl els,.v (.int _ i),p]=>if 0<=i then match els[i.toNat]? with
   |some row=>if o+p.cells.length<=row.length then some (.sl (els.set i.toNat (pK row o p.cells))) else none
   |none=>none
   else none
  |_=>none
 | .app bytes z=>match vs with
  |[.sl a,.v (.int _ n),.sl b]=>if 0<=n/\ n<=a.length/\(n.toNat+b.length)*bytes<=140737488355328/\ ec z b=true then some (.sl (a.take n.toNat++b)) else none
  |_=>none
 | .sub=>match vs with
  |[.sl els,.v (.int _ o),.v (.int _ n)]=>if 0<=o/\ 0<=n/\ o+n<=els.length then some (.sl ((els.drop o.toNat).take n.toNat)) else none
  |_=>none
 | .bs n z ids=>match um z.length (List.replicate n z) ids vs with
  |some els=>some (.sl els)
  |none=>none
 | .rep z bytes=>match vs with
  |[.v (.int _ l),.v (.int _ c)]=>if 0<=l/\ l<=c/\ c<9223372036854775808/\ bytes*c<=281474976710656 then some (.sl (List.replicate l.toNat z)) else none
  |_=>none
 | .tix z=>match vs with
  |[.sl els,.v (.int k i)]=>if 0<=i then match els[i.toNat]? with
   |some row=>if row.length=z then some (.v (.int k i)) else none
   |none=>none
   else none
  |_=>none
 | .tsub z=>match vs with
  |[.sl els,.v (.int _ l),.v (.int _ h)]=>if 0<=l/\ l<=h/\ h<=els.length/\ ec z els=true/\ 0<z then some (.sl ((els.drop l.toNat).take (h.toNat-l.toNat))) else none
  |_=>none
 | .aix z w n=>match vs with
  |[.agg cs,.v (.int _ i)]=>if 0<=i/\ i<w then cF (i.toNat*z) n cs else none
  |_=>none
 | .mget ks z=>match vs with
  |[.sl rows,k]=>match dR ks k.cells rows with
   |some r=>some (HJ (r.getD z))
   |none=>none
  |_=>none
 | .mhas ks=>match vs with
  |[.sl rows,k]=>match dR ks k.cells rows with
   |some r=>some (.v (.bool r.isSome))
   |none=>none
  |_=>none
 | .mset ks z=>match vs with
  |[.sl rows,k,v]=>if v.cells.length=z/\ v.cells.all t0=true then match ji ks k.cells v.cells rows with
   |some l=>some (.sl l)
   |none=>none
   else none
  |_=>none
 | .appK bytes z=>match vs with
  |[.sl a,.v (.int _ n),.sl b]=>if 0<=n/\ n<=a.length/\(n.toNat+b.length)*bytes<=140737488355328/\ ec z b=true then some (.sl (a.take n.toNat++b++a.drop (n.toNat+b.length))) else none
  |_=>none
 | .clr z=>match vs with
  |[.sl els,.v (.int _ o),.v (.int _ n)]=>if 0<=o/\ 0<=n/\ o+n<=els.length then some (.sl (els.take o.toNat++List.replicate n.toNat z++els.drop (o.toNat+n.toNat))) else none
  |_=>none
 | .add64=>match vs with
  |[.v (.int .u64 x),.v (.int .u64 y),.v (.int .u64 c)]=>if c.toNat<=1 then some (.agg [.v (.int .u64 (Int.ofNat ((x.toNat+y.toNat+c.toNat)% 18446744073709551616))),.v (.int .u64 (Int.ofNat ((x.toNat+y.toNat+c.toNat)/18446744073709551616)))]) else none
  |_=>none
 | .flat=>match vs with
  |[v]=>if v.cells.all isV=true then some v else none
  |_=>none
 | .flatL=>match vs with
  |[.sl els]=>if els.flatten.all isV=true then some (.sl els) else none
  |_=>none
 | .srt=>match vs with
  |[.sl els]=>match rG els with
   |some l=>some (.sl ((l.mergeSort λa b=>decide (a<=b)).map λn=>[.v (.int .i64 n)]))
   |none=>none
  |_=>none
inductive K where
 |ret (vs:List A)
 |dead
 |lt (f:RF) (as:List A) (k:K)
 |call (g:FuncId) (as:List A) (k:K)
 |br (x:A) (t e:K)
 |amb (t e:K)
 |jp (d k:K)
 |loop (b k:K)
 |jmp (j:Nat) (vs:List A)
 deriving Inhabited
def mw {α β:Type}(F:(α->Option β)->α->Option β):Nat->α->Option β
 |0,_=>none
 |n+1,a=>F (mw F n) a
open Classical in
def den (Φ:FuncId->List PV->Option (List PV))(N:Nat):K->List (List PV->Option (List PV))->List PV->Option (List PV)
 | .ret vs,_,e=>evs e vs
 | .dead,_,_=>none
 | .lt f as k,J,e=>match evs e as with
  |some xs=>match f.ev xs with
   |some v=>den Φ N k J (e++[v])
   |none=>none
  |none=>none
 | .call g as k,J,e=>match evs e as with
  |some xs=>match Φ g xs with
   |some rs=>den Φ N k J (e++rs)
   |none=>none
  |none=>none
 | .br x t f,J,e=>match x.ev e with
  |some (.v (.bool true))=>den Φ N t J e
  |some (.v (.bool false))=>den Φ N f J e
  |_=>none
 | .amb t f,J,e=>match den Φ N t J e with
  |some a=>match den Φ N f J e with
   |some b=>if a=b then some a else none
   |none=>none
  |none=>none
 | .jp d k,J,e=>den Φ N k (J++[λvs=>den Φ N d J (e++vs)]) e
 | .loop b k,J,e=>den Φ N k (J++[mw (λself vs=>den Φ N b (J++[self]) (e++vs)) N]) e
 | .jmp j vs,J,e=>match J[j]? with
  |some f=>match evs e vs with
   |some xs=>f xs
   |none=>none
  |none=>none
def HK:TypeDesc->Bool
 | .struct _| .array _ _=>true
 |_=>false
def bT (P:Program)(t:TypeId):Option Bool:=(P.underlying t).map HK
def szT (P:Program)(t:TypeId):Option Nat:=(P.info? t).map (·.size)
def nX (P:Program)(t:TypeId):Option Value:=(P.info? t).bind (·.zero)
def HL (P:Program)(t:TypeId):Bool:=match P.underlying t with
 |some (.slice _)=>true
 |_=>false
def R5 (P:Program)(t:TypeId):Bool:=match P.underlying t with
 |some (.int _)=>true
 |_=>false
def iL:Value->Bool
 | .bool _| .int _ _| .string _=>true
 |_=>false
def pvC:Value->Option PV
 | .slice none 0 0=>some (.sl [])
 |x=>if iL x then some (.v x) else none
def Mn:List Value->Option (List PV)
 |[]=>some []
 |x::xs=>match pvC x with
  |some c=>match Mn xs with
   |some cs=>some (c::cs)
   |none=>none
  |none=>none
def qW (P:Program)(t:TypeId):Option (Nat->Option (Nat×Nat)):=
 match P.underlying t with
 |some (.struct fields)=>
  if fields.toList.all (λf=>(szT P f.type).isSome) then
   some λi=>(fields[i]?).map λf=>(f.offset,(szT P f.type).getD 0)
  else none
 |some (.array _ elem)=>(szT P elem).map λsize=>λi=>some (i*size,size)
 |_=>none
def nY (P:Program)(t:TypeId):Option (List PV):=match nX P t with
 |some z=>Mn z.cells.toList
 |none=>none
inductive Cap where
 |ptr (b o:Nat)
 |a (x:A)
 deriving Inhabited
inductive SC where
 |a (x:A)
 |pc (x:A) (i:Nat)
 |nil
 |ptr (b o:Nat)
 |ep (b:Nat) (i:A) (o:Nat)
 |tp (l i:A) (o:Nat)
 |lsl (b:Nat) (o n:A)
 |mp (b:Nat)
 |fn (g:Nat) (f c:List Cap)
 |un
 |ub (x:A) (s:Bool)
 deriving Inhabited
inductive SW where
 |c (x:SC)
 |av (x:A)
 |agg (cs:List SC)
 deriving Inhabited
inductive SV where
 |w (x:SW)
 |tup (xs:List SW)
 deriving Inhabited
inductive SB where
 |box (cs:List SC)
 |lst (l n:A) (z:Nat) (fz:Bool)
 |map (l:A) (ka:Bool) (nk:Nat) (va:Bool)
 deriving Inhabited
structure SS where
 n:Nat
 tm:List (Nat×SV)
 bl:List (Nat×SB)
 nb:Nat
 fc:List (Nat×PV)
 sz:List (Nat×Nat)
 deriving Inhabited
def look {α:Type}:List (Nat×α)->Nat->Option α
 |[],_=>none
 |(k,v)::l,i=>match Nat.beq k i with
  |true=>some v
  |false=>look l i
def del {α:Type}:List (Nat×α)->Nat->List (Nat×α)
 |[],_=>[]
 |(k,v)::l,i=>match Nat.beq k i with
  |true=>del l i
  |false=>(k,v)::del l i
def put {α:Type}(l:List (Nat×α))(k:Nat)(v:α):List (Nat×α):=(k,v)::del l k
abbrev qi:=List (RF×List A)
abbrev Szs:=List (Nat×Nat)
abbrev EM (α:Type):=Nat->Szs->Option (α×qi×Szs)
def EM.ret {α:Type}(a:α):EM α:=λ_ _=>some (a,[],[])
def EM.bind {α β:Type}(x:EM α)(f:α->EM β):EM β:=λm z=>match x m z with
 |some (a,l1,z1)=>match f a (m+l1.length) (z1++z) with
  |some (b,l2,z2)=>some (b,l1++l2,z2++z1)
  |none=>none
 |none=>none
def fail {α:Type}:EM α:=λ_ _=>none
def ofO {α:Type}:Option α->EM α
 |some a=>EM.ret a
 |none=>fail
def emit (f:RF)(as:List A):EM A:=λm _=>some (.x m,[(f,as)],[])
def emitN (n:Nat)(f:RF)(as:List A):EM A:=λm _=>some (.x m,[(f,as)],[(m,n)])
def uo (a:A):EM (Option Nat):=λ_ z=>some ((match a with| .x i=>look z i|_=>none),[],[])
def A.same:A->A->Bool
 | .x i,.x j=>Nat.beq i j
 |_,_=>false
def cEq:PV->PV->Bool
 | .v (.int k a),.v (.int k' b)=>decide (k=k')&& decide (a=b)
 | .v (.bool a),.v (.bool b)=>a==b
 | .sl [],.sl []=>true
 |_,_=>false
def A.eq:A->A->Bool
 | .x i,.x j=>Nat.beq i j
 | .c p,.c q=>cEq p q
 |_,_=>false
def eQ:SC->EM A
 | .a x=>EM.ret x
 | .pc x i=>emit (.cell i) [x]
 | .nil=>EM.ret (.c (.sl []))
 |_=>fail
def pL (n:Nat)(x:A):EM A:=EM.bind (uo x) λk=>match k with
 |some k=>match Nat.beq k n with
  |true=>EM.ret x
  |false=>fail
 |none=>emitN n (.shape n) [x]
def pcs (x:A)(i:Nat):Nat->List SC
 |0=>[]
 |n+1=> .pc x i::pcs x (i+1) n
def xw (P:Program)(t:TypeId)(w:SW):EM (List SC):=
 match bT P t with
 |some true=>match szT P t with
  |some n=>match w with
   | .agg cs=>match Nat.beq cs.length n with
    |true=>EM.ret cs
    |false=>fail
   | .av x=>EM.bind (pL n x) λy=>EM.ret (pcs y 0 n)
   |_=>fail
  |none=>fail
 |some false=>match szT P t with
  |some 1=>match w with
   | .c x=>EM.ret [x]
   |_=>fail
  |_=>fail
 |none=>fail
def mJ (x:A):Nat->List SC->Nat
 |_,[]=>0
 |i,.pc y j::cs=>match A.same x y&& Nat.beq i j with
  |true=>mJ x (i+1) cs+1
  |false=>0
 |_,_=>0
def rH (cs:List SC):EM SW:=
 match cs with
 | .pc x i::rest=>match Nat.beq (mJ x (i+1) rest) rest.length with
  |true=>EM.bind (uo x) λk=>match(match k with|some k=>Nat.beq i 0&& Nat.beq k cs.length|none=>false) with
   |true=>EM.ret (.av x)
   |false=>EM.bind (emitN cs.length (.part i cs.length) [x]) λy=>EM.ret (.av y)
  |false=>EM.ret (.agg cs)
 |_=>EM.ret (.agg cs)
def A1 (P:Program)(t:TypeId)(c:SC):EM SW:=
 match c with
 | .pc x i=>match P.underlying t with
  |some .bool=>EM.bind (emit (.cell i) [x]) λy=>EM.ret (.c (.a y))
  |_=>EM.ret (.c (.pc x i))
 |c=>EM.ret (.c c)
def Ee (P:Program)(t:TypeId)(cs:List SC)(o:Nat):EM SW:=
 match bT P t with
 |some true=>match szT P t with
  |some n=>match Nat.ble (o+n) cs.length with
   |true=>rH ((cs.drop o).take n)
   |false=>fail
  |none=>fail
 |some false=>match cs[o]? with
  |some c=>A1 P t c
  |none=>fail
 |none=>fail
def cnt (P:Program)(t:TypeId):Option Nat:=
 match bT P t with
 |some true=>match szT P t with
  |some (n+1)=>some (n+1)
  |_=>none
 |some false=>some 0
 |none=>none
def jy (n:Nat)(f:RF)(as:List A):EM SW:=
 match n with
 |0=>EM.bind (emit f as) λy=>EM.ret (.c (.a y))
 |n=>EM.bind (emitN n f as) λy=>EM.ret (.av y)
def yD (P:Program)(σ:SS)(t:TypeId)(p:SC):EM SW:=
 match p with
 | .ptr b o=>match look σ.bl b with
  |some (.box cs)=>Ee P t cs o
  |_=>fail
 | .ep b i o=>match look σ.bl b with
  |some (.lst l _ _ _)=>match cnt P t with
   |some n=>jy n (.elt o n) [l,i]
   |none=>fail
  |_=>fail
 | .tp l i o=>match cnt P t with
  |some n=>jy n (.elt o n) [l,i]
  |none=>fail
 |_=>fail
def lB (σ:SS):SC->EM (A×List Nat)
 | .a x=>EM.ret (x,[])
 | .pc x i=>EM.bind (emit (.cell i) [x]) λy=>EM.ret (y,[])
 | .nil=>EM.ret (.c (.sl []),[])
 | .lsl b o n=>match look σ.bl b with
  |some (.lst l _ _ _)=>EM.bind (emit .sub [l,o,n]) λy=>EM.ret (y,[b])
  |_=>fail
 |_=>fail
def nA (σ:SS):Nat->List SC->EM (List A×List Nat)
 |_,[]=>EM.ret ([],[])
 |0,_=>fail
 |k+1,c::cs=>
  match c with
  | .pc x i=>match mJ x (i+1) cs with
   |0=>EM.bind (emit (.cell i) [x]) λy=>EM.bind (nA σ k cs) λq=>EM.ret (y::q.1,q.2)
   |n+1=>EM.bind (emitN (n+2) (.part i (n+2)) [x]) λy=>EM.bind (nA σ k (cs.drop (n+1))) λq=>EM.ret (y::q.1,q.2)
  |c=>EM.bind (lB σ c) λp=>EM.bind (nA σ k cs) λq=>EM.ret (p.1::q.1,p.2++q.2)
def Vz (σ:SS):List SC->EM (List A×List Nat)
 |[]=>EM.ret ([],[])
 |c::cs=>EM.bind (lB σ c) λp=>EM.bind (Vz σ cs) λq=>EM.ret (p.1::q.1,p.2++q.2)
def yE (σ:SS):SW->EM (A×List Nat)
 | .agg cs=>EM.bind (nA σ cs.length cs) λp=>EM.bind (emitN cs.length .agg p.1) λy=>EM.ret (y,p.2)
 | .av x=>EM.ret (x,[])
 | .c x=>lB σ x
def uq (σ:SS):List SW->EM (List A×List Nat)
 |[]=>EM.ret ([],[])
 |w::ws=>EM.bind (yE σ w) λp=>EM.bind (uq σ ws) λq=>EM.ret (p.1::q.1,p.2++q.2)
def nB:SB->SB
 | .lst l n z _=> .lst l n z true
 |x=>x
def dA (σ:SS):List Nat->SS
 |[]=>σ
 |b::bs=>match look σ.bl b with
  |some sb=>dA {σ with bl:=put σ.bl b (nB sb)} bs
  |none=>dA σ bs
def A2:Value->Option SC
 | .slice none 0 0=>some .nil
 |x=>if iL x then some (.a (.c (.v x))) else match x with
  | .map none| .pointer none| .nilFunc=>some .un
  |_=>none
def ur:List Value->Option (List SC)
 |[]=>some []
 |x::xs=>match A2 x with
  |some c=>match ur xs with
   |some cs=>some (c::cs)
   |none=>none
  |none=>none
def HM (v:Value):Option SV:=
 match v with
 | .agg cs=>(ur cs.toList).map λl=> .w (.agg l)
 |v=>(A2 v).map λc=> .w (.c c)
def A3 (σ:SS):SV->SV
 | .w (.c (.a (.x i)))=>match look σ.fc i with
  |some p=> .w (.c (.a (.c p)))
  |none=> .w (.c (.a (.x i)))
 |v=>v
def opS (σ:SS):Operand->Option SV
 | .tmp t=>match look σ.tm t with
  |some v=>some (A3 σ v)
  |none=>none
 | .const v=>HM v
 | .func g=>some (.w (.c (.fn g [] [])))
 | .global _=>none
def opW (σ:SS)(x:Operand):Option SW:=match opS σ x with
 |some (.w w)=>some w
 |_=>none
def opC (σ:SS)(x:Operand):Option SC:=match opW σ x with
 |some (.c c)=>some c
 |_=>none
def Mo (σ:SS):List Operand->Option (List SW)
 |[]=>some []
 |x::xs=>match opW σ x with
  |some w=>match Mo σ xs with
   |some ws=>some (w::ws)
   |none=>none
  |none=>none
def SS.new (σ:SS)(sb:SB):SS:={σ with bl:=put σ.bl σ.nb sb,nb:=σ.nb+1}
def SS.kill (σ:SS)(b:Nat):SS:={σ with bl:=del σ.bl b}
def ut (P:Program)(t:TypeId):Option (List SC):=match nX P t with
 |some z=>ur z.cells.toList
 |none=>none
def HN (P:Program)(σ:SS)(t:TypeId)(cs:List SC):EM (SV×SS):=
 match szT P t with
 |some n=>match Nat.beq cs.length n with
  |true=>EM.ret (.w (.c (.ptr σ.nb 0)),σ.new (.box cs))
  |false=>fail
 |none=>fail
def Cf (cs:List SC)(o:Nat)(vs:List SC):List SC:=cs.take o++vs++cs.drop (o+vs.length)
def HQ (P:Program)(t:TypeId)(w:SW):Option Nat:=
 match bT P t with
 |some true=>match w with
  | .c _=>none
  |_=>match szT P t with
   |some (n+1)=>some (n+1)
   |_=>none
 |some false=>match w with
  | .c _=>match szT P t with
   |some 1=>some 0
   |_=>none
  |_=>none
 |none=>none
def A4 (P:Program)(σ:SS)(t:TypeId)(p:SC)(w:SW):EM SS:=
 match p with
 | .ptr b o=>match look σ.bl b with
  |some (.box cs)=>EM.bind (xw P t w) λvs=>match Nat.ble 1 vs.length&& Nat.ble (o+vs.length) cs.length with
   |true=>EM.ret {σ with bl:=put σ.bl b (.box (Cf cs o vs))}
   |false=>fail
  |_=>fail
 | .ep b i o=>match look σ.bl b with
  |some (.lst l nl z false)=>match HQ P t w with
   |some n=>EM.bind (yE σ w) λq=>match q.2.elem b with
    |true=>fail
    |false=>EM.bind (match n with
     |0=>EM.ret q.1
     |n=>pL n q.1) λy=>EM.bind (emit (.set o) [l,i,y]) λl'=>EM.ret {dA σ q.2 with bl:=put (dA σ q.2).bl b (.lst l' nl z false)}
   |none=>fail
  |_=>fail
 |_=>fail
def HR (P:Program)(t:TypeId)(i:Nat):Option (TypeId×Nat):=
 match P.underlying t with
 |some (.struct fields)=>match fields[i]? with
  |some f=>some (f.type,f.offset)
  |none=>none
 |some (.array _ e)=>match szT P e with
  |some z=>some (e,i*z)
  |none=>none
 |_=>none
def A5 (P:Program)(t:TypeId):List SC->List (Nat×SW)->EM (List SC)
 |cs,[]=>EM.ret cs
 |cs,(i,w)::r=>match HR P t i with
  |some (ty,o)=>EM.bind (xw P ty w) λvs=>match Nat.ble (o+vs.length) cs.length with
   |true=>A5 P t (Cf cs o vs) r
   |false=>fail
  |none=>fail
def xx (σ:SS):List (Nat×Operand)->Option (List (Nat×SW))
 |[]=>some []
 |(i,x)::r=>match opW σ x with
  |some w=>match xx σ r with
   |some l=>some ((i,w)::l)
   |none=>none
  |none=>none
def tD (P:Program)(σ:SS)(t:TypeId)(len:Nat)(ps:List (Nat×SW)):EM (SV×SS):=
 match P.underlying t with
 |some (.slice elem)=>match szT P elem with
  |some size=>match nY P elem with
   |some z=>match Nat.ble (len*size) 16777216&& Nat.ble 1 size&& Nat.beq z.length size with
    |true=>EM.bind (uq σ (ps.map (·.2))) λq=>match len with
     |0=>match ps with
      |[]=>EM.ret (.w (.c .nil),σ)
      |_=>fail
     |_=>EM.bind (emit (.bs len z (ps.map (·.1))) q.1) λl=>
      EM.ret (.w (.c (.lsl σ.nb (.c (.i64 0)) (.c (.i64 len)))),(dA σ q.2).new (.lst l (.c (.i64 len)) size false))
    |false=>fail
   |none=>fail
  |none=>fail
 |_=>fail
def UG:BinOp->Bool
 | .eql| .neq=>true
 |_=>false
def xy (rec:TypeId->Option (List Ck)):List Field->Nat->Option (List Ck)
 |[],_=>some []
 |f::fs,o=>match f.name != "_" && Nat.beq f.offset o with
  |true=>match rec f.type with
   |some k=>match xy rec fs (o+k.length) with
    |some r=>some (k++r)
    |none=>none
   |none=>none
  |false=>none
def iZ (P:Program):Nat->TypeId->Option (List Ck)
 |0,_=>none
 |d+1,t=>match P.underlying t with
  |some .bool=>some [.b]
  |some (.int _)=>some [.i]
  |some .string=>some [.s]
  |some (.struct fields)=>match P.stoodInHeld t with
   |true=>none
   |false=>match xy (iZ P d) fields.toList 0 with
    |some ks=>match szT P t with
     |some m=>match Nat.beq ks.length m with
      |true=>some ks
      |false=>none
     |none=>none
    |none=>none
  |_=>none
def HS (σ:SS)(w:SW):EM A:=EM.bind (yE σ w) λq=>match q.2 with
 |[]=>EM.ret q.1
 |_=>fail
def HU (f:RF)(x y:SW):EM SV:=
 match x with
 | .c x=>match y with
  | .c y=>EM.bind (eQ x) λa=>EM.bind (eQ y) λb=>EM.bind (emit f [a,b]) λr=>EM.ret (.w (.c (.a r)))
  |_=>fail
 |_=>fail
def R6 (P:Program)(σ:SS)(op:BinOp)(t:TypeId)(x y:SW):EM SV:=
 match P.underlying t with
 |some (.struct _)=>match UG op&& Nat.ble 10 P.depth with
  |true=>match iZ P 10 t with
   |some ks=>EM.bind (HS σ x) λa=>EM.bind (HS σ y) λb=>EM.bind (emit (.eqv ks) [a,b]) λr=>match op with
    | .eql=>EM.ret (.w (.c (.a r)))
    |_=>EM.bind (emit (.un .not) [r]) λr'=>EM.ret (.w (.c (.a r')))
   |none=>fail
  |false=>fail
 |some .bool=>HU (.bbin op) x y
 |some (.int _)=>HU (.bin op) x y
 |some .string=>HU (.bin op) x y
 |_=>fail
def Mp (P:Program)(op:BinOp)(t:TypeId)(y:Operand):Bool:=UG op&& HL P t&&(match y with
 | .const (.slice none 0 0)=>true
 |_=>false)
def nZ:BinOp->Bool
 | .neq=>true
 |_=>false
def R7 (σ:SS)(op:BinOp):SC->EM SV
 | .lsl b _ n=>match look σ.bl b with
  |some (.lst ..)=>EM.bind (emit (.bin .eql) [n,.c (.i64 0)]) λr=>EM.ret (.w (.c (.ub r (nZ op))))
  |_=>fail
 |c=>EM.bind (eQ c) λa=>EM.bind (emit .len [a]) λn=>EM.bind (emit (.bin .eql) [n,.c (.i64 0)]) λr=>EM.ret (.w (.c (.ub r (nZ op))))
def Mq (P:Program)(src dst:TypeId)(x:SC):EM SW:=
 match P.underlying src with
 |some (.int _)=>match P.underlying dst with
  |some (.int k)=>EM.bind (eQ x) λa=>EM.bind (emit (.conv k) [a]) λr=>EM.ret (.c (.a r))
  |_=>fail
 |_=>fail
def HV (P:Program)(t:TypeId)(w:SW)(i:Nat):EM SW:=
 match P.underlying t with
 |some (.struct fields)=>match fields[i]? with
  |some f=>match w with
   | .agg cs=>Ee P f.type cs f.offset
   | .av x=>match cnt P f.type with
    |some 0=>EM.bind (uo x) λk=>match k with
     |some m=>match Nat.ble (f.offset+1) m with
      |true=>A1 P f.type (.pc x f.offset)
      |false=>fail
     |none=>EM.bind (emit (.cell f.offset) [x]) λy=>EM.ret (.c (.a y))
    |some (n+1)=>jy (n+1) (.part f.offset (n+1)) [x]
    |none=>fail
   |_=>fail
  |none=>fail
 |_=>fail
def HW:List SC->EM (List A)
 |[]=>EM.ret []
 |x::ws=>EM.bind (eQ x) λa=>EM.bind (HW ws) λas=>EM.ret (a::as)
def UH:SW->EM A
 | .av x=>EM.ret x
 | .agg cs=>EM.bind (HW cs) λas=>emit .agg as
 |_=>fail
def HX (P:Program)(σ:SS)(t:TypeId)(w:SW)(ix:SC):EM SW:=
 match P.underlying t with
 |some (.array len elem)=>match szT P elem with
  |some z=>match cnt P elem with
   |some n=>EM.bind (UH w) λa=>EM.bind (eQ ix) λi=>jy n (.aix z len n) [a,i]
   |none=>fail
  |none=>fail
 |_=>fail
def n7:A->Bool
 | .c (.v (.int .i64 0))=>true
 |_=>false
def vI (P:Program)(σ:SS)(t:TypeId)(x ix:SC):EM SC:=
 match P.underlying t with
 |some (.slice elem)=>match szT P elem with
  |some z=>match x with
   | .lsl b o n=>match look σ.bl b with
    |some (.lst _ _ z' _)=>match Nat.beq z z' with
     |true=>EM.bind (eQ ix) λi=>EM.bind (emit .ix [i,n]) λj=>match n7 o with
      |true=>EM.ret (.ep b j 0)
      |false=>EM.bind (emit .sum [o,j]) λj'=>EM.ret (.ep b j' 0)
     |false=>fail
    |_=>fail
   | .a l=>EM.bind (eQ ix) λi=>EM.bind (emit (.tix z) [l,i]) λj=>EM.ret (.tp l j 0)
   | .pc y k=>EM.bind (emit (.cell k) [y]) λl=>EM.bind (eQ ix) λi=>EM.bind (emit (.tix z) [l,i]) λj=>EM.ret (.tp l j 0)
   |_=>fail
  |none=>fail
 |some (.array len elem)=>match szT P elem with
  |some z=>match x with
   | .ptr b o=>match ix with
    | .a (.c (.v (.int _ i)))=>match decide (0<=i/\ i<len) with
     |true=>EM.ret (.ptr b (o+i.toNat*z))
     |false=>fail
    |_=>fail
   | .ep b k o=>match ix with
    | .a (.c (.v (.int _ i)))=>match decide (0<=i/\ i<len) with
     |true=>EM.ret (.ep b k (o+i.toNat*z))
     |false=>fail
    |_=>fail
   | .tp l k o=>match ix with
    | .a (.c (.v (.int _ i)))=>match decide (0<=i/\ i<len) with
     |true=>EM.ret (.tp l k (o+i.toNat*z))
     |false=>fail
    |_=>fail
   |_=>fail
  |none=>fail
 |_=>fail
def vJ (P:Program)(t:TypeId)(x:SC)(i:Nat):EM SC:=
 match P.underlying t with
 |some (.struct fields)=>match fields[i]? with
  |some f=>match szT P f.type with
   |some (_+1)=>match x with
    | .ptr b o=>EM.ret (.ptr b (o+f.offset))
    | .ep b k o=>EM.ret (.ep b k (o+f.offset))
    | .tp l k o=>EM.ret (.tp l k (o+f.offset))
    |_=>fail
   |_=>fail
  |none=>fail
 |_=>fail
def HY (σ:SS):Option Operand->Option (Option SC)
 |none=>some none
 |some x=>match opC σ x with
  |some c=>some (some c)
  |none=>none
def oT (d:A)(y:A):Option SC->EM A
 |none=>EM.ret d
 |some c=>EM.bind (eQ c) λa=>emit .bnd [a,y]
def HZ (P:Program)(σ:SS)(t:TypeId)(x:SC)(lo hi:Option SC):EM SC:=
 match P.underlying t with
 |some (.slice elem)=>match szT P elem with
  |some z=>match x with
   | .nil=>EM.bind (oT (.c (.i64 0)) (.c (.i64 0)) hi) λh=>EM.bind (oT (.c (.i64 0)) h lo) λ_=>EM.ret .nil
   | .lsl b o n=>match look σ.bl b with
    |some (.lst _ nl z' _)=>match Nat.beq z z'&& Nat.ble 1 z with
     |true=>EM.bind (oT n (if n7 o then nl else n) hi) λh=>match lo with
      |none=>EM.ret (.lsl b o h)
      |some _=>EM.bind (oT (.c (.i64 0)) h lo) λl=>EM.bind (emit .sum [o,l]) λo'=>EM.bind (emit .dif [h,l]) λn'=>EM.ret (.lsl b o' n')
     |false=>fail
    |_=>fail
   |x=>EM.bind (eQ x) λs=>EM.bind (emit .len [s]) λn=>EM.bind (oT n n hi) λh=>EM.bind (oT (.c (.i64 0)) h lo) λl=>EM.bind (emit (.tsub z) [s,l,h]) λr=>EM.ret (.a r)
  |none=>fail
 |_=>fail
def Cg (P:Program)(σ:SS)(t:TypeId)(x:SC)(lo:Option SC)(hi mx:SC):EM SC:=
 match P.underlying t with
 |some (.slice elem)=>match szT P elem with
  |some z=>match x with
   | .lsl b o n=>match look σ.bl b with
    |some (.lst _ _ z' _)=>match Nat.beq z z'&& Nat.ble 1 z with
     |true=>EM.bind (oT n n (some mx)) λm=>EM.bind (oT m m (some hi)) λh=>EM.bind (oT (.c (.i64 0)) h lo) λ_=>EM.ret .un
     |false=>fail
    |_=>fail
   |x=>EM.bind (eQ x) λs=>EM.bind (emit .len [s]) λn=>EM.bind (oT n n (some mx)) λm=>EM.bind (oT m m (some hi)) λh=>EM.bind (oT (.c (.i64 0)) h lo) λl=>EM.bind (emit (.tsub z) [s,l,h]) λr=>EM.ret (.a r)
  |none=>fail
 |_=>fail
def A6 (σ:SS)(x:SC):EM A:=EM.bind (lB σ x) λq=>EM.ret q.1
def Ch (P:Program)(σ:SS)(st xt:TypeId)(x y:SC):EM (SV×SS):=
 match P.underlying st with
 |some (.slice elem)=>match szT P elem with
  |some size=>match P.info? elem with
   |some info=>match nY P elem with
    |some z=>match Nat.ble 1 size&& Nat.ble (size+1) 65536&& Nat.beq z.length size&& Nat.ble 1 info.bytes&& HL P xt with
     |true=>EM.bind (A6 σ y) λys=>match x with
      | .nil=>EM.bind (emit (.app info.bytes size) [.c (.sl []),.c (.i64 0),ys]) λl=>EM.bind (emit .len [l]) λn=>
       EM.ret (.w (.c (.lsl σ.nb (.c (.i64 0)) n)),σ.new (.lst l n size false))
      | .lsl b o n=>match look σ.bl b with
       |some (.lst l nl z' false)=>match n7 o&& Nat.beq z' size with
        |true=>match A.eq n nl with
         |true=>EM.bind (emit (.app info.bytes size) [l,n,ys]) λl'=>EM.bind (emit .len [l']) λn'=>
          EM.ret (.w (.c (.lsl σ.nb (.c (.i64 0)) n')),(σ.kill b).new (.lst l' n' size false))
         |false=>EM.bind (emit (.appK info.bytes size) [l,n,ys]) λl'=>EM.bind (emit .len [l']) λnl'=>EM.bind (emit .len [ys]) λk=>EM.bind (emit .sum [n,k]) λn'=>
          EM.ret (.w (.c (.lsl σ.nb (.c (.i64 0)) n')),(σ.kill b).new (.lst l' nl' size false))
        |false=>fail
       |_=>fail
      |_=>fail
     |false=>match Nat.ble 1 size&& Nat.beq z.length size&& Nat.ble 1 info.bytes&& R5 P xt with
      |true=>match x with
       | .nil=>EM.bind (eQ y) λa=>EM.bind (emit (.rep z info.bytes) [a,a]) λr=>EM.bind (emit (.app info.bytes size) [.c (.sl []),.c (.i64 0),r]) λl=>EM.bind (emit .len [l]) λn=>
        EM.ret (.w (.c (.lsl σ.nb (.c (.i64 0)) n)),σ.new (.lst l n size false))
       |_=>fail
      |false=>fail
    |none=>fail
   |none=>fail
  |none=>fail
 |_=>fail
def R8 (P:Program)(σ:SS)(t:TypeId)(x:SW):EM SW:=
 match P.underlying t with
 |some (.array n _)=>EM.ret (.c (.a (.c (.i64 n))))
 |some (.slice _)=>match x with
  | .c .nil=>EM.ret (.c (.a (.c (.i64 0))))
  | .c (.lsl b _ n)=>match look σ.bl b with
   |some (.lst ..)=>EM.ret (.c (.a n))
   |_=>fail
  | .c (.a x)=>jy 0 .len [x]
  | .c (.pc x i)=>EM.bind (emit (.cell i) [x]) λy=>jy 0 .len [y]
  |_=>fail
 |_=>fail
def elemOf (P:Program)(t:TypeId):Option TypeId:=match P.underlying t with
 |some (.slice e)=>some e
 |_=>none
def vK (P:Program)(σ:SS)(t:TypeId)(l c:SC):EM (SV×SS):=
 match elemOf P t with
 |some elem=>match P.info? elem with
  |some info=>match nY P elem with
   |some z=>match Nat.beq z.length info.size&& Nat.ble 1 info.size&& Nat.ble (info.size+1) 65536&& Nat.ble 1 info.bytes with
    |true=>EM.bind (eQ l) λa=>EM.bind (eQ c) λb=>EM.bind (emit (.rep z info.bytes) [a,b]) λr=>EM.bind (emit .len [r]) λn=>
     EM.ret (.w (.c (.lsl σ.nb (.c (.i64 0)) n)),σ.new (.lst r n info.size false))
    |false=>fail
   |none=>fail
  |none=>fail
 |none=>fail
def mmS (mx:Bool):List SW->EM SW
 |[.c x,.c y]=>EM.bind (eQ x) λa=>EM.bind (eQ y) λb=>EM.bind (emit (.mm mx) [a,b]) λr=>EM.ret (.c (.a r))
 |[.c x,.c y,.c z]=>EM.bind (eQ x) λa=>EM.bind (eQ y) λb=>EM.bind (emit (.mm mx) [a,b]) λr=>EM.bind (eQ z) λc=>EM.bind (emit (.mm mx) [r,c]) λq=>EM.ret (.c (.a q))
 |_=>fail
def H3 (P:Program)(σ:SS)(t:TypeId)(x:SC):EM SS:=
 match elemOf P t with
 |some elem=>match nY P elem with
  |some z=>match x with
   | .nil=>EM.ret σ
   | .lsl b o n=>match look σ.bl b with
    |some (.lst l nl z' false)=>match Nat.beq z.length z' with
     |true=>EM.bind (emit (.clr z) [l,o,n]) λl'=>EM.ret {σ with bl:=put σ.bl b (.lst l' nl z' false)}
     |false=>fail
    |_=>fail
   |_=>fail
  |none=>fail
 |none=>fail
def Mr (P:Program)(σ:SS)(t:TypeId)(x y:SC):EM (SV×SS):=
 match elemOf P t with
 |some elem=>match szT P elem with
  |some size=>match x with
   | .lsl b o n=>match look σ.bl b with
    |some (.lst l nl z' false)=>match Nat.beq z' size with
     |true=>EM.bind (A6 σ y) λys=>EM.bind (emit (.appK 0 size) [.c (.sl []),.c (.i64 0),ys]) λys'=>EM.bind (emit .len [ys']) λm=>EM.bind (emit (.mm false) [n,m]) λk=>EM.bind (emit .sub [ys',.c (.i64 0),k]) λzs=>EM.bind (emit (.appK 0 size) [l,o,zs]) λl'=>
      EM.ret (.w (.c (.a k)),{σ with bl:=put σ.bl b (.lst l' nl z' false)})
     |false=>fail
    |_=>fail
   |_=>fail
  |none=>fail
 |none=>fail
def rI (P:Program)(σ:SS)(b:Builtin)(ts:List TypeId)(args:List SW):EM (SV×SS):=
 match b with
 | .append=>match ts with
  |[st,xt]=>match args with
   |[.c x,.c y]=>Ch P σ st xt x y
   |_=>fail
  |_=>fail
 | .len=>match ts with
  |[t]=>match args with
   |[x]=>EM.bind (R8 P σ t x) λr=>EM.ret (.w r,σ)
   |_=>fail
  |_=>fail
 | .max=>EM.bind (mmS true args) λr=>EM.ret (.w r,σ)
 | .min=>EM.bind (mmS false args) λr=>EM.ret (.w r,σ)
 | .clear=>match ts with
  |[t]=>match args with
   |[.c x]=>EM.bind (H3 P σ t x) λσ'=>EM.ret (.tup [],σ')
   |_=>fail
  |_=>fail
 | .copy=>match ts with
  |[t,_]=>match args with
   |[.c x,.c y]=>Mr P σ t x y
   |_=>fail
  |_=>fail
 | .cap=>match ts with
  |[t]=>match elemOf P t with
   |some _=>match args with
    |[.c .nil]=>EM.ret (.w (.c (.a (.c (.i64 0)))),σ)
    |_=>fail
   |none=>fail
  |_=>fail
 |_=>fail
structure MT where
 kt:TypeId
 et:TypeId
 ks:List Ck
 z:List PV
 ka:Bool
 va:Bool
def acj (va:Bool):Value->Bool
 | .agg _=>va
 | .tuple _=>false
 |_=>!va
def A7 (P:Program)(t:TypeId):Option MT:=match P.underlying t with
 |some (.map kt et)=>match iZ P 10 kt with
  |some ks=>match nY P et with
   |some z=>match bT P kt with
    |some ka=>match bT P et with
     |some va=>match Nat.ble 10 P.depth&& Nat.ble 1 ks.length&&(match va with|true=>Nat.ble 2 z.length|false=>Nat.beq z.length 1)&& acj va ((nX P et).getD (.tuple #[])) with
      |true=>some ⟨kt,et,ks,z,ka,va⟩
      |false=>none
     |none=>none
    |none=>none
   |none=>none
  |none=>none
 |_=>none
def bq:Bool->Bool->Bool
 |true,true=>true
 |false,false=>true
 |_,_=>false
def Ms (σ:SS)(T:MT):SC->Option (Nat×A)
 | .mp b=>match look σ.bl b with
  |some (.map l ka nk va)=>match bq T.ka ka&& Nat.beq T.ks.length nk&& bq T.va va with
   |true=>some (b,l)
   |false=>none
  |_=>none
 |_=>none
def H4 (σ:SS)(g:Bool)(w:SW):EM A:=match g with
 |false=>match w with
  | .c c=>eQ c
  |_=>fail
 |true=>match w with
  | .c _=>fail
  |w=>HS σ w
def Ci (P:Program)(σ:SS)(t:TypeId)(x:SC)(k:SW)(ok:Bool):EM SV:=
 match A7 P t with
 |some T=>match Ms σ T x with
  |some (_,l)=>EM.bind (H4 σ T.ka k) λa=>EM.bind (emit (.mget T.ks T.z) [l,a]) λy=>match ok with
   |true=>EM.bind (emit (.mhas T.ks) [l,a]) λh=>EM.ret (.tup [match T.va with|true=> .av y|false=> .c (.a y),.c (.a h)])
   |false=>EM.ret (.w (match T.va with|true=> .av y|false=> .c (.a y)))
  |none=>fail
 |none=>fail
def vL (P:Program)(σ:SS)(t:TypeId)(x:SC)(k v:SW):EM SS:=
 match A7 P t with
 |some T=>match Ms σ T x with
  |some (b,l)=>EM.bind (H4 σ T.ka k) λa=>EM.bind (H4 σ T.va v) λc=>EM.bind (emit (.mset T.ks T.z.length) [l,a,c]) λl'=>EM.ret {σ with bl:=put σ.bl b (.map l' T.ka T.ks.length T.va)}
  |none=>fail
 |none=>fail
def ack:SW->Option Cap
 | .c (.ptr b o)=>some (.ptr b o)
 | .c (.a x)=>some (.a x)
 |_=>none
def A8 (σ:SS):List Operand->Option (List Cap)
 |[]=>some []
 |x::xs=>match opW σ x with
  |some w=>match ack w with
   |some c=>match A8 σ xs with
    |some cs=>some (c::cs)
    |none=>none
   |none=>none
  |none=>none
def Cap.w:Cap->SW
 | .ptr b o=> .c (.ptr b o)
 | .a x=> .c (.a x)
inductive SR where
 |val (v:SV) (σ:SS)
 |call (g:FuncId) (args:List SW)
 deriving Inhabited
def xz (σ:SS)(x:EM SW):EM SR:=EM.bind x λw=>EM.ret (.val (.w w) σ)
def xA (σ:SS)(x:EM SC):EM SR:=EM.bind x λc=>EM.ret (.val (.w (.c c)) σ)
def zE (x:EM (SV×SS)):EM SR:=EM.bind x λp=>EM.ret (.val p.1 p.2)
def Mu (P:Program)(g:FuncId):Bool:=match P.funcs[g]? with
 |some fn=>match fn.body with
  |some _=>false
  |none=>fn.name== "math/bits.Add64" && fn.origin== ""
 |none=>false
def opE (P:Program)(σ:SS)(op:Op):EM SR:=
 match op with
 | .move x| .assign x=>EM.bind (ofO (opS σ x)) λv=>EM.ret (.val v σ)
 | .pick c a b=>EM.bind (ofO (opC σ c)) λv=>match v with
  | .a (.c (.v (.bool t)))=>EM.bind (ofO (opS σ (if t then a else b))) λv=>EM.ret (.val v σ)
  |_=>fail
 | .alloc t=>EM.bind (ofO (ut P t)) λcs=>zE (HN P σ t cs)
 | .box t x=>EM.bind (ofO (opW σ x)) λw=>EM.bind (xw P t w) λcs=>zE (HN P σ t cs)
 | .build t ps=>EM.bind (ofO (ut P t)) λz=>EM.bind (ofO (qW P t)) λ_=>EM.bind (ofO (xx σ ps.toList)) λl=>EM.bind (A5 P t z l) λcs=>xz σ (rH cs)
 | .buildSlice t n ps=>EM.bind (ofO (xx σ ps.toList)) λl=>zE (tD P σ t n l)
 | .load t a=>EM.bind (ofO (opC σ a)) λp=>xz σ (yD P σ t p)
 | .store t a x=>EM.bind (ofO (opC σ a)) λp=>EM.bind (ofO (opW σ x)) λw=>EM.bind (A4 P σ t p w) λσ'=>EM.ret (.val (.tup []) σ')
 | .nilCheck x=>EM.bind (ofO (opC σ x)) λc=>match c with
  | .ptr b o=>EM.ret (.val (.w (.c (.ptr b o))) σ)
  | .fn g f cs=>EM.ret (.val (.w (.c (.fn g f cs))) σ)
  |_=>fail
 | .binOp op t x y _=>match Mp P op t y with
  |true=>EM.bind (ofO (opC σ x)) λa=>EM.bind (R7 σ op a) λv=>EM.ret (.val v σ)
  |false=>EM.bind (ofO (opW σ x)) λa=>EM.bind (ofO (opW σ y)) λb=>EM.bind (R6 P σ op t a b) λv=>EM.ret (.val v σ)
 | .unOp op _ x=>EM.bind (ofO (opC σ x)) λc=>xz σ (EM.bind (eQ c) λa=>EM.bind (emit (.un op) [a]) λr=>EM.ret (.c (.a r)))
 | .convert src dst x=>EM.bind (ofO (opC σ x)) λc=>xz σ (Mq P src dst c)
 | .lookup t x i ok=>EM.bind (ofO (opC σ x)) λa=>EM.bind (ofO (opW σ i)) λk=>EM.bind (Ci P σ t a k ok) λv=>EM.ret (.val v σ)
 | .mapUpdate t x k v| .insert t x k v=>EM.bind (ofO (opC σ x)) λa=>EM.bind (ofO (opW σ k)) λk=>EM.bind (ofO (opW σ v)) λv=>EM.bind (vL P σ t a k v) λσ'=>EM.ret (.val (.tup []) σ')
 | .makeMap t none=>match A7 P t with
  |some T=>EM.ret (.val (.w (.c (.mp σ.nb))) (σ.new (.map (.c (.sl [])) T.ka T.ks.length T.va)))
  |none=>fail
 | .makeFunc (.func g) a c=>EM.bind (ofO (A8 σ a.toList)) λf=>EM.bind (ofO (A8 σ c.toList)) λcs=>EM.ret (.val (.w (.c (.fn g f cs))) σ)
 | .makeSlice t l c=>EM.bind (ofO (opC σ l)) λa=>EM.bind (ofO (opC σ c)) λb=>zE (vK P σ t a b)
 | .slice t x lo hi none=>EM.bind (ofO (opC σ x)) λa=>EM.bind (ofO (HY σ lo)) λl=>EM.bind (ofO (HY σ hi)) λh=>xA σ (HZ P σ t a l h)
 | .slice t x lo (some hi) (some mx)=>EM.bind (ofO (opC σ x)) λa=>EM.bind (ofO (HY σ lo)) λl=>EM.bind (ofO (opC σ hi)) λh=>EM.bind (ofO (opC σ mx)) λm=>xA σ (Cg P σ t a l h m)
 | .fieldAddr t x i=>EM.bind (ofO (opC σ x)) λa=>xA σ (vJ P t a i)
 | .field t x i=>EM.bind (ofO (opW σ x)) λa=>xz σ (HV P t a i)
 | .indexAddr t x i=>EM.bind (ofO (opC σ x)) λa=>EM.bind (ofO (opC σ i)) λb=>xA σ (vI P σ t a b)
 | .index t x i=>EM.bind (ofO (opW σ x)) λa=>EM.bind (ofO (opC σ i)) λb=>xz σ (HX P σ t a b)
 | .extract x i=>EM.bind (ofO (opS σ x)) λv=>match v with
  | .tup ws=>EM.bind (ofO ws[i]?) λw=>EM.ret (.val (.w w) σ)
  |_=>fail
 | .call c=>EM.bind (ofO (Mo σ c.args.toList)) λargs=>match c.callee with
  | .builtin b=>zE (rI P σ b c.argTypes.toList args)
  | .value x=>EM.bind (ofO (opC σ x)) λf=>match f with
   | .fn g a cs=>match Mu P g with
    |true=>match a,cs,args with
     |[],[],[.c x,.c y,.c z]=>EM.bind (eQ x) λx=>EM.bind (eQ y) λy=>EM.bind (eQ z) λz=>EM.bind (emit .add64 [x,y,z]) λr=>EM.ret (.val (.tup [.c (.pc r 0),.c (.pc r 1)]) σ)
     |_,_,_=>fail
    |false=>EM.ret (.call g (a.map Cap.w++args++cs.map Cap.w))
   |_=>fail
  |_=>fail
 |_=>fail
abbrev eF:=Option Nat
inductive LK where
 |lst (z:Nat)
 |map (ka:Bool) (nk:Nat) (va:Bool)
 |pre (z:Nat)
def LK.b:LK->LK
 | .pre z=> .lst z
 |k=>k
def LK.plain:LK->Bool
 | .pre _=>false
 |_=>true
structure Ld where
 i:Nat
 c:Nat
 k:LK
 gv:Bool:=false
def Mv (c:Nat):SW->Option (SC×SW)
 | .c x=>match c with
  |0=>some (x,.c .nil)
  |_=>none
 | .agg cs=>match cs[c]? with
  |some x=>some (x,.agg (cs.set c .nil))
  |none=>none
 | .av _=>none
def uu (c:Nat):Nat->List SW->Option (SC×List SW)
 |_,[]=>none
 |0,w::ws=>match Mv c w with
  |some (x,w')=>some (x,w'::ws)
  |none=>none
 |i+1,w::ws=>match uu c i ws with
  |some (x,ws')=>some (x,w::ws')
  |none=>none
def Mw (σ:SS)(k:LK):SC->Option (Nat×SB×A×A)
 | .lsl b o n=>match look σ.bl b with
  |some (.lst l nl z false)=>match k with
   | .lst z'=>match n7 o&& A.eq n nl&& Nat.beq z z' with
    |true=>some (b,.lst l nl z false,l,n)
    |false=>none
   | .pre z'=>match n7 o&& Nat.beq z z' with
    |true=>some (b,.lst l nl z false,l,n)
    |false=>none
   |_=>none
  |_=>none
 | .mp b=>match look σ.bl b with
  |some (.map l ka nk va)=>match k with
   | .map ka' nk' va'=>match bq ka ka'&& Nat.beq nk nk'&& bq va va' with
    |true=>some (b,.map l ka nk va,l,.x 0)
    |false=>none
   |_=>none
  |_=>none
 |_=>none
def UI (k:LK)(l n:A):EM A:=match k with
 | .pre _=>emit .sub [l,.c (.i64 0),n]
 |_=>EM.ret l
def UJ (k:LK)(l y:A):EM A:=match k with
 | .pre z=>emit (.appK 0 z) [l,.c (.i64 0),y]
 |_=>EM.ret y
def qI:SB->A->SB
 | .lst _ n z f,y=> .lst y n z f
 | .map _ a n v,y=> .map y a n v
 |x,_=>x
def SS.lent (σ:SS)(b:Nat)(sb:SB):SS:={σ with bl:=put σ.bl b sb}
def SS.back (σ:SS)(gv:Bool)(b:Nat)(sb:SB):SS:=match gv with
 |true=>σ.kill b
 |false=>σ.lent b sb
def UK (σ:SS)(k:LK)(nl:A):Option A:=match look σ.bl 0 with
 |some (.lst l n z false)=>match k with
  | .lst z'=>match A.eq n nl&& Nat.beq z z' with
   |true=>some l
   |false=>none
  |_=>none
 |some (.map l ka nk va)=>match k with
  | .map ka' nk' va'=>match bq ka ka'&& Nat.beq nk nk'&& bq va va' with
   |true=>some l
   |false=>none
  |_=>none
 |_=>none
structure Dcf where
 P:Program
 inl:FuncId->Bool
 slots:FuncId->List (List eF)
 lend:FuncId->Option Ld:=λ_=>none
 loud:Bool:=false
def Dcf.na (D:Dcf)(g:FuncId)(fn:Func):Nat:=fn.params.size+match D.lend g with
 |some _=>1
 |none=>0
def Dcf.nr (D:Dcf)(g:FuncId)(fn:Func):Nat:=fn.resultTypes.size+match D.lend g with
 |some _=>1
 |none=>0
def H5 (σ:SS)(z:Nat)(c:A):EM (SC×SS):=EM.bind (emit .len [c]) λn=>EM.ret (.lsl σ.nb (.c (.i64 0)) n,σ.new (.lst c n z false))
def yF (σ:SS)(y:A):Nat->List eF->EM (List SC×SS)
 |_,[]=>EM.ret ([],σ)
 |i,some z::ts=>EM.bind (emit (.cell i) [y]) λc=>EM.bind (H5 σ z c) λp=>EM.bind (yF p.2 y (i+1) ts) λq=>EM.ret (p.1::q.1,q.2)
 |i,none::ts=>EM.bind (yF σ y (i+1) ts) λq=>EM.ret (.pc y i::q.1,q.2)
def H6 (P:Program)(σ:SS)(t:TypeId)(ts:List eF)(y:A):EM (SW×SS):=
 match bT P t with
 |some true=>match ts with
  |[]=>EM.ret (.av y,σ)
  |ts=>EM.bind (pL ts.length y) λy'=>EM.bind (yF σ y' 0 ts) λp=>EM.ret (.agg p.1,p.2)
 |some false=>match ts with
  |[]=>EM.ret (.c (.a y),σ)
  |[some z]=>EM.bind (H5 σ z y) λp=>EM.ret (.c p.1,p.2)
  |_=>fail
 |none=>fail
def yG (P:Program)(σ:SS):List TypeId->List (List eF)->Nat->EM (List SW×SS)
 |[],_,_=>EM.ret ([],σ)
 |t::tys,ts,y=>EM.bind (H6 P σ t (ts.headD []) (.x y)) λp=>EM.bind (yG P p.2 tys ts.tail (y+1)) λq=>EM.ret (p.1::q.1,q.2)
def vM:List SW->SV
 |[w]=> .w w
 |ws=> .tup ws
def vN (P:Program)(σ:SS):List ResultVar->EM (List SW)
 |[]=>EM.ret []
 | .tmp t::rs=>EM.bind (ofO (opW σ (.tmp t))) λw=>EM.bind (vN P σ rs) λl=>EM.ret (w::l)
 | .cell a t::rs=>EM.bind (ofO (opC σ (.tmp a))) λp=>EM.bind (yD P σ t p) λw=>EM.bind (vN P σ rs) λl=>EM.ret (w::l)
def H7 (σ:SS):eF->SC->EM (A×List Nat×List Nat)
 |none,c=>EM.bind (lB σ c) λq=>EM.ret (q.1,q.2,[])
 |some z,c=>match c with
  | .nil=>match Nat.ble 1 z with
   |true=>EM.ret (.c (.sl []),[],[])
   |false=>fail
  | .lsl b o n=>match look σ.bl b with
   |some (.lst l _ z' false)=>match n7 o&& Nat.beq z z' with
    |true=>EM.bind (emit .sub [l,o,n]) λy=>EM.ret (y,[],[b])
    |false=>fail
   |_=>fail
  |_=>fail
def Ef (σ:SS):List eF->List SC->EM (List A×List Nat×List Nat)
 |[],[]=>EM.ret ([],[],[])
 |s::ss,c::cs=>EM.bind (H7 σ s c) λp=>EM.bind (Ef σ ss cs) λq=>EM.ret (p.1::q.1,p.2.1++q.2.1,p.2.2++q.2.2)
 |_,_=>fail
def R9 (P:Program)(σ:SS)(t:TypeId)(ts:List eF)(w:SW):EM (A×List Nat×List Nat):=
 match bT P t with
 |some true=>match w with
  | .c _=>fail
  | .av x=>match ts with
   |[]=>EM.ret (x,[],[])
   |_=>fail
  | .agg cs=>match ts with
   |[]=>EM.bind (yE σ (.agg cs)) λq=>EM.ret (q.1,q.2,[])
   |ts=>EM.bind (Ef σ ts cs) λq=>EM.bind (emit .agg q.1) λy=>EM.ret (y,q.2)
 |some false=>match w with
  | .c c=>match ts with
   |[]=>H7 σ none c
   |[s]=>H7 σ s c
   |_=>fail
  |_=>fail
 |none=>fail
def Eg (P:Program)(σ:SS):List TypeId->List (List eF)->List SW->EM (List A×List Nat×List Nat)
 |[],_,[]=>EM.ret ([],[],[])
 |t::tys,ts,w::ws=>EM.bind (R9 P σ t (ts.headD []) w) λp=>EM.bind (Eg P σ tys ts.tail ws) λq=>EM.ret (p.1::q.1,p.2.1++q.2.1,p.2.2++q.2.2)
 |_,_,_=>fail
def A9:List Nat->Bool
 |[]=>true
 |b::bs=>!bs.elem b&& A9 bs
structure Fn where
 res:List ResultVar
 tys:List TypeId
 slots:List (List eF)
 ld:Option (LK×A):=none
 gv:Bool:=false
def Fn.lo (F:Fn):Nat:=match F.ld with
 |some _=>1
 |none=>0
def H8 (P:Program)(F:Fn)(σ:SS):EM (List A):=
 EM.bind (vN P σ F.res) λws=>EM.bind (Eg P σ F.tys F.slots ws) λq=>match A9 q.2.2&& q.2.2.all (λb=>!q.2.1.elem b) with
  |true=>match F.ld with
   |none=>EM.ret q.1
   |some (k,nl)=>match F.gv with
    |true=>EM.ret (q.1++[.c (.sl [])])
    |false=>match q.2.1.elem 0||q.2.2.elem 0 with
     |true=>fail
     |false=>match UK σ k nl with
      |some l=>EM.ret (q.1++[l])
      |none=>fail
  |false=>fail
structure Tm where
 p:Nat
 tm:List (Nat×SV)
 bl:List (Nat×SB)
 nb:Nat
 deriving Inhabited
def Tm.st (T:Tm)(σ:SS):SS:={σ with tm:=T.tm,bl:=T.bl,nb:=T.nb}
structure Mt where
 as:List (Nat×A)
 rn:List (Nat×Option Nat)
 deriving Inhabited
def mA (m:Nat)(s:Mt)(t a:A):Option Mt:=
 match t with
 | .x i=>match Nat.ble m i with
  |true=>match look s.as i with
   |none=>some ⟨(i,a)::s.as,s.rn⟩
   |some b=>match A.eq a b with
    |true=>some s
    |false=>none
  |false=>match A.eq t a with
   |true=>some s
   |false=>none
 | .c _=>match A.eq t a with
  |true=>some s
  |false=>none
def oEq:Option Nat->Option Nat->Bool
 |none,none=>true
 |some a,some b=>Nat.beq a b
 |_,_=>false
def mB (s:Mt)(t:Nat)(b:Option Nat):Option Mt:=
 match look s.rn t with
 |some c=>match oEq b c with
  |true=>some s
  |false=>none
 |none=>some ⟨s.as,(t,b)::s.rn⟩
def Sa (m:Nat)(s:Mt):Cap->Cap->Option Mt
 | .ptr t o,.ptr b o'=>match Nat.beq o o' with
  |true=>mB s t (some b)
  |false=>none
 | .a t,.a a=>mA m s t a
 |_,_=>none
def Ba (m:Nat)(s:Mt):List Cap->List Cap->Option Mt
 |[],[]=>some s
 |t::ts,c::cs=>match Sa m s t c with
  |some s=>Ba m s ts cs
  |none=>none
 |_,_=>none
def mC (m:Nat)(s:Mt)(t c:SC):EM Mt:=
 match t with
 | .a ta=>EM.bind (eQ c) λa=>ofO (mA m s ta a)
 | .pc tx i=>match c with
  | .pc x j=>match Nat.beq i j with
   |true=>ofO (mA m s tx x)
   |false=>fail
  |_=>fail
 | .nil=>match c with
  | .nil=>EM.ret s
  |_=>fail
 | .un=>EM.ret s
 | .ub .. =>fail
 | .ptr t o=>match c with
  | .ptr b o'=>match Nat.beq o o' with
   |true=>ofO (mB s t (some b))
   |false=>fail
  |_=>fail
 | .ep t i o=>match c with
  | .ep b j o'=>match Nat.beq o o' with
   |true=>match mB s t (some b) with
    |some s=>ofO (mA m s i j)
    |none=>fail
   |false=>fail
  |_=>fail
 | .tp l i o=>match c with
  | .tp k j o'=>match Nat.beq o o' with
   |true=>match mA m s l k with
    |some s=>ofO (mA m s i j)
    |none=>fail
   |false=>fail
  |_=>fail
 | .lsl t o n=>match c with
  | .lsl b o' n'=>match mB s t (some b) with
   |some s=>match mA m s o o' with
    |some s=>ofO (mA m s n n')
    |none=>fail
   |none=>fail
  | .nil=>match mB s t none with
   |some s=>match mA m s o (.c (.i64 0)) with
    |some s=>ofO (mA m s n (.c (.i64 0)))
    |none=>fail
   |none=>fail
  |_=>fail
 | .mp t=>match c with
  | .mp b=>ofO (mB s t (some b))
  |_=>fail
 | .fn g f cs=>match c with
  | .fn g' f' cs'=>match Nat.beq g g' with
   |true=>match Ba m s f f' with
    |some s=>ofO (Ba m s cs cs')
    |none=>fail
   |false=>fail
  |_=>fail
def mCs (m:Nat)(s:Mt):List SC->List SC->EM Mt
 |[],[]=>EM.ret s
 |t::ts,c::cs=>EM.bind (mC m s t c) λs=>mCs m s ts cs
 |_,_=>fail
def mW (m:Nat)(σ:SS)(s:Mt)(t w:SW):EM Mt:=
 match t with
 | .av ta=>match w with
  | .agg cs=>EM.bind (HS σ (.agg cs)) λa=>ofO (mA m s ta a)
  | .av a=>ofO (mA m s ta a)
  |_=>fail
 | .c t=>match w with
  | .c c=>mC m s t c
  |_=>fail
 | .agg ts=>match w with
  | .agg cs=>mCs m s ts cs
  | .av x=>EM.bind (pL ts.length x) λy=>mCs m s ts (pcs y 0 ts.length)
  |_=>fail
def mWs (m:Nat)(σ:SS)(s:Mt):List SW->List SW->EM Mt
 |[],[]=>EM.ret s
 |t::ts,w::ws=>EM.bind (mW m σ s t w) λs=>mWs m σ s ts ws
 |_,_=>fail
def mV (m:Nat)(σ:SS)(s:Mt)(t v:SV):EM Mt:=
 match t with
 | .w t=>match v with
  | .w w=>mW m σ s t w
  |_=>fail
 | .tup ts=>match v with
  | .tup ws=>mWs m σ s ts ws
  |_=>fail
def mTm (m:Nat)(σ:SS)(s:Mt):List (Nat×SV)->EM Mt
 |[]=>EM.ret s
 |(t,v)::r=>match look σ.tm t with
  |some u=>EM.bind (mV m σ s v u) λs=>mTm m σ s r
  |none=>fail
def bEq:Bool->Bool->Bool
 |true,true=>true
 |false,false=>true
 |_,_=>false
def mBl (m:Nat)(σ:SS)(s:Mt):List (Nat×SB)->EM Mt
 |[]=>EM.ret s
 |(t,tb)::r=>match look s.rn t with
  |some (some b)=>match look σ.bl b with
   |some sb=>match tb,sb with
    | .box ts,.box cs=>EM.bind (mCs m s ts cs) λs=>mBl m σ s r
    | .lst tl tn z fz,.lst l n z' fz'=>match Nat.beq z z'&& bEq fz fz' with
     |true=>match mA m s tl l with
      |some s=>match mA m s tn n with
       |some s=>mBl m σ s r
       |none=>fail
      |none=>fail
     |false=>fail
    | .map tl ka nk va,.map l ka' nk' va'=>match bq ka ka'&& Nat.beq nk nk'&& bq va va' with
     |true=>match mA m s tl l with
      |some s=>mBl m σ s r
      |none=>fail
     |false=>fail
    |_,_=>fail
   |none=>fail
  |some none=>match tb with
   | .lst tl tn z false=>match Nat.ble 1 z with
    |true=>match mA m s tl (.c (.sl [])) with
     |some s=>match mA m s tn (.c (.i64 0)) with
      |some s=>mBl m σ s r
      |none=>fail
     |none=>fail
    |false=>fail
   |_=>fail
  |none=>fail
def Eh (s:Mt)(m:Nat):Nat->Option (List A)
 |0=>some []
 |n+1=>match Eh s m n with
  |some l=>match look s.as (m+n) with
   |some a=>some (l++[a])
   |none=>none
  |none=>none
def acl (T:Tm)(lo:Nat)(rn:List (Nat×Option Nat)):Bool:=Nat.ble lo T.nb&& rn.all λp=>Nat.ble (p.1+1) T.nb&&(Nat.ble lo p.1||oEq p.2 (some p.1))
def yH:List (Nat×Option Nat)->Bool
 |[]=>true
 |(_,none)::r=>yH r
 |(_,some b)::r=>!r.any (λp=>oEq p.2 (some b))&& yH r
def ahE (lo:Nat)(bl:List (Nat×SB)):List (Nat×Option Nat):=bl.filterMap λp=>match Nat.ble (p.1+1) lo with|true=>some (p.1,some p.1)|false=>none
def aee (lo:Nat)(σ:SS)(bl:List (Nat×SB)):Bool:=bl.all λp=>Nat.ble lo p.1||(match p.2 with
 | .lst _ n _ _=>match look σ.bl p.1 with
  |some (.lst _ n' _ _)=>A.eq n n'
  |_=>false
 |_=>true)
def xB (m lo:Nat)(T:Tm)(σ:SS):EM (List A):=
 EM.bind (mTm m σ ⟨[],ahE lo T.bl⟩ T.tm) λs=>EM.bind (mBl m σ s T.bl) λs=>match acl T lo s.rn&& yH s.rn&& s.as.all (λp=>Nat.ble (p.1+1) (m+T.p))&& T.bl.all (λp=>Nat.ble (p.1+1) T.nb)&& aee lo σ T.bl with
  |true=>ofO (Eh s m T.p)
  |false=>fail
inductive AExit where
 |normal
 |exit (id:Nat)
 |ret
inductive SF where
 |seq (c:Code)
 |tl (ops:Array Oper) (rest:List Oper)
 |block (id:Nat)
 |J (j m:Nat) (T:Tm)
 |inl (nb n:Nat) (tm:List (Nat×SV)) (dst:Option Tmp) (ops:Array Oper) (rest:List Oper) (res:List ResultVar)
def loK (n:Nat):List SF->Nat
 |[]=>n
 | .inl nb .. ::_=>nb
 |_::κ=>loK n κ
structure FP where
 F:List Nat
 W:List Nat
inductive Tk where
 |code (c:Code)
 |pop (e:AExit)
 |ops (ops:Array Oper) (rest:List Oper)
 |dops (ops:Array Oper) (rest:List Oper) (fs:List FP)
inductive Hint where
 |no
 |j (f:SS->Tm)
 deriving Inhabited
def Bb {α:Type}(ch l:List (Nat×α)):List Nat->List (Nat×α)
 |[]=>[]
 |t::r=>match look ch t with
  |some v=>(t,v)::Bb ch l r
  |none=>match look l t with
   |some v=>(t,v)::Bb ch l r
   |none=>Bb ch l r
def mkT (p nb:Nat)(ts:List Nat)(ch:List (Nat×SV))(bs:List Nat)(cb:List (Nat×SB))(σ:SS):Tm:=⟨p,Bb ch σ.tm ts,Bb cb σ.bl bs,nb⟩
def oU:List (RF×List A)->K->K
 |[],k=>k
 |(f,as)::r,k=> .lt f as (oU r k)
def mZ (ops:Array Oper):Bool:=ops.toList.any λo=>o.guard.isSome
def SS.setT (σ:SS)(dst:Option Tmp)(v:SV):Option SS:=
 match dst with
 |none=>some σ
 |some t=>match Nat.ble (t+1) σ.n with
  |true=>some {σ with tm:=put σ.tm t v}
  |false=>none
inductive Gd where
 |go (b:Bool)
 |ask (i:Nat)
def rJ (ops:Array Oper)(σ:SS)(o:Oper):Option Gd:=
 match o.guard with
 |none=>some (.go true)
 |some (j,want)=>match(ops[j]?).bind (·.dst) with
  |none=>none
  |some t=>match opS σ (.tmp t) with
   |some (.w (.c (.a (.c (.v (.bool b))))))=>some (.go (b==want))
   |some (.w (.c (.a (.x i))))=>some (.ask i)
   |some (.tup [])=>some (.go false)
   |_=>none
structure Ores where
 pre:qi
 cal:Option (FuncId×List A×qi)
 sv:SV
 σ:SS
 m:Nat
def Ores.k (r:Ores)(k:K):K:=oU r.pre (match r.cal with
 |none=>k
 |some (g,as,l)=> .call g as (oU l k))
def Mx (P:Program)(g:FuncId):Bool:=match P.funcs[g]? with
 |some fn=>fn.body.isSome&&(fn.name== "runtime.NumGoroutine")==false
 |none=>false
def SS.wz (σ0 σ:SS)(z:Szs):SS:={σ with n:=σ0.n,tm:=σ0.tm,sz:=z}
def My (P:Program):List TypeId->Nat->EM (List SW)
 |[],_=>EM.ret []
 |t::ts,y=>EM.bind (emit .flat [.x y]) λa=>EM.bind (My P ts (y+1)) λr=>match bT P t with
  |some true=>EM.ret (.av a::r)
  |some false=>EM.ret (.c (.a a)::r)
  |none=>fail
def acm (D:Dcf)(σ:SS)(g:FuncId)(fn:Func)(bs:List Nat):Bool:=
 bs.any (λb=>match look σ.bl b with
  |some (.lst _ _ _ false)=>true
  |_=>false)&& fn.resultTypes.toList.all (λt=>(iZ D.P 10 t).isSome)&&(D.slots g).all (·.isEmpty)
def Bc (P:Program):List TypeId->List (List eF)->Nat->EM Unit
 |[],_,_=>EM.ret ()
 |t::ts,ss,y=>match ss.headD [] with
  |[]=>EM.bind (emit .flat [.x y]) λ_=>Bc P ts ss.tail (y+1)
  |[some _]=>match bT P t with
   |some false=>EM.bind (emit .flatL [.x y]) λ_=>Bc P ts ss.tail (y+1)
   |_=>fail
  |_=>fail
def PY (P:Program):List TypeId->List (List eF)->Bool
 |[],_=>true
 |t::ts,ss=>PY P ts ss.tail&& match ss.headD [] with
  |[]=>(iZ P 10 t).isSome
  |[some _]=>match P.underlying t with
   |some (.slice e)=>(iZ P 10 e).isSome
   |_=>false
  |_=>false
def aef (D:Dcf)(σ:SS)(g:FuncId)(fn:Func)(bs:List Nat):Bool:=
 bs.any (λb=>match look σ.bl b with
  |some (.lst _ _ _ false)=>true
  |_=>false)&& PY D.P fn.resultTypes.toList (D.slots g)
def n9 (D:Dcf)(σ:SS)(op:Op)(m:Nat):Option Ores:=
 match opE D.P σ op m σ.sz with
 |some (.val sv σ',l,z)=>some ⟨l,none,sv,σ.wz σ' (z++σ.sz),m+l.length⟩
 |some (.call g args,l,z)=>match D.inl g||!Mx D.P g with
  |true=>none
  |false=>match D.lend g with
  |some ld=>match uu ld.c ld.i args with
   |some (x,args')=>match Mw σ ld.k x with
    |some (b,sb,l0,n0)=>match uq σ args' (m+l.length) (z++σ.sz) with
     |some ((as,bs),l2,z2)=>match bs.elem b with
      |true=>none
      |false=>match D.P.funcs[g]? with
       |some fn=>match UI ld.k l0 n0 (m+l.length+l2.length) (z2++(z++σ.sz)) with
        |some (lc,lp,zp)=>match UJ ld.k l0 (.x (m+(l++l2++lp).length+fn.resultTypes.size)) (m+(l++l2++lp).length+(fn.resultTypes.size+1)) (zp++(z2++(z++σ.sz))) with
         |some (ld',lq,zq)=>match yG D.P ((dA σ bs).back ld.gv b (qI sb ld')) fn.resultTypes.toList (D.slots g) (m+(l++l2++lp).length) (m+(l++l2++lp).length+(fn.resultTypes.size+1)+lq.length) (zq++(zp++(z2++(z++σ.sz)))) with
          |some ((ws,σ'),l3,z3)=>some ⟨l++l2++lp,some (g,as++[lc],lq++l3),vM ws,σ.wz σ' (z3++(zq++(zp++(z2++(z++σ.sz))))),m+(l++l2++lp).length+(fn.resultTypes.size+1)+(lq++l3).length⟩
          |none=>none
         |none=>none
        |none=>none
       |none=>none
     |none=>none
    |none=>none
   |none=>none
  |none=>match uq σ args (m+l.length) (z++σ.sz) with
   |some ((as,bs),l2,z2)=>match D.P.funcs[g]? with
    |some fn=>match acm D σ g fn bs with
     |true=>match My D.P fn.resultTypes.toList (m+l.length+l2.length) (m+l.length+l2.length+fn.resultTypes.size) (z2++(z++σ.sz)) with
      |some (ws,l3,z3)=>some ⟨l++l2,some (g,as,l3),vM ws,σ.wz σ (z3++(z2++(z++σ.sz))),m+l.length+l2.length+fn.resultTypes.size+l3.length⟩
      |none=>none
     |false=>match aef D σ g fn bs with
      |true=>match Bc D.P fn.resultTypes.toList (D.slots g) (m+l.length+l2.length) (m+l.length+l2.length+fn.resultTypes.size) (z2++(z++σ.sz)) with
       |some (_,lq,zq)=>match yG D.P σ fn.resultTypes.toList (D.slots g) (m+l.length+l2.length) (m+l.length+l2.length+fn.resultTypes.size+lq.length) (zq++(z2++(z++σ.sz))) with
        |some ((ws,σ'),l3,z3)=>some ⟨l++l2,some (g,as,lq++l3),vM ws,σ.wz σ' (z3++(zq++(z2++(z++σ.sz)))),m+l.length+l2.length+fn.resultTypes.size+(lq++l3).length⟩
        |none=>none
       |none=>none
      |false=>match yG D.P (dA σ bs) fn.resultTypes.toList (D.slots g) (m+l.length+l2.length) (m+l.length+l2.length+fn.resultTypes.size) (z2++(z++σ.sz)) with
       |some ((ws,σ'),l3,z3)=>some ⟨l++l2,some (g,as,l3),vM ws,σ.wz σ' (z3++(z2++(z++σ.sz))),m+l.length+l2.length+fn.resultTypes.size+l3.length⟩
       |none=>none
    |none=>none
   |none=>none
 |none=>none
def bfr (B:Array Nat)(i j:Nat):Bool:=(B.getD j 0).testBit i
def Be (ops:Array Oper)(k:Nat):Bool:=(List.range ops.size).all λi=>Nat.blt i k||(List.range i).all λj=>bfr (Region.before ops) j i
def uv (ops:Array Oper)(o:Oper):List Tmp:=o.dst.toList++Oper.looksAt ops o
def PZ (ops:Array Oper)(B:Array Nat):Bool:=
 let l:=ops.toList.zipIdx
 l.all λ(o,j)=>l.all λ(o',i)=>i==j||(match o'.dst with
  |none=>true
  |some d=>!(uv ops o).contains d||bfr B (min i j) (max i j))
def jb (ops:Array Oper):Bool:=ops.toList.zipIdx.all λ(o,i)=>o.after.all λe=>!Region.binds .any e||decide (e.on<i)
def m7 (ops:Array Oper)(B:Array Nat):Bool:=jb ops&& PZ ops B&& Region.noSelect ops
def UL:Cap->List Nat
 | .ptr b _=>[b]
 | .a _=>[]
def nmC:SC->List Nat
 | .ptr b _| .ep b _ _| .lsl b _ _| .mp b=>[b]
 | .fn _ f c=>f.flatMap UL++c.flatMap UL
 |_=>[]
def nmW:SW->List Nat
 | .c x=>nmC x
 | .av _=>[]
 | .agg cs=>cs.flatMap nmC
def nmV:SV->List Nat
 | .w w=>nmW w
 | .tup ws=>ws.flatMap nmW
def nmO (σ:SS):Operand->List Nat
 | .tmp t=>match look σ.tm t with
  |some v=>nmV v
  |none=>[]
 |_=>[]
def ez (σ:SS)(op:Op):List Nat:=match op with
 | .fieldAddr .. | .field .. | .move _| .assign _| .extract .. =>[]
 | .store _ p _=>match opC σ p with
  |some (.ptr b _)=>[b]
  |_=>op.operands.toList.flatMap (nmO σ)
 |_=>op.operands.toList.flatMap (nmO σ)
def H9 (op:Op):List Tmp:=op.operands.toList.filterMap λx=>match x with
 | .tmp t=>some t
 |_=>none
def SS.rs (σ:SS)(op:Op)(ns:List Nat):SS:={σ with bl:=σ.bl.filter (λp=>ns.elem p.1),tm:=σ.tm.filter λp=>(H9 op).elem p.1}
def Bf (σ:SS)(ns:List Nat)(σ':SS):Bool:=Nat.ble σ.nb σ'.nb&& σ'.bl.all λp=>(ns.elem p.1&&(look σ.bl p.1).isSome)||(Nat.ble σ.nb p.1&& Nat.ble (p.1+1) σ'.nb)
def SS.mg (σ:SS)(ns:List Nat)(σ':SS):SS:={σ with bl:=σ'.bl++σ.bl.filter (λp=>!ns.elem p.1),nb:=σ'.nb}
def rK:Op->Bool
 | .move _| .assign _| .pick .. | .build .. | .load .. | .nilCheck _| .binOp .. | .unOp .. | .convert .. | .makeFunc .. | .slice .. | .fieldAddr .. | .field .. | .indexAddr .. | .index .. | .lookup .. | .extract .. =>true
 | .call c=>match c.callee with
  | .builtin .len| .builtin .max| .builtin .min=>true
  |_=>false
 |_=>false
def Sb (l k:List Nat):Bool:=l.all λx=>!k.elem x
def okF (B:Array Nat)(fs:List FP):Bool:=
 let l:=fs.zipIdx
 l.all λ(a,j)=>l.all λ(b,i)=>Nat.ble j i||bfr B i j||(Sb a.W b.F&& Sb b.W a.F)
def Mz (a b:Nat):List Nat:=(List.range (b-a)).map (a+·)
def vO (σ:SS)(op:Op)(r:Ores):FP:=⟨ez σ op++Mz σ.nb r.σ.nb,match rK op with|true=>[]|false=>ez σ op++Mz σ.nb r.σ.nb⟩
def both (i:Nat)(x:List Hint->Option (K×List Hint))(y:List Hint->Option (K×List Hint))(hs:List Hint):Option (K×List Hint):=
 match x hs with
 |some (k1,hs)=>match y hs with
  |some (k2,hs)=>some (.br (.x i) k1 k2,hs)
  |none=>none
 |none=>none
def MA (i:A)(x:List Hint->Option (K×List Hint))(y z:List Hint->Option (K×List Hint))(hs:List Hint):Option (K×List Hint):=
 match x hs with
 |some (k1,hs)=>match y hs with
  |some (k2,hs)=>match z hs with
   |some (k3,hs)=>some (.br i (.amb k1 k2) k3,hs)
   |none=>none
  |none=>none
 |none=>none
def twice (x y:List Hint->Option (K×List Hint))(hs:List Hint):Option (K×List Hint):=
 match x hs with
 |some (k1,hs)=>match y hs with
  |some (k2,hs)=>some (.amb k1 k2,hs)
  |none=>none
 |none=>none
def lC (σ:SS)(i:Nat)(p:PV):SS:={σ with fc:=(i,p)::σ.fc}
def xC (i:Nat):List Int->Nat->(PV->Nat->List Hint->Option (K×List Hint))->List Hint->Option (K×List Hint)
 |[],_,_,hs=>some (.dead,hs)
 |c::cs,m,f,hs=>match f (.i64 c) (m+1) hs with
  |some (k1,hs)=>match xC i cs (m+1) f hs with
   |some (k2,hs)=>some (.lt (.bin .eql) [.x i,.c (.i64 c)] (.br (.x m) k1 k2),hs)
   |none=>none
  |none=>none
def P0 (P:Program)(σ:SS):Op->Option (Nat×List Int)
 | .indexAddr t _ y .. =>match P.underlying t with
  |some (.array len _)=>match opC σ y with
   |some (.a (.x i))=>match Nat.ble len 8 with
    |true=>some (i,(List.range len).map Int.ofNat)
    |false=>none
   |_=>none
  |_=>none
 |_=>none
def MB (j m' lo:Nat)(T:Tm)(σ:SS)(m:Nat):Option K:=match xB m' lo T σ m σ.sz with
 |some (vs,l,_)=>some (oU l (.jmp j vs))
 |none=>none
def sO (h:Hint)(σ:SS)(m jc:Nat)(κ:List SF)(hs:List Hint)(body:List SF->Nat->List Hint->Option (K×List Hint))(rest:Tm->List Hint->Option (K×List Hint)):Option (K×List Hint):=
 match h with
 | .no=>body κ jc hs
 | .j f=>match body (.J jc m (f σ)::κ) (jc+1) hs with
  |some (k,hs)=>match rest (f σ) hs with
   |some (d,hs)=>some (.jp d k,hs)
   |none=>none
  |none=>none
def oa:Nat->List SW->List (Nat×SV)
 |_,[]=>[]
 |i,w::ws=>(i,.w w)::oa (i+1) ws
def UM (D:Dcf)(σ:SS)(op:Op)(m:Nat):Option (Func×Code×List SW×qi×Szs):=
 match opE D.P σ op m σ.sz with
 |some (.call g args,l,z)=>match D.inl g with
  |true=>match D.P.funcs[g]? with
   |some fn=>match fn.body with
    |some c=>match decide (args.length<=fn.ntmps/\(fn.name== "runtime.NumGoroutine")=false) with
     |true=>some (fn,c,args,l,z++σ.sz)
     |false=>none
    |none=>none
   |none=>none
  |false=>none
 |_=>none
def UN (D:Dcf)(σ:SS)(o:Oper):Bool:=match o.op with
 | .call c=>match c.callee with
  | .value x=>match opC σ x with
   |some (.fn g _ _)=>D.inl g
   |_=>false
  |_=>false
 |_=>false
def Sc (D:Dcf)(σ:SS)(ops:Array Oper):Option Nat:=match ops.toList.any (UN D σ) with
 |false=>none
 |true=>(List.range (ops.size+1)).find? (Be ops)
def nop:Oper:=⟨none,.move (.const (.bool true)),0, "",#[],none⟩
def Ei:Op->Bool
 | .move _| .assign _| .load .. =>true
 |_=>false
def UO (ops:Array Oper)(j f:Nat):Bool:=(match ops[f]? with
 |some o=>o.after.all λe=>!Region.binds .any e
 |none=>false)&&(List.range j).all λi=>Nat.beq i f||bfr (Region.before ops) i j&& match ops[i]? with
  |some o=>Ei o.op
  |none=>false
def Sd (D:Dcf)(σ:SS)(ops:Array Oper):Nat->Option (Nat×Nat)
 |0=>none
 |j+1=>match ops[j]? with
  |some o=>match UN D σ o with
   |true=>match(List.range j).find? (UO ops j) with
    |some f=>some (j,f)
    |none=>none
   |false=>none
  |none=>none
def jZ (ops:Array Oper)(j f:Nat):Array Oper:=(ops.extract 0 j).setIfInBounds f nop
def Bg (ops:Array Oper)(j f:Nat):List Oper:=ops.toList[j]?.toList++(ops.toList[f]?.toList++ops.toList.drop (j+1))
def sOk (ops:Array Oper):Bool:=m7 ops (Region.before ops)
def sym (D:Dcf)(F:Fn):Nat->Tk->SS->Nat->List SF->Nat->List Hint->Option (K×List Hint)
 |0,_,_,_,_,_,_=>none
 |n+1,.code c,σ,m,κ,jc,hs=>
  match c with
  | .skip=>sym D F n (.pop .normal) σ m κ jc hs
  | .label _=>sym D F n (.pop .normal) σ m κ jc hs
  | .exit id=>sym D F n (.pop (.exit id)) σ m κ jc hs
  | .ret=>sym D F n (.pop .ret) σ m κ jc hs
  | .scope b=>sym D F n (.code b) σ m κ jc hs
  | .seq a b=>sym D F n (.code a) σ m (.seq b::κ) jc hs
  | .region _ ops draw=>match draw with
   |false=>match mZ ops with
    |false=>sym D F n (.ops ops ops.toList) σ m κ jc hs
    |true=>match hs with
     |h::hs=>sO h σ m jc κ hs (λκ jc hs=>sym D F n (.ops ops ops.toList) σ m κ jc hs) (λT hs=>sym D F n (.pop .normal) (T.st σ) (m+T.p) κ jc hs)
     |[]=>none
   |true=>match m7 ops (Region.before ops) with
    |false=>none
    |true=>match mZ ops with
     |false=>match Sc D σ ops with
      |none=>sym D F n (.dops ops ops.toList []) σ m κ jc hs
      |some k=>match Sd D σ ops k with
       |none=>match m7 (ops.extract 0 k) (Region.before (ops.extract 0 k)) with
        |false=>none
        |true=>sym D F n (.dops (ops.extract 0 k) (ops.extract 0 k).toList []) σ m (.tl ops (ops.toList.drop k)::κ) jc hs
       |some (j,f)=>match sOk (ops.extract 0 j)&& sOk (jZ ops j f) with
        |false=>none
        |true=>match hs with
         |h::hs=>sO h σ m jc κ hs (λκ jc hs=>twice (λhs=>sym D F n (.dops (ops.extract 0 j) (ops.extract 0 j).toList []) σ m (.tl ops (ops.toList.drop j)::κ) jc hs) (λhs=>sym D F n (.dops (jZ ops j f) (jZ ops j f).toList []) σ m (.tl ops (Bg ops j f)::κ) jc hs) hs) (λT hs=>sym D F n (.pop .normal) (T.st σ) (m+T.p) κ jc hs)
         |[]=>none
     |true=>match hs with
      |h::hs=>sO h σ m jc κ hs (λκ jc hs=>sym D F n (.dops ops ops.toList []) σ m κ jc hs) (λT hs=>sym D F n (.pop .normal) (T.st σ) (m+T.p) κ jc hs)
      |[]=>none
  | .cond x t e=>match opC σ x with
   |some (.a (.c (.v (.bool b))))=>sym D F n (.code (if b then t else e)) σ m κ jc hs
   |some (.a (.x i))=>match hs with
    |h::hs=>sO h σ m jc κ hs (λκ jc hs=>both i (λhs=>sym D F n (.code t) (lC σ i (.bool true)) m κ jc hs) (λhs=>sym D F n (.code e) (lC σ i (.bool false)) m κ jc hs) hs) (λT hs=>sym D F n (.pop .normal) (T.st σ) (m+T.p) κ jc hs)
    |[]=>none
   |some (.ub x s)=>match hs with
    |h::hs=>sO h σ m jc κ hs (λκ jc hs=>MA x (λhs=>sym D F n (.code t) σ m κ jc hs) (λhs=>sym D F n (.code e) σ m κ jc hs) (λhs=>sym D F n (.code (if s then t else e)) σ m κ jc hs) hs) (λT hs=>sym D F n (.pop .normal) (T.st σ) (m+T.p) κ jc hs)
    |[]=>none
   |_=>none
  | .block id b=>match hs with
   |h::hs=>sO h σ m jc κ hs (λκ jc hs=>sym D F n (.code b) σ m (.block id::κ) jc hs) (λT hs=>sym D F n (.pop .normal) (T.st σ) (m+T.p) κ jc hs)
   |[]=>none
  | .loop b=>match hs with
   | .j f::hs=>match MB jc m (loK F.lo κ) (f σ) σ m with
    |some k=>match sym D F n (.code b) ((f σ).st σ) (m+(f σ).p) (.J jc m (f σ)::κ) (jc+1) hs with
     |some (d,hs)=>some (.loop d k,hs)
     |none=>none
    |none=>none
   |_=>none
  |_=>none
 |n+1,.pop e,σ,m,κ,jc,hs=>
  match κ with
  |[]=>match e with
   | .exit _=>none
   |_=>match H8 D.P F σ m σ.sz with
    |some (vs,l,_)=>some (oU l (.ret vs),hs)
    |none=>none
  | .seq c::κ=>match e with
   | .normal=>sym D F n (.code c) σ m κ jc hs
   |e=>sym D F n (.pop e) σ m κ jc hs
  | .tl ops rest::κ=>match e with
   | .normal=>sym D F n (.ops ops rest) σ m κ jc hs
   |e=>sym D F n (.pop e) σ m κ jc hs
  | .block id::κ=>match e with
   | .exit id'=>match Nat.beq id' id with
    |true=>sym D F n (.pop .normal) σ m κ jc hs
    |false=>sym D F n (.pop (.exit id')) σ m κ jc hs
   |e=>sym D F n (.pop e) σ m κ jc hs
  | .J j m' T::κ=>match e with
   | .normal=>match MB j m' (loK F.lo κ) T σ m with
    |some k=>some (k,hs)
    |none=>none
   |e=>sym D F n (.pop e) σ m κ jc hs
  | .inl _ n' tm dst ops rest res::κ=>match e with
   | .exit _=>none
   |_=>match vN D.P σ res m σ.sz with
    |some (ws,l,z)=>match({σ with n:=n',tm:=tm,sz:=z++σ.sz}:SS).setT dst (vM ws) with
     |some σ'=>match sym D F n (.ops ops rest) σ' (m+l.length) κ jc hs with
      |some (k,hs)=>some (oU l k,hs)
      |none=>none
     |none=>none
    |none=>none
 |n+1,.ops ops rest,σ,m,κ,jc,hs=>
  match rest with
  |[]=>sym D F n (.pop .normal) σ m κ jc hs
  |o::os=>match rJ ops σ o with
   |none=>none
   |some (.ask i)=>both i (λhs=>sym D F n (.ops ops (o::os)) (lC σ i (.bool true)) m κ jc hs) (λhs=>sym D F n (.ops ops (o::os)) (lC σ i (.bool false)) m κ jc hs) hs
   |some (.go false)=>match σ.setT o.dst (.tup []) with
    |some σ'=>sym D F n (.ops ops os) σ' m κ jc hs
    |none=>none
   |some (.go true)=>match P0 D.P σ o.op with
   |some (i,cs)=>xC i cs m (λp m' hs=>sym D F n (.ops ops (o::os)) (lC σ i p) m' κ jc hs) hs
   |none=>match UM D σ o.op m with
    |some (fn,c,args,l,z)=>match sym D F n (.code c) {σ with n:=fn.ntmps,tm:=oa 0 args,sz:=z} (m+l.length) (.inl σ.nb σ.n σ.tm o.dst ops os fn.results.toList::κ) jc hs with
     |some (k,hs)=>some (oU l k,hs)
     |none=>none
    |none=>match n9 D σ o.op m with
     |some r=>match r.σ.setT o.dst r.sv with
      |some σ'=>match sym D F n (.ops ops os) σ' r.m κ jc hs with
       |some (k,hs)=>some (r.k k,hs)
       |none=>none
      |none=>none
     |none=>some (.dead,hs)
 |n+1,.dops ops rest fs,σ,m,κ,jc,hs=>
  match rest with
  |[]=>match okF (Region.before ops) fs with
   |true=>sym D F n (.pop .normal) σ m κ jc hs
   |false=>none
  |o::os=>match rJ ops σ o with
   |none=>none
   |some (.ask i)=>both i (λhs=>sym D F n (.dops ops (o::os) fs) (lC σ i (.bool true)) m κ jc hs) (λhs=>sym D F n (.dops ops (o::os) fs) (lC σ i (.bool false)) m κ jc hs) hs
   |some (.go false)=>match σ.setT o.dst (.tup []) with
    |some σ'=>sym D F n (.dops ops os (fs++[⟨[],[]⟩])) σ' m κ jc hs
    |none=>none
   |some (.go true)=>match P0 D.P σ o.op with
   |some (i,cs)=>xC i cs m (λp m' hs=>sym D F n (.dops ops (o::os) fs) (lC σ i p) m' κ jc hs) hs
   |none=>match n9 D (σ.rs o.op (ez σ o.op)) o.op m with
    |some r=>match Bf σ (ez σ o.op) r.σ with
     |true=>match(σ.mg (ez σ o.op) r.σ).setT o.dst r.sv with
      |some σ'=>match sym D F n (.dops ops os (fs++[vO σ o.op r])) σ' r.m κ jc hs with
       |some (k,hs)=>some (r.k k,hs)
       |none=>none
      |none=>none
     |false=>none
    |none=>some (.dead,hs)
def acn (P:Program)(t:TypeId)(i:Nat):SW:=match bT P t with
 |some true=> .av (.x i)
 |_=> .c (.a (.x i))
def sP (P:Program):List TypeId->Nat->List SW
 |[],_=>[]
 |t::ts,i=>acn P t i::sP P ts (i+1)
def MC (P:Program)(t:TypeId)(i c:Nat)(x:SC):EM SW:=match bT P t with
 |some true=>match szT P t with
  |some k=>match Nat.ble (c+1) k with
   |true=>EM.bind (pL k (.x i)) λy=>EM.ret (.agg ((pcs y 0 k).set c x))
   |false=>fail
  |none=>fail
 |some false=>match c with
  |0=>EM.ret (.c x)
  |_=>fail
 |none=>fail
def lk0 (n:Nat):LK->SC×A×SB×qi
 | .lst z=>(.lsl 0 (.c (.i64 0)) (.x (n+1)),.x (n+1),.lst (.x n) (.x (n+1)) z false,[(.len,[.x n])])
 | .map ka nk va=>(.mp 0,.x 0,.map (.x n) ka nk va,[])
 | .pre _=>(.un,.x 0,.box [],[])
def P1 (D:Dcf)(g:FuncId)(fn:Func):Option (Fn×SS×Nat×qi):=match D.lend g with
 |none=>some (⟨fn.results.toList,fn.resultTypes.toList,D.slots g,none,false⟩,⟨fn.ntmps,oa 0 (sP D.P fn.params.toList 0),[],0,[],[]⟩,fn.params.size,[])
 |some ld=>match ld.k.plain with
  |false=>none
  |true=>match fn.params.toList[ld.i]? with
  |some t=>match MC D.P t ld.i ld.c (lk0 fn.params.size ld.k).1 (fn.params.size+1+(lk0 fn.params.size ld.k).2.2.2.length) [] with
   |some (w,l,z)=>some (⟨fn.results.toList,fn.resultTypes.toList,D.slots g,some (ld.k,(lk0 fn.params.size ld.k).2.1),ld.gv⟩,⟨fn.ntmps,oa 0 ((sP D.P fn.params.toList 0).set ld.i w),[(0,(lk0 fn.params.size ld.k).2.2.1)],1,[],z⟩,fn.params.size+1+(lk0 fn.params.size ld.k).2.2.2.length+l.length,(lk0 fn.params.size ld.k).2.2.2++l)
   |none=>none
  |none=>none
def zF (D:Dcf)(fuel:Nat)(g:FuncId)(hs:List Hint):Option K:=
 match D.P.funcs[g]? with
 |some fn=>match fn.body with
  |some c=>match decide (fn.params.size<=fn.ntmps/\ fn.nfree=0/\(fn.name== "runtime.NumGoroutine")=false) with
   |true=>match P1 D g fn with
    |some (F,σ,m,l)=>match sym D F fuel (.code c) σ m [] 0 hs with
     |some (k,_)=>some (oU l k)
     |none=>none
    |none=>none
   |false=>none
  |none=>none
 |none=>none
inductive F2 {α β:Type}(R:α->β->Prop):List α->List β->Prop
 |nil:F2 R [] []
 |cons {a:α} {b:β} {as:List α} {bs:List β} (h:R a b) (t:F2 R as bs):F2 R (a::as) (b::bs)
namespace F2
variable {α β:Type}{R R':α->β->Prop}
def mono (h:∀a b,R a b->R' a b):∀{as:List α} {bs:List β},F2 R as bs->F2 R' as bs
 |_,_,.nil=> .nil
 |_,_,.cons x t=> .cons (h _ _ x) (t.mono h)
def len:∀{as:List α} {bs:List β},F2 R as bs->as.length=bs.length
 |_,_,.nil=>rfl
 |_,_,.cons _ t=>by simp[t.len]
def append:∀{as cs:List α} {bs ds:List β},F2 R as bs->F2 R cs ds->F2 R (as++cs) (bs++ds)
 |_,_,_,_,.nil,k=>k
 |_,_,_,_,.cons x t,k=> .cons x (t.append k)
def take:∀{as:List α} {bs:List β} (n:Nat),F2 R as bs->F2 R (as.take n) (bs.take n)
 |_,_,0,_=>by simpa using .nil
 |_,_,_+1,.nil=>by simpa using .nil
 |_,_,n+1,.cons x t=>by simpa using .cons x (t.take n)
def drop:∀{as:List α} {bs:List β} (n:Nat),F2 R as bs->F2 R (as.drop n) (bs.drop n)
 |_,_,0,h=>by simpa using h
 |_,_,_+1,.nil=>by simpa using .nil
 |_,_,n+1,.cons x t=>by simpa using t.drop n
def get:∀{as:List α} {bs:List β},F2 R as bs->∀(i:Nat) (a:α),as[i]?=some a->∃b,bs[i]?=some b/\ R a b
 |_,_,.nil,i,a,h=>by simp at h
 |_,_,.cons x t,i,a,h=>by
  cases i with
  |zero=>simp at h;subst h;exact⟨_,rfl,x⟩
  |succ i=>simp at h;obtain⟨b,h1,h2⟩:=t.get i a h;exact⟨b,by simpa using h1,h2⟩
def get':∀{as:List α} {bs:List β},F2 R as bs->∀(i:Nat) (b:β),bs[i]?=some b->∃a,as[i]?=some a/\ R a b
 |_,_,.nil,i,a,h=>by simp at h
 |_,_,.cons x t,i,a,h=>by
  cases i with
  |zero=>simp at h;subst h;exact⟨_,rfl,x⟩
  |succ i=>simp at h;obtain⟨b,h1,h2⟩:=t.get' i a h;exact⟨b,by simpa using h1,h2⟩
end F2
section
variable {α:Type}
def dZ (k i:Nat)(v:α)(l:List (Nat×α)):look ((k,v)::l) i=if k=i then some v else look l i:=by
 cases h:Nat.beq k i with
 |true=>rw[ad (bg h)];simp only[look,h]
 |false=>rw[ac (λe=>by rw[e,sj] at h;cases h)];simp only[look,h]
def eX:∀{l:List (Nat×α)} {i:Nat} {v:α},look l i=some v->(i,v)∈l
 |[],i,v,h=>by cases h
 |(k,w)::l,i,v,h=>by
  rw[dZ] at h;split at h
  .rename_i e;cases h;subst e;simp
  .exact aN _ (eX h)
def vP (l:List (Nat×α))(k i:Nat):look (del l k) i=if i=k then none else look l i:=by
 induction l with
 |nil=>simp[del,look]
 |cons p l ih=>
  obtain⟨j,v⟩:=p;unfold del;cases h:Nat.beq j k with
  |true=>
   have e:=bg h;simp only;rw[ih,dZ];by_cases hi:i=k
   .rw[ad hi,ad hi]
   .rw[ac hi,ac hi,ac (λe'=>hi (by omega))]
  |false=>
   have e:j≠k:=λe=>by rw[e,sj] at h;cases h
   simp only;rw[dZ,ih,dZ];by_cases hj:j=i
   .rw[ad hj,ac (by omega),ad hj]
   .rw[ac hj,ac hj]
def dK (l:List (Nat×α))(k i:Nat)(v:α):look (put l k v) i=if i=k then some v else look l i:=by
 unfold put;rw[dZ,vP];by_cases h:k=i
 .rw[ad h,ad h.symm]
 .rw[ac h,ac (λe=>h e.symm),ac (λe=>h e.symm)]
end
section
variable {env:List PV}{α β:Type}
def fL (env:List PV)(m:Nat)(l:qi):Prop:=∀i f as,l[i]?=some (f,as)->∃vs v,evs env as=some vs/\ f.ev vs=some v/\ env[m+i]?=some v
def i5 (env:List PV)(z:Szs):Prop:=∀p∈z,∃cs,env[p.1]?=some (.agg cs)/\ cs.length=p.2
def fL.left {m:Nat}{l k:qi}(h:fL env m (l++k)):fL env m l:=λi f as hi=>h i f as (by
 rw[aG (aD.1 hi).1];exact hi)
def fL.right {m:Nat}{l k:qi}(h:fL env m (l++k)):fL env (m+l.length) k:=λi f as hi=>by
 have:=h (l.length+i) f as (by rw[bH (by omega)];rw[show l.length+i-l.length=i by omega];exact hi)
 rw[dG];exact this
def i5.append {z z':Szs}(h:i5 env z)(k:i5 env z'):i5 env (z++z'):=λp hp=>by
 rcases bS.1 hp with hp|hp
 .exact h p hp
 .exact k p hp
def i5.nil:i5 env []:=λp hp=>by cases hp
def Sp (env:List PV)(x:EM α)(Q:α->Prop):Prop:=∀m z a l z',x m z=some (a,l,z')->fL env m l->i5 env z->i5 env z'/\ Q a
def Sp.mono {x:EM α}{P Q:α->Prop}(h:Sp env x P)(k:∀a,P a->Q a):Sp env x Q:=λm z a l z' e hl hz=>let⟨h1,h2⟩:=h m z a l z' e hl hz;⟨h1,k a h2⟩
def Sp.ret {a:α}{Q:α->Prop}(h:Q a):Sp env (EM.ret a) Q:=λm z b l z' e _ _=>by cases e;exact⟨.nil,h⟩
def Sp.fail {Q:α->Prop}:Sp env (fail:EM α) Q:=λm z b l z' e _ _=>by cases e
def Sp.ofO {o:Option α}{Q:α->Prop}(h:∀a,o=some a->Q a):Sp env (ofO o) Q:=by
 cases o with
 |none=>exact .fail
 |some a=>exact .ret (h a rfl)
def Sp.bind {x:EM α}{f:α->EM β}{P:α->Prop}{Q:β->Prop}(h:Sp env x P)(k:∀a,P a->Sp env (f a) Q):Sp env (EM.bind x f) Q:=by
 intro m z b l z' e hl hz;unfold EM.bind at e;split at e
 .rename_i a l1 z1 h1;split at e
  .rename_i b' l2 z2 h2;cases e;obtain⟨s1,p⟩:=h m z a l1 z1 h1 hl.left hz;obtain⟨s2,q⟩:=k a p _ _ _ _ _ h2 hl.right (s1.append hz);exact⟨s2.append s1,q⟩
  .cases e
 .cases e
def mP (env:List PV)(f:RF)(as:List A)(y:A):Prop:=∃vs v,evs env as=some vs/\ f.ev vs=some v/\ y.ev env=some v
def Sp.emit {f:RF}{as:List A}:Sp env (emit f as) (mP env f as):=by
 intro m z a l z' e hl _;cases e;obtain⟨vs,v,h1,h2,h3⟩:=hl 0 f as rfl;exact⟨.nil,vs,v,h1,h2,h3⟩
def Sp.emitN {f:RF}{as:List A}{n:Nat}(h:∀vs v,evs env as=some vs->f.ev vs=some v->∃cs,v= .agg cs/\ cs.length=n):Sp env (emitN n f as) (mP env f as):=by
 intro m z a l z' e hl _;cases e;obtain⟨vs,v,h1,h2,h3⟩:=hl 0 f as rfl;refine⟨λp hp=>?_,vs,v,h1,h2,h3⟩;simp at hp;subst hp;obtain⟨cs,rfl,h⟩:=h vs v h1 h2;exact⟨cs,h3,h⟩
def Sp.sizeOf {x:A}:Sp env (uo x) (λk=>∀n,k=some n->∃cs,x.ev env=some (.agg cs)/\ cs.length=n):=by
 intro m z a l z' e _ hz;unfold uo at e;cases e;refine⟨.nil,λn hn=>?_⟩;cases x with
 |x i=>obtain⟨cs,h1,h2⟩:=hz (i,n) (eX hn);exact⟨cs,h1,h2⟩
 |c p=>cases hn
def xD {a:A}{vs:List PV}(h:evs env [a]=some vs):∃v,a.ev env=some v/\ vs=[v]:=by
 simp only[evs] at h;split at h
 .rename_i v hv;cases h;exact⟨v,hv,rfl⟩
 .cases h
def Cj {a b:A}{vs:List PV}(h:evs env [a,b]=some vs):∃v w,a.ev env=some v/\ b.ev env=some w/\ vs=[v,w]:=by
 simp only[evs] at h;split at h
 .rename_i v hv;split at h
  .rename_i ws hw;cases h;split at hw
   .rename_i w hw';cases hw;exact⟨v,w,hv,hw',rfl⟩
   .cases hw
  .cases h
 .cases h
def ahF {a b c:A}{vs:List PV}(h:evs env [a,b,c]=some vs):∃u v w,a.ev env=some u/\ b.ev env=some v/\ c.ev env=some w/\ vs=[u,v,w]:=by
 unfold evs at h;split at h
 .rename_i u hu;split at h
  .rename_i ws hw;cases h;obtain⟨v,w,h1,h2,rfl⟩:=Cj hw;exact⟨u,v,w,hu,h1,h2,rfl⟩
  .cases h
 .cases h
def Cl {e':List PV}{a:A}{v:PV}(h:a.ev env=some v):a.ev (env++e')=some v:=by
 cases a with
 |x i=>
  simp only[A.ev] at h|-;rw[aG (aD.1 h).1];exact h
 |c p=>exact h
end
def one:Value->Bool
 | .agg _| .tuple _=>false
 |_=>true
def Rw (z:Nat)(els:List (List PV)):Prop:=∀r∈els,r.length=z/\ r.all t0=true
def Rw.l {z:Nat}{els:List (List PV)}(h:Rw z els):∀r∈els,r.length=z:=λr hr=>(h r hr).1
def Rw.sub {z:Nat}{els:List (List PV)}(h:Rw z els)(i n:Nat):Rw z ((els.drop i).take n):=λr hr=>h r (kg (iC hr))
def Rw.d {z:Nat}{els:List (List PV)}(h:Rw z els)(i:Nat):Rw z (els.drop i):=λr hr=>h r (kg hr)
def Rw.t {z:Nat}{els:List (List PV)}(h:Rw z els)(i:Nat):Rw z (els.take i):=λr hr=>h r (iC hr)
def Rw.app {z:Nat}{a b:List (List PV)}(h:Rw z a)(k:Rw z b):Rw z (a++b):=λr hr=>(bS.1 hr).elim (h r) (k r)
def Rw.ft {z:Nat}{els:List (List PV)}(h:Rw z els):els.flatten.all t0=true:=by
 rw[aS];intro p hp;obtain⟨r,h1,h2⟩:=List.mem_flatten.1 hp;exact aS.1 (h r h1).2 p h2
def ij (v:Value):Prop:=v= .slice none 0 0\/∃b o,v= .slice (some ⟨b,o,none⟩) 0 0
section
variable (w:World)(S:Nat->Prop)
mutual
inductive RT:Value->PV->Prop
 |v {x:Value} (h:iL x=true):RT x (.v x)
 |nil {v:Value} (h:ij v):RT v (.sl [])
 |sl {B o n cap z:Nat} {arr:Array Value} {ty:TypeId} {fz:Nat×Nat} {els:List (List PV)} (hS:S B) (hg:w.heap[B]?=some (.cells arr ty fz)) (hz:0<z) (hn:els.length=n) (hc:n<=cap) (hr:Rw z els)
  (he:RTs ((arr.toList.drop o).take (n*z)) els.flatten):RT (.slice (some ⟨B,o,none⟩) n cap) (.sl els)
 |agg {a:Array Value} {cs:List PV} (h:RTs a.toList cs) (ht:cs.all t0=true):RT (.agg a) (.agg cs)
inductive RTs:List Value->List PV->Prop
 |nil:RTs [] []
 |cons {v:Value} {p:PV} {vs:List Value} {ps:List PV} (h:RT v p) (t:RTs vs ps):RTs (v::vs) (p::ps)
end
end
def RTs.f2 {w:World}{S:Nat->Prop}:∀{vs:List Value} {ps:List PV},RTs w S vs ps->F2 (RT w S) vs ps
 |_,_,.nil=> .nil
 |_,_,.cons h t=> .cons h t.f2
def RTs.of {w:World}{S:Nat->Prop}:∀{vs:List Value} {ps:List PV},F2 (RT w S) vs ps->RTs w S vs ps
 |_,_,.nil=> .nil
 |_,_,.cons h t=> .cons h (RTs.of t)
structure Kp (w:World)(S:Nat->Prop)(w':World)(S':Nat->Prop):Prop where
 sub:∀B,S B->S' B
 get:∀B,S B->w'.heap[B]?=w.heap[B]?
def Kp.refl (w:World)(S:Nat->Prop):Kp w S w S:=⟨λ_ h=>h,λ_ _=>rfl⟩
def Kp.trans {w w' w'':World}{S S' S'':Nat->Prop}(h:Kp w S w' S')(k:Kp w' S' w'' S''):Kp w S w'' S'':=⟨λB hB=>k.sub B (h.sub B hB),λB hB=>(k.get B (h.sub B hB)).trans (h.get B hB)⟩
section
variable {w w':World}{S S':Nat->Prop}
mutual
def RT.mono (k:Kp w S w' S'):∀{v:Value} {p:PV},RT w S v p->RT w' S' v p
 |_,_,.v h=> .v h
 |_,_,.nil h=> .nil h
 |_,_,.sl hS hg hz hn hc hr he=> .sl (k.sub _ hS) ((k.get _ hS).trans hg) hz hn hc hr (he.mono k)
 |_,_,.agg h ht=> .agg (h.mono k) ht
def RTs.mono (k:Kp w S w' S'):∀{vs:List Value} {ps:List PV},RTs w S vs ps->RTs w' S' vs ps
 |_,_,.nil=> .nil
 |_,_,.cons h t=> .cons (h.mono k) (t.mono k)
end
def RT.one {v:Value}{p:PV}(h:RT w S v p)(ht:t0 p=true):one v=true:=by
 cases h with
 |v h=>cases v<;>first|rfl|simp[iL] at h
 |nil h=>rcases h with rfl|⟨_,_,rfl⟩<;>rfl
 |sl=>rfl
 |agg=>simp[t0] at ht
end
def kd:SB->SB
 | .box _=> .box []
 | .lst _ nl z _=> .lst (.x 0) nl z false
 | .map _ ka nk va=> .map (.x 0) ka nk va
structure Cx where
 e:List PV
 ρ:Nat->Option (Nat×Nat)
 S:Nat->Prop
 w:World
 σ:SS
 nm:Nat->Prop
 N:Nat
 K:Nat->Option SB
section
variable (X:Cx)
abbrev Cx.T (X:Cx):Value->PV->Prop:=RT X.w X.S
inductive CapR:Value->Cap->Prop
 |ptr {b o B:Nat} (hb:X.nm b) (h:∀sb,X.K b=some sb->∃l,X.ρ b=some (B,l)):CapR (.pointer (some ⟨B,o,none⟩)) (.ptr b o)
 |a {x:A} {v:Value} {p:PV} (h:x.ev X.e=some p) (ht:t0 p=true) (r:X.T v p):CapR v (.a x)
def MD (b:Nat)(o n nl:A)(z:Nat)(v:Value):Prop:=∃oi ni L:Nat,o.ev X.e=some (.i64 oi)/\ n.ev X.e=some (.i64 ni)/\ nl.ev X.e=some (.i64 L)/\ oi+ni<=L/\
 ((∃B lim cap,X.ρ b=some (B,lim)/\ v= .slice (some ⟨B,oi*z,none⟩) ni cap/\(L<=oi+cap/\ cap<=9223372036854775807)/\(oi+cap)*z<=lim)\/(ni=0/\ ij v/\ L<=oi))
inductive CR:Value->SC->Prop
 |a {x:A} {v:Value} {p:PV} (h:x.ev X.e=some p) (ht:t0 p=true) (r:X.T v p):CR v (.a x)
 |pc {x:A} {i:Nat} {cs:List PV} {v:Value} {p:PV} (h:x.ev X.e=some (.agg cs)) (ha:cs.all t0=true) (hi:cs[i]?=some p) (r:X.T v p):CR v (.pc x i)
 |nil {v:Value} (h:ij v):CR v .nil
 |un {v:Value} (h:one v=true):CR v .un
 |ub {x:A} {b e s:Bool} (h:x.ev X.e=some (.bool e)) (hs:e=false->b=s):CR (.bool b) (.ub x s)
 |ptr {b o B:Nat} (hb:X.nm b) (h:∀sb,X.K b=some sb->∃l,X.ρ b=some (B,l)):CR (.pointer (some ⟨B,o,none⟩)) (.ptr b o)
 |ep {b o B x:Nat} {i:A} {kk:IntKind} {k:Nat} (hb:X.nm b) (hi:i.ev X.e=some (.v (.int kk k))) (h:∀nl z,X.K b=some (.lst (.x 0) nl z false)->(∃l,X.ρ b=some (B,l))/\ x=k*z+o):CR (.pointer (some ⟨B,x,none⟩)) (.ep b i o)
 |tp {l i:A} {o B x:Nat} {els:List (List PV)} {kk:IntKind} {k:Nat} {row:List PV} {arr:Array Value} {ty:TypeId} {fz:Nat×Nat} (hl:l.ev X.e=some (.sl els)) (hi:i.ev X.e=some (.v (.int kk k))) (hr:els[k]?=some row)
  (hS:X.S B) (hg:X.w.heap[B]?=some (.cells arr ty fz)) (he:RTs X.w X.S ((arr.toList.drop x).take row.length) row):CR (.pointer (some ⟨B,x+o,none⟩)) (.tp l i o)
 |lsl {b:Nat} {o n:A} {v:Value} (hb:X.nm b) (h1:one v=true) (h:∀nl z,X.K b=some (.lst (.x 0) nl z false)->MD X b o n nl z v):CR v (.lsl b o n)
 |mp {b:Nat} {r:Option Nat} (hb:X.nm b) (h:∀sb,X.K b=some sb->∃B l,X.ρ b=some (B,l)/\ r=some B):CR (.map r) (.mp b)
 |fn {g:Nat} {f c:List Cap} {f1 c1:Array Value} (h1:F2 (CapR X) f1.toList f) (h2:F2 (CapR X) c1.toList c):CR (.func (.func g) f1 c1) (.fn g f c)
inductive WR:Value->SW->Prop
 |c {v:Value} {x:SC} (h:CR X v x):WR v (.c x)
 |av {a:Array Value} {x:A} {cs:List PV} (h:x.ev X.e=some (.agg cs)) (ht:cs.all t0=true) (r:RTs X.w X.S a.toList cs):WR (.agg a) (.av x)
 |agg {a:Array Value} {cs:List SC} (h:F2 (CR X) a.toList cs):WR (.agg a) (.agg cs)
inductive VR:Value->SV->Prop
 |w {v:Value} {x:SW} (h:WR X v x):VR v (.w x)
 |tup {a:Array Value} {ws:List SW} (h:F2 (WR X) a.toList ws):VR (.tuple a) (.tup ws)
end
structure Sx (X X':Cx):Prop where
 e:∃x,X'.e=X.e++x
 ρ:∀b,X.nm b->X'.ρ b=X.ρ b
 k:Kp X.w X.S X'.w X'.S
 lv:∀b sb,X.nm b->X'.K b=some sb->X.K b=some sb
 nm:∀b,X.nm b->X'.nm b
section
variable {X X' X'':Cx}
def Sx.refl:Sx X X:=⟨⟨[],by simp⟩,λ_ _=>rfl,Kp.refl _ _,λ_ _ _ h=>h,λ_ h=>h⟩
def Sx.trans (h:Sx X X')(k:Sx X' X''):Sx X X'':=by
 obtain⟨x,hx⟩:=h.e;obtain⟨y,hy⟩:=k.e;refine⟨⟨x++y,by rw[hy,hx,bc]⟩,λb hb=>(k.ρ b (h.nm b hb)).trans (h.ρ b hb),h.k.trans k.k,λb sb' hb hl=>h.lv b sb' hb (k.lv b sb' (h.nm b hb) hl),λb hb=>k.nm b (h.nm b hb)⟩
def Sx.ev (k:Sx X X'){a:A}{v:PV}(h:a.ev X.e=some v):a.ev X'.e=some v:=by
 obtain⟨x,hx⟩:=k.e;rw[hx];exact Cl h
def CapR.step (k:Sx X X'){v:Value}{c:Cap}(h:CapR X v c):CapR X' v c:=by
 cases h with
 |ptr hb h=>
  exact .ptr (k.nm _ hb) λsb hl=>by
   rw[k.ρ _ hb];exact h _ (k.lv _ sb hb hl)
 |a h ht r=>exact .a (k.ev h) ht (r.mono k.k)
def MD.step (k:Sx X X'){b z:Nat}{o n nl:A}{v:Value}(hb:X.nm b)(h:MD X b o n nl z v):MD X' b o n nl z v:=by
 obtain⟨oi,ni,L,h1,h2,h3,h4,h5⟩:=h;exact⟨oi,ni,L,k.ev h1,k.ev h2,k.ev h3,h4,by rw[k.ρ _ hb];exact h5⟩
def CR.step (k:Sx X X'){v:Value}{c:SC}(h:CR X v c):CR X' v c:=by
 cases h with
 |a h ht r=>exact .a (k.ev h) ht (r.mono k.k)
 |pc h ha hi r=>exact .pc (k.ev h) ha hi (r.mono k.k)
 |nil h=>exact .nil h
 |un h=>exact .un h
 |ub h hs=>exact .ub (k.ev h) hs
 |ptr hb h=>
  exact .ptr (k.nm _ hb) λsb hl=>by
   rw[k.ρ _ hb];exact h _ (k.lv _ sb hb hl)
 |ep hb hi h=>
  exact .ep (k.nm _ hb) (k.ev hi) λnl z hl=>by
   rw[k.ρ _ hb];exact h _ _ (k.lv _ _ hb hl)
 |tp hl hi hr hS hg he=>exact .tp (k.ev hl) (k.ev hi) hr (k.k.sub _ hS) ((k.k.get _ hS).trans hg) (he.mono k.k)
 |lsl hb h1 h=>
  exact .lsl (k.nm _ hb) h1 λnl z hl=>(h _ _ (k.lv _ _ hb hl)).step k hb
 |mp hb h=>
  exact .mp (k.nm _ hb) λsb hl=>by
   rw[k.ρ _ hb];exact h _ (k.lv _ sb hb hl)
 |fn h1 h2=>exact .fn (h1.mono λ_ _ h=>h.step k) (h2.mono λ_ _ h=>h.step k)
def WR.step (k:Sx X X'){v:Value}{x:SW}(h:WR X v x):WR X' v x:=by
 cases h with
 |c h=>exact .c (h.step k)
 |av h ht r=>exact .av (k.ev h) ht (r.mono k.k)
 |agg h=>exact .agg (h.mono λ_ _ h=>h.step k)
def VR.step (k:Sx X X'){v:Value}{x:SV}(h:VR X v x):VR X' v x:=by
 cases h with
 |w h=>exact .w (h.step k)
 |tup h=>exact .tup (h.mono λ_ _ h=>h.step k)
def ux {cs:List PV}(h:cs.all t0=true){i:Nat}{v:PV}(hi:cs[i]?=some v):t0 v=true:=aS.1 h v (aI.2 ⟨i,hi⟩)
def CR.one {v:Value}{c:SC}(h:CR X v c):one v=true:=by
 cases h with
 |a _ ht r=>exact r.one ht
 |pc _ ha hi r=>exact r.one (ux ha hi)
 |nil h=>rcases h with rfl|⟨_,_,rfl⟩<;>rfl
 |un h=>exact h
 |lsl _ h1 _=>exact h1
 |_=>rfl
def jk {v:Value}(h:one v=true):v.cells=#[v]:=by cases v<;>first|rfl|simp[Sym.one] at h
end
def vQ (n:Nat)(fz:Nat×Nat):Prop:=∀i,i<=n->¬(fz.1<=i/\ i<fz.2)
def Row (w:World)(B:Nat)(arr:Array Value):Prop:=∃ty fz,w.heap[B]?=some (.cells arr ty fz)/\ vQ arr.size fz
def Shp (g:Bool)(v:Value):Prop:=(g=true->∃a,v= .agg a)/\(g=false->one v=true)
def Se (w:World)(S:Nat->Prop)(ka:Bool)(nk:Nat)(va:Bool)(m:MapEntry)(r:List PV):Prop:=∃ks vs,r=ks++vs/\ RTs w S m.key.cells.toList ks/\ RTs w S m.val.cells.toList vs/\ ks.length=nk/\ Shp ka m.key/\ Shp va m.val/\ vs.all t0=true/\(va=true->vs.length≠1)
def xE (w:World)(S:Nat->Prop)(ka:Bool)(nk:Nat)(va:Bool)(es:List MapEntry)(rows:List (List PV)):Prop:=F2 (Se w S ka nk va) es rows
def BR (X:Cx)(b:Nat):SB->Prop
 | .box cs=>∃B arr,X.ρ b=some (B,arr.size)/\ Row X.w B arr/\ F2 (CR X) arr.toList cs
 | .lst l nl z _=>0<z/\∃els,l.ev X.e=some (.sl els)/\ nl.ev X.e=some (.i64 els.length)/\ Rw z els/\
   ((els=[]/\ X.ρ b=none)\/∃B arr,X.ρ b=some (B,arr.size)/\ Row X.w B arr/\ RTs X.w X.S (arr.toList.take (els.length*z)) els.flatten)
 | .map l ka nk va=>∃B es ck rows,X.ρ b=some (B,0)/\ X.w.heap[B]?=some (.map es ck)/\ l.ev X.e=some (.sl rows)/\ xE X.w X.S ka nk va es.toList rows
def frz:SB->Bool
 | .lst _ _ _ f=>f
 |_=>false
structure MR (X:Cx)(base:Nat)(L:Nat->Prop):Prop where
 lt:∀b sb,look X.σ.bl b=some sb->X.nm b
 kd:∀b sb,look X.σ.bl b=some sb->X.K b=some (Sym.kd sb)
 fr:∀b,X.σ.nb<=b->b<X.N->¬X.nm b
 bl:∀b sb,look X.σ.bl b=some sb->BR X b sb
 own:∀b sb B l,look X.σ.bl b=some sb->X.ρ b=some (B,l)->(base<=B\/L B)/\(X.S B↔frz sb=true)
 inj:∀b b' sb sb' B l l',look X.σ.bl b=some sb->look X.σ.bl b'=some sb'->X.ρ b=some (B,l)->X.ρ b'=some (B,l')->b=b'
 cur:∀B,X.S B->B<X.w.heap.size
 hb:base<=X.w.heap.size
 sz:i5 X.e X.σ.sz
 fc:∀p∈X.σ.fc,X.e[p.1]?=some p.2
structure Frm (base:Nat)(L:Nat->Prop)(w w':World):Prop where
 os:w'.os=w.os
 tape:w'.tape=w.tape
 output:w'.output=w.output
 size:w.heap.size<=w'.heap.size
 block:∀k,k<base->¬L k->w'.heap[k]?=w.heap[k]?
 drawn:¬L base->w.drawn<=w'.drawn
def Frm.refl {base:Nat}{L:Nat->Prop}{w:World}:Frm base L w w:=⟨rfl,rfl,rfl,aB _,λ_ _ _=>rfl,λ_=>aB _⟩
def Frm.trans {base:Nat}{L:Nat->Prop}{w w' w'':World}(h:Frm base L w w')(k:Frm base L w' w''):Frm base L w w'':=⟨k.os.trans h.os,k.tape.trans h.tape,k.output.trans h.output,bz h.size k.size,λi hi hl=>(k.block i hi hl).trans (h.block i hi hl),λq=>bz (h.drawn q) (k.drawn q)⟩
structure Nx (X:Cx)(base:Nat)(L:Nat->Prop)(X':Cx):Prop where
 sx:Sx X X'
 mr:MR X' base L
 fr:Frm base L X.w X'.w
 new:∀B,X'.S B->X.S B\/base<=B\/L B
 e:X'.e=X.e
 N:X'.N=X.N
 nb:X.σ.nb<=X'.σ.nb
 nmb:∀b,X'.nm b->X.nm b\/(X.σ.nb<=b/\ b<X'.σ.nb)
 kk:∀b,X.nm b->look X.σ.bl b=none->X'.K b=X.K b/\ look X'.σ.bl b=none
def Nx.trans {X X' X'':Cx}{base:Nat}{L:Nat->Prop}(h:Nx X base L X')(k:Nx X' base L X''):Nx X base L X'':=⟨h.sx.trans k.sx,k.mr,h.fr.trans k.fr,λB hB=>by
 rcases k.new B hB with h1|h1
 .exact h.new B h1
 .exact .inr h1,k.e.trans h.e,k.N.trans h.N,bz h.nb k.nb,λb hb=>by
 rcases k.nmb b hb with h1|h1
 .exact(h.nmb b h1).imp id λh2=>⟨h2.1,bW h2.2 k.nb⟩
 .exact .inr ⟨bz h.nb h1.1,h1.2⟩,λb h1 h2=>by
 obtain⟨h3,h4⟩:=h.kk b h1 h2;obtain⟨h5,h6⟩:=k.kk b (h.sx.nm b h1) h4;exact⟨h5.trans h3,h6⟩⟩
def Nx.refl {X:Cx}{base:Nat}{L:Nat->Prop}(h:MR X base L):Nx X base L X:=⟨.refl,h,.refl,λ_ h=> .inl h,rfl,rfl,aB _,λ_ h=> .inl h,λ_ _ h=>⟨rfl,h⟩⟩
end Go.Sym
namespace Go.Sym
open Go.RowKit
section
variable {e:List PV}
def ik {f:RF}{a y:A}{v:PV}(h:mP e f [a] y)(ha:a.ev e=some v):∃u,f.ev [v]=some u/\ y.ev e=some u:=by
 obtain⟨vs,u,h1,h2,h3⟩:=h;obtain⟨v',h4,rfl⟩:=xD h1
 grind
def gm {f:RF}{a b y:A}{v w:PV}(h:mP e f [a,b] y)(ha:a.ev e=some v)(hb:b.ev e=some w):∃u,f.ev [v,w]=some u/\ y.ev e=some u:=by
 obtain⟨vs,u,h1,h2,h3⟩:=h;obtain⟨v',w',h4,h5,rfl⟩:=Cj h1
 grind
def jJ {f:RF}{a b c y:A}{u v w:PV}(h:mP e f [a,b,c] y)(ha:a.ev e=some u)(hb:b.ev e=some v)(hc:c.ev e=some w):∃r,f.ev [u,v,w]=some r/\ y.ev e=some r:=by
 obtain⟨vs,r,h1,h2,h3⟩:=h;obtain⟨u',v',w',h4,h5,h6,rfl⟩:=ahF h1
 grind
def dg {α:Type}{c:Prop}[Decidable c]{x y:α}(h:(if c then some x else none)=some y):c/\ x=y:=by
 grind
def aco {α:Type}{c:Prop}{d:Decidable c}{x y:α}(h:(if c then some x else none)=some y):c/\ x=y:=dg h
def Sf {α:Type}{c:Prop}[Decidable c]{x:Option α}{y:α}(h:(if c then x else none)=some y):c/\ x=some y:=by
 grind
def i6 {a b:Nat}(h:Nat.beq a b=true):a=b:=bg h
end
section
variable {X:Cx}{P:Program}
def dE {c:SC}{v:Value}(h:CR X v c):Sp X.e (eQ c) λa=>∃p,a.ev X.e=some p/\ t0 p=true/\ X.T v p:=by
 cases h with
 |a h ht r=>exact .ret ⟨_,h,ht,r⟩
 |pc h ha hi r=>
  refine Sp.emit.mono λy hy=>?_;obtain⟨u,h1,h2⟩:=ik hy h;simp[RF.ev] at h1
  grind
 |nil h=>exact .ret ⟨_,rfl,rfl,.nil h⟩
 |_=>exact .fail
def pM {n:Nat}{x:A}{cs:List PV}(h:x.ev X.e=some (.agg cs)):Sp X.e (pL n x) λy=>y.ev X.e=some (.agg cs)/\ cs.length=n:=by
 refine Sp.bind Sp.sizeOf λk hk=>?_;cases k with
 |none=>
  refine Sp.mono (Sp.emitN λvs v h1 h2=>?_) λy hy=>?_
  .obtain⟨v',h4,rfl⟩:=xD h1;rw[h] at h4;cases h4;obtain⟨hl,rfl⟩:=dg h2
   grind
  .obtain⟨u,h1,h2⟩:=ik hy h;obtain⟨hl,rfl⟩:=dg h1
   grind
 |some k=>
  simp only;split
  .rename_i hb;have:=i6 hb;subst this;obtain⟨cs',h1,h2⟩:=hk k rfl;rw[h] at h1;cases h1;exact .ret ⟨h,h2⟩
  .exact .fail
def xF {α:Type}{l:List α}{i:Nat}{a:α}{r:List α}(h:l.drop i=a::r):l[i]?=some a/\ l.drop (i+1)=r:=by
 have:l[i]?=(l.drop i)[0]?:=by simp
 rw[h] at this;exact⟨by simpa using this,by rw[<-gz,h];rfl⟩
def Bh {x:A}{cs:List PV}(h:x.ev X.e=some (.agg cs))(ht:cs.all t0=true):∀(n i:Nat) {ds:List PV} {vs:List Value},cs.drop i=ds->ds.length=n->F2 X.T vs ds->F2 (CR X) vs (pcs x i n)
 |0,i,ds,vs,hd,hn,hs=>by
  have:=bJ hn;subst this;cases hs;exact .nil
 |n+1,i,ds,vs,hd,hn,hs=>by
  cases hs with
  |nil=>simp at hn
  |cons hv t=>
   obtain⟨h1,h2⟩:=xF hd;exact .cons (.pc h ht h1 hv) (Bh h ht n (i+1) h2 (by simpa using hn) t)
def xG {t:TypeId}{w:SW}{v:Value}(h:WR X v w):Sp X.e (xw P t w) λcs=>F2 (CR X) v.cells.toList cs/\ szT P t=some v.cells.size:=by
 unfold xw;split
 .split
  .rename_i n hn;cases h with
   |c h=>exact .fail
   |av h ht hs=>
    refine Sp.bind (pM h) λy hy=> .ret ⟨?_,?_⟩
    .rw[<-hy.2];exact Bh hy.1 ht _ 0 rfl rfl hs.f2
    .have:=hs.f2.len;rw[hn,<-hy.2];simpa [Value.cells] using this.symm
   |agg h=>
    simp only;split
    .rename_i hb;have:=h.len;exact .ret ⟨h,by rw[hn,<-i6 hb];simpa [Value.cells] using this.symm⟩
    .exact .fail
  .exact .fail
 .split
  .rename_i hn;cases h with
   |c h=>rw[jk h.one];exact .ret ⟨.cons h .nil,hn⟩
   |_=>exact .fail
  .exact .fail
 .exact .fail
def A.same_eq {x y:A}(h:A.same x y=true):x=y:=by
 cases x<;>cases y<;>simp only[A.same] at h<;>first|(cases h;done)|(have:=i6 h;subst this;rfl)
def acp {p q:PV}(h:cEq p q=true):p=q:=by
 unfold cEq at h
 grind
def uy {a b:A}(h:A.eq a b=true):a=b:=by
 unfold A.eq at h;split at h
 .simp_all
 .rw[acp h]
 .cases h
def Ia {x:A}{cs:List PV}(h:x.ev X.e=some (.agg cs)):∀(l:List SC) (i:Nat) {vs:List Value},F2 (CR X) vs l->F2 X.T (vs.take (mJ x i l)) ((cs.drop i).take (mJ x i l))/\ i+mJ x i l<=max i cs.length/\ mJ x i l<=l.length
 |[],i,vs,hf=>by simp only[mJ];exact⟨.nil,by omega,aB _⟩
 |c::l,i,vs,hf=>by
  cases hf with
  |cons hc t=>
   cases c with
   |pc y j=>
    simp[mJ];split
    .rename_i hb;simp only[aH] at hb;have e1:=A.same_eq hb.1;have e2:=i6 hb.2;subst e1;subst e2;obtain⟨k1,k2,k3⟩:=Ia h l (i+1) t;cases hc with
     |pc h' ha hi r=>
      rw[h] at h';cases h';have hlt:=(aD.1 hi).1;refine⟨?_,by omega,by simp;omega⟩;rw[iW,cY hlt,iW,(aD.1 hi).2];exact .cons r k1
    .simp only[gA];exact⟨.nil,by omega,cV _⟩
   |_=>simp only[mJ];exact⟨.nil,by omega,cV _⟩
def yI {cs:List PV}(h:cs.all t0=true)(i n:Nat):((cs.drop i).take n).all t0=true:=by
 grind
def y7 {cs:List SC}{a:Array Value}(h:F2 (CR X) a.toList cs):Sp X.e (rH cs) (WR X (.agg a)):=by
 unfold rH;split
 .rename_i x i rest;split
  .rename_i hb;have hrun:=i6 hb;generalize hvs:a.toList=vs at h;cases h with
   | @cons v _ vs _ hc t=>
    cases hc with
    | @pc _ _ ds _ p hx hall hi r=>
     obtain⟨k1,k2,k3⟩:=Ia hx rest (i+1) t;rw[hrun] at k1 k2;have hlt:=(aD.1 hi).1;have hlen:=t.len;rw[bk (by omega:vs.length<=rest.length)] at k1;have hd:(ds.drop i).take (rest.length+1)=p::(ds.drop (i+1)).take rest.length:=by
      rw[cY hlt,iW]
      grind
     have hall2:RTs X.w X.S a.toList ((ds.drop i).take (rest.length+1)):=by rw[hd,hvs];exact .of (.cons r k1)
     refine Sp.bind Sp.sizeOf λk hk=>?_;split
     .rename_i hb2;cases k with
      |none=>cases hb2
      |some k=>
       simp only[aH] at hb2;have e1:=i6 hb2.1;have e2:=i6 hb2.2;subst e1;obtain⟨ds',h1,h2⟩:=hk k rfl;rw[hx] at h1;cases h1;rw[dP,bk (by simp at e2;omega)] at hall2;exact .ret (.av hx hall hall2)
     .refine Sp.bind (Sp.emitN λvs v h1 h2=>?_) λy hy=>?_
      .obtain⟨v',h4,rfl⟩:=xD h1;rw[hx] at h4;cases h4;obtain⟨hl,rfl⟩:=dg h2;exact⟨_,rfl,by rw[aP,b9];omega⟩
      .obtain⟨u,h1,h2⟩:=ik hy hx;obtain⟨hl,rfl⟩:=dg h1;exact .ret (.av h2 (yI hall _ _) hall2)
  .exact .ret (.agg h)
 .exact .ret (.agg h)
def vR (P:Program)(t:TypeId)(vs:List Value)(o:Nat)(v:Value):Prop:=
 (bT P t=some true/\∃n,szT P t=some n/\ o+n<=vs.length/\ v= .agg ((vs.drop o).take n).toArray)\/(bT P t=some false/\ vs[o]?=some v)
def Dj {t:TypeId}{c:SC}{v:Value}(h:CR X v c):Sp X.e (A1 P t c) (WR X v):=by
 unfold A1;split
 .split
  .cases h with
   |pc hx ha hi r=>
    refine Sp.bind Sp.emit λy hy=>?_;obtain⟨u,h1,h2⟩:=ik hy hx;simp[RF.ev] at h1;rw[hi] at h1;cases h1;exact .ret (.c (.a h2 (ux ha hi) r))
  .exact .ret (.c h)
 .exact .ret (.c h)
def Ib {t:TypeId}{cs:List SC}{vs:List Value}{o:Nat}(h:F2 (CR X) vs cs):Sp X.e (Ee P t cs o) λw=>∃v,vR P t vs o v/\ WR X v w:=by
 unfold Ee;split
 .rename_i ha;split
  .rename_i n hn;split
   .rename_i hb;refine(y7 (a:=((vs.drop o).take n).toArray) (by simpa using(h.drop o).take n)).mono λw hw=>⟨_,.inl ⟨ha,n,hn,?_,rfl⟩,hw⟩
    rw[h.len];rwa [gH] at hb
   .exact .fail
  .exact .fail
 .rename_i ha;split
  .rename_i c hc;obtain⟨v,h1,h2⟩:=h.get' o c hc;exact(Dj h2).mono λw hw=>⟨v,.inr ⟨ha,h1⟩,hw⟩
  .exact .fail
 .exact .fail
def cnt_spec {t:TypeId}{n:Nat}(h:cnt P t=some n):(n=0/\ bT P t=some false)\/(0<n/\ bT P t=some true/\ szT P t=some n):=by
 unfold cnt at h
 grind
def rowPart_spec {t:TypeId}{o n:Nat}{row:List PV}{p:PV}(hc:cnt P t=some n)(h:cF o n row=some p):(n=0/\ bT P t=some false/\ row[o]?=some p/\ t0 p=true)\/(0<n/\ bT P t=some true/\ szT P t=some n/\ o+n<=row.length/\ p= .agg ((row.drop o).take n)/\((row.drop o).take n).all t0=true):=by
 rcases cnt_spec hc with⟨rfl,ha⟩|⟨hn,ha,hz⟩
 .simp[cF] at h
  grind
 .unfold cF at h
  grind
def xH {t:TypeId}{n:Nat}{f:RF}{as:List A}{vs:List Value}{x m o:Nat}(hc:cnt P t=some n)(h:∀xs p,evs X.e as=some xs->f.ev xs=some p->∃row,cF o n row=some p/\ RTs X.w X.S ((vs.drop x).take m) row):Sp X.e (jy n f as) λw=>(∃v,vR P t vs (x+o) v/\ WR X v w)/\∃xs p,evs X.e as=some xs/\ f.ev xs=some p:=by
 have key:∀{p:PV} {row:List PV} {y:A},cF o n row=some p->RTs X.w X.S ((vs.drop x).take m) row->y.ev X.e=some p->∃v,vR P t vs (x+o) v/\ WR X v (match n with|0=> .c (.a y)|_=> .av y):=by
  intro p row y h1 h2 h3;rcases rowPart_spec hc h1 with⟨rfl,ha,hr,ht⟩|⟨hn,ha,hz,hl,rfl,ht⟩
  .obtain⟨v,k1,k2⟩:=h2.f2.get' o p hr;rw[gR] at k1;split at k1
   .exact⟨v,.inr ⟨ha,by rwa [fN] at k1⟩,.c (.a h3 ht k2)⟩
   .cases k1
  .have hl':=h2.f2.len;simp only[aP,b9] at hl';refine⟨_,.inl ⟨ha,n,hz,by omega,rfl⟩,?_⟩;have h4:=(h2.f2.drop o).take n;rw[eK,dC,bG (by omega),gz] at h4;cases n with
   |zero=>omega
   |succ n=>exact .av h3 ht (by simpa using RTs.of h4)
 unfold jy;split
 .refine Sp.bind Sp.emit λy hy=>?_;obtain⟨xs,p,h1,h2,h3⟩:=hy;obtain⟨row,h4,h5⟩:=h xs p h1 h2;exact .ret ⟨key h4 h5 h3,xs,p,h1,h2⟩
 .rename_i hne;refine Sp.bind (Sp.emitN λxs p h1 h2=>?_) λy hy=>?_
  .obtain⟨row,h4,h5⟩:=h xs p h1 h2;rcases rowPart_spec hc h4 with⟨h0,_⟩|⟨hn,_,_,hl,rfl,_⟩
   .exact absurd h0 hne
   .exact⟨_,rfl,by rw[aP,b9];omega⟩
  .obtain⟨xs,p,h1,h2,h3⟩:=hy;obtain⟨row,h4,h5⟩:=h xs p h1 h2;have:=key h4 h5 h3;cases n with
   |zero=>exact absurd rfl hne
   |succ n=>exact .ret ⟨this,xs,p,h1,h2⟩
def tE {t:TypeId}{n:Nat}{f:RF}{as:List A}{vs:List Value}{x m o:Nat}(hc:cnt P t=some n)(h:∀xs p,evs X.e as=some xs->f.ev xs=some p->∃row,cF o n row=some p/\ RTs X.w X.S ((vs.drop x).take m) row):Sp X.e (jy n f as) λw=>∃v,vR P t vs (x+o) v/\ WR X v w:=(xH hc h).mono λ_ h=>h.1
def add_plain (g o i:Nat):(⟨g,o,none⟩:Addr).add i=⟨g,o+i,none⟩:=by
 unfold Addr.add
 grind
def run_sizeOf {t n:Nat}(h:szT P t=some n)(w:World):(sizeOf t).run P w= .ok n w:=by
 unfold szT at h;rw[bM] at h;obtain⟨i,hi,hn⟩:=h;simp[Go.sizeOf,typeInfo,hi,hn]
def sQ {t:Nat}{b:Bool}(h:bT P t=some b)(w:World):(isAgg t).run P w= .ok b w:=by
 unfold bT at h;rw[bM] at h;obtain⟨d,hd,rfl⟩:=h;unfold isAgg;rw[Sem.run_bind,run_underlying hd w];cases d<;>rfl
def xI {w:World}{B:Nat}{arr:Array Value}{ty:TypeId}{fz:Nat×Nat}(hg:w.heap[B]?=some (.cells arr ty fz))(o n:Nat)(h:o+n<=arr.size):(loadCells ⟨B,o,none⟩ n).run P w= .ok ((arr.toList.drop o).take n).toArray w:=by
 have:=run_loadCells_list (P:=P) w ⟨B,o,none⟩ ((arr.toList.drop o).take n) λj v hv=>by
  rw[add_plain];simp[World.cell?]
  grind
 grind
def run_load {w:World}{B o:Nat}{arr:Array Value}{ty:TypeId}{fz:Nat×Nat}{t:TypeId}{v:Value}(hg:w.heap[B]?=some (.cells arr ty fz))(h:vR P t arr.toList o v):(loadVar t ⟨B,o,none⟩).run P w= .ok v w:=by
 unfold loadVar;rcases h with⟨ha,n,hn,hl,rfl⟩|⟨ha,hv⟩
 .simp[sQ ha,run_sizeOf hn,xI hg o n (by simpa using hl)]
 .have hc:w.cell? ⟨B,o,none⟩=some v:=by simp[World.cell?,hg];simpa using hv
  rw[Sem.run_bind,sQ ha];simp_all
def zG {z:Nat}:∀{els:List (List PV)} {k:Nat} {row:List PV},(∀r∈els,r.length=z)->els[k]?=some row->(els.flatten.drop (k*z)).take z=row
 |[],k,row,_,h=>by simp at h
 |r::els,0,row,hr,h=>by
  simp at h;subst h;have:=hr r (by simp);rw[sn,dP,d9,eU (by omega),bk (by omega)]
 |r::els,k+1,row,hr,h=>by
  have:=hr r (by simp);rw[d9,nj,dx (by rw[b6];omega),aO,show(k+1)*z-r.length=k*z by rw[b6];omega]
  exact zG (λr h=>hr r (by simp[h])) (by simpa using h)
def gt {z:Nat}:∀{els:List (List PV)},(∀r∈els,r.length=z)->els.flatten.length=els.length*z
 |[],_=>by simp
 |r::els,hr=>by
  rw[d9,aC,hr r (by simp),gt λr h=>hr r (by simp[h]),aV,b6];omega
def Co {z:Nat}:∀{n:Nat} {l:List (List PV)},(∀r∈l,r.length=z)->l.flatten.drop (n*z)=(l.drop n).flatten/\ l.flatten.take (n*z)=(l.take n).flatten
 |0,l,_=>by simp
 |n+1,[],_=>by simp
 |n+1,r::l,hr=>by
  have hrl:=hr r (by simp);obtain⟨i1,i2⟩:=Co (n:=n) (l:=l) λx hx=>hr x (by simp[hx]);have he:(n+1)*z=r.length+n*z:=by rw[b6];omega
  rw[d9,he,pZ,qc,i1,i2];simp
def lD {z n:Nat}{l:List (List PV)}(h:∀r∈l,r.length=z):l.flatten.drop (n*z)=(l.drop n).flatten:=(Co h).1
def jl {z n:Nat}{l:List (List PV)}(h:∀r∈l,r.length=z):l.flatten.take (n*z)=(l.take n).flatten:=(Co h).2
def Dk {z k n:Nat}{vs:List Value}{els:List (List PV)}{row:List PV}(hr:∀r∈els,r.length=z)(h:RTs X.w X.S (vs.take n) els.flatten)(hk:els[k]?=some row):RTs X.w X.S ((vs.drop (k*z)).take z) row:=by
 have h1:=(h.f2.drop (k*z)).take z;rw[zG hr hk] at h1;have hn:els.length*z<=n:=by
  have h2:=h.f2.len;rw[gt hr,aP] at h2;omega
 have hlt:=(aD.1 hk).1;have:k*z+z<=n:=by
  have:=cd z (show k+1<=els.length by omega)
  grind
 rw[eK,dC,bG (by omega)] at h1;exact .of h1
def Ic {o n:Nat}{els:List (List PV)}{kk:IntKind}{k:Nat}{p:PV}(h:(RF.elt o n).ev [.sl els,.v (.int kk k)]=some p):∃row,els[k]?=some row/\ cF o n row=some p:=by
 simp[RF.ev] at h
 grind
def Ie {base:Nat}{L:Nat->Prop}(hm:MR X base L){t:TypeId}{c:SC}{u:Value}(h:CR X u c):Sp X.e (yD P X.σ t c) λw=>∃v B o,u= .pointer (some ⟨B,o,none⟩)/\(loadVar t ⟨B,o,none⟩).run P X.w= .ok v X.w/\ WR X v w:=by
 cases h with
 | @ptr b o B hb h=>
  simp only[yD];split
  .rename_i cs hl;obtain⟨B',arr,h1,⟨ty,fz,hg,_⟩,h2⟩:=hm.bl b _ hl;obtain⟨l,h3⟩:=h _ (hm.kd _ _ hl);rw[h3] at h1;cases h1;exact(Ib (P:=P) h2).mono λw ⟨v,k1,k2⟩=>⟨v,B,o,rfl,run_load hg k1,k2⟩
  .exact .fail
 | @ep b o B x i kk k hb hi h=>
  simp only[yD];split
  .rename_i l nl z fz hl;split
   .rename_i m hm';obtain⟨hz,els,h1,h2,h3,h4⟩:=hm.bl b _ hl;obtain⟨⟨lim,h5⟩,rfl⟩:=h _ _ (hm.kd _ _ hl);rcases h4 with⟨rfl,h4⟩|⟨B',arr,h4,⟨ty,fz',hg,_⟩,h6⟩
    .grind
    .rw[h5] at h4;cases h4;refine(tE (vs:=arr.toList) (x:=k*z) (m:=z) (o:=o) hm' λxs p e1 e2=>?_).mono λw ⟨v,k1,k2⟩=>⟨v,B,_,rfl,run_load hg k1,k2⟩;obtain⟨x,y,f1,f2,rfl⟩:=Cj e1;rw[h1] at f1;cases f1;rw[hi] at f2;cases f2;obtain⟨row,g1,g2⟩:=Ic e2;exact⟨row,g2,Dk h3.l h6 g1⟩
   .exact .fail
  .exact .fail
 | @tp l i o B x els kk k row arr ty fz hl hi hr hS hg he=>
  simp only[yD];split
  .rename_i m hm';refine(tE (vs:=arr.toList) (x:=x) (m:=row.length) (o:=o) hm' λxs p e1 e2=>?_).mono λw ⟨v,k1,k2⟩=>⟨v,B,_,rfl,run_load hg k1,k2⟩;obtain⟨x,y,f1,f2,rfl⟩:=Cj e1;rw[hl] at f1;cases f1;rw[hi] at f2;cases f2;obtain⟨row',g1,g2⟩:=Ic e2;rw[hr] at g1;cases g1;exact⟨row,g2,he⟩
  .exact .fail
 |_=>exact .fail
end
section
variable {X:Cx}{P:Program}{base:Nat}{L:Nat->Prop}
def gO (X:Cx)(bs:List Nat):Prop:=∀b∈bs,∃l nl z fz,look X.σ.bl b=some (.lst l nl z fz)
def gO.nil:gO X []:=λ_ h=>by cases h
def gO.app {bs cs:List Nat}(h:gO X bs)(k:gO X cs):gO X (bs++cs):=λb hb=>(bS.1 hb).elim (h b) (k b)
def frS (X:Cx)(bs:List Nat)(B:Nat):Prop:=X.S B\/∃b∈bs,∃l,X.ρ b=some (B,l)
def qX:Kp X.w X.S X.w (frS X []):=⟨λ_ h=> .inl h,λ_ _=>rfl⟩
def Ej {bs cs:List Nat}:Kp X.w (frS X bs) X.w (frS X (bs++cs)):=⟨λ_ h=>h.imp id λ⟨b,hb,h⟩=>⟨b,dL _ hb,h⟩,λ_ _=>rfl⟩
def Ek {bs cs:List Nat}:Kp X.w (frS X cs) X.w (frS X (bs++cs)):=⟨λ_ h=>h.imp id λ⟨b,hb,h⟩=>⟨b,fP _ hb,h⟩,λ_ _=>rfl⟩
def Bi {bs:List Nat}:Kp X.w X.S X.w (frS X bs):=⟨λ_ h=> .inl h,λ_ _=>rfl⟩
def Out (X:Cx)(v:Value)(r:A×List Nat):Prop:=(∃p,r.1.ev X.e=some p/\ t0 p=true/\ RT X.w (frS X r.2) v p)/\ gO X r.2
def xJ (hm:MR X base L){c:SC}{v:Value}(h:CR X v c):Sp X.e (lB X.σ c) (Out X v):=by
 cases h with
 |a h ht r=>exact .ret ⟨⟨_,h,ht,r.mono qX⟩,.nil⟩
 |pc h ha hi r=>
  simp only[lB];refine Sp.bind Sp.emit λy hy=>?_;obtain⟨u,h1,h2⟩:=ik hy h;simp only[RF.ev] at h1;rw[hi] at h1;cases h1;exact .ret ⟨⟨_,h2,ux ha hi,r.mono qX⟩,.nil⟩
 |nil h=>exact .ret ⟨⟨_,rfl,rfl,.nil h⟩,.nil⟩
 | @lsl b o n v hb h1 h=>
  simp only[lB];split
  .rename_i l nl z fz hl;refine Sp.bind Sp.emit λy hy=> .ret ⟨?_,λb' hb'=>by simp at hb';subst hb';exact⟨_,_,_,_,hl⟩⟩;obtain⟨oi,ni,Ln,e1,e2,e3,e4,e5⟩:=h _ _ (hm.kd _ _ hl);obtain⟨hz,els,k1,k2,k3,k4⟩:=hm.bl b _ hl;rw[e3] at k2;simp only[bY,PV.v.injEq,Value.int.injEq,fJ] at k2;have hLn:Ln=els.length:=by omega
   subst hLn;obtain⟨u,q1,q2⟩:=jJ hy k1 e1 e2;obtain⟨_,rfl⟩:=dg q1;simp only[aF] at q2;refine⟨_,q2,rfl,?_⟩;rcases e5 with⟨B,lim,cap,f1,rfl,f2,f3⟩|⟨rfl,hv,_⟩
   .rcases k4 with⟨_,k4⟩|⟨B',arr,k4,⟨ty,fz',hg,_⟩,k6⟩
    .rw[f1] at k4;cases k4
    .rw[f1] at k4;cases k4;refine .sl (.inr ⟨b,by simp,_,f1⟩) hg hz (by simp;omega) (by omega) (k3.sub _ _) ?_;have h5:=((RTs.f2 k6).drop (oi*z)).take (ni*z);rw[lD k3.l,jl (k3.d _).l,eK,dC] at h5;rw[bG (by have:=cd z e4;rw[b6] at this;omega)] at h5;exact(RTs.of h5).mono Bi
   .rw[gA];exact .nil hv
  .exact .fail
 |_=>exact .fail
def zH (X:Cx)(vs:List Value)(r:List A×List Nat):Prop:=(∃xs,evs X.e r.1=some xs/\(xs.flatMap PV.cells).all t0=true/\ RTs X.w (frS X r.2) vs (xs.flatMap PV.cells))/\ gO X r.2
def jz {e:List PV}{a:A}{as:List A}{p:PV}{ps:List PV}(h:a.ev e=some p)(k:evs e as=some ps):evs e (a::as)=some (p::ps):=by simp[evs,h,k]
def zH.cons {v:Value}{vs:List Value}{p:A×List Nat}{q:List A×List Nat}(h:Out X v p)(k:zH X vs q):zH X (v::vs) (p.1::q.1,p.2++q.2):=by
 obtain⟨⟨x,h1,h2,h3⟩,h4⟩:=h;obtain⟨⟨xs,k1,k2,k3⟩,k4⟩:=k;have hx:x.cells=[x]:=by cases x<;>first|rfl|simp[t0] at h2
 refine⟨⟨x::xs,jz h1 k1,?_,?_⟩,h4.app k4⟩
 .grind
 .rw[du,hx];exact .cons (h3.mono Ej) (k3.mono Ek)
def qJ (hm:MR X base L):∀(k:Nat) {cs:List SC} {vs:List Value},F2 (CR X) vs cs->Sp X.e (nA X.σ k cs) (zH X vs)
 |k,[],vs,h=>by
  cases h;unfold nA;exact .ret ⟨⟨[],rfl,rfl,.nil⟩,.nil⟩
 |0,c::cs,vs,h=> .fail
 |k+1,c::cs,vs,h=>by
  have one:∀(c:SC) (vs:List Value),F2 (CR X) vs (c::cs)->Sp X.e (EM.bind (lB X.σ c) λp=>EM.bind (nA X.σ k cs) λq=>EM.ret (p.1::q.1,p.2++q.2)) (zH X vs):=λc vs h=>by
   cases h with
   |cons h t=>exact Sp.bind (xJ hm h) λp hp=>Sp.bind (qJ hm k t) λq hq=> .ret (zH.cons hp hq)
  unfold nA;split
  .rename_i x i;cases h with
   | @cons v _ vs _ h t=>
   cases h with
   | @pc _ _ ds _ p hx ha hi r=>
   obtain⟨k1,k2,k3⟩:=Ia hx cs (i+1) t;split
   .refine Sp.bind Sp.emit λy hy=>Sp.bind (qJ hm k t) λq hq=>?_;obtain⟨u,h1,h2⟩:=ik hy hx;simp[RF.ev] at h1;rw[hi] at h1;cases h1;exact .ret (zH.cons (p:=(y,[])) ⟨⟨_,h2,ux ha hi,r.mono qX⟩,.nil⟩ hq)
   .rename_i n hn;rw[hn] at k1 k2 k3;have hlt:=(aD.1 hi).1;refine Sp.bind (Sp.emitN λvs v h1 h2=>?_) λy hy=>Sp.bind (qJ hm k (t.drop (n+1))) λq hq=>?_
    .obtain⟨v',h4,rfl⟩:=xD h1;rw[hx] at h4;cases h4;obtain⟨hl,rfl⟩:=dg h2;exact⟨_,rfl,by rw[aP,b9];omega⟩
    .obtain⟨u,h1,h2⟩:=ik hy hx;obtain⟨hl,rfl⟩:=dg h1;obtain⟨⟨xs,q1,q2,q3⟩,q4⟩:=hq;have hd:(ds.drop i).take (n+2)=p::(ds.drop (i+1)).take (n+1):=by
      rw[cY hlt,iW]
      congr 1
      exact(aD.1 hi).2
     refine .ret ⟨⟨_::xs,jz h2 q1,?_,?_⟩,q4⟩
     .rw[du,ou,q2,kq];exact yI ha _ _
     .rw[du];show RTs X.w (frS X q.2) (v::vs) ((ds.drop i).take (n+2)++_)
      rw[hd,<-gZ (n+1) vs];exact .of ((F2.cons (r.mono Bi) ((RTs.of k1).mono Bi).f2).append q3.f2)
  .exact one _ _ h
def vS (hm:MR X base L){w:SW}{v:Value}(h:WR X v w):Sp X.e (yE X.σ w) λr=>(∃p,r.1.ev X.e=some p/\ RT X.w (frS X r.2) v p/\((∃c,w= .c c)->t0 p=true))/\ gO X r.2:=by
 unfold yE;split
 .rename_i cs;cases h with
  |agg h=>
   have hl:=h.len;refine Sp.bind (qJ hm _ h) λq ⟨⟨xs,q1,q2,q3⟩,q4⟩=>Sp.bind (Sp.emitN λvs v h1 h2=>?_) λy hy=>?_
   .rw[q1] at h1;cases h1;obtain⟨_,rfl⟩:=dg h2;exact⟨_,rfl,by rw[<-q3.f2.len,hl]⟩
   .obtain⟨vs,u,h1,h2,h3⟩:=hy;rw[q1] at h1;cases h1;obtain⟨_,rfl⟩:=dg h2;exact .ret ⟨⟨_,h3,.agg q3 q2,λ⟨_,e⟩=>by cases e⟩,q4⟩
 .cases h with
  |av h ht r=>exact .ret ⟨⟨_,h,.agg (r.mono qX) ht,λ⟨_,e⟩=>by cases e⟩,.nil⟩
 .cases h with
  |c h=>exact(xJ hm h).mono λr ⟨⟨p,h1,h2,h3⟩,h4⟩=>⟨⟨p,h1,h3,λ_=>h2⟩,h4⟩
def nC (hm:MR X base L):∀{ws:List SW} {vs:List Value},F2 (WR X) vs ws->Sp X.e (uq X.σ ws) λr=>(∃ps,evs X.e r.1=some ps/\ F2 (RT X.w (frS X r.2)) vs ps)/\ gO X r.2
 |_,_,.nil=> .ret ⟨⟨[],rfl,.nil⟩,.nil⟩
 |_,_,.cons h t=>by
  unfold uq;refine Sp.bind (vS hm h) λp ⟨⟨x,h1,h2,_⟩,h3⟩=>Sp.bind (nC hm t) λq ⟨⟨xs,q1,q2⟩,q3⟩=> .ret ⟨⟨x::xs,jz h1 q1,.cons (h2.mono Ej) (q2.mono λ_ _ h=>h.mono Ek)⟩,h3.app q3⟩
def Cx.fz (X:Cx)(bs:List Nat):Cx:={X with S:=frS X bs,σ:=dA X.σ bs}
def kz:∀(bs:List Nat) (σ:SS) (b:Nat),look (dA σ bs).bl b=if b∈bs then(look σ.bl b).map nB else look σ.bl b
 |[],σ,b=>by simp[dA]
 |c::bs,σ,b=>by
  have idem:∀x,nB (nB x)=nB x:=λx=>by cases x<;>rfl
  unfold dA;cases h:look σ.bl c with
  |none=>
   simp only;rw[kz bs];by_cases e:b=c
   .subst e;simp[h]
   .simp[e]
  |some sb=>
   simp only;rw[kz bs];simp[dK];by_cases e:b=c
   .subst e;simp[h,idem]
   .simp[e]
def qK:∀(bs:List Nat) (σ:SS),(dA σ bs).nb=σ.nb/\(dA σ bs).tm=σ.tm/\(dA σ bs).n=σ.n/\(dA σ bs).fc=σ.fc/\(dA σ bs).sz=σ.sz
 |[],σ=>⟨rfl,rfl,rfl,rfl,rfl⟩
 |c::bs,σ=>by
  unfold dA;split
  .exact qK bs _
  .exact qK bs _
def P3 (sb:SB):kd (nB sb)=kd sb:=by cases sb<;>rfl
def BR.step {X X':Cx}(k:Sx X X'){b:Nat}(hb:X.nm b)(hw:∀B l,X.ρ b=some (B,l)->X'.w.heap[B]?=X.w.heap[B]?):∀{sb:SB},BR X b sb->BR X' b sb
 | .box cs,⟨B,arr,h1,⟨ty,fz,h2,h3⟩,h4⟩=>⟨B,arr,by rw[k.ρ b hb];exact h1,⟨ty,fz,by rw[hw B _ h1];exact h2,h3⟩,h4.mono λ_ _ h=>h.step k⟩
 | .lst l nl z f,⟨hz,els,h1,h2,h3,h4⟩=>⟨hz,els,k.ev h1,k.ev h2,h3,by
   rw[k.ρ b hb];exact h4.imp id λ⟨B,arr,q1,⟨ty,fz,q2,q3⟩,q4⟩=>⟨B,arr,q1,⟨ty,fz,by rw[hw B _ q1];exact q2,q3⟩,q4.mono k.k⟩⟩
 | .map l _ _ _,⟨B,es,ck,rows,h1,h2,h3,h4⟩=>⟨B,es,ck,rows,by rw[k.ρ b hb];exact h1,by rw[hw B _ h1];exact h2,k.ev h3,F2.mono (λ_ _ ⟨ks,vs,e,a,b,c⟩=>⟨ks,vs,e,a.mono k.k,b.mono k.k,c⟩) h4⟩
def BR.freeze {b:Nat}:∀{sb:SB},BR X b sb->BR X b (nB sb)
 | .box _,h=>h
 | .lst ..,h=>h
 | .map ..,h=>h
def vT (hm:MR X base L){bs:List Nat}(hl:gO X bs):Nx X base L (X.fz bs):=by
 obtain⟨e1,_,_,e2,e3⟩:=qK bs X.σ;have hlook:∀b sb',look (X.fz bs).σ.bl b=some sb'->∃sb,look X.σ.bl b=some sb/\ sb'=(if b∈bs then nB sb else sb):=by
  intro b sb' h;rw[show(X.fz bs).σ=dA X.σ bs from rfl,kz] at h
  split at h
  .rename_i hb;rw[bM] at h
   grind
  .grind
 have sx:Sx X (X.fz bs):=⟨⟨[],by simp[Cx.fz]⟩,λ_ _=>rfl,⟨λ_ h=> .inl h,λ_ _=>rfl⟩,λb sb' _ h=>h,λ_ h=>h⟩;refine⟨sx,⟨λb sb' h=>?_,λb sb' h=>?_,λb hb=>hm.fr b (by rw[<-e1];exact hb),λb sb' h=>?_,λb sb' B l h hρ=>?_,λb b' sb sb' B l l' h h'=>?_,λB hB=>?_,hm.hb,?_,?_⟩,.refl,λB hB=>?_,rfl,rfl,by rw[show(X.fz bs).σ=dA X.σ bs from rfl,e1];exact aB _,λ_ h=> .inl h,λb _ h=>⟨rfl,by rw[show(X.fz bs).σ=dA X.σ bs from rfl,kz,h];split<;>rfl⟩⟩
 .obtain⟨sb,h1,_⟩:=hlook b sb' h;exact hm.lt b sb h1
 .obtain⟨sb,h1,rfl⟩:=hlook b sb' h;refine(hm.kd b sb h1).trans ?_;split<;>simp[P3]
 .obtain⟨sb,h1,rfl⟩:=hlook b sb' h;have:=(hm.bl b sb h1).step sx (hm.lt b sb h1) λ_ _ _=>rfl;split
  .exact this.freeze
  .exact this
 .obtain⟨sb,h1,rfl⟩:=hlook b sb' h;obtain⟨k1,k2⟩:=hm.own b sb B l h1 hρ;refine⟨k1,?_⟩;show frS X bs B↔_
  unfold frS;rw[k2];constructor
  .rintro(h2|⟨b',hb',l',h3⟩)
   .split
    .cases sb<;>simp[frz] at h2<;>rfl
    .exact h2
   .obtain⟨_,_,_,_,h4⟩:=hl b' hb';have:=hm.inj b b' _ _ B l l' h1 h4 hρ h3;subst this;rw[h1] at h4;cases h4;rw[ad hb'];rfl
  .intro h2;split at h2
   .rename_i hb;exact .inr ⟨b,hb,l,hρ⟩
   .exact .inl h2
 .obtain⟨sb,h1,_⟩:=hlook b sb h;obtain⟨sb',h2,_⟩:=hlook b' sb' h';exact hm.inj b b' _ _ B l l' h1 h2
 .rcases hB with hB|⟨b,hb,l,hρ⟩
  .exact hm.cur B hB
  .obtain⟨lv,nl,z,f,h1⟩:=hl b hb;obtain⟨_,els,_,_,_,h2⟩:=hm.bl b _ h1;rcases h2 with⟨_,h2⟩|⟨B',arr,h2,⟨ty,fz,hg,_⟩,_⟩
   .rw[hρ] at h2;cases h2
   .rw[hρ] at h2;cases h2;exact(bA.1 hg).1
 .rw[show(X.fz bs).σ=dA X.σ bs from rfl,e3];exact hm.sz
 .rw[show(X.fz bs).σ=dA X.σ bs from rfl,e2];exact hm.fc
 .rcases hB with hB|⟨b,hb,l,hρ⟩
  .exact .inl hB
  .obtain⟨lv,nl,z,f,h1⟩:=hl b hb;exact .inr (hm.own b _ B l h1 hρ).1
end
structure But (B:Nat)(w w':World):Prop where
 os:w'.os=w.os
 tape:w'.tape=w.tape
 output:w'.output=w.output
 size:w.heap.size<=w'.heap.size
 block:∀k,k≠B->k<w.heap.size->w'.heap[k]?=w.heap[k]?
 drawn:w.drawn<=w'.drawn
def But.refl {B:Nat}{w:World}:But B w w:=⟨rfl,rfl,rfl,aB _,λ_ _ _=>rfl,aB _⟩
def But.trans {B:Nat}{w w' w'':World}(h:But B w w')(k:But B w' w''):But B w w'':=⟨k.os.trans h.os,k.tape.trans h.tape,k.output.trans h.output,bz h.size k.size,λi h1 h2=>(k.block i h1 (bW h2 h.size)).trans (h.block i h1 h2),bz h.drawn k.drawn⟩
def But.drew {B:Nat}{w:World}:But B w w.drew:=⟨rfl,rfl,rfl,aB _,λ_ _ _=>rfl,ew _⟩
def But.alloc {B:Nat}{w:World}(o:Obj):But B w (w.alloc o):=⟨rfl,rfl,rfl,by show _<=(w.heap.push o).size;simp,λk _ hk=>Below.heap_alloc w o k hk,aB _⟩
def But.setCell {w:World}(a:Addr)(v:Value):But a.block w (w.setCell a v):=⟨rfl,rfl,rfl,by simp[World.setCell],λk hk _=>Below.heap_setCell w a v k hk,aB _⟩
def rL (w:World)(o:Obj):(w.alloc o).heap[w.heap.size]?=some o:=by show(w.heap.push o)[w.heap.size]?=_;simp
section
variable {X:Cx}{P:Program}{base:Nat}{L:Nat->Prop}
def ed (hm:MR X base L){b:Nat}{sb:SB}{B l:Nat}(h:look X.σ.bl b=some sb)(hr:X.ρ b=some (B,l)):B<X.w.heap.size:=by
 have hbr:=hm.bl b sb h;cases sb with
 |box cs=>
  obtain⟨B',arr,h1,⟨ty,fz,hg,_⟩,_⟩:=hbr
  grind
 |lst l nl z f=>
  obtain⟨_,els,_,_,_,⟨_,h1⟩|⟨B',arr,h1,⟨ty,fz,hg,_⟩,_⟩⟩:=hbr
  .grind
  .grind
 |map l=>
  obtain⟨B',es,ck,rows,h1,hg,_⟩:=hbr
  grind
def uz (hm:MR X base L){ρ':Nat->Option (Nat×Nat)}{w':World}{σ':SS}{A':Nat->Prop}{K':Nat->Option SB}{b0 B0:Nat}{sb0:SB}(hold:∀b sb,b≠b0->look σ'.bl b=some sb->look X.σ.bl b=some sb/\ K' b=X.K b)(h0:look σ'.bl b0=some sb0)(hK0:K' b0=some (kd sb0))(hf:frz sb0=false)
  (hρ:∀b,X.nm b->ρ' b=X.ρ b) (hA:∀b,X.nm b->A' b) (hb0:A' b0) (hfr:∀b,σ'.nb<=b->b<X.N->¬A' b) (hnb:X.σ.nb<=σ'.nb) (hAb:∀b,A' b->X.nm b\/(X.σ.nb<=b/\ b<σ'.nb)) (hK:∀b,X.nm b->(K' b=X.K b/\(b≠b0\/∃sb,look X.σ.bl b=some sb))\/(K' b=none/\∃sb,look X.σ.bl b=some sb))
  (hB:∀B l,ρ' b0=some (B,l)->B=B0) (hown:base<=B0\/L B0) (hS:¬X.S B0)
  (hinj:∀b sb l,b≠b0->look σ'.bl b=some sb->X.ρ b≠some (B0,l)) (hw:But B0 X.w w') (hsz:σ'.sz=X.σ.sz) (hfc:σ'.fc=X.σ.fc) (hbr:Sx X ⟨X.e,ρ',X.S,w',σ',A',X.N,K'⟩->BR ⟨X.e,ρ',X.S,w',σ',A',X.N,K'⟩ b0 sb0):Nx X base L ⟨X.e,ρ',X.S,w',σ',A',X.N,K'⟩:=by
 have sx:Sx X ⟨X.e,ρ',X.S,w',σ',A',X.N,K'⟩:=by
  refine⟨⟨[],by simp⟩,hρ,⟨λ_ h=>h,λB h=>hw.block B (λe=>hS (e▸h)) (hm.cur B h)⟩,λb sb' hb h=>?_,hA⟩
  grind
 have hold':∀b sb,b≠b0->look σ'.bl b=some sb->look X.σ.bl b=some sb:=λb sb h k=>(hold b sb h k).1;refine⟨sx,⟨λb sb h=>?_,λb sb h=>?_,hfr,λb sb h=>?_,λb sb B l h hr=>?_,λb b' sb sb' B l l' h h' hr hr'=>?_,λB h=>bW (hm.cur B h) hw.size,bz hm.hb hw.size,?_,?_⟩,⟨hw.os,hw.tape,hw.output,hw.size,λk hk hL=>?_,λ_=>hw.drawn⟩,λ_ h=> .inl h,rfl,rfl,hnb,hAb,λb h1 h2=>?_⟩
 .by_cases e:b=b0
  .grind
  .exact hA b (hm.lt b sb (hold' b sb e h))
 .by_cases e:b=b0
  .grind
  .obtain⟨h1,h2⟩:=hold b sb e h;exact h2.trans (hm.kd b sb h1)
 .by_cases e:b=b0
  .subst e;rw[h0] at h;cases h;exact hbr sx
  .have h1:=hold' b sb e h;exact(hm.bl b sb h1).step sx (hm.lt b sb h1) λB l hr=>hw.block B (λe'=>hinj b sb l e h (e'▸hr)) (ed hm h1 hr)
 .by_cases e:b=b0
  .subst e;rw[h0] at h;cases h;have:=hB B l hr;subst this;exact⟨hown,by simp[hf,hS]⟩
  .have h1:=hold' b sb e h;exact hm.own b sb B l h1 ((hρ b (hm.lt b sb h1)).symm.trans hr)
 .by_cases e:b=b0<;>by_cases e':b'=b0
  .rw[e,e']
  .exfalso;subst e;have h1:=hold' b' sb' e' h';rw[hB B l hr] at hr';exact hinj b' sb' l' e' h' (by rw[<-hρ b' (hm.lt b' sb' h1)];exact hr')
  .exfalso;subst e';have h1:=hold' b sb e h;rw[hB B l' hr'] at hr;exact hinj b sb l e h (by rw[<-hρ b (hm.lt b sb h1)];exact hr)
  .have h1:=hold' b sb e h;have h2:=hold' b' sb' e' h';exact hm.inj b b' sb sb' B l l' h1 h2 ((hρ b (hm.lt b sb h1)).symm.trans hr) ((hρ b' (hm.lt b' sb' h2)).symm.trans hr')
 .rw[hsz];exact hm.sz
 .rw[hfc];exact hm.fc
 .have:=hm.hb;rcases hown with h|h
  .exact hw.block k (by omega) (by omega)
  .exact hw.block k (λe=>hL (e▸h)) (by omega)
 .rcases hK b h1 with⟨h3,h4⟩|⟨_,sb,h4⟩
  .refine⟨h3,?_⟩;have hne:b≠b0:=h4.elim id λ⟨sb,h5⟩=>by rw[h2] at h5;cases h5
   cases h5:look σ'.bl b with
   |none=>rfl
   |some sb=>rw[hold' b sb hne h5] at h2;cases h2
  .rw[h2] at h4;cases h4
def upR {α:Type}(ρ:Nat->Option α)(b:Nat)(r:Option α):Nat->Option α:=λx=>if x=b then r else ρ x
def upR_self {α:Type}{ρ:Nat->Option α}{b:Nat}{r:Option α}:upR ρ b r b=r:=ad rfl
def jm {α:Type}{ρ:Nat->Option α}{b x:Nat}{r:Option α}(h:x≠b):upR ρ b r x=ρ x:=ac h
def upA (A:Nat->Prop)(b x:Nat):Prop:=A x\/x=b
def Cx.nw (X:Cx)(w':World)(r:Option (Nat×Nat))(sb:SB):Cx:=⟨X.e,upR X.ρ X.σ.nb r,X.S,w',X.σ.new sb,upA X.nm X.σ.nb,X.N,upR X.K X.σ.nb (some (kd sb))⟩
def Bj (hm:MR X base L)(hN:X.σ.nb<X.N){w':World}{r:Option (Nat×Nat)}{sb:SB}(hf:frz sb=false)(hr:∀B l,r=some (B,l)->B=X.w.heap.size)(hw:But X.w.heap.size X.w w')(hbr:Sx X (X.nw w' r sb)->BR (X.nw w' r sb) X.σ.nb sb):Nx X base L (X.nw w' r sb):=
 uz hm (b0:=X.σ.nb) (B0:=X.w.heap.size) (λb sb' hne h=>⟨by simpa [SS.new,dK,hne] using h,jm hne⟩) (by simp[SS.new,dK]) upR_self hf (λb hb=>jm λe=>hm.fr _ (aB _) hN (e▸hb)) (λ_ h=> .inl h) (.inr rfl) (λb hb hn h=>h.elim (hm.fr b (qv hb) hn) λe=>by subst e;exact df _ hb) (ew _) (λb h=>h.elim .inl λe=> .inr (by subst e;exact⟨aB _,gB _⟩)) (λb hb=> .inl ⟨jm λe=>hm.fr _ (aB _) hN (e▸hb),.inl λe=>hm.fr _ (aB _) hN (e▸hb)⟩)
  (λB l h=>by rw[upR_self] at h;exact hr B l h) (.inl hm.hb) (λh=>df _ (hm.cur _ h)) (λb sb' l hne h=>λhr=>by
   have h':look X.σ.bl b=some sb':=by simpa [SS.new,dK,hne] using h
   exact df _ (ed hm h' hr)) hw rfl rfl hbr
def Cx.pt (X:Cx)(w':World)(b:Nat)(sb:SB):Cx:=⟨X.e,X.ρ,X.S,w',{X.σ with bl:=put X.σ.bl b sb},X.nm,X.N,X.K⟩
def rM (hm:MR X base L){w':World}{b B l:Nat}{sb sb':SB}(hl:look X.σ.bl b=some sb)(hr:X.ρ b=some (B,l))(hf:frz sb=false)(hf':frz sb'=false)(hk:kd sb'=kd sb)(hw:But B X.w w')(hbr:Sx X (X.pt w' b sb')->BR (X.pt w' b sb') b sb'):Nx X base L (X.pt w' b sb'):=by
 obtain⟨h1,h2⟩:=hm.own b sb B l hl hr;refine uz hm (b0:=b) (B0:=B) (λb' sb' hne h=>⟨by simpa [dK,hne] using h,rfl⟩) (by simp[dK]) (by rw[hk];exact hm.kd b sb hl) hf' (λ_ _=>rfl) (λ_ h=>h) (hm.lt b sb hl) hm.fr (aB _) (λ_ h=> .inl h) (λb' hb=> .inl ⟨rfl,if e:b'=b then .inr ⟨sb,by rw[e];exact hl⟩ else .inl e⟩) (λB' l' h=>by rw[hr] at h;cases h;rfl) h1 (λh=>by rw[h2,hf] at h;cases h) (λb' sb2 l' hne h=>λhr'=>?_) hw rfl rfl hbr
 have h':look X.σ.bl b'=some sb2:=by simpa [dK,hne] using h
 exact hne (hm.inj b' b sb2 sb B l' l h' hl hr' hr)
def Cx.re (X:Cx)(w':World)(b:Nat)(r:Option (Nat×Nat))(sb:SB):Cx:=⟨X.e,upR X.ρ X.σ.nb r,X.S,w',(X.σ.kill b).new sb,upA X.nm X.σ.nb,X.N,upR (upR X.K b none) X.σ.nb (some (kd sb))⟩
def Cp {b k:Nat}{sb sb':SB}{σ:SS}(hne:b≠σ.nb)(h:look ((σ.kill k).new sb).bl b=some sb'):look σ.bl b=some sb'/\ b≠k:=by
 simp[SS.new,SS.kill,dK,vP] at h
 grind
def aeg (hm:MR X base L)(hN:X.σ.nb<X.N){w':World}{b B l l':Nat}{sb sb':SB}(hl:look X.σ.bl b=some sb)(hr:X.ρ b=some (B,l))(hf:frz sb=false)(hf':frz sb'=false)(hw:But B X.w w')(hbr:Sx X (X.re w' b (some (B,l')) sb')->BR (X.re w' b (some (B,l')) sb') X.σ.nb sb'):Nx X base L (X.re w' b (some (B,l')) sb'):=by
 obtain⟨h1,h2⟩:=hm.own b sb B l hl hr;refine uz hm (b0:=X.σ.nb) (B0:=B) (λb' sb2 hne h=>⟨(Cp hne h).1,(jm hne).trans (jm (Cp hne h).2)⟩) (by simp[SS.new,SS.kill,dK]) upR_self hf' (λb hb=>jm λe=>hm.fr _ (aB _) hN (e▸hb)) (λ_ h=> .inl h) (.inr rfl) (λb hb hn h=>h.elim (hm.fr b (qv hb) hn) λe=>by subst e;exact df _ hb) (ew _) (λb h=>h.elim .inl λe=> .inr (by subst e;exact⟨aB _,gB _⟩)) (λb' hb=>by
  have hne:b'≠X.σ.nb:=λe=>hm.fr _ (aB _) hN (e▸hb);by_cases e:b'=b
  .exact .inr ⟨(jm hne).trans (by rw[e];exact upR_self),sb,by rw[e];exact hl⟩
  .exact .inl ⟨(jm hne).trans (jm e),.inl hne⟩) (λB' l2 h=>by rw[upR_self] at h;cases h;rfl) h1 (λh=>by rw[h2,hf] at h;cases h) (λb' sb2 l2 hne h=>λhr'=>?_) hw rfl rfl hbr
 obtain⟨h3,h4⟩:=Cp hne h;exact h4 (hm.inj b' b sb2 sb B l2 l h3 hl hr' hr)
def Cx.kl (X:Cx)(b:Nat):Cx:={X with σ:=X.σ.kill b,K:=upR X.K b none}
def Cq (hm:MR X base L){b:Nat}{sb0:SB}(h0:look X.σ.bl b=some sb0):Nx X base L (X.kl b):=by
 have hlook:∀b' sb,look (X.kl b).σ.bl b'=some sb->look X.σ.bl b'=some sb/\ b'≠b:=λb' sb h=>by
  simp[Cx.kl,SS.kill,vP] at h
  grind
 have sx:Sx X (X.kl b):=⟨⟨[],by simp[Cx.kl]⟩,λ_ _=>rfl,⟨λ_ h=>h,λ_ _=>rfl⟩,λb' sb _ h=>by
  have h:upR X.K b none b'=some sb:=h;unfold upR at h;split at h
  .cases h
  .exact h,λ_ h=>h⟩
 exact⟨sx,⟨λb' sb h=>hm.lt b' sb (hlook b' sb h).1,λb' sb h=>(jm (hlook b' sb h).2).trans (hm.kd b' sb (hlook b' sb h).1),hm.fr,λb' sb h=>(hm.bl b' sb (hlook b' sb h).1).step sx (hm.lt b' sb (hlook b' sb h).1) λ_ _ _=>rfl,λb' sb B l h=>hm.own b' sb B l (hlook b' sb h).1,λb1 b2 s1 s2 B l l' h h'=>hm.inj b1 b2 s1 s2 B l l' (hlook _ _ h).1 (hlook _ _ h').1,hm.cur,hm.hb,hm.sz,hm.fc⟩,.refl,λ_ h=> .inl h,rfl,rfl,aB _,λ_ h=> .inl h,λb' _ h=>by
  have hne:b'≠b:=λe=>by rw[e,h0] at h;cases h
  refine⟨jm hne,?_⟩;cases h':look (X.kl b).σ.bl b' with
  |none=>rfl
  |some sb=>rw[(hlook b' sb h').1] at h;cases h⟩
end
section
variable {X:Cx}{P:Program}{base:Nat}{L:Nat->Prop}
def EvR (X:Cx)(ρc:Operand->Value):Prop:=(∀v,ρc (.const v)=v)/\∀x sv,opS X.σ x=some sv->VR X (ρc x) sv
def VR.inv {v:Value}{w:SW}(h:VR X v (.w w)):WR X v w:=by cases h;assumption
def WR.inv {v:Value}{c:SC}(h:WR X v (.c c)):CR X v c:=by cases h;assumption
section
variable {ρc:Operand->Value}(hρ:EvR X ρc)
include hρ
theorem il {x:Operand}{w:SW}(h:opW X.σ x=some w):WR X (ρc x) w:=by
 unfold opW at h;split at h
 .rename_i w' hw;cases h;exact(hρ.2 x _ hw).inv
 .cases h
theorem ey {x:Operand}{c:SC}(h:opC X.σ x=some c):CR X (ρc x) c:=by
 unfold opC at h;split at h
 .rename_i c' hw;cases h;exact(il hρ hw).inv
 .cases h
theorem J3:∀{xs:List Operand} {ws:List SW},Mo X.σ xs=some ws->F2 (WR X) (xs.map ρc) ws
 |[],_,h=>by cases h;exact .nil
 |x::xs,ws,h=>by
  unfold Mo at h;split at h
  .rename_i w hw;split at h
   .rename_i l hl;cases h;exact .cons (il hρ hw) (J3 hl)
   .cases h
  .cases h
theorem xK:∀{xs:List (Nat×Operand)} {ps:List (Nat×SW)},xx X.σ xs=some ps->F2 (λ(a:Nat×Value) (b:Nat×SW)=>a.1=b.1/\ WR X a.2 b.2) (xs.map λp=>(p.1,ρc p.2)) ps
 |[],_,h=>by cases h;exact .nil
 |(i,x)::xs,ps,h=>by
  unfold xx at h;split at h
  .rename_i w hw;split at h
   .rename_i l hl;cases h;exact .cons ⟨rfl,il hρ hw⟩ (xK hl)
   .cases h
  .cases h
end
def OpR (X:Cx)(base:Nat)(L:Nat->Prop)(r:Result Next):SR->Prop
 | .val sv σ'=>σ'.nb<=X.N->∃v X',(r= .ok (.value v) X'.w\/(r= .ok .skip X'.w/\ v=undef))/\ VR X' v sv/\ Nx X base L X'/\ X'.σ=σ'
 | .call g args=>∃vs,r= .ok (.enter g vs) X.w/\ F2 (WR X) vs.toList args
def SmR (P:Program)(X:Cx)(base:Nat)(L:Nat->Prop)(s:Sem Value)(p:SV×SS):Prop:=p.2.nb<=X.N->∃v X',s.run P X.w= .ok v X'.w/\ VR X' v p.1/\ Nx X base L X'/\ X'.σ=p.2
def ob {s:Sem Value}{x:EM (SV×SS)}(h:Sp X.e x (SmR P X base L s)):Sp X.e (zE x) (OpR X base L ((do pure (.value (<-s)):Sem Next).run P X.w)):=
 Sp.bind h λp hp=> .ret λhn=>let⟨v,X',h1,h2⟩:=hp hn;⟨v,X',.inl (by simp[h1]),h2⟩
def SwR (P:Program)(X:Cx)(s:Sem Value)(w:SW):Prop:=∃v,s.run P X.w= .ok v X.w/\ WR X v w
def yJ (hm:MR X base L){s:Sem Value}{x:EM SW}(h:Sp X.e x (SwR P X s)):Sp X.e (xz X.σ x) (OpR X base L ((do pure (.value (<-s)):Sem Next).run P X.w)):=
 Sp.bind h λw ⟨v,h1,h2⟩=> .ret λ_=>⟨v,X,.inl (by simp[h1]),.w h2,.refl hm,rfl⟩
def Em (hm:MR X base L){s:Sem Value}{x:EM SC}(h:Sp X.e x λc=>SwR P X s (.c c)):Sp X.e (xA X.σ x) (OpR X base L ((do pure (.value (<-s)):Sem Next).run P X.w)):=
 Sp.bind h λw ⟨v,h1,h2⟩=> .ret λ_=>⟨v,X,.inl (by simp[h1]),.w h2,.refl hm,rfl⟩
def Dl {v:Value}{c:SC}(h:A2 v=some c):CR X v c:=by
 unfold A2 at h;split at h
 .cases h;exact .nil (.inl rfl)
 .split at h
  .rename_i hp;cases h;exact .a rfl rfl (.v hp)
  .split at h<;>cases h<;>exact .un rfl
def qL:∀{vs:List Value} {cs:List SC},ur vs=some cs->F2 (CR X) vs cs
 |[],_,h=>by cases h;exact .nil
 |v::vs,cs,h=>by
  unfold ur at h;split at h
  .rename_i c hc;split at h
   .rename_i l hl;cases h;exact .cons (Dl hc) (qL hl)
   .cases h
  .cases h
def P4 {v:Value}{sv:SV}(h:HM v=some sv):VR X v sv:=by
 unfold HM at h;split at h
 .rw[bM] at h;obtain⟨l,hl,rfl⟩:=h;exact .w (.agg (qL hl))
 .rw[bM] at h;obtain⟨c,hc,rfl⟩:=h;exact .w (.c (Dl hc))
def Sg (hm:MR X base L){v:Value}{sv:SV}(h:VR X v sv):VR X v (A3 X.σ sv):=by
 unfold A3;split
 .rename_i i;split
  .rename_i b hb;have h1:=hm.fc _ (eX hb);cases h with
   |w h=>cases h with
    |c h=>cases h with
     |a h ht r=>
      rw[show A.ev X.e (.x i)=X.e[i]? from rfl,h1] at h;cases h
      exact .w (.c (.a rfl ht r))
  .exact h
 .exact h
def uA (hm:MR X base L){a:Act}(h:∀t sv,look X.σ.tm t=some sv->∃v,a.tmps[t]?=some v/\ VR X v sv):EvR X a.eval:=by
 refine⟨λ_=>rfl,λx sv hx=>?_⟩;cases x with
 |tmp t=>
  simp[opS] at hx;split at hx
  .rename_i v hv;cases hx;obtain⟨u,h1,h2⟩:=h t v hv;have:a.eval (.tmp t)=u:=by simp only[Act.eval];rw[b7,h1];rfl
   rw[this];exact Sg hm h2
  .cases hx
 |const c=>exact P4 hx
 |func g=>cases hx;exact .w (.c (.fn .nil .nil))
 |global g=>cases hx
def oV {t:TypeId}{z:Value}(h:nX P t=some z)(w:World):(zeroValue t).run P w= .ok z w:=by
 unfold nX at h;rw[sB] at h;obtain⟨i,hi,hz⟩:=h;simp[zeroValue,typeInfo,hi,hz]
def oc (w:World)(t:TypeId)(arr:Array Value):(newRow t arr).run P w= .ok ⟨w.heap.size,0,none⟩ (w.alloc (.cells arr t)):=by
 rfl
def Bk (n:Nat):vQ n (0,0):=λi _ h=>by simp at h
def VA (hm:MR X base L)(hN:X.σ.nb<X.N){arr:Array Value}{t:TypeId}{cs:List SC}(h:F2 (CR X) arr.toList cs):Nx X base L (X.nw (X.w.alloc (.cells arr t)) (some (X.w.heap.size,arr.size)) (.box cs)):=
 Bj hm hN rfl (λB l h=>by cases h;rfl) (.alloc _) λsx=>⟨X.w.heap.size,arr,upR_self,⟨t,(0,0),rL _ _,Bk _⟩,h.mono λ_ _ h=>h.step sx⟩
def J4 (hm:MR X base L){arr:Array Value}{t:TypeId}{cs:List SC}(h:F2 (CR X) arr.toList cs){s:Sem Value}(hs:s.run P X.w= .ok (.pointer (some ⟨X.w.heap.size,0,none⟩)) (X.w.alloc (.cells arr t))):Sp X.e (HN P X.σ t cs) (SmR P X base L s):=by
 unfold HN;split
 .split
  .refine .ret λhn=>⟨_,_,hs,?_,VA hm hn h,rfl⟩;exact .w (.c (.ptr (.inr rfl) λ_ _=>⟨_,upR_self⟩))
  .exact .fail
 .exact .fail
def Si (hm:MR X base L){t:TypeId}{cs:List SC}(h:ut P t=some cs):Sp X.e (HN P X.σ t cs) (SmR P X base L (Instr.alloc t true (.tuple #[]))):=by
 unfold ut at h;split at h
 .rename_i z hz;refine J4 hm (qL h) ?_;have:=oc (P:=P) X.w t z.cells;simp[Instr.alloc,oV hz,newVar,this]
 .cases h
def uB (g o:Nat)(t:TypeId)(fz:Nat×Nat):∀(vs:List Value) (i:Nat) (w:World) (arr:Array Value),w.heap[g]?=some (.cells arr t fz)->vQ arr.size fz->
  o+i+vs.length<=arr.size->(∀v∈vs,one v=true)->∃w' arr',(storeCells ⟨g,o,none⟩ vs i).run P w= .ok () w'/\ But g w w'/\ w'.heap[g]?=some (.cells arr' t fz)/\ arr'.size=arr.size/\
   ∀j,arr'[j]?=if o+i<=j/\ j<o+i+vs.length then vs[j-(o+i)]? else arr[j]?
 |[],i,w,arr,h1,h2,h3,h4=>⟨w,arr,by simp[storeCells],But.refl,h1,rfl,λj=>by rw[ac (by simp<;>omega)]⟩
 |v::vs,i,w,arr,h1,h2,h3,h4=>by
  simp at h3;have hv:=h4 v (by simp);have hcell:w.cell? ⟨g,o+i,none⟩=some arr[o+i]:=by
   simp only[World.cell?,h1];simp
  have hfz:w.frozen? ⟨g,o+i,none⟩=false:=by
   simp only[World.frozen?,h1];have:=h2 (o+i) (by omega);simp only[uL,aj];by_cases hh:fz.1<=o+i
   .right;intro hh';exact this ⟨hh,hh'⟩
   .left;exact hh
  have hset:(w.setCell ⟨g,o+i,none⟩ v).heap[g]?=some (.cells (arr.setIfInBounds (o+i) v) t fz):=by
   simp only[World.setCell,fM,h1];simp
  obtain⟨w',arr',e1,e2,e3,e4,e5⟩:=uB g o t fz vs (i+1) (w.setCell ⟨g,o+i,none⟩ v) _ hset (by simpa using h2) (by simp;omega) (λu hu=>h4 u (by simp[hu]))
  refine⟨w',arr',?_,(But.setCell (w:=w) ⟨g,o+i,none⟩ v).trans e2,e3,by simpa using e4,?_⟩
  .simp only[storeCells,add_plain];have:(store ⟨g,o+i,none⟩ v).run P w= .ok () (w.setCell ⟨g,o+i,none⟩ v):=by
    unfold store;cases v<;>first|(simp[one] at hv;done)|simp[Sem.run,hcell,hfz]
   rw[Sem.run_bind,this];exact e1
  .intro j;rw[e5 j];by_cases hj:o+(i+1)<=j/\ j<o+(i+1)+vs.length
   .rw[ad hj,ad (by simp;omega)];have:j-(o+i)=(j-(o+(i+1)))+1:=by omega
    rw[this,List.getElem?_cons_succ]
   .rw[ac hj];by_cases hj':j=o+i
    .subst hj';rw[ad (by simp only[aV];omega)];simp;rw[Array.getElem?_setIfInBounds_self_of_lt (by omega)]
    .rw[ac (by simp;omega),nI (by omega)]
def od {w:World}{B:Nat}{arr:Array Value}{ty:TypeId}{fz:Nat×Nat}(hg:w.heap[B]?=some (.cells arr ty fz))(hf:vQ arr.size fz)(o:Nat){vs:List Value}(h:o+vs.length<=arr.size)(h1:∀v∈vs,one v=true):
  ∃w' arr',(storeCells ⟨B,o,none⟩ vs).run P w= .ok () w'/\ But B w w'/\ w'.heap[B]?=some (.cells arr' ty fz)/\ arr'.size=arr.size/\ arr'.toList=arr.toList.take o++vs++arr.toList.drop (o+vs.length):=by
 obtain⟨w',arr',h2,h3,h4,h5,h6⟩:=uB (P:=P) B o ty fz vs 0 w arr hg hf (by omega) h1;refine⟨w',arr',h2,h3,h4,h5,cU λi=>?_⟩;have hl:arr.toList.length=arr.size:=by simp
 rw[bK,h6 i,bc,iB,aP,bG (by omega)];simp only[lS];by_cases hi:i<o
 .rw[ac (by omega),ad hi,gR,ad hi,bK]
 .rw[ac hi,iB];by_cases hj:i<o+vs.length
  .rw[ad ⟨by omega,hj⟩,ad (by omega)]
  .rw[ac (by omega),ac (by omega),fN,bK]
   congr 1;omega
def VB {vs:List Value}{cs:List SC}(h:F2 (CR X) vs cs):∀v∈vs,one v=true:=by
 induction h with
 |nil=>intro v hv;cases hv
 |cons h _ ih=>exactλv hv=>(bh.1 hv).elim (λe=>e▸h.one) (ih v)
def Bl {S:Nat->Prop}{w:World}{vs:List Value}{ps:List PV}(h:F2 (RT w S) vs ps)(ht:ps.all t0=true):∀v∈vs,one v=true:=by
 induction h with
 |nil=>intro v hv;cases hv
 |cons h _ ih=>
  simp only[dF,aH] at ht;exactλv hv=>(bh.1 hv).elim (λe=>e▸h.one ht.1) (ih ht.2 v)
def xL {t:TypeId}{v:Value}(hz:szT P t=some v.cells.size){B o:Nat}{w w':World}(h:(storeCells ⟨B,o,none⟩ v.cells.toList).run P w= .ok () w'):(storeVar t ⟨B,o,none⟩ v).run P w= .ok () w':=by
 simp[storeVar,run_sizeOf hz,h]
def storeW_spec {t:TypeId}{w:SW}{n:Nat}(h:HQ P t w=some n):(n=0/\ bT P t=some false/\ szT P t=some 1/\∃c,w= .c c)\/(0<n/\ bT P t=some true/\ szT P t=some n/\∀c,w≠ .c c):=by
 unfold HQ at h
 grind
def zI {z:Nat}{row':List PV}:∀{els:List (List PV)} {k:Nat},(∀r∈els,r.length=z)->k<els.length->(els.set k row').flatten=els.flatten.take (k*z)++row'++els.flatten.drop (k*z+z)
 |[],k,_,h=>by simp at h
 |r::els,0,hr,_=>by
  have:=hr r (by simp);simp[nj,dx (show r.length<=z by omega),show z-r.length=0 by omega]
 |r::els,k+1,hr,h=>by
  have h1:=hr r (by simp);rw[List.set_cons_succ,d9,zI (λr h=>hr r (by simp[h])) (by simpa using h),d9]
  have e1:(k+1)*z=r.length+k*z:=by rw[b6];omega
  rw[e1,qc,dG,pZ];simp
def Sj {o:Nat}{els:List (List PV)}{kk:IntKind}{k:Nat}{p r:PV}(h:(RF.set o).ev [.sl els,.v (.int kk k),p]=some r):∃row,els[k]?=some row/\ o+p.cells.length<=row.length/\ r= .sl (els.set k (pK row o p.cells)):=by
 simp[RF.ev] at h
 grind
def RT.cells {w:World}{S:Nat->Prop}{v:Value}{p:PV}(h:RT w S v p):F2 (RT w S) v.cells.toList p.cells:=by
 cases h with
 |v h=>rw[jk (RT.one (w:=w) (S:=S) (.v h) rfl)];exact .cons (.v h) .nil
 |nil h=>rw[jk (RT.one (w:=w) (S:=S) (.nil h) rfl)];exact .cons (.nil h) .nil
 |sl a b c d e f g=>exact .cons (.sl a b c d e f g) .nil
 |agg h _=>exact h.f2
def RT.agg_inv {w:World}{S:Nat->Prop}{a:Array Value}{p:PV}(h:RT w S (.agg a) p):∃cs,p= .agg cs/\ cs.all t0=true/\ RTs w S a.toList cs:=by
 generalize hv:Value.agg a=v at h;cases h with
 |v h=>subst hv;simp[iL] at h
 |nil h=>subst hv;rcases h with h|⟨_,_,h⟩<;>cases h
 |sl=>cases hv
 |agg h ht=>cases hv;exact⟨_,rfl,ht,h⟩
def P5 (hm:MR X base L){t:TypeId}{c:SC}{w:SW}{u v:Value}(hc:CR X u c)(hv:WR X v w):Sp X.e (A4 P X.σ t c w) λσ'=>∃B o X',u= .pointer (some ⟨B,o,none⟩)/\(storeVar t ⟨B,o,none⟩ v).run P X.w= .ok () X'.w/\ Nx X base L X'/\ X'.σ=σ':=by
 cases hc with
 | @ptr b o B hb h=>
  simp only[A4];split
  .rename_i cs hl;refine Sp.bind (xG hv) λvs ⟨h1,h2⟩=>?_;split
   .rename_i hcond;simp only[aH,gH] at hcond;obtain⟨B',arr,k1,⟨ty,fz,hg,hf⟩,k2⟩:=hm.bl b _ hl;obtain⟨l,k3⟩:=h _ (hm.kd _ _ hl);rw[k3] at k1;cases k1;have hlen:=h1.len;have hlen2:=k2.len;rw[dh] at hlen hlen2;obtain⟨w',arr',r1,r2,r3,r4,r5⟩:=od (P:=P) hg hf o (vs:=v.cells.toList) (by rw[dh];omega) (VB h1);refine .ret ⟨B,o,X.pt w' b (.box (Cf cs o vs)),rfl,xL h2 r1,rM hm hl k3 rfl rfl rfl r2 λsx=>?_,rfl⟩;refine⟨B,arr',by rw[r4];exact k3,⟨ty,fz,r3,by rw[r4];exact hf⟩,?_⟩;rw[r5,h1.len];exact(((k2.take o).append h1).append (k2.drop _)).mono λ_ _ h=>h.step sx
   .exact .fail
  .exact .fail
 | @ep b o B x i kk k hb hi h=>
  simp only[A4];split
  .rename_i l nl z hl;split
   .rename_i n hn;refine Sp.bind (vS hm hv) λq ⟨⟨p,p1,p2,p3⟩,p4⟩=>?_;split
    .exact .fail
    .rename_i hq;have hnx:=vT hm p4;have key:Sp X.e (match n with|0=>EM.ret q.1|n=>pL n q.1) λy=>y.ev X.e=some p/\ szT P t=some p.cells.length/\ p.cells.all t0=true:=by
      rcases storeW_spec hn with⟨rfl,ha,hz,c,rfl⟩|⟨hn0,ha,hz,hw⟩
      .have ht:=p3 ⟨c,rfl⟩;have:p.cells=[p]:=by cases p<;>first|rfl|simp[t0] at ht
       exact .ret ⟨p1,by rw[this];exact hz,by rw[this];simp[ht]⟩
      .cases n with
       |zero=>omega
       |succ n=>
        have:∃cs,p= .agg cs/\ cs.all t0=true:=by
         cases hv with
         |c _=>exact absurd rfl (hw _)
         |av _ _ _=>obtain⟨cs,h1,h2,_⟩:=p2.agg_inv;exact⟨cs,h1,h2⟩
         |agg _=>obtain⟨cs,h1,h2,_⟩:=p2.agg_inv;exact⟨cs,h1,h2⟩
        obtain⟨cs,rfl,ht⟩:=this;exact(pM p1).mono λy ⟨h1,h2⟩=>⟨h1,by rw[hz,<-h2];rfl,ht⟩
     refine Sp.bind key λy ⟨y1,y2,y3⟩=>Sp.bind Sp.emit λl' hl'=>?_;obtain⟨hz,els,e1,e2,e3,e4⟩:=hm.bl b _ hl;obtain⟨⟨lim,f1⟩,rfl⟩:=h _ _ (hm.kd _ _ hl);obtain⟨r,g1,g2⟩:=jJ hl' e1 hi y1;obtain⟨row,g3,g4,rfl⟩:=Sj g1;rcases e4 with⟨_,e4⟩|⟨B',arr,e4,⟨ty,fz,hg,hf⟩,e5⟩
     .rw[f1] at e4;cases e4
     rw[f1] at e4;cases e4;have hk:=(aD.1 g3).1;have hrow:=(e3 row (au g3)).1;have hfl:=gt e3.l;have he5:=e5.f2.len;have hsz:arr.toList.length=arr.size:=by simp
     rw[aP,hsz,hfl] at he5;have hkz:k*z+z<=els.length*z:=by have:=cd z (show k+1<=els.length from hk);rw[b6] at this;omega
     have hcl:=p2.cells.len;have hvs:v.cells.toList.length=v.cells.size:=by simp
     have hlook:look (X.fz q.2).σ.bl b=some (.lst l nl z false):=by
      show look (dA X.σ q.2).bl b=_
      rw[kz,ac (λhb=>by simp[hb] at hq),hl]
     obtain⟨w',arr',r1,r2,r3,r4,r5⟩:=od (P:=P) hg hf (k*z+o) (vs:=v.cells.toList) (by omega) (Bl p2.cells y3);refine .ret ⟨B,k*z+o,(X.fz q.2).pt w' b (.lst l' nl z false),rfl,xL (by rw[<-hvs,hcl];exact y2) r1,hnx.trans (rM hnx.mr hlook f1 rfl rfl rfl r2 λsx=>?_),rfl⟩;have hset:(els.set k (pK row o p.cells)).length=els.length:=by simp
     refine⟨hz,_,g2,by rw[hset];exact e2,λr hr=>?_,.inr ⟨B,arr',by rw[r4];exact f1,⟨ty,fz,r3,by rw[r4];exact hf⟩,?_⟩⟩
     .rcases dp hr with hr|rfl
      .exact e3 r hr
      .have hall:=(e3 row (au g3)).2;refine⟨by simp[pK];omega,?_⟩;simp only[pK,ou,aH];exact⟨⟨by have:=yI hall 0 o;rwa [dP] at this,y3⟩,by rw[aS] at hall|-;exactλq hq=>hall q (kg hq)⟩
     .have hz1:∀{α:Type} (a b c:List α) (n:Nat),a.length+b.length<=n->(a++b++c).take n=a++b++c.take (n-(a.length+b.length)):=λa b c n hn=>by
       rw[ki,bk (by rw[aC];omega),aC]
      rw[hset,zI e3.l hk,r5,hz1 (arr.toList.take (k*z+o)) v.cells.toList _ (els.length*z) (by rw[aP];omega)];have m1:=e5.mono (w':=w') (S':=frS X q.2) ⟨λ_ h=> .inl h,λB hB=>sx.k.get B (.inl hB)⟩;have m2:F2 (RT w' (frS X q.2)) v.cells.toList p.cells:=p2.cells.mono λ_ _ h=>h.mono ⟨λ_ h=>h,λB hB=>sx.k.get B hB⟩;have hfr:=zG e3.l g3;have big:els.flatten=els.flatten.take (k*z)++(row++els.flatten.drop (k*z+z)):=by
       have h1:=gZ (k*z) els.flatten;have h2:=gZ z (els.flatten.drop (k*z));rw[hfr,gz] at h2;rw[h2,h1]
      refine .of ?_;have a1:F2 (RT w' (frS X q.2)) (arr.toList.take (k*z+o)) (els.flatten.take (k*z+o)):=by
       have:=m1.f2.take (k*z+o);rwa [dC,bG (by omega)] at this
      have a2:F2 (RT w' (frS X q.2)) ((arr.toList.drop (k*z+o+v.cells.toList.length)).take (els.length*z-(k*z+o+v.cells.toList.length))) (els.flatten.drop (k*z+o+v.cells.toList.length)):=by
       have:=m1.f2.drop (k*z+o+v.cells.toList.length);rwa [eK] at this
      have b1:els.flatten.take (k*z)++row.take o=els.flatten.take (k*z+o):=by
       conv=>rhs;rw[big]
       rw[ki,aP,dC];rw[fH (by omega),bG (by omega),sA,eU (by omega)]
      have b2:row.drop (o+p.cells.length)++els.flatten.drop (k*z+z)=els.flatten.drop (k*z+o+v.cells.toList.length):=by
       conv=>rhs;rw[big]
       rw[nj,aP,bG (by omega),dx (l:=els.flatten.take (k*z)) (by rw[aP];omega),aO,show k*z+o+v.cells.toList.length-k*z=o+p.cells.length by omega,List.drop_append_of_le_length (by omega)]
      have:=(a1.append m2).append a2;rw[<-b1,<-b2] at this;simp[pK,bc,bG (show k*z+o<=arr.size by omega)] at this|-
      exact this
   .exact .fail
  .exact .fail
 |_=>exact .fail
end
section
variable {X:Cx}{P:Program}{base:Nat}{L:Nat->Prop}
def If {off:Nat}:∀(l:List Value) (n:Nat) (cs:Array Value),off+n+l.length<=cs.size->((l.zipIdx n).foldl (λcs (p:Value×Nat)=>cs.setIfInBounds (off+p.2) p.1) cs).toList=cs.toList.take (off+n)++l++cs.toList.drop (off+n+l.length)
 |[],n,cs,h=>by simp
 |v::l,n,cs,h=>by
  simp only[aV] at h;rw[List.zipIdx_cons,c6,If l (n+1) _ (by simp;omega)];simp only[fC,aV];have hlt:off+n<cs.toList.length:=by simp;omega
  rw[List.take_set,List.drop_set,ad (by omega)];have e:(cs.toList.take (off+(n+1))).set (off+n) v=cs.toList.take (off+n)++[v]:=by
   rw[<-dG,cC,ah hlt,Option.toList_some,List.set_append,ac (by rw[aP];omega)];rw[aP,bG (by omega),iQ];rfl
  rw[e,show off+(n+1)+l.length=off+n+(l.length+1) by omega]
  simp
def Dm {pl:Nat->Option (Nat×Nat)}{arr:Array Value}{i off:Nat}{v:Value}{ps:List (Nat×Value)}(h:pl i=some (off,v.cells.size))(hl:off+v.cells.size<=arr.size):
  ∃arr':Array Value,Instr.fill pl arr ((i,v)::ps)=Instr.fill pl arr' ps/\ arr'.size=arr.size/\ arr'.toList=arr.toList.take off++v.cells.toList++arr.toList.drop (off+v.cells.toList.length):=by
 have hf:=If (off:=off) v.cells.toList 0 arr (by simpa using hl)
 refine⟨v.cells.zipIdx.foldl (λcs (c,j)=>cs.setIfInBounds (off+j) c) arr,?_,?_,?_⟩
 .simp only[Instr.fill,h];rw[ac (by simp;omega)]
 .have:=aW List.length hf;rw[<-lP,wO,<-dh,this];simp;omega
 .rw[<-lP,wO];simpa using hf
def Jy {t:TypeId}{pl:Nat->Option (Nat×Nat)}{i ty o n:Nat}(h:qW P t=some pl)(hp:HR P t i=some (ty,o))(hz:szT P ty=some n):pl i=some (o,n):=by
 unfold qW at h;unfold HR at hp;split at h
 .rename_i fields hu;rw[hu] at hp;simp only at hp;split at h
  .cases h;split at hp
   .rename_i fl hf;cases hp;simp only[hf,hz,cg,cx]
   .cases hp
  .cases h
 .rename_i _ elem hu;rw[hu] at hp;simp only at hp;split at hp
  .rename_i z hz';cases hp;rw[hz'] at hz;cases hz;rw[hz'] at h;cases h;rfl
  .cases hp
 .cases h
abbrev PrR (X:Cx)(a:Nat×Value)(b:Nat×SW):Prop:=a.1=b.1/\ WR X a.2 b.2
def Ig {t:TypeId}{pl:Nat->Option (Nat×Nat)}(hpl:qW P t=some pl):∀{vs:List (Nat×Value)} {l:List (Nat×SW)},F2 (PrR X) vs l->∀{arr:Array Value} {cs:List SC},F2 (CR X) arr.toList cs->Sp X.e (A5 P t cs l) λcs'=>∃r,Instr.fill pl arr vs=some r/\ F2 (CR X) r.toList cs'
 |_,_,.nil,arr,cs,h=> .ret ⟨arr,rfl,h⟩
 |(i,v)::vs,(j,w)::l,.cons ⟨hi,hv⟩ ht,arr,cs,h=>by
  simp only at hi;subst hi
  replace hv:WR X v w:=hv
  unfold A5;split
  .rename_i ty o hp;refine Sp.bind (xG (P:=P) hv) λxs ⟨h1,h2⟩=>?_;split
   .rename_i hb;rw[gH] at hb;have hlen:=h1.len;have hl2:=h.len;rw[dh] at hlen hl2;obtain⟨arr',e1,e2,e3⟩:=Dm (ps:=vs) (Jy hpl hp h2) (show o+v.cells.size<=arr.size by omega)
    rw[e1];refine Ig hpl ht ?_;rw[e3,h1.len];exact((h.take o).append h1).append (h.drop _)
   .exact .fail
  .exact .fail
def Sk {fields:Array Field}(h:fields.toList.all (λf=>(szT P f.type).isSome)=true)(w:World):
  (fields.mapM λf=>do pure (f.offset,<-sizeOf f.type):Sem (Array (Nat×Nat))).run P w= .ok (fields.map λf=>(f.offset,(szT P f.type).getD 0)) w:=by
 have key:∀(l:List Field),l.all (λf=>(szT P f.type).isSome)=true->(l.mapM λf=>do pure (f.offset,<-sizeOf f.type):Sem (List (Nat×Nat))).run P w= .ok (l.map λf=>(f.offset,(szT P f.type).getD 0)) w:=by
  intro l;induction l with
  |nil=>intro _;simp
  |cons f l ih=>
   intro hl;simp only[dF,aH] at hl;obtain⟨n,hn⟩:=so.1 hl.1;simp only[uS,Sem.run_bind,run_sizeOf hn,Result.andThen_ok,Sem.run_pure,ih hl.2,bQ,hn,cx]
 have e:fields.mapM (λf=>do pure (f.offset,<-sizeOf f.type):Field->Sem (Nat×Nat))=(do pure (<-fields.toList.mapM λf=>do pure (f.offset,<-sizeOf f.type)).toArray):=by
  rw[qO];rfl
 rw[e,Sem.run_bind,key _ h];simp only[Result.andThen_ok,Sem.run_pure]
 congr 1
 apply ke.1;simp
def Sl {t:TypeId}{vs:List (Nat×Value)}{l:List (Nat×SW)}{z:List SC}{pl:Nat->Option (Nat×Nat)}(hz:ut P t=some z)(hpl:qW P t=some pl)(hl:F2 (PrR X) vs l):Sp X.e (A5 P t z l) λcs=>Sp X.e (rH cs) (SwR P X (Instr.build t vs.toArray)):=by
 unfold ut at hz;split at hz
 .rename_i zv hzv;refine(Ig (arr:=zv.cells) hpl hl (qL hz)).mono λcs ⟨r,h1,h2⟩=>(y7 h2).mono λw hw=>⟨_,?_,hw⟩;unfold qW at hpl;split at hpl
  .rename_i fields hu;obtain⟨hall,rfl⟩:=dg hpl;have hfun:(λ(i:Nat)=>(fields.map λ(f:Field)=>(f.offset,(szT P f.type).getD 0))[i]?)=λi=>(fields[i]?).map λf=>(f.offset,(szT P f.type).getD 0):=by
    funext i;simp
   simp only[Instr.build,Sem.run_bind,oV hzv,run_underlying hu,Result.andThen_ok,Sk hall];simp only[hfun,h1];rfl
  .rename_i n elem hu;rw[bM] at hpl;obtain⟨size,hs,rfl⟩:=hpl;simp only[Instr.build,Sem.run_bind,oV hzv,run_underlying hu,Result.andThen_ok,run_sizeOf hs];simp only[h1];rfl
  .cases hpl
 .cases hz
def J5 {w:World}{S:Nat->Prop}:∀{vs:List Value} {ps:List PV},Mn vs=some ps->F2 (RT w S) vs ps/\ ps.all t0=true
 |[],_,h=>by cases h;exact⟨.nil,rfl⟩
 |v::vs,ps,h=>by
  unfold Mn at h;split at h
  .rename_i c hc;split at h
   .rename_i l hl;cases h;obtain⟨h1,h2⟩:=J5 (w:=w) (S:=S) hl;unfold pvC at hc;split at hc
    .cases hc;exact⟨.cons (.nil (.inl rfl)) h1,by simpa [t0] using h2⟩
    .obtain⟨hp,rfl⟩:=dg hc;exact⟨.cons (.v hp) h1,by simpa [t0] using h2⟩
   .cases h
  .cases h
def lE {t:TypeId}{ps:List PV}(h:nY P t=some ps):∃z,nX P t=some z/\ z.cells.size=ps.length/\ ps.all t0=true/\∀w S,F2 (RT w S) z.cells.toList ps:=by
 unfold nY at h;split at h
 .rename_i z hz;have:=λw S=>J5 (w:=w) (S:=S) h;exact⟨z,hz,by simpa using(this default (λ_=>False)).1.len,(this default λ_=>False).2,λw S=>(this w S).1⟩
 .cases h
def rN {α β:Type}{R:α->β->Prop}{a:List α}{b:List β}(h:F2 R a b):∀n,F2 R (List.replicate n a).flatten (List.replicate n b).flatten
 |0=> .nil
 |n+1=>by rw[kP,kP,d9,d9];exact h.append (rN h n)
def rO (z:Array Value):∀n,((Array.range (n*z.size)).map (λi=>z[i% z.size]!)).toList=(List.replicate n z.toList).flatten
 |0=>by simp
 |n+1=>by
  have ih:=rO z n;simp only[Array.toList_map,Array.toList_range] at ih|-;rw[b6,tO,oB,List.range_add,dQ,kP,d9]
  congr 1
  .apply List.ext_getElem
   .simp
   .intro i h1 h2;simp at h1;simp[Nat.mod_eq_of_lt h1,h1]
  .rw[<-ih];simp[Function.comp_def]
def zJ (hm:MR X base L){w':World}{Q:Nat->Prop}(hw:Frm X.w.heap.size Q X.w w')(hq:∀B,B<X.w.heap.size->¬Q B)(hd:¬L base->¬Q X.w.heap.size):Nx X base L {X with w:=w'}:=by
 have hk:∀B,B<X.w.heap.size->w'.heap[B]?=X.w.heap[B]?:=λB h=>hw.block B h (hq B h);have sx:Sx X {X with w:=w'}:=⟨⟨[],by simp⟩,λ_ _=>rfl,⟨λ_ h=>h,λB h=>hk B (hm.cur B h)⟩,λ_ _ _ h=>h,λ_ h=>h⟩
 exact⟨sx,⟨hm.lt,hm.kd,hm.fr,λb sb h=>(hm.bl b sb h).step sx (hm.lt b sb h) λB l hr=>hk B (ed hm h hr),hm.own,hm.inj,λB h=>bW (hm.cur B h) hw.size,bz hm.hb hw.size,hm.sz,hm.fc⟩,⟨hw.os,hw.tape,hw.output,hw.size,λk h _=>hk k (bW h hm.hb),λh=>hw.drawn (hd h)⟩,λ_ h=> .inl h,rfl,rfl,aB _,λ_ h=> .inl h,λ_ _ h=>⟨rfl,h⟩⟩
def qY (hm:MR X base L){w':World}(hw:But X.w.heap.size X.w w'):Nx X base L {X with w:=w'}:=zJ hm (Q:=λ_=>False) ⟨hw.os,hw.tape,hw.output,hw.size,λk h _=>hw.block k (by omega) h,λ_=>hw.drawn⟩ (λ_ _=>id) λ_=>id
def Cr (hm:MR X base L)(hN:X.σ.nb<X.N){w':World}{arr:Array Value}{ty:TypeId}{z cap:Nat}{els:List (List PV)}{l nl:A}(hw:But X.w.heap.size X.w w')(hg:w'.heap[X.w.heap.size]?=some (.cells arr ty))(hz:0<z)(hr:Rw z els)
  (hl:l.ev X.e=some (.sl els)) (hn:nl.ev X.e=some (.i64 els.length)) (he:RTs X.w X.S (arr.toList.take (els.length*z)) els.flatten) (hc:els.length<=cap/\ cap<=9223372036854775807) (hc':cap*z<=arr.size):
  ∃X',X'.w=w'/\ VR X' (.slice (some ⟨X.w.heap.size,0,none⟩) els.length cap) (.w (.c (.lsl X.σ.nb (.c (.i64 0)) nl)))/\ Nx X base L X'/\ X'.σ=X.σ.new (.lst l nl z false):=by
 have hx:Nx X base L (X.nw w' (some (X.w.heap.size,arr.size)) (.lst l nl z false)):=Bj hm hN rfl (λB l h=>by cases h;rfl) hw λsx=>⟨hz,els,hl,hn,hr,.inr ⟨_,arr,upR_self,⟨ty,(0,0),hg,Bk _⟩,he.mono sx.k⟩⟩;refine⟨_,rfl,show VR (X.nw w' (some (X.w.heap.size,arr.size)) (.lst l nl z false)) _ _ from .w (.c (.lsl (.inr rfl) rfl λnl' z' h=>?_)),hx,rfl⟩
 cases upR_self.symm.trans h;exact⟨0,els.length,els.length,rfl,hn,hn,by omega,.inl ⟨_,_,cap,upR_self,by simp,by omega,by simpa using hc'⟩⟩
def RT.cells_t0 {w:World}{S:Nat->Prop}{v:Value}{p:PV}(h:RT w S v p):p.cells.all t0=true:=by
 cases h<;>first|rfl|assumption
def Bn:∀{z:Nat} {els els':List (List PV)} {ids:List Nat} {ps:List PV},um z els ids ps=some els'->els'.length=els.length
 |z,els,els',[],[],h=>by cases h;rfl
 |z,els,els',i::ids,p::ps,h=>by
  unfold um at h;obtain⟨_,h⟩:=Sf h;rw[Bn h,ba]
 |_,_,_,[],_::_,h=>by cases h
 |_,_,_,_::_,[],h=>by cases h
def Dn {w:World}{S:Nat->Prop}{z:Nat}:∀{vs:List (Nat×Value)} {ps:List PV} {els els':List (List PV)} {arr:Array Value},F2 (RT w S) (vs.map (·.2)) ps->um z els (vs.map (·.1)) ps=some els'->Rw z els->RTs w S arr.toList els.flatten->
  ∃r,Instr.fill (λi=>some (i*z,z)) arr vs=some r/\ RTs w S r.toList els'.flatten/\ Rw z els'
 |[],ps,els,els',arr,h,hs,hr,ha=>by
  cases h;cases hs;exact⟨arr,rfl,ha,hr⟩
 |(i,v)::vs,ps,els,els',arr,h,hs,hr,ha=>by
  cases h with
  | @cons _ p _ ps h t=>
   unfold um at hs;simp only[bQ] at hs;obtain⟨⟨hi,hz⟩,hs⟩:=Sf hs;have hc:F2 (RT w S) v.cells.toList p.cells:=RT.cells h;have hcl:=hc.len;have hal:=ha.f2.len;rw[gt hr.l] at hal;rw[dh] at hcl hal;have hle:i*z+z<=els.length*z:=by have:=cd z (show i+1<=els.length from hi);rw[b6] at this;omega
   obtain⟨arr',e1,e2,e3⟩:=Dm (pl:=λi=>some (i*z,z)) (arr:=arr) (i:=i) (v:=v) (ps:=vs) (off:=i*z) (by rw[hcl,hz]) (by omega);rw[e1];refine Dn t hs (λr hr'=>?_) ?_
   .rcases dp hr' with h'|rfl
    .exact hr r h'
    .exact⟨hz,RT.cells_t0 (w:=w) (S:=S) h⟩
   .have hvl:v.cells.toList.length=z:=by rw[dh];omega
    rw[e3,zI hr.l hi,hvl];exact .of (((ha.f2.take _).append hc).append (ha.f2.drop _))
def Cu (hm:MR X base L){t len:Nat}{vs:List (Nat×Value)}{l:List (Nat×SW)}(hl:F2 (PrR X) vs l):Sp X.e (tD P X.σ t len l) (SmR P X base L (Instr.buildSlice t len vs.toArray)):=by
 unfold tD;split
 .rename_i elem hu;split
  .rename_i size hs;split
   .rename_i z hz;split
    .rename_i hc;simp only[aH,gH] at hc;obtain⟨⟨h1,h2⟩,h3⟩:=hc;have h3:=i6 h3;obtain⟨zv,hzv,q1,q2,q3⟩:=lE hz;have hv2:F2 (WR X) (vs.map (·.2)) (l.map (·.2))/\ vs.map (·.1)=l.map (·.1):=by
      clear hm;induction hl with
      |nil=>exact⟨.nil,rfl⟩
      |cons h _ ih=>exact⟨.cons h.2 ih.1,by simp[h.1,ih.2]⟩
     refine Sp.bind (nC hm hv2.1) λq ⟨⟨ps,p1,p2⟩,p3⟩=>?_;have hbig:¬len*size>2^ 24:=by omega
     cases len with
     |zero=>
      simp only;split
      .have:vs=[]:=by cases hl;rfl
       subst this;refine .ret λ_=>⟨.slice (some ⟨X.w.heap.size,0,none⟩) 0 0,{X with w:=X.w.alloc (.cells #[] elem)},?_,.w (.c (.nil (.inr ⟨_,_,rfl⟩))),qY hm (.alloc _),rfl⟩
       have:=oc (P:=P) X.w elem #[];simp[Instr.buildSlice,run_underlying hu,run_sizeOf hs,Instr.fill,this];rw[show(Array.map (λ(x:Nat)=>(default:Value)) (Array.range 0))=#[] by simp,this]
       rfl
      .exact .fail
     |succ n=>
      simp only;refine Sp.bind Sp.emit λy ⟨xs,v,y1,y2,y3⟩=> .ret λhn=>?_;rw[p1] at y1;cases y1;simp only[RF.ev] at y2;split at y2
      .rename_i els' hset;cases y2;rw[h3,<-hv2.2] at hset;have hnx:=vT hm p3;have hrep:Rw size (List.replicate (n+1) z):=λr hr=>by rw[(eY.1 hr).2];exact⟨h3,q2⟩
       obtain⟨arr,f1,f2,f3⟩:=Dn (arr:=(Array.range ((n+1)*size)).map (λi=>zv.cells[i% zv.cells.size]!)) p2 hset hrep (.of (by
        have:=rO zv.cells (n+1);rw[q1,h3] at this;rw[q1,h3,this];exact rN (q3 X.w (frS X q.2)) _))
       have hlen:=Bn hset;rw[aR] at hlen;have hfl:=f2.f2.len;rw[gt f3.l,dh] at hfl;have hN:(X.fz q.2).σ.nb<X.N:=hn;obtain⟨X',w1,w2,w3,w4⟩:=Cr (X:=X.fz q.2) (cap:=n+1) (nl:= .c (.i64 (n+1:Nat))) hnx.mr hN (.alloc (.cells arr elem)) (rL _ _) h2 f3 y3 (by rw[hlen];rfl) (by rw[bk (by rw[dh];omega)];exact f2) (by have:=ml (n+1) h2;omega) (by have h9:(n+1)*size=els'.length*size:=by{rw[hlen]};omega);refine⟨.slice (some ⟨X.w.heap.size,0,none⟩) (n+1) (n+1),X',?_,?_,hnx.trans w3,w4⟩
       .rw[w1];have h0:¬(n+1)*size=0:=Nat.ne_of_gt (Nat.mul_pos (yj n) h2);have:=oc (P:=P) X.w elem arr;simp[Instr.buildSlice,run_underlying hu,run_sizeOf hs,oV hzv,Sem.run_ite,f1,this,hbig,h0];rfl
       .have e:(dA X.σ q.2).nb=X.σ.nb:=(qK _ _).1;have:VR X' (.slice (some ⟨X.w.heap.size,0,none⟩) els'.length (n+1)) (.w (.c (.lsl (dA X.σ q.2).nb (.c (.i64 0)) (.c (.i64 (n+1:Nat)))))):=w2;rw[hlen,e] at this;exact this
      .cases y2
    .exact .fail
   .exact .fail
  .exact .fail
 .exact .fail
def gu {a y:A}{p:PV}(h:mP X.e .len [a] y)(ha:a.ev X.e=some p):∃els,p= .sl els/\ y.ev X.e=some (.i64 els.length):=by
 obtain⟨u,h1,h2⟩:=ik h ha;cases p<;>simp only[RF.ev] at h1<;>try (cases h1;done)
 cases h1;exact⟨_,rfl,h2⟩
def lF {v:Value}{k:IntKind}{n:Int}(h:X.T v (.v (.int k n))):v= .int k n:=by cases h;rfl
def Ih {z:List PV}{bytes:Nat}{p p' r:PV}(h:(RF.rep z bytes).ev [p,p']=some r):∃k l k' c,p= .v (.int k l)/\ p'= .v (.int k' c)/\ 0<=l/\ l<=c/\ c<9223372036854775808/\ bytes*c<=281474976710656/\ r= .sl (List.replicate l.toNat z):=by
 simp only[RF.ev] at h;split at h
 .rename_i e;cases e;obtain⟨⟨c1,c2,c3,c4⟩,rfl⟩:=dg h;exact⟨_,_,_,_,rfl,rfl,c1,c2,c3,c4,rfl⟩
 .cases h
def DR (hm:MR X base L){t:TypeId}{a b:SC}{v1 v2:Value}(ha:CR X v1 a)(hb:CR X v2 b):Sp X.e (vK P X.σ t a b) (SmR P X base L (Instr.makeSlice t v1 v2)):=by
 unfold vK;split
 .rename_i elem he;have hu:P.underlying t=some (.slice elem):=by
   unfold elemOf at he;split at he
   .rename_i e' hu;cases he;exact hu
   .cases he
  split
  .rename_i info hi;split
   .rename_i z hz;split
    .rename_i hc;simp only[aH,gH] at hc;obtain⟨⟨⟨h3,h2⟩,h4⟩,h5⟩:=hc;have h3:=i6 h3;obtain⟨zv,hzv,q1,q2,q3⟩:=lE hz;refine Sp.bind (dE ha) λa ⟨p,a1,_,a3⟩=>Sp.bind (dE hb) λb ⟨p',b1,_,b3⟩=>Sp.bind Sp.emit λr hr=>Sp.bind Sp.emit λn hn=> .ret λhN=>?_;obtain⟨u,r1,r2⟩:=gm hr a1 b1;obtain⟨k,l,k',c,rfl,rfl,c1,c2,c3,c4,rfl⟩:=Ih r1;obtain⟨els,e1,e2⟩:=gu hn r2;cases e1;have:=lF a3;subst this;have:=lF b3;subst this;have hsz:=rO zv.cells c.toNat;rw[q1,h3] at hsz;have hrl:Rw info.size (List.replicate l.toNat z):=λr hr=>by rw[(eY.1 hr).2];exact⟨h3,q2⟩
     have hzl:zv.cells.toList.length=info.size:=by simpa [h3] using q1
     have hct:(List.replicate c.toNat zv.cells.toList).flatten.take (l.toNat*info.size)=(List.replicate l.toNat zv.cells.toList).flatten:=by
      have:c.toNat=l.toNat+(c.toNat-l.toNat):=by omega
      rw[this,<-nJ,d6,eU,bk]<;>simp[hzl]
     obtain⟨X',w1,w2,w3,w4⟩:=Cr (l:=r) (nl:=n) (cap:=c.toNat) hm hN (.alloc (.cells ((Array.range (c.toNat*info.size)).map λi=>zv.cells[i% zv.cells.size]!) elem)) (rL _ _) h2 hrl r2 e2 (by
      rw[q1,h3,hsz,aR,hct];exact .of (rN (q3 X.w X.S) _)) (by simp;omega) (by simp)
     refine⟨_,X',?_,w2,w3,w4⟩;rw[w1];have hzero:info.zero=some zv:=by unfold nX at hzv;rw[hi] at hzv;simpa using hzv
     have hwl:IntKind.i64.wrap l=l:=by simp[IntKind.wrap,IntKind.bits,IntKind.signed];omega
     have hwc:IntKind.i64.wrap c=c:=by simp[IntKind.wrap,IntKind.bits,IntKind.signed];omega
     have n1:¬(c<0):=by omega
     have n2:¬(281474976710656<(info.bytes:Int)*c):=by omega
     have n3:¬(l<0):=by omega
     have n4:¬(c<l):=by omega
     have hnr:=λarr=>oc (P:=P) X.w elem arr;by_cases h0:c.toNat*info.size=0
     .have harr:(Array.range (c.toNat*info.size)).map (λi=>zv.cells[i% zv.cells.size]!)=#[]:=by rw[h0];simp
      rw[harr];simp[Instr.makeSlice,run_underlying hu,asInt,asIntOf,typeInfo,hi,Go.sizeOf,hwl,hwc,n1,n2,n3,n4,h0];rw[show(Array.map (λ(_:Nat)=>(default:Value)) (Array.range 0))=#[] from by simp,hnr]
      simp
     .simp[Instr.makeSlice,run_underlying hu,asInt,asIntOf,typeInfo,zeroValue,hi,hzero,Go.sizeOf,hwl,hwc,n1,n2,n3,n4,h0,hnr]
    .exact .fail
   .exact .fail
  .exact .fail
 .exact .fail
end
def cy {α:Type}(P:Program):Sem α->Option α
 | .pure a=>some a
 | .program k=>cy P (k P)
 | .mark _ k=>cy P k
 |_=>none
def fB {α:Type}(P:Program):∀(e:Sem α) (a:α),cy P e=some a->∀w,e.run P w= .ok a w:=by
 intro e;induction e with
 |pure b=>intro a h w;simp[cy] at h;cases h;rfl
 |program k ih=>intro a h w;simp[cy] at h;simp[Sem.run];exact ih P a h w
 |mark m k ih=>intro a h w;simp[cy] at h;simp[Sem.run];exact ih a h w
 |_=>intro a h w;simp[cy] at h
section
variable {P:Program}
def bI {α β:Type}(x:Sem α)(f:α->Sem β):cy P (x>>=f)=(cy P x).bind λa=>cy P (f a):=by
 induction x with
 |pure a=>rfl
 |program k ih=>exact ih P
 |mark m k ih=>exact ih
 |_=>rfl
def VC {t:TypeId}{xo yo:Operand}{op:BinOp}{k k':IntKind}{a b:Int}{v:Value}(h:dq op k a k' b=some (.v v)):
  cy P (do eqGuard op t xo yo (.int k a) (.int k' b);binOp op t (.int k a) (.int k' b))=some v:=by
 have sameK:∀{X:Sem Value},k=k'->(if k≠k' then stuck "BinOp: operands of different kinds" else X)=X:=by
  grind
 cases op<;>simp only[dq] at h
 case add=>split at h;(rename_i e;subst e;cases h;simp only[binOp];rw[sameK rfl];rfl);cases h
 case sub=>split at h;(rename_i e;subst e;cases h;simp only[binOp];rw[sameK rfl];rfl);cases h
 case mul=>split at h;(rename_i e;subst e;cases h;simp only[binOp];rw[sameK rfl];rfl);cases h
 case quo=>
  split at h
  .rename_i e;subst e;split at h
   .cases h
   .rename_i hb;cases h;simp only[binOp];rw[sameK rfl];simp only[Op.intDiv];rw[ac hb];rfl
  .cases h
 case rem=>
  split at h
  .rename_i e;subst e;split at h
   .cases h
   .rename_i hb;cases h;simp only[binOp];rw[sameK rfl];simp only[Op.intDiv];rw[ac hb];rfl
  .cases h
 case and=>split at h;(rename_i e;subst e;cases h;simp only[binOp];rw[sameK rfl];rfl);cases h
 case or=>split at h;(rename_i e;subst e;cases h;simp only[binOp];rw[sameK rfl];rfl);cases h
 case xor=>split at h;(rename_i e;subst e;cases h;simp only[binOp];rw[sameK rfl];rfl);cases h
 case andNot=>split at h;(rename_i e;subst e;cases h;simp only[binOp];rw[sameK rfl];rfl);cases h
 case shl=>
  split at h
  .cases h
  .rename_i hb;cases h;simp only[binOp,Op.shift];rw[ac hb];rfl
 case shr=>
  split at h
  .cases h
  .rename_i hb;cases h;simp only[binOp,Op.shift];rw[ac hb];rfl
 case eql=>split at h;(rename_i e;subst e;cases h;simp only[binOp];rw[sameK rfl];show some (Value.bool (a==b))=_;congr 2);cases h
 case neq=>split at h;(rename_i e;subst e;cases h;simp only[binOp];rw[sameK rfl];show some (Value.bool (a !=b))=_;congr 2);cases h
 case lss=>split at h;(rename_i e;subst e;cases h;simp only[binOp];rw[sameK rfl];rfl);cases h
 case leq=>split at h;(rename_i e;subst e;cases h;simp only[binOp];rw[sameK rfl];rfl);cases h
 case gtr=>split at h;(rename_i e;subst e;cases h;simp only[binOp];rw[sameK rfl];rfl);cases h
 case geq=>split at h;(rename_i e;subst e;cases h;simp only[binOp];rw[sameK rfl];rfl);cases h
def P6 {op:BinOp}{k k':IntKind}{a b:Int}{p:PV}(h:dq op k a k' b=some p):∃v,p= .v v/\ iL v=true:=by
 unfold dq at h
 (repeat' split at h)<;>first|(cases h;done)|(cases h;exact⟨_,rfl,rfl⟩)
def VD {t:TypeId}{xo yo:Operand}{op:BinOp}{a b:ByteArray}{v:Value}(h:xv op a b=some (.v v)):
  cy P (do eqGuard op t xo yo (.string a) (.string b);binOp op t (.string a) (.string b))=some v:=by
 cases op<;>simp only[xv] at h<;>try (cases h;done)
 case add=>
  split at h
  .cases h
  .rename_i hn;cases h;simp[binOp,Op.stringOp];rw[ac (by simpa using hn)]
   rfl
 case eql=>cases h;rfl
 case neq=>cases h;rfl
def P7 {op:BinOp}{a b:ByteArray}{p:PV}(h:xv op a b=some p):∃v,p= .v v/\ iL v=true:=by
 unfold xv at h
 (repeat' split at h)<;>first|(cases h;done)|(cases h;exact⟨_,rfl,rfl⟩)
def Sn {t:TypeId}{xo yo:Operand}{op:BinOp}{a b:Bool}{v:Value}(ht:P.underlying t=some .bool)(h:sN op a b=some (.v v)):
  cy P (do eqGuard op t xo yo (.bool a) (.bool b);binOp op t (.bool a) (.bool b))=some v:=by
 have hu:cy P (underlying t)=some .bool:=by
  unfold underlying;rw[bI];show(some P:Option Program).bind _=_
  rw[bo,ht];rfl
 cases op<;>simp only[sN] at h<;>try (cases h;done)
 case eql=>
  cases h;show cy P ((Op.equal t (.bool a) (.bool b))>>=λx=>pure (Value.bool x))=_
  unfold Op.equal Op.maxDepth;unfold Op.equalIn;simp only[bI,hu,bo];rfl
 case neq=>
  cases h;show cy P ((Op.equal t (.bool a) (.bool b))>>=λx=>pure (Value.bool (!x)))=_
  unfold Op.equal Op.maxDepth;unfold Op.equalIn;simp only[bI,hu,bo];rfl
def ME {op:BinOp}{a b:Bool}{p:PV}(h:sN op a b=some p):∃v,p= .v v/\ iL v=true:=by
 unfold sN at h
 (repeat' split at h)<;>first|(cases h;done)|(cases h;exact⟨_,rfl,rfl⟩)
def lG (P:Program)(t:TypeId)(vs:List Value):Option Value:=
 match bT P t with
 |some true=>some (.agg vs.toArray)
 |some false=>vs[0]?
 |none=>none
def ek {t:TypeId}{d:TypeDesc}(h:P.underlying t=some d):cy P (underlying t)=some d:=by
 unfold underlying;rw[bI];show(some P:Option Program).bind _=_
 rw[bo,h];rfl
def Bo {t:TypeId}{b:Bool}(h:bT P t=some b):cy P (isAgg t)=some b:=by
 unfold bT at h;rw[bM] at h;obtain⟨d,h1,h2⟩:=h;unfold isAgg;rw[bI,ek h1,bo];subst h2;cases d<;>rfl
def Jz {t:TypeId}{n:Nat}(h:szT P t=some n):cy P (sizeOf t)=some n:=by
 unfold szT at h;rw[bM] at h;obtain⟨i,h1,h2⟩:=h;unfold sizeOf typeInfo;rw[bI,bI];show((some P:Option Program).bind _).bind _=_
 rw[bo,h1];subst h2;rfl
structure EqT (P:Program)(t:TypeId)(ks:List Ck):Prop where
 agg:(bT P t=some true/\ szT P t=some ks.length)\/(bT P t=some false/\ ks.length=1)
def xM {t:TypeId}{ks:List Ck}(h:EqT P t ks){vs:List Value}{o:Nat}(hl:o+ks.length<=vs.length):∃u,lG P t ((vs.drop o).take ks.length)=some u/\ cy P (part t vs.toArray o)=some u:=by
 rcases h.agg with⟨h1,h2⟩|⟨h1,h2⟩
 .refine⟨.agg ((vs.drop o).take ks.length).toArray,by unfold lG;rw[h1],?_⟩;unfold part;rw[bI,Bo h1,bo];simp only[az];rw[bI,Jz h2,bo];show some (Value.agg _)=_
  grind
 .have hlt:o<vs.length:=by omega
  refine⟨vs[o],?_,?_⟩
  .unfold lG
   grind
  .unfold part;rw[bI,Bo h1,bo];have:vs.toArray[o]?=some vs[o]:=by simp
   rw[this];rfl
def jd:∀{ks:List Ck} {xs ys:List PV} {b:Bool},eqL ks xs ys=some b->xs.length=ks.length/\ ys.length=ks.length
 |[],[],[],b,h=>⟨rfl,rfl⟩
 |k::ks,x::xs,y::ys,b,h=>by
  unfold eqL at h;split at h
  .split at h
   .rename_i h2;obtain⟨a,c⟩:=jd h2;simp[a,c]
   .cases h
  .cases h
 |[],[],_::_,_,h=>by cases h
 |[],_::_,_,_,h=>by cases h
 |_::_,[],_,_,h=>by cases h
 |_::_,_::_,[],_,h=>by cases h
def Bp:∀{ks ls:List Ck} {xs ys:List PV} {b:Bool},eqL (ks++ls) xs ys=some b->∃b1 b2,eqL ks (xs.take ks.length) (ys.take ks.length)=some b1/\ eqL ls (xs.drop ks.length) (ys.drop ks.length)=some b2/\ b=(b1&& b2)
 |[],ls,xs,ys,b,h=>⟨true,b,rfl,h,by simp⟩
 |k::ks,ls,[],ys,b,h=>by cases h
 |k::ks,ls,x::xs,[],b,h=>by cases h
 |k::ks,ls,x::xs,y::ys,b,h=>by
  simp at h;unfold eqL at h;split at h
  .rename_i c hc;split at h
   .rename_i d hd;cases h;obtain⟨b1,b2,h1,h2,rfl⟩:=Bp hd;exact⟨c&& b1,b2,by simp only[aV,iW,eqL,hc,h1],h2,by rw[Bool.and_assoc]⟩
   .cases h
  .cases h
def Bq (vs:List Value)(n:Nat):(vs.map PV.v).take n=(vs.take n).map PV.v:=by rw[wM]
def Br (vs:List Value)(n:Nat):(vs.map PV.v).drop n=(vs.drop n).map PV.v:=by rw[wL]
def So (P:Program)(D:Nat)(t:TypeId)(ks:List Ck):Prop:=EqT P t ks/\∀(vx vy:List Value) (b:Bool),eqL ks (vx.map .v) (vy.map .v)=some b->∃u w,lG P t vx=some u/\ lG P t vy=some w/\ cy P (Op.equalIn D t u w)=some b
def J6 {D:Nat}{rec:TypeId->Option (List Ck)}(hrec:∀t ks,rec t=some ks->So P D t ks){vx vy:List Value}:∀(fs:List Field) (o:Nat) {ks:List Ck} {b:Bool},xy rec fs o=some ks->o<=vx.length->o<=vy.length->eqL ks ((vx.drop o).map .v) ((vy.drop o).map .v)=some b->
  cy P (forIn fs ((none,()):Option Bool×Unit) λf __s=>
      if f.name≠ "_" then do
       let __do_lift<-part f.type vx.toArray f.offset
       let __do_lift_1<-part f.type vy.toArray f.offset
       let __do_lift<-Op.equalIn D f.type __do_lift __do_lift_1
       if(!__do_lift)=true then pure (ForInStep.done (some false,())) else pure (ForInStep.yield (none,()))
      else pure (ForInStep.yield (none,())))=some ((if b then none else some false),())
 |[],o,ks,b,h,_,_,hl=>by
  cases h;have:=jd hl;have:vx.drop o=[]:=bJ (by simpa using this.1)
  have:vy.drop o=[]:=bJ (by have:=(jd hl).2;simpa using this)
  simp;simp_all[eqL];cases hl;rfl
 |f::fs,o,ks,b,h,ho1,ho2,hl=>by
  unfold xy at h;split at h
  .rename_i hn;simp only[aH,bne_iff_ne] at hn;have ho:=bg hn.2;split at h
   .rename_i k hk;split at h
    .rename_i r hr;cases h;obtain⟨b1,b2,e1,e2,rfl⟩:=Bp hl;have hlen:=jd hl;simp at hlen;obtain⟨hT,hE⟩:=hrec _ _ hk;rw[Bq,Bq] at e1;obtain⟨u,w,m1,m2,m3⟩:=hE _ _ _ e1;obtain⟨u',p1,p2⟩:=xM hT (vs:=vx) (o:=o) (by omega);obtain⟨w',q1,q2⟩:=xM hT (vs:=vy) (o:=o) (by omega);rw[m1] at p1;cases p1;rw[m2] at q1;cases q1;simp only[List.forIn_cons];rw[ad hn.1,ho,bI,bI,p2,bo,bI,q2,bo,bI,m3,bo];cases b1 with
     |false=>rfl
     |true=>
      simp only[gc];rw[Br,Br,gz,gz] at e2;exact J6 hrec fs (o+k.length) hr (by omega) (by omega) e2
    .cases h
   .cases h
  .cases h
def uC:∀(d:Nat) {t:TypeId} {ks:List Ck},iZ P d t=some ks->∀D,d<=D->So P D t ks
 |0,t,ks,h=>by cases h
 |d+1,t,ks,h=>by
  intro D hD;obtain⟨D,rfl⟩:∃D',D=D'+1:=⟨D-1,by omega⟩;unfold iZ at h;have one:∀{k:Ck} {d:TypeDesc},P.underlying t=some d->HK d=false->(∀x y b,eqC k (.v x) (.v y)=some b->cy P (Op.equalIn (D+1) t x y)=some b)->So P (D+1) t [k]:=by
   intro k d hu ha hE;have hag:bT P t=some false:=by unfold bT;rw[hu];simp[ha]
   refine⟨⟨.inr ⟨hag,rfl⟩⟩,λvx vy b hb=>?_⟩;have hl:=jd hb;simp at hl;obtain⟨x,rfl⟩:=mL.1 hl.1;obtain⟨y,rfl⟩:=mL.1 hl.2;refine⟨x,y,by unfold lG;rw[hag];rfl,by unfold lG;rw[hag];rfl,?_⟩;simp only[bQ,sg,eqL] at hb;split at hb
   .rename_i c hc;cases hb;rw[kq];exact hE x y c hc
   .cases hb
  split at h
  .rename_i hu;cases h;refine one hu rfl λx y b hb=>?_;cases x<;>cases y<;>simp[eqC] at hb<;>try (cases hb;done)
   cases hb;unfold Op.equalIn;rw[bI,ek hu,bo];rfl
  .rename_i k hu;cases h;refine one hu rfl λx y b hb=>?_;cases x<;>cases y<;>simp only[eqC] at hb<;>try (cases hb;done)
   split at hb
   .rename_i e;cases hb;subst e;unfold Op.equalIn;rw[bI,ek hu,bo];simp;show some _=some _
    congr 1
   .cases hb
  .rename_i hu;cases h;refine one hu rfl λx y b hb=>?_;cases x<;>cases y<;>simp only[eqC] at hb<;>try (cases hb;done)
   cases hb;unfold Op.equalIn;rw[bI,ek hu,bo];rfl
  .rename_i fields hu;split at h
   .cases h
   .rename_i hst;split at h
    .rename_i ks' hfs;split at h
     .rename_i m hm;split at h
      .rename_i hb;cases h;have e:=bg hb;have hag:bT P t=some true:=by unfold bT;rw[hu];rfl
       refine⟨⟨.inl ⟨hag,by rw[hm,e]⟩⟩,λvx vy b hl=>?_⟩;refine⟨.agg vx.toArray,.agg vy.toArray,by unfold lG;rw[hag],by unfold lG;rw[hag],?_⟩;have loop:=J6 (P:=P) (D:=D) (rec:=iZ P d) (λt ks hk=>uC d hk D (by omega)) (vx:=vx) (vy:=vy) fields.toList 0 hfs (cV _) (cV _) (by simpa using hl)
       unfold Op.equalIn;simp only[bI,ek hu,bo];have hp:cy P program=some P:=rfl;rw[hp];simp only[bo,hst,aw,ax];simp only[<-Array.forIn_toList];rw[bI,loop,bo];cases b<;>rfl
      .cases h
     .cases h
    .cases h
  .cases h
def Bt:∀(d:Nat) {t:TypeId} {ks:List Ck},iZ P d t=some ks->∀D,d<=D->P.eqGuardType D t=false
 |0,t,ks,h=>by cases h
 |d+1,t,ks,h=>by
  intro D hD;obtain⟨D,rfl⟩:∃D',D=D'+1:=⟨D-1,by omega⟩;unfold iZ at h;unfold Program.eqGuardType;split at h
  .rename_i hu;rw[hu]
  .rename_i hu;rw[hu]
  .rename_i hu;rw[hu]
  .rename_i fields hu;rw[hu];simp only;split at h
   .cases h
   .split at h
    .rename_i ks' hfs;have:∀(fs:List Field) (o:Nat) (ks:List Ck),xy (iZ P d) fs o=some ks->∀f∈fs,P.eqGuardType D f.type=false:=by
      intro fs;induction fs with
      |nil=>intro o ks _ f hf;cases hf
      |cons g gs ih=>
       intro o ks hk f hf;unfold xy at hk;split at hk
       .split at hk
        .rename_i k hk1;split at hk
         .rename_i r hr;rcases bh.1 hf with rfl|hf
          .exact Bt d hk1 D (by omega)
          .exact ih _ _ hr f hf
         .cases hk
        .cases hk
       .cases hk
     rw[<-Array.any_toList,f8];intro f hf;simp[this _ _ _ hfs f hf]
    .cases h
  .cases h
def VE {t:TypeId}{xo yo:Operand}{ks:List Ck}{vx vy:List Value}{b:Bool}(hk:iZ P 10 t=some ks)(hd:10<=P.depth)(ha:bT P t=some true)(h:eqL ks (vx.map .v) (vy.map .v)=some b):
  cy P (do eqGuard .eql t xo yo (.agg vx.toArray) (.agg vy.toArray);binOp .eql t (.agg vx.toArray) (.agg vy.toArray))=some (.bool b)/\ cy P (do eqGuard .neq t xo yo (.agg vx.toArray) (.agg vy.toArray);binOp .neq t (.agg vx.toArray) (.agg vy.toArray))=some (.bool (!b)):=by
 obtain⟨_,hE⟩:=uC 10 hk Op.maxDepth (by decide);obtain⟨u,w,h1,h2,h3⟩:=hE vx vy b h;unfold lG at h1 h2;rw[ha] at h1 h2;cases h1;cases h2;have hg:=Bt 10 hk P.depth hd;have guard:∀op,(op= .eql\/op= .neq)->cy P (eqGuard op t xo yo (.agg vx.toArray) (.agg vy.toArray))=some ():=by
  intro op ho;have hp:cy P program=some P:=rfl;rcases ho with rfl|rfl<;>
  .unfold eqGuard;simp only[aJ,aw,ax,bI]
   try rw[hp]
   try simp only[bo,hg,bZ,az]
   rfl
 constructor
 .rw[bI,guard _ (.inl rfl),bo];show cy P ((Op.equal t (.agg vx.toArray) (.agg vy.toArray))>>=λx=>pure (Value.bool x))=_
  rw[bI];unfold Op.equal;rw[h3];rfl
 .rw[bI,guard _ (.inr rfl),bo];show cy P ((Op.equal t (.agg vx.toArray) (.agg vy.toArray))>>=λx=>pure (Value.bool (!x)))=_
  rw[bI];unfold Op.equal;rw[h3];rfl
end
section
variable {X:Cx}{P:Program}{base:Nat}{L:Nat->Prop}
def iM {v:Value}{x:Value}(h:X.T v (.v x)):v=x:=by cases h;rfl
def Bu {w:World}{S:Nat->Prop}:∀{ks:List Ck} {xs ys:List PV} {b:Bool} {vx vy:List Value},eqL ks xs ys=some b->F2 (RT w S) vx xs->F2 (RT w S) vy ys->xs=vx.map .v/\ ys=vy.map .v
 |[],[],[],b,_,_,h,hx,hy=>by cases hx;cases hy;exact⟨rfl,rfl⟩
 |k::ks,x::xs,y::ys,b,_,_,h,.cons (a:=u) hx tx,.cons (a:=w) hy ty=>by
  unfold eqL at h;split at h
  .rename_i c hc;split at h
   .rename_i d hd;obtain⟨e1,e2⟩:=Bu hd tx ty;have:x= .v u/\ y= .v w:=by
     cases k<;>cases x<;>cases y<;>simp[eqC] at hc<;>first|(cases hc;done)|exact⟨by cases hx;rfl,by cases hy;rfl⟩
    rw[e1,e2,this.1,this.2];exact⟨rfl,rfl⟩
   .cases h
  .cases h
 |[],[],_::_,_,_,_,h,_,_=>by cases h
 |[],_::_,_,_,_,_,h,_,_=>by cases h
 |_::_,[],_,_,_,_,h,_,_=>by cases h
 |_::_,_::_,[],_,_,_,h,_,_=>by cases h
def yK (hm:MR X base L){w:SW}{v:Value}(h:WR X v w):Sp X.e (HS X.σ w) λa=>∃p,a.ev X.e=some p/\ X.T v p:=by
 refine Sp.bind (vS hm h) λq ⟨⟨p,h1,h2,_⟩,_⟩=>?_;split
 .rename_i hq;rw[hq] at h2;exact .ret ⟨p,h1,h2.mono ⟨λB hB=>hB.elim id (λ⟨_,hb,_⟩=>by cases hb),λ_ _=>rfl⟩⟩
 .exact .fail
def Cv {x y:SW}{u v:Value}{f:RF}{s:Sem Value}(hx:WR X u x)(hy:WR X v y)(h:∀p q r,X.T u p->X.T v q->f.ev [p,q]=some r->∃w,r= .v w/\ iL w=true/\ s.run P X.w= .ok w X.w):Sp X.e (HU f x y) λsv=>∃w,s.run P X.w= .ok w X.w/\ VR X w sv:=by
 unfold HU;split
 .split
  .refine Sp.bind (dE hx.inv) λa ⟨p,a1,_,a3⟩=>Sp.bind (dE hy.inv) λb ⟨q,b1,_,b3⟩=>Sp.bind Sp.emit λr hr=>?_;obtain⟨z,h1,h2⟩:=gm hr a1 b1;obtain⟨w,rfl,hp,hw⟩:=h p q z a3 b3 h1;exact .ret ⟨w,hw,.w (.c (.a h2 rfl (.v hp)))⟩
  .exact .fail
 .exact .fail
def VF (hm:MR X base L){op:BinOp}{t:TypeId}{xo yo:Operand}{x y:SW}{u v:Value}(hx:WR X u x)(hy:WR X v y):Sp X.e (R6 P X.σ op t x y) λsv=>∃w,(do eqGuard op t xo yo u v;binOp op t u v:Sem Value).run P X.w= .ok w X.w/\ VR X w sv:=by
 have ints:∀p q r,X.T u p->X.T v q->(RF.bin op).ev [p,q]=some r->∃w,r= .v w/\ iL w=true/\(do eqGuard op t xo yo u v;binOp op t u v:Sem Value).run P X.w= .ok w X.w:=by
  intro p q r hp hq h;simp only[RF.ev] at h;split at h
  .rename_i k a k' b e;cases e;have:=iM hp;subst this;have:=iM hq;subst this;obtain⟨w,rfl,hw⟩:=P6 h;exact⟨w,rfl,hw,fB P _ _ (VC h) _⟩
  .rename_i a b e;cases e;have:=iM hp;subst this;have:=iM hq;subst this;obtain⟨w,rfl,hw⟩:=P7 h;exact⟨w,rfl,hw,fB P _ _ (VD h) _⟩
  .cases h
 unfold R6;split
 .rename_i fields hu;have hag:bT P t=some true:=by unfold bT;rw[hu];rfl
  split
  .rename_i hc;simp only[aH,gH] at hc;split
   .rename_i ks hk;refine Sp.bind (yK hm hx) λa' ⟨p,a1,a2⟩=>Sp.bind (yK hm hy) λb' ⟨q,b1,b2⟩=>Sp.bind Sp.emit λr hr=>?_;obtain⟨z,e1,e2⟩:=gm hr a1 b1;simp only[RF.ev] at e1;split at e1
    .rename_i xs ys hl;cases hl;split at e1
     .rename_i c hc';cases e1;have run:∀vx vy:Array Value,u= .agg vx->v= .agg vy->cy P (do eqGuard .eql t xo yo u v;binOp .eql t u v)=some (.bool c)/\ cy P (do eqGuard .neq t xo yo u v;binOp .neq t u v)=some (.bool (!c)):=by
       rintro vx vy rfl rfl;obtain⟨_,e3,_,k1⟩:=a2.agg_inv;obtain⟨_,e4,_,k2⟩:=b2.agg_inv;cases e3;cases e4;obtain⟨e5,e6⟩:=Bu hc' k1.f2 k2.f2;have:=VE (xo:=xo) (yo:=yo) (vx:=vx.toList) (vy:=vy.toList) hk hc.2 hag (by rw[<-e5,<-e6];exact hc');simpa using this
      have run:cy P (do eqGuard .eql t xo yo u v;binOp .eql t u v)=some (.bool c)/\ cy P (do eqGuard .neq t xo yo u v;binOp .neq t u v)=some (.bool (!c)):=by
       generalize hp:PV.agg xs=p at a2;generalize hq:PV.agg ys=q at b2;cases a2<;>first|(cases hp;done)|skip
       cases b2<;>first|(cases hq;done)|exact run _ _ rfl rfl
      split
      .exact .ret ⟨_,fB P _ _ run.1 _,.w (.c (.a e2 rfl (.v rfl)))⟩
      .rename_i hne;refine Sp.bind Sp.emit λr' hr'=>?_;obtain⟨z',g1,g2⟩:=ik hr' e2;cases g1;cases op<;>first|(exact absurd rfl hne)|(exact Bool.noConfusion hc.1)|skip
       exact .ret ⟨_,fB P _ _ run.2 _,.w (.c (.a g2 rfl (.v rfl)))⟩
     .cases e1
    .cases e1
   .exact .fail
  .exact .fail
 .rename_i hu;refine Cv hx hy λp q r hp hq h=>?_;simp only[RF.ev] at h;split at h
  .rename_i a b e;cases e;have:=iM hp;subst this;have:=iM hq;subst this;obtain⟨w,rfl,hw⟩:=ME h;exact⟨w,rfl,hw,fB P _ _ (Sn hu h) _⟩
  .cases h
 .exact Cv hx hy ints
 .exact Cv hx hy ints
 .exact .fail
def VG {op:BinOp}{t:TypeId}{y:Operand}(h:Mp P op t y=true):(op= .eql\/op= .neq)/\(∃e,P.underlying t=some (.slice e))/\ y= .const (.slice none 0 0):=by
 unfold Mp HL at h;simp at h;obtain⟨⟨h1,h2⟩,h3⟩:=h;refine⟨?_,?_,?_⟩
 .cases op<;>first|exact .inl rfl|exact .inr rfl|cases h1
 .grind
 .grind
def VH {op:BinOp}{t e:TypeId}{xo:Operand}{b:Option Addr}{n c:Nat}{w:World}(ho:op= .eql\/op= .neq)(hu:P.underlying t=some (.slice e)):(do eqGuard op t xo (.const (.slice none 0 0)) (.slice b n c) (.slice none 0 0);binOp op t (.slice b n c) (.slice none 0 0):Sem Value).run P w= .ok (.bool (if b.isSome then nZ op else !nZ op)) w:=by
 have e1:(Op.equal t (.slice b n c) (.slice none 0 0)).run P w= .ok (!b.isSome) w:=by
  unfold Op.equal Op.maxDepth Op.equalIn;rw[Sem.run_bind,run_underlying hu];cases b<;>rfl
 rcases ho with rfl|rfl
 .show(do pure (.bool (<-Op.equal t (.slice b n c) (.slice none 0 0))):Sem Value).run P w=_
  rw[Sem.run_bind,e1];cases b<;>rfl
 .show(do pure (.bool (!(<-Op.equal t (.slice b n c) (.slice none 0 0)))):Sem Value).run P w=_
  rw[Sem.run_bind,e1];cases b<;>rfl
def aeh {w:World}{S:Nat->Prop}{v:Value}{els:List (List PV)}(h:RT w S v (.sl els)):∃b n c,v= .slice b n c/\(els.length≠0->b.isSome=true):=by
 cases h with
 |nil h=>rcases h with rfl|⟨_,_,rfl⟩<;>exact⟨_,_,_,rfl,λh=>absurd rfl h⟩
 |sl=>exact⟨_,_,_,rfl,λ_=>rfl⟩
def J7 {e:List PV}{n r:A}{k:Nat}(h:mP e (.bin .eql) [n,.c (.i64 0)] r)(hn:n.ev e=some (.i64 k)):r.ev e=some (.bool (decide (k=0))):=by
 obtain⟨u,h1,h2⟩:=gm h hn (show A.ev e (.c (.i64 0))=some (.i64 0) from rfl)
 have:u= .bool (decide (k=0)):=by
  have h1:some (PV.bool (decide ((k:Int)=0)))=some u:=h1;simp_all
 rw[h2,this]
def VI (hm:MR X base L){op:BinOp}{c:SC}{v:Value}(h:CR X v c):Sp X.e (R7 X.σ op c) λsv=>∃b n c,v= .slice b n c/\ CR X (.bool (if b.isSome then nZ op else !nZ op)) (match sv with| .w (.c c)=>c|_=> .nil)/\∃c,sv= .w (.c c):=by
 have fin:∀{b:Option Addr} {k:Nat} {r:A},(k≠0->b.isSome=true)->r.ev X.e=some (.bool (decide (k=0)))->CR X (.bool (if b.isSome then nZ op else !nZ op)) (.ub r (nZ op)):=λ{b k r} hb hr=> .ub hr λe=>by
  grind
 unfold R7;split
 .split
  .rename_i hl;cases h with
   |lsl hb h1 h=>
    refine Sp.bind Sp.emit λr hr=>?_;obtain⟨_,ni,_,_,h3,_,_,h5⟩:=h _ _ (hm.kd _ _ hl);have hr:=J7 hr h3;rcases h5 with⟨_,_,_,_,rfl,_⟩|⟨rfl,h5,_⟩
    .exact .ret ⟨_,_,_,rfl,fin (λ_=>rfl) hr,_,rfl⟩
    .rcases h5 with rfl|⟨_,_,rfl⟩<;>exact .ret ⟨_,_,_,rfl,fin (λh=>absurd rfl h) hr,_,rfl⟩
  .exact .fail
 .refine Sp.bind (dE h) λa ⟨p,a1,_,a3⟩=>Sp.bind Sp.emit λn hn=>Sp.bind Sp.emit λr hr=>?_;obtain⟨els,rfl,hn⟩:=gu hn a1;have hr:=J7 hr hn;obtain⟨b,n,c,rfl,hb⟩:=aeh a3;exact .ret ⟨_,_,_,rfl,fin hb hr,_,rfl⟩
def aei {op:UnOp}{c:SC}{v:Value}(hv:CR X v c):Sp X.e (EM.bind (eQ c) λa=>EM.bind (emit (.un op) [a]) λr=>EM.ret (SW.c (.a r))) (SwR P X (Op.unary op v)):=by
 refine Sp.bind (dE hv) λa ⟨p,a1,_,a3⟩=>Sp.bind Sp.emit λr hr=>?_;obtain⟨z,h1,h2⟩:=ik hr a1;simp only[RF.ev] at h1;split at h1
 .rename_i b e;cases e;have:=iM a3;subst this;split at h1
  .cases h1;exact .ret ⟨_,rfl,.c (.a h2 rfl (.v rfl))⟩
  .cases h1
 .rename_i k n e;cases e;have:=iM a3;subst this;split at h1
  .cases h1;exact .ret ⟨_,rfl,.c (.a h2 rfl (.v rfl))⟩
  .cases h1
 .cases h1
end
section
variable {X:Cx}{P:Program}{base:Nat}{L:Nat->Prop}
def VJ {t t':TypeId}{c:SC}{v:Value}(hv:CR X v c):Sp X.e (Mq P t t' c) (SwR P X (convert t t' v)):=by
 unfold Mq;split
 .rename_i k0 hs;split
  .rename_i k hd;refine Sp.bind (dE hv) λa ⟨p,a1,_,a3⟩=>Sp.bind Sp.emit λr hr=>?_;obtain⟨z,h1,h2⟩:=ik hr a1;simp[RF.ev] at h1;split at h1
   .rename_i e;cases e;cases h1;have:=iM a3;subst this;refine .ret ⟨_,?_,.c (.a h2 rfl (.v rfl))⟩;simp[convert,run_underlying hs,run_underlying hd,Conv.intToInt]
   .cases h1
  .exact .fail
 .exact .fail
def Ii {t:TypeId}{cs:Array Value}{o:Nat}{v:Value}(h:vR P t cs.toList o v)(w:World):(part t cs o).run P w= .ok v w:=by
 rcases h with⟨ha,n,hn,hl,rfl⟩|⟨ha,hv⟩
 .have e:cs.extract o (o+n)=((cs.toList.drop o).take n).toArray:=by
   grind
  simp[part,sQ ha,run_sizeOf hn,e]
 .have hv':cs[o]?=some v:=by simpa using hv
  simp[part,sQ ha,hv']
def Sq {t:TypeId}{i:Nat}{w:SW}{v:Value}(hv:WR X v w):Sp X.e (HV P t w i) (SwR P X (Instr.field t v i)):=by
 have fin:∀{fields:Array Field} {f:Field} {a:Array Value} {u:Value},P.underlying t=some (.struct fields)->fields[i]?=some f->vR P f.type a.toList f.offset u->(Instr.field t (.agg a) i).run P X.w= .ok u X.w:=λhu hf h=>by
  simp[Instr.field,run_underlying hu,hf,asAgg,Ii h]
 unfold HV;split
 .rename_i fields hu;split
  .rename_i f hf;split
   .cases hv with
    |agg h=>exact(Ib h).mono λw ⟨u,h1,h2⟩=>⟨u,fin hu hf h1,h2⟩
   .cases hv with
    | @av a x cs h ht r=>
     split
     .rename_i hc;have ha:=(cnt_spec hc).elim (λh=>h.2) λh=>absurd h.1 (df 0);refine Sp.bind Sp.sizeOf λk hk=>?_;split
      .rename_i m;split
       .rename_i hb;rw[gH] at hb;obtain⟨cs',k1,k2⟩:=hk m rfl;rw[h] at k1;cases k1;obtain⟨p,hp⟩:∃p,cs[f.offset]?=some p:=⟨_,ah (by omega)⟩;obtain⟨u,h1,h2⟩:=r.f2.get' _ _ hp;exact(Dj (.pc h ht hp h2)).mono λw hw=>⟨u,fin hu hf (.inr ⟨ha,h1⟩),hw⟩
       .exact .fail
      .refine Sp.bind Sp.emit λy hy=>?_;obtain⟨z,h1,h2⟩:=ik hy h;obtain⟨u,k1,k2⟩:=r.f2.get' _ _ (show cs[f.offset]?=some z from h1)
       exact .ret ⟨u,fin hu hf (.inr ⟨ha,k1⟩),.c (.a h2 (ux ht h1) k2)⟩
     .rename_i n hc;refine(tE (vs:=a.toList) (x:=f.offset) (m:=n+1) (o:=0) hc λxs p e1 e2=>?_).mono λw ⟨u,h1,h2⟩=>⟨u,fin hu hf h1,h2⟩;obtain⟨x',e3,rfl⟩:=xD e1;rw[h] at e3;cases e3;obtain⟨hl,rfl⟩:=dg e2;refine⟨_,?_,.of ((r.f2.drop f.offset).take (n+1))⟩;unfold cF;simp only;rw[ad ⟨by rw[aP,b9];omega,by rw[dP,bk (by rw[aP];omega)];exact yI ht _ _⟩];rw[dP,bk (by rw[aP];omega)]
     .exact .fail
   .exact .fail
  .exact .fail
 .exact .fail
def Do:∀{cs:List SC} {vs:List Value},F2 (CR X) vs cs->Sp X.e (HW cs) λas=>∃ps,evs X.e as=some ps/\ F2 X.T vs ps/\ ps.all t0=true
 |_,_,.nil=> .ret ⟨[],rfl,.nil,rfl⟩
 |_,_,.cons h t=>Sp.bind (dE h) λa ⟨p,a1,a2,a3⟩=>Sp.bind (Do t) λas ⟨ps,b1,b2,b3⟩=> .ret ⟨p::ps,jz a1 b1,.cons a3 b2,by simp[a2,b3]⟩
def Sr {w:SW}{v:Value}(hv:WR X v w):Sp X.e (UH w) λa=>∃cs arr,v= .agg arr/\ a.ev X.e=some (.agg cs)/\ RTs X.w X.S arr.toList cs/\ cs.all t0=true:=by
 cases hv with
 |c h=>exact .fail
 |av h ht r=>exact .ret ⟨_,_,rfl,h,r,ht⟩
 |agg h=>
  refine Sp.bind (Do h) λas ⟨ps,p1,p2,p3⟩=>Sp.emit.mono λy ⟨xs,u,h1,h2,h3⟩=>?_;rw[p1] at h1;cases h1;obtain⟨_,rfl⟩:=dg h2;have:ps.flatMap PV.cells=ps:=by
   clear p1 p2 h2 h3;rename_i hall;clear hall;induction ps with
   |nil=>rfl
   |cons p ps ih=>
    simp only[dF,aH] at p3;rw[du,ih p3.2];cases p<;>first|rfl|simp[t0] at p3
  rw[this] at h3;exact⟨_,_,rfl,h3,.of p2,p3⟩
def Ss {t:TypeId}{w:SW}{c:SC}{v u:Value}(hv:WR X v w)(hu:CR X u c):Sp X.e (HX P X.σ t w c) (SwR P X (Instr.index t v u)):=by
 unfold HX;split
 .rename_i len elem hu';split
  .rename_i z hz;split
   .rename_i n hn;refine Sp.bind (Sr hv) λa ⟨cs,arr,e,a1,a2,a3⟩=>Sp.bind (dE hu) λi ⟨p,i1,_,i3⟩=>?_;subst e;have key:∀xs p',evs X.e [a,i]=some xs->(RF.aix z len n).ev xs=some p'->∃(k:IntKind) (j:Int),p= .v (.int k j)/\ 0<=j/\ j<len/\ cF (j.toNat*z) n cs=some p':=λxs p' e1 e2=>by
     obtain⟨x,y,f1,f2,rfl⟩:=Cj e1;rw[a1] at f1;cases f1;rw[i1] at f2;cases f2;simp only[RF.ev] at e2
     grind
    have hj:∃jj:Nat,∀k j,p= .v (.int k j)->0<=j->j.toNat=jj:=by
     cases p with
     |v x=>cases x with
      |int k j=>exact⟨j.toNat,λ_ _ e _=>by cases e;rfl⟩
      |_=>exact⟨0,λ_ _ e _=>by cases e⟩
     |_=>exact⟨0,λ_ _ e _=>by cases e⟩
    obtain⟨jj,hj⟩:=hj;refine((xH (vs:=arr.toList) (x:=0) (m:=arr.size) (o:=jj*z) hn λxs p' e1 e2=>?_)).mono λw ⟨⟨x,h1,h2⟩,xs,p',e1,e2⟩=>⟨x,?_,h2⟩
    .obtain⟨k,j,e,h0,_,hr⟩:=key xs p' e1 e2;rw[hj k j e h0] at hr;exact⟨cs,hr,by rw[dP,bk (by simp)];exact a2⟩
    .obtain⟨k,j,rfl,h0,hl,_⟩:=key xs p' e1 e2;have:=iM i3;subst this;rw[cj,<-hj k j rfl h0] at h1;simp[Instr.index,asIntOf,run_underlying hu',h0,hl,run_sizeOf hz,Ii h1]
   .exact .fail
  .exact .fail
 .exact .fail
def Ij {t:TypeId}{i:Nat}{c:SC}{v:Value}(hv:CR X v c):Sp X.e (vJ P t c i) λc=>SwR P X (Instr.fieldAt t v i) (.c c):=by
 have fin:∀{fields:Array Field} {f:Field} {m B o:Nat},P.underlying t=some (.struct fields)->fields[i]?=some f->szT P f.type=some (m+1)->(Instr.fieldAt t (.pointer (some ⟨B,o,none⟩)) i).run P X.w= .ok (.pointer (some ⟨B,o+f.offset,none⟩)) X.w:=λhu hf hz=>by
  simp[Instr.fieldAt,run_underlying hu,hf,Instr.sureAddr,fieldPlace,run_sizeOf hz,add_plain]
 unfold vJ;split
 .rename_i fields hu;split
  .rename_i f hf;split
   .rename_i m hz;split
    .cases hv with
     |ptr hb h=>exact .ret ⟨_,fin hu hf hz,.c (.ptr hb h)⟩
    .cases hv with
     |ep hb hi h=>exact .ret ⟨_,fin hu hf hz,.c (.ep hb hi λnl z hl=>⟨(h nl z hl).1,by rw[(h nl z hl).2,dG]⟩)⟩
    .cases hv with
     |tp hl hi hr hS hg he=>exact .ret ⟨_,fin hu hf hz,.c (by rw[dG];exact .tp hl hi hr hS hg he)⟩
    .exact .fail
   .exact .fail
  .exact .fail
 .exact .fail
def VK {a b y:A}{p q:PV}(h:mP X.e .ix [a,b] y)(ha:a.ev X.e=some p)(hb:b.ev X.e=some q):∃(k:IntKind) (i:Nat) (k':IntKind) (n:Int),p= .v (.int k i)/\ q= .v (.int k' n)/\ i<n/\ y.ev X.e=some (.v (.int k i)):=by
 obtain⟨u,h1,h2⟩:=gm h ha hb;simp[RF.ev] at h1;split at h1
 .rename_i k i k' n e;obtain⟨hc,rfl⟩:=dg h1;obtain⟨j,rfl⟩:∃j:Nat,i=j:=⟨i.toNat,by omega⟩
  grind
 .cases h1
def nD {a:A}(h:n7 a=true):a= .c (.i64 0):=by
 unfold n7 at h
 grind
def f7 {a b:Nat}(h:(some (PV.i64 (a:Int)):Option PV)=some (.i64 (b:Int))):a=b:=by
 grind
def Ik {t elem:TypeId}{z:Nat}(hu:P.underlying t=some (.slice elem))(hz:szT P elem=some z){B o n cap i:Nat}{k:IntKind}(h:i<n):(Instr.indexAt t (.slice (some ⟨B,o,none⟩) n cap) (.int k i)).run P X.w= .ok (.pointer (some ⟨B,o+i*z,none⟩)) X.w:=by
 simp[Instr.indexAt,asIntOf,run_underlying hu,h,run_sizeOf hz,add_plain]
def Il (hm:MR X base L){t:TypeId}{c d:SC}{v u:Value}(hv:CR X v c)(hu:CR X u d):Sp X.e (vI P X.σ t c d) λc=>SwR P X (Instr.indexAt t v u) (.c c):=by
 have tree:∀{elem:TypeId} {z:Nat} {l:A} {p:PV},P.underlying t=some (.slice elem)->szT P elem=some z->l.ev X.e=some p->X.T v p->Sp X.e (EM.bind (eQ d) λi=>EM.bind (emit (.tix z) [l,i]) λj=>EM.ret (SC.tp l j 0)) λc=>SwR P X (Instr.indexAt t v u) (.c c):=by
  intro elem z l p hut hz hl hp;refine Sp.bind (dE hu) λi ⟨q,i1,_,i3⟩=>Sp.bind Sp.emit λj hj=>?_;obtain⟨r,h1,h2⟩:=gm hj hl i1;simp only[RF.ev] at h1;split at h1
  .rename_i els k n e;cases e;obtain⟨h0,h1⟩:=Sf h1;obtain⟨m,rfl⟩:∃m:Nat,n=m:=⟨n.toNat,by omega⟩;rw[aF] at h1;split at h1
   .rename_i row hr;obtain⟨hlen,rfl⟩:=dg h1;have:=iM i3;subst this;have hlt:=(aD.1 hr).1;cases hp with
    |nil h=>simp at hlt
    | @sl B o n cap z' arr ty fz _ hS hg hz' hn hc hrow he=>
     have hzz:=(hrow row (au hr)).1;subst hzz;subst hlen;refine .ret ⟨_,Ik hut hz (by omega),.c ?_⟩;have:=Dk (vs:=arr.toList.drop o) (n:=n*row.length) (k:=m) hrow.l he hr;rw[gz] at this;exact .tp (o:=0) hl h2 hr hS hg this
   .cases h1
  .cases h1
 have arr:∀{len z:Nat} {elem:TypeId} {B o:Nat} {i:Int} {kk:IntKind},P.underlying t=some (.array len elem)->szT P elem=some z->decide (0<=i/\ i<len)=true->(Instr.indexAt t (.pointer (some ⟨B,o,none⟩)) (.int kk i)).run P X.w= .ok (.pointer (some ⟨B,o+i.toNat*z,none⟩)) X.w:=λhut hz hi=>by
  have hi:=aT hi;simp[Instr.indexAt,asIntOf,run_underlying hut,hi,run_sizeOf hz,Instr.sureAddr,add_plain]
 have cst:∀{kk:IntKind} {i:Int},CR X u (.a (.c (.v (.int kk i))))->u= .int kk i:=λh=>by
  cases h with
  |a h _ r=>cases h;exact iM r
 unfold vI;split
 .rename_i elem hut;split
  .rename_i z hz;split
   .rename_i b o n;split
    .rename_i l nl z' fz hl;split
     .rename_i hb;have:=i6 hb;subst this;cases hv with
      |lsl hbm h1 h=>
       obtain⟨oi,ni,Ln,e1,e2,e3,e4,e5⟩:=h _ _ (hm.kd _ _ hl);refine Sp.bind (dE hu) λi ⟨q,i1,_,i3⟩=>Sp.bind Sp.emit λj hj=>?_;obtain⟨k,ix,k',nn,rfl,eq,hlt,j1⟩:=VK hj i1 e2;cases eq;have:=iM i3;subst this;rcases e5 with⟨B,lim,cap,f1,rfl,f2,f3⟩|⟨rfl,_,_⟩
       .have run:=Ik (X:=X) hut hz (B:=B) (o:=oi*z) (cap:=cap) (k:=k) (show ix<ni by omega)
        split
        .rename_i ho;have:=nD ho;subst this;have:oi=0:=f7 (a:=oi) (b:=0) e1.symm;subst this;exact .ret ⟨_,run,.c (.ep hbm j1 λnl z hl'=>by cases(hm.kd _ _ hl).symm.trans hl';exact⟨⟨_,f1⟩,by simp⟩)⟩
        .refine Sp.bind Sp.emit λj' hj'=>?_;obtain⟨r,g1,g2⟩:=gm hj' e1 j1;cases g1;refine .ret ⟨_,run,.c (.ep (kk:= .i64) (k:=oi+ix) hbm (by rw[g2];simp) λnl z hl'=>?_)⟩;cases(hm.kd _ _ hl).symm.trans hl';exact⟨⟨_,f1⟩,by rw[b6];omega⟩
       .omega
     .exact .fail
    .exact .fail
   .cases hv with
    |a h _ r=>exact tree hut hz h r
   .cases hv with
    |pc h ha hi r=>
     refine Sp.bind Sp.emit λy hy=>?_;obtain⟨u',h1,h2⟩:=ik hy h;simp only[RF.ev] at h1;rw[hi] at h1;cases h1;exact tree hut hz h2 r
   .exact .fail
  .exact .fail
 .rename_i len elem hut;split
  .rename_i z hz;split
   .cases hv with
    |ptr hb h=>
     split
     .split
      .rename_i hi;have:=cst hu;subst this;exact .ret ⟨_,arr hut hz hi,.c (.ptr hb h)⟩
      .exact .fail
     .exact .fail
   .cases hv with
    |ep hb hi' h=>
     split
     .split
      .rename_i hi;have:=cst hu;subst this;exact .ret ⟨_,arr hut hz hi,.c (.ep hb hi' λnl z hl=>⟨(h nl z hl).1,by rw[(h nl z hl).2,dG]⟩)⟩
      .exact .fail
     .exact .fail
   .cases hv with
    |tp hl hi' hr hS hg he=>
     split
     .split
      .rename_i hi;have:=cst hu;subst this;exact .ret ⟨_,arr hut hz hi,.c (by rw[dG];exact .tp hl hi' hr hS hg he)⟩
      .exact .fail
     .exact .fail
   .exact .fail
  .exact .fail
 .exact .fail
def Bd (o:Option Value)(d h lim:Nat):Prop:=(o=none/\ h=d)\/∃k,o=some (.int k h)/\ h<=lim
def OR (X:Cx)(o:Option Value)(c:Option SC):Prop:=(o=none/\ c=none)\/∃v x,o=some v/\ c=some x/\ CR X v x
def kn {d y:A}{c:Option SC}{o:Option Value}{dv:Nat}{yk:IntKind}{yv:Nat}(hc:OR X o c)(hd:d.ev X.e=some (.i64 dv))(hy:y.ev X.e=some (.v (.int yk yv))):Sp X.e (oT d y c) λa=>∃h:Nat,a.ev X.e=some (.i64 h)/\ Bd o dv h yv:=by
 rcases hc with⟨rfl,rfl⟩|⟨v,x,rfl,rfl,hv⟩
 .exact .ret ⟨dv,hd,.inl ⟨rfl,rfl⟩⟩
 .refine Sp.bind (dE hv) λa ⟨p,a1,_,a3⟩=>Sp.emit.mono λr hr=>?_;obtain⟨u,h1,h2⟩:=gm hr a1 hy;simp[RF.ev] at h1;split at h1
  .rename_i k n k' m e;cases e;obtain⟨hb,rfl⟩:=dg h1;obtain⟨j,rfl⟩:∃j:Nat,n=j:=⟨n.toNat,by omega⟩;exact⟨j,h2,.inr ⟨k,by rw[iM a3],by omega⟩⟩
  .cases h1
def nE {t elem:TypeId}{z:Nat}(hu:P.underlying t=some (.slice elem))(hz:szT P elem=some z){a:Option Addr}{len cap h l hl:Nat}{hi lo:Option Value}(h1:Bd hi len h hl)(h1':hl<=cap)(h2:Bd lo 0 l h)(w:World):
  (Instr.sliceAt t (.slice a len cap) lo hi none).run P w= .ok (.slice (if cap=l then a else a.map (·.add (l*z))) (h-l) (cap-l)) w:=by
 have e:(Instr.sliceBounds true len cap lo hi none).run P w= .ok (l,h,cap) w:=by
  rcases h1 with⟨rfl,rfl⟩|⟨k,rfl,hb⟩<;>rcases h2 with⟨rfl,rfl⟩|⟨k',rfl,hb'⟩
  .simp[Instr.sliceBounds]
  .have q:(l:Int)<=h:=by omega
   simp[Instr.sliceBounds,Instr.sliceBound,asIntOf,hb']
  .have q:h<=cap:=by omega
   simp[Instr.sliceBounds,Instr.sliceBound,asIntOf,q]
  .have q:h<=cap:=by omega
   simp[Instr.sliceBounds,Instr.sliceBound,asIntOf,q,hb']
 simp[Instr.sliceAt,Sem.run_bind,run_underlying hu,Result.andThen_ok,Instr.slice,e,run_sizeOf hz,Sem.run_pure]
def P8 {w:World}{S:Nat->Prop}{v:Value}{els:List (List PV)}(h:RT w S v (.sl els)):∃a cap,v= .slice a els.length cap/\ els.length<=cap:=by
 cases h with
 |nil hn=>rcases hn with rfl|⟨B,x,rfl⟩<;>exact⟨_,_,rfl,aB _⟩
 |sl hS hg hz' hn' hcp hrow he=>subst hn';exact⟨_,_,rfl,hcp⟩
def P9 {w:World}{S:Nat->Prop}{els:List (List PV)}{z lv hv C n cap:Nat}{a:Option Addr}(h:RT w S (.slice a n cap) (.sl els))(hok:ec z els=true)(hle:lv<=hv)(hvl:hv<=els.length)(hC:hv<=C)(h0:cap=0->C=0):RT w S (.slice (if C=lv then a else a.map (·.add (lv*z))) (hv-lv) (C-lv)) (.sl ((els.drop lv).take (hv-lv))):=by
 cases h with
 |nil hn=>
  have hC0:C=0:=by
   rcases hn with e|⟨B,x,e⟩
   .cases e;exact h0 rfl
   .cases e;exact h0 rfl
  simp only[cL] at hvl;have e1:hv=0:=by omega
  have e2:lv=0:=by omega
  subst e1;subst e2;subst hC0;rcases hn with e|⟨B,x,e⟩
  .cases e;exact .nil (.inl rfl)
  .cases e;exact .nil (.inr ⟨B,x,rfl⟩)
 | @sl B o n cap z' arr ty fz _ hS hg hz' hn' hcp hrow he=>
  subst hn';by_cases hcl:C=lv
  .rw[ad hcl,show hv-lv=0 by omega,show C-lv=0 by omega,gA]
   exact .nil (.inr ⟨B,o,rfl⟩)
  .rw[ac hcl];have hsub:=hrow.sub lv (hv-lv);have hlen2:((els.drop lv).take (hv-lv)).length=hv-lv:=by rw[aP,b9];omega
   have hzz:(els.drop lv).take (hv-lv)=[]\/z'=z:=by
    cases els with
    |nil=>exact .inl (by simp)
    |cons r els=>
     right
     have:r.length=z:=aT hok;rw[<-this,(hrow r (by simp)).1]
   have hadd:(some ⟨B,o,none⟩:Option Addr).map (·.add (lv*z))=some ⟨B,o+lv*z,none⟩:=by simp[add_plain]
   rw[hadd];refine .sl hS hg hz' hlen2 (by omega) hsub ?_;rcases hzz with hnil|rfl
   .have h0:hv-lv=0:=by rw[<-hlen2,hnil];rfl
    rw[hnil,h0];simpa using RTs.nil
   .have h5:=(he.f2.drop (lv*z')).take ((hv-lv)*z');have hmul:(hv-lv)*z'<=els.length*z'-lv*z':=by rw[<-Nat.sub_mul];exact cd _ (by omega)
    rw[eK,gz,dC,bG hmul] at h5;rw[lD hrow.l,jl (hrow.d _).l] at h5;exact .of h5
def Su (hm:MR X base L){t:TypeId}{c:SC}{v:Value}{lo hi:Option Value}{l h:Option SC}(hv:CR X v c)(hlo:OR X lo l)(hhi:OR X hi h):Sp X.e (HZ P X.σ t c l h) λc=>SwR P X (Instr.sliceAt t v lo hi none) (.c c):=by
 unfold HZ;split
 .rename_i elem hu;split
  .rename_i z hz;split
   .cases hv with
    |nil hn=>
     refine Sp.bind (kn (dv:=0) (yv:=0) hhi rfl rfl) λha ⟨hh,h1,h2⟩=>Sp.bind (kn (dv:=0) hlo rfl h1) λla ⟨ll,l1,l2⟩=> .ret ?_;have e1:hh=0:=by rcases h2 with⟨_,h⟩|⟨_,_,h⟩<;>omega
     have e2:ll=0:=by rcases l2 with⟨_,h⟩|⟨_,_,h⟩<;>omega
     subst e1;subst e2;rcases hn with rfl|⟨B,o,rfl⟩
     .exact⟨_,nE hu hz h2 (aB _) l2 _,.c (.nil (.inl rfl))⟩
     .exact⟨_,nE hu hz h2 (aB _) l2 _,.c (.nil (.inr ⟨B,o,rfl⟩))⟩
   .rename_i b o n;split
    .rename_i lst nl z' fz hl;split
     .rename_i hc;simp only[aH,gH] at hc;have:=i6 hc.1;subst this;cases hv with
      |lsl hbm hone hh=>
       obtain⟨oi,ni,Ln,e1,e2,e3,e4,e5⟩:=hh _ _ (hm.kd _ _ hl);have lim:∃lm:Nat,(if n7 o=true then nl else n).ev X.e=some (.i64 lm)/\ oi+lm<=Ln:=by
        split
        .rename_i ho;have:=nD ho;subst this;have:oi=0:=f7 (a:=oi) (b:=0) e1.symm;exact⟨Ln,e3,by omega⟩
        .exact⟨ni,e2,e4⟩
       obtain⟨lm,m1,m2⟩:=lim;refine Sp.bind (kn hhi e2 m1) λha ⟨hv',h1,h2⟩=>?_;have hvle:oi+hv'<=Ln:=by rcases h2 with⟨_,h⟩|⟨_,_,h⟩<;>omega
       have key:∀{lv:Nat} {o' n':A},Bd lo 0 lv hv'->lv<=hv'->o'.ev X.e=some (.i64 (oi+lv:Nat))->n'.ev X.e=some (.i64 (hv'-lv:Nat))->SwR P X (Instr.sliceAt t v lo hi none) (.c (.lsl b o' n')):=by
        intro lv o' n' hb hle k1 k2;rcases e5 with⟨B,lim,cap,f1,rfl,f2,f3⟩|⟨rfl,hn,f2⟩
        .refine⟨_,nE hu hz h2 (by omega) hb _,.c (.lsl hbm rfl λnl' z' hl'=>?_)⟩;cases(hm.kd _ _ hl).symm.trans hl';refine⟨oi+lv,hv'-lv,Ln,k1,k2,e3,by omega,?_⟩;by_cases hcl:cap=lv
         .rw[ad hcl];refine .inr ⟨by omega,.inr ⟨B,oi*z,?_⟩,by omega⟩;rw[show hv'-lv=0 by omega,show cap-lv=0 by omega]
         .rw[ac hcl];refine .inl ⟨B,lim,cap-lv,f1,?_,by omega,?_⟩
          .simp[add_plain,b6]
          .rw[show oi+lv+(cap-lv)=oi+cap by omega];exact f3
        .have e1:hv'=0:=by omega
         have e2:lv=0:=by omega
         subst e1;subst e2;rcases hn with rfl|⟨B,x,rfl⟩
         .exact⟨_,nE hu hz h2 (by omega) hb _,.c (.lsl hbm rfl λnl' z' hl'=>by cases(hm.kd _ _ hl).symm.trans hl';exact⟨oi,0,Ln,k1,k2,e3,by omega,.inr ⟨rfl,.inl rfl,f2⟩⟩)⟩
         .exact⟨_,nE hu hz h2 (by omega) hb _,.c (.lsl hbm rfl λnl' z' hl'=>by cases(hm.kd _ _ hl).symm.trans hl';exact⟨oi,0,Ln,k1,k2,e3,by omega,.inr ⟨rfl,.inr ⟨B,x,rfl⟩,f2⟩⟩)⟩
       split
       .rename_i hlo';rcases hlo with⟨rfl,_⟩|⟨_,_,_,e,_⟩
        .exact .ret (key (lv:=0) (.inl ⟨rfl,rfl⟩) (cV _) e1 h1)
        .cases e
       .rename_i lc;refine Sp.bind (kn (dv:=0) hlo rfl h1) λla ⟨lv,l1,l2⟩=>Sp.bind Sp.emit λo' ho'=>Sp.bind Sp.emit λn' hn'=>?_;have hle:lv<=hv':=by rcases l2 with⟨_,h⟩|⟨_,_,h⟩<;>omega
        obtain⟨r,g1,g2⟩:=gm ho' e1 l1;obtain⟨r',g3,g4⟩:=gm hn' h1 l1;cases g1;cases g3;exact .ret (key l2 hle (by rw[g2];simp) (by rw[g4];congr 3;omega))
     .exact .fail
    .exact .fail
   .refine Sp.bind (dE hv) λs ⟨p,s1,_,s3⟩=>Sp.bind Sp.emit λn hn=>?_;obtain⟨els,rfl,n1⟩:=gu hn s1;refine Sp.bind (kn hhi n1 n1) λha ⟨hv',h1,h2⟩=>Sp.bind (kn (dv:=0) hlo rfl h1) λla ⟨lv,l1,l2⟩=>Sp.bind Sp.emit λr hr=>?_;have hle:lv<=hv':=by rcases l2 with⟨_,h⟩|⟨_,_,h⟩<;>omega
    have hvl:hv'<=els.length:=by rcases h2 with⟨_,h⟩|⟨_,_,h⟩<;>omega
    obtain⟨u,g1,g2⟩:=jJ hr s1 l1 h1;simp only[RF.ev,aF] at g1;obtain⟨⟨_,_,_,hok,hz0⟩,rfl⟩:=dg g1;obtain⟨a,cap,rfl,hcp⟩:=P8 s3;exact .ret ⟨_,nE hu hz h2 hcp l2 _,.c (.a g2 rfl (P9 s3 hok hle hvl (by omega) id))⟩
  .exact .fail
 .exact .fail
def Qa (hm:MR X base L){t:TypeId}{c hc mc:SC}{v vh vm:Value}{lo:Option Value}{l:Option SC}(hv:CR X v c)(hlo:OR X lo l)(hh:CR X vh hc)(hmx:CR X vm mc):Sp X.e (Cg P X.σ t c l hc mc) λc=>SwR P X (Instr.sliceAt t v lo (some vh) (some vm)) (.c c):=by
 unfold Cg;split
 .rename_i elem hu;split
  .rename_i z hz;split
   .rename_i b o n;split
    .rename_i lst nl z' fz hl;split
     .cases hv with
      |lsl hbm hone hx=>
       obtain⟨oi,ni,Ln,e1,e2,e3,e4,e5⟩:=hx _ _ (hm.kd _ _ hl);refine Sp.bind (kn (.inr ⟨vm,mc,rfl,rfl,hmx⟩) e2 e2) λma ⟨mv,m1,m2⟩=>Sp.bind (kn (.inr ⟨vh,hc,rfl,rfl,hh⟩) m1 m1) λha ⟨hv',h1,h2⟩=>Sp.bind (kn (dv:=0) hlo rfl h1) λla ⟨lv,l1,l2⟩=> .ret ?_;have hcap:∃a cap,v= .slice a ni cap/\ ni<=cap:=by
        rcases e5 with⟨B,lim,cap,_,rfl,_,_⟩|⟨rfl,rfl|⟨B,x,rfl⟩,_⟩
        .grind
        .grind
        .grind
       obtain⟨a,cap,rfl,hcap⟩:=hcap;have e:(Instr.sliceBounds true ni cap lo (some vh) (some vm)).run P X.w= .ok (lv,hv',mv) X.w:=by
        rcases m2 with⟨e,_⟩|⟨k1,e,q1⟩
        .cases e
        cases e;rcases h2 with⟨e,_⟩|⟨k2,e,q2⟩
        .cases e
        cases e;have q3:mv<=cap:=by omega
        rcases l2 with⟨rfl,rfl⟩|⟨k',rfl,hb'⟩
        .simp[Instr.sliceBounds,Instr.sliceBound,asIntOf,q2,q3]
        .simp[Instr.sliceBounds,Instr.sliceBound,asIntOf,q2,q3,hb']
       refine⟨.slice (if mv=lv then a else a.map (·.add (lv*z))) (hv'-lv) (mv-lv),?_,.c (.un rfl)⟩
       simp only[Instr.sliceAt,Sem.run_bind,run_underlying hu,Result.andThen_ok,Instr.slice,e,run_sizeOf hz,Sem.run_pure]
     .exact .fail
    .exact .fail
   .refine Sp.bind (dE hv) λs ⟨p,s1,_,s3⟩=>Sp.bind Sp.emit λn hn=>?_;obtain⟨els,rfl,n1⟩:=gu hn s1;refine Sp.bind (kn (.inr ⟨vm,mc,rfl,rfl,hmx⟩) n1 n1) λma ⟨mv,m1,m2⟩=>Sp.bind (kn (.inr ⟨vh,hc,rfl,rfl,hh⟩) m1 m1) λha ⟨hv',h1,h2⟩=>Sp.bind (kn (dv:=0) hlo rfl h1) λla ⟨lv,l1,l2⟩=>Sp.bind Sp.emit λr hr=>?_;obtain⟨a,cap,rfl,hcp⟩:=P8 s3;rcases m2 with⟨e,_⟩|⟨k1,e,q1⟩
    .cases e
    cases e;rcases h2 with⟨e,_⟩|⟨k2,e,q2⟩
    .cases e
    cases e;have q3:mv<=cap:=by omega
    have hle:lv<=hv':=by rcases l2 with⟨_,h⟩|⟨_,_,h⟩<;>omega
    have e:(Instr.sliceBounds true els.length cap lo (some (.int k2 hv')) (some (.int k1 mv))).run P X.w= .ok (lv,hv',mv) X.w:=by
     rcases l2 with⟨rfl,rfl⟩|⟨k',rfl,hb'⟩
     .simp[Instr.sliceBounds,Instr.sliceBound,asIntOf,q2,q3]
     .simp[Instr.sliceBounds,Instr.sliceBound,asIntOf,q2,q3,hb']
    obtain⟨u,g1,g2⟩:=jJ hr s1 l1 h1;simp only[RF.ev,aF] at g1;obtain⟨⟨_,_,_,hok,hz0⟩,rfl⟩:=dg g1;refine .ret ⟨.slice (if mv=lv then a else a.map (·.add (lv*z))) (hv'-lv) (mv-lv),?_,.c (.a g2 rfl (P9 s3 hok hle (by omega) (by omega) (by omega)))⟩
    simp only[Instr.sliceAt,Sem.run_bind,run_underlying hu,Result.andThen_ok,Instr.slice,e,run_sizeOf hz,Sem.run_pure]
  .exact .fail
 .exact .fail
end
section
variable {X:Cx}{P:Program}{base:Nat}{L:Nat->Prop}
def El (P:Program)(X:Cx)(u:Value)(els:List (List PV)):Prop:=∀size,ec size els=true->∃a c vs,u= .slice a els.length c/\(∀w',w'.heap=X.w.heap->∀k,k<=els.length->(Builtin.firstCells size k u).run P w'= .ok (vs.take (k*size)).toArray w')/\ F2 X.T vs els.flatten/\ Rw size els
def El.all {u:Value}{els:List (List PV)}(h:El P X u els)(size:Nat)(hok:ec size els=true):∃a c vs,u= .slice a els.length c/\(∀w',w'.heap=X.w.heap->(Builtin.firstCells size els.length u).run P w'= .ok vs.toArray w')/\ F2 X.T vs els.flatten/\ Rw size els:=by
 obtain⟨a,c,vs,h1,h2,h3,h4⟩:=h size hok;refine⟨a,c,vs,h1,λw' hw=>?_,h3,h4⟩;have hl:=h3.len;rw[gt h4.l] at hl;rw[h2 w' hw _ (aB _),bk (by omega)]
def Im {u:Value}(h:ij u):El P X u []:=λsize _=>by
 have k0:∀k:Nat,k<=([]:List (List PV)).length->k=0:=λk h=>by simpa using h
 rcases h with rfl|⟨b,o,rfl⟩
 .exact⟨none,0,[],rfl,λw' _ k hk=>by cases k0 k hk;simp[Builtin.firstCells],.nil,λr h=>by cases h⟩
 .exact⟨_,0,[],rfl,λw' _ k hk=>by cases k0 k hk;simp[Builtin.firstCells,loadCells,loadCellsFrom],.nil,λr h=>by cases h⟩
def Qb {B o n cap z:Nat}{arr:Array Value}{ty:TypeId}{fz:Nat×Nat}{els:List (List PV)}(hg:X.w.heap[B]?=some (.cells arr ty fz))(hn:els.length=n)(hr:Rw z els)(he:RTs X.w X.S ((arr.toList.drop o).take (n*z)) els.flatten):
  El P X (.slice (some ⟨B,o,none⟩) n cap) els:=λsize hok=>by
 subst hn;cases els with
 |nil=>exact⟨_,cap,[],rfl,λw' _ k hk=>by
  have:k=0:=by simpa using hk
  subst this;simp[Builtin.firstCells,loadCells,loadCellsFrom],.nil,λr h=>by cases h⟩
 |cons r els=>
  have hs:r.length=size:=aT hok;have hz:=(hr r (by simp)).1;have:z=size:=by omega
  subst this;have hl:=he.f2.len;rw[gt hr.l,aP,b9] at hl;refine⟨_,cap,_,rfl,λw' hw k hk=>?_,he.f2,hr⟩;have hg':w'.heap[B]?=some (.cells arr ty fz):=by rw[hw];exact hg
  have hm:k*z<=(r::els).length*z:=cd _ hk;simp only[Builtin.firstCells];rw[dC,bG hm];rcases Nat.eq_zero_or_pos (k*z) with h0|hpos
  .rw[h0,gA];simp[loadCells,loadCellsFrom]
  .exact xI hg' o _ (by rw[<-dh];omega)
def acq {u:Value}{p:PV}{els:List (List PV)}(h:X.T u p)(e:p= .sl els):El P X u els:=by
 cases h with
 |v _=>cases e
 |nil h=>cases e;exact Im h
 |sl hS hg hz hn hc hr he=>cases e;exact Qb hg hn hr he
 |agg _ _=>cases e
def Dp (hm:MR X base L){c:SC}{u:Value}(h:CR X u c):Sp X.e (A6 X.σ c) λa=>∃p,a.ev X.e=some p/\∀els,p= .sl els->El P X u els:=by
 unfold A6;cases h with
 |a h ht r=>exact .ret ⟨_,h,λels e=>acq r e⟩
 | @pc x i _ _ _ h ha hi r=>
  simp only[lB];refine Sp.bind (Sp.bind Sp.emit λy hy=> .ret (Q:=λ(q:A×List Nat)=>mP X.e (.cell i) [x] q.1) hy) λq hy=>?_;obtain⟨u',h1,h2⟩:=ik hy h;simp only[RF.ev] at h1;rw[hi] at h1;cases h1;exact .ret ⟨_,h2,λels e=>acq r e⟩
 |nil h=>exact .ret ⟨_,rfl,λels e=>by cases e;exact Im h⟩
 | @lsl b o n v hb h1 h=>
  simp only[lB];split
  .rename_i l nl z fz hl;refine Sp.bind (Sp.bind Sp.emit λy hy=> .ret (Q:=λ(q:A×List Nat)=>mP X.e .sub [l,o,n] q.1) hy) λq hy=> .ret ?_;obtain⟨oi,ni,Ln,e1,e2,e3,e4,e5⟩:=h _ _ (hm.kd _ _ hl);obtain⟨hz,els,k1,k2,k3,k4⟩:=hm.bl b _ hl;rw[e3] at k2;have:=f7 k2;subst this;obtain⟨u,q1,q2⟩:=jJ hy k1 e1 e2;obtain⟨_,rfl⟩:=dg q1;simp only[aF] at q2;refine⟨_,q2,λels' e=>?_⟩;cases e;rcases e5 with⟨B,lim,cap,f1,rfl,f2,f3⟩|⟨rfl,hv,_⟩
   .rcases k4 with⟨_,k4⟩|⟨B',arr,k4,⟨ty,fz',hg,_⟩,k6⟩
    .rw[f1] at k4;cases k4
    .rw[f1] at k4;cases k4;refine Qb hg (by rw[aP,b9];omega) (k3.sub _ _) ?_;have h5:=((RTs.f2 k6).drop (oi*z)).take (ni*z);rw[lD k3.l,jl (k3.d _).l,eK,dC] at h5;rw[bG (by have:=cd z e4;rw[b6] at this;omega)] at h5;exact .of h5
   .rw[gA];exact Im hv
  .exact .fail
 |_=>exact .fail
def fi (w:World)(need old elem:Nat):Nat:=(Question.appendCap need old elem).cut (w.tape w.drawn (.appendCap need old elem))
section
variable {st xt ty elem:TypeId}{i:TypeInfo}{zv:Value}(hu:P.underlying st=some (.slice elem))(hx:∃e,P.underlying xt=some (.slice e))(hi:P.info? elem=some i)
include hu hx hi
theorem MF {u:Value}{n:Nat}{vs:List Value}{ua:Option Addr}{uc:Nat}(hl:u= .slice ua n uc){w w':World}(hf:(Builtin.firstCells i.size n u).run P w= .ok vs.toArray w)(g o len cap:Nat)(hroom:len+n<=cap)
  (hst:(storeCells ⟨g,o+len*i.size,none⟩ vs).run P w= .ok () w'):(Builtin.append_ #[st,xt] ty #[.slice (some ⟨g,o,none⟩) len cap,u]).run P w= .ok (.slice (some ⟨g,o,none⟩) (len+n) cap) w':=by
 obtain⟨e,hx⟩:=hx;subst hl;simp[Builtin.append_,run_underlying hu,run_underlying hx,Go.sizeOf,typeInfo,hi,Builtin.lenOf,hroom,hf,add_plain,hst]
theorem In {u:Value}{ua:Option Addr}{uc:Nat}(hl:u= .slice ua 0 uc){w:World}(hf:(Builtin.firstCells i.size 0 u).run P w= .ok #[] w){v:Value}(hv:ij v):(Builtin.append_ #[st,xt] ty #[v,u]).run P w= .ok v w:=by
 obtain⟨e,hx⟩:=hx;subst hl;rcases hv with rfl|⟨b,o,rfl⟩<;>simp[Builtin.append_,run_underlying hu,run_underlying hx,Go.sizeOf,typeInfo,hi,Builtin.lenOf,hf,storeCells]
theorem xN (hz:i.zero=some zv){u:Value}{n:Nat}{vs:List Value}{ua:Option Addr}{uc:Nat}(hl:u= .slice ua n uc){w:World}(hf:∀w':World,w'.heap=w.heap->(Builtin.firstCells i.size n u).run P w'= .ok vs.toArray w')(a:Option Addr)(len cap:Nat)(hroom:cap<len+n)(hb:(len+n)*i.bytes<=140737488355328)
  (hbp:0<i.bytes) {olds:List Value} (hold:∀w':World,w'.heap=w.heap->(Builtin.firstCells i.size len (.slice a len cap)).run P w'= .ok olds.toArray w'):
  (Builtin.append_ #[st,xt] ty #[.slice a len cap,u]).run P w=
   .ok (.slice (some ⟨w.heap.size,0,none⟩) (len+n) (fi w (len+n) cap elem)) (w.drew.alloc (.cells (olds.toArray++vs.toArray++Builtin.zeroCells zv.cells (fi w (len+n) cap elem-(len+n))) elem)):=by
 obtain⟨e,hx⟩:=hx;have hfit:=growslice_fits hroom hb;have hn:¬(len+n<=cap):=by omega
 have hle:(len+n)*1<=(len+n)*i.bytes:=oF _ hbp;have h63':¬(9223372036854775807<((len:Int)+(n:Int))):=by omega
 have h48':¬(281474976710656<Builtin.nextslicecap (len+n) cap*i.bytes):=by omega
 have ho:=hold w.drew rfl;subst hl;simp[Builtin.append_,run_underlying hu,run_underlying hx,Go.sizeOf,typeInfo,zeroValue,hi,hz,Builtin.lenOf,hn,h63',h48',Question.forced,hf w.drew rfl,ho,newRow,fi]
 congr 2
 apply Array.ext';simp[bc]
end
def tF (w:World)(need old elem:Nat):need<=fi w need old elem:=by
 unfold fi;simp only[Question.cut];omega
def grownCap_le (w:World)(need old elem:Nat)(h:need<=140737488355328):fi w need old elem<=9223372036854775807:=by
 have hlt:=wI (w.tape w.drawn (.appendCap need old elem)) (show 0<2^ 63-need by omega)
 simp only[fi,Question.cut];omega
def Io (hm:MR X base L)(hN:X.σ.nb<X.N){v:Value}(hv:ij v){z:Nat}(hz:0<z){l nl n:A}(hl:l.ev X.e=some (.sl []))(hnl:nl.ev X.e=some (.i64 0))(hn:n.ev X.e=some (.i64 0)):
  CR (X.nw X.w none (.lst l nl z false)) v (.lsl X.σ.nb (.c (.i64 0)) n)/\ Nx X base L (X.nw X.w none (.lst l nl z false)):=by
 refine⟨.lsl (.inr rfl) ?_ λnl' z' h=>?_,Bj hm hN rfl (λ_ _ h=>by cases h) .refl λsx=>⟨hz,[],hl,hnl,(λr h=>by cases h),.inl ⟨rfl,upR_self⟩⟩⟩
 .rcases hv with rfl|⟨_,_,rfl⟩<;>rfl
 .cases upR_self.symm.trans h;exact⟨0,0,0,rfl,hn,hnl,by omega,.inr ⟨rfl,hv,by omega⟩⟩
def Dq (hm:MR X base L)(hN:X.σ.nb<X.N){v:Value}(hv:ij v){z:Nat}(hz:0<z){l nl n:A}(hl:l.ev X.e=some (.sl []))(hnl:nl.ev X.e=some (.i64 0))(hn:n.ev X.e=some (.i64 0)):
  ∃X',X'.w=X.w/\ VR X' v (.w (.c (.lsl X.σ.nb (.c (.i64 0)) n)))/\ Nx X base L X'/\ X'.σ=X.σ.new (.lst l nl z false):=
 let⟨h1,h2⟩:=Io hm hN hv hz hl hnl hn;⟨X.nw X.w none (.lst l nl z false),rfl,.w (.c h1),h2,rfl⟩
def qj (z:Array Value)(n:Nat):(Builtin.zeroCells z n).size=n*z.size:=by simp[Builtin.zeroCells]
def zK (hm:MR X base L)(hN:X.σ.nb<X.N){elem:TypeId}{olds vs:List Value}{rest:Array Value}{z cap:Nat}{els:List (List PV)}{l nl:A}(hz:0<z)(hr:Rw z els)(hl:l.ev X.e=some (.sl els))(hn:nl.ev X.e=some (.i64 els.length))
  (he:F2 X.T (olds++vs) els.flatten) (hc:els.length<=cap/\ cap<=9223372036854775807) (hrest:rest.size=(cap-els.length)*z):
  ∃X',X'.w=X.w.drew.alloc (.cells (olds.toArray++vs.toArray++rest) elem)/\ VR X' (.slice (some ⟨X.w.heap.size,0,none⟩) els.length cap) (.w (.c (.lsl X.σ.nb (.c (.i64 0)) nl)))/\ Nx X base L X'/\ X'.σ=X.σ.new (.lst l nl z false):=by
 have hlen:=he.len;rw[gt hr.l,aC] at hlen;refine Cr (cap:=cap) hm hN (But.drew.trans (.alloc _)) (rL X.w.drew _) hz hr hl hn ?_ hc ?_
 .have:(olds.toArray++vs.toArray++rest).toList.take (els.length*z)=olds++vs:=by
   simp only[Array.toList_append,List.toList_toArray];rw[eU (by rw[aC];omega),bk (by rw[aC];omega)]
  rw[this];exact .of he
 .simp only[Array.size_append,ga,hrest];have:cap*z=els.length*z+(cap-els.length)*z:=by rw[<-b6];congr 1;omega
  omega
def oW {f:RF}{bytes z:Nat}(hf:f= .app bytes z\/f= .appK bytes z){l n y r:A}{els0:List (List PV)}{ni:Nat}{p:PV}(h:mP X.e f [l,n,y] r)(hl:l.ev X.e=some (.sl els0))(hn:n.ev X.e=some (.i64 ni))(hy:y.ev X.e=some p)(hfull:f= .app bytes z->ni=els0.length):
  ∃els,p= .sl els/\ ni<=els0.length/\(ni+els.length)*bytes<=140737488355328/\ ec z els=true/\ r.ev X.e=some (.sl (els0.take ni++els++els0.drop (ni+els.length))):=by
 obtain⟨u,h1,h2⟩:=jJ h hl hn hy;rcases hf with rfl|rfl<;>simp only[RF.ev] at h1<;>split at h1<;>try (cases h1;done)
 .rename_i e;cases e;obtain⟨⟨_,c1,c2,c3⟩,rfl⟩:=dg h1;simp only[aF] at c2 h2;refine⟨_,rfl,by omega,c2,c3,?_⟩;rw[dx (by have:=hfull rfl;omega),aZ];exact h2
 .rename_i e;cases e;obtain⟨⟨_,c1,c2,c3⟩,rfl⟩:=dg h1;simp only[aF] at c2 h2;exact⟨_,rfl,by omega,c2,c3,h2⟩
def Sv {a b y:A}{m n:Nat}(h:mP X.e .sum [a,b] y)(ha:a.ev X.e=some (.i64 m))(hb:b.ev X.e=some (.i64 n)):y.ev X.e=some (.i64 (m+n:Nat)):=by
 obtain⟨u,h1,h2⟩:=gm h ha hb;cases h1;rw[h2];simp
section
variable {st xt ty elem:TypeId}{i:TypeInfo}{z:List PV}(hu:P.underlying st=some (.slice elem))(hx:∃e,P.underlying xt=some (.slice e))(hi:P.info? elem=some i)(hz:nY P elem=some z)(hzl:z.length=i.size)(hpos:0<i.size)(hbp:0<i.bytes)
include hu hx hi hz hzl hpos hbp
theorem J8 (hm:MR X base L)(hN:X.σ.nb<X.N){v u:Value}{els:List (List PV)}{l n nl:A}(hv:ij v)(hel:El P X u els)(hok:ec i.size els=true)(hb:els.length*i.bytes<=140737488355328)(hl:l.ev X.e=some (.sl els))(hn:n.ev X.e=some (.i64 els.length))(hnl:nl.ev X.e=some (.i64 els.length)):
  ∃v' X',(Builtin.append_ #[st,xt] ty #[v,u]).run P X.w= .ok v' X'.w/\ VR X' v' (.w (.c (.lsl X.σ.nb (.c (.i64 0)) n)))/\ Nx X base L X'/\ X'.σ=X.σ.new (.lst l nl i.size false):=by
 obtain⟨a,c,vs,rfl,hf,hvs,hr⟩:=hel.all _ hok;obtain⟨zv,hzv,q1,q2,q3⟩:=lE hz;have hzero:i.zero=some zv:=by unfold nX at hzv;rw[hi] at hzv;simpa using hzv
 cases els with
 |nil=>
  have:vs=[]:=by cases hvs;rfl
  subst this;obtain⟨X',w1,w2,w3,w4⟩:=Dq hm hN hv hpos hl hnl hn;exact⟨v,X',by rw[w1];exact In hu hx hi rfl (hf _ rfl) hv,w2,w3,w4⟩
 |cons r els=>
  have hcap:=tF X.w (r::els).length 0 elem;have hg:∃X',X'.w=_/\ VR X' _ (.w (.c (.lsl X.σ.nb (.c (.i64 0)) nl)))/\ _/\ _:=zK hm hN (elem:=elem) (olds:=[]) (vs:=vs) (rest:=Builtin.zeroCells zv.cells (fi X.w (r::els).length 0 elem-(r::els).length)) hpos hr hl hnl hvs ⟨hcap,grownCap_le _ _ _ _ (bz (ml _ hbp) (by simpa using hb))⟩ (by rw[qj,q1,hzl])
  obtain⟨X',w1,w2,w3,w4⟩:=hg;have run:∀(ao:Option Addr),(∀w':World,w'.heap=X.w.heap->(Builtin.firstCells i.size 0 (.slice ao 0 0)).run P w'= .ok #[] w')->(Builtin.append_ #[st,xt] ty #[.slice ao 0 0,.slice a (r::els).length c]).run P X.w= .ok (.slice (some ⟨X.w.heap.size,0,none⟩) (r::els).length (fi X.w (r::els).length 0 elem)) X'.w:=by
   intro ao ho;have:=xN hu hx hi (ty:=ty) hzero rfl hf ao 0 0 (by simp) (by simpa using hb) hbp (olds:=[]) ho
   rw[w1];simpa using this
  have w2':VR X' (.slice (some ⟨X.w.heap.size,0,none⟩) (r::els).length (fi X.w (r::els).length 0 elem)) (.w (.c (.lsl X.σ.nb (.c (.i64 0)) n))):=by
   cases w2.inv.inv with
   |lsl h1 h2 h3=>exact .w (.c (.lsl h1 h2 λnl' z' h=>by
    obtain⟨oi,ni,Ln,e1,e2,e3⟩:=h3 nl' z' h;rw[w3.sx.ev hnl] at e2;cases e2;exact⟨oi,_,Ln,e1,w3.sx.ev hn,e3⟩))
  refine⟨_,X',?_,w2',w3,w4⟩;rcases hv with rfl|⟨B,o,rfl⟩
  .exact run none λw' _=>by simp[Builtin.firstCells]
  .exact run _ λw' _=>by simp[Builtin.firstCells,loadCells,loadCellsFrom]
omit hx in
theorem Sw (hit:∃k,P.underlying xt=some (.int k))(hm:MR X base L)(hN:X.σ.nb<X.N){v:Value}{n:Nat}{k:IntKind}{l nl:A}(hv:ij v)(hb:n*i.bytes<=140737488355328)(hl:l.ev X.e=some (.sl (List.replicate n z)))(hnl:nl.ev X.e=some (.i64 n)):
  ∃v' X',(Builtin.append_ #[st,xt] ty #[v,.int k n]).run P X.w= .ok v' X'.w/\ VR X' v' (.w (.c (.lsl X.σ.nb (.c (.i64 0)) nl)))/\ Nx X base L X'/\ X'.σ=X.σ.new (.lst l nl i.size false):=by
 obtain⟨kk,hit⟩:=hit;obtain⟨zv,hzv,q1,q2,q3⟩:=lE hz;have hzero:i.zero=some zv:=by unfold nX at hzv;rw[hi] at hzv;simpa using hzv
 have hle:n*1<=n*i.bytes:=oF _ hbp;have hwn:IntKind.i64.wrap (n:Int)=n:=by simp[IntKind.wrap,IntKind.bits,IntKind.signed];omega
 cases n with
 |zero=>
  obtain⟨X',w1,w2,w3,w4⟩:=Dq hm hN hv hpos hl hnl hnl;refine⟨v,X',?_,w2,w3,w4⟩;rw[w1];have hw0:IntKind.i64.wrap 0=0:=rfl;rcases hv with rfl|⟨b,o,rfl⟩<;>simp[Builtin.append_,run_underlying hu,run_underlying hit,Go.sizeOf,typeInfo,hi,asInt,asIntOf,hw0,storeCells]
 |succ n=>
  have hcap:=tF X.w (n+1) 0 elem;have hzs:=rO zv.cells (n+1);have hzl':zv.cells.size=i.size:=q1.trans hzl;have hg:∃X',X'.w=_/\ VR X' _ (.w (.c (.lsl X.σ.nb (.c (.i64 0)) nl)))/\ _/\ _:=zK hm hN (elem:=elem) (olds:=[]) (vs:=(Builtin.zeroCells zv.cells (n+1)).toList) (rest:=Builtin.zeroCells zv.cells (fi X.w (n+1) 0 elem-(n+1))) (els:=List.replicate (n+1) z) (cap:=fi X.w (n+1) 0 elem) hpos (λr hr=>by rw[(eY.1 hr).2];exact⟨hzl,q2⟩) hl (by rw[aR];exact hnl) (by
   rw[aO];unfold Builtin.zeroCells;rw[hzs];exact rN (q3 X.w X.S) _) ⟨by rw[aR];exact hcap,grownCap_le _ _ _ _ (by omega)⟩ (by rw[qj,aR,hzl'])
  obtain⟨X',w1,w2,w3,w4⟩:=hg;rw[aR] at w2;refine⟨_,X',?_,w2,w3,w4⟩;rw[w1];have hfit:=growslice_fits (need:=n+1) (old:=0) (yj n) hb;have h48':¬(281474976710656<Builtin.nextslicecap (n+1) 0*i.bytes):=by simpa using hfit
  have h48:¬(281474976710656<((n+1:Nat):Int)*(i.bytes:Int)):=by
   have:((n+1:Nat):Int)*(i.bytes:Int)=(((n+1)*i.bytes:Nat):Int):=by simp
   rw[this];omega
  have hw1:IntKind.i64.wrap ((n:Int)+1)=(n:Int)+1:=by simpa using hwn
  have n0:¬((n:Int)+1<0):=by omega
  have n1:¬((n:Int)+1<=0):=by omega
  have n2:¬(9223372036854775807<(n:Int)+1):=by omega
  have n3:¬(9223372036854775807<max ((n:Int)+1) 0):=by omega
  have tn:((n:Int)+1).toNat=n+1:=by omega
  have h0:¬((n+1)*i.size=0):=Nat.ne_of_gt (Nat.mul_pos (yj n) hpos);have h48i:¬(281474976710656<((n:Int)+1)*(i.bytes:Int)):=by simpa using h48
  rcases hv with rfl|⟨b,o,rfl⟩<;>simp[Builtin.append_,run_underlying hu,run_underlying hit,Go.sizeOf,typeInfo,zeroValue,hi,hzero,asInt,asIntOf,hw1,n0,n1,n2,n3,tn,h0,h48i,h48',Question.forced,Builtin.firstCells,loadCells,loadCellsFrom,newRow,fi]
theorem VM (hm:MR X base L)(hN:X.σ.nb<X.N){b B lim cap ni:Nat}{u:Value}{l0 nl0:A}{els0 els:List (List PV)}{l n nl:A}(hlk:look X.σ.bl b=some (.lst l0 nl0 i.size false))(hρ:X.ρ b=some (B,lim))(hl0:l0.ev X.e=some (.sl els0))(hle:ni<=els0.length)(hcap:els0.length<=cap/\ cap<=9223372036854775807)(hlim:cap*i.size<=lim)
  (hel:El P X u els) (hok:ec i.size els=true) (hb:(ni+els.length)*i.bytes<=140737488355328) (hl:l.ev X.e=some (.sl (els0.take ni++els++els0.drop (ni+els.length)))) (hn:n.ev X.e=some (.i64 (ni+els.length:Nat))) (hnl:nl.ev X.e=some (.i64 (els0.take ni++els++els0.drop (ni+els.length)).length)):
  ∃v' X',(Builtin.append_ #[st,xt] ty #[.slice (some ⟨B,0,none⟩) ni cap,u]).run P X.w= .ok v' X'.w/\ VR X' v' (.w (.c (.lsl X.σ.nb (.c (.i64 0)) n)))/\ Nx X base L X'/\ X'.σ=(X.σ.kill b).new (.lst l nl i.size false):=by
 obtain⟨a,c,vs,rfl,hf,hvs,hr⟩:=hel.all _ hok;obtain⟨zv,hzv,q1,q2,q3⟩:=lE hz;have hzero:i.zero=some zv:=by unfold nX at hzv;rw[hi] at hzv;simpa using hzv
 obtain⟨_,els0',k1,k2,k3,k4⟩:=hm.bl b _ hlk;rw[hl0] at k1;cases k1;have k4:=k4.resolve_left λh=>by rw[hρ] at h;cases h.2
 obtain⟨B',arr,k5,⟨tt,fz,hg,hfz⟩,k6⟩:=k4;rw[hρ] at k5;cases k5;generalize hnew:els0.take ni++els++els0.drop (ni+els.length)=new at hl hnl;have hnr:Rw i.size new:=by rw[<-hnew];exact((k3.t _).app hr).app (k3.d _)
 have hvl:=hvs.len;rw[gt hr.l] at hvl;have hal:=k6.f2.len;have hsz:arr.toList.length=arr.size:=by simp
 rw[gt k3.l,aP,hsz] at hal;have m1:ni*i.size<=els0.length*i.size:=cd _ hle;have old:F2 X.T (arr.toList.take (ni*i.size)) (els0.take ni).flatten:=by
  have:=k6.f2.take (ni*i.size);rwa [dC,bG m1,jl k3.l] at this
 by_cases hroom:ni+els.length<=cap
 ·
  have m2:(ni+els.length)*i.size<=arr.size:=bz (cd _ hroom) hlim;rw[b6] at m2;obtain⟨w',arr',r1,r2,r3,r4,r5⟩:=od (P:=P) hg hfz (ni*i.size) (vs:=vs) (by omega) (Bl hvs hr.ft);have hlen:new.length*i.size=ni*i.size+vs.length+(els0.length*i.size-(ni*i.size+vs.length)):=by
   rw[<-hnew];simp only[aC,aP,b9];rw[bG hle,b6,b6,Nat.sub_mul,b6,hvl]
  refine⟨_,X.re w' b (some (B,arr.size)) (.lst l nl i.size false),MF hu hx hi rfl (hf _ rfl) B 0 ni cap hroom (by rw[cj];exact r1),.w (.c (.lsl (.inr rfl) rfl λnl' z' h=>?_)),aeg hm hN hlk hρ rfl rfl r2 λsx=>⟨hpos,new,hl,hnl,hnr,.inr ⟨B,arr',by rw[r4];exact upR_self,⟨tt,fz,r3,by rw[r4];exact hfz⟩,?_⟩⟩,rfl⟩
  .cases upR_self.symm.trans h;refine⟨0,ni+els.length,new.length,rfl,hn,hnl,?_,.inl ⟨B,arr.size,cap,upR_self,by simp,?_,by simpa using hlim⟩⟩
   .rw[<-hnew];simp;omega
   .rw[<-hnew];simp;omega
  .have e:arr'.toList.take (new.length*i.size)=arr.toList.take (ni*i.size)++vs++(arr.toList.drop (ni*i.size+vs.length)).take (els0.length*i.size-(ni*i.size+vs.length)):=by
    rw[r5,hlen,ki,aC,aP,bG (by omega),bk (l:=arr.toList.take (ni*i.size)++vs) (by rw[aC,aP];omega)]
    congr 2;omega
   have tail:F2 X.T ((arr.toList.drop (ni*i.size+vs.length)).take (els0.length*i.size-(ni*i.size+vs.length))) (els0.drop (ni+els.length)).flatten:=by
    have:=k6.f2.drop ((ni+els.length)*i.size);rwa [lD k3.l,eK,b6,<-hvl] at this
   rw[e,<-hnew,d6,d6];exact(RTs.of ((old.append hvs).append tail)).mono sx.k
 ·
  have hd:els0.drop (ni+els.length)=[]:=dx (by omega);rw[hd,aZ] at hnew;have hnl':new.length=ni+els.length:=by rw[<-hnew];simp;omega
  have hk:=Cq hm hlk;have hcg:=tF X.w (ni+els.length) cap elem;obtain⟨X',w1,w2,w3,w4⟩:=zK (X:=X.kl b) hk.mr hN (elem:=elem) (olds:=arr.toList.take (ni*i.size)) (vs:=vs) (rest:=Builtin.zeroCells zv.cells (fi X.w (ni+els.length) cap elem-(ni+els.length))) (cap:=fi X.w (ni+els.length) cap elem) (nl:=nl) hpos hnr hl hnl (by
   rw[<-hnew,d6];exact old.append hvs) (by rw[hnl'];exact⟨hcg,grownCap_le _ _ _ _ (bz (ml _ hbp) hb)⟩) (by rw[qj,q1,hzl,hnl'])
  refine⟨.slice (some ⟨X.w.heap.size,0,none⟩) (ni+els.length) (fi X.w (ni+els.length) cap elem),X',?_,?_,hk.trans w3,w4⟩
  rotate_left
  .rw[hnl'] at w2;cases w2.inv.inv with
   |lsl h1 h2 h3=>exact .w (.c (.lsl h1 h2 λnl' z' h=>by
    obtain⟨oi,ni',Ln,e1,e2,e3,e4,e5⟩:=h3 nl' z' h;rw[w3.sx.ev (show nl.ev X.e=_ from hnl)] at e2
    have:=f7 e2;rw[hnl'] at this;subst this;exact⟨oi,_,Ln,e1,w3.sx.ev (show n.ev X.e=_ from hn),e3,e4,e5⟩))
  .rw[w1];refine xN hu hx hi hzero rfl hf (some ⟨B,0,none⟩) ni cap (by omega) hb hbp (olds:=arr.toList.take (ni*i.size)) λw' hw=>?_;have:=xI (P:=P) (w:=w') (B:=B) (by rw[hw];exact hg) 0 (ni*i.size) (by omega);rw[dP] at this;simpa [Builtin.firstCells] using this
end
def VN {t:TypeId}(h:HL P t=true):∃e,P.underlying t=some (.slice e):=by
 unfold HL at h;split at h
 .exact⟨_,by assumption⟩
 .cases h
def VO {t:TypeId}(h:R5 P t=true):∃k,P.underlying t=some (.int k):=by
 unfold R5 at h;split at h
 .exact⟨_,by assumption⟩
 .cases h
def MG (hm:MR X base L){st xt ty:TypeId}{c d:SC}{v u:Value}(hc:CR X v c)(hd:CR X u d):Sp X.e (Ch P X.σ st xt c d) (SmR P X base L (Builtin.append_ #[st,xt] ty #[v,u])):=by
 unfold Ch;split
 .rename_i elem hu;split
  .rename_i size hs;split
   .rename_i info hi;have hsz:info.size=size:=by unfold szT at hs;rw[hi] at hs;simpa using hs
    subst hsz;split
    .rename_i z hz;split
     .rename_i hcond;simp only[aH,gH] at hcond;obtain⟨⟨⟨⟨h1,_⟩,h3⟩,h4⟩,h5⟩:=hcond;have h3:=i6 h3;have hx:=VN h5;refine Sp.bind (Dp (P:=P) hm hd) λys ⟨p,y1,y2⟩=>?_;split
      .cases hc with
       |nil hn=>
        refine Sp.bind Sp.emit λl hl=>Sp.bind Sp.emit λn hnn=> .ret λhN=>?_;obtain⟨els,rfl,a1,a2,a3,a4⟩:=oW (els0:=[]) (ni:=0) (.inl rfl) hl rfl rfl y1 λ_=>rfl;simp only[qq,aO,qo,aZ,cj] at a2 a4;obtain⟨_,e,n1⟩:=gu hnn a4;cases e;exact J8 hu hx hi hz h3 h1 h4 hm hN hn (y2 _ rfl) a3 a2 a4 n1 n1
      .rename_i b o n;split
       .rename_i l0 nl z' hl0;split
        .rename_i hc2;simp only[aH] at hc2;have:=nD hc2.1;subst this;have:=i6 hc2.2;subst this;cases hc with
         |lsl hbm hone h=>
          obtain⟨oi,ni,Ln,e1,e2,e3,e4,e5⟩:=h _ _ (hm.kd _ _ hl0);have:oi=0:=(f7 (a:=0) (b:=oi) e1).symm;subst this;obtain⟨_,els0,k1,k2,k3,k4⟩:=hm.bl b _ hl0;rw[e3] at k2;have:=f7 k2;subst this;have fin:∀{els:List (List PV)} {l' n' nl':A},p= .sl els->ni<=els0.length->(ni+els.length)*info.bytes<=140737488355328->ec info.size els=true->l'.ev X.e=some (.sl (els0.take ni++els++els0.drop (ni+els.length)))->n'.ev X.e=some (.i64 (ni+els.length:Nat))->nl'.ev X.e=some (.i64 (els0.take ni++els++els0.drop (ni+els.length)).length)->
            SmR P X base L (Builtin.append_ #[st,xt] ty #[v,u]) (.w (.c (.lsl X.σ.nb (.c (.i64 0)) n')),(X.σ.kill b).new (.lst l' nl' info.size false)):=by
           intro els l' n' nl' hp a1 a2 a3 a4 a5 a6 hN;have hN:X.σ.nb<X.N:=hN;rcases e5 with⟨B,lim,cap,f1,rfl,f2,f3⟩|⟨rfl,hn,f2⟩
           .simp only[sn,cj] at f2 f3|-;exact VM hu hx hi hz h3 h1 h4 hm hN hl0 f1 k1 a1 f2 f3 (y2 _ hp) a3 a2 a4 a5 a6
           .have:els0=[]:=bJ (by omega);subst this;simp only[qq,aO,qo,aZ,cj] at a2 a4 a5 a6;have hk:=Cq hm hl0;obtain⟨v',X',r1,r2,r3,r4⟩:=J8 (X:=X.kl b) hu hx hi hz h3 h1 h4 hk.mr hN hn (y2 _ hp) a3 a2 a4 a5 a6;exact⟨v',X',r1,r2,hk.trans r3,r4⟩
          split
          .rename_i hsame;have:=uy hsame;subst this;refine Sp.bind Sp.emit λl' hl'=>Sp.bind Sp.emit λn' hn'=> .ret ?_;rw[e2] at e3;have hni:=f7 e3;obtain⟨els,hp,a1,a2,a3,a4⟩:=oW (.inl rfl) hl' k1 e2 y1 λ_=>hni;obtain⟨_,e,n1⟩:=gu hn' a4;cases e;refine fin hp a1 a2 a3 a4 ?_ n1;rw[n1];simp only[aC,aP,b9,bY,PV.v.injEq,Value.int.injEq,fJ];omega
          .refine Sp.bind Sp.emit λl' hl'=>Sp.bind Sp.emit λnl' hnl'=>Sp.bind Sp.emit λk hk=>Sp.bind Sp.emit λn' hn'=> .ret ?_;obtain⟨els,hp,a1,a2,a3,a4⟩:=oW (.inr rfl) hl' k1 e2 y1 λh=>by cases h
           obtain⟨_,e,n1⟩:=gu hnl' a4;cases e;obtain⟨_,e,n2⟩:=gu hk y1;rw[hp] at e;cases e;exact fin hp a1 a2 a3 a4 (Sv hn' e2 n2) n1
        .exact .fail
       .exact .fail
      .exact .fail
     .split
      .rename_i hcond;simp only[aH,gH] at hcond;obtain⟨⟨⟨h1,h3⟩,h4⟩,h5⟩:=hcond;have h3:=i6 h3;have hit:=VO h5;split
       .cases hc with
        |nil hn=>
         refine Sp.bind (dE hd) λa ⟨p,a1,_,a3⟩=>Sp.bind Sp.emit λr hr=>Sp.bind Sp.emit λl hl=>Sp.bind Sp.emit λn hnn=> .ret λhN=>?_;obtain⟨q,r1,r2⟩:=gm hr a1 a1;obtain⟨k,m,k',c,rfl,e,c1,_,_,_,rfl⟩:=Ih r1;cases e;have:=lF a3;subst this;obtain⟨els,b0,b1,b2,b3,b4⟩:=oW (els0:=[]) (ni:=0) (.inl rfl) hl rfl rfl r2 λ_=>rfl;cases b0;simp only[qq,aO,qo,aZ,cj] at b2 b4;obtain⟨_,e,n1⟩:=gu hnn b4;cases e;rw[aR] at b2 n1;have hm0:m=(m.toNat:Int):=by omega
         rw[hm0];exact Sw hu hi hz h3 h1 h4 hit hm hN hn b2 b4 n1
       .exact .fail
      .exact .fail
    .exact .fail
   .exact .fail
  .exact .fail
 .exact .fail
end
end Go.Sym
