import Derived.Test.YtoeigdpfcnaaeaaGreatA1
import Derived.Tactics
import Derived.Orders
import Derived.Below
import Derived.Eval
import Derived.Laws.Rows
import Derived.Laws.Append
set_option linter.unusedVariables false
set_option linter.unusedSimpArgs false
set_option linter.defProp false
noncomputable section
namespace Go.Sym
inductive PV where
 |v (x:Value)
 |sl (els:List (List PV))
 |agg (cs:List PV)
 deriving Inhabited
abbrev PV.int (k:IntKind)(n:Int):PV:= .v (.int k n)
abbrev PV.i64 (n:Int):PV:= .v (.int .i64 n)
abbrev PV.bool (b:Bool):PV:= .v (.bool b)
def PV.cells:PV->List PV
 | .agg cs=>cs
 |x=>[x]
inductive A where
 |x (i:Nat)
 |c (p:PV)
 deriving Inhabited
def A.ev (e:List PV):A->Option PV
 | .x i=>e[i]?
 | .c p=>some p
def evs (e:List PV):List A->Option (List PV)
 |[]=>some []
 |a::as=>match a.ev e with
  |some v=>match evs e as with
   |some vs=>some (v::vs)
   |none=>none
  |none=>none
def t0:PV->Bool
 | .v _| .sl _=>true
 |_=>false
inductive Ck where
 |i
 |b
 |s
 deriving Inhabited
inductive RF where
 |bin (op:BinOp)
 |bbin (op:BinOp)
 |un (op:UnOp)
 |eqv (ks:List Ck)
 |conv (k:IntKind)
 |mm (mx:Bool)
 |shape (n:Nat)
 |cell (i:Nat)
 |part (o n:Nat)
 |agg
 |len
 |ix
 |sum
 |dif
 |bnd
 |elt (o n:Nat)
 |set (o:Nat)
 |app (bytes z:Nat)
 |sub
 |bs (len:Nat) (z:List PV) (ids:List Nat)
 |rep (z:List PV) (bytes:Nat)
 |tix (z:Nat)
 |tsub (z:Nat)
 |aix (z len n:Nat)
 |mget (ks:List Ck) (z:List PV)
 |mhas (ks:List Ck)
 |mset (ks:List Ck) (z:Nat)
 |clr (z:List PV)
 |srt
 |flat
 |flatL
 |add64
 |appK (bytes z:Nat)
 deriving Inhabited
def dC (op:BinOp)(k:IntKind)(a:Int)(k':IntKind)(b:Int):Option PV:=
 match op with
 | .shl=>if b<0 then none else some (.v (.int k (k.wrap (a*2^(min b.toNat k.bits)))))
 | .shr=>if b<0 then none else some (.v (.int k (a.fdiv (2^(min b.toNat k.bits)))))
 |op=>if k=k' then match op with
  | .add=>some (.v (.int k (k.wrap (a+b))))
  | .sub=>some (.v (.int k (k.wrap (a-b))))
  | .mul=>some (.v (.int k (k.wrap (a*b))))
  | .quo=>if b=0 then none else some (.v (.int k (k.wrap (a.tdiv b))))
  | .rem=>if b=0 then none else some (.v (.int k (a.tmod b)))
  | .and=>some (.v (.int k (k.wrap (BitVec.ofInt k.bits a&&& BitVec.ofInt k.bits b).toNat)))
  | .or=>some (.v (.int k (k.wrap (BitVec.ofInt k.bits a|||BitVec.ofInt k.bits b).toNat)))
  | .xor=>some (.v (.int k (k.wrap (BitVec.ofInt k.bits a^^^ BitVec.ofInt k.bits b).toNat)))
  | .andNot=>some (.v (.int k (k.wrap (BitVec.ofInt k.bits a&&& ~~~BitVec.ofInt k.bits b).toNat)))
  | .eql=>some (.v (.bool (decide (a=b))))
  | .neq=>some (.v (.bool (!decide (a=b))))
  | .lss=>some (.v (.bool (decide (a<b))))
  | .leq=>some (.v (.bool (decide (a<=b))))
  | .gtr=>some (.v (.bool (decide (b<a))))
  | .geq=>some (.v (.bool (decide (b<=a))))
  |_=>none
  else none
def yP (op:BinOp)(a b:ByteArray):Option PV:=
 match op with
 | .eql=>some (.v (.bool (a.toList==b.toList)))
 | .neq=>some (.v (.bool (!(a.toList==b.toList))))
 | .add=>if((a.size+b.size:Nat):Int)>9223372036854775807 then none else some (.v (.string (a++b)))
 |_=>none
def uo (op:BinOp)(a b:Bool):Option PV:=
 match op with
 | .eql=>some (.v (.bool (a==b)))
 | .neq=>some (.v (.bool (!(a==b))))
 |_=>none
def eqC:Ck->PV->PV->Option Bool
 | .i,.v (.int k a),.v (.int k' b)=>if k=k' then some (decide (a=b)) else none
 | .b,.v (.bool a),.v (.bool b)=>some (a==b)
 | .s,.v (.string a),.v (.string b)=>some (a==b)
 |_,_,_=>none
def eqL:List Ck->List PV->List PV->Option Bool
 |[],[],[]=>some true
 |k::ks,x::xs,y::ys=>match eqC k x y with
  |some b=>match eqL ks xs ys with
   |some c=>some (b&& c)
   |none=>none
  |none=>none
 |_,_,_=>none
def nY (cs:List PV)(o:Nat)(vs:List PV):List PV:=cs.take o++vs++cs.drop (o+vs.length)
def cM (o n:Nat)(row:List PV):Option PV:=
 match n with
 |0=>match row[o]? with
  |some p=>if t0 p then some p else none
  |none=>none
 |n=>if o+n<=row.length/\((row.drop o).take n).all t0=true then some (.agg ((row.drop o).take n)) else none
def d8 (z:Nat):List (List PV)->Bool
 |[]=>true
 |cs::_=>decide (cs.length=z)
def vP (z:Nat):List (List PV)->List Nat->List PV->Option (List (List PV))
 |els,i::is,p::ps=>if i<els.length/\ p.cells.length=z then vP z (els.set i p.cells) is ps else none
 |els,[],[]=>some els
 |_,_,_=>none
def dW (ks:List Ck)(k:List PV):List (List PV)->Option (Option (List PV))
 |[]=>match eqL ks k k with
  |some _=>some none
  |none=>none
 |r::rs=>match eqL ks (r.take ks.length) k with
  |some true=>some (some (r.drop ks.length))
  |some false=>dW ks k rs
  |none=>none
def jS (ks:List Ck)(k v:List PV):List (List PV)->Option (List (List PV))
 |[]=>match eqL ks k k with
  |some _=>some [k++v]
  |none=>none
 |r::rs=>match eqL ks (r.take ks.length) k with
  |some true=>some ((r.take ks.length++v)::rs)
  |some false=>match jS ks k v rs with
   |some l=>some (r::l)
   |none=>none
  |none=>none
def isV:PV->Bool
 | .v _=>true
 |_=>false
def JP:List PV->PV
 |[p]=>p
 |l=> .agg l
def sY:List (List PV)->Option (List Int)
 |[]=>some []
 |[.v (.int .i64 n)]::r=>(sY r).map (n::·)
 |_=>none
def RF.ev (f:RF)(vs:List PV):Option PV:=
 match f with
 | .bin op=>match vs with
  |[.v (.int k a),.v (.int k' b)]=>dC op k a k' b
  |[.v (.string a),.v (.string b)]=>yP op a b
  |_=>none
 | .bbin op=>match vs with
  |[.v (.bool a),.v (.bool b)]=>uo op a b
  |_=>none
 | .un op=>match vs with
  |[.v (.bool b)]=>match op with
   | .not=>some (.v (.bool (!b)))
   |_=>none
  |[.v (.int k a)]=>match op with
   | .neg=>some (.v (.int k (k.wrap (0-a))))
   |_=>none
  |_=>none
 | .eqv ks=>match vs with
  |[.agg xs,.agg ys]=>match eqL ks xs ys with
   |some b=>some (.v (.bool b))
   |none=>none
  |_=>none
 | .conv k=>match vs with
  |[.v (.int _ n)]=>some (.v (.int k (k.wrap n)))
  |_=>none
 | .mm mx=>match vs with
  |[.v (.int k a),.v (.int k' b)]=>if k=k' then some (.v (.int k (if mx then max a b else min a b))) else none
  |_=>none
 | .shape n=>match vs with
  |[.agg cs]=>if cs.length=n then some (.agg cs) else none
  |_=>none
 | .cell i=>match vs with
  |[.agg cs]=>cs[i]?
  |_=>none
 | .part o n=>match vs with
  |[.agg cs]=>if o+n<=cs.length then some (.agg ((cs.drop o).take n)) else none
  |_=>none
 | .agg=>if(vs.flatMap PV.cells).all t0=true then some (.agg (vs.flatMap PV.cells)) else none
 | .len=>match vs with
  |[.sl els]=>some (.i64 els.length)
  |_=>none
 | .ix=>match vs with
  |[.v (.int k i),.v (.int _ n)]=>if 0<=i/\ i<n then some (.v (.int k i)) else none
  |_=>none
 | .sum=>match vs with
  |[.v (.int _ a),.v (.int _ b)]=>some (.i64 (a+b))
  |_=>none
 | .dif=>match vs with
  |[.v (.int _ a),.v (.int _ b)]=>some (.i64 (a-b))
  |_=>none
 | .bnd=>match vs with
  |[.v (.int _ a),.v (.int _ b)]=>if 0<=a/\ a<=b then some (.i64 a) else none
  |_=>none
 | .elt o n=>match vs with
  |[.sl els,.v (.int _ i)]=>if 0<=i then match els[i.toNat]? with
   |some row=>cM o n row
   |none=>none
   else none
  |_=>none
 | .set o=>match vs with
  |[.sl els,.v (.int _ i),p]=>if 0<=i then match els[i.toNat]? with
   |some row=>if o+p.cells.length<=row.length then some (.sl (els.set i.toNat (nY row o p.cells))) else none
   |none=>none
   else none
  |_=>none
 | .app bytes z=>match vs with
  |[.sl a,.v (.int _ n),.sl b]=>if 0<=n/\ n<=a.length/\(n.toNat+b.length)*bytes<=140737488355328/\ d8 z b=true then some (.sl (a.take n.toNat++b)) else none
  |_=>none
 | .sub=>match vs with
  |[.sl els,.v (.int _ o),.v (.int _ n)]=>if 0<=o/\ 0<=n/\ o+n<=els.length then some (.sl ((els.drop o.toNat).take n.toNat)) else none
  |_=>none
 | .bs n z ids=>match vP z.length (List.replicate n z) ids vs with
  |some els=>some (.sl els)
  |none=>none
 | .rep z bytes=>match vs with
  |[.v (.int _ l),.v (.int _ c)]=>if 0<=l/\ l<=c/\ c<9223372036854775808/\ bytes*c<=281474976710656 then some (.sl (List.replicate l.toNat z)) else none
  |_=>none
 | .tix z=>match vs with
  |[.sl els,.v (.int k i)]=>if 0<=i then match els[i.toNat]? with
   |some row=>if row.length=z then some (.v (.int k i)) else none
   |none=>none
   else none
  |_=>none
 | .tsub z=>match vs with
  |[.sl els,.v (.int _ l),.v (.int _ h)]=>if 0<=l/\ l<=h/\ h<=els.length/\ d8 z els=true/\ 0<z then some (.sl ((els.drop l.toNat).take (h.toNat-l.toNat))) else none
  |_=>none
 | .aix z w n=>match vs with
  |[.agg cs,.v (.int _ i)]=>if 0<=i/\ i<w then cM (i.toNat*z) n cs else none
  |_=>none
 | .mget ks z=>match vs with
  |[.sl rows,k]=>match dW ks k.cells rows with
   |some r=>some (JP (r.getD z))
   |none=>none
  |_=>none
 | .mhas ks=>match vs with
  |[.sl rows,k]=>match dW ks k.cells rows with
   |some r=>some (.v (.bool r.isSome))
   |none=>none
  |_=>none
 | .mset ks z=>match vs with
  |[.sl rows,k,v]=>if v.cells.length=z/\ v.cells.all t0=true then match jS ks k.cells v.cells rows with
   |some l=>some (.sl l)
   |none=>none
   else none
  |_=>none
 | .appK bytes z=>match vs with
  |[.sl a,.v (.int _ n),.sl b]=>if 0<=n/\ n<=a.length/\(n.toNat+b.length)*bytes<=140737488355328/\ d8 z b=true then some (.sl (a.take n.toNat++b++a.drop (n.toNat+b.length))) else none
  |_=>none
 | .clr z=>match vs with
  |[.sl els,.v (.int _ o),.v (.int _ n)]=>if 0<=o/\ 0<=n/\ o+n<=els.length then some (.sl (els.take o.toNat++List.replicate n.toNat z++els.drop (o.toNat+n.toNat))) else none
  |_=>none
 | .add64=>match vs with
  |[.v (.int .u64 x),.v (.int .u64 y),.v (.int .u64 c)]=>if c.toNat<=1 then some (.agg [.v (.int .u64 (Int.ofNat ((x.toNat+y.toNat+c.toNat)% 18446744073709551616))),.v (.int .u64 (Int.ofNat ((x.toNat+y.toNat+c.toNat)/18446744073709551616)))]) else none
  |_=>none
 | .flat=>match vs with
  |[v]=>if v.cells.all isV=true then some v else none
  |_=>none
 | .flatL=>match vs with
  |[.sl els]=>if els.flatten.all isV=true then some (.sl els) else none
  |_=>none
 | .srt=>match vs with
  |[.sl els]=>match sY els with
   |some l=>some (.sl ((l.mergeSort λa b=>decide (a<=b)).map λn=>[.v (.int .i64 n)]))
   |none=>none
  |_=>none
inductive K where
 |ret (vs:List A)
 |dead
 |lt (f:RF) (as:List A) (k:K)
 |call (g:FuncId) (as:List A) (k:K)
 |br (x:A) (t e:K)
 |amb (t e:K)
 |jp (d k:K)
 |loop (b k:K)
 |jmp (j:Nat) (vs:List A)
 deriving Inhabited
def nR {α β:Type}(F:(α->Option β)->α->Option β):Nat->α->Option β
 |0,_=>none
 |n+1,a=>F (nR F n) a
open Classical in
def den (Φ:FuncId->List PV->Option (List PV))(N:Nat):K->List (List PV->Option (List PV))->List PV->Option (List PV)
 | .ret vs,_,e=>evs e vs
 | .dead,_,_=>none
 | .lt f as k,J,e=>match evs e as with
  |some xs=>match f.ev xs with
   |some v=>den Φ N k J (e++[v])
   |none=>none
  |none=>none
 | .call g as k,J,e=>match evs e as with
  |some xs=>match Φ g xs with
   |some rs=>den Φ N k J (e++rs)
   |none=>none
  |none=>none
 | .br x t f,J,e=>match x.ev e with
  |some (.v (.bool true))=>den Φ N t J e
  |some (.v (.bool false))=>den Φ N f J e
  |_=>none
 | .amb t f,J,e=>match den Φ N t J e with
  |some a=>match den Φ N f J e with
   |some b=>if a=b then some a else none
   |none=>none
  |none=>none
 | .jp d k,J,e=>den Φ N k (J++[λvs=>den Φ N d J (e++vs)]) e
 | .loop b k,J,e=>den Φ N k (J++[nR (λself vs=>den Φ N b (J++[self]) (e++vs)) N]) e
 | .jmp j vs,J,e=>match J[j]? with
  |some f=>match evs e vs with
   |some xs=>f xs
   |none=>none
  |none=>none
def JQ:TypeDesc->Bool
 | .struct _| .array _ _=>true
 |_=>false
def b7 (P:Program)(t:TypeId):Option Bool:=(P.underlying t).map JQ
def szT (P:Program)(t:TypeId):Option Nat:=(P.info? t).map (·.size)
def pF (P:Program)(t:TypeId):Option Value:=(P.info? t).bind (·.zero)
def JR (P:Program)(t:TypeId):Bool:=match P.underlying t with
 |some (.slice _)=>true
 |_=>false
def UV (P:Program)(t:TypeId):Bool:=match P.underlying t with
 |some (.int _)=>true
 |_=>false
def jm:Value->Bool
 | .bool _| .int _ _| .string _=>true
 |_=>false
def pvC:Value->Option PV
 | .slice none 0 0=>some (.sl [])
 |x=>if jm x then some (.v x) else none
def OO:List Value->Option (List PV)
 |[]=>some []
 |x::xs=>match pvC x with
  |some c=>match OO xs with
   |some cs=>some (c::cs)
   |none=>none
  |none=>none
def sG (P:Program)(t:TypeId):Option (Nat->Option (Nat×Nat)):=
 match P.underlying t with
 |some (.struct fields)=>
  if fields.toList.all (λf=>(szT P f.type).isSome) then
   some λi=>(fields[i]?).map λf=>(f.offset,(szT P f.type).getD 0)
  else none
 |some (.array _ elem)=>(szT P elem).map λsize=>λi=>some (i*size,size)
 |_=>none
def pG (P:Program)(t:TypeId):Option (List PV):=match pF P t with
 |some z=>OO z.cells.toList
 |none=>none
inductive Cap where
 |ptr (b o:Nat)
 |a (x:A)
 deriving Inhabited
inductive SC where
 |a (x:A)
 |pc (x:A) (i:Nat)
 |nil
 |ptr (b o:Nat)
 |ep (b:Nat) (i:A) (o:Nat)
 |tp (l i:A) (o:Nat)
 |lsl (b:Nat) (o n:A)
 |mp (b:Nat)
 |fn (g:Nat) (f c:List Cap)
 |un
 |ub (x:A) (s:Bool)
 deriving Inhabited
inductive SW where
 |c (x:SC)
 |av (x:A)
 |agg (cs:List SC)
 deriving Inhabited
inductive SV where
 |w (x:SW)
 |tup (xs:List SW)
 deriving Inhabited
inductive SB where
 |box (cs:List SC)
 |lst (l n:A) (z:Nat) (fz:Bool)
 |map (l:A) (ka:Bool) (nk:Nat) (va:Bool)
 deriving Inhabited
structure SS where
 n:Nat
 tm:List (Nat×SV)
 bl:List (Nat×SB)
 nb:Nat
 fc:List (Nat×PV)
 sz:List (Nat×Nat)
 deriving Inhabited
def look {α:Type}:List (Nat×α)->Nat->Option α
 |[],_=>none
 |(k,v)::l,i=>match Nat.beq k i with
  |true=>some v
  |false=>look l i
def del {α:Type}:List (Nat×α)->Nat->List (Nat×α)
 |[],_=>[]
 |(k,v)::l,i=>match Nat.beq k i with
  |true=>del l i
  |false=>(k,v)::del l i
def put {α:Type}(l:List (Nat×α))(k:Nat)(v:α):List (Nat×α):=(k,v)::del l k
abbrev rI:=List (RF×List A)
abbrev Szs:=List (Nat×Nat)
abbrev EM (α:Type):=Nat->Szs->Option (α×rI×Szs)
def EM.ret {α:Type}(a:α):EM α:=λ_ _=>some (a,[],[])
def EM.bind {α β:Type}(x:EM α)(f:α->EM β):EM β:=λm z=>match x m z with
 |some (a,l1,z1)=>match f a (m+l1.length) (z1++z) with
  |some (b,l2,z2)=>some (b,l1++l2,z2++z1)
  |none=>none
 |none=>none
def fail {α:Type}:EM α:=λ_ _=>none
def ofO {α:Type}:Option α->EM α
 |some a=>EM.ret a
 |none=>fail
def emit (f:RF)(as:List A):EM A:=λm _=>some (.x m,[(f,as)],[])
def emitN (n:Nat)(f:RF)(as:List A):EM A:=λm _=>some (.x m,[(f,as)],[(m,n)])
def vQ (a:A):EM (Option Nat):=λ_ z=>some ((match a with| .x i=>look z i|_=>none),[],[])
def A.same:A->A->Bool
 | .x i,.x j=>Nat.beq i j
 |_,_=>false
def cEq:PV->PV->Bool
 | .v (.int k a),.v (.int k' b)=>decide (k=k')&& decide (a=b)
 | .v (.bool a),.v (.bool b)=>a==b
 | .sl [],.sl []=>true
 |_,_=>false
def A.eq:A->A->Bool
 | .x i,.x j=>Nat.beq i j
 | .c p,.c q=>cEq p q
 |_,_=>false
def fg:SC->EM A
 | .a x=>EM.ret x
 | .pc x i=>emit (.cell i) [x]
 | .nil=>EM.ret (.c (.sl []))
 |_=>fail
def q9 (n:Nat)(x:A):EM A:=EM.bind (vQ x) λk=>match k with
 |some k=>match Nat.beq k n with
  |true=>EM.ret x
  |false=>fail
 |none=>emitN n (.shape n) [x]
def pcs (x:A)(i:Nat):Nat->List SC
 |0=>[]
 |n+1=> .pc x i::pcs x (i+1) n
def yQ (P:Program)(t:TypeId)(w:SW):EM (List SC):=
 match b7 P t with
 |some true=>match szT P t with
  |some n=>match w with
   | .agg cs=>match Nat.beq cs.length n with
    |true=>EM.ret cs
    |false=>fail
   | .av x=>EM.bind (q9 n x) λy=>EM.ret (pcs y 0 n)
   |_=>fail
  |none=>fail
 |some false=>match szT P t with
  |some 1=>match w with
   | .c x=>EM.ret [x]
   |_=>fail
  |_=>fail
 |none=>fail
def nZ (x:A):Nat->List SC->Nat
 |_,[]=>0
 |i,.pc y j::cs=>match A.same x y&& Nat.beq i j with
  |true=>nZ x (i+1) cs+1
  |false=>0
 |_,_=>0
def sZ (cs:List SC):EM SW:=
 match cs with
 | .pc x i::rest=>match Nat.beq (nZ x (i+1) rest) rest.length with
  |true=>EM.bind (vQ x) λk=>match(match k with|some k=>Nat.beq i 0&& Nat.beq k cs.length|none=>false) with
   |true=>EM.ret (.av x)
   |false=>EM.bind (emitN cs.length (.part i cs.length) [x]) λy=>EM.ret (.av y)
  |false=>EM.ret (.agg cs)
 |_=>EM.ret (.agg cs)
def Cw (P:Program)(t:TypeId)(c:SC):EM SW:=
 match c with
 | .pc x i=>match P.underlying t with
  |some .bool=>EM.bind (emit (.cell i) [x]) λy=>EM.ret (.c (.a y))
  |_=>EM.ret (.c (.pc x i))
 |c=>EM.ret (.c c)
def FO (P:Program)(t:TypeId)(cs:List SC)(o:Nat):EM SW:=
 match b7 P t with
 |some true=>match szT P t with
  |some n=>match Nat.ble (o+n) cs.length with
   |true=>sZ ((cs.drop o).take n)
   |false=>fail
  |none=>fail
 |some false=>match cs[o]? with
  |some c=>Cw P t c
  |none=>fail
 |none=>fail
def cnt (P:Program)(t:TypeId):Option Nat:=
 match b7 P t with
 |some true=>match szT P t with
  |some (n+1)=>some (n+1)
  |_=>none
 |some false=>some 0
 |none=>none
def ki (n:Nat)(f:RF)(as:List A):EM SW:=
 match n with
 |0=>EM.bind (emit f as) λy=>EM.ret (.c (.a y))
 |n=>EM.bind (emitN n f as) λy=>EM.ret (.av y)
def z8 (P:Program)(σ:SS)(t:TypeId)(p:SC):EM SW:=
 match p with
 | .ptr b o=>match look σ.bl b with
  |some (.box cs)=>FO P t cs o
  |_=>fail
 | .ep b i o=>match look σ.bl b with
  |some (.lst l _ _ _)=>match cnt P t with
   |some n=>ki n (.elt o n) [l,i]
   |none=>fail
  |_=>fail
 | .tp l i o=>match cnt P t with
  |some n=>ki n (.elt o n) [l,i]
  |none=>fail
 |_=>fail
def mR (σ:SS):SC->EM (A×List Nat)
 | .a x=>EM.ret (x,[])
 | .pc x i=>EM.bind (emit (.cell i) [x]) λy=>EM.ret (y,[])
 | .nil=>EM.ret (.c (.sl []),[])
 | .lsl b o n=>match look σ.bl b with
  |some (.lst l _ _ _)=>EM.bind (emit .sub [l,o,n]) λy=>EM.ret (y,[b])
  |_=>fail
 |_=>fail
def oU (σ:SS):Nat->List SC->EM (List A×List Nat)
 |_,[]=>EM.ret ([],[])
 |0,_=>fail
 |k+1,c::cs=>
  match c with
  | .pc x i=>match nZ x (i+1) cs with
   |0=>EM.bind (emit (.cell i) [x]) λy=>EM.bind (oU σ k cs) λq=>EM.ret (y::q.1,q.2)
   |n+1=>EM.bind (emitN (n+2) (.part i (n+2)) [x]) λy=>EM.bind (oU σ k (cs.drop (n+1))) λq=>EM.ret (y::q.1,q.2)
  |c=>EM.bind (mR σ c) λp=>EM.bind (oU σ k cs) λq=>EM.ret (p.1::q.1,p.2++q.2)
def Yj (σ:SS):List SC->EM (List A×List Nat)
 |[]=>EM.ret ([],[])
 |c::cs=>EM.bind (mR σ c) λp=>EM.bind (Yj σ cs) λq=>EM.ret (p.1::q.1,p.2++q.2)
def Aa (σ:SS):SW->EM (A×List Nat)
 | .agg cs=>EM.bind (oU σ cs.length cs) λp=>EM.bind (emitN cs.length .agg p.1) λy=>EM.ret (y,p.2)
 | .av x=>EM.ret (x,[])
 | .c x=>mR σ x
def vR (σ:SS):List SW->EM (List A×List Nat)
 |[]=>EM.ret ([],[])
 |w::ws=>EM.bind (Aa σ w) λp=>EM.bind (vR σ ws) λq=>EM.ret (p.1::q.1,p.2++q.2)
def oV:SB->SB
 | .lst l n z _=> .lst l n z true
 |x=>x
def dF (σ:SS):List Nat->SS
 |[]=>σ
 |b::bs=>match look σ.bl b with
  |some sb=>dF {σ with bl:=put σ.bl b (oV sb)} bs
  |none=>dF σ bs
def Cy:Value->Option SC
 | .slice none 0 0=>some .nil
 |x=>if jm x then some (.a (.c (.v x))) else match x with
  | .map none| .pointer none| .nilFunc=>some .un
  |_=>none
def vS:List Value->Option (List SC)
 |[]=>some []
 |x::xs=>match Cy x with
  |some c=>match vS xs with
   |some cs=>some (c::cs)
   |none=>none
  |none=>none
def JS (v:Value):Option SV:=
 match v with
 | .agg cs=>(vS cs.toList).map λl=> .w (.agg l)
 |v=>(Cy v).map λc=> .w (.c c)
def Cz (σ:SS):SV->SV
 | .w (.c (.a (.x i)))=>match look σ.fc i with
  |some p=> .w (.c (.a (.c p)))
  |none=> .w (.c (.a (.x i)))
 |v=>v
def opS (σ:SS):Operand->Option SV
 | .tmp t=>match look σ.tm t with
  |some v=>some (Cz σ v)
  |none=>none
 | .const v=>JS v
 | .func g=>some (.w (.c (.fn g [] [])))
 | .global _=>none
def opW (σ:SS)(x:Operand):Option SW:=match opS σ x with
 |some (.w w)=>some w
 |_=>none
def opC (σ:SS)(x:Operand):Option SC:=match opW σ x with
 |some (.c c)=>some c
 |_=>none
def OP (σ:SS):List Operand->Option (List SW)
 |[]=>some []
 |x::xs=>match opW σ x with
  |some w=>match OP σ xs with
   |some ws=>some (w::ws)
   |none=>none
  |none=>none
def SS.new (σ:SS)(sb:SB):SS:={σ with bl:=put σ.bl σ.nb sb,nb:=σ.nb+1}
def SS.kill (σ:SS)(b:Nat):SS:={σ with bl:=del σ.bl b}
def vT (P:Program)(t:TypeId):Option (List SC):=match pF P t with
 |some z=>vS z.cells.toList
 |none=>none
def JU (P:Program)(σ:SS)(t:TypeId)(cs:List SC):EM (SV×SS):=
 match szT P t with
 |some n=>match Nat.beq cs.length n with
  |true=>EM.ret (.w (.c (.ptr σ.nb 0)),σ.new (.box cs))
  |false=>fail
 |none=>fail
def DS (cs:List SC)(o:Nat)(vs:List SC):List SC:=cs.take o++vs++cs.drop (o+vs.length)
def JV (P:Program)(t:TypeId)(w:SW):Option Nat:=
 match b7 P t with
 |some true=>match w with
  | .c _=>none
  |_=>match szT P t with
   |some (n+1)=>some (n+1)
   |_=>none
 |some false=>match w with
  | .c _=>match szT P t with
   |some 1=>some 0
   |_=>none
  |_=>none
 |none=>none
def CA (P:Program)(σ:SS)(t:TypeId)(p:SC)(w:SW):EM SS:=
 match p with
 | .ptr b o=>match look σ.bl b with
  |some (.box cs)=>EM.bind (yQ P t w) λvs=>match Nat.ble 1 vs.length&& Nat.ble (o+vs.length) cs.length with
   |true=>EM.ret {σ with bl:=put σ.bl b (.box (DS cs o vs))}
   |false=>fail
  |_=>fail
 | .ep b i o=>match look σ.bl b with
  |some (.lst l nl z false)=>match JV P t w with
   |some n=>EM.bind (Aa σ w) λq=>match q.2.elem b with
    |true=>fail
    |false=>EM.bind (match n with
     |0=>EM.ret q.1
     |n=>q9 n q.1) λy=>EM.bind (emit (.set o) [l,i,y]) λl'=>EM.ret {dF σ q.2 with bl:=put (dF σ q.2).bl b (.lst l' nl z false)}
   |none=>fail
  |_=>fail
 |_=>fail
def JW (P:Program)(t:TypeId)(i:Nat):Option (TypeId×Nat):=
 match P.underlying t with
 |some (.struct fields)=>match fields[i]? with
  |some f=>some (f.type,f.offset)
  |none=>none
 |some (.array _ e)=>match szT P e with
  |some z=>some (e,i*z)
  |none=>none
 |_=>none
def CB (P:Program)(t:TypeId):List SC->List (Nat×SW)->EM (List SC)
 |cs,[]=>EM.ret cs
 |cs,(i,w)::r=>match JW P t i with
  |some (ty,o)=>EM.bind (yQ P ty w) λvs=>match Nat.ble (o+vs.length) cs.length with
   |true=>CB P t (DS cs o vs) r
   |false=>fail
  |none=>fail
def yR (σ:SS):List (Nat×Operand)->Option (List (Nat×SW))
 |[]=>some []
 |(i,x)::r=>match opW σ x with
  |some w=>match yR σ r with
   |some l=>some ((i,w)::l)
   |none=>none
  |none=>none
def uQ (P:Program)(σ:SS)(t:TypeId)(len:Nat)(ps:List (Nat×SW)):EM (SV×SS):=
 match P.underlying t with
 |some (.slice elem)=>match szT P elem with
  |some size=>match pG P elem with
   |some z=>match Nat.ble (len*size) 16777216&& Nat.ble 1 size&& Nat.beq z.length size with
    |true=>EM.bind (vR σ (ps.map (·.2))) λq=>match len with
     |0=>match ps with
      |[]=>EM.ret (.w (.c .nil),σ)
      |_=>fail
     |_=>EM.bind (emit (.bs len z (ps.map (·.1))) q.1) λl=>
      EM.ret (.w (.c (.lsl σ.nb (.c (.i64 0)) (.c (.i64 len)))),(dF σ q.2).new (.lst l (.c (.i64 len)) size false))
    |false=>fail
   |none=>fail
  |none=>fail
 |_=>fail
def Xk:BinOp->Bool
 | .eql| .neq=>true
 |_=>false
def yS (rec:TypeId->Option (List Ck)):List Field->Nat->Option (List Ck)
 |[],_=>some []
 |f::fs,o=>match f.name != "_" && Nat.beq f.offset o with
  |true=>match rec f.type with
   |some k=>match yS rec fs (o+k.length) with
    |some r=>some (k++r)
    |none=>none
   |none=>none
  |false=>none
def jB (P:Program):Nat->TypeId->Option (List Ck)
 |0,_=>none
 |d+1,t=>match P.underlying t with
  |some .bool=>some [.b]
  |some (.int _)=>some [.i]
  |some .string=>some [.s]
  |some (.struct fields)=>match P.stoodInHeld t with
   |true=>none
   |false=>match yS (jB P d) fields.toList 0 with
    |some ks=>match szT P t with
     |some m=>match Nat.beq ks.length m with
      |true=>some ks
      |false=>none
     |none=>none
    |none=>none
  |_=>none
def JX (σ:SS)(w:SW):EM A:=EM.bind (Aa σ w) λq=>match q.2 with
 |[]=>EM.ret q.1
 |_=>fail
def JY (f:RF)(x y:SW):EM SV:=
 match x with
 | .c x=>match y with
  | .c y=>EM.bind (fg x) λa=>EM.bind (fg y) λb=>EM.bind (emit f [a,b]) λr=>EM.ret (.w (.c (.a r)))
  |_=>fail
 |_=>fail
def UW (P:Program)(σ:SS)(op:BinOp)(t:TypeId)(x y:SW):EM SV:=
 match P.underlying t with
 |some (.struct _)=>match Xk op&& Nat.ble 10 P.depth with
  |true=>match jB P 10 t with
   |some ks=>EM.bind (JX σ x) λa=>EM.bind (JX σ y) λb=>EM.bind (emit (.eqv ks) [a,b]) λr=>match op with
    | .eql=>EM.ret (.w (.c (.a r)))
    |_=>EM.bind (emit (.un .not) [r]) λr'=>EM.ret (.w (.c (.a r')))
   |none=>fail
  |false=>fail
 |some .bool=>JY (.bbin op) x y
 |some (.int _)=>JY (.bin op) x y
 |some .string=>JY (.bin op) x y
 |_=>fail
def OQ (P:Program)(op:BinOp)(t:TypeId)(y:Operand):Bool:=Xk op&& JR P t&&(match y with
 | .const (.slice none 0 0)=>true
 |_=>false)
def pI:BinOp->Bool
 | .neq=>true
 |_=>false
def UX (σ:SS)(op:BinOp):SC->EM SV
 | .lsl b _ n=>match look σ.bl b with
  |some (.lst ..)=>EM.bind (emit (.bin .eql) [n,.c (.i64 0)]) λr=>EM.ret (.w (.c (.ub r (pI op))))
  |_=>fail
 |c=>EM.bind (fg c) λa=>EM.bind (emit .len [a]) λn=>EM.bind (emit (.bin .eql) [n,.c (.i64 0)]) λr=>EM.ret (.w (.c (.ub r (pI op))))
def OS (P:Program)(src dst:TypeId)(x:SC):EM SW:=
 match P.underlying src with
 |some (.int _)=>match P.underlying dst with
  |some (.int k)=>EM.bind (fg x) λa=>EM.bind (emit (.conv k) [a]) λr=>EM.ret (.c (.a r))
  |_=>fail
 |_=>fail
def JZ (P:Program)(t:TypeId)(w:SW)(i:Nat):EM SW:=
 match P.underlying t with
 |some (.struct fields)=>match fields[i]? with
  |some f=>match w with
   | .agg cs=>FO P f.type cs f.offset
   | .av x=>match cnt P f.type with
    |some 0=>EM.bind (vQ x) λk=>match k with
     |some m=>match Nat.ble (f.offset+1) m with
      |true=>Cw P f.type (.pc x f.offset)
      |false=>fail
     |none=>EM.bind (emit (.cell f.offset) [x]) λy=>EM.ret (.c (.a y))
    |some (n+1)=>ki (n+1) (.part f.offset (n+1)) [x]
    |none=>fail
   |_=>fail
  |none=>fail
 |_=>fail
def J0:List SC->EM (List A)
 |[]=>EM.ret []
 |x::ws=>EM.bind (fg x) λa=>EM.bind (J0 ws) λas=>EM.ret (a::as)
def Xl:SW->EM A
 | .av x=>EM.ret x
 | .agg cs=>EM.bind (J0 cs) λas=>emit .agg as
 |_=>fail
def J1 (P:Program)(σ:SS)(t:TypeId)(w:SW)(ix:SC):EM SW:=
 match P.underlying t with
 |some (.array len elem)=>match szT P elem with
  |some z=>match cnt P elem with
   |some n=>EM.bind (Xl w) λa=>EM.bind (fg ix) λi=>ki n (.aix z len n) [a,i]
   |none=>fail
  |none=>fail
 |_=>fail
def pJ:A->Bool
 | .c (.v (.int .i64 0))=>true
 |_=>false
def xh (P:Program)(σ:SS)(t:TypeId)(x ix:SC):EM SC:=
 match P.underlying t with
 |some (.slice elem)=>match szT P elem with
  |some z=>match x with
   | .lsl b o n=>match look σ.bl b with
    |some (.lst _ _ z' _)=>match Nat.beq z z' with
     |true=>EM.bind (fg ix) λi=>EM.bind (emit .ix [i,n]) λj=>match pJ o with
      |true=>EM.ret (.ep b j 0)
      |false=>EM.bind (emit .sum [o,j]) λj'=>EM.ret (.ep b j' 0)
     |false=>fail
    |_=>fail
   | .a l=>EM.bind (fg ix) λi=>EM.bind (emit (.tix z) [l,i]) λj=>EM.ret (.tp l j 0)
   | .pc y k=>EM.bind (emit (.cell k) [y]) λl=>EM.bind (fg ix) λi=>EM.bind (emit (.tix z) [l,i]) λj=>EM.ret (.tp l j 0)
   |_=>fail
  |none=>fail
 |some (.array len elem)=>match szT P elem with
  |some z=>match x with
   | .ptr b o=>match ix with
    | .a (.c (.v (.int _ i)))=>match decide (0<=i/\ i<len) with
     |true=>EM.ret (.ptr b (o+i.toNat*z))
     |false=>fail
    |_=>fail
   | .ep b k o=>match ix with
    | .a (.c (.v (.int _ i)))=>match decide (0<=i/\ i<len) with
     |true=>EM.ret (.ep b k (o+i.toNat*z))
     |false=>fail
    |_=>fail
   | .tp l k o=>match ix with
    | .a (.c (.v (.int _ i)))=>match decide (0<=i/\ i<len) with
     |true=>EM.ret (.tp l k (o+i.toNat*z))
     |false=>fail
    |_=>fail
   |_=>fail
  |none=>fail
 |_=>fail
def xj (P:Program)(t:TypeId)(x:SC)(i:Nat):EM SC:=
 match P.underlying t with
 |some (.struct fields)=>match fields[i]? with
  |some f=>match szT P f.type with
   |some (_+1)=>match x with
    | .ptr b o=>EM.ret (.ptr b (o+f.offset))
    | .ep b k o=>EM.ret (.ep b k (o+f.offset))
    | .tp l k o=>EM.ret (.tp l k (o+f.offset))
    |_=>fail
   |_=>fail
  |none=>fail
 |_=>fail
def J2 (σ:SS):Option Operand->Option (Option SC)
 |none=>some none
 |some x=>match opC σ x with
  |some c=>some (some c)
  |none=>none
def qu (d:A)(y:A):Option SC->EM A
 |none=>EM.ret d
 |some c=>EM.bind (fg c) λa=>emit .bnd [a,y]
def J3 (P:Program)(σ:SS)(t:TypeId)(x:SC)(lo hi:Option SC):EM SC:=
 match P.underlying t with
 |some (.slice elem)=>match szT P elem with
  |some z=>match x with
   | .nil=>EM.bind (qu (.c (.i64 0)) (.c (.i64 0)) hi) λh=>EM.bind (qu (.c (.i64 0)) h lo) λ_=>EM.ret .nil
   | .lsl b o n=>match look σ.bl b with
    |some (.lst _ nl z' _)=>match Nat.beq z z'&& Nat.ble 1 z with
     |true=>EM.bind (qu n (if pJ o then nl else n) hi) λh=>match lo with
      |none=>EM.ret (.lsl b o h)
      |some _=>EM.bind (qu (.c (.i64 0)) h lo) λl=>EM.bind (emit .sum [o,l]) λo'=>EM.bind (emit .dif [h,l]) λn'=>EM.ret (.lsl b o' n')
     |false=>fail
    |_=>fail
   |x=>EM.bind (fg x) λs=>EM.bind (emit .len [s]) λn=>EM.bind (qu n n hi) λh=>EM.bind (qu (.c (.i64 0)) h lo) λl=>EM.bind (emit (.tsub z) [s,l,h]) λr=>EM.ret (.a r)
  |none=>fail
 |_=>fail
def DU (P:Program)(σ:SS)(t:TypeId)(x:SC)(lo:Option SC)(hi mx:SC):EM SC:=
 match P.underlying t with
 |some (.slice elem)=>match szT P elem with
  |some z=>match x with
   | .lsl b o n=>match look σ.bl b with
    |some (.lst _ _ z' _)=>match Nat.beq z z'&& Nat.ble 1 z with
     |true=>EM.bind (qu n n (some mx)) λm=>EM.bind (qu m m (some hi)) λh=>EM.bind (qu (.c (.i64 0)) h lo) λ_=>EM.ret .un
     |false=>fail
    |_=>fail
   |x=>EM.bind (fg x) λs=>EM.bind (emit .len [s]) λn=>EM.bind (qu n n (some mx)) λm=>EM.bind (qu m m (some hi)) λh=>EM.bind (qu (.c (.i64 0)) h lo) λl=>EM.bind (emit (.tsub z) [s,l,h]) λr=>EM.ret (.a r)
  |none=>fail
 |_=>fail
def CC (σ:SS)(x:SC):EM A:=EM.bind (mR σ x) λq=>EM.ret q.1
def DV (P:Program)(σ:SS)(st xt:TypeId)(x y:SC):EM (SV×SS):=
 match P.underlying st with
 |some (.slice elem)=>match szT P elem with
  |some size=>match P.info? elem with
   |some info=>match pG P elem with
    |some z=>match Nat.ble 1 size&& Nat.ble (size+1) 65536&& Nat.beq z.length size&& Nat.ble 1 info.bytes&& JR P xt with
     |true=>EM.bind (CC σ y) λys=>match x with
      | .nil=>EM.bind (emit (.app info.bytes size) [.c (.sl []),.c (.i64 0),ys]) λl=>EM.bind (emit .len [l]) λn=>
       EM.ret (.w (.c (.lsl σ.nb (.c (.i64 0)) n)),σ.new (.lst l n size false))
      | .lsl b o n=>match look σ.bl b with
       |some (.lst l nl z' false)=>match pJ o&& Nat.beq z' size with
        |true=>match A.eq n nl with
         |true=>EM.bind (emit (.app info.bytes size) [l,n,ys]) λl'=>EM.bind (emit .len [l']) λn'=>
          EM.ret (.w (.c (.lsl σ.nb (.c (.i64 0)) n')),(σ.kill b).new (.lst l' n' size false))
         |false=>EM.bind (emit (.appK info.bytes size) [l,n,ys]) λl'=>EM.bind (emit .len [l']) λnl'=>EM.bind (emit .len [ys]) λk=>EM.bind (emit .sum [n,k]) λn'=>
          EM.ret (.w (.c (.lsl σ.nb (.c (.i64 0)) n')),(σ.kill b).new (.lst l' nl' size false))
        |false=>fail
       |_=>fail
      |_=>fail
     |false=>match Nat.ble 1 size&& Nat.beq z.length size&& Nat.ble 1 info.bytes&& UV P xt with
      |true=>match x with
       | .nil=>EM.bind (fg y) λa=>EM.bind (emit (.rep z info.bytes) [a,a]) λr=>EM.bind (emit (.app info.bytes size) [.c (.sl []),.c (.i64 0),r]) λl=>EM.bind (emit .len [l]) λn=>
        EM.ret (.w (.c (.lsl σ.nb (.c (.i64 0)) n)),σ.new (.lst l n size false))
       |_=>fail
      |false=>fail
    |none=>fail
   |none=>fail
  |none=>fail
 |_=>fail
def UY (P:Program)(σ:SS)(t:TypeId)(x:SW):EM SW:=
 match P.underlying t with
 |some (.array n _)=>EM.ret (.c (.a (.c (.i64 n))))
 |some (.slice _)=>match x with
  | .c .nil=>EM.ret (.c (.a (.c (.i64 0))))
  | .c (.lsl b _ n)=>match look σ.bl b with
   |some (.lst ..)=>EM.ret (.c (.a n))
   |_=>fail
  | .c (.a x)=>ki 0 .len [x]
  | .c (.pc x i)=>EM.bind (emit (.cell i) [x]) λy=>ki 0 .len [y]
  |_=>fail
 |_=>fail
def elemOf (P:Program)(t:TypeId):Option TypeId:=match P.underlying t with
 |some (.slice e)=>some e
 |_=>none
def xk (P:Program)(σ:SS)(t:TypeId)(l c:SC):EM (SV×SS):=
 match elemOf P t with
 |some elem=>match P.info? elem with
  |some info=>match pG P elem with
   |some z=>match Nat.beq z.length info.size&& Nat.ble 1 info.size&& Nat.ble (info.size+1) 65536&& Nat.ble 1 info.bytes with
    |true=>EM.bind (fg l) λa=>EM.bind (fg c) λb=>EM.bind (emit (.rep z info.bytes) [a,b]) λr=>EM.bind (emit .len [r]) λn=>
     EM.ret (.w (.c (.lsl σ.nb (.c (.i64 0)) n)),σ.new (.lst r n info.size false))
    |false=>fail
   |none=>fail
  |none=>fail
 |none=>fail
def mmS (mx:Bool):List SW->EM SW
 |[.c x,.c y]=>EM.bind (fg x) λa=>EM.bind (fg y) λb=>EM.bind (emit (.mm mx) [a,b]) λr=>EM.ret (.c (.a r))
 |[.c x,.c y,.c z]=>EM.bind (fg x) λa=>EM.bind (fg y) λb=>EM.bind (emit (.mm mx) [a,b]) λr=>EM.bind (fg z) λc=>EM.bind (emit (.mm mx) [r,c]) λq=>EM.ret (.c (.a q))
 |_=>fail
def J4 (P:Program)(σ:SS)(t:TypeId)(x:SC):EM SS:=
 match elemOf P t with
 |some elem=>match pG P elem with
  |some z=>match x with
   | .nil=>EM.ret σ
   | .lsl b o n=>match look σ.bl b with
    |some (.lst l nl z' false)=>match Nat.beq z.length z' with
     |true=>EM.bind (emit (.clr z) [l,o,n]) λl'=>EM.ret {σ with bl:=put σ.bl b (.lst l' nl z' false)}
     |false=>fail
    |_=>fail
   |_=>fail
  |none=>fail
 |none=>fail
def OT (P:Program)(σ:SS)(t:TypeId)(x y:SC):EM (SV×SS):=
 match elemOf P t with
 |some elem=>match szT P elem with
  |some size=>match x with
   | .lsl b o n=>match look σ.bl b with
    |some (.lst l nl z' false)=>match Nat.beq z' size with
     |true=>EM.bind (CC σ y) λys=>EM.bind (emit (.appK 0 size) [.c (.sl []),.c (.i64 0),ys]) λys'=>EM.bind (emit .len [ys']) λm=>EM.bind (emit (.mm false) [n,m]) λk=>EM.bind (emit .sub [ys',.c (.i64 0),k]) λzs=>EM.bind (emit (.appK 0 size) [l,o,zs]) λl'=>
      EM.ret (.w (.c (.a k)),{σ with bl:=put σ.bl b (.lst l' nl z' false)})
     |false=>fail
    |_=>fail
   |_=>fail
  |none=>fail
 |none=>fail
def s7 (P:Program)(σ:SS)(b:Builtin)(ts:List TypeId)(args:List SW):EM (SV×SS):=
 match b with
 | .append=>match ts with
  |[st,xt]=>match args with
   |[.c x,.c y]=>DV P σ st xt x y
   |_=>fail
  |_=>fail
 | .len=>match ts with
  |[t]=>match args with
   |[x]=>EM.bind (UY P σ t x) λr=>EM.ret (.w r,σ)
   |_=>fail
  |_=>fail
 | .max=>EM.bind (mmS true args) λr=>EM.ret (.w r,σ)
 | .min=>EM.bind (mmS false args) λr=>EM.ret (.w r,σ)
 | .clear=>match ts with
  |[t]=>match args with
   |[.c x]=>EM.bind (J4 P σ t x) λσ'=>EM.ret (.tup [],σ')
   |_=>fail
  |_=>fail
 | .copy=>match ts with
  |[t,_]=>match args with
   |[.c x,.c y]=>OT P σ t x y
   |_=>fail
  |_=>fail
 | .cap=>match ts with
  |[t]=>match elemOf P t with
   |some _=>match args with
    |[.c .nil]=>EM.ret (.w (.c (.a (.c (.i64 0)))),σ)
    |_=>fail
   |none=>fail
  |_=>fail
 |_=>fail
structure MT where
 kt:TypeId
 et:TypeId
 ks:List Ck
 z:List PV
 ka:Bool
 va:Bool
def aff (va:Bool):Value->Bool
 | .agg _=>va
 | .tuple _=>false
 |_=>!va
def CD (P:Program)(t:TypeId):Option MT:=match P.underlying t with
 |some (.map kt et)=>match jB P 10 kt with
  |some ks=>match pG P et with
   |some z=>match b7 P kt with
    |some ka=>match b7 P et with
     |some va=>match Nat.ble 10 P.depth&& Nat.ble 1 ks.length&&(match va with|true=>Nat.ble 2 z.length|false=>Nat.beq z.length 1)&& aff va ((pF P et).getD (.tuple #[])) with
      |true=>some ⟨kt,et,ks,z,ka,va⟩
      |false=>none
     |none=>none
    |none=>none
   |none=>none
  |none=>none
 |_=>none
def bq:Bool->Bool->Bool
 |true,true=>true
 |false,false=>true
 |_,_=>false
def OU (σ:SS)(T:MT):SC->Option (Nat×A)
 | .mp b=>match look σ.bl b with
  |some (.map l ka nk va)=>match bq T.ka ka&& Nat.beq T.ks.length nk&& bq T.va va with
   |true=>some (b,l)
   |false=>none
  |_=>none
 |_=>none
def J5 (σ:SS)(g:Bool)(w:SW):EM A:=match g with
 |false=>match w with
  | .c c=>fg c
  |_=>fail
 |true=>match w with
  | .c _=>fail
  |w=>JX σ w
def DW (P:Program)(σ:SS)(t:TypeId)(x:SC)(k:SW)(ok:Bool):EM SV:=
 match CD P t with
 |some T=>match OU σ T x with
  |some (_,l)=>EM.bind (J5 σ T.ka k) λa=>EM.bind (emit (.mget T.ks T.z) [l,a]) λy=>match ok with
   |true=>EM.bind (emit (.mhas T.ks) [l,a]) λh=>EM.ret (.tup [match T.va with|true=> .av y|false=> .c (.a y),.c (.a h)])
   |false=>EM.ret (.w (match T.va with|true=> .av y|false=> .c (.a y)))
  |none=>fail
 |none=>fail
def xl (P:Program)(σ:SS)(t:TypeId)(x:SC)(k v:SW):EM SS:=
 match CD P t with
 |some T=>match OU σ T x with
  |some (b,l)=>EM.bind (J5 σ T.ka k) λa=>EM.bind (J5 σ T.va v) λc=>EM.bind (emit (.mset T.ks T.z.length) [l,a,c]) λl'=>EM.ret {σ with bl:=put σ.bl b (.map l' T.ka T.ks.length T.va)}
  |none=>fail
 |none=>fail
def afg:SW->Option Cap
 | .c (.ptr b o)=>some (.ptr b o)
 | .c (.a x)=>some (.a x)
 |_=>none
def CE (σ:SS):List Operand->Option (List Cap)
 |[]=>some []
 |x::xs=>match opW σ x with
  |some w=>match afg w with
   |some c=>match CE σ xs with
    |some cs=>some (c::cs)
    |none=>none
   |none=>none
  |none=>none
def Cap.w:Cap->SW
 | .ptr b o=> .c (.ptr b o)
 | .a x=> .c (.a x)
inductive SR where
 |val (v:SV) (σ:SS)
 |call (g:FuncId) (args:List SW)
 deriving Inhabited
def yT (σ:SS)(x:EM SW):EM SR:=EM.bind x λw=>EM.ret (.val (.w w) σ)
def yU (σ:SS)(x:EM SC):EM SR:=EM.bind x λc=>EM.ret (.val (.w (.c c)) σ)
def AX (x:EM (SV×SS)):EM SR:=EM.bind x λp=>EM.ret (.val p.1 p.2)
def OV (P:Program)(g:FuncId):Bool:=match P.funcs[g]? with
 |some fn=>match fn.body with
  |some _=>false
  |none=>fn.name== "math/bits.Add64" && fn.origin== ""
 |none=>false
def opE (P:Program)(σ:SS)(op:Op):EM SR:=
 match op with
 | .move x| .assign x=>EM.bind (ofO (opS σ x)) λv=>EM.ret (.val v σ)
 | .pick c a b=>EM.bind (ofO (opC σ c)) λv=>match v with
  | .a (.c (.v (.bool t)))=>EM.bind (ofO (opS σ (if t then a else b))) λv=>EM.ret (.val v σ)
  |_=>fail
 | .alloc t=>EM.bind (ofO (vT P t)) λcs=>AX (JU P σ t cs)
 | .box t x=>EM.bind (ofO (opW σ x)) λw=>EM.bind (yQ P t w) λcs=>AX (JU P σ t cs)
 | .build t ps=>EM.bind (ofO (vT P t)) λz=>EM.bind (ofO (sG P t)) λ_=>EM.bind (ofO (yR σ ps.toList)) λl=>EM.bind (CB P t z l) λcs=>yT σ (sZ cs)
 | .buildSlice t n ps=>EM.bind (ofO (yR σ ps.toList)) λl=>AX (uQ P σ t n l)
 | .load t a=>EM.bind (ofO (opC σ a)) λp=>yT σ (z8 P σ t p)
 | .store t a x=>EM.bind (ofO (opC σ a)) λp=>EM.bind (ofO (opW σ x)) λw=>EM.bind (CA P σ t p w) λσ'=>EM.ret (.val (.tup []) σ')
 | .nilCheck x=>EM.bind (ofO (opC σ x)) λc=>match c with
  | .ptr b o=>EM.ret (.val (.w (.c (.ptr b o))) σ)
  | .fn g f cs=>EM.ret (.val (.w (.c (.fn g f cs))) σ)
  |_=>fail
 | .binOp op t x y _=>match OQ P op t y with
  |true=>EM.bind (ofO (opC σ x)) λa=>EM.bind (UX σ op a) λv=>EM.ret (.val v σ)
  |false=>EM.bind (ofO (opW σ x)) λa=>EM.bind (ofO (opW σ y)) λb=>EM.bind (UW P σ op t a b) λv=>EM.ret (.val v σ)
 | .unOp op _ x=>EM.bind (ofO (opC σ x)) λc=>yT σ (EM.bind (fg c) λa=>EM.bind (emit (.un op) [a]) λr=>EM.ret (.c (.a r)))
 | .convert src dst x=>EM.bind (ofO (opC σ x)) λc=>yT σ (OS P src dst c)
 | .lookup t x i ok=>EM.bind (ofO (opC σ x)) λa=>EM.bind (ofO (opW σ i)) λk=>EM.bind (DW P σ t a k ok) λv=>EM.ret (.val v σ)
 | .mapUpdate t x k v| .insert t x k v=>EM.bind (ofO (opC σ x)) λa=>EM.bind (ofO (opW σ k)) λk=>EM.bind (ofO (opW σ v)) λv=>EM.bind (xl P σ t a k v) λσ'=>EM.ret (.val (.tup []) σ')
 | .makeMap t none=>match CD P t with
  |some T=>EM.ret (.val (.w (.c (.mp σ.nb))) (σ.new (.map (.c (.sl [])) T.ka T.ks.length T.va)))
  |none=>fail
 | .makeFunc (.func g) a c=>EM.bind (ofO (CE σ a.toList)) λf=>EM.bind (ofO (CE σ c.toList)) λcs=>EM.ret (.val (.w (.c (.fn g f cs))) σ)
 | .makeSlice t l c=>EM.bind (ofO (opC σ l)) λa=>EM.bind (ofO (opC σ c)) λb=>AX (xk P σ t a b)
 | .slice t x lo hi none=>EM.bind (ofO (opC σ x)) λa=>EM.bind (ofO (J2 σ lo)) λl=>EM.bind (ofO (J2 σ hi)) λh=>yU σ (J3 P σ t a l h)
 | .slice t x lo (some hi) (some mx)=>EM.bind (ofO (opC σ x)) λa=>EM.bind (ofO (J2 σ lo)) λl=>EM.bind (ofO (opC σ hi)) λh=>EM.bind (ofO (opC σ mx)) λm=>yU σ (DU P σ t a l h m)
 | .fieldAddr t x i=>EM.bind (ofO (opC σ x)) λa=>yU σ (xj P t a i)
 | .field t x i=>EM.bind (ofO (opW σ x)) λa=>yT σ (JZ P t a i)
 | .indexAddr t x i=>EM.bind (ofO (opC σ x)) λa=>EM.bind (ofO (opC σ i)) λb=>yU σ (xh P σ t a b)
 | .index t x i=>EM.bind (ofO (opW σ x)) λa=>EM.bind (ofO (opC σ i)) λb=>yT σ (J1 P σ t a b)
 | .extract x i=>EM.bind (ofO (opS σ x)) λv=>match v with
  | .tup ws=>EM.bind (ofO ws[i]?) λw=>EM.ret (.val (.w w) σ)
  |_=>fail
 | .call c=>EM.bind (ofO (OP σ c.args.toList)) λargs=>match c.callee with
  | .builtin b=>AX (s7 P σ b c.argTypes.toList args)
  | .value x=>EM.bind (ofO (opC σ x)) λf=>match f with
   | .fn g a cs=>match OV P g with
    |true=>match a,cs,args with
     |[],[],[.c x,.c y,.c z]=>EM.bind (fg x) λx=>EM.bind (fg y) λy=>EM.bind (fg z) λz=>EM.bind (emit .add64 [x,y,z]) λr=>EM.ret (.val (.tup [.c (.pc r 0),.c (.pc r 1)]) σ)
     |_,_,_=>fail
    |false=>EM.ret (.call g (a.map Cap.w++args++cs.map Cap.w))
   |_=>fail
  |_=>fail
 |_=>fail
abbrev eN:=Option Nat
inductive LK where
 |lst (z:Nat)
 |map (ka:Bool) (nk:Nat) (va:Bool)
 |pre (z:Nat)
def LK.b:LK->LK
 | .pre z=> .lst z
 |k=>k
def LK.plain:LK->Bool
 | .pre _=>false
 |_=>true
structure Ld where
 i:Nat
 c:Nat
 k:LK
 gv:Bool:=false
def OW (c:Nat):SW->Option (SC×SW)
 | .c x=>match c with
  |0=>some (x,.c .nil)
  |_=>none
 | .agg cs=>match cs[c]? with
  |some x=>some (x,.agg (cs.set c .nil))
  |none=>none
 | .av _=>none
def vU (c:Nat):Nat->List SW->Option (SC×List SW)
 |_,[]=>none
 |0,w::ws=>match OW c w with
  |some (x,w')=>some (x,w'::ws)
  |none=>none
 |i+1,w::ws=>match vU c i ws with
  |some (x,ws')=>some (x,w::ws')
  |none=>none
def OX (σ:SS)(k:LK):SC->Option (Nat×SB×A×A)
 | .lsl b o n=>match look σ.bl b with
  |some (.lst l nl z false)=>match k with
   | .lst z'=>match pJ o&& A.eq n nl&& Nat.beq z z' with
    |true=>some (b,.lst l nl z false,l,n)
    |false=>none
   | .pre z'=>match pJ o&& Nat.beq z z' with
    |true=>some (b,.lst l nl z false,l,n)
    |false=>none
   |_=>none
  |_=>none
 | .mp b=>match look σ.bl b with
  |some (.map l ka nk va)=>match k with
   | .map ka' nk' va'=>match bq ka ka'&& Nat.beq nk nk'&& bq va va' with
    |true=>some (b,.map l ka nk va,l,.x 0)
    |false=>none
   |_=>none
  |_=>none
 |_=>none
def Xm (k:LK)(l n:A):EM A:=match k with
 | .pre _=>emit .sub [l,.c (.i64 0),n]
 |_=>EM.ret l
def Xn (k:LK)(l y:A):EM A:=match k with
 | .pre z=>emit (.appK 0 z) [l,.c (.i64 0),y]
 |_=>EM.ret y
def sj:SB->A->SB
 | .lst _ n z f,y=> .lst y n z f
 | .map _ a n v,y=> .map y a n v
 |x,_=>x
def SS.lent (σ:SS)(b:Nat)(sb:SB):SS:={σ with bl:=put σ.bl b sb}
def SS.back (σ:SS)(gv:Bool)(b:Nat)(sb:SB):SS:=match gv with
 |true=>σ.kill b
 |false=>σ.lent b sb
def Xo (σ:SS)(k:LK)(nl:A):Option A:=match look σ.bl 0 with
 |some (.lst l n z false)=>match k with
  | .lst z'=>match A.eq n nl&& Nat.beq z z' with
   |true=>some l
   |false=>none
  |_=>none
 |some (.map l ka nk va)=>match k with
  | .map ka' nk' va'=>match bq ka ka'&& Nat.beq nk nk'&& bq va va' with
   |true=>some l
   |false=>none
  |_=>none
 |_=>none
structure Dcf where
 P:Program
 inl:FuncId->Bool
 slots:FuncId->List (List eN)
 lend:FuncId->Option Ld:=λ_=>none
 loud:Bool:=false
def Dcf.na (D:Dcf)(g:FuncId)(fn:Func):Nat:=fn.params.size+match D.lend g with
 |some _=>1
 |none=>0
def Dcf.nr (D:Dcf)(g:FuncId)(fn:Func):Nat:=fn.resultTypes.size+match D.lend g with
 |some _=>1
 |none=>0
def J6 (σ:SS)(z:Nat)(c:A):EM (SC×SS):=EM.bind (emit .len [c]) λn=>EM.ret (.lsl σ.nb (.c (.i64 0)) n,σ.new (.lst c n z false))
def Ab (σ:SS)(y:A):Nat->List eN->EM (List SC×SS)
 |_,[]=>EM.ret ([],σ)
 |i,some z::ts=>EM.bind (emit (.cell i) [y]) λc=>EM.bind (J6 σ z c) λp=>EM.bind (Ab p.2 y (i+1) ts) λq=>EM.ret (p.1::q.1,q.2)
 |i,none::ts=>EM.bind (Ab σ y (i+1) ts) λq=>EM.ret (.pc y i::q.1,q.2)
def J7 (P:Program)(σ:SS)(t:TypeId)(ts:List eN)(y:A):EM (SW×SS):=
 match b7 P t with
 |some true=>match ts with
  |[]=>EM.ret (.av y,σ)
  |ts=>EM.bind (q9 ts.length y) λy'=>EM.bind (Ab σ y' 0 ts) λp=>EM.ret (.agg p.1,p.2)
 |some false=>match ts with
  |[]=>EM.ret (.c (.a y),σ)
  |[some z]=>EM.bind (J6 σ z y) λp=>EM.ret (.c p.1,p.2)
  |_=>fail
 |none=>fail
def Ac (P:Program)(σ:SS):List TypeId->List (List eN)->Nat->EM (List SW×SS)
 |[],_,_=>EM.ret ([],σ)
 |t::tys,ts,y=>EM.bind (J7 P σ t (ts.headD []) (.x y)) λp=>EM.bind (Ac P p.2 tys ts.tail (y+1)) λq=>EM.ret (p.1::q.1,q.2)
def xm:List SW->SV
 |[w]=> .w w
 |ws=> .tup ws
def xn (P:Program)(σ:SS):List ResultVar->EM (List SW)
 |[]=>EM.ret []
 | .tmp t::rs=>EM.bind (ofO (opW σ (.tmp t))) λw=>EM.bind (xn P σ rs) λl=>EM.ret (w::l)
 | .cell a t::rs=>EM.bind (ofO (opC σ (.tmp a))) λp=>EM.bind (z8 P σ t p) λw=>EM.bind (xn P σ rs) λl=>EM.ret (w::l)
def J8 (σ:SS):eN->SC->EM (A×List Nat×List Nat)
 |none,c=>EM.bind (mR σ c) λq=>EM.ret (q.1,q.2,[])
 |some z,c=>match c with
  | .nil=>match Nat.ble 1 z with
   |true=>EM.ret (.c (.sl []),[],[])
   |false=>fail
  | .lsl b o n=>match look σ.bl b with
   |some (.lst l _ z' false)=>match pJ o&& Nat.beq z z' with
    |true=>EM.bind (emit .sub [l,o,n]) λy=>EM.ret (y,[],[b])
    |false=>fail
   |_=>fail
  |_=>fail
def FQ (σ:SS):List eN->List SC->EM (List A×List Nat×List Nat)
 |[],[]=>EM.ret ([],[],[])
 |s::ss,c::cs=>EM.bind (J8 σ s c) λp=>EM.bind (FQ σ ss cs) λq=>EM.ret (p.1::q.1,p.2.1++q.2.1,p.2.2++q.2.2)
 |_,_=>fail
def UZ (P:Program)(σ:SS)(t:TypeId)(ts:List eN)(w:SW):EM (A×List Nat×List Nat):=
 match b7 P t with
 |some true=>match w with
  | .c _=>fail
  | .av x=>match ts with
   |[]=>EM.ret (x,[],[])
   |_=>fail
  | .agg cs=>match ts with
   |[]=>EM.bind (Aa σ (.agg cs)) λq=>EM.ret (q.1,q.2,[])
   |ts=>EM.bind (FQ σ ts cs) λq=>EM.bind (emit .agg q.1) λy=>EM.ret (y,q.2)
 |some false=>match w with
  | .c c=>match ts with
   |[]=>J8 σ none c
   |[s]=>J8 σ s c
   |_=>fail
  |_=>fail
 |none=>fail
def FR (P:Program)(σ:SS):List TypeId->List (List eN)->List SW->EM (List A×List Nat×List Nat)
 |[],_,[]=>EM.ret ([],[],[])
 |t::tys,ts,w::ws=>EM.bind (UZ P σ t (ts.headD []) w) λp=>EM.bind (FR P σ tys ts.tail ws) λq=>EM.ret (p.1::q.1,p.2.1++q.2.1,p.2.2++q.2.2)
 |_,_,_=>fail
def CF:List Nat->Bool
 |[]=>true
 |b::bs=>!bs.elem b&& CF bs
structure Fn where
 res:List ResultVar
 tys:List TypeId
 slots:List (List eN)
 ld:Option (LK×A):=none
 gv:Bool:=false
def Fn.lo (F:Fn):Nat:=match F.ld with
 |some _=>1
 |none=>0
def J9 (P:Program)(F:Fn)(σ:SS):EM (List A):=
 EM.bind (xn P σ F.res) λws=>EM.bind (FR P σ F.tys F.slots ws) λq=>match CF q.2.2&& q.2.2.all (λb=>!q.2.1.elem b) with
  |true=>match F.ld with
   |none=>EM.ret q.1
   |some (k,nl)=>match F.gv with
    |true=>EM.ret (q.1++[.c (.sl [])])
    |false=>match q.2.1.elem 0||q.2.2.elem 0 with
     |true=>fail
     |false=>match Xo σ k nl with
      |some l=>EM.ret (q.1++[l])
      |none=>fail
  |false=>fail
structure Tm where
 p:Nat
 tm:List (Nat×SV)
 bl:List (Nat×SB)
 nb:Nat
 deriving Inhabited
def Tm.st (T:Tm)(σ:SS):SS:={σ with tm:=T.tm,bl:=T.bl,nb:=T.nb}
structure Mt where
 as:List (Nat×A)
 rn:List (Nat×Option Nat)
 deriving Inhabited
def mA (m:Nat)(s:Mt)(t a:A):Option Mt:=
 match t with
 | .x i=>match Nat.ble m i with
  |true=>match look s.as i with
   |none=>some ⟨(i,a)::s.as,s.rn⟩
   |some b=>match A.eq a b with
    |true=>some s
    |false=>none
  |false=>match A.eq t a with
   |true=>some s
   |false=>none
 | .c _=>match A.eq t a with
  |true=>some s
  |false=>none
def oEq:Option Nat->Option Nat->Bool
 |none,none=>true
 |some a,some b=>Nat.beq a b
 |_,_=>false
def mB (s:Mt)(t:Nat)(b:Option Nat):Option Mt:=
 match look s.rn t with
 |some c=>match oEq b c with
  |true=>some s
  |false=>none
 |none=>some ⟨s.as,(t,b)::s.rn⟩
def U1 (m:Nat)(s:Mt):Cap->Cap->Option Mt
 | .ptr t o,.ptr b o'=>match Nat.beq o o' with
  |true=>mB s t (some b)
  |false=>none
 | .a t,.a a=>mA m s t a
 |_,_=>none
def CG (m:Nat)(s:Mt):List Cap->List Cap->Option Mt
 |[],[]=>some s
 |t::ts,c::cs=>match U1 m s t c with
  |some s=>CG m s ts cs
  |none=>none
 |_,_=>none
def mC (m:Nat)(s:Mt)(t c:SC):EM Mt:=
 match t with
 | .a ta=>EM.bind (fg c) λa=>ofO (mA m s ta a)
 | .pc tx i=>match c with
  | .pc x j=>match Nat.beq i j with
   |true=>ofO (mA m s tx x)
   |false=>fail
  |_=>fail
 | .nil=>match c with
  | .nil=>EM.ret s
  |_=>fail
 | .un=>EM.ret s
 | .ub .. =>fail
 | .ptr t o=>match c with
  | .ptr b o'=>match Nat.beq o o' with
   |true=>ofO (mB s t (some b))
   |false=>fail
  |_=>fail
 | .ep t i o=>match c with
  | .ep b j o'=>match Nat.beq o o' with
   |true=>match mB s t (some b) with
    |some s=>ofO (mA m s i j)
    |none=>fail
   |false=>fail
  |_=>fail
 | .tp l i o=>match c with
  | .tp k j o'=>match Nat.beq o o' with
   |true=>match mA m s l k with
    |some s=>ofO (mA m s i j)
    |none=>fail
   |false=>fail
  |_=>fail
 | .lsl t o n=>match c with
  | .lsl b o' n'=>match mB s t (some b) with
   |some s=>match mA m s o o' with
    |some s=>ofO (mA m s n n')
    |none=>fail
   |none=>fail
  | .nil=>match mB s t none with
   |some s=>match mA m s o (.c (.i64 0)) with
    |some s=>ofO (mA m s n (.c (.i64 0)))
    |none=>fail
   |none=>fail
  |_=>fail
 | .mp t=>match c with
  | .mp b=>ofO (mB s t (some b))
  |_=>fail
 | .fn g f cs=>match c with
  | .fn g' f' cs'=>match Nat.beq g g' with
   |true=>match CG m s f f' with
    |some s=>ofO (CG m s cs cs')
    |none=>fail
   |false=>fail
  |_=>fail
def mCs (m:Nat)(s:Mt):List SC->List SC->EM Mt
 |[],[]=>EM.ret s
 |t::ts,c::cs=>EM.bind (mC m s t c) λs=>mCs m s ts cs
 |_,_=>fail
def mW (m:Nat)(σ:SS)(s:Mt)(t w:SW):EM Mt:=
 match t with
 | .av ta=>match w with
  | .agg cs=>EM.bind (JX σ (.agg cs)) λa=>ofO (mA m s ta a)
  | .av a=>ofO (mA m s ta a)
  |_=>fail
 | .c t=>match w with
  | .c c=>mC m s t c
  |_=>fail
 | .agg ts=>match w with
  | .agg cs=>mCs m s ts cs
  | .av x=>EM.bind (q9 ts.length x) λy=>mCs m s ts (pcs y 0 ts.length)
  |_=>fail
def mWs (m:Nat)(σ:SS)(s:Mt):List SW->List SW->EM Mt
 |[],[]=>EM.ret s
 |t::ts,w::ws=>EM.bind (mW m σ s t w) λs=>mWs m σ s ts ws
 |_,_=>fail
def mV (m:Nat)(σ:SS)(s:Mt)(t v:SV):EM Mt:=
 match t with
 | .w t=>match v with
  | .w w=>mW m σ s t w
  |_=>fail
 | .tup ts=>match v with
  | .tup ws=>mWs m σ s ts ws
  |_=>fail
def mTm (m:Nat)(σ:SS)(s:Mt):List (Nat×SV)->EM Mt
 |[]=>EM.ret s
 |(t,v)::r=>match look σ.tm t with
  |some u=>EM.bind (mV m σ s v u) λs=>mTm m σ s r
  |none=>fail
def bEq:Bool->Bool->Bool
 |true,true=>true
 |false,false=>true
 |_,_=>false
def mBl (m:Nat)(σ:SS)(s:Mt):List (Nat×SB)->EM Mt
 |[]=>EM.ret s
 |(t,tb)::r=>match look s.rn t with
  |some (some b)=>match look σ.bl b with
   |some sb=>match tb,sb with
    | .box ts,.box cs=>EM.bind (mCs m s ts cs) λs=>mBl m σ s r
    | .lst tl tn z fz,.lst l n z' fz'=>match Nat.beq z z'&& bEq fz fz' with
     |true=>match mA m s tl l with
      |some s=>match mA m s tn n with
       |some s=>mBl m σ s r
       |none=>fail
      |none=>fail
     |false=>fail
    | .map tl ka nk va,.map l ka' nk' va'=>match bq ka ka'&& Nat.beq nk nk'&& bq va va' with
     |true=>match mA m s tl l with
      |some s=>mBl m σ s r
      |none=>fail
     |false=>fail
    |_,_=>fail
   |none=>fail
  |some none=>match tb with
   | .lst tl tn z false=>match Nat.ble 1 z with
    |true=>match mA m s tl (.c (.sl [])) with
     |some s=>match mA m s tn (.c (.i64 0)) with
      |some s=>mBl m σ s r
      |none=>fail
     |none=>fail
    |false=>fail
   |_=>fail
  |none=>fail
def FS (s:Mt)(m:Nat):Nat->Option (List A)
 |0=>some []
 |n+1=>match FS s m n with
  |some l=>match look s.as (m+n) with
   |some a=>some (l++[a])
   |none=>none
  |none=>none
def afh (T:Tm)(lo:Nat)(rn:List (Nat×Option Nat)):Bool:=Nat.ble lo T.nb&& rn.all λp=>Nat.ble (p.1+1) T.nb&&(Nat.ble lo p.1||oEq p.2 (some p.1))
def Ad:List (Nat×Option Nat)->Bool
 |[]=>true
 |(_,none)::r=>Ad r
 |(_,some b)::r=>!r.any (λp=>oEq p.2 (some b))&& Ad r
def akF (lo:Nat)(bl:List (Nat×SB)):List (Nat×Option Nat):=bl.filterMap λp=>match Nat.ble (p.1+1) lo with|true=>some (p.1,some p.1)|false=>none
def ahe (lo:Nat)(σ:SS)(bl:List (Nat×SB)):Bool:=bl.all λp=>Nat.ble lo p.1||(match p.2 with
 | .lst _ n _ _=>match look σ.bl p.1 with
  |some (.lst _ n' _ _)=>A.eq n n'
  |_=>false
 |_=>true)
def yV (m lo:Nat)(T:Tm)(σ:SS):EM (List A):=
 EM.bind (mTm m σ ⟨[],akF lo T.bl⟩ T.tm) λs=>EM.bind (mBl m σ s T.bl) λs=>match afh T lo s.rn&& Ad s.rn&& s.as.all (λp=>Nat.ble (p.1+1) (m+T.p))&& T.bl.all (λp=>Nat.ble (p.1+1) T.nb)&& ahe lo σ T.bl with
  |true=>ofO (FS s m T.p)
  |false=>fail
inductive AExit where
 |normal
 |exit (id:Nat)
 |ret
inductive SF where
 |seq (c:Code)
 |tl (ops:Array Oper) (rest:List Oper)
 |block (id:Nat)
 |J (j m:Nat) (T:Tm)
 |inl (nb n:Nat) (tm:List (Nat×SV)) (dst:Option Tmp) (ops:Array Oper) (rest:List Oper) (res:List ResultVar)
def loK (n:Nat):List SF->Nat
 |[]=>n
 | .inl nb .. ::_=>nb
 |_::κ=>loK n κ
structure FP where
 F:List Nat
 W:List Nat
inductive Tk where
 |code (c:Code)
 |pop (e:AExit)
 |ops (ops:Array Oper) (rest:List Oper)
 |dops (ops:Array Oper) (rest:List Oper) (fs:List FP)
inductive Hint where
 |no
 |j (f:SS->Tm)
 deriving Inhabited
def CH {α:Type}(ch l:List (Nat×α)):List Nat->List (Nat×α)
 |[]=>[]
 |t::r=>match look ch t with
  |some v=>(t,v)::CH ch l r
  |none=>match look l t with
   |some v=>(t,v)::CH ch l r
   |none=>CH ch l r
def mkT (p nb:Nat)(ts:List Nat)(ch:List (Nat×SV))(bs:List Nat)(cb:List (Nat×SB))(σ:SS):Tm:=⟨p,CH ch σ.tm ts,CH cb σ.bl bs,nb⟩
def qv:List (RF×List A)->K->K
 |[],k=>k
 |(f,as)::r,k=> .lt f as (qv r k)
def ow (ops:Array Oper):Bool:=ops.toList.any λo=>o.guard.isSome
def SS.setT (σ:SS)(dst:Option Tmp)(v:SV):Option SS:=
 match dst with
 |none=>some σ
 |some t=>match Nat.ble (t+1) σ.n with
  |true=>some {σ with tm:=put σ.tm t v}
  |false=>none
inductive Gd where
 |go (b:Bool)
 |ask (i:Nat)
def s8 (ops:Array Oper)(σ:SS)(o:Oper):Option Gd:=
 match o.guard with
 |none=>some (.go true)
 |some (j,want)=>match(ops[j]?).bind (·.dst) with
  |none=>none
  |some t=>match opS σ (.tmp t) with
   |some (.w (.c (.a (.c (.v (.bool b))))))=>some (.go (b==want))
   |some (.w (.c (.a (.x i))))=>some (.ask i)
   |some (.tup [])=>some (.go false)
   |_=>none
structure Ores where
 pre:rI
 cal:Option (FuncId×List A×rI)
 sv:SV
 σ:SS
 m:Nat
def Ores.k (r:Ores)(k:K):K:=qv r.pre (match r.cal with
 |none=>k
 |some (g,as,l)=> .call g as (qv l k))
def OY (P:Program)(g:FuncId):Bool:=match P.funcs[g]? with
 |some fn=>fn.body.isSome&&(fn.name== "runtime.NumGoroutine")==false
 |none=>false
def SS.wz (σ0 σ:SS)(z:Szs):SS:={σ with n:=σ0.n,tm:=σ0.tm,sz:=z}
def OZ (P:Program):List TypeId->Nat->EM (List SW)
 |[],_=>EM.ret []
 |t::ts,y=>EM.bind (emit .flat [.x y]) λa=>EM.bind (OZ P ts (y+1)) λr=>match b7 P t with
  |some true=>EM.ret (.av a::r)
  |some false=>EM.ret (.c (.a a)::r)
  |none=>fail
def afi (D:Dcf)(σ:SS)(g:FuncId)(fn:Func)(bs:List Nat):Bool:=
 bs.any (λb=>match look σ.bl b with
  |some (.lst _ _ _ false)=>true
  |_=>false)&& fn.resultTypes.toList.all (λt=>(jB D.P 10 t).isSome)&&(D.slots g).all (·.isEmpty)
def CI (P:Program):List TypeId->List (List eN)->Nat->EM Unit
 |[],_,_=>EM.ret ()
 |t::ts,ss,y=>match ss.headD [] with
  |[]=>EM.bind (emit .flat [.x y]) λ_=>CI P ts ss.tail (y+1)
  |[some _]=>match b7 P t with
   |some false=>EM.bind (emit .flatL [.x y]) λ_=>CI P ts ss.tail (y+1)
   |_=>fail
  |_=>fail
def SD (P:Program):List TypeId->List (List eN)->Bool
 |[],_=>true
 |t::ts,ss=>SD P ts ss.tail&& match ss.headD [] with
  |[]=>(jB P 10 t).isSome
  |[some _]=>match P.underlying t with
   |some (.slice e)=>(jB P 10 e).isSome
   |_=>false
  |_=>false
def ahf (D:Dcf)(σ:SS)(g:FuncId)(fn:Func)(bs:List Nat):Bool:=
 bs.any (λb=>match look σ.bl b with
  |some (.lst _ _ _ false)=>true
  |_=>false)&& SD D.P fn.resultTypes.toList (D.slots g)
def pK (D:Dcf)(σ:SS)(op:Op)(m:Nat):Option Ores:=
 match opE D.P σ op m σ.sz with
 |some (.val sv σ',l,z)=>some ⟨l,none,sv,σ.wz σ' (z++σ.sz),m+l.length⟩
 |some (.call g args,l,z)=>match D.inl g||!OY D.P g with
  |true=>none
  |false=>match D.lend g with
  |some ld=>match vU ld.c ld.i args with
   |some (x,args')=>match OX σ ld.k x with
    |some (b,sb,l0,n0)=>match vR σ args' (m+l.length) (z++σ.sz) with
     |some ((as,bs),l2,z2)=>match bs.elem b with
      |true=>none
      |false=>match D.P.funcs[g]? with
       |some fn=>match Xm ld.k l0 n0 (m+l.length+l2.length) (z2++(z++σ.sz)) with
        |some (lc,lp,zp)=>match Xn ld.k l0 (.x (m+(l++l2++lp).length+fn.resultTypes.size)) (m+(l++l2++lp).length+(fn.resultTypes.size+1)) (zp++(z2++(z++σ.sz))) with
         |some (ld',lq,zq)=>match Ac D.P ((dF σ bs).back ld.gv b (sj sb ld')) fn.resultTypes.toList (D.slots g) (m+(l++l2++lp).length) (m+(l++l2++lp).length+(fn.resultTypes.size+1)+lq.length) (zq++(zp++(z2++(z++σ.sz)))) with
          |some ((ws,σ'),l3,z3)=>some ⟨l++l2++lp,some (g,as++[lc],lq++l3),xm ws,σ.wz σ' (z3++(zq++(zp++(z2++(z++σ.sz))))),m+(l++l2++lp).length+(fn.resultTypes.size+1)+(lq++l3).length⟩
          |none=>none
         |none=>none
        |none=>none
       |none=>none
     |none=>none
    |none=>none
   |none=>none
  |none=>match vR σ args (m+l.length) (z++σ.sz) with
   |some ((as,bs),l2,z2)=>match D.P.funcs[g]? with
    |some fn=>match afi D σ g fn bs with
     |true=>match OZ D.P fn.resultTypes.toList (m+l.length+l2.length) (m+l.length+l2.length+fn.resultTypes.size) (z2++(z++σ.sz)) with
      |some (ws,l3,z3)=>some ⟨l++l2,some (g,as,l3),xm ws,σ.wz σ (z3++(z2++(z++σ.sz))),m+l.length+l2.length+fn.resultTypes.size+l3.length⟩
      |none=>none
     |false=>match ahf D σ g fn bs with
      |true=>match CI D.P fn.resultTypes.toList (D.slots g) (m+l.length+l2.length) (m+l.length+l2.length+fn.resultTypes.size) (z2++(z++σ.sz)) with
       |some (_,lq,zq)=>match Ac D.P σ fn.resultTypes.toList (D.slots g) (m+l.length+l2.length) (m+l.length+l2.length+fn.resultTypes.size+lq.length) (zq++(z2++(z++σ.sz))) with
        |some ((ws,σ'),l3,z3)=>some ⟨l++l2,some (g,as,lq++l3),xm ws,σ.wz σ' (z3++(zq++(z2++(z++σ.sz)))),m+l.length+l2.length+fn.resultTypes.size+(lq++l3).length⟩
        |none=>none
       |none=>none
      |false=>match Ac D.P (dF σ bs) fn.resultTypes.toList (D.slots g) (m+l.length+l2.length) (m+l.length+l2.length+fn.resultTypes.size) (z2++(z++σ.sz)) with
       |some ((ws,σ'),l3,z3)=>some ⟨l++l2,some (g,as,l3),xm ws,σ.wz σ' (z3++(z2++(z++σ.sz))),m+l.length+l2.length+fn.resultTypes.size+l3.length⟩
       |none=>none
    |none=>none
   |none=>none
 |none=>none
def bfr (B:Array Nat)(i j:Nat):Bool:=(B.getD j 0).testBit i
def CJ (ops:Array Oper)(k:Nat):Bool:=(List.range ops.size).all λi=>Nat.blt i k||(List.range i).all λj=>bfr (Region.before ops) j i
def vV (ops:Array Oper)(o:Oper):List Tmp:=o.dst.toList++Oper.looksAt ops o
def SE (ops:Array Oper)(B:Array Nat):Bool:=
 let l:=ops.toList.zipIdx
 l.all λ(o,j)=>l.all λ(o',i)=>i==j||(match o'.dst with
  |none=>true
  |some d=>!(vV ops o).contains d||bfr B (min i j) (max i j))
def jH (ops:Array Oper):Bool:=ops.toList.zipIdx.all λ(o,i)=>o.after.all λe=>!Region.binds .any e||decide (e.on<i)
def oy (ops:Array Oper)(B:Array Nat):Bool:=jH ops&& SE ops B&& Region.noSelect ops
def Xp:Cap->List Nat
 | .ptr b _=>[b]
 | .a _=>[]
def nmC:SC->List Nat
 | .ptr b _| .ep b _ _| .lsl b _ _| .mp b=>[b]
 | .fn _ f c=>f.flatMap Xp++c.flatMap Xp
 |_=>[]
def nmW:SW->List Nat
 | .c x=>nmC x
 | .av _=>[]
 | .agg cs=>cs.flatMap nmC
def nmV:SV->List Nat
 | .w w=>nmW w
 | .tup ws=>ws.flatMap nmW
def nmO (σ:SS):Operand->List Nat
 | .tmp t=>match look σ.tm t with
  |some v=>nmV v
  |none=>[]
 |_=>[]
def eK (σ:SS)(op:Op):List Nat:=match op with
 | .fieldAddr .. | .field .. | .move _| .assign _| .extract .. =>[]
 | .store _ p _=>match opC σ p with
  |some (.ptr b _)=>[b]
  |_=>op.operands.toList.flatMap (nmO σ)
 |_=>op.operands.toList.flatMap (nmO σ)
def Ka (op:Op):List Tmp:=op.operands.toList.filterMap λx=>match x with
 | .tmp t=>some t
 |_=>none
def SS.rs (σ:SS)(op:Op)(ns:List Nat):SS:={σ with bl:=σ.bl.filter (λp=>ns.elem p.1),tm:=σ.tm.filter λp=>(Ka op).elem p.1}
def CK (σ:SS)(ns:List Nat)(σ':SS):Bool:=Nat.ble σ.nb σ'.nb&& σ'.bl.all λp=>(ns.elem p.1&&(look σ.bl p.1).isSome)||(Nat.ble σ.nb p.1&& Nat.ble (p.1+1) σ'.nb)
def SS.mg (σ:SS)(ns:List Nat)(σ':SS):SS:={σ with bl:=σ'.bl++σ.bl.filter (λp=>!ns.elem p.1),nb:=σ'.nb}
def tc:Op->Bool
 | .move _| .assign _| .pick .. | .build .. | .load .. | .nilCheck _| .binOp .. | .unOp .. | .convert .. | .makeFunc .. | .slice .. | .fieldAddr .. | .field .. | .indexAddr .. | .index .. | .lookup .. | .extract .. =>true
 | .call c=>match c.callee with
  | .builtin .len| .builtin .max| .builtin .min=>true
  |_=>false
 |_=>false
def U2 (l k:List Nat):Bool:=l.all λx=>!k.elem x
def okF (B:Array Nat)(fs:List FP):Bool:=
 let l:=fs.zipIdx
 l.all λ(a,j)=>l.all λ(b,i)=>Nat.ble j i||bfr B i j||(U2 a.W b.F&& U2 b.W a.F)
def O0 (a b:Nat):List Nat:=(List.range (b-a)).map (a+·)
def xp (σ:SS)(op:Op)(r:Ores):FP:=⟨eK σ op++O0 σ.nb r.σ.nb,match tc op with|true=>[]|false=>eK σ op++O0 σ.nb r.σ.nb⟩
def both (i:Nat)(x:List Hint->Option (K×List Hint))(y:List Hint->Option (K×List Hint))(hs:List Hint):Option (K×List Hint):=
 match x hs with
 |some (k1,hs)=>match y hs with
  |some (k2,hs)=>some (.br (.x i) k1 k2,hs)
  |none=>none
 |none=>none
def O1 (i:A)(x:List Hint->Option (K×List Hint))(y z:List Hint->Option (K×List Hint))(hs:List Hint):Option (K×List Hint):=
 match x hs with
 |some (k1,hs)=>match y hs with
  |some (k2,hs)=>match z hs with
   |some (k3,hs)=>some (.br i (.amb k1 k2) k3,hs)
   |none=>none
  |none=>none
 |none=>none
def twice (x y:List Hint->Option (K×List Hint))(hs:List Hint):Option (K×List Hint):=
 match x hs with
 |some (k1,hs)=>match y hs with
  |some (k2,hs)=>some (.amb k1 k2,hs)
  |none=>none
 |none=>none
def mS (σ:SS)(i:Nat)(p:PV):SS:={σ with fc:=(i,p)::σ.fc}
def yW (i:Nat):List Int->Nat->(PV->Nat->List Hint->Option (K×List Hint))->List Hint->Option (K×List Hint)
 |[],_,_,hs=>some (.dead,hs)
 |c::cs,m,f,hs=>match f (.i64 c) (m+1) hs with
  |some (k1,hs)=>match yW i cs (m+1) f hs with
   |some (k2,hs)=>some (.lt (.bin .eql) [.x i,.c (.i64 c)] (.br (.x m) k1 k2),hs)
   |none=>none
  |none=>none
def SG (P:Program)(σ:SS):Op->Option (Nat×List Int)
 | .indexAddr t _ y .. =>match P.underlying t with
  |some (.array len _)=>match opC σ y with
   |some (.a (.x i))=>match Nat.ble len 8 with
    |true=>some (i,(List.range len).map Int.ofNat)
    |false=>none
   |_=>none
  |_=>none
 |_=>none
def O2 (j m' lo:Nat)(T:Tm)(σ:SS)(m:Nat):Option K:=match yV m' lo T σ m σ.sz with
 |some (vs,l,_)=>some (qv l (.jmp j vs))
 |none=>none
def uq (h:Hint)(σ:SS)(m jc:Nat)(κ:List SF)(hs:List Hint)(body:List SF->Nat->List Hint->Option (K×List Hint))(rest:Tm->List Hint->Option (K×List Hint)):Option (K×List Hint):=
 match h with
 | .no=>body κ jc hs
 | .j f=>match body (.J jc m (f σ)::κ) (jc+1) hs with
  |some (k,hs)=>match rest (f σ) hs with
   |some (d,hs)=>some (.jp d k,hs)
   |none=>none
  |none=>none
def pL:Nat->List SW->List (Nat×SV)
 |_,[]=>[]
 |i,w::ws=>(i,.w w)::pL (i+1) ws
def Xq (D:Dcf)(σ:SS)(op:Op)(m:Nat):Option (Func×Code×List SW×rI×Szs):=
 match opE D.P σ op m σ.sz with
 |some (.call g args,l,z)=>match D.inl g with
  |true=>match D.P.funcs[g]? with
   |some fn=>match fn.body with
    |some c=>match decide (args.length<=fn.ntmps/\(fn.name== "runtime.NumGoroutine")=false) with
     |true=>some (fn,c,args,l,z++σ.sz)
     |false=>none
    |none=>none
   |none=>none
  |false=>none
 |_=>none
def Xr (D:Dcf)(σ:SS)(o:Oper):Bool:=match o.op with
 | .call c=>match c.callee with
  | .value x=>match opC σ x with
   |some (.fn g _ _)=>D.inl g
   |_=>false
  |_=>false
 |_=>false
def U3 (D:Dcf)(σ:SS)(ops:Array Oper):Option Nat:=match ops.toList.any (Xr D σ) with
 |false=>none
 |true=>(List.range (ops.size+1)).find? (CJ ops)
def nop:Oper:=⟨none,.move (.const (.bool true)),0, "",#[],none⟩
def FU:Op->Bool
 | .move _| .assign _| .load .. =>true
 |_=>false
def Xs (ops:Array Oper)(j f:Nat):Bool:=(match ops[f]? with
 |some o=>o.after.all λe=>!Region.binds .any e
 |none=>false)&&(List.range j).all λi=>Nat.beq i f||bfr (Region.before ops) i j&& match ops[i]? with
  |some o=>FU o.op
  |none=>false
def U4 (D:Dcf)(σ:SS)(ops:Array Oper):Nat->Option (Nat×Nat)
 |0=>none
 |j+1=>match ops[j]? with
  |some o=>match Xr D σ o with
   |true=>match(List.range j).find? (Xs ops j) with
    |some f=>some (j,f)
    |none=>none
   |false=>none
  |none=>none
def ly (ops:Array Oper)(j f:Nat):Array Oper:=(ops.extract 0 j).setIfInBounds f nop
def CM (ops:Array Oper)(j f:Nat):List Oper:=ops.toList[j]?.toList++(ops.toList[f]?.toList++ops.toList.drop (j+1))
def sOk (ops:Array Oper):Bool:=oy ops (Region.before ops)
def sym (D:Dcf)(F:Fn):Nat->Tk->SS->Nat->List SF->Nat->List Hint->Option (K×List Hint)
 |0,_,_,_,_,_,_=>none
 |n+1,.code c,σ,m,κ,jc,hs=>
  match c with
  | .skip=>sym D F n (.pop .normal) σ m κ jc hs
  | .label _=>sym D F n (.pop .normal) σ m κ jc hs
  | .exit id=>sym D F n (.pop (.exit id)) σ m κ jc hs
  | .ret=>sym D F n (.pop .ret) σ m κ jc hs
  | .scope b=>sym D F n (.code b) σ m κ jc hs
  | .seq a b=>sym D F n (.code a) σ m (.seq b::κ) jc hs
  | .region _ ops draw=>match draw with
   |false=>match ow ops with
    |false=>sym D F n (.ops ops ops.toList) σ m κ jc hs
    |true=>match hs with
     |h::hs=>uq h σ m jc κ hs (λκ jc hs=>sym D F n (.ops ops ops.toList) σ m κ jc hs) (λT hs=>sym D F n (.pop .normal) (T.st σ) (m+T.p) κ jc hs)
     |[]=>none
   |true=>match oy ops (Region.before ops) with
    |false=>none
    |true=>match ow ops with
     |false=>match U3 D σ ops with
      |none=>sym D F n (.dops ops ops.toList []) σ m κ jc hs
      |some k=>match U4 D σ ops k with
       |none=>match oy (ops.extract 0 k) (Region.before (ops.extract 0 k)) with
        |false=>none
        |true=>sym D F n (.dops (ops.extract 0 k) (ops.extract 0 k).toList []) σ m (.tl ops (ops.toList.drop k)::κ) jc hs
       |some (j,f)=>match sOk (ops.extract 0 j)&& sOk (ly ops j f) with
        |false=>none
        |true=>match hs with
         |h::hs=>uq h σ m jc κ hs (λκ jc hs=>twice (λhs=>sym D F n (.dops (ops.extract 0 j) (ops.extract 0 j).toList []) σ m (.tl ops (ops.toList.drop j)::κ) jc hs) (λhs=>sym D F n (.dops (ly ops j f) (ly ops j f).toList []) σ m (.tl ops (CM ops j f)::κ) jc hs) hs) (λT hs=>sym D F n (.pop .normal) (T.st σ) (m+T.p) κ jc hs)
         |[]=>none
     |true=>match hs with
      |h::hs=>uq h σ m jc κ hs (λκ jc hs=>sym D F n (.dops ops ops.toList []) σ m κ jc hs) (λT hs=>sym D F n (.pop .normal) (T.st σ) (m+T.p) κ jc hs)
      |[]=>none
  | .cond x t e=>match opC σ x with
   |some (.a (.c (.v (.bool b))))=>sym D F n (.code (if b then t else e)) σ m κ jc hs
   |some (.a (.x i))=>match hs with
    |h::hs=>uq h σ m jc κ hs (λκ jc hs=>both i (λhs=>sym D F n (.code t) (mS σ i (.bool true)) m κ jc hs) (λhs=>sym D F n (.code e) (mS σ i (.bool false)) m κ jc hs) hs) (λT hs=>sym D F n (.pop .normal) (T.st σ) (m+T.p) κ jc hs)
    |[]=>none
   |some (.ub x s)=>match hs with
    |h::hs=>uq h σ m jc κ hs (λκ jc hs=>O1 x (λhs=>sym D F n (.code t) σ m κ jc hs) (λhs=>sym D F n (.code e) σ m κ jc hs) (λhs=>sym D F n (.code (if s then t else e)) σ m κ jc hs) hs) (λT hs=>sym D F n (.pop .normal) (T.st σ) (m+T.p) κ jc hs)
    |[]=>none
   |_=>none
  | .block id b=>match hs with
   |h::hs=>uq h σ m jc κ hs (λκ jc hs=>sym D F n (.code b) σ m (.block id::κ) jc hs) (λT hs=>sym D F n (.pop .normal) (T.st σ) (m+T.p) κ jc hs)
   |[]=>none
  | .loop b=>match hs with
   | .j f::hs=>match O2 jc m (loK F.lo κ) (f σ) σ m with
    |some k=>match sym D F n (.code b) ((f σ).st σ) (m+(f σ).p) (.J jc m (f σ)::κ) (jc+1) hs with
     |some (d,hs)=>some (.loop d k,hs)
     |none=>none
    |none=>none
   |_=>none
  |_=>none
 |n+1,.pop e,σ,m,κ,jc,hs=>
  match κ with
  |[]=>match e with
   | .exit _=>none
   |_=>match J9 D.P F σ m σ.sz with
    |some (vs,l,_)=>some (qv l (.ret vs),hs)
    |none=>none
  | .seq c::κ=>match e with
   | .normal=>sym D F n (.code c) σ m κ jc hs
   |e=>sym D F n (.pop e) σ m κ jc hs
  | .tl ops rest::κ=>match e with
   | .normal=>sym D F n (.ops ops rest) σ m κ jc hs
   |e=>sym D F n (.pop e) σ m κ jc hs
  | .block id::κ=>match e with
   | .exit id'=>match Nat.beq id' id with
    |true=>sym D F n (.pop .normal) σ m κ jc hs
    |false=>sym D F n (.pop (.exit id')) σ m κ jc hs
   |e=>sym D F n (.pop e) σ m κ jc hs
  | .J j m' T::κ=>match e with
   | .normal=>match O2 j m' (loK F.lo κ) T σ m with
    |some k=>some (k,hs)
    |none=>none
   |e=>sym D F n (.pop e) σ m κ jc hs
  | .inl _ n' tm dst ops rest res::κ=>match e with
   | .exit _=>none
   |_=>match xn D.P σ res m σ.sz with
    |some (ws,l,z)=>match({σ with n:=n',tm:=tm,sz:=z++σ.sz}:SS).setT dst (xm ws) with
     |some σ'=>match sym D F n (.ops ops rest) σ' (m+l.length) κ jc hs with
      |some (k,hs)=>some (qv l k,hs)
      |none=>none
     |none=>none
    |none=>none
 |n+1,.ops ops rest,σ,m,κ,jc,hs=>
  match rest with
  |[]=>sym D F n (.pop .normal) σ m κ jc hs
  |o::os=>match s8 ops σ o with
   |none=>none
   |some (.ask i)=>both i (λhs=>sym D F n (.ops ops (o::os)) (mS σ i (.bool true)) m κ jc hs) (λhs=>sym D F n (.ops ops (o::os)) (mS σ i (.bool false)) m κ jc hs) hs
   |some (.go false)=>match σ.setT o.dst (.tup []) with
    |some σ'=>sym D F n (.ops ops os) σ' m κ jc hs
    |none=>none
   |some (.go true)=>match SG D.P σ o.op with
   |some (i,cs)=>yW i cs m (λp m' hs=>sym D F n (.ops ops (o::os)) (mS σ i p) m' κ jc hs) hs
   |none=>match Xq D σ o.op m with
    |some (fn,c,args,l,z)=>match sym D F n (.code c) {σ with n:=fn.ntmps,tm:=pL 0 args,sz:=z} (m+l.length) (.inl σ.nb σ.n σ.tm o.dst ops os fn.results.toList::κ) jc hs with
     |some (k,hs)=>some (qv l k,hs)
     |none=>none
    |none=>match pK D σ o.op m with
     |some r=>match r.σ.setT o.dst r.sv with
      |some σ'=>match sym D F n (.ops ops os) σ' r.m κ jc hs with
       |some (k,hs)=>some (r.k k,hs)
       |none=>none
      |none=>none
     |none=>some (.dead,hs)
 |n+1,.dops ops rest fs,σ,m,κ,jc,hs=>
  match rest with
  |[]=>match okF (Region.before ops) fs with
   |true=>sym D F n (.pop .normal) σ m κ jc hs
   |false=>none
  |o::os=>match s8 ops σ o with
   |none=>none
   |some (.ask i)=>both i (λhs=>sym D F n (.dops ops (o::os) fs) (mS σ i (.bool true)) m κ jc hs) (λhs=>sym D F n (.dops ops (o::os) fs) (mS σ i (.bool false)) m κ jc hs) hs
   |some (.go false)=>match σ.setT o.dst (.tup []) with
    |some σ'=>sym D F n (.dops ops os (fs++[⟨[],[]⟩])) σ' m κ jc hs
    |none=>none
   |some (.go true)=>match SG D.P σ o.op with
   |some (i,cs)=>yW i cs m (λp m' hs=>sym D F n (.dops ops (o::os) fs) (mS σ i p) m' κ jc hs) hs
   |none=>match pK D (σ.rs o.op (eK σ o.op)) o.op m with
    |some r=>match CK σ (eK σ o.op) r.σ with
     |true=>match(σ.mg (eK σ o.op) r.σ).setT o.dst r.sv with
      |some σ'=>match sym D F n (.dops ops os (fs++[xp σ o.op r])) σ' r.m κ jc hs with
       |some (k,hs)=>some (r.k k,hs)
       |none=>none
      |none=>none
     |false=>none
    |none=>some (.dead,hs)
def afj (P:Program)(t:TypeId)(i:Nat):SW:=match b7 P t with
 |some true=> .av (.x i)
 |_=> .c (.a (.x i))
def ur (P:Program):List TypeId->Nat->List SW
 |[],_=>[]
 |t::ts,i=>afj P t i::ur P ts (i+1)
def O3 (P:Program)(t:TypeId)(i c:Nat)(x:SC):EM SW:=match b7 P t with
 |some true=>match szT P t with
  |some k=>match Nat.ble (c+1) k with
   |true=>EM.bind (q9 k (.x i)) λy=>EM.ret (.agg ((pcs y 0 k).set c x))
   |false=>fail
  |none=>fail
 |some false=>match c with
  |0=>EM.ret (.c x)
  |_=>fail
 |none=>fail
def lk0 (n:Nat):LK->SC×A×SB×rI
 | .lst z=>(.lsl 0 (.c (.i64 0)) (.x (n+1)),.x (n+1),.lst (.x n) (.x (n+1)) z false,[(.len,[.x n])])
 | .map ka nk va=>(.mp 0,.x 0,.map (.x n) ka nk va,[])
 | .pre _=>(.un,.x 0,.box [],[])
def SH (D:Dcf)(g:FuncId)(fn:Func):Option (Fn×SS×Nat×rI):=match D.lend g with
 |none=>some (⟨fn.results.toList,fn.resultTypes.toList,D.slots g,none,false⟩,⟨fn.ntmps,pL 0 (ur D.P fn.params.toList 0),[],0,[],[]⟩,fn.params.size,[])
 |some ld=>match ld.k.plain with
  |false=>none
  |true=>match fn.params.toList[ld.i]? with
  |some t=>match O3 D.P t ld.i ld.c (lk0 fn.params.size ld.k).1 (fn.params.size+1+(lk0 fn.params.size ld.k).2.2.2.length) [] with
   |some (w,l,z)=>some (⟨fn.results.toList,fn.resultTypes.toList,D.slots g,some (ld.k,(lk0 fn.params.size ld.k).2.1),ld.gv⟩,⟨fn.ntmps,pL 0 ((ur D.P fn.params.toList 0).set ld.i w),[(0,(lk0 fn.params.size ld.k).2.2.1)],1,[],z⟩,fn.params.size+1+(lk0 fn.params.size ld.k).2.2.2.length+l.length,(lk0 fn.params.size ld.k).2.2.2++l)
   |none=>none
  |none=>none
def AY (D:Dcf)(fuel:Nat)(g:FuncId)(hs:List Hint):Option K:=
 match D.P.funcs[g]? with
 |some fn=>match fn.body with
  |some c=>match decide (fn.params.size<=fn.ntmps/\ fn.nfree=0/\(fn.name== "runtime.NumGoroutine")=false) with
   |true=>match SH D g fn with
    |some (F,σ,m,l)=>match sym D F fuel (.code c) σ m [] 0 hs with
     |some (k,_)=>some (qv l k)
     |none=>none
    |none=>none
   |false=>none
  |none=>none
 |none=>none
inductive F2 {α β:Type}(R:α->β->Prop):List α->List β->Prop
 |nil:F2 R [] []
 |cons {a:α} {b:β} {as:List α} {bs:List β} (h:R a b) (t:F2 R as bs):F2 R (a::as) (b::bs)
namespace F2
variable {α β:Type}{R R':α->β->Prop}
def mono (h:∀a b,R a b->R' a b):∀{as:List α} {bs:List β},F2 R as bs->F2 R' as bs
 |_,_,.nil=> .nil
 |_,_,.cons x t=> .cons (h _ _ x) (t.mono h)
def len:∀{as:List α} {bs:List β},F2 R as bs->as.length=bs.length
 |_,_,.nil=>rfl
 |_,_,.cons _ t=>by simp[t.len]
def append:∀{as cs:List α} {bs ds:List β},F2 R as bs->F2 R cs ds->F2 R (as++cs) (bs++ds)
 |_,_,_,_,.nil,k=>k
 |_,_,_,_,.cons x t,k=> .cons x (t.append k)
def take:∀{as:List α} {bs:List β} (n:Nat),F2 R as bs->F2 R (as.take n) (bs.take n)
 |_,_,0,_=>by simpa using .nil
 |_,_,_+1,.nil=>by simpa using .nil
 |_,_,n+1,.cons x t=>by simpa using .cons x (t.take n)
def drop:∀{as:List α} {bs:List β} (n:Nat),F2 R as bs->F2 R (as.drop n) (bs.drop n)
 |_,_,0,h=>by simpa using h
 |_,_,_+1,.nil=>by simpa using .nil
 |_,_,n+1,.cons x t=>by simpa using t.drop n
def get:∀{as:List α} {bs:List β},F2 R as bs->∀(i:Nat) (a:α),as[i]?=some a->∃b,bs[i]?=some b/\ R a b
 |_,_,.nil,i,a,h=>by simp at h
 |_,_,.cons x t,i,a,h=>by
  cases i with
  |zero=>simp at h;subst h;exact⟨_,rfl,x⟩
  |succ i=>simp at h;obtain⟨b,h1,h2⟩:=t.get i a h;exact⟨b,by simpa using h1,h2⟩
def get':∀{as:List α} {bs:List β},F2 R as bs->∀(i:Nat) (b:β),bs[i]?=some b->∃a,as[i]?=some a/\ R a b
 |_,_,.nil,i,a,h=>by simp at h
 |_,_,.cons x t,i,a,h=>by
  cases i with
  |zero=>simp at h;subst h;exact⟨_,rfl,x⟩
  |succ i=>simp at h;obtain⟨b,h1,h2⟩:=t.get' i a h;exact⟨b,by simpa using h1,h2⟩
end F2
section
variable {α:Type}
def ee (k i:Nat)(v:α)(l:List (Nat×α)):look ((k,v)::l) i=if k=i then some v else look l i:=by
 cases h:Nat.beq k i with
 |true=>rw[ad (bm h)];simp only[look,h]
 |false=>rw[ac (λe=>by rw[e,tJ] at h;cases h)];simp only[look,h]
def fB:∀{l:List (Nat×α)} {i:Nat} {v:α},look l i=some v->(i,v)∈l
 |[],i,v,h=>by cases h
 |(k,w)::l,i,v,h=>by
  rw[ee] at h;split at h
  .rename_i e;cases h;subst e;simp
  .exact aU _ (fB h)
def xq (l:List (Nat×α))(k i:Nat):look (del l k) i=if i=k then none else look l i:=by
 induction l with
 |nil=>simp[del,look]
 |cons p l ih=>
  obtain⟨j,v⟩:=p;unfold del;cases h:Nat.beq j k with
  |true=>
   have e:=bm h;simp only;rw[ih,ee];by_cases hi:i=k
   .rw[ad hi,ad hi]
   .rw[ac hi,ac hi,ac (λe'=>hi (by omega))]
  |false=>
   have e:j≠k:=λe=>by rw[e,tJ] at h;cases h
   simp only;rw[ee,ih,ee];by_cases hj:j=i
   .rw[ad hj,ac (by omega),ad hj]
   .rw[ac hj,ac hj]
def dO (l:List (Nat×α))(k i:Nat)(v:α):look (put l k v) i=if i=k then some v else look l i:=by
 unfold put;rw[ee,xq];by_cases h:k=i
 .rw[ad h,ad h.symm]
 .rw[ac h,ac (λe=>h e.symm),ac (λe=>h e.symm)]
end
section
variable {env:List PV}{α β:Type}
def gl (env:List PV)(m:Nat)(l:rI):Prop:=∀i f as,l[i]?=some (f,as)->∃vs v,evs env as=some vs/\ f.ev vs=some v/\ env[m+i]?=some v
def jC (env:List PV)(z:Szs):Prop:=∀p∈z,∃cs,env[p.1]?=some (.agg cs)/\ cs.length=p.2
def gl.left {m:Nat}{l k:rI}(h:gl env m (l++k)):gl env m l:=λi f as hi=>h i f as (by
 rw[aH (aC.1 hi).1];exact hi)
def gl.right {m:Nat}{l k:rI}(h:gl env m (l++k)):gl env (m+l.length) k:=λi f as hi=>by
 have:=h (l.length+i) f as (by rw[bP (by omega)];rw[show l.length+i-l.length=i by omega];exact hi)
 rw[dK];exact this
def jC.append {z z':Szs}(h:jC env z)(k:jC env z'):jC env (z++z'):=λp hp=>by
 rcases b9.1 hp with hp|hp
 .exact h p hp
 .exact k p hp
def jC.nil:jC env []:=λp hp=>by cases hp
def Sp (env:List PV)(x:EM α)(Q:α->Prop):Prop:=∀m z a l z',x m z=some (a,l,z')->gl env m l->jC env z->jC env z'/\ Q a
def Sp.mono {x:EM α}{P Q:α->Prop}(h:Sp env x P)(k:∀a,P a->Q a):Sp env x Q:=λm z a l z' e hl hz=>let⟨h1,h2⟩:=h m z a l z' e hl hz;⟨h1,k a h2⟩
def Sp.ret {a:α}{Q:α->Prop}(h:Q a):Sp env (EM.ret a) Q:=λm z b l z' e _ _=>by cases e;exact⟨.nil,h⟩
def Sp.fail {Q:α->Prop}:Sp env (fail:EM α) Q:=λm z b l z' e _ _=>by cases e
def Sp.ofO {o:Option α}{Q:α->Prop}(h:∀a,o=some a->Q a):Sp env (ofO o) Q:=by
 cases o with
 |none=>exact .fail
 |some a=>exact .ret (h a rfl)
def Sp.bind {x:EM α}{f:α->EM β}{P:α->Prop}{Q:β->Prop}(h:Sp env x P)(k:∀a,P a->Sp env (f a) Q):Sp env (EM.bind x f) Q:=by
 intro m z b l z' e hl hz;unfold EM.bind at e;split at e
 .rename_i a l1 z1 h1;split at e
  .rename_i b' l2 z2 h2;cases e;obtain⟨s1,p⟩:=h m z a l1 z1 h1 hl.left hz;obtain⟨s2,q⟩:=k a p _ _ _ _ _ h2 hl.right (s1.append hz);exact⟨s2.append s1,q⟩
  .cases e
 .cases e
def oc (env:List PV)(f:RF)(as:List A)(y:A):Prop:=∃vs v,evs env as=some vs/\ f.ev vs=some v/\ y.ev env=some v
def Sp.emit {f:RF}{as:List A}:Sp env (emit f as) (oc env f as):=by
 intro m z a l z' e hl _;cases e;obtain⟨vs,v,h1,h2,h3⟩:=hl 0 f as rfl;exact⟨.nil,vs,v,h1,h2,h3⟩
def Sp.emitN {f:RF}{as:List A}{n:Nat}(h:∀vs v,evs env as=some vs->f.ev vs=some v->∃cs,v= .agg cs/\ cs.length=n):Sp env (emitN n f as) (oc env f as):=by
 intro m z a l z' e hl _;cases e;obtain⟨vs,v,h1,h2,h3⟩:=hl 0 f as rfl;refine⟨λp hp=>?_,vs,v,h1,h2,h3⟩;simp at hp;subst hp;obtain⟨cs,rfl,h⟩:=h vs v h1 h2;exact⟨cs,h3,h⟩
def Sp.sizeOf {x:A}:Sp env (vQ x) (λk=>∀n,k=some n->∃cs,x.ev env=some (.agg cs)/\ cs.length=n):=by
 intro m z a l z' e _ hz;unfold vQ at e;cases e;refine⟨.nil,λn hn=>?_⟩;cases x with
 |x i=>obtain⟨cs,h1,h2⟩:=hz (i,n) (fB hn);exact⟨cs,h1,h2⟩
 |c p=>cases hn
def yX {a:A}{vs:List PV}(h:evs env [a]=some vs):∃v,a.ev env=some v/\ vs=[v]:=by
 simp only[evs] at h;split at h
 .rename_i v hv;cases h;exact⟨v,hv,rfl⟩
 .cases h
def DX {a b:A}{vs:List PV}(h:evs env [a,b]=some vs):∃v w,a.ev env=some v/\ b.ev env=some w/\ vs=[v,w]:=by
 simp only[evs] at h;split at h
 .rename_i v hv;split at h
  .rename_i ws hw;cases h;split at hw
   .rename_i w hw';cases hw;exact⟨v,w,hv,hw',rfl⟩
   .cases hw
  .cases h
 .cases h
def akG {a b c:A}{vs:List PV}(h:evs env [a,b,c]=some vs):∃u v w,a.ev env=some u/\ b.ev env=some v/\ c.ev env=some w/\ vs=[u,v,w]:=by
 unfold evs at h;split at h
 .rename_i u hu;split at h
  .rename_i ws hw;cases h;obtain⟨v,w,h1,h2,rfl⟩:=DX hw;exact⟨u,v,w,hu,h1,h2,rfl⟩
  .cases h
 .cases h
def DY {e':List PV}{a:A}{v:PV}(h:a.ev env=some v):a.ev (env++e')=some v:=by
 cases a with
 |x i=>
  simp only[A.ev] at h|-;rw[aH (aC.1 h).1];exact h
 |c p=>exact h
end
def one:Value->Bool
 | .agg _| .tuple _=>false
 |_=>true
def Rw (z:Nat)(els:List (List PV)):Prop:=∀r∈els,r.length=z/\ r.all t0=true
def Rw.l {z:Nat}{els:List (List PV)}(h:Rw z els):∀r∈els,r.length=z:=λr hr=>(h r hr).1
def Rw.sub {z:Nat}{els:List (List PV)}(h:Rw z els)(i n:Nat):Rw z ((els.drop i).take n):=λr hr=>h r (lI (jb hr))
def Rw.d {z:Nat}{els:List (List PV)}(h:Rw z els)(i:Nat):Rw z (els.drop i):=λr hr=>h r (lI hr)
def Rw.t {z:Nat}{els:List (List PV)}(h:Rw z els)(i:Nat):Rw z (els.take i):=λr hr=>h r (jb hr)
def Rw.app {z:Nat}{a b:List (List PV)}(h:Rw z a)(k:Rw z b):Rw z (a++b):=λr hr=>(b9.1 hr).elim (h r) (k r)
def Rw.ft {z:Nat}{els:List (List PV)}(h:Rw z els):els.flatten.all t0=true:=by
 rw[aV];intro p hp;obtain⟨r,h1,h2⟩:=List.mem_flatten.1 hp;exact aV.1 (h r h1).2 p h2
def iT (v:Value):Prop:=v= .slice none 0 0\/∃b o,v= .slice (some ⟨b,o,none⟩) 0 0
section
variable (w:World)(S:Nat->Prop)
mutual
inductive RT:Value->PV->Prop
 |v {x:Value} (h:jm x=true):RT x (.v x)
 |nil {v:Value} (h:iT v):RT v (.sl [])
 |sl {B o n cap z:Nat} {arr:Array Value} {ty:TypeId} {fz:Nat×Nat} {els:List (List PV)} (hS:S B) (hg:w.heap[B]?=some (.cells arr ty fz)) (hz:0<z) (hn:els.length=n) (hc:n<=cap) (hr:Rw z els)
  (he:RTs ((arr.toList.drop o).take (n*z)) els.flatten):RT (.slice (some ⟨B,o,none⟩) n cap) (.sl els)
 |agg {a:Array Value} {cs:List PV} (h:RTs a.toList cs) (ht:cs.all t0=true):RT (.agg a) (.agg cs)
inductive RTs:List Value->List PV->Prop
 |nil:RTs [] []
 |cons {v:Value} {p:PV} {vs:List Value} {ps:List PV} (h:RT v p) (t:RTs vs ps):RTs (v::vs) (p::ps)
end
end
def RTs.f2 {w:World}{S:Nat->Prop}:∀{vs:List Value} {ps:List PV},RTs w S vs ps->F2 (RT w S) vs ps
 |_,_,.nil=> .nil
 |_,_,.cons h t=> .cons h t.f2
def RTs.of {w:World}{S:Nat->Prop}:∀{vs:List Value} {ps:List PV},F2 (RT w S) vs ps->RTs w S vs ps
 |_,_,.nil=> .nil
 |_,_,.cons h t=> .cons h (RTs.of t)
structure Kp (w:World)(S:Nat->Prop)(w':World)(S':Nat->Prop):Prop where
 sub:∀B,S B->S' B
 get:∀B,S B->w'.heap[B]?=w.heap[B]?
def Kp.refl (w:World)(S:Nat->Prop):Kp w S w S:=⟨λ_ h=>h,λ_ _=>rfl⟩
def Kp.trans {w w' w'':World}{S S' S'':Nat->Prop}(h:Kp w S w' S')(k:Kp w' S' w'' S''):Kp w S w'' S'':=⟨λB hB=>k.sub B (h.sub B hB),λB hB=>(k.get B (h.sub B hB)).trans (h.get B hB)⟩
section
variable {w w':World}{S S':Nat->Prop}
mutual
def RT.mono (k:Kp w S w' S'):∀{v:Value} {p:PV},RT w S v p->RT w' S' v p
 |_,_,.v h=> .v h
 |_,_,.nil h=> .nil h
 |_,_,.sl hS hg hz hn hc hr he=> .sl (k.sub _ hS) ((k.get _ hS).trans hg) hz hn hc hr (he.mono k)
 |_,_,.agg h ht=> .agg (h.mono k) ht
def RTs.mono (k:Kp w S w' S'):∀{vs:List Value} {ps:List PV},RTs w S vs ps->RTs w' S' vs ps
 |_,_,.nil=> .nil
 |_,_,.cons h t=> .cons (h.mono k) (t.mono k)
end
def RT.one {v:Value}{p:PV}(h:RT w S v p)(ht:t0 p=true):one v=true:=by
 cases h with
 |v h=>cases v<;>first|rfl|simp[jm] at h
 |nil h=>rcases h with rfl|⟨_,_,rfl⟩<;>rfl
 |sl=>rfl
 |agg=>simp[t0] at ht
end
def kd:SB->SB
 | .box _=> .box []
 | .lst _ nl z _=> .lst (.x 0) nl z false
 | .map _ ka nk va=> .map (.x 0) ka nk va
structure Cx where
 e:List PV
 ρ:Nat->Option (Nat×Nat)
 S:Nat->Prop
 w:World
 σ:SS
 nm:Nat->Prop
 N:Nat
 K:Nat->Option SB
section
variable (X:Cx)
abbrev Cx.T (X:Cx):Value->PV->Prop:=RT X.w X.S
inductive CapR:Value->Cap->Prop
 |ptr {b o B:Nat} (hb:X.nm b) (h:∀sb,X.K b=some sb->∃l,X.ρ b=some (B,l)):CapR (.pointer (some ⟨B,o,none⟩)) (.ptr b o)
 |a {x:A} {v:Value} {p:PV} (h:x.ev X.e=some p) (ht:t0 p=true) (r:X.T v p):CapR v (.a x)
def O4 (b:Nat)(o n nl:A)(z:Nat)(v:Value):Prop:=∃oi ni L:Nat,o.ev X.e=some (.i64 oi)/\ n.ev X.e=some (.i64 ni)/\ nl.ev X.e=some (.i64 L)/\ oi+ni<=L/\
 ((∃B lim cap,X.ρ b=some (B,lim)/\ v= .slice (some ⟨B,oi*z,none⟩) ni cap/\(L<=oi+cap/\ cap<=9223372036854775807)/\(oi+cap)*z<=lim)\/(ni=0/\ iT v/\ L<=oi))
inductive CR:Value->SC->Prop
 |a {x:A} {v:Value} {p:PV} (h:x.ev X.e=some p) (ht:t0 p=true) (r:X.T v p):CR v (.a x)
 |pc {x:A} {i:Nat} {cs:List PV} {v:Value} {p:PV} (h:x.ev X.e=some (.agg cs)) (ha:cs.all t0=true) (hi:cs[i]?=some p) (r:X.T v p):CR v (.pc x i)
 |nil {v:Value} (h:iT v):CR v .nil
 |un {v:Value} (h:one v=true):CR v .un
 |ub {x:A} {b e s:Bool} (h:x.ev X.e=some (.bool e)) (hs:e=false->b=s):CR (.bool b) (.ub x s)
 |ptr {b o B:Nat} (hb:X.nm b) (h:∀sb,X.K b=some sb->∃l,X.ρ b=some (B,l)):CR (.pointer (some ⟨B,o,none⟩)) (.ptr b o)
 |ep {b o B x:Nat} {i:A} {kk:IntKind} {k:Nat} (hb:X.nm b) (hi:i.ev X.e=some (.v (.int kk k))) (h:∀nl z,X.K b=some (.lst (.x 0) nl z false)->(∃l,X.ρ b=some (B,l))/\ x=k*z+o):CR (.pointer (some ⟨B,x,none⟩)) (.ep b i o)
 |tp {l i:A} {o B x:Nat} {els:List (List PV)} {kk:IntKind} {k:Nat} {row:List PV} {arr:Array Value} {ty:TypeId} {fz:Nat×Nat} (hl:l.ev X.e=some (.sl els)) (hi:i.ev X.e=some (.v (.int kk k))) (hr:els[k]?=some row)
  (hS:X.S B) (hg:X.w.heap[B]?=some (.cells arr ty fz)) (he:RTs X.w X.S ((arr.toList.drop x).take row.length) row):CR (.pointer (some ⟨B,x+o,none⟩)) (.tp l i o)
 |lsl {b:Nat} {o n:A} {v:Value} (hb:X.nm b) (h1:one v=true) (h:∀nl z,X.K b=some (.lst (.x 0) nl z false)->O4 X b o n nl z v):CR v (.lsl b o n)
 |mp {b:Nat} {r:Option Nat} (hb:X.nm b) (h:∀sb,X.K b=some sb->∃B l,X.ρ b=some (B,l)/\ r=some B):CR (.map r) (.mp b)
 |fn {g:Nat} {f c:List Cap} {f1 c1:Array Value} (h1:F2 (CapR X) f1.toList f) (h2:F2 (CapR X) c1.toList c):CR (.func (.func g) f1 c1) (.fn g f c)
inductive WR:Value->SW->Prop
 |c {v:Value} {x:SC} (h:CR X v x):WR v (.c x)
 |av {a:Array Value} {x:A} {cs:List PV} (h:x.ev X.e=some (.agg cs)) (ht:cs.all t0=true) (r:RTs X.w X.S a.toList cs):WR (.agg a) (.av x)
 |agg {a:Array Value} {cs:List SC} (h:F2 (CR X) a.toList cs):WR (.agg a) (.agg cs)
inductive VR:Value->SV->Prop
 |w {v:Value} {x:SW} (h:WR X v x):VR v (.w x)
 |tup {a:Array Value} {ws:List SW} (h:F2 (WR X) a.toList ws):VR (.tuple a) (.tup ws)
end
structure Sx (X X':Cx):Prop where
 e:∃x,X'.e=X.e++x
 ρ:∀b,X.nm b->X'.ρ b=X.ρ b
 k:Kp X.w X.S X'.w X'.S
 lv:∀b sb,X.nm b->X'.K b=some sb->X.K b=some sb
 nm:∀b,X.nm b->X'.nm b
section
variable {X X' X'':Cx}
def Sx.refl:Sx X X:=⟨⟨[],by simp⟩,λ_ _=>rfl,Kp.refl _ _,λ_ _ _ h=>h,λ_ h=>h⟩
def Sx.trans (h:Sx X X')(k:Sx X' X''):Sx X X'':=by
 obtain⟨x,hx⟩:=h.e;obtain⟨y,hy⟩:=k.e;refine⟨⟨x++y,by rw[hy,hx,bg]⟩,λb hb=>(k.ρ b (h.nm b hb)).trans (h.ρ b hb),h.k.trans k.k,λb sb' hb hl=>h.lv b sb' hb (k.lv b sb' (h.nm b hb) hl),λb hb=>k.nm b (h.nm b hb)⟩
def Sx.ev (k:Sx X X'){a:A}{v:PV}(h:a.ev X.e=some v):a.ev X'.e=some v:=by
 obtain⟨x,hx⟩:=k.e;rw[hx];exact DY h
def CapR.step (k:Sx X X'){v:Value}{c:Cap}(h:CapR X v c):CapR X' v c:=by
 cases h with
 |ptr hb h=>
  exact .ptr (k.nm _ hb) λsb hl=>by
   rw[k.ρ _ hb];exact h _ (k.lv _ sb hb hl)
 |a h ht r=>exact .a (k.ev h) ht (r.mono k.k)
def O4.step (k:Sx X X'){b z:Nat}{o n nl:A}{v:Value}(hb:X.nm b)(h:O4 X b o n nl z v):O4 X' b o n nl z v:=by
 obtain⟨oi,ni,L,h1,h2,h3,h4,h5⟩:=h;exact⟨oi,ni,L,k.ev h1,k.ev h2,k.ev h3,h4,by rw[k.ρ _ hb];exact h5⟩
def CR.step (k:Sx X X'){v:Value}{c:SC}(h:CR X v c):CR X' v c:=by
 cases h with
 |a h ht r=>exact .a (k.ev h) ht (r.mono k.k)
 |pc h ha hi r=>exact .pc (k.ev h) ha hi (r.mono k.k)
 |nil h=>exact .nil h
 |un h=>exact .un h
 |ub h hs=>exact .ub (k.ev h) hs
 |ptr hb h=>
  exact .ptr (k.nm _ hb) λsb hl=>by
   rw[k.ρ _ hb];exact h _ (k.lv _ sb hb hl)
 |ep hb hi h=>
  exact .ep (k.nm _ hb) (k.ev hi) λnl z hl=>by
   rw[k.ρ _ hb];exact h _ _ (k.lv _ _ hb hl)
 |tp hl hi hr hS hg he=>exact .tp (k.ev hl) (k.ev hi) hr (k.k.sub _ hS) ((k.k.get _ hS).trans hg) (he.mono k.k)
 |lsl hb h1 h=>
  exact .lsl (k.nm _ hb) h1 λnl z hl=>(h _ _ (k.lv _ _ hb hl)).step k hb
 |mp hb h=>
  exact .mp (k.nm _ hb) λsb hl=>by
   rw[k.ρ _ hb];exact h _ (k.lv _ sb hb hl)
 |fn h1 h2=>exact .fn (h1.mono λ_ _ h=>h.step k) (h2.mono λ_ _ h=>h.step k)
def WR.step (k:Sx X X'){v:Value}{x:SW}(h:WR X v x):WR X' v x:=by
 cases h with
 |c h=>exact .c (h.step k)
 |av h ht r=>exact .av (k.ev h) ht (r.mono k.k)
 |agg h=>exact .agg (h.mono λ_ _ h=>h.step k)
def VR.step (k:Sx X X'){v:Value}{x:SV}(h:VR X v x):VR X' v x:=by
 cases h with
 |w h=>exact .w (h.step k)
 |tup h=>exact .tup (h.mono λ_ _ h=>h.step k)
def vW {cs:List PV}(h:cs.all t0=true){i:Nat}{v:PV}(hi:cs[i]?=some v):t0 v=true:=aV.1 h v (aK.2 ⟨i,hi⟩)
def CR.one {v:Value}{c:SC}(h:CR X v c):one v=true:=by
 cases h with
 |a _ ht r=>exact r.one ht
 |pc _ ha hi r=>exact r.one (vW ha hi)
 |nil h=>rcases h with rfl|⟨_,_,rfl⟩<;>rfl
 |un h=>exact h
 |lsl _ h1 _=>exact h1
 |_=>rfl
def jT {v:Value}(h:one v=true):v.cells=#[v]:=by cases v<;>first|rfl|simp[Sym.one] at h
end
def xr (n:Nat)(fz:Nat×Nat):Prop:=∀i,i<=n->¬(fz.1<=i/\ i<fz.2)
def Row (w:World)(B:Nat)(arr:Array Value):Prop:=∃ty fz,w.heap[B]?=some (.cells arr ty fz)/\ xr arr.size fz
def Shp (g:Bool)(v:Value):Prop:=(g=true->∃a,v= .agg a)/\(g=false->one v=true)
def U5 (w:World)(S:Nat->Prop)(ka:Bool)(nk:Nat)(va:Bool)(m:MapEntry)(r:List PV):Prop:=∃ks vs,r=ks++vs/\ RTs w S m.key.cells.toList ks/\ RTs w S m.val.cells.toList vs/\ ks.length=nk/\ Shp ka m.key/\ Shp va m.val/\ vs.all t0=true/\(va=true->vs.length≠1)
def yY (w:World)(S:Nat->Prop)(ka:Bool)(nk:Nat)(va:Bool)(es:List MapEntry)(rows:List (List PV)):Prop:=F2 (U5 w S ka nk va) es rows
def BR (X:Cx)(b:Nat):SB->Prop
 | .box cs=>∃B arr,X.ρ b=some (B,arr.size)/\ Row X.w B arr/\ F2 (CR X) arr.toList cs
 | .lst l nl z _=>0<z/\∃els,l.ev X.e=some (.sl els)/\ nl.ev X.e=some (.i64 els.length)/\ Rw z els/\
   ((els=[]/\ X.ρ b=none)\/∃B arr,X.ρ b=some (B,arr.size)/\ Row X.w B arr/\ RTs X.w X.S (arr.toList.take (els.length*z)) els.flatten)
 | .map l ka nk va=>∃B es ck rows,X.ρ b=some (B,0)/\ X.w.heap[B]?=some (.map es ck)/\ l.ev X.e=some (.sl rows)/\ yY X.w X.S ka nk va es.toList rows
def frz:SB->Bool
 | .lst _ _ _ f=>f
 |_=>false
structure MR (X:Cx)(base:Nat)(L:Nat->Prop):Prop where
 lt:∀b sb,look X.σ.bl b=some sb->X.nm b
 kd:∀b sb,look X.σ.bl b=some sb->X.K b=some (Sym.kd sb)
 fr:∀b,X.σ.nb<=b->b<X.N->¬X.nm b
 bl:∀b sb,look X.σ.bl b=some sb->BR X b sb
 own:∀b sb B l,look X.σ.bl b=some sb->X.ρ b=some (B,l)->(base<=B\/L B)/\(X.S B↔frz sb=true)
 inj:∀b b' sb sb' B l l',look X.σ.bl b=some sb->look X.σ.bl b'=some sb'->X.ρ b=some (B,l)->X.ρ b'=some (B,l')->b=b'
 cur:∀B,X.S B->B<X.w.heap.size
 hb:base<=X.w.heap.size
 sz:jC X.e X.σ.sz
 fc:∀p∈X.σ.fc,X.e[p.1]?=some p.2
structure Frm (base:Nat)(L:Nat->Prop)(w w':World):Prop where
 os:w'.os=w.os
 tape:w'.tape=w.tape
 output:w'.output=w.output
 size:w.heap.size<=w'.heap.size
 block:∀k,k<base->¬L k->w'.heap[k]?=w.heap[k]?
 drawn:¬L base->w.drawn<=w'.drawn
def Frm.refl {base:Nat}{L:Nat->Prop}{w:World}:Frm base L w w:=⟨rfl,rfl,rfl,aB _,λ_ _ _=>rfl,λ_=>aB _⟩
def Frm.trans {base:Nat}{L:Nat->Prop}{w w' w'':World}(h:Frm base L w w')(k:Frm base L w' w''):Frm base L w w'':=⟨k.os.trans h.os,k.tape.trans h.tape,k.output.trans h.output,bG h.size k.size,λi hi hl=>(k.block i hi hl).trans (h.block i hi hl),λq=>bG (h.drawn q) (k.drawn q)⟩
structure Nx (X:Cx)(base:Nat)(L:Nat->Prop)(X':Cx):Prop where
 sx:Sx X X'
 mr:MR X' base L
 fr:Frm base L X.w X'.w
 new:∀B,X'.S B->X.S B\/base<=B\/L B
 e:X'.e=X.e
 N:X'.N=X.N
 nb:X.σ.nb<=X'.σ.nb
 nmb:∀b,X'.nm b->X.nm b\/(X.σ.nb<=b/\ b<X'.σ.nb)
 kk:∀b,X.nm b->look X.σ.bl b=none->X'.K b=X.K b/\ look X'.σ.bl b=none
def Nx.trans {X X' X'':Cx}{base:Nat}{L:Nat->Prop}(h:Nx X base L X')(k:Nx X' base L X''):Nx X base L X'':=⟨h.sx.trans k.sx,k.mr,h.fr.trans k.fr,λB hB=>by
 rcases k.new B hB with h1|h1
 .exact h.new B h1
 .exact .inr h1,k.e.trans h.e,k.N.trans h.N,bG h.nb k.nb,λb hb=>by
 rcases k.nmb b hb with h1|h1
 .exact(h.nmb b h1).imp id λh2=>⟨h2.1,cd h2.2 k.nb⟩
 .exact .inr ⟨bG h.nb h1.1,h1.2⟩,λb h1 h2=>by
 obtain⟨h3,h4⟩:=h.kk b h1 h2;obtain⟨h5,h6⟩:=k.kk b (h.sx.nm b h1) h4;exact⟨h5.trans h3,h6⟩⟩
def Nx.refl {X:Cx}{base:Nat}{L:Nat->Prop}(h:MR X base L):Nx X base L X:=⟨.refl,h,.refl,λ_ h=> .inl h,rfl,rfl,aB _,λ_ h=> .inl h,λ_ _ h=>⟨rfl,h⟩⟩
end Go.Sym
namespace Go.Sym
open Go.RowKit
section
variable {e:List PV}
def iW {f:RF}{a y:A}{v:PV}(h:oc e f [a] y)(ha:a.ev e=some v):∃u,f.ev [v]=some u/\ y.ev e=some u:=by
 obtain⟨vs,u,h1,h2,h3⟩:=h;obtain⟨v',h4,rfl⟩:=yX h1
 grind
def gP {f:RF}{a b y:A}{v w:PV}(h:oc e f [a,b] y)(ha:a.ev e=some v)(hb:b.ev e=some w):∃u,f.ev [v,w]=some u/\ y.ev e=some u:=by
 obtain⟨vs,u,h1,h2,h3⟩:=h;obtain⟨v',w',h4,h5,rfl⟩:=DX h1
 grind
def kI {f:RF}{a b c y:A}{u v w:PV}(h:oc e f [a,b,c] y)(ha:a.ev e=some u)(hb:b.ev e=some v)(hc:c.ev e=some w):∃r,f.ev [u,v,w]=some r/\ y.ev e=some r:=by
 obtain⟨vs,r,h1,h2,h3⟩:=h;obtain⟨u',v',w',h4,h5,h6,rfl⟩:=akG h1
 grind
def dq {α:Type}{c:Prop}[Decidable c]{x y:α}(h:(if c then some x else none)=some y):c/\ x=y:=by
 grind
def afk {α:Type}{c:Prop}{d:Decidable c}{x y:α}(h:(if c then some x else none)=some y):c/\ x=y:=dq h
def U6 {α:Type}{c:Prop}[Decidable c]{x:Option α}{y:α}(h:(if c then x else none)=some y):c/\ x=some y:=by
 grind
def jD {a b:Nat}(h:Nat.beq a b=true):a=b:=bm h
end
section
variable {X:Cx}{P:Program}
def dI {c:SC}{v:Value}(h:CR X v c):Sp X.e (fg c) λa=>∃p,a.ev X.e=some p/\ t0 p=true/\ X.T v p:=by
 cases h with
 |a h ht r=>exact .ret ⟨_,h,ht,r⟩
 |pc h ha hi r=>
  refine Sp.emit.mono λy hy=>?_;obtain⟨u,h1,h2⟩:=iW hy h;simp[RF.ev] at h1
  grind
 |nil h=>exact .ret ⟨_,rfl,rfl,.nil h⟩
 |_=>exact .fail
def rc {n:Nat}{x:A}{cs:List PV}(h:x.ev X.e=some (.agg cs)):Sp X.e (q9 n x) λy=>y.ev X.e=some (.agg cs)/\ cs.length=n:=by
 refine Sp.bind Sp.sizeOf λk hk=>?_;cases k with
 |none=>
  refine Sp.mono (Sp.emitN λvs v h1 h2=>?_) λy hy=>?_
  .obtain⟨v',h4,rfl⟩:=yX h1;rw[h] at h4;cases h4;obtain⟨hl,rfl⟩:=dq h2
   grind
  .obtain⟨u,h1,h2⟩:=iW hy h;obtain⟨hl,rfl⟩:=dq h1
   grind
 |some k=>
  simp only;split
  .rename_i hb;have:=jD hb;subst this;obtain⟨cs',h1,h2⟩:=hk k rfl;rw[h] at h1;cases h1;exact .ret ⟨h,h2⟩
  .exact .fail
def yZ {α:Type}{l:List α}{i:Nat}{a:α}{r:List α}(h:l.drop i=a::r):l[i]?=some a/\ l.drop (i+1)=r:=by
 have:l[i]?=(l.drop i)[0]?:=by simp
 rw[h] at this;exact⟨by simpa using this,by rw[<-gZ,h];rfl⟩
def CN {x:A}{cs:List PV}(h:x.ev X.e=some (.agg cs))(ht:cs.all t0=true):∀(n i:Nat) {ds:List PV} {vs:List Value},cs.drop i=ds->ds.length=n->F2 X.T vs ds->F2 (CR X) vs (pcs x i n)
 |0,i,ds,vs,hd,hn,hs=>by
  have:=bS hn;subst this;cases hs;exact .nil
 |n+1,i,ds,vs,hd,hn,hs=>by
  cases hs with
  |nil=>simp at hn
  |cons hv t=>
   obtain⟨h1,h2⟩:=yZ hd;exact .cons (.pc h ht h1 hv) (CN h ht n (i+1) h2 (by simpa using hn) t)
def y9 {t:TypeId}{w:SW}{v:Value}(h:WR X v w):Sp X.e (yQ P t w) λcs=>F2 (CR X) v.cells.toList cs/\ szT P t=some v.cells.size:=by
 unfold yQ;split
 .split
  .rename_i n hn;cases h with
   |c h=>exact .fail
   |av h ht hs=>
    refine Sp.bind (rc h) λy hy=> .ret ⟨?_,?_⟩
    .rw[<-hy.2];exact CN hy.1 ht _ 0 rfl rfl hs.f2
    .have:=hs.f2.len;rw[hn,<-hy.2];simpa [Value.cells] using this.symm
   |agg h=>
    simp only;split
    .rename_i hb;have:=h.len;exact .ret ⟨h,by rw[hn,<-jD hb];simpa [Value.cells] using this.symm⟩
    .exact .fail
  .exact .fail
 .split
  .rename_i hn;cases h with
   |c h=>rw[jT h.one];exact .ret ⟨.cons h .nil,hn⟩
   |_=>exact .fail
  .exact .fail
 .exact .fail
def A.same_eq {x y:A}(h:A.same x y=true):x=y:=by
 cases x<;>cases y<;>simp only[A.same] at h<;>first|(cases h;done)|(have:=jD h;subst this;rfl)
def afl {p q:PV}(h:cEq p q=true):p=q:=by
 unfold cEq at h
 grind
def vX {a b:A}(h:A.eq a b=true):a=b:=by
 unfold A.eq at h;split at h
 .simp_all
 .rw[afl h]
 .cases h
def Kb {x:A}{cs:List PV}(h:x.ev X.e=some (.agg cs)):∀(l:List SC) (i:Nat) {vs:List Value},F2 (CR X) vs l->F2 X.T (vs.take (nZ x i l)) ((cs.drop i).take (nZ x i l))/\ i+nZ x i l<=max i cs.length/\ nZ x i l<=l.length
 |[],i,vs,hf=>by simp only[nZ];exact⟨.nil,by omega,aB _⟩
 |c::l,i,vs,hf=>by
  cases hf with
  |cons hc t=>
   cases c with
   |pc y j=>
    simp[nZ];split
    .rename_i hb;simp only[aJ] at hb;have e1:=A.same_eq hb.1;have e2:=jD hb.2;subst e1;subst e2;obtain⟨k1,k2,k3⟩:=Kb h l (i+1) t;cases hc with
     |pc h' ha hi r=>
      rw[h] at h';cases h';have hlt:=(aC.1 hi).1;refine⟨?_,by omega,by simp;omega⟩;rw[jx,cY hlt,jx,(aC.1 hi).2];exact .cons r k1
    .simp only[g9];exact⟨.nil,by omega,b8 _⟩
   |_=>simp only[nZ];exact⟨.nil,by omega,b8 _⟩
def Ae {cs:List PV}(h:cs.all t0=true)(i n:Nat):((cs.drop i).take n).all t0=true:=by
 grind
def Av {cs:List SC}{a:Array Value}(h:F2 (CR X) a.toList cs):Sp X.e (sZ cs) (WR X (.agg a)):=by
 unfold sZ;split
 .rename_i x i rest;split
  .rename_i hb;have hrun:=jD hb;generalize hvs:a.toList=vs at h;cases h with
   | @cons v _ vs _ hc t=>
    cases hc with
    | @pc _ _ ds _ p hx hall hi r=>
     obtain⟨k1,k2,k3⟩:=Kb hx rest (i+1) t;rw[hrun] at k1 k2;have hlt:=(aC.1 hi).1;have hlen:=t.len;rw[bi (by omega:vs.length<=rest.length)] at k1;have hd:(ds.drop i).take (rest.length+1)=p::(ds.drop (i+1)).take rest.length:=by
      rw[cY hlt,jx]
      grind
     have hall2:RTs X.w X.S a.toList ((ds.drop i).take (rest.length+1)):=by rw[hd,hvs];exact .of (.cons r k1)
     refine Sp.bind Sp.sizeOf λk hk=>?_;split
     .rename_i hb2;cases k with
      |none=>cases hb2
      |some k=>
       simp only[aJ] at hb2;have e1:=jD hb2.1;have e2:=jD hb2.2;subst e1;obtain⟨ds',h1,h2⟩:=hk k rfl;rw[hx] at h1;cases h1;rw[dz,bi (by simp at e2;omega)] at hall2;exact .ret (.av hx hall hall2)
     .refine Sp.bind (Sp.emitN λvs v h1 h2=>?_) λy hy=>?_
      .obtain⟨v',h4,rfl⟩:=yX h1;rw[hx] at h4;cases h4;obtain⟨hl,rfl⟩:=dq h2;exact⟨_,rfl,by rw[aR,bQ];omega⟩
      .obtain⟨u,h1,h2⟩:=iW hy hx;obtain⟨hl,rfl⟩:=dq h1;exact .ret (.av h2 (Ae hall _ _) hall2)
  .exact .ret (.agg h)
 .exact .ret (.agg h)
def xu (P:Program)(t:TypeId)(vs:List Value)(o:Nat)(v:Value):Prop:=
 (b7 P t=some true/\∃n,szT P t=some n/\ o+n<=vs.length/\ v= .agg ((vs.drop o).take n).toArray)\/(b7 P t=some false/\ vs[o]?=some v)
def EQ {t:TypeId}{c:SC}{v:Value}(h:CR X v c):Sp X.e (Cw P t c) (WR X v):=by
 unfold Cw;split
 .split
  .cases h with
   |pc hx ha hi r=>
    refine Sp.bind Sp.emit λy hy=>?_;obtain⟨u,h1,h2⟩:=iW hy hx;simp[RF.ev] at h1;rw[hi] at h1;cases h1;exact .ret (.c (.a h2 (vW ha hi) r))
  .exact .ret (.c h)
 .exact .ret (.c h)
def Kc {t:TypeId}{cs:List SC}{vs:List Value}{o:Nat}(h:F2 (CR X) vs cs):Sp X.e (FO P t cs o) λw=>∃v,xu P t vs o v/\ WR X v w:=by
 unfold FO;split
 .rename_i ha;split
  .rename_i n hn;split
   .rename_i hb;refine(Av (a:=((vs.drop o).take n).toArray) (by simpa using(h.drop o).take n)).mono λw hw=>⟨_,.inl ⟨ha,n,hn,?_,rfl⟩,hw⟩
    rw[h.len];rwa [im] at hb
   .exact .fail
  .exact .fail
 .rename_i ha;split
  .rename_i c hc;obtain⟨v,h1,h2⟩:=h.get' o c hc;exact(EQ h2).mono λw hw=>⟨v,.inr ⟨ha,h1⟩,hw⟩
  .exact .fail
 .exact .fail
def cnt_spec {t:TypeId}{n:Nat}(h:cnt P t=some n):(n=0/\ b7 P t=some false)\/(0<n/\ b7 P t=some true/\ szT P t=some n):=by
 unfold cnt at h
 grind
def rowPart_spec {t:TypeId}{o n:Nat}{row:List PV}{p:PV}(hc:cnt P t=some n)(h:cM o n row=some p):(n=0/\ b7 P t=some false/\ row[o]?=some p/\ t0 p=true)\/(0<n/\ b7 P t=some true/\ szT P t=some n/\ o+n<=row.length/\ p= .agg ((row.drop o).take n)/\((row.drop o).take n).all t0=true):=by
 rcases cnt_spec hc with⟨rfl,ha⟩|⟨hn,ha,hz⟩
 .simp[cM] at h
  grind
 .unfold cM at h
  grind
def za {t:TypeId}{n:Nat}{f:RF}{as:List A}{vs:List Value}{x m o:Nat}(hc:cnt P t=some n)(h:∀xs p,evs X.e as=some xs->f.ev xs=some p->∃row,cM o n row=some p/\ RTs X.w X.S ((vs.drop x).take m) row):Sp X.e (ki n f as) λw=>(∃v,xu P t vs (x+o) v/\ WR X v w)/\∃xs p,evs X.e as=some xs/\ f.ev xs=some p:=by
 have key:∀{p:PV} {row:List PV} {y:A},cM o n row=some p->RTs X.w X.S ((vs.drop x).take m) row->y.ev X.e=some p->∃v,xu P t vs (x+o) v/\ WR X v (match n with|0=> .c (.a y)|_=> .av y):=by
  intro p row y h1 h2 h3;rcases rowPart_spec hc h1 with⟨rfl,ha,hr,ht⟩|⟨hn,ha,hz,hl,rfl,ht⟩
  .obtain⟨v,k1,k2⟩:=h2.f2.get' o p hr;rw[iv] at k1;split at k1
   .exact⟨v,.inr ⟨ha,by rwa [fC] at k1⟩,.c (.a h3 ht k2)⟩
   .cases k1
  .have hl':=h2.f2.len;simp only[aR,bQ] at hl';refine⟨_,.inl ⟨ha,n,hz,by omega,rfl⟩,?_⟩;have h4:=(h2.f2.drop o).take n;rw[eU,dG,bM (by omega),gZ] at h4;cases n with
   |zero=>omega
   |succ n=>exact .av h3 ht (by simpa using RTs.of h4)
 unfold ki;split
 .refine Sp.bind Sp.emit λy hy=>?_;obtain⟨xs,p,h1,h2,h3⟩:=hy;obtain⟨row,h4,h5⟩:=h xs p h1 h2;exact .ret ⟨key h4 h5 h3,xs,p,h1,h2⟩
 .rename_i hne;refine Sp.bind (Sp.emitN λxs p h1 h2=>?_) λy hy=>?_
  .obtain⟨row,h4,h5⟩:=h xs p h1 h2;rcases rowPart_spec hc h4 with⟨h0,_⟩|⟨hn,_,_,hl,rfl,_⟩
   .exact absurd h0 hne
   .exact⟨_,rfl,by rw[aR,bQ];omega⟩
  .obtain⟨xs,p,h1,h2,h3⟩:=hy;obtain⟨row,h4,h5⟩:=h xs p h1 h2;have:=key h4 h5 h3;cases n with
   |zero=>exact absurd rfl hne
   |succ n=>exact .ret ⟨this,xs,p,h1,h2⟩
def uR {t:TypeId}{n:Nat}{f:RF}{as:List A}{vs:List Value}{x m o:Nat}(hc:cnt P t=some n)(h:∀xs p,evs X.e as=some xs->f.ev xs=some p->∃row,cM o n row=some p/\ RTs X.w X.S ((vs.drop x).take m) row):Sp X.e (ki n f as) λw=>∃v,xu P t vs (x+o) v/\ WR X v w:=(za hc h).mono λ_ h=>h.1
def add_plain (g o i:Nat):(⟨g,o,none⟩:Addr).add i=⟨g,o+i,none⟩:=by
 unfold Addr.add
 grind
def run_sizeOf {t n:Nat}(h:szT P t=some n)(w:World):(sizeOf t).run P w= .ok n w:=by
 unfold szT at h;rw[bW] at h;obtain⟨i,hi,hn⟩:=h;simp[Go.sizeOf,typeInfo,hi,hn]
def ut {t:Nat}{b:Bool}(h:b7 P t=some b)(w:World):(isAgg t).run P w= .ok b w:=by
 unfold b7 at h;rw[bW] at h;obtain⟨d,hd,rfl⟩:=h;unfold isAgg;rw[Sem.run_bind,run_underlying hd w];cases d<;>rfl
def zb {w:World}{B:Nat}{arr:Array Value}{ty:TypeId}{fz:Nat×Nat}(hg:w.heap[B]?=some (.cells arr ty fz))(o n:Nat)(h:o+n<=arr.size):(loadCells ⟨B,o,none⟩ n).run P w= .ok ((arr.toList.drop o).take n).toArray w:=by
 have:=run_loadCells_list (P:=P) w ⟨B,o,none⟩ ((arr.toList.drop o).take n) λj v hv=>by
  rw[add_plain];simp[World.cell?]
  grind
 grind
def run_load {w:World}{B o:Nat}{arr:Array Value}{ty:TypeId}{fz:Nat×Nat}{t:TypeId}{v:Value}(hg:w.heap[B]?=some (.cells arr ty fz))(h:xu P t arr.toList o v):(loadVar t ⟨B,o,none⟩).run P w= .ok v w:=by
 unfold loadVar;rcases h with⟨ha,n,hn,hl,rfl⟩|⟨ha,hv⟩
 .simp[ut ha,run_sizeOf hn,zb hg o n (by simpa using hl)]
 .have hc:w.cell? ⟨B,o,none⟩=some v:=by simp[World.cell?,hg];simpa using hv
  rw[Sem.run_bind,ut ha];simp_all
def AZ {z:Nat}:∀{els:List (List PV)} {k:Nat} {row:List PV},(∀r∈els,r.length=z)->els[k]?=some row->(els.flatten.drop (k*z)).take z=row
 |[],k,row,_,h=>by simp at h
 |r::els,0,row,hr,h=>by
  simp at h;subst h;have:=hr r (by simp);rw[tM,dz,ew,fw (by omega),bi (by omega)]
 |r::els,k+1,row,hr,h=>by
  have:=hr r (by simp);rw[ew,oI,da (by rw[cx];omega),aI,show(k+1)*z-r.length=k*z by rw[cx];omega]
  exact AZ (λr h=>hr r (by simp[h])) (by simpa using h)
def gU {z:Nat}:∀{els:List (List PV)},(∀r∈els,r.length=z)->els.flatten.length=els.length*z
 |[],_=>by simp
 |r::els,hr=>by
  rw[ew,aD,hr r (by simp),gU λr h=>hr r (by simp[h]),aZ,cx];omega
def DZ {z:Nat}:∀{n:Nat} {l:List (List PV)},(∀r∈l,r.length=z)->l.flatten.drop (n*z)=(l.drop n).flatten/\ l.flatten.take (n*z)=(l.take n).flatten
 |0,l,_=>by simp
 |n+1,[],_=>by simp
 |n+1,r::l,hr=>by
  have hrl:=hr r (by simp);obtain⟨i1,i2⟩:=DZ (n:=n) (l:=l) λx hx=>hr x (by simp[hx]);have he:(n+1)*z=r.length+n*z:=by rw[cx];omega
  rw[ew,he,rq,rB,i1,i2];simp
def mT {z n:Nat}{l:List (List PV)}(h:∀r∈l,r.length=z):l.flatten.drop (n*z)=(l.drop n).flatten:=(DZ h).1
def jU {z n:Nat}{l:List (List PV)}(h:∀r∈l,r.length=z):l.flatten.take (n*z)=(l.take n).flatten:=(DZ h).2
def ER {z k n:Nat}{vs:List Value}{els:List (List PV)}{row:List PV}(hr:∀r∈els,r.length=z)(h:RTs X.w X.S (vs.take n) els.flatten)(hk:els[k]?=some row):RTs X.w X.S ((vs.drop (k*z)).take z) row:=by
 have h1:=(h.f2.drop (k*z)).take z;rw[AZ hr hk] at h1;have hn:els.length*z<=n:=by
  have h2:=h.f2.len;rw[gU hr,aR] at h2;omega
 have hlt:=(aC.1 hk).1;have:k*z+z<=n:=by
  have:=cB z (show k+1<=els.length by omega)
  grind
 rw[eU,dG,bM (by omega)] at h1;exact .of h1
def Kd {o n:Nat}{els:List (List PV)}{kk:IntKind}{k:Nat}{p:PV}(h:(RF.elt o n).ev [.sl els,.v (.int kk k)]=some p):∃row,els[k]?=some row/\ cM o n row=some p:=by
 simp[RF.ev] at h
 grind
def Ke {base:Nat}{L:Nat->Prop}(hm:MR X base L){t:TypeId}{c:SC}{u:Value}(h:CR X u c):Sp X.e (z8 P X.σ t c) λw=>∃v B o,u= .pointer (some ⟨B,o,none⟩)/\(loadVar t ⟨B,o,none⟩).run P X.w= .ok v X.w/\ WR X v w:=by
 cases h with
 | @ptr b o B hb h=>
  simp only[z8];split
  .rename_i cs hl;obtain⟨B',arr,h1,⟨ty,fz,hg,_⟩,h2⟩:=hm.bl b _ hl;obtain⟨l,h3⟩:=h _ (hm.kd _ _ hl);rw[h3] at h1;cases h1;exact(Kc (P:=P) h2).mono λw ⟨v,k1,k2⟩=>⟨v,B,o,rfl,run_load hg k1,k2⟩
  .exact .fail
 | @ep b o B x i kk k hb hi h=>
  simp only[z8];split
  .rename_i l nl z fz hl;split
   .rename_i m hm';obtain⟨hz,els,h1,h2,h3,h4⟩:=hm.bl b _ hl;obtain⟨⟨lim,h5⟩,rfl⟩:=h _ _ (hm.kd _ _ hl);rcases h4 with⟨rfl,h4⟩|⟨B',arr,h4,⟨ty,fz',hg,_⟩,h6⟩
    .grind
    .rw[h5] at h4;cases h4;refine(uR (vs:=arr.toList) (x:=k*z) (m:=z) (o:=o) hm' λxs p e1 e2=>?_).mono λw ⟨v,k1,k2⟩=>⟨v,B,_,rfl,run_load hg k1,k2⟩;obtain⟨x,y,f1,f2,rfl⟩:=DX e1;rw[h1] at f1;cases f1;rw[hi] at f2;cases f2;obtain⟨row,g1,g2⟩:=Kd e2;exact⟨row,g2,ER h3.l h6 g1⟩
   .exact .fail
  .exact .fail
 | @tp l i o B x els kk k row arr ty fz hl hi hr hS hg he=>
  simp only[z8];split
  .rename_i m hm';refine(uR (vs:=arr.toList) (x:=x) (m:=row.length) (o:=o) hm' λxs p e1 e2=>?_).mono λw ⟨v,k1,k2⟩=>⟨v,B,_,rfl,run_load hg k1,k2⟩;obtain⟨x,y,f1,f2,rfl⟩:=DX e1;rw[hl] at f1;cases f1;rw[hi] at f2;cases f2;obtain⟨row',g1,g2⟩:=Kd e2;rw[hr] at g1;cases g1;exact⟨row,g2,he⟩
  .exact .fail
 |_=>exact .fail
end
section
variable {X:Cx}{P:Program}{base:Nat}{L:Nat->Prop}
def ir (X:Cx)(bs:List Nat):Prop:=∀b∈bs,∃l nl z fz,look X.σ.bl b=some (.lst l nl z fz)
def ir.nil:ir X []:=λ_ h=>by cases h
def ir.app {bs cs:List Nat}(h:ir X bs)(k:ir X cs):ir X (bs++cs):=λb hb=>(b9.1 hb).elim (h b) (k b)
def frS (X:Cx)(bs:List Nat)(B:Nat):Prop:=X.S B\/∃b∈bs,∃l,X.ρ b=some (B,l)
def sH:Kp X.w X.S X.w (frS X []):=⟨λ_ h=> .inl h,λ_ _=>rfl⟩
def FV {bs cs:List Nat}:Kp X.w (frS X bs) X.w (frS X (bs++cs)):=⟨λ_ h=>h.imp id λ⟨b,hb,h⟩=>⟨b,dP _ hb,h⟩,λ_ _=>rfl⟩
def FW {bs cs:List Nat}:Kp X.w (frS X cs) X.w (frS X (bs++cs)):=⟨λ_ h=>h.imp id λ⟨b,hb,h⟩=>⟨b,gq _ hb,h⟩,λ_ _=>rfl⟩
def CO {bs:List Nat}:Kp X.w X.S X.w (frS X bs):=⟨λ_ h=> .inl h,λ_ _=>rfl⟩
def Out (X:Cx)(v:Value)(r:A×List Nat):Prop:=(∃p,r.1.ev X.e=some p/\ t0 p=true/\ RT X.w (frS X r.2) v p)/\ ir X r.2
def zc (hm:MR X base L){c:SC}{v:Value}(h:CR X v c):Sp X.e (mR X.σ c) (Out X v):=by
 cases h with
 |a h ht r=>exact .ret ⟨⟨_,h,ht,r.mono sH⟩,.nil⟩
 |pc h ha hi r=>
  simp only[mR];refine Sp.bind Sp.emit λy hy=>?_;obtain⟨u,h1,h2⟩:=iW hy h;simp only[RF.ev] at h1;rw[hi] at h1;cases h1;exact .ret ⟨⟨_,h2,vW ha hi,r.mono sH⟩,.nil⟩
 |nil h=>exact .ret ⟨⟨_,rfl,rfl,.nil h⟩,.nil⟩
 | @lsl b o n v hb h1 h=>
  simp only[mR];split
  .rename_i l nl z fz hl;refine Sp.bind Sp.emit λy hy=> .ret ⟨?_,λb' hb'=>by simp at hb';subst hb';exact⟨_,_,_,_,hl⟩⟩;obtain⟨oi,ni,Ln,e1,e2,e3,e4,e5⟩:=h _ _ (hm.kd _ _ hl);obtain⟨hz,els,k1,k2,k3,k4⟩:=hm.bl b _ hl;rw[e3] at k2;simp only[bZ,PV.v.injEq,Value.int.injEq,ic] at k2;have hLn:Ln=els.length:=by omega
   subst hLn;obtain⟨u,q1,q2⟩:=kI hy k1 e1 e2;obtain⟨_,rfl⟩:=dq q1;simp only[aG] at q2;refine⟨_,q2,rfl,?_⟩;rcases e5 with⟨B,lim,cap,f1,rfl,f2,f3⟩|⟨rfl,hv,_⟩
   .rcases k4 with⟨_,k4⟩|⟨B',arr,k4,⟨ty,fz',hg,_⟩,k6⟩
    .rw[f1] at k4;cases k4
    .rw[f1] at k4;cases k4;refine .sl (.inr ⟨b,by simp,_,f1⟩) hg hz (by simp;omega) (by omega) (k3.sub _ _) ?_;have h5:=((RTs.f2 k6).drop (oi*z)).take (ni*z);rw[mT k3.l,jU (k3.d _).l,eU,dG] at h5;rw[bM (by have:=cB z e4;rw[cx] at this;omega)] at h5;exact(RTs.of h5).mono CO
   .rw[g9];exact .nil hv
  .exact .fail
 |_=>exact .fail
def A0 (X:Cx)(vs:List Value)(r:List A×List Nat):Prop:=(∃xs,evs X.e r.1=some xs/\(xs.flatMap PV.cells).all t0=true/\ RTs X.w (frS X r.2) vs (xs.flatMap PV.cells))/\ ir X r.2
def kj {e:List PV}{a:A}{as:List A}{p:PV}{ps:List PV}(h:a.ev e=some p)(k:evs e as=some ps):evs e (a::as)=some (p::ps):=by simp[evs,h,k]
def A0.cons {v:Value}{vs:List Value}{p:A×List Nat}{q:List A×List Nat}(h:Out X v p)(k:A0 X vs q):A0 X (v::vs) (p.1::q.1,p.2++q.2):=by
 obtain⟨⟨x,h1,h2,h3⟩,h4⟩:=h;obtain⟨⟨xs,k1,k2,k3⟩,k4⟩:=k;have hx:x.cells=[x]:=by cases x<;>first|rfl|simp[t0] at h2
 refine⟨⟨x::xs,kj h1 k1,?_,?_⟩,h4.app k4⟩
 .grind
 .rw[dA,hx];exact .cons (h3.mono FV) (k3.mono FW)
def sk (hm:MR X base L):∀(k:Nat) {cs:List SC} {vs:List Value},F2 (CR X) vs cs->Sp X.e (oU X.σ k cs) (A0 X vs)
 |k,[],vs,h=>by
  cases h;unfold oU;exact .ret ⟨⟨[],rfl,rfl,.nil⟩,.nil⟩
 |0,c::cs,vs,h=> .fail
 |k+1,c::cs,vs,h=>by
  have one:∀(c:SC) (vs:List Value),F2 (CR X) vs (c::cs)->Sp X.e (EM.bind (mR X.σ c) λp=>EM.bind (oU X.σ k cs) λq=>EM.ret (p.1::q.1,p.2++q.2)) (A0 X vs):=λc vs h=>by
   cases h with
   |cons h t=>exact Sp.bind (zc hm h) λp hp=>Sp.bind (sk hm k t) λq hq=> .ret (A0.cons hp hq)
  unfold oU;split
  .rename_i x i;cases h with
   | @cons v _ vs _ h t=>
   cases h with
   | @pc _ _ ds _ p hx ha hi r=>
   obtain⟨k1,k2,k3⟩:=Kb hx cs (i+1) t;split
   .refine Sp.bind Sp.emit λy hy=>Sp.bind (sk hm k t) λq hq=>?_;obtain⟨u,h1,h2⟩:=iW hy hx;simp[RF.ev] at h1;rw[hi] at h1;cases h1;exact .ret (A0.cons (p:=(y,[])) ⟨⟨_,h2,vW ha hi,r.mono sH⟩,.nil⟩ hq)
   .rename_i n hn;rw[hn] at k1 k2 k3;have hlt:=(aC.1 hi).1;refine Sp.bind (Sp.emitN λvs v h1 h2=>?_) λy hy=>Sp.bind (sk hm k (t.drop (n+1))) λq hq=>?_
    .obtain⟨v',h4,rfl⟩:=yX h1;rw[hx] at h4;cases h4;obtain⟨hl,rfl⟩:=dq h2;exact⟨_,rfl,by rw[aR,bQ];omega⟩
    .obtain⟨u,h1,h2⟩:=iW hy hx;obtain⟨hl,rfl⟩:=dq h1;obtain⟨⟨xs,q1,q2,q3⟩,q4⟩:=hq;have hd:(ds.drop i).take (n+2)=p::(ds.drop (i+1)).take (n+1):=by
      rw[cY hlt,jx]
      congr 1
      exact(aC.1 hi).2
     refine .ret ⟨⟨_::xs,kj h2 q1,?_,?_⟩,q4⟩
     .rw[dA,qa,q2,jK];exact Ae ha _ _
     .rw[dA];show RTs X.w (frS X q.2) (v::vs) ((ds.drop i).take (n+2)++_)
      rw[hd,<-iF (n+1) vs];exact .of ((F2.cons (r.mono CO) ((RTs.of k1).mono CO).f2).append q3.f2)
  .exact one _ _ h
def xv (hm:MR X base L){w:SW}{v:Value}(h:WR X v w):Sp X.e (Aa X.σ w) λr=>(∃p,r.1.ev X.e=some p/\ RT X.w (frS X r.2) v p/\((∃c,w= .c c)->t0 p=true))/\ ir X r.2:=by
 unfold Aa;split
 .rename_i cs;cases h with
  |agg h=>
   have hl:=h.len;refine Sp.bind (sk hm _ h) λq ⟨⟨xs,q1,q2,q3⟩,q4⟩=>Sp.bind (Sp.emitN λvs v h1 h2=>?_) λy hy=>?_
   .rw[q1] at h1;cases h1;obtain⟨_,rfl⟩:=dq h2;exact⟨_,rfl,by rw[<-q3.f2.len,hl]⟩
   .obtain⟨vs,u,h1,h2,h3⟩:=hy;rw[q1] at h1;cases h1;obtain⟨_,rfl⟩:=dq h2;exact .ret ⟨⟨_,h3,.agg q3 q2,λ⟨_,e⟩=>by cases e⟩,q4⟩
 .cases h with
  |av h ht r=>exact .ret ⟨⟨_,h,.agg (r.mono sH) ht,λ⟨_,e⟩=>by cases e⟩,.nil⟩
 .cases h with
  |c h=>exact(zc hm h).mono λr ⟨⟨p,h1,h2,h3⟩,h4⟩=>⟨⟨p,h1,h3,λ_=>h2⟩,h4⟩
def oW (hm:MR X base L):∀{ws:List SW} {vs:List Value},F2 (WR X) vs ws->Sp X.e (vR X.σ ws) λr=>(∃ps,evs X.e r.1=some ps/\ F2 (RT X.w (frS X r.2)) vs ps)/\ ir X r.2
 |_,_,.nil=> .ret ⟨⟨[],rfl,.nil⟩,.nil⟩
 |_,_,.cons h t=>by
  unfold vR;refine Sp.bind (xv hm h) λp ⟨⟨x,h1,h2,_⟩,h3⟩=>Sp.bind (oW hm t) λq ⟨⟨xs,q1,q2⟩,q3⟩=> .ret ⟨⟨x::xs,kj h1 q1,.cons (h2.mono FV) (q2.mono λ_ _ h=>h.mono FW)⟩,h3.app q3⟩
def Cx.fz (X:Cx)(bs:List Nat):Cx:={X with S:=frS X bs,σ:=dF X.σ bs}
def lS:∀(bs:List Nat) (σ:SS) (b:Nat),look (dF σ bs).bl b=if b∈bs then(look σ.bl b).map oV else look σ.bl b
 |[],σ,b=>by simp[dF]
 |c::bs,σ,b=>by
  have idem:∀x,oV (oV x)=oV x:=λx=>by cases x<;>rfl
  unfold dF;cases h:look σ.bl c with
  |none=>
   simp only;rw[lS bs];by_cases e:b=c
   .subst e;simp[h]
   .simp[e]
  |some sb=>
   simp only;rw[lS bs];simp[dO];by_cases e:b=c
   .subst e;simp[h,idem]
   .simp[e]
def sm:∀(bs:List Nat) (σ:SS),(dF σ bs).nb=σ.nb/\(dF σ bs).tm=σ.tm/\(dF σ bs).n=σ.n/\(dF σ bs).fc=σ.fc/\(dF σ bs).sz=σ.sz
 |[],σ=>⟨rfl,rfl,rfl,rfl,rfl⟩
 |c::bs,σ=>by
  unfold dF;split
  .exact sm bs _
  .exact sm bs _
def SI (sb:SB):kd (oV sb)=kd sb:=by cases sb<;>rfl
def BR.step {X X':Cx}(k:Sx X X'){b:Nat}(hb:X.nm b)(hw:∀B l,X.ρ b=some (B,l)->X'.w.heap[B]?=X.w.heap[B]?):∀{sb:SB},BR X b sb->BR X' b sb
 | .box cs,⟨B,arr,h1,⟨ty,fz,h2,h3⟩,h4⟩=>⟨B,arr,by rw[k.ρ b hb];exact h1,⟨ty,fz,by rw[hw B _ h1];exact h2,h3⟩,h4.mono λ_ _ h=>h.step k⟩
 | .lst l nl z f,⟨hz,els,h1,h2,h3,h4⟩=>⟨hz,els,k.ev h1,k.ev h2,h3,by
   rw[k.ρ b hb];exact h4.imp id λ⟨B,arr,q1,⟨ty,fz,q2,q3⟩,q4⟩=>⟨B,arr,q1,⟨ty,fz,by rw[hw B _ q1];exact q2,q3⟩,q4.mono k.k⟩⟩
 | .map l _ _ _,⟨B,es,ck,rows,h1,h2,h3,h4⟩=>⟨B,es,ck,rows,by rw[k.ρ b hb];exact h1,by rw[hw B _ h1];exact h2,k.ev h3,F2.mono (λ_ _ ⟨ks,vs,e,a,b,c⟩=>⟨ks,vs,e,a.mono k.k,b.mono k.k,c⟩) h4⟩
def BR.freeze {b:Nat}:∀{sb:SB},BR X b sb->BR X b (oV sb)
 | .box _,h=>h
 | .lst ..,h=>h
 | .map ..,h=>h
def xw (hm:MR X base L){bs:List Nat}(hl:ir X bs):Nx X base L (X.fz bs):=by
 obtain⟨e1,_,_,e2,e3⟩:=sm bs X.σ;have hlook:∀b sb',look (X.fz bs).σ.bl b=some sb'->∃sb,look X.σ.bl b=some sb/\ sb'=(if b∈bs then oV sb else sb):=by
  intro b sb' h;rw[show(X.fz bs).σ=dF X.σ bs from rfl,lS] at h
  split at h
  .rename_i hb;rw[bW] at h
   grind
  .grind
 have sx:Sx X (X.fz bs):=⟨⟨[],by simp[Cx.fz]⟩,λ_ _=>rfl,⟨λ_ h=> .inl h,λ_ _=>rfl⟩,λb sb' _ h=>h,λ_ h=>h⟩;refine⟨sx,⟨λb sb' h=>?_,λb sb' h=>?_,λb hb=>hm.fr b (by rw[<-e1];exact hb),λb sb' h=>?_,λb sb' B l h hρ=>?_,λb b' sb sb' B l l' h h'=>?_,λB hB=>?_,hm.hb,?_,?_⟩,.refl,λB hB=>?_,rfl,rfl,by rw[show(X.fz bs).σ=dF X.σ bs from rfl,e1];exact aB _,λ_ h=> .inl h,λb _ h=>⟨rfl,by rw[show(X.fz bs).σ=dF X.σ bs from rfl,lS,h];split<;>rfl⟩⟩
 .obtain⟨sb,h1,_⟩:=hlook b sb' h;exact hm.lt b sb h1
 .obtain⟨sb,h1,rfl⟩:=hlook b sb' h;refine(hm.kd b sb h1).trans ?_;split<;>simp[SI]
 .obtain⟨sb,h1,rfl⟩:=hlook b sb' h;have:=(hm.bl b sb h1).step sx (hm.lt b sb h1) λ_ _ _=>rfl;split
  .exact this.freeze
  .exact this
 .obtain⟨sb,h1,rfl⟩:=hlook b sb' h;obtain⟨k1,k2⟩:=hm.own b sb B l h1 hρ;refine⟨k1,?_⟩;show frS X bs B↔_
  unfold frS;rw[k2];constructor
  .rintro(h2|⟨b',hb',l',h3⟩)
   .split
    .cases sb<;>simp[frz] at h2<;>rfl
    .exact h2
   .obtain⟨_,_,_,_,h4⟩:=hl b' hb';have:=hm.inj b b' _ _ B l l' h1 h4 hρ h3;subst this;rw[h1] at h4;cases h4;rw[ad hb'];rfl
  .intro h2;split at h2
   .rename_i hb;exact .inr ⟨b,hb,l,hρ⟩
   .exact .inl h2
 .obtain⟨sb,h1,_⟩:=hlook b sb h;obtain⟨sb',h2,_⟩:=hlook b' sb' h';exact hm.inj b b' _ _ B l l' h1 h2
 .rcases hB with hB|⟨b,hb,l,hρ⟩
  .exact hm.cur B hB
  .obtain⟨lv,nl,z,f,h1⟩:=hl b hb;obtain⟨_,els,_,_,_,h2⟩:=hm.bl b _ h1;rcases h2 with⟨_,h2⟩|⟨B',arr,h2,⟨ty,fz,hg,_⟩,_⟩
   .rw[hρ] at h2;cases h2
   .rw[hρ] at h2;cases h2;exact(bH.1 hg).1
 .rw[show(X.fz bs).σ=dF X.σ bs from rfl,e3];exact hm.sz
 .rw[show(X.fz bs).σ=dF X.σ bs from rfl,e2];exact hm.fc
 .rcases hB with hB|⟨b,hb,l,hρ⟩
  .exact .inl hB
  .obtain⟨lv,nl,z,f,h1⟩:=hl b hb;exact .inr (hm.own b _ B l h1 hρ).1
end
structure But (B:Nat)(w w':World):Prop where
 os:w'.os=w.os
 tape:w'.tape=w.tape
 output:w'.output=w.output
 size:w.heap.size<=w'.heap.size
 block:∀k,k≠B->k<w.heap.size->w'.heap[k]?=w.heap[k]?
 drawn:w.drawn<=w'.drawn
def But.refl {B:Nat}{w:World}:But B w w:=⟨rfl,rfl,rfl,aB _,λ_ _ _=>rfl,aB _⟩
def But.trans {B:Nat}{w w' w'':World}(h:But B w w')(k:But B w' w''):But B w w'':=⟨k.os.trans h.os,k.tape.trans h.tape,k.output.trans h.output,bG h.size k.size,λi h1 h2=>(k.block i h1 (cd h2 h.size)).trans (h.block i h1 h2),bG h.drawn k.drawn⟩
def But.drew {B:Nat}{w:World}:But B w w.drew:=⟨rfl,rfl,rfl,aB _,λ_ _ _=>rfl,eE _⟩
def But.alloc {B:Nat}{w:World}(o:Obj):But B w (w.alloc o):=⟨rfl,rfl,rfl,by show _<=(w.heap.push o).size;simp,λk _ hk=>Below.heap_alloc w o k hk,aB _⟩
def But.setCell {w:World}(a:Addr)(v:Value):But a.block w (w.setCell a v):=⟨rfl,rfl,rfl,by simp[World.setCell],λk hk _=>Below.heap_setCell w a v k hk,aB _⟩
def te (w:World)(o:Obj):(w.alloc o).heap[w.heap.size]?=some o:=by show(w.heap.push o)[w.heap.size]?=_;simp
section
variable {X:Cx}{P:Program}{base:Nat}{L:Nat->Prop}
def ey (hm:MR X base L){b:Nat}{sb:SB}{B l:Nat}(h:look X.σ.bl b=some sb)(hr:X.ρ b=some (B,l)):B<X.w.heap.size:=by
 have hbr:=hm.bl b sb h;cases sb with
 |box cs=>
  obtain⟨B',arr,h1,⟨ty,fz,hg,_⟩,_⟩:=hbr
  grind
 |lst l nl z f=>
  obtain⟨_,els,_,_,_,⟨_,h1⟩|⟨B',arr,h1,⟨ty,fz,hg,_⟩,_⟩⟩:=hbr
  .grind
  .grind
 |map l=>
  obtain⟨B',es,ck,rows,h1,hg,_⟩:=hbr
  grind
def vY (hm:MR X base L){ρ':Nat->Option (Nat×Nat)}{w':World}{σ':SS}{A':Nat->Prop}{K':Nat->Option SB}{b0 B0:Nat}{sb0:SB}(hold:∀b sb,b≠b0->look σ'.bl b=some sb->look X.σ.bl b=some sb/\ K' b=X.K b)(h0:look σ'.bl b0=some sb0)(hK0:K' b0=some (kd sb0))(hf:frz sb0=false)
  (hρ:∀b,X.nm b->ρ' b=X.ρ b) (hA:∀b,X.nm b->A' b) (hb0:A' b0) (hfr:∀b,σ'.nb<=b->b<X.N->¬A' b) (hnb:X.σ.nb<=σ'.nb) (hAb:∀b,A' b->X.nm b\/(X.σ.nb<=b/\ b<σ'.nb)) (hK:∀b,X.nm b->(K' b=X.K b/\(b≠b0\/∃sb,look X.σ.bl b=some sb))\/(K' b=none/\∃sb,look X.σ.bl b=some sb))
  (hB:∀B l,ρ' b0=some (B,l)->B=B0) (hown:base<=B0\/L B0) (hS:¬X.S B0)
  (hinj:∀b sb l,b≠b0->look σ'.bl b=some sb->X.ρ b≠some (B0,l)) (hw:But B0 X.w w') (hsz:σ'.sz=X.σ.sz) (hfc:σ'.fc=X.σ.fc) (hbr:Sx X ⟨X.e,ρ',X.S,w',σ',A',X.N,K'⟩->BR ⟨X.e,ρ',X.S,w',σ',A',X.N,K'⟩ b0 sb0):Nx X base L ⟨X.e,ρ',X.S,w',σ',A',X.N,K'⟩:=by
 have sx:Sx X ⟨X.e,ρ',X.S,w',σ',A',X.N,K'⟩:=by
  refine⟨⟨[],by simp⟩,hρ,⟨λ_ h=>h,λB h=>hw.block B (λe=>hS (e▸h)) (hm.cur B h)⟩,λb sb' hb h=>?_,hA⟩
  grind
 have hold':∀b sb,b≠b0->look σ'.bl b=some sb->look X.σ.bl b=some sb:=λb sb h k=>(hold b sb h k).1;refine⟨sx,⟨λb sb h=>?_,λb sb h=>?_,hfr,λb sb h=>?_,λb sb B l h hr=>?_,λb b' sb sb' B l l' h h' hr hr'=>?_,λB h=>cd (hm.cur B h) hw.size,bG hm.hb hw.size,?_,?_⟩,⟨hw.os,hw.tape,hw.output,hw.size,λk hk hL=>?_,λ_=>hw.drawn⟩,λ_ h=> .inl h,rfl,rfl,hnb,hAb,λb h1 h2=>?_⟩
 .by_cases e:b=b0
  .grind
  .exact hA b (hm.lt b sb (hold' b sb e h))
 .by_cases e:b=b0
  .grind
  .obtain⟨h1,h2⟩:=hold b sb e h;exact h2.trans (hm.kd b sb h1)
 .by_cases e:b=b0
  .subst e;rw[h0] at h;cases h;exact hbr sx
  .have h1:=hold' b sb e h;exact(hm.bl b sb h1).step sx (hm.lt b sb h1) λB l hr=>hw.block B (λe'=>hinj b sb l e h (e'▸hr)) (ey hm h1 hr)
 .by_cases e:b=b0
  .subst e;rw[h0] at h;cases h;have:=hB B l hr;subst this;exact⟨hown,by simp[hf,hS]⟩
  .have h1:=hold' b sb e h;exact hm.own b sb B l h1 ((hρ b (hm.lt b sb h1)).symm.trans hr)
 .by_cases e:b=b0<;>by_cases e':b'=b0
  .rw[e,e']
  .exfalso;subst e;have h1:=hold' b' sb' e' h';rw[hB B l hr] at hr';exact hinj b' sb' l' e' h' (by rw[<-hρ b' (hm.lt b' sb' h1)];exact hr')
  .exfalso;subst e';have h1:=hold' b sb e h;rw[hB B l' hr'] at hr;exact hinj b sb l e h (by rw[<-hρ b (hm.lt b sb h1)];exact hr)
  .have h1:=hold' b sb e h;have h2:=hold' b' sb' e' h';exact hm.inj b b' sb sb' B l l' h1 h2 ((hρ b (hm.lt b sb h1)).symm.trans hr) ((hρ b' (hm.lt b' sb' h2)).symm.trans hr')
 .rw[hsz];exact hm.sz
 .rw[hfc];exact hm.fc
 .have:=hm.hb;rcases hown with h|h
  .exact hw.block k (by omega) (by omega)
  .exact hw.block k (λe=>hL (e▸h)) (by omega)
 .rcases hK b h1 with⟨h3,h4⟩|⟨_,sb,h4⟩
  .refine⟨h3,?_⟩;have hne:b≠b0:=h4.elim id λ⟨sb,h5⟩=>by rw[h2] at h5;cases h5
   cases h5:look σ'.bl b with
   |none=>rfl
   |some sb=>rw[hold' b sb hne h5] at h2;cases h2
  .rw[h2] at h4;cases h4
def upR {α:Type}(ρ:Nat->Option α)(b:Nat)(r:Option α):Nat->Option α:=λx=>if x=b then r else ρ x
def upR_self {α:Type}{ρ:Nat->Option α}{b:Nat}{r:Option α}:upR ρ b r b=r:=ad rfl
def jV {α:Type}{ρ:Nat->Option α}{b x:Nat}{r:Option α}(h:x≠b):upR ρ b r x=ρ x:=ac h
def upA (A:Nat->Prop)(b x:Nat):Prop:=A x\/x=b
def Cx.nw (X:Cx)(w':World)(r:Option (Nat×Nat))(sb:SB):Cx:=⟨X.e,upR X.ρ X.σ.nb r,X.S,w',X.σ.new sb,upA X.nm X.σ.nb,X.N,upR X.K X.σ.nb (some (kd sb))⟩
def CQ (hm:MR X base L)(hN:X.σ.nb<X.N){w':World}{r:Option (Nat×Nat)}{sb:SB}(hf:frz sb=false)(hr:∀B l,r=some (B,l)->B=X.w.heap.size)(hw:But X.w.heap.size X.w w')(hbr:Sx X (X.nw w' r sb)->BR (X.nw w' r sb) X.σ.nb sb):Nx X base L (X.nw w' r sb):=
 vY hm (b0:=X.σ.nb) (B0:=X.w.heap.size) (λb sb' hne h=>⟨by simpa [SS.new,dO,hne] using h,jV hne⟩) (by simp[SS.new,dO]) upR_self hf (λb hb=>jV λe=>hm.fr _ (aB _) hN (e▸hb)) (λ_ h=> .inl h) (.inr rfl) (λb hb hn h=>h.elim (hm.fr b (rR hb) hn) λe=>by subst e;exact di _ hb) (eE _) (λb h=>h.elim .inl λe=> .inr (by subst e;exact⟨aB _,hG _⟩)) (λb hb=> .inl ⟨jV λe=>hm.fr _ (aB _) hN (e▸hb),.inl λe=>hm.fr _ (aB _) hN (e▸hb)⟩)
  (λB l h=>by rw[upR_self] at h;exact hr B l h) (.inl hm.hb) (λh=>di _ (hm.cur _ h)) (λb sb' l hne h=>λhr=>by
   have h':look X.σ.bl b=some sb':=by simpa [SS.new,dO,hne] using h
   exact di _ (ey hm h' hr)) hw rfl rfl hbr
def Cx.pt (X:Cx)(w':World)(b:Nat)(sb:SB):Cx:=⟨X.e,X.ρ,X.S,w',{X.σ with bl:=put X.σ.bl b sb},X.nm,X.N,X.K⟩
def tf (hm:MR X base L){w':World}{b B l:Nat}{sb sb':SB}(hl:look X.σ.bl b=some sb)(hr:X.ρ b=some (B,l))(hf:frz sb=false)(hf':frz sb'=false)(hk:kd sb'=kd sb)(hw:But B X.w w')(hbr:Sx X (X.pt w' b sb')->BR (X.pt w' b sb') b sb'):Nx X base L (X.pt w' b sb'):=by
 obtain⟨h1,h2⟩:=hm.own b sb B l hl hr;refine vY hm (b0:=b) (B0:=B) (λb' sb' hne h=>⟨by simpa [dO,hne] using h,rfl⟩) (by simp[dO]) (by rw[hk];exact hm.kd b sb hl) hf' (λ_ _=>rfl) (λ_ h=>h) (hm.lt b sb hl) hm.fr (aB _) (λ_ h=> .inl h) (λb' hb=> .inl ⟨rfl,if e:b'=b then .inr ⟨sb,by rw[e];exact hl⟩ else .inl e⟩) (λB' l' h=>by rw[hr] at h;cases h;rfl) h1 (λh=>by rw[h2,hf] at h;cases h) (λb' sb2 l' hne h=>λhr'=>?_) hw rfl rfl hbr
 have h':look X.σ.bl b'=some sb2:=by simpa [dO,hne] using h
 exact hne (hm.inj b' b sb2 sb B l' l h' hl hr' hr)
def Cx.re (X:Cx)(w':World)(b:Nat)(r:Option (Nat×Nat))(sb:SB):Cx:=⟨X.e,upR X.ρ X.σ.nb r,X.S,w',(X.σ.kill b).new sb,upA X.nm X.σ.nb,X.N,upR (upR X.K b none) X.σ.nb (some (kd sb))⟩
def D2 {b k:Nat}{sb sb':SB}{σ:SS}(hne:b≠σ.nb)(h:look ((σ.kill k).new sb).bl b=some sb'):look σ.bl b=some sb'/\ b≠k:=by
 simp[SS.new,SS.kill,dO,xq] at h
 grind
def ahg (hm:MR X base L)(hN:X.σ.nb<X.N){w':World}{b B l l':Nat}{sb sb':SB}(hl:look X.σ.bl b=some sb)(hr:X.ρ b=some (B,l))(hf:frz sb=false)(hf':frz sb'=false)(hw:But B X.w w')(hbr:Sx X (X.re w' b (some (B,l')) sb')->BR (X.re w' b (some (B,l')) sb') X.σ.nb sb'):Nx X base L (X.re w' b (some (B,l')) sb'):=by
 obtain⟨h1,h2⟩:=hm.own b sb B l hl hr;refine vY hm (b0:=X.σ.nb) (B0:=B) (λb' sb2 hne h=>⟨(D2 hne h).1,(jV hne).trans (jV (D2 hne h).2)⟩) (by simp[SS.new,SS.kill,dO]) upR_self hf' (λb hb=>jV λe=>hm.fr _ (aB _) hN (e▸hb)) (λ_ h=> .inl h) (.inr rfl) (λb hb hn h=>h.elim (hm.fr b (rR hb) hn) λe=>by subst e;exact di _ hb) (eE _) (λb h=>h.elim .inl λe=> .inr (by subst e;exact⟨aB _,hG _⟩)) (λb' hb=>by
  have hne:b'≠X.σ.nb:=λe=>hm.fr _ (aB _) hN (e▸hb);by_cases e:b'=b
  .exact .inr ⟨(jV hne).trans (by rw[e];exact upR_self),sb,by rw[e];exact hl⟩
  .exact .inl ⟨(jV hne).trans (jV e),.inl hne⟩) (λB' l2 h=>by rw[upR_self] at h;cases h;rfl) h1 (λh=>by rw[h2,hf] at h;cases h) (λb' sb2 l2 hne h=>λhr'=>?_) hw rfl rfl hbr
 obtain⟨h3,h4⟩:=D2 hne h;exact h4 (hm.inj b' b sb2 sb B l2 l h3 hl hr' hr)
def Cx.kl (X:Cx)(b:Nat):Cx:={X with σ:=X.σ.kill b,K:=upR X.K b none}
def D3 (hm:MR X base L){b:Nat}{sb0:SB}(h0:look X.σ.bl b=some sb0):Nx X base L (X.kl b):=by
 have hlook:∀b' sb,look (X.kl b).σ.bl b'=some sb->look X.σ.bl b'=some sb/\ b'≠b:=λb' sb h=>by
  simp[Cx.kl,SS.kill,xq] at h
  grind
 have sx:Sx X (X.kl b):=⟨⟨[],by simp[Cx.kl]⟩,λ_ _=>rfl,⟨λ_ h=>h,λ_ _=>rfl⟩,λb' sb _ h=>by
  have h:upR X.K b none b'=some sb:=h;unfold upR at h;split at h
  .cases h
  .exact h,λ_ h=>h⟩
 exact⟨sx,⟨λb' sb h=>hm.lt b' sb (hlook b' sb h).1,λb' sb h=>(jV (hlook b' sb h).2).trans (hm.kd b' sb (hlook b' sb h).1),hm.fr,λb' sb h=>(hm.bl b' sb (hlook b' sb h).1).step sx (hm.lt b' sb (hlook b' sb h).1) λ_ _ _=>rfl,λb' sb B l h=>hm.own b' sb B l (hlook b' sb h).1,λb1 b2 s1 s2 B l l' h h'=>hm.inj b1 b2 s1 s2 B l l' (hlook _ _ h).1 (hlook _ _ h').1,hm.cur,hm.hb,hm.sz,hm.fc⟩,.refl,λ_ h=> .inl h,rfl,rfl,aB _,λ_ h=> .inl h,λb' _ h=>by
  have hne:b'≠b:=λe=>by rw[e,h0] at h;cases h
  refine⟨jV hne,?_⟩;cases h':look (X.kl b).σ.bl b' with
  |none=>rfl
  |some sb=>rw[(hlook b' sb h').1] at h;cases h⟩
end
section
variable {X:Cx}{P:Program}{base:Nat}{L:Nat->Prop}
def EvR (X:Cx)(ρc:Operand->Value):Prop:=(∀v,ρc (.const v)=v)/\∀x sv,opS X.σ x=some sv->VR X (ρc x) sv
def VR.inv {v:Value}{w:SW}(h:VR X v (.w w)):WR X v w:=by cases h;assumption
def WR.inv {v:Value}{c:SC}(h:WR X v (.c c)):CR X v c:=by cases h;assumption
section
variable {ρc:Operand->Value}(hρ:EvR X ρc)
include hρ
theorem iX {x:Operand}{w:SW}(h:opW X.σ x=some w):WR X (ρc x) w:=by
 unfold opW at h;split at h
 .rename_i w' hw;cases h;exact(hρ.2 x _ hw).inv
 .cases h
theorem eI {x:Operand}{c:SC}(h:opC X.σ x=some c):CR X (ρc x) c:=by
 unfold opC at h;split at h
 .rename_i c' hw;cases h;exact(iX hρ hw).inv
 .cases h
theorem L8:∀{xs:List Operand} {ws:List SW},OP X.σ xs=some ws->F2 (WR X) (xs.map ρc) ws
 |[],_,h=>by cases h;exact .nil
 |x::xs,ws,h=>by
  unfold OP at h;split at h
  .rename_i w hw;split at h
   .rename_i l hl;cases h;exact .cons (iX hρ hw) (L8 hl)
   .cases h
  .cases h
theorem zd:∀{xs:List (Nat×Operand)} {ps:List (Nat×SW)},yR X.σ xs=some ps->F2 (λ(a:Nat×Value) (b:Nat×SW)=>a.1=b.1/\ WR X a.2 b.2) (xs.map λp=>(p.1,ρc p.2)) ps
 |[],_,h=>by cases h;exact .nil
 |(i,x)::xs,ps,h=>by
  unfold yR at h;split at h
  .rename_i w hw;split at h
   .rename_i l hl;cases h;exact .cons ⟨rfl,iX hρ hw⟩ (zd hl)
   .cases h
  .cases h
end
def OpR (X:Cx)(base:Nat)(L:Nat->Prop)(r:Result Next):SR->Prop
 | .val sv σ'=>σ'.nb<=X.N->∃v X',(r= .ok (.value v) X'.w\/(r= .ok .skip X'.w/\ v=undef))/\ VR X' v sv/\ Nx X base L X'/\ X'.σ=σ'
 | .call g args=>∃vs,r= .ok (.enter g vs) X.w/\ F2 (WR X) vs.toList args
def SmR (P:Program)(X:Cx)(base:Nat)(L:Nat->Prop)(s:Sem Value)(p:SV×SS):Prop:=p.2.nb<=X.N->∃v X',s.run P X.w= .ok v X'.w/\ VR X' v p.1/\ Nx X base L X'/\ X'.σ=p.2
def pM {s:Sem Value}{x:EM (SV×SS)}(h:Sp X.e x (SmR P X base L s)):Sp X.e (AX x) (OpR X base L ((do pure (.value (<-s)):Sem Next).run P X.w)):=
 Sp.bind h λp hp=> .ret λhn=>let⟨v,X',h1,h2⟩:=hp hn;⟨v,X',.inl (by simp[h1]),h2⟩
def SwR (P:Program)(X:Cx)(s:Sem Value)(w:SW):Prop:=∃v,s.run P X.w= .ok v X.w/\ WR X v w
def Af (hm:MR X base L){s:Sem Value}{x:EM SW}(h:Sp X.e x (SwR P X s)):Sp X.e (yT X.σ x) (OpR X base L ((do pure (.value (<-s)):Sem Next).run P X.w)):=
 Sp.bind h λw ⟨v,h1,h2⟩=> .ret λ_=>⟨v,X,.inl (by simp[h1]),.w h2,.refl hm,rfl⟩
def FX (hm:MR X base L){s:Sem Value}{x:EM SC}(h:Sp X.e x λc=>SwR P X s (.c c)):Sp X.e (yU X.σ x) (OpR X base L ((do pure (.value (<-s)):Sem Next).run P X.w)):=
 Sp.bind h λw ⟨v,h1,h2⟩=> .ret λ_=>⟨v,X,.inl (by simp[h1]),.w h2,.refl hm,rfl⟩
def ES {v:Value}{c:SC}(h:Cy v=some c):CR X v c:=by
 unfold Cy at h;split at h
 .cases h;exact .nil (.inl rfl)
 .split at h
  .rename_i hp;cases h;exact .a rfl rfl (.v hp)
  .split at h<;>cases h<;>exact .un rfl
def sn:∀{vs:List Value} {cs:List SC},vS vs=some cs->F2 (CR X) vs cs
 |[],_,h=>by cases h;exact .nil
 |v::vs,cs,h=>by
  unfold vS at h;split at h
  .rename_i c hc;split at h
   .rename_i l hl;cases h;exact .cons (ES hc) (sn hl)
   .cases h
  .cases h
def SJ {v:Value}{sv:SV}(h:JS v=some sv):VR X v sv:=by
 unfold JS at h;split at h
 .rw[bW] at h;obtain⟨l,hl,rfl⟩:=h;exact .w (.agg (sn hl))
 .rw[bW] at h;obtain⟨c,hc,rfl⟩:=h;exact .w (.c (ES hc))
def U7 (hm:MR X base L){v:Value}{sv:SV}(h:VR X v sv):VR X v (Cz X.σ sv):=by
 unfold Cz;split
 .rename_i i;split
  .rename_i b hb;have h1:=hm.fc _ (fB hb);cases h with
   |w h=>cases h with
    |c h=>cases h with
     |a h ht r=>
      rw[show A.ev X.e (.x i)=X.e[i]? from rfl,h1] at h;cases h
      exact .w (.c (.a rfl ht r))
  .exact h
 .exact h
def vZ (hm:MR X base L){a:Act}(h:∀t sv,look X.σ.tm t=some sv->∃v,a.tmps[t]?=some v/\ VR X v sv):EvR X a.eval:=by
 refine⟨λ_=>rfl,λx sv hx=>?_⟩;cases x with
 |tmp t=>
  simp[opS] at hx;split at hx
  .rename_i v hv;cases hx;obtain⟨u,h1,h2⟩:=h t v hv;have:a.eval (.tmp t)=u:=by simp only[Act.eval];rw[cy,h1];rfl
   rw[this];exact U7 hm h2
  .cases hx
 |const c=>exact SJ hx
 |func g=>cases hx;exact .w (.c (.fn .nil .nil))
 |global g=>cases hx
def qw {t:TypeId}{z:Value}(h:pF P t=some z)(w:World):(zeroValue t).run P w= .ok z w:=by
 unfold pF at h;rw[tR] at h;obtain⟨i,hi,hz⟩:=h;simp[zeroValue,typeInfo,hi,hz]
def pO (w:World)(t:TypeId)(arr:Array Value):(newRow t arr).run P w= .ok ⟨w.heap.size,0,none⟩ (w.alloc (.cells arr t)):=by
 rfl
def CT (n:Nat):xr n (0,0):=λi _ h=>by simp at h
def Yk (hm:MR X base L)(hN:X.σ.nb<X.N){arr:Array Value}{t:TypeId}{cs:List SC}(h:F2 (CR X) arr.toList cs):Nx X base L (X.nw (X.w.alloc (.cells arr t)) (some (X.w.heap.size,arr.size)) (.box cs)):=
 CQ hm hN rfl (λB l h=>by cases h;rfl) (.alloc _) λsx=>⟨X.w.heap.size,arr,upR_self,⟨t,(0,0),te _ _,CT _⟩,h.mono λ_ _ h=>h.step sx⟩
def L9 (hm:MR X base L){arr:Array Value}{t:TypeId}{cs:List SC}(h:F2 (CR X) arr.toList cs){s:Sem Value}(hs:s.run P X.w= .ok (.pointer (some ⟨X.w.heap.size,0,none⟩)) (X.w.alloc (.cells arr t))):Sp X.e (JU P X.σ t cs) (SmR P X base L s):=by
 unfold JU;split
 .split
  .refine .ret λhn=>⟨_,_,hs,?_,Yk hm hn h,rfl⟩;exact .w (.c (.ptr (.inr rfl) λ_ _=>⟨_,upR_self⟩))
  .exact .fail
 .exact .fail
def U8 (hm:MR X base L){t:TypeId}{cs:List SC}(h:vT P t=some cs):Sp X.e (JU P X.σ t cs) (SmR P X base L (Instr.alloc t true (.tuple #[]))):=by
 unfold vT at h;split at h
 .rename_i z hz;refine L9 hm (sn h) ?_;have:=pO (P:=P) X.w t z.cells;simp[Instr.alloc,qw hz,newVar,this]
 .cases h
def v6 (g o:Nat)(t:TypeId)(fz:Nat×Nat):∀(vs:List Value) (i:Nat) (w:World) (arr:Array Value),w.heap[g]?=some (.cells arr t fz)->xr arr.size fz->
  o+i+vs.length<=arr.size->(∀v∈vs,one v=true)->∃w' arr',(storeCells ⟨g,o,none⟩ vs i).run P w= .ok () w'/\ But g w w'/\ w'.heap[g]?=some (.cells arr' t fz)/\ arr'.size=arr.size/\
   ∀j,arr'[j]?=if o+i<=j/\ j<o+i+vs.length then vs[j-(o+i)]? else arr[j]?
 |[],i,w,arr,h1,h2,h3,h4=>⟨w,arr,by simp[storeCells],But.refl,h1,rfl,λj=>by rw[ac (by simp<;>omega)]⟩
 |v::vs,i,w,arr,h1,h2,h3,h4=>by
  simp at h3;have hv:=h4 v (by simp);have hcell:w.cell? ⟨g,o+i,none⟩=some arr[o+i]:=by
   simp only[World.cell?,h1];simp
  have hfz:w.frozen? ⟨g,o+i,none⟩=false:=by
   simp only[World.frozen?,h1];have:=h2 (o+i) (by omega);simp only[wq,aj];by_cases hh:fz.1<=o+i
   .right;intro hh';exact this ⟨hh,hh'⟩
   .left;exact hh
  have hset:(w.setCell ⟨g,o+i,none⟩ v).heap[g]?=some (.cells (arr.setIfInBounds (o+i) v) t fz):=by
   simp only[World.setCell,gm,h1];simp
  obtain⟨w',arr',e1,e2,e3,e4,e5⟩:=v6 g o t fz vs (i+1) (w.setCell ⟨g,o+i,none⟩ v) _ hset (by simpa using h2) (by simp;omega) (λu hu=>h4 u (by simp[hu]))
  refine⟨w',arr',?_,(But.setCell (w:=w) ⟨g,o+i,none⟩ v).trans e2,e3,by simpa using e4,?_⟩
  .simp only[storeCells,add_plain];have:(store ⟨g,o+i,none⟩ v).run P w= .ok () (w.setCell ⟨g,o+i,none⟩ v):=by
    unfold store;cases v<;>first|(simp[one] at hv;done)|simp[Sem.run,hcell,hfz]
   rw[Sem.run_bind,this];exact e1
  .intro j;rw[e5 j];by_cases hj:o+(i+1)<=j/\ j<o+(i+1)+vs.length
   .rw[ad hj,ad (by simp;omega)];have:j-(o+i)=(j-(o+(i+1)))+1:=by omega
    rw[this,List.getElem?_cons_succ]
   .rw[ac hj];by_cases hj':j=o+i
    .subst hj';rw[ad (by simp only[aZ];omega)];simp;rw[Array.getElem?_setIfInBounds_self_of_lt (by omega)]
    .rw[ac (by simp;omega),pb (by omega)]
def pP {w:World}{B:Nat}{arr:Array Value}{ty:TypeId}{fz:Nat×Nat}(hg:w.heap[B]?=some (.cells arr ty fz))(hf:xr arr.size fz)(o:Nat){vs:List Value}(h:o+vs.length<=arr.size)(h1:∀v∈vs,one v=true):
  ∃w' arr',(storeCells ⟨B,o,none⟩ vs).run P w= .ok () w'/\ But B w w'/\ w'.heap[B]?=some (.cells arr' ty fz)/\ arr'.size=arr.size/\ arr'.toList=arr.toList.take o++vs++arr.toList.drop (o+vs.length):=by
 obtain⟨w',arr',h2,h3,h4,h5,h6⟩:=v6 (P:=P) B o ty fz vs 0 w arr hg hf (by omega) h1;refine⟨w',arr',h2,h3,h4,h5,c8 λi=>?_⟩;have hl:arr.toList.length=arr.size:=by simp
 rw[bU,h6 i,bg,ja,aR,bM (by omega)];simp only[ny];by_cases hi:i<o
 .rw[ac (by omega),ad hi,iv,ad hi,bU]
 .rw[ac hi,ja];by_cases hj:i<o+vs.length
  .rw[ad ⟨by omega,hj⟩,ad (by omega)]
  .rw[ac (by omega),ac (by omega),fC,bU]
   congr 1;omega
def Yl {vs:List Value}{cs:List SC}(h:F2 (CR X) vs cs):∀v∈vs,one v=true:=by
 induction h with
 |nil=>intro v hv;cases hv
 |cons h _ ih=>exactλv hv=>(bz.1 hv).elim (λe=>e▸h.one) (ih v)
def CU {S:Nat->Prop}{w:World}{vs:List Value}{ps:List PV}(h:F2 (RT w S) vs ps)(ht:ps.all t0=true):∀v∈vs,one v=true:=by
 induction h with
 |nil=>intro v hv;cases hv
 |cons h _ ih=>
  simp only[dJ,aJ] at ht;exactλv hv=>(bz.1 hv).elim (λe=>e▸h.one ht.1) (ih ht.2 v)
def ze {t:TypeId}{v:Value}(hz:szT P t=some v.cells.size){B o:Nat}{w w':World}(h:(storeCells ⟨B,o,none⟩ v.cells.toList).run P w= .ok () w'):(storeVar t ⟨B,o,none⟩ v).run P w= .ok () w':=by
 simp[storeVar,run_sizeOf hz,h]
def storeW_spec {t:TypeId}{w:SW}{n:Nat}(h:JV P t w=some n):(n=0/\ b7 P t=some false/\ szT P t=some 1/\∃c,w= .c c)\/(0<n/\ b7 P t=some true/\ szT P t=some n/\∀c,w≠ .c c):=by
 unfold JV at h
 grind
def A1 {z:Nat}{row':List PV}:∀{els:List (List PV)} {k:Nat},(∀r∈els,r.length=z)->k<els.length->(els.set k row').flatten=els.flatten.take (k*z)++row'++els.flatten.drop (k*z+z)
 |[],k,_,h=>by simp at h
 |r::els,0,hr,_=>by
  have:=hr r (by simp);simp[oI,da (show r.length<=z by omega),show z-r.length=0 by omega]
 |r::els,k+1,hr,h=>by
  have h1:=hr r (by simp);rw[List.set_cons_succ,ew,A1 (λr h=>hr r (by simp[h])) (by simpa using h),ew]
  have e1:(k+1)*z=r.length+k*z:=by rw[cx];omega
  rw[e1,rB,dK,rq];simp
def U9 {o:Nat}{els:List (List PV)}{kk:IntKind}{k:Nat}{p r:PV}(h:(RF.set o).ev [.sl els,.v (.int kk k),p]=some r):∃row,els[k]?=some row/\ o+p.cells.length<=row.length/\ r= .sl (els.set k (nY row o p.cells)):=by
 simp[RF.ev] at h
 grind
def RT.cells {w:World}{S:Nat->Prop}{v:Value}{p:PV}(h:RT w S v p):F2 (RT w S) v.cells.toList p.cells:=by
 cases h with
 |v h=>rw[jT (RT.one (w:=w) (S:=S) (.v h) rfl)];exact .cons (.v h) .nil
 |nil h=>rw[jT (RT.one (w:=w) (S:=S) (.nil h) rfl)];exact .cons (.nil h) .nil
 |sl a b c d e f g=>exact .cons (.sl a b c d e f g) .nil
 |agg h _=>exact h.f2
def RT.agg_inv {w:World}{S:Nat->Prop}{a:Array Value}{p:PV}(h:RT w S (.agg a) p):∃cs,p= .agg cs/\ cs.all t0=true/\ RTs w S a.toList cs:=by
 generalize hv:Value.agg a=v at h;cases h with
 |v h=>subst hv;simp[jm] at h
 |nil h=>subst hv;rcases h with h|⟨_,_,h⟩<;>cases h
 |sl=>cases hv
 |agg h ht=>cases hv;exact⟨_,rfl,ht,h⟩
def SK (hm:MR X base L){t:TypeId}{c:SC}{w:SW}{u v:Value}(hc:CR X u c)(hv:WR X v w):Sp X.e (CA P X.σ t c w) λσ'=>∃B o X',u= .pointer (some ⟨B,o,none⟩)/\(storeVar t ⟨B,o,none⟩ v).run P X.w= .ok () X'.w/\ Nx X base L X'/\ X'.σ=σ':=by
 cases hc with
 | @ptr b o B hb h=>
  simp only[CA];split
  .rename_i cs hl;refine Sp.bind (y9 hv) λvs ⟨h1,h2⟩=>?_;split
   .rename_i hcond;simp only[aJ,im] at hcond;obtain⟨B',arr,k1,⟨ty,fz,hg,hf⟩,k2⟩:=hm.bl b _ hl;obtain⟨l,k3⟩:=h _ (hm.kd _ _ hl);rw[k3] at k1;cases k1;have hlen:=h1.len;have hlen2:=k2.len;rw[du] at hlen hlen2;obtain⟨w',arr',r1,r2,r3,r4,r5⟩:=pP (P:=P) hg hf o (vs:=v.cells.toList) (by rw[du];omega) (Yl h1);refine .ret ⟨B,o,X.pt w' b (.box (DS cs o vs)),rfl,ze h2 r1,tf hm hl k3 rfl rfl rfl r2 λsx=>?_,rfl⟩;refine⟨B,arr',by rw[r4];exact k3,⟨ty,fz,r3,by rw[r4];exact hf⟩,?_⟩;rw[r5,h1.len];exact(((k2.take o).append h1).append (k2.drop _)).mono λ_ _ h=>h.step sx
   .exact .fail
  .exact .fail
 | @ep b o B x i kk k hb hi h=>
  simp only[CA];split
  .rename_i l nl z hl;split
   .rename_i n hn;refine Sp.bind (xv hm hv) λq ⟨⟨p,p1,p2,p3⟩,p4⟩=>?_;split
    .exact .fail
    .rename_i hq;have hnx:=xw hm p4;have key:Sp X.e (match n with|0=>EM.ret q.1|n=>q9 n q.1) λy=>y.ev X.e=some p/\ szT P t=some p.cells.length/\ p.cells.all t0=true:=by
      rcases storeW_spec hn with⟨rfl,ha,hz,c,rfl⟩|⟨hn0,ha,hz,hw⟩
      .have ht:=p3 ⟨c,rfl⟩;have:p.cells=[p]:=by cases p<;>first|rfl|simp[t0] at ht
       exact .ret ⟨p1,by rw[this];exact hz,by rw[this];simp[ht]⟩
      .cases n with
       |zero=>omega
       |succ n=>
        have:∃cs,p= .agg cs/\ cs.all t0=true:=by
         cases hv with
         |c _=>exact absurd rfl (hw _)
         |av _ _ _=>obtain⟨cs,h1,h2,_⟩:=p2.agg_inv;exact⟨cs,h1,h2⟩
         |agg _=>obtain⟨cs,h1,h2,_⟩:=p2.agg_inv;exact⟨cs,h1,h2⟩
        obtain⟨cs,rfl,ht⟩:=this;exact(rc p1).mono λy ⟨h1,h2⟩=>⟨h1,by rw[hz,<-h2];rfl,ht⟩
     refine Sp.bind key λy ⟨y1,y2,y3⟩=>Sp.bind Sp.emit λl' hl'=>?_;obtain⟨hz,els,e1,e2,e3,e4⟩:=hm.bl b _ hl;obtain⟨⟨lim,f1⟩,rfl⟩:=h _ _ (hm.kd _ _ hl);obtain⟨r,g1,g2⟩:=kI hl' e1 hi y1;obtain⟨row,g3,g4,rfl⟩:=U9 g1;rcases e4 with⟨_,e4⟩|⟨B',arr,e4,⟨ty,fz,hg,hf⟩,e5⟩
     .rw[f1] at e4;cases e4
     rw[f1] at e4;cases e4;have hk:=(aC.1 g3).1;have hrow:=(e3 row (ax g3)).1;have hfl:=gU e3.l;have he5:=e5.f2.len;have hsz:arr.toList.length=arr.size:=by simp
     rw[aR,hsz,hfl] at he5;have hkz:k*z+z<=els.length*z:=by have:=cB z (show k+1<=els.length from hk);rw[cx] at this;omega
     have hcl:=p2.cells.len;have hvs:v.cells.toList.length=v.cells.size:=by simp
     have hlook:look (X.fz q.2).σ.bl b=some (.lst l nl z false):=by
      show look (dF X.σ q.2).bl b=_
      rw[lS,ac (λhb=>by simp[hb] at hq),hl]
     obtain⟨w',arr',r1,r2,r3,r4,r5⟩:=pP (P:=P) hg hf (k*z+o) (vs:=v.cells.toList) (by omega) (CU p2.cells y3);refine .ret ⟨B,k*z+o,(X.fz q.2).pt w' b (.lst l' nl z false),rfl,ze (by rw[<-hvs,hcl];exact y2) r1,hnx.trans (tf hnx.mr hlook f1 rfl rfl rfl r2 λsx=>?_),rfl⟩;have hset:(els.set k (nY row o p.cells)).length=els.length:=by simp
     refine⟨hz,_,g2,by rw[hset];exact e2,λr hr=>?_,.inr ⟨B,arr',by rw[r4];exact f1,⟨ty,fz,r3,by rw[r4];exact hf⟩,?_⟩⟩
     .rcases dQ hr with hr|rfl
      .exact e3 r hr
      .have hall:=(e3 row (ax g3)).2;refine⟨by simp[nY];omega,?_⟩;simp only[nY,qa,aJ];exact⟨⟨by have:=Ae hall 0 o;rwa [dz] at this,y3⟩,by rw[aV] at hall|-;exactλq hq=>hall q (lI hq)⟩
     .have hz1:∀{α:Type} (a b c:List α) (n:Nat),a.length+b.length<=n->(a++b++c).take n=a++b++c.take (n-(a.length+b.length)):=λa b c n hn=>by
       rw[lJ,bi (by rw[aD];omega),aD]
      rw[hset,A1 e3.l hk,r5,hz1 (arr.toList.take (k*z+o)) v.cells.toList _ (els.length*z) (by rw[aR];omega)];have m1:=e5.mono (w':=w') (S':=frS X q.2) ⟨λ_ h=> .inl h,λB hB=>sx.k.get B (.inl hB)⟩;have m2:F2 (RT w' (frS X q.2)) v.cells.toList p.cells:=p2.cells.mono λ_ _ h=>h.mono ⟨λ_ h=>h,λB hB=>sx.k.get B hB⟩;have hfr:=AZ e3.l g3;have big:els.flatten=els.flatten.take (k*z)++(row++els.flatten.drop (k*z+z)):=by
       have h1:=iF (k*z) els.flatten;have h2:=iF z (els.flatten.drop (k*z));rw[hfr,gZ] at h2;rw[h2,h1]
      refine .of ?_;have a1:F2 (RT w' (frS X q.2)) (arr.toList.take (k*z+o)) (els.flatten.take (k*z+o)):=by
       have:=m1.f2.take (k*z+o);rwa [dG,bM (by omega)] at this
      have a2:F2 (RT w' (frS X q.2)) ((arr.toList.drop (k*z+o+v.cells.toList.length)).take (els.length*z-(k*z+o+v.cells.toList.length))) (els.flatten.drop (k*z+o+v.cells.toList.length)):=by
       have:=m1.f2.drop (k*z+o+v.cells.toList.length);rwa [eU] at this
      have b1:els.flatten.take (k*z)++row.take o=els.flatten.take (k*z+o):=by
       conv=>rhs;rw[big]
       rw[lJ,aR,dG];rw[gh (by omega),bM (by omega),tQ,fw (by omega)]
      have b2:row.drop (o+p.cells.length)++els.flatten.drop (k*z+z)=els.flatten.drop (k*z+o+v.cells.toList.length):=by
       conv=>rhs;rw[big]
       rw[oI,aR,bM (by omega),da (l:=els.flatten.take (k*z)) (by rw[aR];omega),aI,show k*z+o+v.cells.toList.length-k*z=o+p.cells.length by omega,List.drop_append_of_le_length (by omega)]
      have:=(a1.append m2).append a2;rw[<-b1,<-b2] at this;simp[nY,bg,bM (show k*z+o<=arr.size by omega)] at this|-
      exact this
   .exact .fail
  .exact .fail
 |_=>exact .fail
end
section
variable {X:Cx}{P:Program}{base:Nat}{L:Nat->Prop}
def Kf {off:Nat}:∀(l:List Value) (n:Nat) (cs:Array Value),off+n+l.length<=cs.size->((l.zipIdx n).foldl (λcs (p:Value×Nat)=>cs.setIfInBounds (off+p.2) p.1) cs).toList=cs.toList.take (off+n)++l++cs.toList.drop (off+n+l.length)
 |[],n,cs,h=>by simp
 |v::l,n,cs,h=>by
  simp only[aZ] at h;rw[List.zipIdx_cons,c6,Kf l (n+1) _ (by simp;omega)];simp only[f9,aZ];have hlt:off+n<cs.toList.length:=by simp;omega
  rw[List.take_set,List.drop_set,ad (by omega)];have e:(cs.toList.take (off+(n+1))).set (off+n) v=cs.toList.take (off+n)++[v]:=by
   rw[<-dK,cA,ai hlt,Option.toList_some,List.set_append,ac (by rw[aR];omega)];rw[aR,bM (by omega),js];rfl
  rw[e,show off+(n+1)+l.length=off+n+(l.length+1) by omega]
  simp
def ET {pl:Nat->Option (Nat×Nat)}{arr:Array Value}{i off:Nat}{v:Value}{ps:List (Nat×Value)}(h:pl i=some (off,v.cells.size))(hl:off+v.cells.size<=arr.size):
  ∃arr':Array Value,Instr.fill pl arr ((i,v)::ps)=Instr.fill pl arr' ps/\ arr'.size=arr.size/\ arr'.toList=arr.toList.take off++v.cells.toList++arr.toList.drop (off+v.cells.toList.length):=by
 have hf:=Kf (off:=off) v.cells.toList 0 arr (by simpa using hl)
 refine⟨v.cells.zipIdx.foldl (λcs (c,j)=>cs.setIfInBounds (off+j) c) arr,?_,?_,?_⟩
 .simp only[Instr.fill,h];rw[ac (by simp;omega)]
 .have:=aW List.length hf;rw[<-np,yc,<-du,this];simp;omega
 .rw[<-np,yc];simpa using hf
def Lx {t:TypeId}{pl:Nat->Option (Nat×Nat)}{i ty o n:Nat}(h:sG P t=some pl)(hp:JW P t i=some (ty,o))(hz:szT P ty=some n):pl i=some (o,n):=by
 unfold sG at h;unfold JW at hp;split at h
 .rename_i fields hu;rw[hu] at hp;simp only at hp;split at h
  .cases h;split at hp
   .rename_i fl hf;cases hp;simp only[hf,hz,cD,cC]
   .cases hp
  .cases h
 .rename_i _ elem hu;rw[hu] at hp;simp only at hp;split at hp
  .rename_i z hz';cases hp;rw[hz'] at hz;cases hz;rw[hz'] at h;cases h;rfl
  .cases hp
 .cases h
abbrev PrR (X:Cx)(a:Nat×Value)(b:Nat×SW):Prop:=a.1=b.1/\ WR X a.2 b.2
def Kg {t:TypeId}{pl:Nat->Option (Nat×Nat)}(hpl:sG P t=some pl):∀{vs:List (Nat×Value)} {l:List (Nat×SW)},F2 (PrR X) vs l->∀{arr:Array Value} {cs:List SC},F2 (CR X) arr.toList cs->Sp X.e (CB P t cs l) λcs'=>∃r,Instr.fill pl arr vs=some r/\ F2 (CR X) r.toList cs'
 |_,_,.nil,arr,cs,h=> .ret ⟨arr,rfl,h⟩
 |(i,v)::vs,(j,w)::l,.cons ⟨hi,hv⟩ ht,arr,cs,h=>by
  simp only at hi;subst hi
  replace hv:WR X v w:=hv
  unfold CB;split
  .rename_i ty o hp;refine Sp.bind (y9 (P:=P) hv) λxs ⟨h1,h2⟩=>?_;split
   .rename_i hb;rw[im] at hb;have hlen:=h1.len;have hl2:=h.len;rw[du] at hlen hl2;obtain⟨arr',e1,e2,e3⟩:=ET (ps:=vs) (Lx hpl hp h2) (show o+v.cells.size<=arr.size by omega)
    rw[e1];refine Kg hpl ht ?_;rw[e3,h1.len];exact((h.take o).append h1).append (h.drop _)
   .exact .fail
  .exact .fail
def Va {fields:Array Field}(h:fields.toList.all (λf=>(szT P f.type).isSome)=true)(w:World):
  (fields.mapM λf=>do pure (f.offset,<-sizeOf f.type):Sem (Array (Nat×Nat))).run P w= .ok (fields.map λf=>(f.offset,(szT P f.type).getD 0)) w:=by
 have key:∀(l:List Field),l.all (λf=>(szT P f.type).isSome)=true->(l.mapM λf=>do pure (f.offset,<-sizeOf f.type):Sem (List (Nat×Nat))).run P w= .ok (l.map λf=>(f.offset,(szT P f.type).getD 0)) w:=by
  intro l;induction l with
  |nil=>intro _;simp
  |cons f l ih=>
   intro hl;simp only[dJ,aJ] at hl;obtain⟨n,hn⟩:=tN.1 hl.1;simp only[wA,Sem.run_bind,run_sizeOf hn,Result.andThen_ok,Sem.run_pure,ih hl.2,bY,hn,cC]
 have e:fields.mapM (λf=>do pure (f.offset,<-sizeOf f.type):Field->Sem (Nat×Nat))=(do pure (<-fields.toList.mapM λf=>do pure (f.offset,<-sizeOf f.type)).toArray):=by
  rw[sy];rfl
 rw[e,Sem.run_bind,key _ h];simp only[Result.andThen_ok,Sem.run_pure]
 congr 1
 apply lF.1;simp
def Vb {t:TypeId}{vs:List (Nat×Value)}{l:List (Nat×SW)}{z:List SC}{pl:Nat->Option (Nat×Nat)}(hz:vT P t=some z)(hpl:sG P t=some pl)(hl:F2 (PrR X) vs l):Sp X.e (CB P t z l) λcs=>Sp X.e (sZ cs) (SwR P X (Instr.build t vs.toArray)):=by
 unfold vT at hz;split at hz
 .rename_i zv hzv;refine(Kg (arr:=zv.cells) hpl hl (sn hz)).mono λcs ⟨r,h1,h2⟩=>(Av h2).mono λw hw=>⟨_,?_,hw⟩;unfold sG at hpl;split at hpl
  .rename_i fields hu;obtain⟨hall,rfl⟩:=dq hpl;have hfun:(λ(i:Nat)=>(fields.map λ(f:Field)=>(f.offset,(szT P f.type).getD 0))[i]?)=λi=>(fields[i]?).map λf=>(f.offset,(szT P f.type).getD 0):=by
    funext i;simp
   simp only[Instr.build,Sem.run_bind,qw hzv,run_underlying hu,Result.andThen_ok,Va hall];simp only[hfun,h1];rfl
  .rename_i n elem hu;rw[bW] at hpl;obtain⟨size,hs,rfl⟩:=hpl;simp only[Instr.build,Sem.run_bind,qw hzv,run_underlying hu,Result.andThen_ok,run_sizeOf hs];simp only[h1];rfl
  .cases hpl
 .cases hz
def Ma {w:World}{S:Nat->Prop}:∀{vs:List Value} {ps:List PV},OO vs=some ps->F2 (RT w S) vs ps/\ ps.all t0=true
 |[],_,h=>by cases h;exact⟨.nil,rfl⟩
 |v::vs,ps,h=>by
  unfold OO at h;split at h
  .rename_i c hc;split at h
   .rename_i l hl;cases h;obtain⟨h1,h2⟩:=Ma (w:=w) (S:=S) hl;unfold pvC at hc;split at hc
    .cases hc;exact⟨.cons (.nil (.inl rfl)) h1,by simpa [t0] using h2⟩
    .obtain⟨hp,rfl⟩:=dq hc;exact⟨.cons (.v hp) h1,by simpa [t0] using h2⟩
   .cases h
  .cases h
def mU {t:TypeId}{ps:List PV}(h:pG P t=some ps):∃z,pF P t=some z/\ z.cells.size=ps.length/\ ps.all t0=true/\∀w S,F2 (RT w S) z.cells.toList ps:=by
 unfold pG at h;split at h
 .rename_i z hz;have:=λw S=>Ma (w:=w) (S:=S) h;exact⟨z,hz,by simpa using(this default (λ_=>False)).1.len,(this default λ_=>False).2,λw S=>(this w S).1⟩
 .cases h
def tg {α β:Type}{R:α->β->Prop}{a:List α}{b:List β}(h:F2 R a b):∀n,F2 R (List.replicate n a).flatten (List.replicate n b).flatten
 |0=> .nil
 |n+1=>by rw[mj,mj,ew,ew];exact h.append (tg h n)
def th (z:Array Value):∀n,((Array.range (n*z.size)).map (λi=>z[i% z.size]!)).toList=(List.replicate n z.toList).flatten
 |0=>by simp
 |n+1=>by
  have ih:=th z n;simp only[Array.toList_map,Array.toList_range] at ih|-;rw[cx,vb,qf,List.range_add,dU,mj,ew]
  congr 1
  .apply List.ext_getElem
   .simp
   .intro i h1 h2;simp at h1;simp[Nat.mod_eq_of_lt h1,h1]
  .rw[<-ih];simp[Function.comp_def]
def A2 (hm:MR X base L){w':World}{Q:Nat->Prop}(hw:Frm X.w.heap.size Q X.w w')(hq:∀B,B<X.w.heap.size->¬Q B)(hd:¬L base->¬Q X.w.heap.size):Nx X base L {X with w:=w'}:=by
 have hk:∀B,B<X.w.heap.size->w'.heap[B]?=X.w.heap[B]?:=λB h=>hw.block B h (hq B h);have sx:Sx X {X with w:=w'}:=⟨⟨[],by simp⟩,λ_ _=>rfl,⟨λ_ h=>h,λB h=>hk B (hm.cur B h)⟩,λ_ _ _ h=>h,λ_ h=>h⟩
 exact⟨sx,⟨hm.lt,hm.kd,hm.fr,λb sb h=>(hm.bl b sb h).step sx (hm.lt b sb h) λB l hr=>hk B (ey hm h hr),hm.own,hm.inj,λB h=>cd (hm.cur B h) hw.size,bG hm.hb hw.size,hm.sz,hm.fc⟩,⟨hw.os,hw.tape,hw.output,hw.size,λk h _=>hk k (cd h hm.hb),λh=>hw.drawn (hd h)⟩,λ_ h=> .inl h,rfl,rfl,aB _,λ_ h=> .inl h,λ_ _ h=>⟨rfl,h⟩⟩
def sI (hm:MR X base L){w':World}(hw:But X.w.heap.size X.w w'):Nx X base L {X with w:=w'}:=A2 hm (Q:=λ_=>False) ⟨hw.os,hw.tape,hw.output,hw.size,λk h _=>hw.block k (by omega) h,λ_=>hw.drawn⟩ (λ_ _=>id) λ_=>id
def D4 (hm:MR X base L)(hN:X.σ.nb<X.N){w':World}{arr:Array Value}{ty:TypeId}{z cap:Nat}{els:List (List PV)}{l nl:A}(hw:But X.w.heap.size X.w w')(hg:w'.heap[X.w.heap.size]?=some (.cells arr ty))(hz:0<z)(hr:Rw z els)
  (hl:l.ev X.e=some (.sl els)) (hn:nl.ev X.e=some (.i64 els.length)) (he:RTs X.w X.S (arr.toList.take (els.length*z)) els.flatten) (hc:els.length<=cap/\ cap<=9223372036854775807) (hc':cap*z<=arr.size):
  ∃X',X'.w=w'/\ VR X' (.slice (some ⟨X.w.heap.size,0,none⟩) els.length cap) (.w (.c (.lsl X.σ.nb (.c (.i64 0)) nl)))/\ Nx X base L X'/\ X'.σ=X.σ.new (.lst l nl z false):=by
 have hx:Nx X base L (X.nw w' (some (X.w.heap.size,arr.size)) (.lst l nl z false)):=CQ hm hN rfl (λB l h=>by cases h;rfl) hw λsx=>⟨hz,els,hl,hn,hr,.inr ⟨_,arr,upR_self,⟨ty,(0,0),hg,CT _⟩,he.mono sx.k⟩⟩;refine⟨_,rfl,show VR (X.nw w' (some (X.w.heap.size,arr.size)) (.lst l nl z false)) _ _ from .w (.c (.lsl (.inr rfl) rfl λnl' z' h=>?_)),hx,rfl⟩
 cases upR_self.symm.trans h;exact⟨0,els.length,els.length,rfl,hn,hn,by omega,.inl ⟨_,_,cap,upR_self,by simp,by omega,by simpa using hc'⟩⟩
def RT.cells_t0 {w:World}{S:Nat->Prop}{v:Value}{p:PV}(h:RT w S v p):p.cells.all t0=true:=by
 cases h<;>first|rfl|assumption
def CV:∀{z:Nat} {els els':List (List PV)} {ids:List Nat} {ps:List PV},vP z els ids ps=some els'->els'.length=els.length
 |z,els,els',[],[],h=>by cases h;rfl
 |z,els,els',i::ids,p::ps,h=>by
  unfold vP at h;obtain⟨_,h⟩:=U6 h;rw[CV h,aP]
 |_,_,_,[],_::_,h=>by cases h
 |_,_,_,_::_,[],h=>by cases h
def EU {w:World}{S:Nat->Prop}{z:Nat}:∀{vs:List (Nat×Value)} {ps:List PV} {els els':List (List PV)} {arr:Array Value},F2 (RT w S) (vs.map (·.2)) ps->vP z els (vs.map (·.1)) ps=some els'->Rw z els->RTs w S arr.toList els.flatten->
  ∃r,Instr.fill (λi=>some (i*z,z)) arr vs=some r/\ RTs w S r.toList els'.flatten/\ Rw z els'
 |[],ps,els,els',arr,h,hs,hr,ha=>by
  cases h;cases hs;exact⟨arr,rfl,ha,hr⟩
 |(i,v)::vs,ps,els,els',arr,h,hs,hr,ha=>by
  cases h with
  | @cons _ p _ ps h t=>
   unfold vP at hs;simp only[bY] at hs;obtain⟨⟨hi,hz⟩,hs⟩:=U6 hs;have hc:F2 (RT w S) v.cells.toList p.cells:=RT.cells h;have hcl:=hc.len;have hal:=ha.f2.len;rw[gU hr.l] at hal;rw[du] at hcl hal;have hle:i*z+z<=els.length*z:=by have:=cB z (show i+1<=els.length from hi);rw[cx] at this;omega
   obtain⟨arr',e1,e2,e3⟩:=ET (pl:=λi=>some (i*z,z)) (arr:=arr) (i:=i) (v:=v) (ps:=vs) (off:=i*z) (by rw[hcl,hz]) (by omega);rw[e1];refine EU t hs (λr hr'=>?_) ?_
   .rcases dQ hr' with h'|rfl
    .exact hr r h'
    .exact⟨hz,RT.cells_t0 (w:=w) (S:=S) h⟩
   .have hvl:v.cells.toList.length=z:=by rw[du];omega
    rw[e3,A1 hr.l hi,hvl];exact .of (((ha.f2.take _).append hc).append (ha.f2.drop _))
def D5 (hm:MR X base L){t len:Nat}{vs:List (Nat×Value)}{l:List (Nat×SW)}(hl:F2 (PrR X) vs l):Sp X.e (uQ P X.σ t len l) (SmR P X base L (Instr.buildSlice t len vs.toArray)):=by
 unfold uQ;split
 .rename_i elem hu;split
  .rename_i size hs;split
   .rename_i z hz;split
    .rename_i hc;simp only[aJ,im] at hc;obtain⟨⟨h1,h2⟩,h3⟩:=hc;have h3:=jD h3;obtain⟨zv,hzv,q1,q2,q3⟩:=mU hz;have hv2:F2 (WR X) (vs.map (·.2)) (l.map (·.2))/\ vs.map (·.1)=l.map (·.1):=by
      clear hm;induction hl with
      |nil=>exact⟨.nil,rfl⟩
      |cons h _ ih=>exact⟨.cons h.2 ih.1,by simp[h.1,ih.2]⟩
     refine Sp.bind (oW hm hv2.1) λq ⟨⟨ps,p1,p2⟩,p3⟩=>?_;have hbig:¬len*size>2^ 24:=by omega
     cases len with
     |zero=>
      simp only;split
      .have:vs=[]:=by cases hl;rfl
       subst this;refine .ret λ_=>⟨.slice (some ⟨X.w.heap.size,0,none⟩) 0 0,{X with w:=X.w.alloc (.cells #[] elem)},?_,.w (.c (.nil (.inr ⟨_,_,rfl⟩))),sI hm (.alloc _),rfl⟩
       have:=pO (P:=P) X.w elem #[];simp[Instr.buildSlice,run_underlying hu,run_sizeOf hs,Instr.fill,this];rw[show(Array.map (λ(x:Nat)=>(default:Value)) (Array.range 0))=#[] by simp,this]
       rfl
      .exact .fail
     |succ n=>
      simp only;refine Sp.bind Sp.emit λy ⟨xs,v,y1,y2,y3⟩=> .ret λhn=>?_;rw[p1] at y1;cases y1;simp only[RF.ev] at y2;split at y2
      .rename_i els' hset;cases y2;rw[h3,<-hv2.2] at hset;have hnx:=xw hm p3;have hrep:Rw size (List.replicate (n+1) z):=λr hr=>by rw[(fD.1 hr).2];exact⟨h3,q2⟩
       obtain⟨arr,f1,f2,f3⟩:=EU (arr:=(Array.range ((n+1)*size)).map (λi=>zv.cells[i% zv.cells.size]!)) p2 hset hrep (.of (by
        have:=th zv.cells (n+1);rw[q1,h3] at this;rw[q1,h3,this];exact tg (q3 X.w (frS X q.2)) _))
       have hlen:=CV hset;rw[aQ] at hlen;have hfl:=f2.f2.len;rw[gU f3.l,du] at hfl;have hN:(X.fz q.2).σ.nb<X.N:=hn;obtain⟨X',w1,w2,w3,w4⟩:=D4 (X:=X.fz q.2) (cap:=n+1) (nl:= .c (.i64 (n+1:Nat))) hnx.mr hN (.alloc (.cells arr elem)) (te _ _) h2 f3 y3 (by rw[hlen];rfl) (by rw[bi (by rw[du];omega)];exact f2) (by have:=nM (n+1) h2;omega) (by have h9:(n+1)*size=els'.length*size:=by{rw[hlen]};omega);refine⟨.slice (some ⟨X.w.heap.size,0,none⟩) (n+1) (n+1),X',?_,?_,hnx.trans w3,w4⟩
       .rw[w1];have h0:¬(n+1)*size=0:=Nat.ne_of_gt (Nat.mul_pos (zM n) h2);have:=pO (P:=P) X.w elem arr;simp[Instr.buildSlice,run_underlying hu,run_sizeOf hs,qw hzv,Sem.run_ite,f1,this,hbig,h0];rfl
       .have e:(dF X.σ q.2).nb=X.σ.nb:=(sm _ _).1;have:VR X' (.slice (some ⟨X.w.heap.size,0,none⟩) els'.length (n+1)) (.w (.c (.lsl (dF X.σ q.2).nb (.c (.i64 0)) (.c (.i64 (n+1:Nat)))))):=w2;rw[hlen,e] at this;exact this
      .cases y2
    .exact .fail
   .exact .fail
  .exact .fail
 .exact .fail
def gV {a y:A}{p:PV}(h:oc X.e .len [a] y)(ha:a.ev X.e=some p):∃els,p= .sl els/\ y.ev X.e=some (.i64 els.length):=by
 obtain⟨u,h1,h2⟩:=iW h ha;cases p<;>simp only[RF.ev] at h1<;>try (cases h1;done)
 cases h1;exact⟨_,rfl,h2⟩
def mX {v:Value}{k:IntKind}{n:Int}(h:X.T v (.v (.int k n))):v= .int k n:=by cases h;rfl
def Kh {z:List PV}{bytes:Nat}{p p' r:PV}(h:(RF.rep z bytes).ev [p,p']=some r):∃k l k' c,p= .v (.int k l)/\ p'= .v (.int k' c)/\ 0<=l/\ l<=c/\ c<9223372036854775808/\ bytes*c<=281474976710656/\ r= .sl (List.replicate l.toNat z):=by
 simp only[RF.ev] at h;split at h
 .rename_i e;cases e;obtain⟨⟨c1,c2,c3,c4⟩,rfl⟩:=dq h;exact⟨_,_,_,_,rfl,rfl,c1,c2,c3,c4,rfl⟩
 .cases h
def Fm (hm:MR X base L){t:TypeId}{a b:SC}{v1 v2:Value}(ha:CR X v1 a)(hb:CR X v2 b):Sp X.e (xk P X.σ t a b) (SmR P X base L (Instr.makeSlice t v1 v2)):=by
 unfold xk;split
 .rename_i elem he;have hu:P.underlying t=some (.slice elem):=by
   unfold elemOf at he;split at he
   .rename_i e' hu;cases he;exact hu
   .cases he
  split
  .rename_i info hi;split
   .rename_i z hz;split
    .rename_i hc;simp only[aJ,im] at hc;obtain⟨⟨⟨h3,h2⟩,h4⟩,h5⟩:=hc;have h3:=jD h3;obtain⟨zv,hzv,q1,q2,q3⟩:=mU hz;refine Sp.bind (dI ha) λa ⟨p,a1,_,a3⟩=>Sp.bind (dI hb) λb ⟨p',b1,_,b3⟩=>Sp.bind Sp.emit λr hr=>Sp.bind Sp.emit λn hn=> .ret λhN=>?_;obtain⟨u,r1,r2⟩:=gP hr a1 b1;obtain⟨k,l,k',c,rfl,rfl,c1,c2,c3,c4,rfl⟩:=Kh r1;obtain⟨els,e1,e2⟩:=gV hn r2;cases e1;have:=mX a3;subst this;have:=mX b3;subst this;have hsz:=th zv.cells c.toNat;rw[q1,h3] at hsz;have hrl:Rw info.size (List.replicate l.toNat z):=λr hr=>by rw[(fD.1 hr).2];exact⟨h3,q2⟩
     have hzl:zv.cells.toList.length=info.size:=by simpa [h3] using q1
     have hct:(List.replicate c.toNat zv.cells.toList).flatten.take (l.toNat*info.size)=(List.replicate l.toNat zv.cells.toList).flatten:=by
      have:c.toNat=l.toNat+(c.toNat-l.toNat):=by omega
      rw[this,<-pe,ef,fw,bi]<;>simp[hzl]
     obtain⟨X',w1,w2,w3,w4⟩:=D4 (l:=r) (nl:=n) (cap:=c.toNat) hm hN (.alloc (.cells ((Array.range (c.toNat*info.size)).map λi=>zv.cells[i% zv.cells.size]!) elem)) (te _ _) h2 hrl r2 e2 (by
      rw[q1,h3,hsz,aQ,hct];exact .of (tg (q3 X.w X.S) _)) (by simp;omega) (by simp)
     refine⟨_,X',?_,w2,w3,w4⟩;rw[w1];have hzero:info.zero=some zv:=by unfold pF at hzv;rw[hi] at hzv;simpa using hzv
     have hwl:IntKind.i64.wrap l=l:=by simp[IntKind.wrap,IntKind.bits,IntKind.signed];omega
     have hwc:IntKind.i64.wrap c=c:=by simp[IntKind.wrap,IntKind.bits,IntKind.signed];omega
     have n1:¬(c<0):=by omega
     have n2:¬(281474976710656<(info.bytes:Int)*c):=by omega
     have n3:¬(l<0):=by omega
     have n4:¬(c<l):=by omega
     have hnr:=λarr=>pO (P:=P) X.w elem arr;by_cases h0:c.toNat*info.size=0
     .have harr:(Array.range (c.toNat*info.size)).map (λi=>zv.cells[i% zv.cells.size]!)=#[]:=by rw[h0];simp
      rw[harr];simp[Instr.makeSlice,run_underlying hu,asInt,asIntOf,typeInfo,hi,Go.sizeOf,hwl,hwc,n1,n2,n3,n4,h0];rw[show(Array.map (λ(_:Nat)=>(default:Value)) (Array.range 0))=#[] from by simp,hnr]
      simp
     .simp[Instr.makeSlice,run_underlying hu,asInt,asIntOf,typeInfo,zeroValue,hi,hzero,Go.sizeOf,hwl,hwc,n1,n2,n3,n4,h0,hnr]
    .exact .fail
   .exact .fail
  .exact .fail
 .exact .fail
end
def cO {α:Type}(P:Program):Sem α->Option α
 | .pure a=>some a
 | .program k=>cO P (k P)
 | .mark _ k=>cO P k
 |_=>none
def f7 {α:Type}(P:Program):∀(e:Sem α) (a:α),cO P e=some a->∀w,e.run P w= .ok a w:=by
 intro e;induction e with
 |pure b=>intro a h w;simp[cO] at h;cases h;rfl
 |program k ih=>intro a h w;simp[cO] at h;simp[Sem.run];exact ih P a h w
 |mark m k ih=>intro a h w;simp[cO] at h;simp[Sem.run];exact ih a h w
 |_=>intro a h w;simp[cO] at h
section
variable {P:Program}
def bR {α β:Type}(x:Sem α)(f:α->Sem β):cO P (x>>=f)=(cO P x).bind λa=>cO P (f a):=by
 induction x with
 |pure a=>rfl
 |program k ih=>exact ih P
 |mark m k ih=>exact ih
 |_=>rfl
def Ym {t:TypeId}{xo yo:Operand}{op:BinOp}{k k':IntKind}{a b:Int}{v:Value}(h:dC op k a k' b=some (.v v)):
  cO P (do eqGuard op t xo yo (.int k a) (.int k' b);binOp op t (.int k a) (.int k' b))=some v:=by
 have sameK:∀{X:Sem Value},k=k'->(if k≠k' then stuck "BinOp: operands of different kinds" else X)=X:=by
  grind
 cases op<;>simp only[dC] at h
 case add=>split at h;(rename_i e;subst e;cases h;simp only[binOp];rw[sameK rfl];rfl);cases h
 case sub=>split at h;(rename_i e;subst e;cases h;simp only[binOp];rw[sameK rfl];rfl);cases h
 case mul=>split at h;(rename_i e;subst e;cases h;simp only[binOp];rw[sameK rfl];rfl);cases h
 case quo=>
  split at h
  .rename_i e;subst e;split at h
   .cases h
   .rename_i hb;cases h;simp only[binOp];rw[sameK rfl];simp only[Op.intDiv];rw[ac hb];rfl
  .cases h
 case rem=>
  split at h
  .rename_i e;subst e;split at h
   .cases h
   .rename_i hb;cases h;simp only[binOp];rw[sameK rfl];simp only[Op.intDiv];rw[ac hb];rfl
  .cases h
 case and=>split at h;(rename_i e;subst e;cases h;simp only[binOp];rw[sameK rfl];rfl);cases h
 case or=>split at h;(rename_i e;subst e;cases h;simp only[binOp];rw[sameK rfl];rfl);cases h
 case xor=>split at h;(rename_i e;subst e;cases h;simp only[binOp];rw[sameK rfl];rfl);cases h
 case andNot=>split at h;(rename_i e;subst e;cases h;simp only[binOp];rw[sameK rfl];rfl);cases h
 case shl=>
  split at h
  .cases h
  .rename_i hb;cases h;simp only[binOp,Op.shift];rw[ac hb];rfl
 case shr=>
  split at h
  .cases h
  .rename_i hb;cases h;simp only[binOp,Op.shift];rw[ac hb];rfl
 case eql=>split at h;(rename_i e;subst e;cases h;simp only[binOp];rw[sameK rfl];show some (Value.bool (a==b))=_;congr 2);cases h
 case neq=>split at h;(rename_i e;subst e;cases h;simp only[binOp];rw[sameK rfl];show some (Value.bool (a !=b))=_;congr 2);cases h
 case lss=>split at h;(rename_i e;subst e;cases h;simp only[binOp];rw[sameK rfl];rfl);cases h
 case leq=>split at h;(rename_i e;subst e;cases h;simp only[binOp];rw[sameK rfl];rfl);cases h
 case gtr=>split at h;(rename_i e;subst e;cases h;simp only[binOp];rw[sameK rfl];rfl);cases h
 case geq=>split at h;(rename_i e;subst e;cases h;simp only[binOp];rw[sameK rfl];rfl);cases h
def SM {op:BinOp}{k k':IntKind}{a b:Int}{p:PV}(h:dC op k a k' b=some p):∃v,p= .v v/\ jm v=true:=by
 unfold dC at h
 (repeat' split at h)<;>first|(cases h;done)|(cases h;exact⟨_,rfl,rfl⟩)
def Yn {t:TypeId}{xo yo:Operand}{op:BinOp}{a b:ByteArray}{v:Value}(h:yP op a b=some (.v v)):
  cO P (do eqGuard op t xo yo (.string a) (.string b);binOp op t (.string a) (.string b))=some v:=by
 cases op<;>simp only[yP] at h<;>try (cases h;done)
 case add=>
  split at h
  .cases h
  .rename_i hn;cases h;simp[binOp,Op.stringOp];rw[ac (by simpa using hn)]
   rfl
 case eql=>cases h;rfl
 case neq=>cases h;rfl
def SN {op:BinOp}{a b:ByteArray}{p:PV}(h:yP op a b=some p):∃v,p= .v v/\ jm v=true:=by
 unfold yP at h
 (repeat' split at h)<;>first|(cases h;done)|(cases h;exact⟨_,rfl,rfl⟩)
def Vc {t:TypeId}{xo yo:Operand}{op:BinOp}{a b:Bool}{v:Value}(ht:P.underlying t=some .bool)(h:uo op a b=some (.v v)):
  cO P (do eqGuard op t xo yo (.bool a) (.bool b);binOp op t (.bool a) (.bool b))=some v:=by
 have hu:cO P (underlying t)=some .bool:=by
  unfold underlying;rw[bR];show(some P:Option Program).bind _=_
  rw[bC,ht];rfl
 cases op<;>simp only[uo] at h<;>try (cases h;done)
 case eql=>
  cases h;show cO P ((Op.equal t (.bool a) (.bool b))>>=λx=>pure (Value.bool x))=_
  unfold Op.equal Op.maxDepth;unfold Op.equalIn;simp only[bR,hu,bC];rfl
 case neq=>
  cases h;show cO P ((Op.equal t (.bool a) (.bool b))>>=λx=>pure (Value.bool (!x)))=_
  unfold Op.equal Op.maxDepth;unfold Op.equalIn;simp only[bR,hu,bC];rfl
def O5 {op:BinOp}{a b:Bool}{p:PV}(h:uo op a b=some p):∃v,p= .v v/\ jm v=true:=by
 unfold uo at h
 (repeat' split at h)<;>first|(cases h;done)|(cases h;exact⟨_,rfl,rfl⟩)
def mY (P:Program)(t:TypeId)(vs:List Value):Option Value:=
 match b7 P t with
 |some true=>some (.agg vs.toArray)
 |some false=>vs[0]?
 |none=>none
def eB {t:TypeId}{d:TypeDesc}(h:P.underlying t=some d):cO P (underlying t)=some d:=by
 unfold underlying;rw[bR];show(some P:Option Program).bind _=_
 rw[bC,h];rfl
def CW {t:TypeId}{b:Bool}(h:b7 P t=some b):cO P (isAgg t)=some b:=by
 unfold b7 at h;rw[bW] at h;obtain⟨d,h1,h2⟩:=h;unfold isAgg;rw[bR,eB h1,bC];subst h2;cases d<;>rfl
def Ly {t:TypeId}{n:Nat}(h:szT P t=some n):cO P (sizeOf t)=some n:=by
 unfold szT at h;rw[bW] at h;obtain⟨i,h1,h2⟩:=h;unfold sizeOf typeInfo;rw[bR,bR];show((some P:Option Program).bind _).bind _=_
 rw[bC,h1];subst h2;rfl
structure EqT (P:Program)(t:TypeId)(ks:List Ck):Prop where
 agg:(b7 P t=some true/\ szT P t=some ks.length)\/(b7 P t=some false/\ ks.length=1)
def zf {t:TypeId}{ks:List Ck}(h:EqT P t ks){vs:List Value}{o:Nat}(hl:o+ks.length<=vs.length):∃u,mY P t ((vs.drop o).take ks.length)=some u/\ cO P (part t vs.toArray o)=some u:=by
 rcases h.agg with⟨h1,h2⟩|⟨h1,h2⟩
 .refine⟨.agg ((vs.drop o).take ks.length).toArray,by unfold mY;rw[h1],?_⟩;unfold part;rw[bR,CW h1,bC];simp only[az];rw[bR,Ly h2,bC];show some (Value.agg _)=_
  grind
 .have hlt:o<vs.length:=by omega
  refine⟨vs[o],?_,?_⟩
  .unfold mY
   grind
  .unfold part;rw[bR,CW h1,bC];have:vs.toArray[o]?=some vs[o]:=by simp
   rw[this];rfl
def jI:∀{ks:List Ck} {xs ys:List PV} {b:Bool},eqL ks xs ys=some b->xs.length=ks.length/\ ys.length=ks.length
 |[],[],[],b,h=>⟨rfl,rfl⟩
 |k::ks,x::xs,y::ys,b,h=>by
  unfold eqL at h;split at h
  .split at h
   .rename_i h2;obtain⟨a,c⟩:=jI h2;simp[a,c]
   .cases h
  .cases h
 |[],[],_::_,_,h=>by cases h
 |[],_::_,_,_,h=>by cases h
 |_::_,[],_,_,h=>by cases h
 |_::_,_::_,[],_,h=>by cases h
def CX:∀{ks ls:List Ck} {xs ys:List PV} {b:Bool},eqL (ks++ls) xs ys=some b->∃b1 b2,eqL ks (xs.take ks.length) (ys.take ks.length)=some b1/\ eqL ls (xs.drop ks.length) (ys.drop ks.length)=some b2/\ b=(b1&& b2)
 |[],ls,xs,ys,b,h=>⟨true,b,rfl,h,by simp⟩
 |k::ks,ls,[],ys,b,h=>by cases h
 |k::ks,ls,x::xs,[],b,h=>by cases h
 |k::ks,ls,x::xs,y::ys,b,h=>by
  simp at h;unfold eqL at h;split at h
  .rename_i c hc;split at h
   .rename_i d hd;cases h;obtain⟨b1,b2,h1,h2,rfl⟩:=CX hd;exact⟨c&& b1,b2,by simp only[aZ,jx,eqL,hc,h1],h2,by rw[Bool.and_assoc]⟩
   .cases h
  .cases h
def CY (vs:List Value)(n:Nat):(vs.map PV.v).take n=(vs.take n).map PV.v:=by rw[ya]
def CZ (vs:List Value)(n:Nat):(vs.map PV.v).drop n=(vs.drop n).map PV.v:=by rw[x9]
def Vd (P:Program)(D:Nat)(t:TypeId)(ks:List Ck):Prop:=EqT P t ks/\∀(vx vy:List Value) (b:Bool),eqL ks (vx.map .v) (vy.map .v)=some b->∃u w,mY P t vx=some u/\ mY P t vy=some w/\ cO P (Op.equalIn D t u w)=some b
def Mb {D:Nat}{rec:TypeId->Option (List Ck)}(hrec:∀t ks,rec t=some ks->Vd P D t ks){vx vy:List Value}:∀(fs:List Field) (o:Nat) {ks:List Ck} {b:Bool},yS rec fs o=some ks->o<=vx.length->o<=vy.length->eqL ks ((vx.drop o).map .v) ((vy.drop o).map .v)=some b->
  cO P (forIn fs ((none,()):Option Bool×Unit) λf __s=>
      if f.name≠ "_" then do
       let __do_lift<-part f.type vx.toArray f.offset
       let __do_lift_1<-part f.type vy.toArray f.offset
       let __do_lift<-Op.equalIn D f.type __do_lift __do_lift_1
       if(!__do_lift)=true then pure (ForInStep.done (some false,())) else pure (ForInStep.yield (none,()))
      else pure (ForInStep.yield (none,())))=some ((if b then none else some false),())
 |[],o,ks,b,h,_,_,hl=>by
  cases h;have:=jI hl;have:vx.drop o=[]:=bS (by simpa using this.1)
  have:vy.drop o=[]:=bS (by have:=(jI hl).2;simpa using this)
  simp;simp_all[eqL];cases hl;rfl
 |f::fs,o,ks,b,h,ho1,ho2,hl=>by
  unfold yS at h;split at h
  .rename_i hn;simp only[aJ,bne_iff_ne] at hn;have ho:=bm hn.2;split at h
   .rename_i k hk;split at h
    .rename_i r hr;cases h;obtain⟨b1,b2,e1,e2,rfl⟩:=CX hl;have hlen:=jI hl;simp at hlen;obtain⟨hT,hE⟩:=hrec _ _ hk;rw[CY,CY] at e1;obtain⟨u,w,m1,m2,m3⟩:=hE _ _ _ e1;obtain⟨u',p1,p2⟩:=zf hT (vs:=vx) (o:=o) (by omega);obtain⟨w',q1,q2⟩:=zf hT (vs:=vy) (o:=o) (by omega);rw[m1] at p1;cases p1;rw[m2] at q1;cases q1;simp only[List.forIn_cons];rw[ad hn.1,ho,bR,bR,p2,bC,bR,q2,bC,bR,m3,bC];cases b1 with
     |false=>rfl
     |true=>
      simp only[gI];rw[CZ,CZ,gZ,gZ] at e2;exact Mb hrec fs (o+k.length) hr (by omega) (by omega) e2
    .cases h
   .cases h
  .cases h
def v7:∀(d:Nat) {t:TypeId} {ks:List Ck},jB P d t=some ks->∀D,d<=D->Vd P D t ks
 |0,t,ks,h=>by cases h
 |d+1,t,ks,h=>by
  intro D hD;obtain⟨D,rfl⟩:∃D',D=D'+1:=⟨D-1,by omega⟩;unfold jB at h;have one:∀{k:Ck} {d:TypeDesc},P.underlying t=some d->JQ d=false->(∀x y b,eqC k (.v x) (.v y)=some b->cO P (Op.equalIn (D+1) t x y)=some b)->Vd P (D+1) t [k]:=by
   intro k d hu ha hE;have hag:b7 P t=some false:=by unfold b7;rw[hu];simp[ha]
   refine⟨⟨.inr ⟨hag,rfl⟩⟩,λvx vy b hb=>?_⟩;have hl:=jI hb;simp at hl;obtain⟨x,rfl⟩:=n9.1 hl.1;obtain⟨y,rfl⟩:=n9.1 hl.2;refine⟨x,y,by unfold mY;rw[hag];rfl,by unfold mY;rw[hag];rfl,?_⟩;simp only[bY,tI,eqL] at hb;split at hb
   .rename_i c hc;cases hb;rw[jK];exact hE x y c hc
   .cases hb
  split at h
  .rename_i hu;cases h;refine one hu rfl λx y b hb=>?_;cases x<;>cases y<;>simp[eqC] at hb<;>try (cases hb;done)
   cases hb;unfold Op.equalIn;rw[bR,eB hu,bC];rfl
  .rename_i k hu;cases h;refine one hu rfl λx y b hb=>?_;cases x<;>cases y<;>simp only[eqC] at hb<;>try (cases hb;done)
   split at hb
   .rename_i e;cases hb;subst e;unfold Op.equalIn;rw[bR,eB hu,bC];simp;show some _=some _
    congr 1
   .cases hb
  .rename_i hu;cases h;refine one hu rfl λx y b hb=>?_;cases x<;>cases y<;>simp only[eqC] at hb<;>try (cases hb;done)
   cases hb;unfold Op.equalIn;rw[bR,eB hu,bC];rfl
  .rename_i fields hu;split at h
   .cases h
   .rename_i hst;split at h
    .rename_i ks' hfs;split at h
     .rename_i m hm;split at h
      .rename_i hb;cases h;have e:=bm hb;have hag:b7 P t=some true:=by unfold b7;rw[hu];rfl
       refine⟨⟨.inl ⟨hag,by rw[hm,e]⟩⟩,λvx vy b hl=>?_⟩;refine⟨.agg vx.toArray,.agg vy.toArray,by unfold mY;rw[hag],by unfold mY;rw[hag],?_⟩;have loop:=Mb (P:=P) (D:=D) (rec:=jB P d) (λt ks hk=>v7 d hk D (by omega)) (vx:=vx) (vy:=vy) fields.toList 0 hfs (b8 _) (b8 _) (by simpa using hl)
       unfold Op.equalIn;simp only[bR,eB hu,bC];have hp:cO P program=some P:=rfl;rw[hp];simp only[bC,hst,au,aw];simp only[<-Array.forIn_toList];rw[bR,loop,bC];cases b<;>rfl
      .cases h
     .cases h
    .cases h
  .cases h
def C1:∀(d:Nat) {t:TypeId} {ks:List Ck},jB P d t=some ks->∀D,d<=D->P.eqGuardType D t=false
 |0,t,ks,h=>by cases h
 |d+1,t,ks,h=>by
  intro D hD;obtain⟨D,rfl⟩:∃D',D=D'+1:=⟨D-1,by omega⟩;unfold jB at h;unfold Program.eqGuardType;split at h
  .rename_i hu;rw[hu]
  .rename_i hu;rw[hu]
  .rename_i hu;rw[hu]
  .rename_i fields hu;rw[hu];simp only;split at h
   .cases h
   .split at h
    .rename_i ks' hfs;have:∀(fs:List Field) (o:Nat) (ks:List Ck),yS (jB P d) fs o=some ks->∀f∈fs,P.eqGuardType D f.type=false:=by
      intro fs;induction fs with
      |nil=>intro o ks _ f hf;cases hf
      |cons g gs ih=>
       intro o ks hk f hf;unfold yS at hk;split at hk
       .split at hk
        .rename_i k hk1;split at hk
         .rename_i r hr;rcases bz.1 hf with rfl|hf
          .exact C1 d hk1 D (by omega)
          .exact ih _ _ hr f hf
         .cases hk
        .cases hk
       .cases hk
     rw[<-Array.any_toList,dZ];intro f hf;simp[this _ _ _ hfs f hf]
    .cases h
  .cases h
def Yo {t:TypeId}{xo yo:Operand}{ks:List Ck}{vx vy:List Value}{b:Bool}(hk:jB P 10 t=some ks)(hd:10<=P.depth)(ha:b7 P t=some true)(h:eqL ks (vx.map .v) (vy.map .v)=some b):
  cO P (do eqGuard .eql t xo yo (.agg vx.toArray) (.agg vy.toArray);binOp .eql t (.agg vx.toArray) (.agg vy.toArray))=some (.bool b)/\ cO P (do eqGuard .neq t xo yo (.agg vx.toArray) (.agg vy.toArray);binOp .neq t (.agg vx.toArray) (.agg vy.toArray))=some (.bool (!b)):=by
 obtain⟨_,hE⟩:=v7 10 hk Op.maxDepth (by decide);obtain⟨u,w,h1,h2,h3⟩:=hE vx vy b h;unfold mY at h1 h2;rw[ha] at h1 h2;cases h1;cases h2;have hg:=C1 10 hk P.depth hd;have guard:∀op,(op= .eql\/op= .neq)->cO P (eqGuard op t xo yo (.agg vx.toArray) (.agg vy.toArray))=some ():=by
  intro op ho;have hp:cO P program=some P:=rfl;rcases ho with rfl|rfl<;>
  .unfold eqGuard;simp only[aF,au,aw,bR]
   try rw[hp]
   try simp only[bC,hg,bA,az]
   rfl
 constructor
 .rw[bR,guard _ (.inl rfl),bC];show cO P ((Op.equal t (.agg vx.toArray) (.agg vy.toArray))>>=λx=>pure (Value.bool x))=_
  rw[bR];unfold Op.equal;rw[h3];rfl
 .rw[bR,guard _ (.inr rfl),bC];show cO P ((Op.equal t (.agg vx.toArray) (.agg vy.toArray))>>=λx=>pure (Value.bool (!x)))=_
  rw[bR];unfold Op.equal;rw[h3];rfl
end
section
variable {X:Cx}{P:Program}{base:Nat}{L:Nat->Prop}
def jn {v:Value}{x:Value}(h:X.T v (.v x)):v=x:=by cases h;rfl
def C2 {w:World}{S:Nat->Prop}:∀{ks:List Ck} {xs ys:List PV} {b:Bool} {vx vy:List Value},eqL ks xs ys=some b->F2 (RT w S) vx xs->F2 (RT w S) vy ys->xs=vx.map .v/\ ys=vy.map .v
 |[],[],[],b,_,_,h,hx,hy=>by cases hx;cases hy;exact⟨rfl,rfl⟩
 |k::ks,x::xs,y::ys,b,_,_,h,.cons (a:=u) hx tx,.cons (a:=w) hy ty=>by
  unfold eqL at h;split at h
  .rename_i c hc;split at h
   .rename_i d hd;obtain⟨e1,e2⟩:=C2 hd tx ty;have:x= .v u/\ y= .v w:=by
     cases k<;>cases x<;>cases y<;>simp[eqC] at hc<;>first|(cases hc;done)|exact⟨by cases hx;rfl,by cases hy;rfl⟩
    rw[e1,e2,this.1,this.2];exact⟨rfl,rfl⟩
   .cases h
  .cases h
 |[],[],_::_,_,_,_,h,_,_=>by cases h
 |[],_::_,_,_,_,_,h,_,_=>by cases h
 |_::_,[],_,_,_,_,h,_,_=>by cases h
 |_::_,_::_,[],_,_,_,h,_,_=>by cases h
def Ag (hm:MR X base L){w:SW}{v:Value}(h:WR X v w):Sp X.e (JX X.σ w) λa=>∃p,a.ev X.e=some p/\ X.T v p:=by
 refine Sp.bind (xv hm h) λq ⟨⟨p,h1,h2,_⟩,_⟩=>?_;split
 .rename_i hq;rw[hq] at h2;exact .ret ⟨p,h1,h2.mono ⟨λB hB=>hB.elim id (λ⟨_,hb,_⟩=>by cases hb),λ_ _=>rfl⟩⟩
 .exact .fail
def D6 {x y:SW}{u v:Value}{f:RF}{s:Sem Value}(hx:WR X u x)(hy:WR X v y)(h:∀p q r,X.T u p->X.T v q->f.ev [p,q]=some r->∃w,r= .v w/\ jm w=true/\ s.run P X.w= .ok w X.w):Sp X.e (JY f x y) λsv=>∃w,s.run P X.w= .ok w X.w/\ VR X w sv:=by
 unfold JY;split
 .split
  .refine Sp.bind (dI hx.inv) λa ⟨p,a1,_,a3⟩=>Sp.bind (dI hy.inv) λb ⟨q,b1,_,b3⟩=>Sp.bind Sp.emit λr hr=>?_;obtain⟨z,h1,h2⟩:=gP hr a1 b1;obtain⟨w,rfl,hp,hw⟩:=h p q z a3 b3 h1;exact .ret ⟨w,hw,.w (.c (.a h2 rfl (.v hp)))⟩
  .exact .fail
 .exact .fail
def Yp (hm:MR X base L){op:BinOp}{t:TypeId}{xo yo:Operand}{x y:SW}{u v:Value}(hx:WR X u x)(hy:WR X v y):Sp X.e (UW P X.σ op t x y) λsv=>∃w,(do eqGuard op t xo yo u v;binOp op t u v:Sem Value).run P X.w= .ok w X.w/\ VR X w sv:=by
 have ints:∀p q r,X.T u p->X.T v q->(RF.bin op).ev [p,q]=some r->∃w,r= .v w/\ jm w=true/\(do eqGuard op t xo yo u v;binOp op t u v:Sem Value).run P X.w= .ok w X.w:=by
  intro p q r hp hq h;simp only[RF.ev] at h;split at h
  .rename_i k a k' b e;cases e;have:=jn hp;subst this;have:=jn hq;subst this;obtain⟨w,rfl,hw⟩:=SM h;exact⟨w,rfl,hw,f7 P _ _ (Ym h) _⟩
  .rename_i a b e;cases e;have:=jn hp;subst this;have:=jn hq;subst this;obtain⟨w,rfl,hw⟩:=SN h;exact⟨w,rfl,hw,f7 P _ _ (Yn h) _⟩
  .cases h
 unfold UW;split
 .rename_i fields hu;have hag:b7 P t=some true:=by unfold b7;rw[hu];rfl
  split
  .rename_i hc;simp only[aJ,im] at hc;split
   .rename_i ks hk;refine Sp.bind (Ag hm hx) λa' ⟨p,a1,a2⟩=>Sp.bind (Ag hm hy) λb' ⟨q,b1,b2⟩=>Sp.bind Sp.emit λr hr=>?_;obtain⟨z,e1,e2⟩:=gP hr a1 b1;simp only[RF.ev] at e1;split at e1
    .rename_i xs ys hl;cases hl;split at e1
     .rename_i c hc';cases e1;have run:∀vx vy:Array Value,u= .agg vx->v= .agg vy->cO P (do eqGuard .eql t xo yo u v;binOp .eql t u v)=some (.bool c)/\ cO P (do eqGuard .neq t xo yo u v;binOp .neq t u v)=some (.bool (!c)):=by
       rintro vx vy rfl rfl;obtain⟨_,e3,_,k1⟩:=a2.agg_inv;obtain⟨_,e4,_,k2⟩:=b2.agg_inv;cases e3;cases e4;obtain⟨e5,e6⟩:=C2 hc' k1.f2 k2.f2;have:=Yo (xo:=xo) (yo:=yo) (vx:=vx.toList) (vy:=vy.toList) hk hc.2 hag (by rw[<-e5,<-e6];exact hc');simpa using this
      have run:cO P (do eqGuard .eql t xo yo u v;binOp .eql t u v)=some (.bool c)/\ cO P (do eqGuard .neq t xo yo u v;binOp .neq t u v)=some (.bool (!c)):=by
       generalize hp:PV.agg xs=p at a2;generalize hq:PV.agg ys=q at b2;cases a2<;>first|(cases hp;done)|skip
       cases b2<;>first|(cases hq;done)|exact run _ _ rfl rfl
      split
      .exact .ret ⟨_,f7 P _ _ run.1 _,.w (.c (.a e2 rfl (.v rfl)))⟩
      .rename_i hne;refine Sp.bind Sp.emit λr' hr'=>?_;obtain⟨z',g1,g2⟩:=iW hr' e2;cases g1;cases op<;>first|(exact absurd rfl hne)|(exact Bool.noConfusion hc.1)|skip
       exact .ret ⟨_,f7 P _ _ run.2 _,.w (.c (.a g2 rfl (.v rfl)))⟩
     .cases e1
    .cases e1
   .exact .fail
  .exact .fail
 .rename_i hu;refine D6 hx hy λp q r hp hq h=>?_;simp only[RF.ev] at h;split at h
  .rename_i a b e;cases e;have:=jn hp;subst this;have:=jn hq;subst this;obtain⟨w,rfl,hw⟩:=O5 h;exact⟨w,rfl,hw,f7 P _ _ (Vc hu h) _⟩
  .cases h
 .exact D6 hx hy ints
 .exact D6 hx hy ints
 .exact .fail
def Yq {op:BinOp}{t:TypeId}{y:Operand}(h:OQ P op t y=true):(op= .eql\/op= .neq)/\(∃e,P.underlying t=some (.slice e))/\ y= .const (.slice none 0 0):=by
 unfold OQ JR at h;simp at h;obtain⟨⟨h1,h2⟩,h3⟩:=h;refine⟨?_,?_,?_⟩
 .cases op<;>first|exact .inl rfl|exact .inr rfl|cases h1
 .grind
 .grind
def Yr {op:BinOp}{t e:TypeId}{xo:Operand}{b:Option Addr}{n c:Nat}{w:World}(ho:op= .eql\/op= .neq)(hu:P.underlying t=some (.slice e)):(do eqGuard op t xo (.const (.slice none 0 0)) (.slice b n c) (.slice none 0 0);binOp op t (.slice b n c) (.slice none 0 0):Sem Value).run P w= .ok (.bool (if b.isSome then pI op else !pI op)) w:=by
 have e1:(Op.equal t (.slice b n c) (.slice none 0 0)).run P w= .ok (!b.isSome) w:=by
  unfold Op.equal Op.maxDepth Op.equalIn;rw[Sem.run_bind,run_underlying hu];cases b<;>rfl
 rcases ho with rfl|rfl
 .show(do pure (.bool (<-Op.equal t (.slice b n c) (.slice none 0 0))):Sem Value).run P w=_
  rw[Sem.run_bind,e1];cases b<;>rfl
 .show(do pure (.bool (!(<-Op.equal t (.slice b n c) (.slice none 0 0)))):Sem Value).run P w=_
  rw[Sem.run_bind,e1];cases b<;>rfl
def ahh {w:World}{S:Nat->Prop}{v:Value}{els:List (List PV)}(h:RT w S v (.sl els)):∃b n c,v= .slice b n c/\(els.length≠0->b.isSome=true):=by
 cases h with
 |nil h=>rcases h with rfl|⟨_,_,rfl⟩<;>exact⟨_,_,_,rfl,λh=>absurd rfl h⟩
 |sl=>exact⟨_,_,_,rfl,λ_=>rfl⟩
def Mc {e:List PV}{n r:A}{k:Nat}(h:oc e (.bin .eql) [n,.c (.i64 0)] r)(hn:n.ev e=some (.i64 k)):r.ev e=some (.bool (decide (k=0))):=by
 obtain⟨u,h1,h2⟩:=gP h hn (show A.ev e (.c (.i64 0))=some (.i64 0) from rfl)
 have:u= .bool (decide (k=0)):=by
  have h1:some (PV.bool (decide ((k:Int)=0)))=some u:=h1;simp_all
 rw[h2,this]
def Ys (hm:MR X base L){op:BinOp}{c:SC}{v:Value}(h:CR X v c):Sp X.e (UX X.σ op c) λsv=>∃b n c,v= .slice b n c/\ CR X (.bool (if b.isSome then pI op else !pI op)) (match sv with| .w (.c c)=>c|_=> .nil)/\∃c,sv= .w (.c c):=by
 have fin:∀{b:Option Addr} {k:Nat} {r:A},(k≠0->b.isSome=true)->r.ev X.e=some (.bool (decide (k=0)))->CR X (.bool (if b.isSome then pI op else !pI op)) (.ub r (pI op)):=λ{b k r} hb hr=> .ub hr λe=>by
  grind
 unfold UX;split
 .split
  .rename_i hl;cases h with
   |lsl hb h1 h=>
    refine Sp.bind Sp.emit λr hr=>?_;obtain⟨_,ni,_,_,h3,_,_,h5⟩:=h _ _ (hm.kd _ _ hl);have hr:=Mc hr h3;rcases h5 with⟨_,_,_,_,rfl,_⟩|⟨rfl,h5,_⟩
    .exact .ret ⟨_,_,_,rfl,fin (λ_=>rfl) hr,_,rfl⟩
    .rcases h5 with rfl|⟨_,_,rfl⟩<;>exact .ret ⟨_,_,_,rfl,fin (λh=>absurd rfl h) hr,_,rfl⟩
  .exact .fail
 .refine Sp.bind (dI h) λa ⟨p,a1,_,a3⟩=>Sp.bind Sp.emit λn hn=>Sp.bind Sp.emit λr hr=>?_;obtain⟨els,rfl,hn⟩:=gV hn a1;have hr:=Mc hr hn;obtain⟨b,n,c,rfl,hb⟩:=ahh a3;exact .ret ⟨_,_,_,rfl,fin hb hr,_,rfl⟩
def ahi {op:UnOp}{c:SC}{v:Value}(hv:CR X v c):Sp X.e (EM.bind (fg c) λa=>EM.bind (emit (.un op) [a]) λr=>EM.ret (SW.c (.a r))) (SwR P X (Op.unary op v)):=by
 refine Sp.bind (dI hv) λa ⟨p,a1,_,a3⟩=>Sp.bind Sp.emit λr hr=>?_;obtain⟨z,h1,h2⟩:=iW hr a1;simp only[RF.ev] at h1;split at h1
 .rename_i b e;cases e;have:=jn a3;subst this;split at h1
  .cases h1;exact .ret ⟨_,rfl,.c (.a h2 rfl (.v rfl))⟩
  .cases h1
 .rename_i k n e;cases e;have:=jn a3;subst this;split at h1
  .cases h1;exact .ret ⟨_,rfl,.c (.a h2 rfl (.v rfl))⟩
  .cases h1
 .cases h1
end
section
variable {X:Cx}{P:Program}{base:Nat}{L:Nat->Prop}
def Yt {t t':TypeId}{c:SC}{v:Value}(hv:CR X v c):Sp X.e (OS P t t' c) (SwR P X (convert t t' v)):=by
 unfold OS;split
 .rename_i k0 hs;split
  .rename_i k hd;refine Sp.bind (dI hv) λa ⟨p,a1,_,a3⟩=>Sp.bind Sp.emit λr hr=>?_;obtain⟨z,h1,h2⟩:=iW hr a1;simp[RF.ev] at h1;split at h1
   .rename_i e;cases e;cases h1;have:=jn a3;subst this;refine .ret ⟨_,?_,.c (.a h2 rfl (.v rfl))⟩;simp[convert,run_underlying hs,run_underlying hd,Conv.intToInt]
   .cases h1
  .exact .fail
 .exact .fail
def Ki {t:TypeId}{cs:Array Value}{o:Nat}{v:Value}(h:xu P t cs.toList o v)(w:World):(part t cs o).run P w= .ok v w:=by
 rcases h with⟨ha,n,hn,hl,rfl⟩|⟨ha,hv⟩
 .have e:cs.extract o (o+n)=((cs.toList.drop o).take n).toArray:=by
   grind
  simp[part,ut ha,run_sizeOf hn,e]
 .have hv':cs[o]?=some v:=by simpa using hv
  simp[part,ut ha,hv']
def Ve {t:TypeId}{i:Nat}{w:SW}{v:Value}(hv:WR X v w):Sp X.e (JZ P t w i) (SwR P X (Instr.field t v i)):=by
 have fin:∀{fields:Array Field} {f:Field} {a:Array Value} {u:Value},P.underlying t=some (.struct fields)->fields[i]?=some f->xu P f.type a.toList f.offset u->(Instr.field t (.agg a) i).run P X.w= .ok u X.w:=λhu hf h=>by
  simp[Instr.field,run_underlying hu,hf,asAgg,Ki h]
 unfold JZ;split
 .rename_i fields hu;split
  .rename_i f hf;split
   .cases hv with
    |agg h=>exact(Kc h).mono λw ⟨u,h1,h2⟩=>⟨u,fin hu hf h1,h2⟩
   .cases hv with
    | @av a x cs h ht r=>
     split
     .rename_i hc;have ha:=(cnt_spec hc).elim (λh=>h.2) λh=>absurd h.1 (di 0);refine Sp.bind Sp.sizeOf λk hk=>?_;split
      .rename_i m;split
       .rename_i hb;rw[im] at hb;obtain⟨cs',k1,k2⟩:=hk m rfl;rw[h] at k1;cases k1;obtain⟨p,hp⟩:∃p,cs[f.offset]?=some p:=⟨_,ai (by omega)⟩;obtain⟨u,h1,h2⟩:=r.f2.get' _ _ hp;exact(EQ (.pc h ht hp h2)).mono λw hw=>⟨u,fin hu hf (.inr ⟨ha,h1⟩),hw⟩
       .exact .fail
      .refine Sp.bind Sp.emit λy hy=>?_;obtain⟨z,h1,h2⟩:=iW hy h;obtain⟨u,k1,k2⟩:=r.f2.get' _ _ (show cs[f.offset]?=some z from h1)
       exact .ret ⟨u,fin hu hf (.inr ⟨ha,k1⟩),.c (.a h2 (vW ht h1) k2)⟩
     .rename_i n hc;refine(uR (vs:=a.toList) (x:=f.offset) (m:=n+1) (o:=0) hc λxs p e1 e2=>?_).mono λw ⟨u,h1,h2⟩=>⟨u,fin hu hf h1,h2⟩;obtain⟨x',e3,rfl⟩:=yX e1;rw[h] at e3;cases e3;obtain⟨hl,rfl⟩:=dq e2;refine⟨_,?_,.of ((r.f2.drop f.offset).take (n+1))⟩;unfold cM;simp only;rw[ad ⟨by rw[aR,bQ];omega,by rw[dz,bi (by rw[aR];omega)];exact Ae ht _ _⟩];rw[dz,bi (by rw[aR];omega)]
     .exact .fail
   .exact .fail
  .exact .fail
 .exact .fail
def EW:∀{cs:List SC} {vs:List Value},F2 (CR X) vs cs->Sp X.e (J0 cs) λas=>∃ps,evs X.e as=some ps/\ F2 X.T vs ps/\ ps.all t0=true
 |_,_,.nil=> .ret ⟨[],rfl,.nil,rfl⟩
 |_,_,.cons h t=>Sp.bind (dI h) λa ⟨p,a1,a2,a3⟩=>Sp.bind (EW t) λas ⟨ps,b1,b2,b3⟩=> .ret ⟨p::ps,kj a1 b1,.cons a3 b2,by simp[a2,b3]⟩
def Vf {w:SW}{v:Value}(hv:WR X v w):Sp X.e (Xl w) λa=>∃cs arr,v= .agg arr/\ a.ev X.e=some (.agg cs)/\ RTs X.w X.S arr.toList cs/\ cs.all t0=true:=by
 cases hv with
 |c h=>exact .fail
 |av h ht r=>exact .ret ⟨_,_,rfl,h,r,ht⟩
 |agg h=>
  refine Sp.bind (EW h) λas ⟨ps,p1,p2,p3⟩=>Sp.emit.mono λy ⟨xs,u,h1,h2,h3⟩=>?_;rw[p1] at h1;cases h1;obtain⟨_,rfl⟩:=dq h2;have:ps.flatMap PV.cells=ps:=by
   clear p1 p2 h2 h3;rename_i hall;clear hall;induction ps with
   |nil=>rfl
   |cons p ps ih=>
    simp only[dJ,aJ] at p3;rw[dA,ih p3.2];cases p<;>first|rfl|simp[t0] at p3
  rw[this] at h3;exact⟨_,_,rfl,h3,.of p2,p3⟩
def Vg {t:TypeId}{w:SW}{c:SC}{v u:Value}(hv:WR X v w)(hu:CR X u c):Sp X.e (J1 P X.σ t w c) (SwR P X (Instr.index t v u)):=by
 unfold J1;split
 .rename_i len elem hu';split
  .rename_i z hz;split
   .rename_i n hn;refine Sp.bind (Vf hv) λa ⟨cs,arr,e,a1,a2,a3⟩=>Sp.bind (dI hu) λi ⟨p,i1,_,i3⟩=>?_;subst e;have key:∀xs p',evs X.e [a,i]=some xs->(RF.aix z len n).ev xs=some p'->∃(k:IntKind) (j:Int),p= .v (.int k j)/\ 0<=j/\ j<len/\ cM (j.toNat*z) n cs=some p':=λxs p' e1 e2=>by
     obtain⟨x,y,f1,f2,rfl⟩:=DX e1;rw[a1] at f1;cases f1;rw[i1] at f2;cases f2;simp only[RF.ev] at e2
     grind
    have hj:∃jj:Nat,∀k j,p= .v (.int k j)->0<=j->j.toNat=jj:=by
     cases p with
     |v x=>cases x with
      |int k j=>exact⟨j.toNat,λ_ _ e _=>by cases e;rfl⟩
      |_=>exact⟨0,λ_ _ e _=>by cases e⟩
     |_=>exact⟨0,λ_ _ e _=>by cases e⟩
    obtain⟨jj,hj⟩:=hj;refine((za (vs:=arr.toList) (x:=0) (m:=arr.size) (o:=jj*z) hn λxs p' e1 e2=>?_)).mono λw ⟨⟨x,h1,h2⟩,xs,p',e1,e2⟩=>⟨x,?_,h2⟩
    .obtain⟨k,j,e,h0,_,hr⟩:=key xs p' e1 e2;rw[hj k j e h0] at hr;exact⟨cs,hr,by rw[dz,bi (by simp)];exact a2⟩
    .obtain⟨k,j,rfl,h0,hl,_⟩:=key xs p' e1 e2;have:=jn i3;subst this;rw[cQ,<-hj k j rfl h0] at h1;simp[Instr.index,asIntOf,run_underlying hu',h0,hl,run_sizeOf hz,Ki h1]
   .exact .fail
  .exact .fail
 .exact .fail
def Kj {t:TypeId}{i:Nat}{c:SC}{v:Value}(hv:CR X v c):Sp X.e (xj P t c i) λc=>SwR P X (Instr.fieldAt t v i) (.c c):=by
 have fin:∀{fields:Array Field} {f:Field} {m B o:Nat},P.underlying t=some (.struct fields)->fields[i]?=some f->szT P f.type=some (m+1)->(Instr.fieldAt t (.pointer (some ⟨B,o,none⟩)) i).run P X.w= .ok (.pointer (some ⟨B,o+f.offset,none⟩)) X.w:=λhu hf hz=>by
  simp[Instr.fieldAt,run_underlying hu,hf,Instr.sureAddr,fieldPlace,run_sizeOf hz,add_plain]
 unfold xj;split
 .rename_i fields hu;split
  .rename_i f hf;split
   .rename_i m hz;split
    .cases hv with
     |ptr hb h=>exact .ret ⟨_,fin hu hf hz,.c (.ptr hb h)⟩
    .cases hv with
     |ep hb hi h=>exact .ret ⟨_,fin hu hf hz,.c (.ep hb hi λnl z hl=>⟨(h nl z hl).1,by rw[(h nl z hl).2,dK]⟩)⟩
    .cases hv with
     |tp hl hi hr hS hg he=>exact .ret ⟨_,fin hu hf hz,.c (by rw[dK];exact .tp hl hi hr hS hg he)⟩
    .exact .fail
   .exact .fail
  .exact .fail
 .exact .fail
def Yu {a b y:A}{p q:PV}(h:oc X.e .ix [a,b] y)(ha:a.ev X.e=some p)(hb:b.ev X.e=some q):∃(k:IntKind) (i:Nat) (k':IntKind) (n:Int),p= .v (.int k i)/\ q= .v (.int k' n)/\ i<n/\ y.ev X.e=some (.v (.int k i)):=by
 obtain⟨u,h1,h2⟩:=gP h ha hb;simp[RF.ev] at h1;split at h1
 .rename_i k i k' n e;obtain⟨hc,rfl⟩:=dq h1;obtain⟨j,rfl⟩:∃j:Nat,i=j:=⟨i.toNat,by omega⟩
  grind
 .cases h1
def oX {a:A}(h:pJ a=true):a= .c (.i64 0):=by
 unfold pJ at h
 grind
def gE {a b:Nat}(h:(some (PV.i64 (a:Int)):Option PV)=some (.i64 (b:Int))):a=b:=by
 grind
def Kk {t elem:TypeId}{z:Nat}(hu:P.underlying t=some (.slice elem))(hz:szT P elem=some z){B o n cap i:Nat}{k:IntKind}(h:i<n):(Instr.indexAt t (.slice (some ⟨B,o,none⟩) n cap) (.int k i)).run P X.w= .ok (.pointer (some ⟨B,o+i*z,none⟩)) X.w:=by
 simp[Instr.indexAt,asIntOf,run_underlying hu,h,run_sizeOf hz,add_plain]
def Kl (hm:MR X base L){t:TypeId}{c d:SC}{v u:Value}(hv:CR X v c)(hu:CR X u d):Sp X.e (xh P X.σ t c d) λc=>SwR P X (Instr.indexAt t v u) (.c c):=by
 have tree:∀{elem:TypeId} {z:Nat} {l:A} {p:PV},P.underlying t=some (.slice elem)->szT P elem=some z->l.ev X.e=some p->X.T v p->Sp X.e (EM.bind (fg d) λi=>EM.bind (emit (.tix z) [l,i]) λj=>EM.ret (SC.tp l j 0)) λc=>SwR P X (Instr.indexAt t v u) (.c c):=by
  intro elem z l p hut hz hl hp;refine Sp.bind (dI hu) λi ⟨q,i1,_,i3⟩=>Sp.bind Sp.emit λj hj=>?_;obtain⟨r,h1,h2⟩:=gP hj hl i1;simp only[RF.ev] at h1;split at h1
  .rename_i els k n e;cases e;obtain⟨h0,h1⟩:=U6 h1;obtain⟨m,rfl⟩:∃m:Nat,n=m:=⟨n.toNat,by omega⟩;rw[aG] at h1;split at h1
   .rename_i row hr;obtain⟨hlen,rfl⟩:=dq h1;have:=jn i3;subst this;have hlt:=(aC.1 hr).1;cases hp with
    |nil h=>simp at hlt
    | @sl B o n cap z' arr ty fz _ hS hg hz' hn hc hrow he=>
     have hzz:=(hrow row (ax hr)).1;subst hzz;subst hlen;refine .ret ⟨_,Kk hut hz (by omega),.c ?_⟩;have:=ER (vs:=arr.toList.drop o) (n:=n*row.length) (k:=m) hrow.l he hr;rw[gZ] at this;exact .tp (o:=0) hl h2 hr hS hg this
   .cases h1
  .cases h1
 have arr:∀{len z:Nat} {elem:TypeId} {B o:Nat} {i:Int} {kk:IntKind},P.underlying t=some (.array len elem)->szT P elem=some z->decide (0<=i/\ i<len)=true->(Instr.indexAt t (.pointer (some ⟨B,o,none⟩)) (.int kk i)).run P X.w= .ok (.pointer (some ⟨B,o+i.toNat*z,none⟩)) X.w:=λhut hz hi=>by
  have hi:=aX hi;simp[Instr.indexAt,asIntOf,run_underlying hut,hi,run_sizeOf hz,Instr.sureAddr,add_plain]
 have cst:∀{kk:IntKind} {i:Int},CR X u (.a (.c (.v (.int kk i))))->u= .int kk i:=λh=>by
  cases h with
  |a h _ r=>cases h;exact jn r
 unfold xh;split
 .rename_i elem hut;split
  .rename_i z hz;split
   .rename_i b o n;split
    .rename_i l nl z' fz hl;split
     .rename_i hb;have:=jD hb;subst this;cases hv with
      |lsl hbm h1 h=>
       obtain⟨oi,ni,Ln,e1,e2,e3,e4,e5⟩:=h _ _ (hm.kd _ _ hl);refine Sp.bind (dI hu) λi ⟨q,i1,_,i3⟩=>Sp.bind Sp.emit λj hj=>?_;obtain⟨k,ix,k',nn,rfl,eq,hlt,j1⟩:=Yu hj i1 e2;cases eq;have:=jn i3;subst this;rcases e5 with⟨B,lim,cap,f1,rfl,f2,f3⟩|⟨rfl,_,_⟩
       .have run:=Kk (X:=X) hut hz (B:=B) (o:=oi*z) (cap:=cap) (k:=k) (show ix<ni by omega)
        split
        .rename_i ho;have:=oX ho;subst this;have:oi=0:=gE (a:=oi) (b:=0) e1.symm;subst this;exact .ret ⟨_,run,.c (.ep hbm j1 λnl z hl'=>by cases(hm.kd _ _ hl).symm.trans hl';exact⟨⟨_,f1⟩,by simp⟩)⟩
        .refine Sp.bind Sp.emit λj' hj'=>?_;obtain⟨r,g1,g2⟩:=gP hj' e1 j1;cases g1;refine .ret ⟨_,run,.c (.ep (kk:= .i64) (k:=oi+ix) hbm (by rw[g2];simp) λnl z hl'=>?_)⟩;cases(hm.kd _ _ hl).symm.trans hl';exact⟨⟨_,f1⟩,by rw[cx];omega⟩
       .omega
     .exact .fail
    .exact .fail
   .cases hv with
    |a h _ r=>exact tree hut hz h r
   .cases hv with
    |pc h ha hi r=>
     refine Sp.bind Sp.emit λy hy=>?_;obtain⟨u',h1,h2⟩:=iW hy h;simp only[RF.ev] at h1;rw[hi] at h1;cases h1;exact tree hut hz h2 r
   .exact .fail
  .exact .fail
 .rename_i len elem hut;split
  .rename_i z hz;split
   .cases hv with
    |ptr hb h=>
     split
     .split
      .rename_i hi;have:=cst hu;subst this;exact .ret ⟨_,arr hut hz hi,.c (.ptr hb h)⟩
      .exact .fail
     .exact .fail
   .cases hv with
    |ep hb hi' h=>
     split
     .split
      .rename_i hi;have:=cst hu;subst this;exact .ret ⟨_,arr hut hz hi,.c (.ep hb hi' λnl z hl=>⟨(h nl z hl).1,by rw[(h nl z hl).2,dK]⟩)⟩
      .exact .fail
     .exact .fail
   .cases hv with
    |tp hl hi' hr hS hg he=>
     split
     .split
      .rename_i hi;have:=cst hu;subst this;exact .ret ⟨_,arr hut hz hi,.c (by rw[dK];exact .tp hl hi' hr hS hg he)⟩
      .exact .fail
     .exact .fail
   .exact .fail
  .exact .fail
 .exact .fail
def Bd (o:Option Value)(d h lim:Nat):Prop:=(o=none/\ h=d)\/∃k,o=some (.int k h)/\ h<=lim
def OR (X:Cx)(o:Option Value)(c:Option SC):Prop:=(o=none/\ c=none)\/∃v x,o=some v/\ c=some x/\ CR X v x
def lK {d y:A}{c:Option SC}{o:Option Value}{dv:Nat}{yk:IntKind}{yv:Nat}(hc:OR X o c)(hd:d.ev X.e=some (.i64 dv))(hy:y.ev X.e=some (.v (.int yk yv))):Sp X.e (qu d y c) λa=>∃h:Nat,a.ev X.e=some (.i64 h)/\ Bd o dv h yv:=by
 rcases hc with⟨rfl,rfl⟩|⟨v,x,rfl,rfl,hv⟩
 .exact .ret ⟨dv,hd,.inl ⟨rfl,rfl⟩⟩
 .refine Sp.bind (dI hv) λa ⟨p,a1,_,a3⟩=>Sp.emit.mono λr hr=>?_;obtain⟨u,h1,h2⟩:=gP hr a1 hy;simp[RF.ev] at h1;split at h1
  .rename_i k n k' m e;cases e;obtain⟨hb,rfl⟩:=dq h1;obtain⟨j,rfl⟩:∃j:Nat,n=j:=⟨n.toNat,by omega⟩;exact⟨j,h2,.inr ⟨k,by rw[jn a3],by omega⟩⟩
  .cases h1
def oY {t elem:TypeId}{z:Nat}(hu:P.underlying t=some (.slice elem))(hz:szT P elem=some z){a:Option Addr}{len cap h l hl:Nat}{hi lo:Option Value}(h1:Bd hi len h hl)(h1':hl<=cap)(h2:Bd lo 0 l h)(w:World):
  (Instr.sliceAt t (.slice a len cap) lo hi none).run P w= .ok (.slice (if cap=l then a else a.map (·.add (l*z))) (h-l) (cap-l)) w:=by
 have e:(Instr.sliceBounds true len cap lo hi none).run P w= .ok (l,h,cap) w:=by
  rcases h1 with⟨rfl,rfl⟩|⟨k,rfl,hb⟩<;>rcases h2 with⟨rfl,rfl⟩|⟨k',rfl,hb'⟩
  .simp[Instr.sliceBounds]
  .have q:(l:Int)<=h:=by omega
   simp[Instr.sliceBounds,Instr.sliceBound,asIntOf,hb']
  .have q:h<=cap:=by omega
   simp[Instr.sliceBounds,Instr.sliceBound,asIntOf,q]
  .have q:h<=cap:=by omega
   simp[Instr.sliceBounds,Instr.sliceBound,asIntOf,q,hb']
 simp[Instr.sliceAt,Sem.run_bind,run_underlying hu,Result.andThen_ok,Instr.slice,e,run_sizeOf hz,Sem.run_pure]
def SO {w:World}{S:Nat->Prop}{v:Value}{els:List (List PV)}(h:RT w S v (.sl els)):∃a cap,v= .slice a els.length cap/\ els.length<=cap:=by
 cases h with
 |nil hn=>rcases hn with rfl|⟨B,x,rfl⟩<;>exact⟨_,_,rfl,aB _⟩
 |sl hS hg hz' hn' hcp hrow he=>subst hn';exact⟨_,_,rfl,hcp⟩
def SP {w:World}{S:Nat->Prop}{els:List (List PV)}{z lv hv C n cap:Nat}{a:Option Addr}(h:RT w S (.slice a n cap) (.sl els))(hok:d8 z els=true)(hle:lv<=hv)(hvl:hv<=els.length)(hC:hv<=C)(h0:cap=0->C=0):RT w S (.slice (if C=lv then a else a.map (·.add (lv*z))) (hv-lv) (C-lv)) (.sl ((els.drop lv).take (hv-lv))):=by
 cases h with
 |nil hn=>
  have hC0:C=0:=by
   rcases hn with e|⟨B,x,e⟩
   .cases e;exact h0 rfl
   .cases e;exact h0 rfl
  simp only[cw] at hvl;have e1:hv=0:=by omega
  have e2:lv=0:=by omega
  subst e1;subst e2;subst hC0;rcases hn with e|⟨B,x,e⟩
  .cases e;exact .nil (.inl rfl)
  .cases e;exact .nil (.inr ⟨B,x,rfl⟩)
 | @sl B o n cap z' arr ty fz _ hS hg hz' hn' hcp hrow he=>
  subst hn';by_cases hcl:C=lv
  .rw[ad hcl,show hv-lv=0 by omega,show C-lv=0 by omega,g9]
   exact .nil (.inr ⟨B,o,rfl⟩)
  .rw[ac hcl];have hsub:=hrow.sub lv (hv-lv);have hlen2:((els.drop lv).take (hv-lv)).length=hv-lv:=by rw[aR,bQ];omega
   have hzz:(els.drop lv).take (hv-lv)=[]\/z'=z:=by
    cases els with
    |nil=>exact .inl (by simp)
    |cons r els=>
     right
     have:r.length=z:=aX hok;rw[<-this,(hrow r (by simp)).1]
   have hadd:(some ⟨B,o,none⟩:Option Addr).map (·.add (lv*z))=some ⟨B,o+lv*z,none⟩:=by simp[add_plain]
   rw[hadd];refine .sl hS hg hz' hlen2 (by omega) hsub ?_;rcases hzz with hnil|rfl
   .have h0:hv-lv=0:=by rw[<-hlen2,hnil];rfl
    rw[hnil,h0];simpa using RTs.nil
   .have h5:=(he.f2.drop (lv*z')).take ((hv-lv)*z');have hmul:(hv-lv)*z'<=els.length*z'-lv*z':=by rw[<-Nat.sub_mul];exact cB _ (by omega)
    rw[eU,gZ,dG,bM hmul] at h5;rw[mT hrow.l,jU (hrow.d _).l] at h5;exact .of h5
def Vh (hm:MR X base L){t:TypeId}{c:SC}{v:Value}{lo hi:Option Value}{l h:Option SC}(hv:CR X v c)(hlo:OR X lo l)(hhi:OR X hi h):Sp X.e (J3 P X.σ t c l h) λc=>SwR P X (Instr.sliceAt t v lo hi none) (.c c):=by
 unfold J3;split
 .rename_i elem hu;split
  .rename_i z hz;split
   .cases hv with
    |nil hn=>
     refine Sp.bind (lK (dv:=0) (yv:=0) hhi rfl rfl) λha ⟨hh,h1,h2⟩=>Sp.bind (lK (dv:=0) hlo rfl h1) λla ⟨ll,l1,l2⟩=> .ret ?_;have e1:hh=0:=by rcases h2 with⟨_,h⟩|⟨_,_,h⟩<;>omega
     have e2:ll=0:=by rcases l2 with⟨_,h⟩|⟨_,_,h⟩<;>omega
     subst e1;subst e2;rcases hn with rfl|⟨B,o,rfl⟩
     .exact⟨_,oY hu hz h2 (aB _) l2 _,.c (.nil (.inl rfl))⟩
     .exact⟨_,oY hu hz h2 (aB _) l2 _,.c (.nil (.inr ⟨B,o,rfl⟩))⟩
   .rename_i b o n;split
    .rename_i lst nl z' fz hl;split
     .rename_i hc;simp only[aJ,im] at hc;have:=jD hc.1;subst this;cases hv with
      |lsl hbm hone hh=>
       obtain⟨oi,ni,Ln,e1,e2,e3,e4,e5⟩:=hh _ _ (hm.kd _ _ hl);have lim:∃lm:Nat,(if pJ o=true then nl else n).ev X.e=some (.i64 lm)/\ oi+lm<=Ln:=by
        split
        .rename_i ho;have:=oX ho;subst this;have:oi=0:=gE (a:=oi) (b:=0) e1.symm;exact⟨Ln,e3,by omega⟩
        .exact⟨ni,e2,e4⟩
       obtain⟨lm,m1,m2⟩:=lim;refine Sp.bind (lK hhi e2 m1) λha ⟨hv',h1,h2⟩=>?_;have hvle:oi+hv'<=Ln:=by rcases h2 with⟨_,h⟩|⟨_,_,h⟩<;>omega
       have key:∀{lv:Nat} {o' n':A},Bd lo 0 lv hv'->lv<=hv'->o'.ev X.e=some (.i64 (oi+lv:Nat))->n'.ev X.e=some (.i64 (hv'-lv:Nat))->SwR P X (Instr.sliceAt t v lo hi none) (.c (.lsl b o' n')):=by
        intro lv o' n' hb hle k1 k2;rcases e5 with⟨B,lim,cap,f1,rfl,f2,f3⟩|⟨rfl,hn,f2⟩
        .refine⟨_,oY hu hz h2 (by omega) hb _,.c (.lsl hbm rfl λnl' z' hl'=>?_)⟩;cases(hm.kd _ _ hl).symm.trans hl';refine⟨oi+lv,hv'-lv,Ln,k1,k2,e3,by omega,?_⟩;by_cases hcl:cap=lv
         .rw[ad hcl];refine .inr ⟨by omega,.inr ⟨B,oi*z,?_⟩,by omega⟩;rw[show hv'-lv=0 by omega,show cap-lv=0 by omega]
         .rw[ac hcl];refine .inl ⟨B,lim,cap-lv,f1,?_,by omega,?_⟩
          .simp[add_plain,cx]
          .rw[show oi+lv+(cap-lv)=oi+cap by omega];exact f3
        .have e1:hv'=0:=by omega
         have e2:lv=0:=by omega
         subst e1;subst e2;rcases hn with rfl|⟨B,x,rfl⟩
         .exact⟨_,oY hu hz h2 (by omega) hb _,.c (.lsl hbm rfl λnl' z' hl'=>by cases(hm.kd _ _ hl).symm.trans hl';exact⟨oi,0,Ln,k1,k2,e3,by omega,.inr ⟨rfl,.inl rfl,f2⟩⟩)⟩
         .exact⟨_,oY hu hz h2 (by omega) hb _,.c (.lsl hbm rfl λnl' z' hl'=>by cases(hm.kd _ _ hl).symm.trans hl';exact⟨oi,0,Ln,k1,k2,e3,by omega,.inr ⟨rfl,.inr ⟨B,x,rfl⟩,f2⟩⟩)⟩
       split
       .rename_i hlo';rcases hlo with⟨rfl,_⟩|⟨_,_,_,e,_⟩
        .exact .ret (key (lv:=0) (.inl ⟨rfl,rfl⟩) (b8 _) e1 h1)
        .cases e
       .rename_i lc;refine Sp.bind (lK (dv:=0) hlo rfl h1) λla ⟨lv,l1,l2⟩=>Sp.bind Sp.emit λo' ho'=>Sp.bind Sp.emit λn' hn'=>?_;have hle:lv<=hv':=by rcases l2 with⟨_,h⟩|⟨_,_,h⟩<;>omega
        obtain⟨r,g1,g2⟩:=gP ho' e1 l1;obtain⟨r',g3,g4⟩:=gP hn' h1 l1;cases g1;cases g3;exact .ret (key l2 hle (by rw[g2];simp) (by rw[g4];congr 3;omega))
     .exact .fail
    .exact .fail
   .refine Sp.bind (dI hv) λs ⟨p,s1,_,s3⟩=>Sp.bind Sp.emit λn hn=>?_;obtain⟨els,rfl,n1⟩:=gV hn s1;refine Sp.bind (lK hhi n1 n1) λha ⟨hv',h1,h2⟩=>Sp.bind (lK (dv:=0) hlo rfl h1) λla ⟨lv,l1,l2⟩=>Sp.bind Sp.emit λr hr=>?_;have hle:lv<=hv':=by rcases l2 with⟨_,h⟩|⟨_,_,h⟩<;>omega
    have hvl:hv'<=els.length:=by rcases h2 with⟨_,h⟩|⟨_,_,h⟩<;>omega
    obtain⟨u,g1,g2⟩:=kI hr s1 l1 h1;simp only[RF.ev,aG] at g1;obtain⟨⟨_,_,_,hok,hz0⟩,rfl⟩:=dq g1;obtain⟨a,cap,rfl,hcp⟩:=SO s3;exact .ret ⟨_,oY hu hz h2 hcp l2 _,.c (.a g2 rfl (SP s3 hok hle hvl (by omega) id))⟩
  .exact .fail
 .exact .fail
def SQ (hm:MR X base L){t:TypeId}{c hc mc:SC}{v vh vm:Value}{lo:Option Value}{l:Option SC}(hv:CR X v c)(hlo:OR X lo l)(hh:CR X vh hc)(hmx:CR X vm mc):Sp X.e (DU P X.σ t c l hc mc) λc=>SwR P X (Instr.sliceAt t v lo (some vh) (some vm)) (.c c):=by
 unfold DU;split
 .rename_i elem hu;split
  .rename_i z hz;split
   .rename_i b o n;split
    .rename_i lst nl z' fz hl;split
     .cases hv with
      |lsl hbm hone hx=>
       obtain⟨oi,ni,Ln,e1,e2,e3,e4,e5⟩:=hx _ _ (hm.kd _ _ hl);refine Sp.bind (lK (.inr ⟨vm,mc,rfl,rfl,hmx⟩) e2 e2) λma ⟨mv,m1,m2⟩=>Sp.bind (lK (.inr ⟨vh,hc,rfl,rfl,hh⟩) m1 m1) λha ⟨hv',h1,h2⟩=>Sp.bind (lK (dv:=0) hlo rfl h1) λla ⟨lv,l1,l2⟩=> .ret ?_;have hcap:∃a cap,v= .slice a ni cap/\ ni<=cap:=by
        rcases e5 with⟨B,lim,cap,_,rfl,_,_⟩|⟨rfl,rfl|⟨B,x,rfl⟩,_⟩
        .grind
        .grind
        .grind
       obtain⟨a,cap,rfl,hcap⟩:=hcap;have e:(Instr.sliceBounds true ni cap lo (some vh) (some vm)).run P X.w= .ok (lv,hv',mv) X.w:=by
        rcases m2 with⟨e,_⟩|⟨k1,e,q1⟩
        .cases e
        cases e;rcases h2 with⟨e,_⟩|⟨k2,e,q2⟩
        .cases e
        cases e;have q3:mv<=cap:=by omega
        rcases l2 with⟨rfl,rfl⟩|⟨k',rfl,hb'⟩
        .simp[Instr.sliceBounds,Instr.sliceBound,asIntOf,q2,q3]
        .simp[Instr.sliceBounds,Instr.sliceBound,asIntOf,q2,q3,hb']
       refine⟨.slice (if mv=lv then a else a.map (·.add (lv*z))) (hv'-lv) (mv-lv),?_,.c (.un rfl)⟩
       simp only[Instr.sliceAt,Sem.run_bind,run_underlying hu,Result.andThen_ok,Instr.slice,e,run_sizeOf hz,Sem.run_pure]
     .exact .fail
    .exact .fail
   .refine Sp.bind (dI hv) λs ⟨p,s1,_,s3⟩=>Sp.bind Sp.emit λn hn=>?_;obtain⟨els,rfl,n1⟩:=gV hn s1;refine Sp.bind (lK (.inr ⟨vm,mc,rfl,rfl,hmx⟩) n1 n1) λma ⟨mv,m1,m2⟩=>Sp.bind (lK (.inr ⟨vh,hc,rfl,rfl,hh⟩) m1 m1) λha ⟨hv',h1,h2⟩=>Sp.bind (lK (dv:=0) hlo rfl h1) λla ⟨lv,l1,l2⟩=>Sp.bind Sp.emit λr hr=>?_;obtain⟨a,cap,rfl,hcp⟩:=SO s3;rcases m2 with⟨e,_⟩|⟨k1,e,q1⟩
    .cases e
    cases e;rcases h2 with⟨e,_⟩|⟨k2,e,q2⟩
    .cases e
    cases e;have q3:mv<=cap:=by omega
    have hle:lv<=hv':=by rcases l2 with⟨_,h⟩|⟨_,_,h⟩<;>omega
    have e:(Instr.sliceBounds true els.length cap lo (some (.int k2 hv')) (some (.int k1 mv))).run P X.w= .ok (lv,hv',mv) X.w:=by
     rcases l2 with⟨rfl,rfl⟩|⟨k',rfl,hb'⟩
     .simp[Instr.sliceBounds,Instr.sliceBound,asIntOf,q2,q3]
     .simp[Instr.sliceBounds,Instr.sliceBound,asIntOf,q2,q3,hb']
    obtain⟨u,g1,g2⟩:=kI hr s1 l1 h1;simp only[RF.ev,aG] at g1;obtain⟨⟨_,_,_,hok,hz0⟩,rfl⟩:=dq g1;refine .ret ⟨.slice (if mv=lv then a else a.map (·.add (lv*z))) (hv'-lv) (mv-lv),?_,.c (.a g2 rfl (SP s3 hok hle (by omega) (by omega) (by omega)))⟩
    simp only[Instr.sliceAt,Sem.run_bind,run_underlying hu,Result.andThen_ok,Instr.slice,e,run_sizeOf hz,Sem.run_pure]
  .exact .fail
 .exact .fail
end
section
variable {X:Cx}{P:Program}{base:Nat}{L:Nat->Prop}
def El (P:Program)(X:Cx)(u:Value)(els:List (List PV)):Prop:=∀size,d8 size els=true->∃a c vs,u= .slice a els.length c/\(∀w',w'.heap=X.w.heap->∀k,k<=els.length->(Builtin.firstCells size k u).run P w'= .ok (vs.take (k*size)).toArray w')/\ F2 X.T vs els.flatten/\ Rw size els
def El.all {u:Value}{els:List (List PV)}(h:El P X u els)(size:Nat)(hok:d8 size els=true):∃a c vs,u= .slice a els.length c/\(∀w',w'.heap=X.w.heap->(Builtin.firstCells size els.length u).run P w'= .ok vs.toArray w')/\ F2 X.T vs els.flatten/\ Rw size els:=by
 obtain⟨a,c,vs,h1,h2,h3,h4⟩:=h size hok;refine⟨a,c,vs,h1,λw' hw=>?_,h3,h4⟩;have hl:=h3.len;rw[gU h4.l] at hl;rw[h2 w' hw _ (aB _),bi (by omega)]
def Km {u:Value}(h:iT u):El P X u []:=λsize _=>by
 have k0:∀k:Nat,k<=([]:List (List PV)).length->k=0:=λk h=>by simpa using h
 rcases h with rfl|⟨b,o,rfl⟩
 .exact⟨none,0,[],rfl,λw' _ k hk=>by cases k0 k hk;simp[Builtin.firstCells],.nil,λr h=>by cases h⟩
 .exact⟨_,0,[],rfl,λw' _ k hk=>by cases k0 k hk;simp[Builtin.firstCells,loadCells,loadCellsFrom],.nil,λr h=>by cases h⟩
def ST {B o n cap z:Nat}{arr:Array Value}{ty:TypeId}{fz:Nat×Nat}{els:List (List PV)}(hg:X.w.heap[B]?=some (.cells arr ty fz))(hn:els.length=n)(hr:Rw z els)(he:RTs X.w X.S ((arr.toList.drop o).take (n*z)) els.flatten):
  El P X (.slice (some ⟨B,o,none⟩) n cap) els:=λsize hok=>by
 subst hn;cases els with
 |nil=>exact⟨_,cap,[],rfl,λw' _ k hk=>by
  have:k=0:=by simpa using hk
  subst this;simp[Builtin.firstCells,loadCells,loadCellsFrom],.nil,λr h=>by cases h⟩
 |cons r els=>
  have hs:r.length=size:=aX hok;have hz:=(hr r (by simp)).1;have:z=size:=by omega
  subst this;have hl:=he.f2.len;rw[gU hr.l,aR,bQ] at hl;refine⟨_,cap,_,rfl,λw' hw k hk=>?_,he.f2,hr⟩;have hg':w'.heap[B]?=some (.cells arr ty fz):=by rw[hw];exact hg
  have hm:k*z<=(r::els).length*z:=cB _ hk;simp only[Builtin.firstCells];rw[dG,bM hm];rcases Nat.eq_zero_or_pos (k*z) with h0|hpos
  .rw[h0,g9];simp[loadCells,loadCellsFrom]
  .exact zb hg' o _ (by rw[<-du];omega)
def afm {u:Value}{p:PV}{els:List (List PV)}(h:X.T u p)(e:p= .sl els):El P X u els:=by
 cases h with
 |v _=>cases e
 |nil h=>cases e;exact Km h
 |sl hS hg hz hn hc hr he=>cases e;exact ST hg hn hr he
 |agg _ _=>cases e
def EX (hm:MR X base L){c:SC}{u:Value}(h:CR X u c):Sp X.e (CC X.σ c) λa=>∃p,a.ev X.e=some p/\∀els,p= .sl els->El P X u els:=by
 unfold CC;cases h with
 |a h ht r=>exact .ret ⟨_,h,λels e=>afm r e⟩
 | @pc x i _ _ _ h ha hi r=>
  simp only[mR];refine Sp.bind (Sp.bind Sp.emit λy hy=> .ret (Q:=λ(q:A×List Nat)=>oc X.e (.cell i) [x] q.1) hy) λq hy=>?_;obtain⟨u',h1,h2⟩:=iW hy h;simp only[RF.ev] at h1;rw[hi] at h1;cases h1;exact .ret ⟨_,h2,λels e=>afm r e⟩
 |nil h=>exact .ret ⟨_,rfl,λels e=>by cases e;exact Km h⟩
 | @lsl b o n v hb h1 h=>
  simp only[mR];split
  .rename_i l nl z fz hl;refine Sp.bind (Sp.bind Sp.emit λy hy=> .ret (Q:=λ(q:A×List Nat)=>oc X.e .sub [l,o,n] q.1) hy) λq hy=> .ret ?_;obtain⟨oi,ni,Ln,e1,e2,e3,e4,e5⟩:=h _ _ (hm.kd _ _ hl);obtain⟨hz,els,k1,k2,k3,k4⟩:=hm.bl b _ hl;rw[e3] at k2;have:=gE k2;subst this;obtain⟨u,q1,q2⟩:=kI hy k1 e1 e2;obtain⟨_,rfl⟩:=dq q1;simp only[aG] at q2;refine⟨_,q2,λels' e=>?_⟩;cases e;rcases e5 with⟨B,lim,cap,f1,rfl,f2,f3⟩|⟨rfl,hv,_⟩
   .rcases k4 with⟨_,k4⟩|⟨B',arr,k4,⟨ty,fz',hg,_⟩,k6⟩
    .rw[f1] at k4;cases k4
    .rw[f1] at k4;cases k4;refine ST hg (by rw[aR,bQ];omega) (k3.sub _ _) ?_;have h5:=((RTs.f2 k6).drop (oi*z)).take (ni*z);rw[mT k3.l,jU (k3.d _).l,eU,dG] at h5;rw[bM (by have:=cB z e4;rw[cx] at this;omega)] at h5;exact .of h5
   .rw[g9];exact Km hv
  .exact .fail
 |_=>exact .fail
def fP (w:World)(need old elem:Nat):Nat:=(Question.appendCap need old elem).cut (w.tape w.drawn (.appendCap need old elem))
section
variable {st xt ty elem:TypeId}{i:TypeInfo}{zv:Value}(hu:P.underlying st=some (.slice elem))(hx:∃e,P.underlying xt=some (.slice e))(hi:P.info? elem=some i)
include hu hx hi
theorem O6 {u:Value}{n:Nat}{vs:List Value}{ua:Option Addr}{uc:Nat}(hl:u= .slice ua n uc){w w':World}(hf:(Builtin.firstCells i.size n u).run P w= .ok vs.toArray w)(g o len cap:Nat)(hroom:len+n<=cap)
  (hst:(storeCells ⟨g,o+len*i.size,none⟩ vs).run P w= .ok () w'):(Builtin.append_ #[st,xt] ty #[.slice (some ⟨g,o,none⟩) len cap,u]).run P w= .ok (.slice (some ⟨g,o,none⟩) (len+n) cap) w':=by
 obtain⟨e,hx⟩:=hx;subst hl;simp[Builtin.append_,run_underlying hu,run_underlying hx,Go.sizeOf,typeInfo,hi,Builtin.lenOf,hroom,hf,add_plain,hst]
theorem Kn {u:Value}{ua:Option Addr}{uc:Nat}(hl:u= .slice ua 0 uc){w:World}(hf:(Builtin.firstCells i.size 0 u).run P w= .ok #[] w){v:Value}(hv:iT v):(Builtin.append_ #[st,xt] ty #[v,u]).run P w= .ok v w:=by
 obtain⟨e,hx⟩:=hx;subst hl;rcases hv with rfl|⟨b,o,rfl⟩<;>simp[Builtin.append_,run_underlying hu,run_underlying hx,Go.sizeOf,typeInfo,hi,Builtin.lenOf,hf,storeCells]
theorem zg (hz:i.zero=some zv){u:Value}{n:Nat}{vs:List Value}{ua:Option Addr}{uc:Nat}(hl:u= .slice ua n uc){w:World}(hf:∀w':World,w'.heap=w.heap->(Builtin.firstCells i.size n u).run P w'= .ok vs.toArray w')(a:Option Addr)(len cap:Nat)(hroom:cap<len+n)(hb:(len+n)*i.bytes<=140737488355328)
  (hbp:0<i.bytes) {olds:List Value} (hold:∀w':World,w'.heap=w.heap->(Builtin.firstCells i.size len (.slice a len cap)).run P w'= .ok olds.toArray w'):
  (Builtin.append_ #[st,xt] ty #[.slice a len cap,u]).run P w=
   .ok (.slice (some ⟨w.heap.size,0,none⟩) (len+n) (fP w (len+n) cap elem)) (w.drew.alloc (.cells (olds.toArray++vs.toArray++Builtin.zeroCells zv.cells (fP w (len+n) cap elem-(len+n))) elem)):=by
 obtain⟨e,hx⟩:=hx;have hfit:=growslice_fits hroom hb;have hn:¬(len+n<=cap):=by omega
 have hle:(len+n)*1<=(len+n)*i.bytes:=qk _ hbp;have h63':¬(9223372036854775807<((len:Int)+(n:Int))):=by omega
 have h48':¬(281474976710656<Builtin.nextslicecap (len+n) cap*i.bytes):=by omega
 have ho:=hold w.drew rfl;subst hl;simp[Builtin.append_,run_underlying hu,run_underlying hx,Go.sizeOf,typeInfo,zeroValue,hi,hz,Builtin.lenOf,hn,h63',h48',Question.forced,hf w.drew rfl,ho,newRow,fP]
 congr 2
 apply Array.ext';simp[bg]
end
def uS (w:World)(need old elem:Nat):need<=fP w need old elem:=by
 unfold fP;simp only[Question.cut];omega
def grownCap_le (w:World)(need old elem:Nat)(h:need<=140737488355328):fP w need old elem<=9223372036854775807:=by
 have hlt:=x6 (w.tape w.drawn (.appendCap need old elem)) (show 0<2^ 63-need by omega)
 simp only[fP,Question.cut];omega
def Ko (hm:MR X base L)(hN:X.σ.nb<X.N){v:Value}(hv:iT v){z:Nat}(hz:0<z){l nl n:A}(hl:l.ev X.e=some (.sl []))(hnl:nl.ev X.e=some (.i64 0))(hn:n.ev X.e=some (.i64 0)):
  CR (X.nw X.w none (.lst l nl z false)) v (.lsl X.σ.nb (.c (.i64 0)) n)/\ Nx X base L (X.nw X.w none (.lst l nl z false)):=by
 refine⟨.lsl (.inr rfl) ?_ λnl' z' h=>?_,CQ hm hN rfl (λ_ _ h=>by cases h) .refl λsx=>⟨hz,[],hl,hnl,(λr h=>by cases h),.inl ⟨rfl,upR_self⟩⟩⟩
 .rcases hv with rfl|⟨_,_,rfl⟩<;>rfl
 .cases upR_self.symm.trans h;exact⟨0,0,0,rfl,hn,hnl,by omega,.inr ⟨rfl,hv,by omega⟩⟩
def EY (hm:MR X base L)(hN:X.σ.nb<X.N){v:Value}(hv:iT v){z:Nat}(hz:0<z){l nl n:A}(hl:l.ev X.e=some (.sl []))(hnl:nl.ev X.e=some (.i64 0))(hn:n.ev X.e=some (.i64 0)):
  ∃X',X'.w=X.w/\ VR X' v (.w (.c (.lsl X.σ.nb (.c (.i64 0)) n)))/\ Nx X base L X'/\ X'.σ=X.σ.new (.lst l nl z false):=
 let⟨h1,h2⟩:=Ko hm hN hv hz hl hnl hn;⟨X.nw X.w none (.lst l nl z false),rfl,.w (.c h1),h2,rfl⟩
def rJ (z:Array Value)(n:Nat):(Builtin.zeroCells z n).size=n*z.size:=by simp[Builtin.zeroCells]
def A3 (hm:MR X base L)(hN:X.σ.nb<X.N){elem:TypeId}{olds vs:List Value}{rest:Array Value}{z cap:Nat}{els:List (List PV)}{l nl:A}(hz:0<z)(hr:Rw z els)(hl:l.ev X.e=some (.sl els))(hn:nl.ev X.e=some (.i64 els.length))
  (he:F2 X.T (olds++vs) els.flatten) (hc:els.length<=cap/\ cap<=9223372036854775807) (hrest:rest.size=(cap-els.length)*z):
  ∃X',X'.w=X.w.drew.alloc (.cells (olds.toArray++vs.toArray++rest) elem)/\ VR X' (.slice (some ⟨X.w.heap.size,0,none⟩) els.length cap) (.w (.c (.lsl X.σ.nb (.c (.i64 0)) nl)))/\ Nx X base L X'/\ X'.σ=X.σ.new (.lst l nl z false):=by
 have hlen:=he.len;rw[gU hr.l,aD] at hlen;refine D4 (cap:=cap) hm hN (But.drew.trans (.alloc _)) (te X.w.drew _) hz hr hl hn ?_ hc ?_
 .have:(olds.toArray++vs.toArray++rest).toList.take (els.length*z)=olds++vs:=by
   simp only[Array.toList_append,List.toList_toArray];rw[fw (by rw[aD];omega),bi (by rw[aD];omega)]
  rw[this];exact .of he
 .simp only[Array.size_append,gG,hrest];have:cap*z=els.length*z+(cap-els.length)*z:=by rw[<-cx];congr 1;omega
  omega
def qx {f:RF}{bytes z:Nat}(hf:f= .app bytes z\/f= .appK bytes z){l n y r:A}{els0:List (List PV)}{ni:Nat}{p:PV}(h:oc X.e f [l,n,y] r)(hl:l.ev X.e=some (.sl els0))(hn:n.ev X.e=some (.i64 ni))(hy:y.ev X.e=some p)(hfull:f= .app bytes z->ni=els0.length):
  ∃els,p= .sl els/\ ni<=els0.length/\(ni+els.length)*bytes<=140737488355328/\ d8 z els=true/\ r.ev X.e=some (.sl (els0.take ni++els++els0.drop (ni+els.length))):=by
 obtain⟨u,h1,h2⟩:=kI h hl hn hy;rcases hf with rfl|rfl<;>simp only[RF.ev] at h1<;>split at h1<;>try (cases h1;done)
 .rename_i e;cases e;obtain⟨⟨_,c1,c2,c3⟩,rfl⟩:=dq h1;simp only[aG] at c2 h2;refine⟨_,rfl,by omega,c2,c3,?_⟩;rw[da (by have:=hfull rfl;omega),bc];exact h2
 .rename_i e;cases e;obtain⟨⟨_,c1,c2,c3⟩,rfl⟩:=dq h1;simp only[aG] at c2 h2;exact⟨_,rfl,by omega,c2,c3,h2⟩
def Vi {a b y:A}{m n:Nat}(h:oc X.e .sum [a,b] y)(ha:a.ev X.e=some (.i64 m))(hb:b.ev X.e=some (.i64 n)):y.ev X.e=some (.i64 (m+n:Nat)):=by
 obtain⟨u,h1,h2⟩:=gP h ha hb;cases h1;rw[h2];simp
section
variable {st xt ty elem:TypeId}{i:TypeInfo}{z:List PV}(hu:P.underlying st=some (.slice elem))(hx:∃e,P.underlying xt=some (.slice e))(hi:P.info? elem=some i)(hz:pG P elem=some z)(hzl:z.length=i.size)(hpos:0<i.size)(hbp:0<i.bytes)
include hu hx hi hz hzl hpos hbp
theorem Md (hm:MR X base L)(hN:X.σ.nb<X.N){v u:Value}{els:List (List PV)}{l n nl:A}(hv:iT v)(hel:El P X u els)(hok:d8 i.size els=true)(hb:els.length*i.bytes<=140737488355328)(hl:l.ev X.e=some (.sl els))(hn:n.ev X.e=some (.i64 els.length))(hnl:nl.ev X.e=some (.i64 els.length)):
  ∃v' X',(Builtin.append_ #[st,xt] ty #[v,u]).run P X.w= .ok v' X'.w/\ VR X' v' (.w (.c (.lsl X.σ.nb (.c (.i64 0)) n)))/\ Nx X base L X'/\ X'.σ=X.σ.new (.lst l nl i.size false):=by
 obtain⟨a,c,vs,rfl,hf,hvs,hr⟩:=hel.all _ hok;obtain⟨zv,hzv,q1,q2,q3⟩:=mU hz;have hzero:i.zero=some zv:=by unfold pF at hzv;rw[hi] at hzv;simpa using hzv
 cases els with
 |nil=>
  have:vs=[]:=by cases hvs;rfl
  subst this;obtain⟨X',w1,w2,w3,w4⟩:=EY hm hN hv hpos hl hnl hn;exact⟨v,X',by rw[w1];exact Kn hu hx hi rfl (hf _ rfl) hv,w2,w3,w4⟩
 |cons r els=>
  have hcap:=uS X.w (r::els).length 0 elem;have hg:∃X',X'.w=_/\ VR X' _ (.w (.c (.lsl X.σ.nb (.c (.i64 0)) nl)))/\ _/\ _:=A3 hm hN (elem:=elem) (olds:=[]) (vs:=vs) (rest:=Builtin.zeroCells zv.cells (fP X.w (r::els).length 0 elem-(r::els).length)) hpos hr hl hnl hvs ⟨hcap,grownCap_le _ _ _ _ (bG (nM _ hbp) (by simpa using hb))⟩ (by rw[rJ,q1,hzl])
  obtain⟨X',w1,w2,w3,w4⟩:=hg;have run:∀(ao:Option Addr),(∀w':World,w'.heap=X.w.heap->(Builtin.firstCells i.size 0 (.slice ao 0 0)).run P w'= .ok #[] w')->(Builtin.append_ #[st,xt] ty #[.slice ao 0 0,.slice a (r::els).length c]).run P X.w= .ok (.slice (some ⟨X.w.heap.size,0,none⟩) (r::els).length (fP X.w (r::els).length 0 elem)) X'.w:=by
   intro ao ho;have:=zg hu hx hi (ty:=ty) hzero rfl hf ao 0 0 (by simp) (by simpa using hb) hbp (olds:=[]) ho
   rw[w1];simpa using this
  have w2':VR X' (.slice (some ⟨X.w.heap.size,0,none⟩) (r::els).length (fP X.w (r::els).length 0 elem)) (.w (.c (.lsl X.σ.nb (.c (.i64 0)) n))):=by
   cases w2.inv.inv with
   |lsl h1 h2 h3=>exact .w (.c (.lsl h1 h2 λnl' z' h=>by
    obtain⟨oi,ni,Ln,e1,e2,e3⟩:=h3 nl' z' h;rw[w3.sx.ev hnl] at e2;cases e2;exact⟨oi,_,Ln,e1,w3.sx.ev hn,e3⟩))
  refine⟨_,X',?_,w2',w3,w4⟩;rcases hv with rfl|⟨B,o,rfl⟩
  .exact run none λw' _=>by simp[Builtin.firstCells]
  .exact run _ λw' _=>by simp[Builtin.firstCells,loadCells,loadCellsFrom]
omit hx in
theorem Vj (hit:∃k,P.underlying xt=some (.int k))(hm:MR X base L)(hN:X.σ.nb<X.N){v:Value}{n:Nat}{k:IntKind}{l nl:A}(hv:iT v)(hb:n*i.bytes<=140737488355328)(hl:l.ev X.e=some (.sl (List.replicate n z)))(hnl:nl.ev X.e=some (.i64 n)):
  ∃v' X',(Builtin.append_ #[st,xt] ty #[v,.int k n]).run P X.w= .ok v' X'.w/\ VR X' v' (.w (.c (.lsl X.σ.nb (.c (.i64 0)) nl)))/\ Nx X base L X'/\ X'.σ=X.σ.new (.lst l nl i.size false):=by
 obtain⟨kk,hit⟩:=hit;obtain⟨zv,hzv,q1,q2,q3⟩:=mU hz;have hzero:i.zero=some zv:=by unfold pF at hzv;rw[hi] at hzv;simpa using hzv
 have hle:n*1<=n*i.bytes:=qk _ hbp;have hwn:IntKind.i64.wrap (n:Int)=n:=by simp[IntKind.wrap,IntKind.bits,IntKind.signed];omega
 cases n with
 |zero=>
  obtain⟨X',w1,w2,w3,w4⟩:=EY hm hN hv hpos hl hnl hnl;refine⟨v,X',?_,w2,w3,w4⟩;rw[w1];have hw0:IntKind.i64.wrap 0=0:=rfl;rcases hv with rfl|⟨b,o,rfl⟩<;>simp[Builtin.append_,run_underlying hu,run_underlying hit,Go.sizeOf,typeInfo,hi,asInt,asIntOf,hw0,storeCells]
 |succ n=>
  have hcap:=uS X.w (n+1) 0 elem;have hzs:=th zv.cells (n+1);have hzl':zv.cells.size=i.size:=q1.trans hzl;have hg:∃X',X'.w=_/\ VR X' _ (.w (.c (.lsl X.σ.nb (.c (.i64 0)) nl)))/\ _/\ _:=A3 hm hN (elem:=elem) (olds:=[]) (vs:=(Builtin.zeroCells zv.cells (n+1)).toList) (rest:=Builtin.zeroCells zv.cells (fP X.w (n+1) 0 elem-(n+1))) (els:=List.replicate (n+1) z) (cap:=fP X.w (n+1) 0 elem) hpos (λr hr=>by rw[(fD.1 hr).2];exact⟨hzl,q2⟩) hl (by rw[aQ];exact hnl) (by
   rw[aI];unfold Builtin.zeroCells;rw[hzs];exact tg (q3 X.w X.S) _) ⟨by rw[aQ];exact hcap,grownCap_le _ _ _ _ (by omega)⟩ (by rw[rJ,aQ,hzl'])
  obtain⟨X',w1,w2,w3,w4⟩:=hg;rw[aQ] at w2;refine⟨_,X',?_,w2,w3,w4⟩;rw[w1];have hfit:=growslice_fits (need:=n+1) (old:=0) (zM n) hb;have h48':¬(281474976710656<Builtin.nextslicecap (n+1) 0*i.bytes):=by simpa using hfit
  have h48:¬(281474976710656<((n+1:Nat):Int)*(i.bytes:Int)):=by
   have:((n+1:Nat):Int)*(i.bytes:Int)=(((n+1)*i.bytes:Nat):Int):=by simp
   rw[this];omega
  have hw1:IntKind.i64.wrap ((n:Int)+1)=(n:Int)+1:=by simpa using hwn
  have n0:¬((n:Int)+1<0):=by omega
  have n1:¬((n:Int)+1<=0):=by omega
  have n2:¬(9223372036854775807<(n:Int)+1):=by omega
  have n3:¬(9223372036854775807<max ((n:Int)+1) 0):=by omega
  have tn:((n:Int)+1).toNat=n+1:=by omega
  have h0:¬((n+1)*i.size=0):=Nat.ne_of_gt (Nat.mul_pos (zM n) hpos);have h48i:¬(281474976710656<((n:Int)+1)*(i.bytes:Int)):=by simpa using h48
  rcases hv with rfl|⟨b,o,rfl⟩<;>simp[Builtin.append_,run_underlying hu,run_underlying hit,Go.sizeOf,typeInfo,zeroValue,hi,hzero,asInt,asIntOf,hw1,n0,n1,n2,n3,tn,h0,h48i,h48',Question.forced,Builtin.firstCells,loadCells,loadCellsFrom,newRow,fP]
theorem Yv (hm:MR X base L)(hN:X.σ.nb<X.N){b B lim cap ni:Nat}{u:Value}{l0 nl0:A}{els0 els:List (List PV)}{l n nl:A}(hlk:look X.σ.bl b=some (.lst l0 nl0 i.size false))(hρ:X.ρ b=some (B,lim))(hl0:l0.ev X.e=some (.sl els0))(hle:ni<=els0.length)(hcap:els0.length<=cap/\ cap<=9223372036854775807)(hlim:cap*i.size<=lim)
  (hel:El P X u els) (hok:d8 i.size els=true) (hb:(ni+els.length)*i.bytes<=140737488355328) (hl:l.ev X.e=some (.sl (els0.take ni++els++els0.drop (ni+els.length)))) (hn:n.ev X.e=some (.i64 (ni+els.length:Nat))) (hnl:nl.ev X.e=some (.i64 (els0.take ni++els++els0.drop (ni+els.length)).length)):
  ∃v' X',(Builtin.append_ #[st,xt] ty #[.slice (some ⟨B,0,none⟩) ni cap,u]).run P X.w= .ok v' X'.w/\ VR X' v' (.w (.c (.lsl X.σ.nb (.c (.i64 0)) n)))/\ Nx X base L X'/\ X'.σ=(X.σ.kill b).new (.lst l nl i.size false):=by
 obtain⟨a,c,vs,rfl,hf,hvs,hr⟩:=hel.all _ hok;obtain⟨zv,hzv,q1,q2,q3⟩:=mU hz;have hzero:i.zero=some zv:=by unfold pF at hzv;rw[hi] at hzv;simpa using hzv
 obtain⟨_,els0',k1,k2,k3,k4⟩:=hm.bl b _ hlk;rw[hl0] at k1;cases k1;have k4:=k4.resolve_left λh=>by rw[hρ] at h;cases h.2
 obtain⟨B',arr,k5,⟨tt,fz,hg,hfz⟩,k6⟩:=k4;rw[hρ] at k5;cases k5;generalize hnew:els0.take ni++els++els0.drop (ni+els.length)=new at hl hnl;have hnr:Rw i.size new:=by rw[<-hnew];exact((k3.t _).app hr).app (k3.d _)
 have hvl:=hvs.len;rw[gU hr.l] at hvl;have hal:=k6.f2.len;have hsz:arr.toList.length=arr.size:=by simp
 rw[gU k3.l,aR,hsz] at hal;have m1:ni*i.size<=els0.length*i.size:=cB _ hle;have old:F2 X.T (arr.toList.take (ni*i.size)) (els0.take ni).flatten:=by
  have:=k6.f2.take (ni*i.size);rwa [dG,bM m1,jU k3.l] at this
 by_cases hroom:ni+els.length<=cap
 ·
  have m2:(ni+els.length)*i.size<=arr.size:=bG (cB _ hroom) hlim;rw[cx] at m2;obtain⟨w',arr',r1,r2,r3,r4,r5⟩:=pP (P:=P) hg hfz (ni*i.size) (vs:=vs) (by omega) (CU hvs hr.ft);have hlen:new.length*i.size=ni*i.size+vs.length+(els0.length*i.size-(ni*i.size+vs.length)):=by
   rw[<-hnew];simp only[aD,aR,bQ];rw[bM hle,cx,cx,Nat.sub_mul,cx,hvl]
  refine⟨_,X.re w' b (some (B,arr.size)) (.lst l nl i.size false),O6 hu hx hi rfl (hf _ rfl) B 0 ni cap hroom (by rw[cQ];exact r1),.w (.c (.lsl (.inr rfl) rfl λnl' z' h=>?_)),ahg hm hN hlk hρ rfl rfl r2 λsx=>⟨hpos,new,hl,hnl,hnr,.inr ⟨B,arr',by rw[r4];exact upR_self,⟨tt,fz,r3,by rw[r4];exact hfz⟩,?_⟩⟩,rfl⟩
  .cases upR_self.symm.trans h;refine⟨0,ni+els.length,new.length,rfl,hn,hnl,?_,.inl ⟨B,arr.size,cap,upR_self,by simp,?_,by simpa using hlim⟩⟩
   .rw[<-hnew];simp;omega
   .rw[<-hnew];simp;omega
  .have e:arr'.toList.take (new.length*i.size)=arr.toList.take (ni*i.size)++vs++(arr.toList.drop (ni*i.size+vs.length)).take (els0.length*i.size-(ni*i.size+vs.length)):=by
    rw[r5,hlen,lJ,aD,aR,bM (by omega),bi (l:=arr.toList.take (ni*i.size)++vs) (by rw[aD,aR];omega)]
    congr 2;omega
   have tail:F2 X.T ((arr.toList.drop (ni*i.size+vs.length)).take (els0.length*i.size-(ni*i.size+vs.length))) (els0.drop (ni+els.length)).flatten:=by
    have:=k6.f2.drop ((ni+els.length)*i.size);rwa [mT k3.l,eU,cx,<-hvl] at this
   rw[e,<-hnew,ef,ef];exact(RTs.of ((old.append hvs).append tail)).mono sx.k
 ·
  have hd:els0.drop (ni+els.length)=[]:=da (by omega);rw[hd,bc] at hnew;have hnl':new.length=ni+els.length:=by rw[<-hnew];simp;omega
  have hk:=D3 hm hlk;have hcg:=uS X.w (ni+els.length) cap elem;obtain⟨X',w1,w2,w3,w4⟩:=A3 (X:=X.kl b) hk.mr hN (elem:=elem) (olds:=arr.toList.take (ni*i.size)) (vs:=vs) (rest:=Builtin.zeroCells zv.cells (fP X.w (ni+els.length) cap elem-(ni+els.length))) (cap:=fP X.w (ni+els.length) cap elem) (nl:=nl) hpos hnr hl hnl (by
   rw[<-hnew,ef];exact old.append hvs) (by rw[hnl'];exact⟨hcg,grownCap_le _ _ _ _ (bG (nM _ hbp) hb)⟩) (by rw[rJ,q1,hzl,hnl'])
  refine⟨.slice (some ⟨X.w.heap.size,0,none⟩) (ni+els.length) (fP X.w (ni+els.length) cap elem),X',?_,?_,hk.trans w3,w4⟩
  rotate_left
  .rw[hnl'] at w2;cases w2.inv.inv with
   |lsl h1 h2 h3=>exact .w (.c (.lsl h1 h2 λnl' z' h=>by
    obtain⟨oi,ni',Ln,e1,e2,e3,e4,e5⟩:=h3 nl' z' h;rw[w3.sx.ev (show nl.ev X.e=_ from hnl)] at e2
    have:=gE e2;rw[hnl'] at this;subst this;exact⟨oi,_,Ln,e1,w3.sx.ev (show n.ev X.e=_ from hn),e3,e4,e5⟩))
  .rw[w1];refine zg hu hx hi hzero rfl hf (some ⟨B,0,none⟩) ni cap (by omega) hb hbp (olds:=arr.toList.take (ni*i.size)) λw' hw=>?_;have:=zb (P:=P) (w:=w') (B:=B) (by rw[hw];exact hg) 0 (ni*i.size) (by omega);rw[dz] at this;simpa [Builtin.firstCells] using this
end
def Yw {t:TypeId}(h:JR P t=true):∃e,P.underlying t=some (.slice e):=by
 unfold JR at h;split at h
 .exact⟨_,by assumption⟩
 .cases h
def Yx {t:TypeId}(h:UV P t=true):∃k,P.underlying t=some (.int k):=by
 unfold UV at h;split at h
 .exact⟨_,by assumption⟩
 .cases h
def O7 (hm:MR X base L){st xt ty:TypeId}{c d:SC}{v u:Value}(hc:CR X v c)(hd:CR X u d):Sp X.e (DV P X.σ st xt c d) (SmR P X base L (Builtin.append_ #[st,xt] ty #[v,u])):=by
 unfold DV;split
 .rename_i elem hu;split
  .rename_i size hs;split
   .rename_i info hi;have hsz:info.size=size:=by unfold szT at hs;rw[hi] at hs;simpa using hs
    subst hsz;split
    .rename_i z hz;split
     .rename_i hcond;simp only[aJ,im] at hcond;obtain⟨⟨⟨⟨h1,_⟩,h3⟩,h4⟩,h5⟩:=hcond;have h3:=jD h3;have hx:=Yw h5;refine Sp.bind (EX (P:=P) hm hd) λys ⟨p,y1,y2⟩=>?_;split
      .cases hc with
       |nil hn=>
        refine Sp.bind Sp.emit λl hl=>Sp.bind Sp.emit λn hnn=> .ret λhN=>?_;obtain⟨els,rfl,a1,a2,a3,a4⟩:=qx (els0:=[]) (ni:=0) (.inl rfl) hl rfl rfl y1 λ_=>rfl;simp only[rO,aI,rN,bc,cQ] at a2 a4;obtain⟨_,e,n1⟩:=gV hnn a4;cases e;exact Md hu hx hi hz h3 h1 h4 hm hN hn (y2 _ rfl) a3 a2 a4 n1 n1
      .rename_i b o n;split
       .rename_i l0 nl z' hl0;split
        .rename_i hc2;simp only[aJ] at hc2;have:=oX hc2.1;subst this;have:=jD hc2.2;subst this;cases hc with
         |lsl hbm hone h=>
          obtain⟨oi,ni,Ln,e1,e2,e3,e4,e5⟩:=h _ _ (hm.kd _ _ hl0);have:oi=0:=(gE (a:=0) (b:=oi) e1).symm;subst this;obtain⟨_,els0,k1,k2,k3,k4⟩:=hm.bl b _ hl0;rw[e3] at k2;have:=gE k2;subst this;have fin:∀{els:List (List PV)} {l' n' nl':A},p= .sl els->ni<=els0.length->(ni+els.length)*info.bytes<=140737488355328->d8 info.size els=true->l'.ev X.e=some (.sl (els0.take ni++els++els0.drop (ni+els.length)))->n'.ev X.e=some (.i64 (ni+els.length:Nat))->nl'.ev X.e=some (.i64 (els0.take ni++els++els0.drop (ni+els.length)).length)->
            SmR P X base L (Builtin.append_ #[st,xt] ty #[v,u]) (.w (.c (.lsl X.σ.nb (.c (.i64 0)) n')),(X.σ.kill b).new (.lst l' nl' info.size false)):=by
           intro els l' n' nl' hp a1 a2 a3 a4 a5 a6 hN;have hN:X.σ.nb<X.N:=hN;rcases e5 with⟨B,lim,cap,f1,rfl,f2,f3⟩|⟨rfl,hn,f2⟩
           .simp only[tM,cQ] at f2 f3|-;exact Yv hu hx hi hz h3 h1 h4 hm hN hl0 f1 k1 a1 f2 f3 (y2 _ hp) a3 a2 a4 a5 a6
           .have:els0=[]:=bS (by omega);subst this;simp only[rO,aI,rN,bc,cQ] at a2 a4 a5 a6;have hk:=D3 hm hl0;obtain⟨v',X',r1,r2,r3,r4⟩:=Md (X:=X.kl b) hu hx hi hz h3 h1 h4 hk.mr hN hn (y2 _ hp) a3 a2 a4 a5 a6;exact⟨v',X',r1,r2,hk.trans r3,r4⟩
          split
          .rename_i hsame;have:=vX hsame;subst this;refine Sp.bind Sp.emit λl' hl'=>Sp.bind Sp.emit λn' hn'=> .ret ?_;rw[e2] at e3;have hni:=gE e3;obtain⟨els,hp,a1,a2,a3,a4⟩:=qx (.inl rfl) hl' k1 e2 y1 λ_=>hni;obtain⟨_,e,n1⟩:=gV hn' a4;cases e;refine fin hp a1 a2 a3 a4 ?_ n1;rw[n1];simp only[aD,aR,bQ,bZ,PV.v.injEq,Value.int.injEq,ic];omega
          .refine Sp.bind Sp.emit λl' hl'=>Sp.bind Sp.emit λnl' hnl'=>Sp.bind Sp.emit λk hk=>Sp.bind Sp.emit λn' hn'=> .ret ?_;obtain⟨els,hp,a1,a2,a3,a4⟩:=qx (.inr rfl) hl' k1 e2 y1 λh=>by cases h
           obtain⟨_,e,n1⟩:=gV hnl' a4;cases e;obtain⟨_,e,n2⟩:=gV hk y1;rw[hp] at e;cases e;exact fin hp a1 a2 a3 a4 (Vi hn' e2 n2) n1
        .exact .fail
       .exact .fail
      .exact .fail
     .split
      .rename_i hcond;simp only[aJ,im] at hcond;obtain⟨⟨⟨h1,h3⟩,h4⟩,h5⟩:=hcond;have h3:=jD h3;have hit:=Yx h5;split
       .cases hc with
        |nil hn=>
         refine Sp.bind (dI hd) λa ⟨p,a1,_,a3⟩=>Sp.bind Sp.emit λr hr=>Sp.bind Sp.emit λl hl=>Sp.bind Sp.emit λn hnn=> .ret λhN=>?_;obtain⟨q,r1,r2⟩:=gP hr a1 a1;obtain⟨k,m,k',c,rfl,e,c1,_,_,_,rfl⟩:=Kh r1;cases e;have:=mX a3;subst this;obtain⟨els,b0,b1,b2,b3,b4⟩:=qx (els0:=[]) (ni:=0) (.inl rfl) hl rfl rfl r2 λ_=>rfl;cases b0;simp only[rO,aI,rN,bc,cQ] at b2 b4;obtain⟨_,e,n1⟩:=gV hnn b4;cases e;rw[aQ] at b2 n1;have hm0:m=(m.toNat:Int):=by omega
         rw[hm0];exact Vj hu hi hz h3 h1 h4 hit hm hN hn b2 b4 n1
       .exact .fail
      .exact .fail
    .exact .fail
   .exact .fail
  .exact .fail
 .exact .fail
end
end Go.Sym
