import Derived.Test.YtfghdmmapmdcgaaGreatA1
import Derived.Tactics
import Derived.Orders
import Derived.Below
import Derived.Eval
import Derived.Laws.Rows
import Derived.Laws.Append
set_option linter.unusedVariables false
set_option linter.unusedSimpArgs false
set_option linter.defProp false
noncomputable section
namespace Go.Sym
inductive PV where
 |v (x:Value)
 |sl (els:List (List PV))
 |agg (cs:List PV)
 deriving Inhabited
abbrev PV.int (k:IntKind)(n:Int):PV:= .v (.int k n)
abbrev PV.i64 (n:Int):PV:= .v (.int .i64 n)
abbrev PV.bool (b:Bool):PV:= .v (.bool b)
def PV.cells:PV→List PV
 | .agg cs=>cs
 |x=>[x]
inductive A where
 |x (i:Nat)
 |c (p:PV)
 deriving Inhabited
def A.ev (e:List PV):A→Option PV
 | .x i=>e[i]?
 | .c p=>some p
def evs (e:List PV):List A→Option (List PV)
 |[]=>some []
 |a::as=>match a.ev e with
  |some v=>match evs e as with
   |some vs=>some (v::vs)
   |none=>none
  |none=>none
def t0:PV→Bool
 | .v _| .sl _=>true
 |_=>false
inductive Ck where
 |i
 |b
 |s
 deriving Inhabited
inductive RF where
 |bin (op:BinOp)
 |bbin (op:BinOp)
 |un (op:UnOp)
 |eqv (ks:List Ck)
 |conv (k:IntKind)
 |mm (mx:Bool)
 |shape (n:Nat)
 |cell (i:Nat)
 |part (o n:Nat)
 |agg
 |len
 |ix
 |sum
 |dif
 |bnd
 |elt (o n:Nat)
 |set (o:Nat)
 |app (bytes z:Nat)
 |sub
 |bs (len:Nat) (z:List PV) (ids:List Nat)
 |rep (z:List PV) (bytes:Nat)
 |tix (z:Nat)
 |tsub (z:Nat)
 |aix (z len n:Nat)
 |mget (ks:List Ck) (z:List PV)
 |mhas (ks:List Ck)
 |mset (ks:List Ck) (z:Nat)
 |clr (z:List PV)
 |srt
 |flat
 |flatL
 |add64
 |appK (bytes z:Nat)
 deriving Inhabited
def intB (op:BinOp)(k:IntKind)(a:Int)(k':IntKind)(b:Int):Option PV:=
 match op with
 | .shl=>if b<0 then none else some (.v (.int k (k.wrap (a*2^(min b.toNat k.bits)))))
 | .shr=>if b<0 then none else some (.v (.int k (a.fdiv (2^(min b.toNat k.bits)))))
 |op=>if k=k' then match op with
  | .add=>some (.v (.int k (k.wrap (a+b))))
  | .sub=>some (.v (.int k (k.wrap (a-b))))
  | .mul=>some (.v (.int k (k.wrap (a*b))))
  | .quo=>if b=0 then none else some (.v (.int k (k.wrap (a.tdiv b))))
  | .rem=>if b=0 then none else some (.v (.int k (a.tmod b)))
  | .and=>some (.v (.int k (k.wrap (BitVec.ofInt k.bits a&&& BitVec.ofInt k.bits b).toNat)))
  | .or=>some (.v (.int k (k.wrap (BitVec.ofInt k.bits a|||BitVec.ofInt k.bits b).toNat)))
  | .xor=>some (.v (.int k (k.wrap (BitVec.ofInt k.bits a^^^ BitVec.ofInt k.bits b).toNat)))
  | .andNot=>some (.v (.int k (k.wrap (BitVec.ofInt k.bits a&&& ~~~BitVec.ofInt k.bits b).toNat)))
  | .eql=>some (.v (.bool (decide (a=b))))
  | .neq=>some (.v (.bool (!decide (a=b))))
  | .lss=>some (.v (.bool (decide (a<b))))
  | .leq=>some (.v (.bool (decide (a≤b))))
  | .gtr=>some (.v (.bool (decide (b<a))))
  | .geq=>some (.v (.bool (decide (b≤a))))
  |_=>none
  else none
def strB (op:BinOp)(a b:ByteArray):Option PV:=
 match op with
 | .eql=>some (.v (.bool (a.toList==b.toList)))
 | .neq=>some (.v (.bool (!(a.toList==b.toList))))
 | .add=>if((a.size+b.size:Nat):Int)>9223372036854775807 then none else some (.v (.string (a++b)))
 |_=>none
def boolB (op:BinOp)(a b:Bool):Option PV:=
 match op with
 | .eql=>some (.v (.bool (a==b)))
 | .neq=>some (.v (.bool (!(a==b))))
 |_=>none
def eqC:Ck→PV→PV→Option Bool
 | .i,.v (.int k a),.v (.int k' b)=>if k=k' then some (decide (a=b)) else none
 | .b,.v (.bool a),.v (.bool b)=>some (a==b)
 | .s,.v (.string a),.v (.string b)=>some (a==b)
 |_,_,_=>none
def eqL:List Ck→List PV→List PV→Option Bool
 |[],[],[]=>some true
 |k::ks,x::xs,y::ys=>match eqC k x y with
  |some b=>match eqL ks xs ys with
   |some c=>some (b&& c)
   |none=>none
  |none=>none
 |_,_,_=>none
def splice (cs:List PV)(o:Nat)(vs:List PV):List PV:=cs.take o++vs++cs.drop (o+vs.length)
def rowPart (o n:Nat)(row:List PV):Option PV:=
 match n with
 |0=>match row[o]? with
  |some p=>if t0 p then some p else none
  |none=>none
 |n=>if o+n≤row.length∧((row.drop o).take n).all t0=true then some (.agg ((row.drop o).take n)) else none
def elsOk' (z:Nat):List (List PV)→Bool
 |[]=>true
 |cs::_=>decide (cs.length=z)
def mD (z:Nat):List (List PV)→List Nat→List PV→Option (List (List PV))
 |els,i::is,p::ps=>if i<els.length∧p.cells.length=z then mD z (els.set i p.cells) is ps else none
 |els,[],[]=>some els
 |_,_,_=>none
def mapGet (ks:List Ck)(k:List PV):List (List PV)→Option (Option (List PV))
 |[]=>match eqL ks k k with
  |some _=>some none
  |none=>none
 |r::rs=>match eqL ks (r.take ks.length) k with
  |some true=>some (some (r.drop ks.length))
  |some false=>mapGet ks k rs
  |none=>none
def mapSet (ks:List Ck)(k v:List PV):List (List PV)→Option (List (List PV))
 |[]=>match eqL ks k k with
  |some _=>some [k++v]
  |none=>none
 |r::rs=>match eqL ks (r.take ks.length) k with
  |some true=>some ((r.take ks.length++v)::rs)
  |some false=>match mapSet ks k v rs with
   |some l=>some (r::l)
   |none=>none
  |none=>none
def isV:PV→Bool
 | .v _=>true
 |_=>false
def yS:List PV→PV
 |[p]=>p
 |l=> .agg l
def kF:List (List PV)→Option (List Int)
 |[]=>some []
 |[.v (.int .i64 n)]::r=>(kF r).map (n::·)
 |_=>none
def RF.ev (f:RF)(vs:List PV):Option PV:=
 match f with
 | .bin op=>match vs with
  |[.v (.int k a),.v (.int k' b)]=>intB op k a k' b
  |[.v (.string a),.v (.string b)]=>strB op a b
  |_=>none
 | .bbin op=>match vs with
  |[.v (.bool a),.v (.bool b)]=>boolB op a b
  |_=>none
 | .un op=>match vs with
  |[.v (.bool b)]=>match op with
   | .not=>some (.v (.bool (!b)))
   |_=>none
  |[.v (.int k a)]=>match op with
   | .neg=>some (.v (.int k (k.wrap (0-a))))
   |_=>none
  |_=>none
 | .eqv ks=>match vs with
  |[.agg xs,.agg ys]=>match eqL ks xs ys with
   |some b=>some (.v (.bool b))
   |none=>none
  |_=>none
 | .conv k=>match vs with
  |[.v (.int _ n)]=>some (.v (.int k (k.wrap n)))
  |_=>none
 | .mm mx=>match vs with
  |[.v (.int k a),.v (.int k' b)]=>if k=k' then some (.v (.int k (if mx then max a b else min a b))) else none
  |_=>none
 | .shape n=>match vs with
  |[.agg cs]=>if cs.length=n then some (.agg cs) else none
  |_=>none
 | .cell i=>match vs with
  |[.agg cs]=>cs[i]?
  |_=>none
 | .part o n=>match vs with
  |[.agg cs]=>if o+n≤cs.length then some (.agg ((cs.drop o).take n)) else none
  |_=>none
 | .agg=>if(vs.flatMap PV.cells).all t0=true then some (.agg (vs.flatMap PV.cells)) else none
 | .len=>match vs with
  |[.sl els]=>some (.i64 els.length)
  |_=>none
 | .ix=>match vs with
  |[.v (.int k i),.v (.int _ n)]=>if 0≤i∧i<n then some (.v (.int k i)) else none
  |_=>none
 | .sum=>match vs with
  |[.v (.int _ a),.v (.int _ b)]=>some (.i64 (a+b))
  |_=>none
 | .dif=>match vs with
  |[.v (.int _ a),.v (.int _ b)]=>some (.i64 (a-b))
  |_=>none
 | .bnd=>match vs with
  |[.v (.int _ a),.v (.int _ b)]=>if 0≤a∧a≤b then some (.i64 a) else none
  |_=>none
 | .elt o n=>match vs with
  |[.sl els,.v (.int _ i)]=>if 0≤i then match els[i.toNat]? with
   |some row=>rowPart o n row
   |none=>none
   else none
  |_=>none
 | .set o=>match vs with
  |[.sl els,.v (.int _ i),p]=>if 0≤i then match els[i.toNat]? with
   |some row=>if o+p.cells.length≤row.length then some (.sl (els.set i.toNat (splice row o p.cells))) else none
   |none=>none
   else none
  |_=>none
 | .app bytes z=>match vs with
  |[.sl a,.v (.int _ n),.sl b]=>if 0≤n∧n≤a.length∧(n.toNat+b.length)*bytes≤140737488355328∧elsOk' z b=true then some (.sl (a.take n.toNat++b)) else none
  |_=>none
 | .sub=>match vs with
  |[.sl els,.v (.int _ o),.v (.int _ n)]=>if 0≤o∧0≤n∧o+n≤els.length then some (.sl ((els.drop o.toNat).take n.toNat)) else none
  |_=>none
 | .bs n z ids=>match mD z.length (List.replicate n z) ids vs with
  |some els=>some (.sl els)
  |none=>none
 | .rep z bytes=>match vs with
  |[.v (.int _ l),.v (.int _ c)]=>if 0≤l∧l≤c∧c<9223372036854775808∧bytes*c≤281474976710656 then some (.sl (List.replicate l.toNat z)) else none
  |_=>none
 | .tix z=>match vs with
  |[.sl els,.v (.int k i)]=>if 0≤i then match els[i.toNat]? with
   |some row=>if row.length=z then some (.v (.int k i)) else none
   |none=>none
   else none
  |_=>none
 | .tsub z=>match vs with
  |[.sl els,.v (.int _ l),.v (.int _ h)]=>if 0≤l∧l≤h∧h≤els.length∧elsOk' z els=true∧0<z then some (.sl ((els.drop l.toNat).take (h.toNat-l.toNat))) else none
  |_=>none
 | .aix z w n=>match vs with
  |[.agg cs,.v (.int _ i)]=>if 0≤i∧i<w then rowPart (i.toNat*z) n cs else none
  |_=>none
 | .mget ks z=>match vs with
  |[.sl rows,k]=>match mapGet ks k.cells rows with
   |some r=>some (yS (r.getD z))
   |none=>none
  |_=>none
 | .mhas ks=>match vs with
  |[.sl rows,k]=>match mapGet ks k.cells rows with
   |some r=>some (.v (.bool r.isSome))
   |none=>none
  |_=>none
 | .mset ks z=>match vs with
  |[.sl rows,k,v]=>if v.cells.length=z∧v.cells.all t0=true then match mapSet ks k.cells v.cells rows with
   |some l=>some (.sl l)
   |none=>none
   else none
  |_=>none
 | .appK bytes z=>match vs with
  |[.sl a,.v (.int _ n),.sl b]=>if 0≤n∧n≤a.length∧(n.toNat+b.length)*bytes≤140737488355328∧elsOk' z b=true then some (.sl (a.take n.toNat++b++a.drop (n.toNat+b.length))) else none
  |_=>none
 | .clr z=>match vs with
  |[.sl els,.v (.int _ o),.v (.int _ n)]=>if 0≤o∧0≤n∧o+n≤els.length then some (.sl (els.take o.toNat++List.replicate n.toNat z++els.drop (o.toNat+n.toNat))) else none
  |_=>none
 | .add64=>match vs with
  |[.v (.int .u64 x),.v (.int .u64 y),.v (.int .u64 c)]=>if c.toNat≤1 then some (.agg [.v (.int .u64 (Int.ofNat ((x.toNat+y.toNat+c.toNat)% 18446744073709551616))),.v (.int .u64 (Int.ofNat ((x.toNat+y.toNat+c.toNat)/18446744073709551616)))]) else none
  |_=>none
 | .flat=>match vs with
  |[v]=>if v.cells.all isV=true then some v else none
  |_=>none
 | .flatL=>match vs with
  |[.sl els]=>if els.flatten.all isV=true then some (.sl els) else none
  |_=>none
 | .srt=>match vs with
  |[.sl els]=>match kF els with
   |some l=>some (.sl ((l.mergeSort fun a b=>decide (a≤b)).map fun n=>[.v (.int .i64 n)]))
   |none=>none
  |_=>none
inductive K where
 |ret (vs:List A)
 |dead
 |lt (f:RF) (as:List A) (k:K)
 |call (g:FuncId) (as:List A) (k:K)
 |br (x:A) (t e:K)
 |amb (t e:K)
 |jp (d k:K)
 |loop (b k:K)
 |jmp (j:Nat) (vs:List A)
 deriving Inhabited
def iter {α β:Type}(F:(α→Option β)→α→Option β):Nat→α→Option β
 |0,_=>none
 |n+1,a=>F (iter F n) a
open Classical in
def den (Φ:FuncId→List PV→Option (List PV))(N:Nat):K→List (List PV→Option (List PV))→List PV→Option (List PV)
 | .ret vs,_,e=>evs e vs
 | .dead,_,_=>none
 | .lt f as k,J,e=>match evs e as with
  |some xs=>match f.ev xs with
   |some v=>den Φ N k J (e++[v])
   |none=>none
  |none=>none
 | .call g as k,J,e=>match evs e as with
  |some xs=>match Φ g xs with
   |some rs=>den Φ N k J (e++rs)
   |none=>none
  |none=>none
 | .br x t f,J,e=>match x.ev e with
  |some (.v (.bool true))=>den Φ N t J e
  |some (.v (.bool false))=>den Φ N f J e
  |_=>none
 | .amb t f,J,e=>match den Φ N t J e with
  |some a=>match den Φ N f J e with
   |some b=>if a=b then some a else none
   |none=>none
  |none=>none
 | .jp d k,J,e=>den Φ N k (J++[fun vs=>den Φ N d J (e++vs)]) e
 | .loop b k,J,e=>den Φ N k (J++[iter (fun self vs=>den Φ N b (J++[self]) (e++vs)) N]) e
 | .jmp j vs,J,e=>match J[j]? with
  |some f=>match evs e vs with
   |some xs=>f xs
   |none=>none
  |none=>none
def yT:TypeDesc→Bool
 | .struct _| .array _ _=>true
 |_=>false
def bv (P:Program)(t:TypeId):Option Bool:=(P.underlying t).map yT
def szT (P:Program)(t:TypeId):Option Nat:=(P.info? t).map (·.size)
def zeroT (P:Program)(t:TypeId):Option Value:=(P.info? t).bind (·.zero)
def yU (P:Program)(t:TypeId):Bool:=match P.underlying t with
 |some (.slice _)=>true
 |_=>false
def plain1:Value→Bool
 | .bool _| .int _ _| .string _=>true
 |_=>false
def pvC:Value→Option PV
 | .slice none 0 0=>some (.sl [])
 |x=>if plain1 x then some (.v x) else none
def Ex:List Value→Option (List PV)
 |[]=>some []
 |x::xs=>match pvC x with
  |some c=>match Ex xs with
   |some cs=>some (c::cs)
   |none=>none
  |none=>none
def kr (P:Program)(t:TypeId):Option (Nat→Option (Nat×Nat)):=
 match P.underlying t with
 |some (.struct fields)=>
  if fields.toList.all (fun f=>(szT P f.type).isSome) then
   some fun i=>(fields[i]?).map fun f=>(f.offset,(szT P f.type).getD 0)
  else none
 |some (.array _ elem)=>(szT P elem).map fun size=>fun i=>some (i*size,size)
 |_=>none
def iK (P:Program)(t:TypeId):Option (List PV):=match zeroT P t with
 |some z=>Ex z.cells.toList
 |none=>none
inductive Cap where
 |ptr (b o:Nat)
 |a (x:A)
 deriving Inhabited
inductive SC where
 |a (x:A)
 |pc (x:A) (i:Nat)
 |nil
 |ptr (b o:Nat)
 |ep (b:Nat) (i:A) (o:Nat)
 |tp (l i:A) (o:Nat)
 |lsl (b:Nat) (o n:A)
 |mp (b:Nat)
 |fn (g:Nat) (f c:List Cap)
 |un
 |ub (x:A) (s:Bool)
 deriving Inhabited
inductive SW where
 |c (x:SC)
 |av (x:A)
 |agg (cs:List SC)
 deriving Inhabited
inductive SV where
 |w (x:SW)
 |tup (xs:List SW)
 deriving Inhabited
inductive SB where
 |box (cs:List SC)
 |lst (l n:A) (z:Nat) (fz:Bool)
 |map (l:A) (ka:Bool) (nk:Nat) (va:Bool)
 deriving Inhabited
structure SS where
 n:Nat
 tm:List (Nat×SV)
 bl:List (Nat×SB)
 nb:Nat
 fc:List (Nat×PV)
 sz:List (Nat×Nat)
 deriving Inhabited
def look {α:Type}:List (Nat×α)→Nat→Option α
 |[],_=>none
 |(k,v)::l,i=>match Nat.beq k i with
  |true=>some v
  |false=>look l i
def del {α:Type}:List (Nat×α)→Nat→List (Nat×α)
 |[],_=>[]
 |(k,v)::l,i=>match Nat.beq k i with
  |true=>del l i
  |false=>(k,v)::del l i
def put {α:Type}(l:List (Nat×α))(k:Nat)(v:α):List (Nat×α):=(k,v)::del l k
abbrev Lets:=List (RF×List A)
abbrev Szs:=List (Nat×Nat)
abbrev EM (α:Type):=Nat→Szs→Option (α×Lets×Szs)
def EM.ret {α:Type}(a:α):EM α:=fun _ _=>some (a,[],[])
def EM.bind {α β:Type}(x:EM α)(f:α→EM β):EM β:=fun m z=>match x m z with
 |some (a,l1,z1)=>match f a (m+l1.length) (z1++z) with
  |some (b,l2,z2)=>some (b,l1++l2,z2++z1)
  |none=>none
 |none=>none
def fail {α:Type}:EM α:=fun _ _=>none
def ofO {α:Type}:Option α→EM α
 |some a=>EM.ret a
 |none=>fail
def emit (f:RF)(as:List A):EM A:=fun m _=>some (.x m,[(f,as)],[])
def emitN (n:Nat)(f:RF)(as:List A):EM A:=fun m _=>some (.x m,[(f,as)],[(m,n)])
def sizeOf? (a:A):EM (Option Nat):=fun _ z=>some ((match a with| .x i=>look z i|_=>none),[],[])
def A.same:A→A→Bool
 | .x i,.x j=>Nat.beq i j
 |_,_=>false
def cEq:PV→PV→Bool
 | .v (.int k a),.v (.int k' b)=>decide (k=k')&& decide (a=b)
 | .v (.bool a),.v (.bool b)=>a==b
 | .sl [],.sl []=>true
 |_,_=>false
def A.eq:A→A→Bool
 | .x i,.x j=>Nat.beq i j
 | .c p,.c q=>cEq p q
 |_,_=>false
def c8:SC→EM A
 | .a x=>EM.ret x
 | .pc x i=>emit (.cell i) [x]
 | .nil=>EM.ret (.c (.sl []))
 |_=>fail
def iL (n:Nat)(x:A):EM A:=EM.bind (sizeOf? x) fun k=>match k with
 |some k=>match Nat.beq k n with
  |true=>EM.ret x
  |false=>fail
 |none=>emitN n (.shape n) [x]
def pcs (x:A)(i:Nat):Nat→List SC
 |0=>[]
 |n+1=> .pc x i::pcs x (i+1) n
def oW (P:Program)(t:TypeId)(w:SW):EM (List SC):=
 match bv P t with
 |some true=>match szT P t with
  |some n=>match w with
   | .agg cs=>match Nat.beq cs.length n with
    |true=>EM.ret cs
    |false=>fail
   | .av x=>EM.bind (iL n x) fun y=>EM.ret (pcs y 0 n)
   |_=>fail
  |none=>fail
 |some false=>match szT P t with
  |some 1=>match w with
   | .c x=>EM.ret [x]
   |_=>fail
  |_=>fail
 |none=>fail
def gT (x:A):Nat→List SC→Nat
 |_,[]=>0
 |i,.pc y j::cs=>match A.same x y&& Nat.beq i j with
  |true=>gT x (i+1) cs+1
  |false=>0
 |_,_=>0
def kG (cs:List SC):EM SW:=
 match cs with
 | .pc x i::rest=>match Nat.beq (gT x (i+1) rest) rest.length with
  |true=>EM.bind (sizeOf? x) fun k=>match(match k with|some k=>Nat.beq i 0&& Nat.beq k cs.length|none=>false) with
   |true=>EM.ret (.av x)
   |false=>EM.bind (emitN cs.length (.part i cs.length) [x]) fun y=>EM.ret (.av y)
  |false=>EM.ret (.agg cs)
 |_=>EM.ret (.agg cs)
def sf (P:Program)(t:TypeId)(c:SC):EM SW:=
 match c with
 | .pc x i=>match P.underlying t with
  |some .bool=>EM.bind (emit (.cell i) [x]) fun y=>EM.ret (.c (.a y))
  |_=>EM.ret (.c (.pc x i))
 |c=>EM.ret (.c c)
def vq (P:Program)(t:TypeId)(cs:List SC)(o:Nat):EM SW:=
 match bv P t with
 |some true=>match szT P t with
  |some n=>match Nat.ble (o+n) cs.length with
   |true=>kG ((cs.drop o).take n)
   |false=>fail
  |none=>fail
 |some false=>match cs[o]? with
  |some c=>sf P t c
  |none=>fail
 |none=>fail
def cnt (P:Program)(t:TypeId):Option Nat:=
 match bv P t with
 |some true=>match szT P t with
  |some (n+1)=>some (n+1)
  |_=>none
 |some false=>some 0
 |none=>none
def fb (n:Nat)(f:RF)(as:List A):EM SW:=
 match n with
 |0=>EM.bind (emit f as) fun y=>EM.ret (.c (.a y))
 |n=>EM.bind (emitN n f as) fun y=>EM.ret (.av y)
def pU (P:Program)(σ:SS)(t:TypeId)(p:SC):EM SW:=
 match p with
 | .ptr b o=>match look σ.bl b with
  |some (.box cs)=>vq P t cs o
  |_=>fail
 | .ep b i o=>match look σ.bl b with
  |some (.lst l _ _ _)=>match cnt P t with
   |some n=>fb n (.elt o n) [l,i]
   |none=>fail
  |_=>fail
 | .tp l i o=>match cnt P t with
  |some n=>fb n (.elt o n) [l,i]
  |none=>fail
 |_=>fail
def gm (σ:SS):SC→EM (A×List Nat)
 | .a x=>EM.ret (x,[])
 | .pc x i=>EM.bind (emit (.cell i) [x]) fun y=>EM.ret (y,[])
 | .nil=>EM.ret (.c (.sl []),[])
 | .lsl b o n=>match look σ.bl b with
  |some (.lst l _ _ _)=>EM.bind (emit .sub [l,o,n]) fun y=>EM.ret (y,[b])
  |_=>fail
 |_=>fail
def deep0Ls (σ:SS):Nat→List SC→EM (List A×List Nat)
 |_,[]=>EM.ret ([],[])
 |0,_=>fail
 |k+1,c::cs=>
  match c with
  | .pc x i=>match gT x (i+1) cs with
   |0=>EM.bind (emit (.cell i) [x]) fun y=>EM.bind (deep0Ls σ k cs) fun q=>EM.ret (y::q.1,q.2)
   |n+1=>EM.bind (emitN (n+2) (.part i (n+2)) [x]) fun y=>EM.bind (deep0Ls σ k (cs.drop (n+1))) fun q=>EM.ret (y::q.1,q.2)
  |c=>EM.bind (gm σ c) fun p=>EM.bind (deep0Ls σ k cs) fun q=>EM.ret (p.1::q.1,p.2++q.2)
def Or (σ:SS):List SC→EM (List A×List Nat)
 |[]=>EM.ret ([],[])
 |c::cs=>EM.bind (gm σ c) fun p=>EM.bind (Or σ cs) fun q=>EM.ret (p.1::q.1,p.2++q.2)
def pV (σ:SS):SW→EM (A×List Nat)
 | .agg cs=>EM.bind (deep0Ls σ cs.length cs) fun p=>EM.bind (emitN cs.length .agg p.1) fun y=>EM.ret (y,p.2)
 | .av x=>EM.ret (x,[])
 | .c x=>gm σ x
def mF (σ:SS):List SW→EM (List A×List Nat)
 |[]=>EM.ret ([],[])
 |w::ws=>EM.bind (pV σ w) fun p=>EM.bind (mF σ ws) fun q=>EM.ret (p.1::q.1,p.2++q.2)
def freezeB:SB→SB
 | .lst l n z _=> .lst l n z true
 |x=>x
def b7 (σ:SS):List Nat→SS
 |[]=>σ
 |b::bs=>match look σ.bl b with
  |some sb=>b7 {σ with bl:=put σ.bl b (freezeB sb)} bs
  |none=>b7 σ bs
def sg:Value→Option SC
 | .slice none 0 0=>some .nil
 |x=>if plain1 x then some (.a (.c (.v x))) else match x with
  | .map none| .pointer none| .nilFunc=>some .un
  |_=>none
def mG:List Value→Option (List SC)
 |[]=>some []
 |x::xs=>match sg x with
  |some c=>match mG xs with
   |some cs=>some (c::cs)
   |none=>none
  |none=>none
def yV (v:Value):Option SV:=
 match v with
 | .agg cs=>(mG cs.toList).map fun l=> .w (.agg l)
 |v=>(sg v).map fun c=> .w (.c c)
def sj (σ:SS):SV→SV
 | .w (.c (.a (.x i)))=>match look σ.fc i with
  |some p=> .w (.c (.a (.c p)))
  |none=> .w (.c (.a (.x i)))
 |v=>v
def opS (σ:SS):Operand→Option SV
 | .tmp t=>match look σ.tm t with
  |some v=>some (sj σ v)
  |none=>none
 | .const v=>yV v
 | .func g=>some (.w (.c (.fn g [] [])))
 | .global _=>none
def opW (σ:SS)(x:Operand):Option SW:=match opS σ x with
 |some (.w w)=>some w
 |_=>none
def opC (σ:SS)(x:Operand):Option SC:=match opW σ x with
 |some (.c c)=>some c
 |_=>none
def Ey (σ:SS):List Operand→Option (List SW)
 |[]=>some []
 |x::xs=>match opW σ x with
  |some w=>match Ey σ xs with
   |some ws=>some (w::ws)
   |none=>none
  |none=>none
def SS.new (σ:SS)(sb:SB):SS:={σ with bl:=put σ.bl σ.nb sb,nb:=σ.nb+1}
def SS.kill (σ:SS)(b:Nat):SS:={σ with bl:=del σ.bl b}
def mH (P:Program)(t:TypeId):Option (List SC):=match zeroT P t with
 |some z=>mG z.cells.toList
 |none=>none
def yW (P:Program)(σ:SS)(t:TypeId)(cs:List SC):EM (SV×SS):=
 match szT P t with
 |some n=>match Nat.beq cs.length n with
  |true=>EM.ret (.w (.c (.ptr σ.nb 0)),σ.new (.box cs))
  |false=>fail
 |none=>fail
def tG (cs:List SC)(o:Nat)(vs:List SC):List SC:=cs.take o++vs++cs.drop (o+vs.length)
def yX (P:Program)(t:TypeId)(w:SW):Option Nat:=
 match bv P t with
 |some true=>match w with
  | .c _=>none
  |_=>match szT P t with
   |some (n+1)=>some (n+1)
   |_=>none
 |some false=>match w with
  | .c _=>match szT P t with
   |some 1=>some 0
   |_=>none
  |_=>none
 |none=>none
def sk (P:Program)(σ:SS)(t:TypeId)(p:SC)(w:SW):EM SS:=
 match p with
 | .ptr b o=>match look σ.bl b with
  |some (.box cs)=>EM.bind (oW P t w) fun vs=>match Nat.ble 1 vs.length&& Nat.ble (o+vs.length) cs.length with
   |true=>EM.ret {σ with bl:=put σ.bl b (.box (tG cs o vs))}
   |false=>fail
  |_=>fail
 | .ep b i o=>match look σ.bl b with
  |some (.lst l nl z false)=>match yX P t w with
   |some n=>EM.bind (pV σ w) fun q=>match q.2.elem b with
    |true=>fail
    |false=>EM.bind (match n with
     |0=>EM.ret q.1
     |n=>iL n q.1) fun y=>EM.bind (emit (.set o) [l,i,y]) fun l'=>EM.ret {b7 σ q.2 with bl:=put (b7 σ q.2).bl b (.lst l' nl z false)}
   |none=>fail
  |_=>fail
 |_=>fail
def partTy (P:Program)(t:TypeId)(i:Nat):Option (TypeId×Nat):=
 match P.underlying t with
 |some (.struct fields)=>match fields[i]? with
  |some f=>some (f.type,f.offset)
  |none=>none
 |some (.array _ e)=>match szT P e with
  |some z=>some (e,i*z)
  |none=>none
 |_=>none
def sm (P:Program)(t:TypeId):List SC→List (Nat×SW)→EM (List SC)
 |cs,[]=>EM.ret cs
 |cs,(i,w)::r=>match partTy P t i with
  |some (ty,o)=>EM.bind (oW P ty w) fun vs=>match Nat.ble (o+vs.length) cs.length with
   |true=>sm P t (tG cs o vs) r
   |false=>fail
  |none=>fail
def pairsS (σ:SS):List (Nat×Operand)→Option (List (Nat×SW))
 |[]=>some []
 |(i,x)::r=>match opW σ x with
  |some w=>match pairsS σ r with
   |some l=>some ((i,w)::l)
   |none=>none
  |none=>none
def lU (P:Program)(σ:SS)(t:TypeId)(len:Nat)(ps:List (Nat×SW)):EM (SV×SS):=
 match P.underlying t with
 |some (.slice elem)=>match szT P elem with
  |some size=>match iK P elem with
   |some z=>match Nat.ble (len*size) 16777216&& Nat.ble 1 size&& Nat.beq z.length size with
    |true=>EM.bind (mF σ (ps.map (·.2))) fun q=>match len with
     |0=>match ps with
      |[]=>EM.ret (.w (.c .nil),σ)
      |_=>fail
     |_=>EM.bind (emit (.bs len z (ps.map (·.1))) q.1) fun l=>
      EM.ret (.w (.c (.lsl σ.nb (.c (.i64 0)) (.c (.i64 len)))),(b7 σ q.2).new (.lst l (.c (.i64 len)) size false))
    |false=>fail
   |none=>fail
  |none=>fail
 |_=>fail
def Lb:BinOp→Bool
 | .eql| .neq=>true
 |_=>false
def eqFs (rec:TypeId→Option (List Ck)):List Field→Nat→Option (List Ck)
 |[],_=>some []
 |f::fs,o=>match f.name != "_" && Nat.beq f.offset o with
  |true=>match rec f.type with
   |some k=>match eqFs rec fs (o+k.length) with
    |some r=>some (k++r)
    |none=>none
   |none=>none
  |false=>none
def eqTy (P:Program):Nat→TypeId→Option (List Ck)
 |0,_=>none
 |d+1,t=>match P.underlying t with
  |some .bool=>some [.b]
  |some (.int _)=>some [.i]
  |some .string=>some [.s]
  |some (.struct fields)=>match P.stoodInHeld t with
   |true=>none
   |false=>match eqFs (eqTy P d) fields.toList 0 with
    |some ks=>match szT P t with
     |some m=>match Nat.beq ks.length m with
      |true=>some ks
      |false=>none
     |none=>none
    |none=>none
  |_=>none
def tH (σ:SS)(w:SW):EM A:=EM.bind (pV σ w) fun q=>match q.2 with
 |[]=>EM.ret q.1
 |_=>fail
def yY (f:RF)(x y:SW):EM SV:=
 match x with
 | .c x=>match y with
  | .c y=>EM.bind (c8 x) fun a=>EM.bind (c8 y) fun b=>EM.bind (emit f [a,b]) fun r=>EM.ret (.w (.c (.a r)))
  |_=>fail
 |_=>fail
def Ji (P:Program)(σ:SS)(op:BinOp)(t:TypeId)(x y:SW):EM SV:=
 match P.underlying t with
 |some (.struct _)=>match Lb op&& Nat.ble 10 P.depth with
  |true=>match eqTy P 10 t with
   |some ks=>EM.bind (tH σ x) fun a=>EM.bind (tH σ y) fun b=>EM.bind (emit (.eqv ks) [a,b]) fun r=>match op with
    | .eql=>EM.ret (.w (.c (.a r)))
    |_=>EM.bind (emit (.un .not) [r]) fun r'=>EM.ret (.w (.c (.a r')))
   |none=>fail
  |false=>fail
 |some .bool=>yY (.bbin op) x y
 |some (.int _)=>yY (.bin op) x y
 |some .string=>yY (.bin op) x y
 |_=>fail
def Ez (P:Program)(op:BinOp)(t:TypeId)(y:Operand):Bool:=Lb op&& yU P t&&(match y with
 | .const (.slice none 0 0)=>true
 |_=>false)
def iM:BinOp→Bool
 | .neq=>true
 |_=>false
def Jj (σ:SS)(op:BinOp):SC→EM SV
 | .lsl b _ n=>match look σ.bl b with
  |some (.lst ..)=>EM.bind (emit (.bin .eql) [n,.c (.i64 0)]) fun r=>EM.ret (.w (.c (.ub r (iM op))))
  |_=>fail
 |c=>EM.bind (c8 c) fun a=>EM.bind (emit .len [a]) fun n=>EM.bind (emit (.bin .eql) [n,.c (.i64 0)]) fun r=>EM.ret (.w (.c (.ub r (iM op))))
def EA (P:Program)(src dst:TypeId)(x:SC):EM SW:=
 match P.underlying src with
 |some (.int _)=>match P.underlying dst with
  |some (.int k)=>EM.bind (c8 x) fun a=>EM.bind (emit (.conv k) [a]) fun r=>EM.ret (.c (.a r))
  |_=>fail
 |_=>fail
def yZ (P:Program)(t:TypeId)(w:SW)(i:Nat):EM SW:=
 match P.underlying t with
 |some (.struct fields)=>match fields[i]? with
  |some f=>match w with
   | .agg cs=>vq P f.type cs f.offset
   | .av x=>match cnt P f.type with
    |some 0=>EM.bind (sizeOf? x) fun k=>match k with
     |some m=>match Nat.ble (f.offset+1) m with
      |true=>sf P f.type (.pc x f.offset)
      |false=>fail
     |none=>EM.bind (emit (.cell f.offset) [x]) fun y=>EM.ret (.c (.a y))
    |some (n+1)=>fb (n+1) (.part f.offset (n+1)) [x]
    |none=>fail
   |_=>fail
  |none=>fail
 |_=>fail
def y7:List SC→EM (List A)
 |[]=>EM.ret []
 |x::ws=>EM.bind (c8 x) fun a=>EM.bind (y7 ws) fun as=>EM.ret (a::as)
def Lc:SW→EM A
 | .av x=>EM.ret x
 | .agg cs=>EM.bind (y7 cs) fun as=>emit .agg as
 |_=>fail
def y8 (P:Program)(σ:SS)(t:TypeId)(w:SW)(ix:SC):EM SW:=
 match P.underlying t with
 |some (.array len elem)=>match szT P elem with
  |some z=>match cnt P elem with
   |some n=>EM.bind (Lc w) fun a=>EM.bind (c8 ix) fun i=>fb n (.aix z len n) [a,i]
   |none=>fail
  |none=>fail
 |_=>fail
def iN:A→Bool
 | .c (.v (.int .i64 0))=>true
 |_=>false
def nJ (P:Program)(σ:SS)(t:TypeId)(x ix:SC):EM SC:=
 match P.underlying t with
 |some (.slice elem)=>match szT P elem with
  |some z=>match x with
   | .lsl b o n=>match look σ.bl b with
    |some (.lst _ _ z' _)=>match Nat.beq z z' with
     |true=>EM.bind (c8 ix) fun i=>EM.bind (emit .ix [i,n]) fun j=>match iN o with
      |true=>EM.ret (.ep b j 0)
      |false=>EM.bind (emit .sum [o,j]) fun j'=>EM.ret (.ep b j' 0)
     |false=>fail
    |_=>fail
   | .a l=>EM.bind (c8 ix) fun i=>EM.bind (emit (.tix z) [l,i]) fun j=>EM.ret (.tp l j 0)
   | .pc y k=>EM.bind (emit (.cell k) [y]) fun l=>EM.bind (c8 ix) fun i=>EM.bind (emit (.tix z) [l,i]) fun j=>EM.ret (.tp l j 0)
   |_=>fail
  |none=>fail
 |some (.array len elem)=>match szT P elem with
  |some z=>match x with
   | .ptr b o=>match ix with
    | .a (.c (.v (.int _ i)))=>match decide (0≤i∧i<len) with
     |true=>EM.ret (.ptr b (o+i.toNat*z))
     |false=>fail
    |_=>fail
   | .ep b k o=>match ix with
    | .a (.c (.v (.int _ i)))=>match decide (0≤i∧i<len) with
     |true=>EM.ret (.ep b k (o+i.toNat*z))
     |false=>fail
    |_=>fail
   | .tp l k o=>match ix with
    | .a (.c (.v (.int _ i)))=>match decide (0≤i∧i<len) with
     |true=>EM.ret (.tp l k (o+i.toNat*z))
     |false=>fail
    |_=>fail
   |_=>fail
  |none=>fail
 |_=>fail
def nK (P:Program)(t:TypeId)(x:SC)(i:Nat):EM SC:=
 match P.underlying t with
 |some (.struct fields)=>match fields[i]? with
  |some f=>match szT P f.type with
   |some (_+1)=>match x with
    | .ptr b o=>EM.ret (.ptr b (o+f.offset))
    | .ep b k o=>EM.ret (.ep b k (o+f.offset))
    | .tp l k o=>EM.ret (.tp l k (o+f.offset))
    |_=>fail
   |_=>fail
  |none=>fail
 |_=>fail
def y9 (σ:SS):Option Operand→Option (Option SC)
 |none=>some none
 |some x=>match opC σ x with
  |some c=>some (some c)
  |none=>none
def lV (d:A)(y:A):Option SC→EM A
 |none=>EM.ret d
 |some c=>EM.bind (c8 c) fun a=>emit .bnd [a,y]
def za (P:Program)(σ:SS)(t:TypeId)(x:SC)(lo hi:Option SC):EM SC:=
 match P.underlying t with
 |some (.slice elem)=>match szT P elem with
  |some z=>match x with
   | .nil=>EM.bind (lV (.c (.i64 0)) (.c (.i64 0)) hi) fun h=>EM.bind (lV (.c (.i64 0)) h lo) fun _=>EM.ret .nil
   | .lsl b o n=>match look σ.bl b with
    |some (.lst _ nl z' _)=>match Nat.beq z z'&& Nat.ble 1 z with
     |true=>EM.bind (lV n (if iN o then nl else n) hi) fun h=>match lo with
      |none=>EM.ret (.lsl b o h)
      |some _=>EM.bind (lV (.c (.i64 0)) h lo) fun l=>EM.bind (emit .sum [o,l]) fun o'=>EM.bind (emit .dif [h,l]) fun n'=>EM.ret (.lsl b o' n')
     |false=>fail
    |_=>fail
   |x=>EM.bind (c8 x) fun s=>EM.bind (emit .len [s]) fun n=>EM.bind (lV n n hi) fun h=>EM.bind (lV (.c (.i64 0)) h lo) fun l=>EM.bind (emit (.tsub z) [s,l,h]) fun r=>EM.ret (.a r)
  |none=>fail
 |_=>fail
def tI (P:Program)(σ:SS)(t:TypeId)(x:SC)(lo:Option SC)(hi mx:SC):EM SC:=
 match P.underlying t with
 |some (.slice elem)=>match szT P elem with
  |some z=>match x with
   | .lsl b o n=>match look σ.bl b with
    |some (.lst _ _ z' _)=>match Nat.beq z z'&& Nat.ble 1 z with
     |true=>EM.bind (lV n n (some mx)) fun m=>EM.bind (lV m m (some hi)) fun h=>EM.bind (lV (.c (.i64 0)) h lo) fun _=>EM.ret .un
     |false=>fail
    |_=>fail
   |_=>fail
  |none=>fail
 |_=>fail
def sn (σ:SS)(x:SC):EM A:=EM.bind (gm σ x) fun q=>EM.ret q.1
def tJ (P:Program)(σ:SS)(st xt:TypeId)(x y:SC):EM (SV×SS):=
 match P.underlying st with
 |some (.slice elem)=>match szT P elem with
  |some size=>match P.info? elem with
   |some info=>match iK P elem with
    |some z=>match Nat.ble 1 size&& Nat.ble (size+1) 65536&& Nat.beq z.length size&& Nat.ble 1 info.bytes&& yU P xt with
     |true=>EM.bind (sn σ y) fun ys=>match x with
      | .nil=>EM.bind (emit (.app info.bytes size) [.c (.sl []),.c (.i64 0),ys]) fun l=>EM.bind (emit .len [l]) fun n=>
       EM.ret (.w (.c (.lsl σ.nb (.c (.i64 0)) n)),σ.new (.lst l n size false))
      | .lsl b o n=>match look σ.bl b with
       |some (.lst l nl z' false)=>match iN o&& Nat.beq z' size with
        |true=>match A.eq n nl with
         |true=>EM.bind (emit (.app info.bytes size) [l,n,ys]) fun l'=>EM.bind (emit .len [l']) fun n'=>
          EM.ret (.w (.c (.lsl σ.nb (.c (.i64 0)) n')),(σ.kill b).new (.lst l' n' size false))
         |false=>EM.bind (emit (.appK info.bytes size) [l,n,ys]) fun l'=>EM.bind (emit .len [l']) fun nl'=>EM.bind (emit .len [ys]) fun k=>EM.bind (emit .sum [n,k]) fun n'=>
          EM.ret (.w (.c (.lsl σ.nb (.c (.i64 0)) n')),(σ.kill b).new (.lst l' nl' size false))
        |false=>fail
       |_=>fail
      |_=>fail
     |false=>fail
    |none=>fail
   |none=>fail
  |none=>fail
 |_=>fail
def Jk (P:Program)(σ:SS)(t:TypeId)(x:SW):EM SW:=
 match P.underlying t with
 |some (.array n _)=>EM.ret (.c (.a (.c (.i64 n))))
 |some (.slice _)=>match x with
  | .c .nil=>EM.ret (.c (.a (.c (.i64 0))))
  | .c (.lsl b _ n)=>match look σ.bl b with
   |some (.lst ..)=>EM.ret (.c (.a n))
   |_=>fail
  | .c (.a x)=>fb 0 .len [x]
  | .c (.pc x i)=>EM.bind (emit (.cell i) [x]) fun y=>fb 0 .len [y]
  |_=>fail
 |_=>fail
def jE (P:Program)(t:TypeId):Option TypeId:=match P.underlying t with
 |some (.slice e)=>some e
 |_=>none
def nL (P:Program)(σ:SS)(t:TypeId)(l c:SC):EM (SV×SS):=
 match jE P t with
 |some elem=>match P.info? elem with
  |some info=>match iK P elem with
   |some z=>match Nat.beq z.length info.size&& Nat.ble 1 info.size&& Nat.ble (info.size+1) 65536&& Nat.ble 1 info.bytes with
    |true=>EM.bind (c8 l) fun a=>EM.bind (c8 c) fun b=>EM.bind (emit (.rep z info.bytes) [a,b]) fun r=>EM.bind (emit .len [r]) fun n=>
     EM.ret (.w (.c (.lsl σ.nb (.c (.i64 0)) n)),σ.new (.lst r n info.size false))
    |false=>fail
   |none=>fail
  |none=>fail
 |none=>fail
def mmS (mx:Bool):List SW→EM SW
 |[.c x,.c y]=>EM.bind (c8 x) fun a=>EM.bind (c8 y) fun b=>EM.bind (emit (.mm mx) [a,b]) fun r=>EM.ret (.c (.a r))
 |[.c x,.c y,.c z]=>EM.bind (c8 x) fun a=>EM.bind (c8 y) fun b=>EM.bind (emit (.mm mx) [a,b]) fun r=>EM.bind (c8 z) fun c=>EM.bind (emit (.mm mx) [r,c]) fun q=>EM.ret (.c (.a q))
 |_=>fail
def zb (P:Program)(σ:SS)(t:TypeId)(x:SC):EM SS:=
 match jE P t with
 |some elem=>match iK P elem with
  |some z=>match x with
   | .nil=>EM.ret σ
   | .lsl b o n=>match look σ.bl b with
    |some (.lst l nl z' false)=>match Nat.beq z.length z' with
     |true=>EM.bind (emit (.clr z) [l,o,n]) fun l'=>EM.ret {σ with bl:=put σ.bl b (.lst l' nl z' false)}
     |false=>fail
    |_=>fail
   |_=>fail
  |none=>fail
 |none=>fail
def EB (P:Program)(σ:SS)(t:TypeId)(x y:SC):EM (SV×SS):=
 match jE P t with
 |some elem=>match szT P elem with
  |some size=>match x with
   | .lsl b o n=>match look σ.bl b with
    |some (.lst l nl z' false)=>match Nat.beq z' size with
     |true=>EM.bind (sn σ y) fun ys=>EM.bind (emit (.appK 0 size) [.c (.sl []),.c (.i64 0),ys]) fun ys'=>EM.bind (emit .len [ys']) fun m=>EM.bind (emit (.mm false) [n,m]) fun k=>EM.bind (emit .sub [ys',.c (.i64 0),k]) fun zs=>EM.bind (emit (.appK 0 size) [l,o,zs]) fun l'=>
      EM.ret (.w (.c (.a k)),{σ with bl:=put σ.bl b (.lst l' nl z' false)})
     |false=>fail
    |_=>fail
   |_=>fail
  |none=>fail
 |none=>fail
def builtinS (P:Program)(σ:SS)(b:Builtin)(ts:List TypeId)(args:List SW):EM (SV×SS):=
 match b with
 | .append=>match ts with
  |[st,xt]=>match args with
   |[.c x,.c y]=>tJ P σ st xt x y
   |_=>fail
  |_=>fail
 | .len=>match ts with
  |[t]=>match args with
   |[x]=>EM.bind (Jk P σ t x) fun r=>EM.ret (.w r,σ)
   |_=>fail
  |_=>fail
 | .max=>EM.bind (mmS true args) fun r=>EM.ret (.w r,σ)
 | .min=>EM.bind (mmS false args) fun r=>EM.ret (.w r,σ)
 | .clear=>match ts with
  |[t]=>match args with
   |[.c x]=>EM.bind (zb P σ t x) fun σ'=>EM.ret (.tup [],σ')
   |_=>fail
  |_=>fail
 | .copy=>match ts with
  |[t,_]=>match args with
   |[.c x,.c y]=>EB P σ t x y
   |_=>fail
  |_=>fail
 | .cap=>match ts with
  |[t]=>match jE P t with
   |some _=>match args with
    |[.c .nil]=>EM.ret (.w (.c (.a (.c (.i64 0)))),σ)
    |_=>fail
   |none=>fail
  |_=>fail
 |_=>fail
structure MT where
 kt:TypeId
 et:TypeId
 ks:List Ck
 z:List PV
 ka:Bool
 va:Bool
def zAgg (va:Bool):Value→Bool
 | .agg _=>va
 | .tuple _=>false
 |_=>!va
def so (P:Program)(t:TypeId):Option MT:=match P.underlying t with
 |some (.map kt et)=>match eqTy P 10 kt with
  |some ks=>match iK P et with
   |some z=>match bv P kt with
    |some ka=>match bv P et with
     |some va=>match Nat.ble 10 P.depth&& Nat.ble 1 ks.length&&(match va with|true=>Nat.ble 2 z.length|false=>Nat.beq z.length 1)&& zAgg va ((zeroT P et).getD (.tuple #[])) with
      |true=>some ⟨kt,et,ks,z,ka,va⟩
      |false=>none
     |none=>none
    |none=>none
   |none=>none
  |none=>none
 |_=>none
def bq:Bool→Bool→Bool
 |true,true=>true
 |false,false=>true
 |_,_=>false
def EC (σ:SS)(T:MT):SC→Option (Nat×A)
 | .mp b=>match look σ.bl b with
  |some (.map l ka nk va)=>match bq T.ka ka&& Nat.beq T.ks.length nk&& bq T.va va with
   |true=>some (b,l)
   |false=>none
  |_=>none
 |_=>none
def zc (σ:SS)(g:Bool)(w:SW):EM A:=match g with
 |false=>match w with
  | .c c=>c8 c
  |_=>fail
 |true=>match w with
  | .c _=>fail
  |w=>tH σ w
def tK (P:Program)(σ:SS)(t:TypeId)(x:SC)(k:SW)(ok:Bool):EM SV:=
 match so P t with
 |some T=>match EC σ T x with
  |some (_,l)=>EM.bind (zc σ T.ka k) fun a=>EM.bind (emit (.mget T.ks T.z) [l,a]) fun y=>match ok with
   |true=>EM.bind (emit (.mhas T.ks) [l,a]) fun h=>EM.ret (.tup [match T.va with|true=> .av y|false=> .c (.a y),.c (.a h)])
   |false=>EM.ret (.w (match T.va with|true=> .av y|false=> .c (.a y)))
  |none=>fail
 |none=>fail
def nM (P:Program)(σ:SS)(t:TypeId)(x:SC)(k v:SW):EM SS:=
 match so P t with
 |some T=>match EC σ T x with
  |some (b,l)=>EM.bind (zc σ T.ka k) fun a=>EM.bind (zc σ T.va v) fun c=>EM.bind (emit (.mset T.ks T.z.length) [l,a,c]) fun l'=>EM.ret {σ with bl:=put σ.bl b (.map l' T.ka T.ks.length T.va)}
  |none=>fail
 |none=>fail
def capS:SW→Option Cap
 | .c (.ptr b o)=>some (.ptr b o)
 | .c (.a x)=>some (.a x)
 |_=>none
def sq (σ:SS):List Operand→Option (List Cap)
 |[]=>some []
 |x::xs=>match opW σ x with
  |some w=>match capS w with
   |some c=>match sq σ xs with
    |some cs=>some (c::cs)
    |none=>none
   |none=>none
  |none=>none
def Cap.w:Cap→SW
 | .ptr b o=> .c (.ptr b o)
 | .a x=> .c (.a x)
inductive SR where
 |val (v:SV) (σ:SS)
 |call (g:FuncId) (args:List SW)
 deriving Inhabited
def oX (σ:SS)(x:EM SW):EM SR:=EM.bind x fun w=>EM.ret (.val (.w w) σ)
def oY (σ:SS)(x:EM SC):EM SR:=EM.bind x fun c=>EM.ret (.val (.w (.c c)) σ)
def qJ (x:EM (SV×SS)):EM SR:=EM.bind x fun p=>EM.ret (.val p.1 p.2)
def ED (P:Program)(g:FuncId):Bool:=match P.funcs[g]? with
 |some fn=>match fn.body with
  |some _=>false
  |none=>fn.name== "math/bits.Add64" && fn.origin== ""
 |none=>false
def opE (P:Program)(σ:SS)(op:Op):EM SR:=
 match op with
 | .move x| .assign x=>EM.bind (ofO (opS σ x)) fun v=>EM.ret (.val v σ)
 | .pick c a b=>EM.bind (ofO (opC σ c)) fun v=>match v with
  | .a (.c (.v (.bool t)))=>EM.bind (ofO (opS σ (if t then a else b))) fun v=>EM.ret (.val v σ)
  |_=>fail
 | .alloc t=>EM.bind (ofO (mH P t)) fun cs=>qJ (yW P σ t cs)
 | .box t x=>EM.bind (ofO (opW σ x)) fun w=>EM.bind (oW P t w) fun cs=>qJ (yW P σ t cs)
 | .build t ps=>EM.bind (ofO (mH P t)) fun z=>EM.bind (ofO (kr P t)) fun _=>EM.bind (ofO (pairsS σ ps.toList)) fun l=>EM.bind (sm P t z l) fun cs=>oX σ (kG cs)
 | .buildSlice t n ps=>EM.bind (ofO (pairsS σ ps.toList)) fun l=>qJ (lU P σ t n l)
 | .load t a=>EM.bind (ofO (opC σ a)) fun p=>oX σ (pU P σ t p)
 | .store t a x=>EM.bind (ofO (opC σ a)) fun p=>EM.bind (ofO (opW σ x)) fun w=>EM.bind (sk P σ t p w) fun σ'=>EM.ret (.val (.tup []) σ')
 | .nilCheck x=>EM.bind (ofO (opC σ x)) fun c=>match c with
  | .ptr b o=>EM.ret (.val (.w (.c (.ptr b o))) σ)
  | .fn g f cs=>EM.ret (.val (.w (.c (.fn g f cs))) σ)
  |_=>fail
 | .binOp op t x y _=>match Ez P op t y with
  |true=>EM.bind (ofO (opC σ x)) fun a=>EM.bind (Jj σ op a) fun v=>EM.ret (.val v σ)
  |false=>EM.bind (ofO (opW σ x)) fun a=>EM.bind (ofO (opW σ y)) fun b=>EM.bind (Ji P σ op t a b) fun v=>EM.ret (.val v σ)
 | .unOp op _ x=>EM.bind (ofO (opC σ x)) fun c=>oX σ (EM.bind (c8 c) fun a=>EM.bind (emit (.un op) [a]) fun r=>EM.ret (.c (.a r)))
 | .convert src dst x=>EM.bind (ofO (opC σ x)) fun c=>oX σ (EA P src dst c)
 | .lookup t x i ok=>EM.bind (ofO (opC σ x)) fun a=>EM.bind (ofO (opW σ i)) fun k=>EM.bind (tK P σ t a k ok) fun v=>EM.ret (.val v σ)
 | .mapUpdate t x k v| .insert t x k v=>EM.bind (ofO (opC σ x)) fun a=>EM.bind (ofO (opW σ k)) fun k=>EM.bind (ofO (opW σ v)) fun v=>EM.bind (nM P σ t a k v) fun σ'=>EM.ret (.val (.tup []) σ')
 | .makeMap t none=>match so P t with
  |some T=>EM.ret (.val (.w (.c (.mp σ.nb))) (σ.new (.map (.c (.sl [])) T.ka T.ks.length T.va)))
  |none=>fail
 | .makeFunc (.func g) a c=>EM.bind (ofO (sq σ a.toList)) fun f=>EM.bind (ofO (sq σ c.toList)) fun cs=>EM.ret (.val (.w (.c (.fn g f cs))) σ)
 | .makeSlice t l c=>EM.bind (ofO (opC σ l)) fun a=>EM.bind (ofO (opC σ c)) fun b=>qJ (nL P σ t a b)
 | .slice t x lo hi none=>EM.bind (ofO (opC σ x)) fun a=>EM.bind (ofO (y9 σ lo)) fun l=>EM.bind (ofO (y9 σ hi)) fun h=>oY σ (za P σ t a l h)
 | .slice t x lo (some hi) (some mx)=>EM.bind (ofO (opC σ x)) fun a=>EM.bind (ofO (y9 σ lo)) fun l=>EM.bind (ofO (opC σ hi)) fun h=>EM.bind (ofO (opC σ mx)) fun m=>oY σ (tI P σ t a l h m)
 | .fieldAddr t x i=>EM.bind (ofO (opC σ x)) fun a=>oY σ (nK P t a i)
 | .field t x i=>EM.bind (ofO (opW σ x)) fun a=>oX σ (yZ P t a i)
 | .indexAddr t x i=>EM.bind (ofO (opC σ x)) fun a=>EM.bind (ofO (opC σ i)) fun b=>oY σ (nJ P σ t a b)
 | .index t x i=>EM.bind (ofO (opW σ x)) fun a=>EM.bind (ofO (opC σ i)) fun b=>oX σ (y8 P σ t a b)
 | .extract x i=>EM.bind (ofO (opS σ x)) fun v=>match v with
  | .tup ws=>EM.bind (ofO ws[i]?) fun w=>EM.ret (.val (.w w) σ)
  |_=>fail
 | .call c=>EM.bind (ofO (Ey σ c.args.toList)) fun args=>match c.callee with
  | .builtin b=>qJ (builtinS P σ b c.argTypes.toList args)
  | .value x=>EM.bind (ofO (opC σ x)) fun f=>match f with
   | .fn g a cs=>match ED P g with
    |true=>match a,cs,args with
     |[],[],[.c x,.c y,.c z]=>EM.bind (c8 x) fun x=>EM.bind (c8 y) fun y=>EM.bind (c8 z) fun z=>EM.bind (emit .add64 [x,y,z]) fun r=>EM.ret (.val (.tup [.c (.pc r 0),.c (.pc r 1)]) σ)
     |_,_,_=>fail
    |false=>EM.ret (.call g (a.map Cap.w++args++cs.map Cap.w))
   |_=>fail
  |_=>fail
 |_=>fail
abbrev Slot:=Option Nat
inductive LK where
 |lst (z:Nat)
 |map (ka:Bool) (nk:Nat) (va:Bool)
 |pre (z:Nat)
def LK.b:LK→LK
 | .pre z=> .lst z
 |k=>k
def LK.plain:LK→Bool
 | .pre _=>false
 |_=>true
structure Ld where
 i:Nat
 c:Nat
 k:LK
 gv:Bool:=false
def EE (c:Nat):SW→Option (SC×SW)
 | .c x=>match c with
  |0=>some (x,.c .nil)
  |_=>none
 | .agg cs=>match cs[c]? with
  |some x=>some (x,.agg (cs.set c .nil))
  |none=>none
 | .av _=>none
def lendWs (c:Nat):Nat→List SW→Option (SC×List SW)
 |_,[]=>none
 |0,w::ws=>match EE c w with
  |some (x,w')=>some (x,w'::ws)
  |none=>none
 |i+1,w::ws=>match lendWs c i ws with
  |some (x,ws')=>some (x,w::ws')
  |none=>none
def EF (σ:SS)(k:LK):SC→Option (Nat×SB×A×A)
 | .lsl b o n=>match look σ.bl b with
  |some (.lst l nl z false)=>match k with
   | .lst z'=>match iN o&& A.eq n nl&& Nat.beq z z' with
    |true=>some (b,.lst l nl z false,l,n)
    |false=>none
   | .pre z'=>match iN o&& Nat.beq z z' with
    |true=>some (b,.lst l nl z false,l,n)
    |false=>none
   |_=>none
  |_=>none
 | .mp b=>match look σ.bl b with
  |some (.map l ka nk va)=>match k with
   | .map ka' nk' va'=>match bq ka ka'&& Nat.beq nk nk'&& bq va va' with
    |true=>some (b,.map l ka nk va,l,.x 0)
    |false=>none
   |_=>none
  |_=>none
 |_=>none
def Lf (k:LK)(l n:A):EM A:=match k with
 | .pre _=>emit .sub [l,.c (.i64 0),n]
 |_=>EM.ret l
def Lg (k:LK)(l y:A):EM A:=match k with
 | .pre z=>emit (.appK 0 z) [l,.c (.i64 0),y]
 |_=>EM.ret y
def kb:SB→A→SB
 | .lst _ n z f,y=> .lst y n z f
 | .map _ a n v,y=> .map y a n v
 |x,_=>x
def SS.lent (σ:SS)(b:Nat)(sb:SB):SS:={σ with bl:=put σ.bl b sb}
def SS.back (σ:SS)(gv:Bool)(b:Nat)(sb:SB):SS:=match gv with
 |true=>σ.kill b
 |false=>σ.lent b sb
def Lh (σ:SS)(k:LK)(nl:A):Option A:=match look σ.bl 0 with
 |some (.lst l n z false)=>match k with
  | .lst z'=>match A.eq n nl&& Nat.beq z z' with
   |true=>some l
   |false=>none
  |_=>none
 |some (.map l ka nk va)=>match k with
  | .map ka' nk' va'=>match bq ka ka'&& Nat.beq nk nk'&& bq va va' with
   |true=>some l
   |false=>none
  |_=>none
 |_=>none
structure Dcf where
 P:Program
 inl:FuncId→Bool
 slots:FuncId→List (List Slot)
 lend:FuncId→Option Ld:=fun _=>none
def Dcf.na (D:Dcf)(g:FuncId)(fn:Func):Nat:=fn.params.size+match D.lend g with
 |some _=>1
 |none=>0
def Dcf.nr (D:Dcf)(g:FuncId)(fn:Func):Nat:=fn.resultTypes.size+match D.lend g with
 |some _=>1
 |none=>0
def zd (σ:SS)(z:Nat)(c:A):EM (SC×SS):=EM.bind (emit .len [c]) fun n=>EM.ret (.lsl σ.nb (.c (.i64 0)) n,σ.new (.lst c n z false))
def pX (σ:SS)(y:A):Nat→List Slot→EM (List SC×SS)
 |_,[]=>EM.ret ([],σ)
 |i,some z::ts=>EM.bind (emit (.cell i) [y]) fun c=>EM.bind (zd σ z c) fun p=>EM.bind (pX p.2 y (i+1) ts) fun q=>EM.ret (p.1::q.1,q.2)
 |i,none::ts=>EM.bind (pX σ y (i+1) ts) fun q=>EM.ret (.pc y i::q.1,q.2)
def resW (P:Program)(σ:SS)(t:TypeId)(ts:List Slot)(y:A):EM (SW×SS):=
 match bv P t with
 |some true=>match ts with
  |[]=>EM.ret (.av y,σ)
  |ts=>EM.bind (iL ts.length y) fun y'=>EM.bind (pX σ y' 0 ts) fun p=>EM.ret (.agg p.1,p.2)
 |some false=>match ts with
  |[]=>EM.ret (.c (.a y),σ)
  |[some z]=>EM.bind (zd σ z y) fun p=>EM.ret (.c p.1,p.2)
  |_=>fail
 |none=>fail
def pY (P:Program)(σ:SS):List TypeId→List (List Slot)→Nat→EM (List SW×SS)
 |[],_,_=>EM.ret ([],σ)
 |t::tys,ts,y=>EM.bind (resW P σ t (ts.headD []) (.x y)) fun p=>EM.bind (pY P p.2 tys ts.tail (y+1)) fun q=>EM.ret (p.1::q.1,q.2)
def nN:List SW→SV
 |[w]=> .w w
 |ws=> .tup ws
def nO (P:Program)(σ:SS):List ResultVar→EM (List SW)
 |[]=>EM.ret []
 | .tmp t::rs=>EM.bind (ofO (opW σ (.tmp t))) fun w=>EM.bind (nO P σ rs) fun l=>EM.ret (w::l)
 | .cell a t::rs=>EM.bind (ofO (opC σ (.tmp a))) fun p=>EM.bind (pU P σ t p) fun w=>EM.bind (nO P σ rs) fun l=>EM.ret (w::l)
def ze (σ:SS):Slot→SC→EM (A×List Nat×List Nat)
 |none,c=>EM.bind (gm σ c) fun q=>EM.ret (q.1,q.2,[])
 |some z,c=>match c with
  | .nil=>match Nat.ble 1 z with
   |true=>EM.ret (.c (.sl []),[],[])
   |false=>fail
  | .lsl b o n=>match look σ.bl b with
   |some (.lst l _ z' false)=>match iN o&& Nat.beq z z' with
    |true=>EM.bind (emit .sub [l,o,n]) fun y=>EM.ret (y,[],[b])
    |false=>fail
   |_=>fail
  |_=>fail
def vr (σ:SS):List Slot→List SC→EM (List A×List Nat×List Nat)
 |[],[]=>EM.ret ([],[],[])
 |s::ss,c::cs=>EM.bind (ze σ s c) fun p=>EM.bind (vr σ ss cs) fun q=>EM.ret (p.1::q.1,p.2.1++q.2.1,p.2.2++q.2.2)
 |_,_=>fail
def Jl (P:Program)(σ:SS)(t:TypeId)(ts:List Slot)(w:SW):EM (A×List Nat×List Nat):=
 match bv P t with
 |some true=>match w with
  | .c _=>fail
  | .av x=>match ts with
   |[]=>EM.ret (x,[],[])
   |_=>fail
  | .agg cs=>match ts with
   |[]=>EM.bind (pV σ (.agg cs)) fun q=>EM.ret (q.1,q.2,[])
   |ts=>EM.bind (vr σ ts cs) fun q=>EM.bind (emit .agg q.1) fun y=>EM.ret (y,q.2)
 |some false=>match w with
  | .c c=>match ts with
   |[]=>ze σ none c
   |[s]=>ze σ s c
   |_=>fail
  |_=>fail
 |none=>fail
def vt (P:Program)(σ:SS):List TypeId→List (List Slot)→List SW→EM (List A×List Nat×List Nat)
 |[],_,[]=>EM.ret ([],[],[])
 |t::tys,ts,w::ws=>EM.bind (Jl P σ t (ts.headD []) w) fun p=>EM.bind (vt P σ tys ts.tail ws) fun q=>EM.ret (p.1::q.1,p.2.1++q.2.1,p.2.2++q.2.2)
 |_,_,_=>fail
def sy:List Nat→Bool
 |[]=>true
 |b::bs=>!bs.elem b&& sy bs
structure Fn where
 res:List ResultVar
 tys:List TypeId
 slots:List (List Slot)
 ld:Option (LK×A):=none
 gv:Bool:=false
def Fn.lo (F:Fn):Nat:=match F.ld with
 |some _=>1
 |none=>0
def zf (P:Program)(F:Fn)(σ:SS):EM (List A):=
 EM.bind (nO P σ F.res) fun ws=>EM.bind (vt P σ F.tys F.slots ws) fun q=>match sy q.2.2&& q.2.2.all (fun b=>!q.2.1.elem b) with
  |true=>match F.ld with
   |none=>EM.ret q.1
   |some (k,nl)=>match F.gv with
    |true=>EM.ret (q.1++[.c (.sl [])])
    |false=>match q.2.1.elem 0||q.2.2.elem 0 with
     |true=>fail
     |false=>match Lh σ k nl with
      |some l=>EM.ret (q.1++[l])
      |none=>fail
  |false=>fail
structure Tm where
 p:Nat
 tm:List (Nat×SV)
 bl:List (Nat×SB)
 nb:Nat
 deriving Inhabited
def Tm.st (T:Tm)(σ:SS):SS:={σ with tm:=T.tm,bl:=T.bl,nb:=T.nb}
structure Mt where
 as:List (Nat×A)
 rn:List (Nat×Option Nat)
 deriving Inhabited
def mA (m:Nat)(s:Mt)(t a:A):Option Mt:=
 match t with
 | .x i=>match Nat.ble m i with
  |true=>match look s.as i with
   |none=>some ⟨(i,a)::s.as,s.rn⟩
   |some b=>match A.eq a b with
    |true=>some s
    |false=>none
  |false=>match A.eq t a with
   |true=>some s
   |false=>none
 | .c _=>match A.eq t a with
  |true=>some s
  |false=>none
def oEq:Option Nat→Option Nat→Bool
 |none,none=>true
 |some a,some b=>Nat.beq a b
 |_,_=>false
def mB (s:Mt)(t:Nat)(b:Option Nat):Option Mt:=
 match look s.rn t with
 |some c=>match oEq b c with
  |true=>some s
  |false=>none
 |none=>some ⟨s.as,(t,b)::s.rn⟩
def Jm (m:Nat)(s:Mt):Cap→Cap→Option Mt
 | .ptr t o,.ptr b o'=>match Nat.beq o o' with
  |true=>mB s t (some b)
  |false=>none
 | .a t,.a a=>mA m s t a
 |_,_=>none
def sA (m:Nat)(s:Mt):List Cap→List Cap→Option Mt
 |[],[]=>some s
 |t::ts,c::cs=>match Jm m s t c with
  |some s=>sA m s ts cs
  |none=>none
 |_,_=>none
def mC (m:Nat)(s:Mt)(t c:SC):EM Mt:=
 match t with
 | .a ta=>EM.bind (c8 c) fun a=>ofO (mA m s ta a)
 | .pc tx i=>match c with
  | .pc x j=>match Nat.beq i j with
   |true=>ofO (mA m s tx x)
   |false=>fail
  |_=>fail
 | .nil=>match c with
  | .nil=>EM.ret s
  |_=>fail
 | .un=>EM.ret s
 | .ub .. =>fail
 | .ptr t o=>match c with
  | .ptr b o'=>match Nat.beq o o' with
   |true=>ofO (mB s t (some b))
   |false=>fail
  |_=>fail
 | .ep t i o=>match c with
  | .ep b j o'=>match Nat.beq o o' with
   |true=>match mB s t (some b) with
    |some s=>ofO (mA m s i j)
    |none=>fail
   |false=>fail
  |_=>fail
 | .tp l i o=>match c with
  | .tp k j o'=>match Nat.beq o o' with
   |true=>match mA m s l k with
    |some s=>ofO (mA m s i j)
    |none=>fail
   |false=>fail
  |_=>fail
 | .lsl t o n=>match c with
  | .lsl b o' n'=>match mB s t (some b) with
   |some s=>match mA m s o o' with
    |some s=>ofO (mA m s n n')
    |none=>fail
   |none=>fail
  | .nil=>match mB s t none with
   |some s=>match mA m s o (.c (.i64 0)) with
    |some s=>ofO (mA m s n (.c (.i64 0)))
    |none=>fail
   |none=>fail
  |_=>fail
 | .mp t=>match c with
  | .mp b=>ofO (mB s t (some b))
  |_=>fail
 | .fn g f cs=>match c with
  | .fn g' f' cs'=>match Nat.beq g g' with
   |true=>match sA m s f f' with
    |some s=>ofO (sA m s cs cs')
    |none=>fail
   |false=>fail
  |_=>fail
def mCs (m:Nat)(s:Mt):List SC→List SC→EM Mt
 |[],[]=>EM.ret s
 |t::ts,c::cs=>EM.bind (mC m s t c) fun s=>mCs m s ts cs
 |_,_=>fail
def mW (m:Nat)(σ:SS)(s:Mt)(t w:SW):EM Mt:=
 match t with
 | .av ta=>match w with
  | .agg cs=>EM.bind (tH σ (.agg cs)) fun a=>ofO (mA m s ta a)
  | .av a=>ofO (mA m s ta a)
  |_=>fail
 | .c t=>match w with
  | .c c=>mC m s t c
  |_=>fail
 | .agg ts=>match w with
  | .agg cs=>mCs m s ts cs
  | .av x=>EM.bind (iL ts.length x) fun y=>mCs m s ts (pcs y 0 ts.length)
  |_=>fail
def mWs (m:Nat)(σ:SS)(s:Mt):List SW→List SW→EM Mt
 |[],[]=>EM.ret s
 |t::ts,w::ws=>EM.bind (mW m σ s t w) fun s=>mWs m σ s ts ws
 |_,_=>fail
def mV (m:Nat)(σ:SS)(s:Mt)(t v:SV):EM Mt:=
 match t with
 | .w t=>match v with
  | .w w=>mW m σ s t w
  |_=>fail
 | .tup ts=>match v with
  | .tup ws=>mWs m σ s ts ws
  |_=>fail
def mTm (m:Nat)(σ:SS)(s:Mt):List (Nat×SV)→EM Mt
 |[]=>EM.ret s
 |(t,v)::r=>match look σ.tm t with
  |some u=>EM.bind (mV m σ s v u) fun s=>mTm m σ s r
  |none=>fail
def bEq:Bool→Bool→Bool
 |true,true=>true
 |false,false=>true
 |_,_=>false
def mBl (m:Nat)(σ:SS)(s:Mt):List (Nat×SB)→EM Mt
 |[]=>EM.ret s
 |(t,tb)::r=>match look s.rn t with
  |some (some b)=>match look σ.bl b with
   |some sb=>match tb,sb with
    | .box ts,.box cs=>EM.bind (mCs m s ts cs) fun s=>mBl m σ s r
    | .lst tl tn z fz,.lst l n z' fz'=>match Nat.beq z z'&& bEq fz fz' with
     |true=>match mA m s tl l with
      |some s=>match mA m s tn n with
       |some s=>mBl m σ s r
       |none=>fail
      |none=>fail
     |false=>fail
    | .map tl ka nk va,.map l ka' nk' va'=>match bq ka ka'&& Nat.beq nk nk'&& bq va va' with
     |true=>match mA m s tl l with
      |some s=>mBl m σ s r
      |none=>fail
     |false=>fail
    |_,_=>fail
   |none=>fail
  |some none=>match tb with
   | .lst tl tn z false=>match Nat.ble 1 z with
    |true=>match mA m s tl (.c (.sl [])) with
     |some s=>match mA m s tn (.c (.i64 0)) with
      |some s=>mBl m σ s r
      |none=>fail
     |none=>fail
    |false=>fail
   |_=>fail
  |none=>fail
def vu (s:Mt)(m:Nat):Nat→Option (List A)
 |0=>some []
 |n+1=>match vu s m n with
  |some l=>match look s.as (m+n) with
   |some a=>some (l++[a])
   |none=>none
  |none=>none
def RJ (T:Tm)(lo:Nat)(rn:List (Nat×Option Nat)):Bool:=Nat.ble lo T.nb&& rn.all fun p=>Nat.ble (p.1+1) T.nb&&(Nat.ble lo p.1||oEq p.2 (some p.1))
def rnInj:List (Nat×Option Nat)→Bool
 |[]=>true
 |(_,none)::r=>rnInj r
 |(_,some b)::r=>!r.any (fun p=>oEq p.2 (some b))&& rnInj r
def abw (lo:Nat)(bl:List (Nat×SB)):List (Nat×Option Nat):=bl.filterMap fun p=>match Nat.ble (p.1+1) lo with|true=>some (p.1,some p.1)|false=>none
def Td (lo:Nat)(σ:SS)(bl:List (Nat×SB)):Bool:=bl.all fun p=>Nat.ble lo p.1||(match p.2 with
 | .lst _ n _ _=>match look σ.bl p.1 with
  |some (.lst _ n' _ _)=>A.eq n n'
  |_=>false
 |_=>true)
def oZ (m lo:Nat)(T:Tm)(σ:SS):EM (List A):=
 EM.bind (mTm m σ ⟨[],abw lo T.bl⟩ T.tm) fun s=>EM.bind (mBl m σ s T.bl) fun s=>match RJ T lo s.rn&& rnInj s.rn&& s.as.all (fun p=>Nat.ble (p.1+1) (m+T.p))&& T.bl.all (fun p=>Nat.ble (p.1+1) T.nb)&& Td lo σ T.bl with
  |true=>ofO (vu s m T.p)
  |false=>fail
inductive AExit where
 |normal
 |exit (id:Nat)
 |ret
inductive SF where
 |seq (c:Code)
 |tl (ops:Array Oper) (rest:List Oper)
 |block (id:Nat)
 |J (j m:Nat) (T:Tm)
 |inl (nb n:Nat) (tm:List (Nat×SV)) (dst:Option Tmp) (ops:Array Oper) (rest:List Oper) (res:List ResultVar)
def loK (n:Nat):List SF→Nat
 |[]=>n
 | .inl nb .. ::_=>nb
 |_::κ=>loK n κ
structure FP where
 F:List Nat
 W:List Nat
inductive Tk where
 |code (c:Code)
 |pop (e:AExit)
 |ops (ops:Array Oper) (rest:List Oper)
 |dops (ops:Array Oper) (rest:List Oper) (fs:List FP)
inductive Hint where
 |no
 |j (f:SS→Tm)
 deriving Inhabited
def sB {α:Type}(ch l:List (Nat×α)):List Nat→List (Nat×α)
 |[]=>[]
 |t::r=>match look ch t with
  |some v=>(t,v)::sB ch l r
  |none=>match look l t with
   |some v=>(t,v)::sB ch l r
   |none=>sB ch l r
def mkT (p nb:Nat)(ts:List Nat)(ch:List (Nat×SV))(bs:List Nat)(cb:List (Nat×SB))(σ:SS):Tm:=⟨p,sB ch σ.tm ts,sB cb σ.bl bs,nb⟩
def lets:List (RF×List A)→K→K
 |[],k=>k
 |(f,as)::r,k=> .lt f as (lets r k)
def hY (ops:Array Oper):Bool:=ops.toList.any fun o=>o.guard.isSome
def SS.setT (σ:SS)(dst:Option Tmp)(v:SV):Option SS:=
 match dst with
 |none=>some σ
 |some t=>match Nat.ble (t+1) σ.n with
  |true=>some {σ with tm:=put σ.tm t v}
  |false=>none
inductive Gd where
 |go (b:Bool)
 |ask (i:Nat)
def kH (ops:Array Oper)(σ:SS)(o:Oper):Option Gd:=
 match o.guard with
 |none=>some (.go true)
 |some (j,want)=>match(ops[j]?).bind (·.dst) with
  |none=>none
  |some t=>match opS σ (.tmp t) with
   |some (.w (.c (.a (.c (.v (.bool b))))))=>some (.go (b==want))
   |some (.w (.c (.a (.x i))))=>some (.ask i)
   |some (.tup [])=>some (.go false)
   |_=>none
structure Ores where
 pre:Lets
 cal:Option (FuncId×List A×Lets)
 sv:SV
 σ:SS
 m:Nat
def Ores.k (r:Ores)(k:K):K:=lets r.pre (match r.cal with
 |none=>k
 |some (g,as,l)=> .call g as (lets l k))
def EG (P:Program)(g:FuncId):Bool:=match P.funcs[g]? with
 |some fn=>fn.body.isSome&&(fn.name== "runtime.NumGoroutine")==false
 |none=>false
def SS.wz (σ0 σ:SS)(z:Szs):SS:={σ with n:=σ0.n,tm:=σ0.tm,sz:=z}
def EH (P:Program):List TypeId→Nat→EM (List SW)
 |[],_=>EM.ret []
 |t::ts,y=>EM.bind (emit .flat [.x y]) fun a=>EM.bind (EH P ts (y+1)) fun r=>match bv P t with
  |some true=>EM.ret (.av a::r)
  |some false=>EM.ret (.c (.a a)::r)
  |none=>fail
def thaw (D:Dcf)(σ:SS)(g:FuncId)(fn:Func)(bs:List Nat):Bool:=
 bs.any (fun b=>match look σ.bl b with
  |some (.lst _ _ _ false)=>true
  |_=>false)&& fn.resultTypes.toList.all (fun t=>(eqTy D.P 10 t).isSome)&&(D.slots g).all (·.isEmpty)
def sC (P:Program):List TypeId→List (List Slot)→Nat→EM Unit
 |[],_,_=>EM.ret ()
 |t::ts,ss,y=>match ss.headD [] with
  |[]=>EM.bind (emit .flat [.x y]) fun _=>sC P ts ss.tail (y+1)
  |[some _]=>match bv P t with
   |some false=>EM.bind (emit .flatL [.x y]) fun _=>sC P ts ss.tail (y+1)
   |_=>fail
  |_=>fail
def HU (P:Program):List TypeId→List (List Slot)→Bool
 |[],_=>true
 |t::ts,ss=>HU P ts ss.tail&& match ss.headD [] with
  |[]=>(eqTy P 10 t).isSome
  |[some _]=>match P.underlying t with
   |some (.slice e)=>(eqTy P 10 e).isSome
   |_=>false
  |_=>false
def Te (D:Dcf)(σ:SS)(g:FuncId)(fn:Func)(bs:List Nat):Bool:=
 bs.any (fun b=>match look σ.bl b with
  |some (.lst _ _ _ false)=>true
  |_=>false)&& HU D.P fn.resultTypes.toList (D.slots g)
def iO (D:Dcf)(σ:SS)(op:Op)(m:Nat):Option Ores:=
 match opE D.P σ op m σ.sz with
 |some (.val sv σ',l,z)=>some ⟨l,none,sv,σ.wz σ' (z++σ.sz),m+l.length⟩
 |some (.call g args,l,z)=>match D.inl g||!EG D.P g with
  |true=>none
  |false=>match D.lend g with
  |some ld=>match lendWs ld.c ld.i args with
   |some (x,args')=>match EF σ ld.k x with
    |some (b,sb,l0,n0)=>match mF σ args' (m+l.length) (z++σ.sz) with
     |some ((as,bs),l2,z2)=>match bs.elem b with
      |true=>none
      |false=>match D.P.funcs[g]? with
       |some fn=>match Lf ld.k l0 n0 (m+l.length+l2.length) (z2++(z++σ.sz)) with
        |some (lc,lp,zp)=>match Lg ld.k l0 (.x (m+(l++l2++lp).length+fn.resultTypes.size)) (m+(l++l2++lp).length+(fn.resultTypes.size+1)) (zp++(z2++(z++σ.sz))) with
         |some (ld',lq,zq)=>match pY D.P ((b7 σ bs).back ld.gv b (kb sb ld')) fn.resultTypes.toList (D.slots g) (m+(l++l2++lp).length) (m+(l++l2++lp).length+(fn.resultTypes.size+1)+lq.length) (zq++(zp++(z2++(z++σ.sz)))) with
          |some ((ws,σ'),l3,z3)=>some ⟨l++l2++lp,some (g,as++[lc],lq++l3),nN ws,σ.wz σ' (z3++(zq++(zp++(z2++(z++σ.sz))))),m+(l++l2++lp).length+(fn.resultTypes.size+1)+(lq++l3).length⟩
          |none=>none
         |none=>none
        |none=>none
       |none=>none
     |none=>none
    |none=>none
   |none=>none
  |none=>match mF σ args (m+l.length) (z++σ.sz) with
   |some ((as,bs),l2,z2)=>match D.P.funcs[g]? with
    |some fn=>match thaw D σ g fn bs with
     |true=>match EH D.P fn.resultTypes.toList (m+l.length+l2.length) (m+l.length+l2.length+fn.resultTypes.size) (z2++(z++σ.sz)) with
      |some (ws,l3,z3)=>some ⟨l++l2,some (g,as,l3),nN ws,σ.wz σ (z3++(z2++(z++σ.sz))),m+l.length+l2.length+fn.resultTypes.size+l3.length⟩
      |none=>none
     |false=>match Te D σ g fn bs with
      |true=>match sC D.P fn.resultTypes.toList (D.slots g) (m+l.length+l2.length) (m+l.length+l2.length+fn.resultTypes.size) (z2++(z++σ.sz)) with
       |some (_,lq,zq)=>match pY D.P σ fn.resultTypes.toList (D.slots g) (m+l.length+l2.length) (m+l.length+l2.length+fn.resultTypes.size+lq.length) (zq++(z2++(z++σ.sz))) with
        |some ((ws,σ'),l3,z3)=>some ⟨l++l2,some (g,as,lq++l3),nN ws,σ.wz σ' (z3++(zq++(z2++(z++σ.sz)))),m+l.length+l2.length+fn.resultTypes.size+(lq++l3).length⟩
        |none=>none
       |none=>none
      |false=>match pY D.P (b7 σ bs) fn.resultTypes.toList (D.slots g) (m+l.length+l2.length) (m+l.length+l2.length+fn.resultTypes.size) (z2++(z++σ.sz)) with
       |some ((ws,σ'),l3,z3)=>some ⟨l++l2,some (g,as,l3),nN ws,σ.wz σ' (z3++(z2++(z++σ.sz))),m+l.length+l2.length+fn.resultTypes.size+l3.length⟩
       |none=>none
    |none=>none
   |none=>none
 |none=>none
def bfr (B:Array Nat)(i j:Nat):Bool:=(B.getD j 0).testBit i
def o7 (ops:Array Oper)(k:Nat):Bool:=(List.range ops.size).all fun i=>Nat.blt i k||(List.range i).all fun j=>bfr (Region.before ops) j i
def namesOf (ops:Array Oper)(o:Oper):List Tmp:=o.dst.toList++Oper.looksAt ops o
def HV (ops:Array Oper)(B:Array Nat):Bool:=
 let l:=ops.toList.zipIdx
 l.all fun(o,j)=>l.all fun(o',i)=>i==j||(match o'.dst with
  |none=>true
  |some d=>!(namesOf ops o).contains d||bfr B (min i j) (max i j))
def edgesOk (ops:Array Oper):Bool:=ops.toList.zipIdx.all fun(o,i)=>o.after.all fun e=>!Region.binds .any e||decide (e.on<i)
def hZ (ops:Array Oper)(B:Array Nat):Bool:=edgesOk ops&& HV ops B&& Region.noSelect ops
def Li:Cap→List Nat
 | .ptr b _=>[b]
 | .a _=>[]
def nmC:SC→List Nat
 | .ptr b _| .ep b _ _| .lsl b _ _| .mp b=>[b]
 | .fn _ f c=>f.flatMap Li++c.flatMap Li
 |_=>[]
def nmW:SW→List Nat
 | .c x=>nmC x
 | .av _=>[]
 | .agg cs=>cs.flatMap nmC
def nmV:SV→List Nat
 | .w w=>nmW w
 | .tup ws=>ws.flatMap nmW
def nmO (σ:SS):Operand→List Nat
 | .tmp t=>match look σ.tm t with
  |some v=>nmV v
  |none=>[]
 |_=>[]
def opNames (σ:SS)(op:Op):List Nat:=match op with
 | .fieldAddr .. | .field .. | .move _| .assign _| .extract .. =>[]
 | .store _ p _=>match opC σ p with
  |some (.ptr b _)=>[b]
  |_=>op.operands.toList.flatMap (nmO σ)
 |_=>op.operands.toList.flatMap (nmO σ)
def zg (op:Op):List Tmp:=op.operands.toList.filterMap fun x=>match x with
 | .tmp t=>some t
 |_=>none
def SS.rs (σ:SS)(op:Op)(ns:List Nat):SS:={σ with bl:=σ.bl.filter (fun p=>ns.elem p.1),tm:=σ.tm.filter fun p=>(zg op).elem p.1}
def sD (σ:SS)(ns:List Nat)(σ':SS):Bool:=Nat.ble σ.nb σ'.nb&& σ'.bl.all fun p=>(ns.elem p.1&&(look σ.bl p.1).isSome)||(Nat.ble σ.nb p.1&& Nat.ble (p.1+1) σ'.nb)
def SS.mg (σ:SS)(ns:List Nat)(σ':SS):SS:={σ with bl:=σ'.bl++σ.bl.filter (fun p=>!ns.elem p.1),nb:=σ'.nb}
def kI:Op→Bool
 | .move _| .assign _| .pick .. | .build .. | .load .. | .nilCheck _| .binOp .. | .unOp .. | .convert .. | .makeFunc .. | .slice .. | .fieldAddr .. | .field .. | .indexAddr .. | .index .. | .lookup .. | .extract .. =>true
 | .call c=>match c.callee with
  | .builtin .len| .builtin .max| .builtin .min=>true
  |_=>false
 |_=>false
def Jn (l k:List Nat):Bool:=l.all fun x=>!k.elem x
def okF (B:Array Nat)(fs:List FP):Bool:=
 let l:=fs.zipIdx
 l.all fun(a,j)=>l.all fun(b,i)=>Nat.ble j i||bfr B i j||(Jn a.W b.F&& Jn b.W a.F)
def EI (a b:Nat):List Nat:=(List.range (b-a)).map (a+·)
def nP (σ:SS)(op:Op)(r:Ores):FP:=⟨opNames σ op++EI σ.nb r.σ.nb,match kI op with|true=>[]|false=>opNames σ op++EI σ.nb r.σ.nb⟩
def both (i:Nat)(x:List Hint→Option (K×List Hint))(y:List Hint→Option (K×List Hint))(hs:List Hint):Option (K×List Hint):=
 match x hs with
 |some (k1,hs)=>match y hs with
  |some (k2,hs)=>some (.br (.x i) k1 k2,hs)
  |none=>none
 |none=>none
def EJ (i:A)(x:List Hint→Option (K×List Hint))(y z:List Hint→Option (K×List Hint))(hs:List Hint):Option (K×List Hint):=
 match x hs with
 |some (k1,hs)=>match y hs with
  |some (k2,hs)=>match z hs with
   |some (k3,hs)=>some (.br i (.amb k1 k2) k3,hs)
   |none=>none
  |none=>none
 |none=>none
def rA (x y:List Hint→Option (K×List Hint))(hs:List Hint):Option (K×List Hint):=
 match x hs with
 |some (k1,hs)=>match y hs with
  |some (k2,hs)=>some (.amb k1 k2,hs)
  |none=>none
 |none=>none
def gn (σ:SS)(i:Nat)(p:PV):SS:={σ with fc:=(i,p)::σ.fc}
def o8 (i:Nat):List Int→Nat→(PV→Nat→List Hint→Option (K×List Hint))→List Hint→Option (K×List Hint)
 |[],_,_,hs=>some (.dead,hs)
 |c::cs,m,f,hs=>match f (.i64 c) (m+1) hs with
  |some (k1,hs)=>match o8 i cs (m+1) f hs with
   |some (k2,hs)=>some (.lt (.bin .eql) [.x i,.c (.i64 c)] (.br (.x m) k1 k2),hs)
   |none=>none
  |none=>none
def HW (P:Program)(σ:SS):Op→Option (Nat×List Int)
 | .indexAddr t _ y .. =>match P.underlying t with
  |some (.array len _)=>match opC σ y with
   |some (.a (.x i))=>match Nat.ble len 8 with
    |true=>some (i,(List.range len).map Int.ofNat)
    |false=>none
   |_=>none
  |_=>none
 |_=>none
def jumpK (j m' lo:Nat)(T:Tm)(σ:SS)(m:Nat):Option K:=match oZ m' lo T σ m σ.sz with
 |some (vs,l,_)=>some (lets l (.jmp j vs))
 |none=>none
def lB (h:Hint)(σ:SS)(m jc:Nat)(κ:List SF)(hs:List Hint)(body:List SF→Nat→List Hint→Option (K×List Hint))(rest:Tm→List Hint→Option (K×List Hint)):Option (K×List Hint):=
 match h with
 | .no=>body κ jc hs
 | .j f=>match body (.J jc m (f σ)::κ) (jc+1) hs with
  |some (k,hs)=>match rest (f σ) hs with
   |some (d,hs)=>some (.jp d k,hs)
   |none=>none
  |none=>none
def iP:Nat→List SW→List (Nat×SV)
 |_,[]=>[]
 |i,w::ws=>(i,.w w)::iP (i+1) ws
def Lj (D:Dcf)(σ:SS)(op:Op)(m:Nat):Option (Func×Code×List SW×Lets×Szs):=
 match opE D.P σ op m σ.sz with
 |some (.call g args,l,z)=>match D.inl g with
  |true=>match D.P.funcs[g]? with
   |some fn=>match fn.body with
    |some c=>match decide (args.length≤fn.ntmps∧(fn.name== "runtime.NumGoroutine")=false) with
     |true=>some (fn,c,args,l,z++σ.sz)
     |false=>none
    |none=>none
   |none=>none
  |false=>none
 |_=>none
def Lk (D:Dcf)(σ:SS)(o:Oper):Bool:=match o.op with
 | .call c=>match c.callee with
  | .value x=>match opC σ x with
   |some (.fn g _ _)=>D.inl g
   |_=>false
  |_=>false
 |_=>false
def Jo (D:Dcf)(σ:SS)(ops:Array Oper):Option Nat:=match ops.toList.any (Lk D σ) with
 |false=>none
 |true=>(List.range (ops.size+1)).find? (o7 ops)
def nop:Oper:=⟨none,.move (.const (.bool true)),0, "",#[],none⟩
def vw:Op→Bool
 | .move _| .assign _| .load .. =>true
 |_=>false
def fltOk (ops:Array Oper)(j f:Nat):Bool:=(match ops[f]? with
 |some o=>o.after.all fun e=>!Region.binds .any e
 |none=>false)&&(List.range j).all fun i=>Nat.beq i f||bfr (Region.before ops) i j&& match ops[i]? with
  |some o=>vw o.op
  |none=>false
def Jp (D:Dcf)(σ:SS)(ops:Array Oper):Nat→Option (Nat×Nat)
 |0=>none
 |j+1=>match ops[j]? with
  |some o=>match Lk D σ o with
   |true=>match(List.range j).find? (fltOk ops j) with
    |some f=>some (j,f)
    |none=>none
   |false=>none
  |none=>none
def fI (ops:Array Oper)(j f:Nat):Array Oper:=(ops.extract 0 j).setIfInBounds f nop
def sE (ops:Array Oper)(j f:Nat):List Oper:=ops.toList[j]?.toList++(ops.toList[f]?.toList++ops.toList.drop (j+1))
def sOk (ops:Array Oper):Bool:=hZ ops (Region.before ops)
def sym (D:Dcf)(F:Fn):Nat→Tk→SS→Nat→List SF→Nat→List Hint→Option (K×List Hint)
 |0,_,_,_,_,_,_=>none
 |n+1,.code c,σ,m,κ,jc,hs=>
  match c with
  | .skip=>sym D F n (.pop .normal) σ m κ jc hs
  | .label _=>sym D F n (.pop .normal) σ m κ jc hs
  | .exit id=>sym D F n (.pop (.exit id)) σ m κ jc hs
  | .ret=>sym D F n (.pop .ret) σ m κ jc hs
  | .scope b=>sym D F n (.code b) σ m κ jc hs
  | .seq a b=>sym D F n (.code a) σ m (.seq b::κ) jc hs
  | .region _ ops draw=>match draw with
   |false=>match hY ops with
    |false=>sym D F n (.ops ops ops.toList) σ m κ jc hs
    |true=>match hs with
     |h::hs=>lB h σ m jc κ hs (fun κ jc hs=>sym D F n (.ops ops ops.toList) σ m κ jc hs) (fun T hs=>sym D F n (.pop .normal) (T.st σ) (m+T.p) κ jc hs)
     |[]=>none
   |true=>match hZ ops (Region.before ops) with
    |false=>none
    |true=>match hY ops with
     |false=>match Jo D σ ops with
      |none=>sym D F n (.dops ops ops.toList []) σ m κ jc hs
      |some k=>match Jp D σ ops k with
       |none=>match hZ (ops.extract 0 k) (Region.before (ops.extract 0 k)) with
        |false=>none
        |true=>sym D F n (.dops (ops.extract 0 k) (ops.extract 0 k).toList []) σ m (.tl ops (ops.toList.drop k)::κ) jc hs
       |some (j,f)=>match sOk (ops.extract 0 j)&& sOk (fI ops j f) with
        |false=>none
        |true=>match hs with
         |h::hs=>lB h σ m jc κ hs (fun κ jc hs=>rA (fun hs=>sym D F n (.dops (ops.extract 0 j) (ops.extract 0 j).toList []) σ m (.tl ops (ops.toList.drop j)::κ) jc hs) (fun hs=>sym D F n (.dops (fI ops j f) (fI ops j f).toList []) σ m (.tl ops (sE ops j f)::κ) jc hs) hs) (fun T hs=>sym D F n (.pop .normal) (T.st σ) (m+T.p) κ jc hs)
         |[]=>none
     |true=>match hs with
      |h::hs=>lB h σ m jc κ hs (fun κ jc hs=>sym D F n (.dops ops ops.toList []) σ m κ jc hs) (fun T hs=>sym D F n (.pop .normal) (T.st σ) (m+T.p) κ jc hs)
      |[]=>none
  | .cond x t e=>match opC σ x with
   |some (.a (.c (.v (.bool b))))=>sym D F n (.code (if b then t else e)) σ m κ jc hs
   |some (.a (.x i))=>match hs with
    |h::hs=>lB h σ m jc κ hs (fun κ jc hs=>both i (fun hs=>sym D F n (.code t) (gn σ i (.bool true)) m κ jc hs) (fun hs=>sym D F n (.code e) (gn σ i (.bool false)) m κ jc hs) hs) (fun T hs=>sym D F n (.pop .normal) (T.st σ) (m+T.p) κ jc hs)
    |[]=>none
   |some (.ub x s)=>match hs with
    |h::hs=>lB h σ m jc κ hs (fun κ jc hs=>EJ x (fun hs=>sym D F n (.code t) σ m κ jc hs) (fun hs=>sym D F n (.code e) σ m κ jc hs) (fun hs=>sym D F n (.code (if s then t else e)) σ m κ jc hs) hs) (fun T hs=>sym D F n (.pop .normal) (T.st σ) (m+T.p) κ jc hs)
    |[]=>none
   |_=>none
  | .block id b=>match hs with
   |h::hs=>lB h σ m jc κ hs (fun κ jc hs=>sym D F n (.code b) σ m (.block id::κ) jc hs) (fun T hs=>sym D F n (.pop .normal) (T.st σ) (m+T.p) κ jc hs)
   |[]=>none
  | .loop b=>match hs with
   | .j f::hs=>match jumpK jc m (loK F.lo κ) (f σ) σ m with
    |some k=>match sym D F n (.code b) ((f σ).st σ) (m+(f σ).p) (.J jc m (f σ)::κ) (jc+1) hs with
     |some (d,hs)=>some (.loop d k,hs)
     |none=>none
    |none=>none
   |_=>none
  |_=>none
 |n+1,.pop e,σ,m,κ,jc,hs=>
  match κ with
  |[]=>match e with
   | .exit _=>none
   |_=>match zf D.P F σ m σ.sz with
    |some (vs,l,_)=>some (lets l (.ret vs),hs)
    |none=>none
  | .seq c::κ=>match e with
   | .normal=>sym D F n (.code c) σ m κ jc hs
   |e=>sym D F n (.pop e) σ m κ jc hs
  | .tl ops rest::κ=>match e with
   | .normal=>sym D F n (.ops ops rest) σ m κ jc hs
   |e=>sym D F n (.pop e) σ m κ jc hs
  | .block id::κ=>match e with
   | .exit id'=>match Nat.beq id' id with
    |true=>sym D F n (.pop .normal) σ m κ jc hs
    |false=>sym D F n (.pop (.exit id')) σ m κ jc hs
   |e=>sym D F n (.pop e) σ m κ jc hs
  | .J j m' T::κ=>match e with
   | .normal=>match jumpK j m' (loK F.lo κ) T σ m with
    |some k=>some (k,hs)
    |none=>none
   |e=>sym D F n (.pop e) σ m κ jc hs
  | .inl _ n' tm dst ops rest res::κ=>match e with
   | .exit _=>none
   |_=>match nO D.P σ res m σ.sz with
    |some (ws,l,z)=>match({σ with n:=n',tm:=tm,sz:=z++σ.sz}:SS).setT dst (nN ws) with
     |some σ'=>match sym D F n (.ops ops rest) σ' (m+l.length) κ jc hs with
      |some (k,hs)=>some (lets l k,hs)
      |none=>none
     |none=>none
    |none=>none
 |n+1,.ops ops rest,σ,m,κ,jc,hs=>
  match rest with
  |[]=>sym D F n (.pop .normal) σ m κ jc hs
  |o::os=>match kH ops σ o with
   |none=>none
   |some (.ask i)=>both i (fun hs=>sym D F n (.ops ops (o::os)) (gn σ i (.bool true)) m κ jc hs) (fun hs=>sym D F n (.ops ops (o::os)) (gn σ i (.bool false)) m κ jc hs) hs
   |some (.go false)=>match σ.setT o.dst (.tup []) with
    |some σ'=>sym D F n (.ops ops os) σ' m κ jc hs
    |none=>none
   |some (.go true)=>match HW D.P σ o.op with
   |some (i,cs)=>o8 i cs m (fun p m' hs=>sym D F n (.ops ops (o::os)) (gn σ i p) m' κ jc hs) hs
   |none=>match Lj D σ o.op m with
    |some (fn,c,args,l,z)=>match sym D F n (.code c) {σ with n:=fn.ntmps,tm:=iP 0 args,sz:=z} (m+l.length) (.inl σ.nb σ.n σ.tm o.dst ops os fn.results.toList::κ) jc hs with
     |some (k,hs)=>some (lets l k,hs)
     |none=>none
    |none=>match iO D σ o.op m with
     |some r=>match r.σ.setT o.dst r.sv with
      |some σ'=>match sym D F n (.ops ops os) σ' r.m κ jc hs with
       |some (k,hs)=>some (r.k k,hs)
       |none=>none
      |none=>none
     |none=>some (.dead,hs)
 |n+1,.dops ops rest fs,σ,m,κ,jc,hs=>
  match rest with
  |[]=>match okF (Region.before ops) fs with
   |true=>sym D F n (.pop .normal) σ m κ jc hs
   |false=>none
  |o::os=>match kH ops σ o with
   |none=>none
   |some (.ask i)=>both i (fun hs=>sym D F n (.dops ops (o::os) fs) (gn σ i (.bool true)) m κ jc hs) (fun hs=>sym D F n (.dops ops (o::os) fs) (gn σ i (.bool false)) m κ jc hs) hs
   |some (.go false)=>match σ.setT o.dst (.tup []) with
    |some σ'=>sym D F n (.dops ops os (fs++[⟨[],[]⟩])) σ' m κ jc hs
    |none=>none
   |some (.go true)=>match HW D.P σ o.op with
   |some (i,cs)=>o8 i cs m (fun p m' hs=>sym D F n (.dops ops (o::os) fs) (gn σ i p) m' κ jc hs) hs
   |none=>match iO D (σ.rs o.op (opNames σ o.op)) o.op m with
    |some r=>match sD σ (opNames σ o.op) r.σ with
     |true=>match(σ.mg (opNames σ o.op) r.σ).setT o.dst r.sv with
      |some σ'=>match sym D F n (.dops ops os (fs++[nP σ o.op r])) σ' r.m κ jc hs with
       |some (k,hs)=>some (r.k k,hs)
       |none=>none
      |none=>none
     |false=>none
    |none=>some (.dead,hs)
def RK (P:Program)(t:TypeId)(i:Nat):SW:=match bv P t with
 |some true=> .av (.x i)
 |_=> .c (.a (.x i))
def lC (P:Program):List TypeId→Nat→List SW
 |[],_=>[]
 |t::ts,i=>RK P t i::lC P ts (i+1)
def EK (P:Program)(t:TypeId)(i c:Nat)(x:SC):EM SW:=match bv P t with
 |some true=>match szT P t with
  |some k=>match Nat.ble (c+1) k with
   |true=>EM.bind (iL k (.x i)) fun y=>EM.ret (.agg ((pcs y 0 k).set c x))
   |false=>fail
  |none=>fail
 |some false=>match c with
  |0=>EM.ret (.c x)
  |_=>fail
 |none=>fail
def lk0 (n:Nat):LK→SC×A×SB×Lets
 | .lst z=>(.lsl 0 (.c (.i64 0)) (.x (n+1)),.x (n+1),.lst (.x n) (.x (n+1)) z false,[(.len,[.x n])])
 | .map ka nk va=>(.mp 0,.x 0,.map (.x n) ka nk va,[])
 | .pre _=>(.un,.x 0,.box [],[])
def HX (D:Dcf)(g:FuncId)(fn:Func):Option (Fn×SS×Nat×Lets):=match D.lend g with
 |none=>some (⟨fn.results.toList,fn.resultTypes.toList,D.slots g,none,false⟩,⟨fn.ntmps,iP 0 (lC D.P fn.params.toList 0),[],0,[],[]⟩,fn.params.size,[])
 |some ld=>match ld.k.plain with
  |false=>none
  |true=>match fn.params.toList[ld.i]? with
  |some t=>match EK D.P t ld.i ld.c (lk0 fn.params.size ld.k).1 (fn.params.size+1+(lk0 fn.params.size ld.k).2.2.2.length) [] with
   |some (w,l,z)=>some (⟨fn.results.toList,fn.resultTypes.toList,D.slots g,some (ld.k,(lk0 fn.params.size ld.k).2.1),ld.gv⟩,⟨fn.ntmps,iP 0 ((lC D.P fn.params.toList 0).set ld.i w),[(0,(lk0 fn.params.size ld.k).2.2.1)],1,[],z⟩,fn.params.size+1+(lk0 fn.params.size ld.k).2.2.2.length+l.length,(lk0 fn.params.size ld.k).2.2.2++l)
   |none=>none
  |none=>none
def symF (D:Dcf)(fuel:Nat)(g:FuncId)(hs:List Hint):Option K:=
 match D.P.funcs[g]? with
 |some fn=>match fn.body with
  |some c=>match decide (fn.params.size≤fn.ntmps∧fn.nfree=0∧(fn.name== "runtime.NumGoroutine")=false) with
   |true=>match HX D g fn with
    |some (F,σ,m,l)=>match sym D F fuel (.code c) σ m [] 0 hs with
     |some (k,_)=>some (lets l k)
     |none=>none
    |none=>none
   |false=>none
  |none=>none
 |none=>none
inductive F2 {α β:Type}(R:α→β→Prop):List α→List β→Prop
 |nil:F2 R [] []
 |cons {a:α} {b:β} {as:List α} {bs:List β} (h:R a b) (t:F2 R as bs):F2 R (a::as) (b::bs)
namespace F2
variable {α β:Type}{R R':α→β→Prop}
theorem mono (h: ∀a b,R a b→R' a b): ∀{as:List α} {bs:List β},F2 R as bs→F2 R' as bs
 |_,_,.nil=> .nil
 |_,_,.cons x t=> .cons (h _ _ x) (t.mono h)
theorem len: ∀{as:List α} {bs:List β},F2 R as bs→as.length=bs.length
 |_,_,.nil=>rfl
 |_,_,.cons _ t=>by simp[t.len]
theorem append: ∀{as cs:List α} {bs ds:List β},F2 R as bs→F2 R cs ds→F2 R (as++cs) (bs++ds)
 |_,_,_,_,.nil,k=>k
 |_,_,_,_,.cons x t,k=> .cons x (t.append k)
theorem take: ∀{as:List α} {bs:List β} (n:Nat),F2 R as bs→F2 R (as.take n) (bs.take n)
 |_,_,0,_=>by simpa using .nil
 |_,_,_+1,.nil=>by simpa using .nil
 |_,_,n+1,.cons x t=>by simpa using .cons x (t.take n)
theorem drop: ∀{as:List α} {bs:List β} (n:Nat),F2 R as bs→F2 R (as.drop n) (bs.drop n)
 |_,_,0,h=>by simpa using h
 |_,_,_+1,.nil=>by simpa using .nil
 |_,_,n+1,.cons x t=>by simpa using t.drop n
theorem get: ∀{as:List α} {bs:List β},F2 R as bs→ ∀(i:Nat) (a:α),as[i]?=some a→ ∃b,bs[i]?=some b∧R a b
 |_,_,.nil,i,a,h=>by simp at h
 |_,_,.cons x t,i,a,h=>by
  cases i with
  |zero=>simp at h;subst h;exact⟨_,rfl,x⟩
  |succ i=>simp at h;obtain⟨b,h1,h2⟩:=t.get i a h;exact⟨b,by simpa using h1,h2⟩
theorem get': ∀{as:List α} {bs:List β},F2 R as bs→ ∀(i:Nat) (b:β),bs[i]?=some b→ ∃a,as[i]?=some a∧R a b
 |_,_,.nil,i,a,h=>by simp at h
 |_,_,.cons x t,i,a,h=>by
  cases i with
  |zero=>simp at h;subst h;exact⟨_,rfl,x⟩
  |succ i=>simp at h;obtain⟨b,h1,h2⟩:=t.get' i a h;exact⟨b,by simpa using h1,h2⟩
end F2
section
variable {α:Type}
theorem look_cons (k i:Nat)(v:α)(l:List (Nat×α)):look ((k,v)::l) i=if k=i then some v else look l i:=by
 cases h:Nat.beq k i with
 |true=>rw[if_pos (aS h)];simp only[look,h]
 |false=>rw[if_neg (fun e=>by rw[e,gC] at h;cases h)];simp only[look,h]
theorem dA: ∀{l:List (Nat×α)} {i:Nat} {v:α},look l i=some v→(i,v)∈l
 |[],i,v,h=>by cases h
 |(k,w)::l,i,v,h=>by
  rw[look_cons] at h;split at h
  ·rename_i e;cases h;subst e;simp
  ·exact aF _ (dA h)
theorem nQ (l:List (Nat×α))(k i:Nat):look (del l k) i=if i=k then none else look l i:=by
 induction l with
 |nil=>simp[del,look]
 |cons p l ih=>
  obtain⟨j,v⟩:=p;unfold del;cases h:Nat.beq j k with
  |true=>
   have e:=aS h;simp only;rw[ih,look_cons];by_cases hi:i=k
   ·rw[if_pos hi,if_pos hi]
   ·rw[if_neg hi,if_neg hi,if_neg (fun e'=>hi (by omega))]
  |false=>
   have e:j≠k:=fun e=>by rw[e,gC] at h;cases h
   simp only;rw[look_cons,ih,look_cons];by_cases hj:j=i
   ·rw[if_pos hj,if_neg (by omega),if_pos hj]
   ·rw[if_neg hj,if_neg hj]
theorem look_put (l:List (Nat×α))(k i:Nat)(v:α):look (put l k v) i=if i=k then some v else look l i:=by
 unfold put;rw[look_cons,nQ];by_cases h:k=i
 ·rw[if_pos h,if_pos h.symm]
 ·rw[if_neg h,if_neg (fun e=>h e.symm),if_neg (fun e=>h e.symm)]
end
section
variable {env:List PV}{α β:Type}
def dt (env:List PV)(m:Nat)(l:Lets):Prop:= ∀i f as,l[i]?=some (f,as)→ ∃vs v,evs env as=some vs∧f.ev vs=some v∧env[m+i]?=some v
def eJ (env:List PV)(z:Szs):Prop:= ∀p∈z,∃cs,env[p.1]?=some (.agg cs)∧cs.length=p.2
theorem dt.left {m:Nat}{l k:Lets}(h:dt env m (l++k)):dt env m l:=fun i f as hi=>h i f as (by
 rw[aw (aj.1 hi).1];exact hi)
theorem dt.right {m:Nat}{l k:Lets}(h:dt env m (l++k)):dt env (m+l.length) k:=fun i f as hi=>by
 have:=h (l.length+i) f as (by rw[bg (by omega)];rw[show l.length+i-l.length=i by omega];exact hi)
 rw[bZ];exact this
theorem eJ.append {z z':Szs}(h:eJ env z)(k:eJ env z'):eJ env (z++z'):=fun p hp=>by
 rcases bh.1 hp with hp|hp
 ·exact h p hp
 ·exact k p hp
theorem eJ.nil:eJ env []:=fun p hp=>by cases hp
def Sp (env:List PV)(x:EM α)(Q:α→Prop):Prop:= ∀m z a l z',x m z=some (a,l,z')→dt env m l→eJ env z→eJ env z'∧Q a
theorem Sp.mono {x:EM α}{P Q:α→Prop}(h:Sp env x P)(k: ∀a,P a→Q a):Sp env x Q:=fun m z a l z' e hl hz=>let⟨h1,h2⟩:=h m z a l z' e hl hz;⟨h1,k a h2⟩
theorem Sp.ret {a:α}{Q:α→Prop}(h:Q a):Sp env (EM.ret a) Q:=fun m z b l z' e _ _=>by cases e;exact⟨.nil,h⟩
theorem Sp.fail {Q:α→Prop}:Sp env (fail:EM α) Q:=fun m z b l z' e _ _=>by cases e
theorem Sp.ofO {o:Option α}{Q:α→Prop}(h: ∀a,o=some a→Q a):Sp env (ofO o) Q:=by
 cases o with
 |none=>exact .fail
 |some a=>exact .ret (h a rfl)
theorem Sp.bind {x:EM α}{f:α→EM β}{P:α→Prop}{Q:β→Prop}(h:Sp env x P)(k: ∀a,P a→Sp env (f a) Q):Sp env (EM.bind x f) Q:=by
 intro m z b l z' e hl hz;unfold EM.bind at e;split at e
 ·rename_i a l1 z1 h1;split at e
  ·rename_i b' l2 z2 h2;cases e;obtain⟨s1,p⟩:=h m z a l1 z1 h1 hl.left hz;obtain⟨s2,q⟩:=k a p _ _ _ _ _ h2 hl.right (s1.append hz);exact⟨s2.append s1,q⟩
  ·cases e
 ·cases e
def gX (env:List PV)(f:RF)(as:List A)(y:A):Prop:= ∃vs v,evs env as=some vs∧f.ev vs=some v∧y.ev env=some v
theorem Sp.emit {f:RF}{as:List A}:Sp env (emit f as) (gX env f as):=by
 intro m z a l z' e hl _;cases e;obtain⟨vs,v,h1,h2,h3⟩:=hl 0 f as rfl;exact⟨.nil,vs,v,h1,h2,h3⟩
theorem Sp.emitN {f:RF}{as:List A}{n:Nat}(h: ∀vs v,evs env as=some vs→f.ev vs=some v→ ∃cs,v= .agg cs∧cs.length=n):Sp env (emitN n f as) (gX env f as):=by
 intro m z a l z' e hl _;cases e;obtain⟨vs,v,h1,h2,h3⟩:=hl 0 f as rfl;refine⟨fun p hp=>?_,vs,v,h1,h2,h3⟩;simp at hp;subst hp;obtain⟨cs,rfl,h⟩:=h vs v h1 h2;exact⟨cs,h3,h⟩
theorem Sp.sizeOf {x:A}:Sp env (sizeOf? x) (fun k=> ∀n,k=some n→ ∃cs,x.ev env=some (.agg cs)∧cs.length=n):=by
 intro m z a l z' e _ hz;unfold sizeOf? at e;cases e;refine⟨.nil,fun n hn=>?_⟩;cases x with
 |x i=>obtain⟨cs,h1,h2⟩:=hz (i,n) (dA hn);exact⟨cs,h1,h2⟩
 |c p=>cases hn
theorem o9 {a:A}{vs:List PV}(h:evs env [a]=some vs): ∃v,a.ev env=some v∧vs=[v]:=by
 simp only[evs] at h;split at h
 ·rename_i v hv;cases h;exact⟨v,hv,rfl⟩
 ·cases h
theorem tL {a b:A}{vs:List PV}(h:evs env [a,b]=some vs): ∃v w,a.ev env=some v∧b.ev env=some w∧vs=[v,w]:=by
 simp only[evs] at h;split at h
 ·rename_i v hv;split at h
  ·rename_i ws hw;cases h;split at hw
   ·rename_i w hw';cases hw;exact⟨v,w,hv,hw',rfl⟩
   ·cases hw
  ·cases h
 ·cases h
theorem abx {a b c:A}{vs:List PV}(h:evs env [a,b,c]=some vs): ∃u v w,a.ev env=some u∧b.ev env=some v∧c.ev env=some w∧vs=[u,v,w]:=by
 unfold evs at h;split at h
 ·rename_i u hu;split at h
  ·rename_i ws hw;cases h;obtain⟨v,w,h1,h2,rfl⟩:=tL hw;exact⟨u,v,w,hu,h1,h2,rfl⟩
  ·cases h
 ·cases h
theorem ev_mono {e':List PV}{a:A}{v:PV}(h:a.ev env=some v):a.ev (env++e')=some v:=by
 cases a with
 |x i=>
  simp only[A.ev] at h⊢;rw[aw (aj.1 h).1];exact h
 |c p=>exact h
end
def one:Value→Bool
 | .agg _| .tuple _=>false
 |_=>true
def Rw (z:Nat)(els:List (List PV)):Prop:= ∀r∈els,r.length=z∧r.all t0=true
theorem Rw.l {z:Nat}{els:List (List PV)}(h:Rw z els): ∀r∈els,r.length=z:=fun r hr=>(h r hr).1
theorem Rw.sub {z:Nat}{els:List (List PV)}(h:Rw z els)(i n:Nat):Rw z ((els.drop i).take n):=fun r hr=>h r (eg (fM hr))
theorem Rw.d {z:Nat}{els:List (List PV)}(h:Rw z els)(i:Nat):Rw z (els.drop i):=fun r hr=>h r (eg hr)
theorem Rw.t {z:Nat}{els:List (List PV)}(h:Rw z els)(i:Nat):Rw z (els.take i):=fun r hr=>h r (fM hr)
theorem Rw.app {z:Nat}{a b:List (List PV)}(h:Rw z a)(k:Rw z b):Rw z (a++b):=fun r hr=>(bh.1 hr).elim (h r) (k r)
theorem Rw.ft {z:Nat}{els:List (List PV)}(h:Rw z els):els.flatten.all t0=true:=by
 rw[aG];intro p hp;obtain⟨r,h1,h2⟩:=List.mem_flatten.1 hp;exact aG.1 (h r h1).2 p h2
def ew (v:Value):Prop:=v= .slice none 0 0∨ ∃b o,v= .slice (some ⟨b,o,none⟩) 0 0
section
variable (w:World)(S:Nat→Prop)
mutual
inductive RT:Value→PV→Prop
 |v {x:Value} (h:plain1 x=true):RT x (.v x)
 |nil {v:Value} (h:ew v):RT v (.sl [])
 |sl {B o n cap z:Nat} {arr:Array Value} {ty:TypeId} {fz:Nat×Nat} {els:List (List PV)} (hS:S B) (hg:w.heap[B]?=some (.cells arr ty fz)) (hz:0<z) (hn:els.length=n) (hc:n≤cap) (hr:Rw z els)
  (he:RTs ((arr.toList.drop o).take (n*z)) els.flatten):RT (.slice (some ⟨B,o,none⟩) n cap) (.sl els)
 |agg {a:Array Value} {cs:List PV} (h:RTs a.toList cs) (ht:cs.all t0=true):RT (.agg a) (.agg cs)
inductive RTs:List Value→List PV→Prop
 |nil:RTs [] []
 |cons {v:Value} {p:PV} {vs:List Value} {ps:List PV} (h:RT v p) (t:RTs vs ps):RTs (v::vs) (p::ps)
end
end
theorem RTs.f2 {w:World}{S:Nat→Prop}: ∀{vs:List Value} {ps:List PV},RTs w S vs ps→F2 (RT w S) vs ps
 |_,_,.nil=> .nil
 |_,_,.cons h t=> .cons h t.f2
theorem RTs.of {w:World}{S:Nat→Prop}: ∀{vs:List Value} {ps:List PV},F2 (RT w S) vs ps→RTs w S vs ps
 |_,_,.nil=> .nil
 |_,_,.cons h t=> .cons h (RTs.of t)
structure Kp (w:World)(S:Nat→Prop)(w':World)(S':Nat→Prop):Prop where
 sub: ∀B,S B→S' B
 get: ∀B,S B→w'.heap[B]?=w.heap[B]?
theorem Kp.refl (w:World)(S:Nat→Prop):Kp w S w S:=⟨fun _ h=>h,fun _ _=>rfl⟩
theorem Kp.trans {w w' w'':World}{S S' S'':Nat→Prop}(h:Kp w S w' S')(k:Kp w' S' w'' S''):Kp w S w'' S'':=⟨fun B hB=>k.sub B (h.sub B hB),fun B hB=>(k.get B (h.sub B hB)).trans (h.get B hB)⟩
section
variable {w w':World}{S S':Nat→Prop}
mutual
theorem RT.mono (k:Kp w S w' S'): ∀{v:Value} {p:PV},RT w S v p→RT w' S' v p
 |_,_,.v h=> .v h
 |_,_,.nil h=> .nil h
 |_,_,.sl hS hg hz hn hc hr he=> .sl (k.sub _ hS) ((k.get _ hS).trans hg) hz hn hc hr (he.mono k)
 |_,_,.agg h ht=> .agg (h.mono k) ht
theorem RTs.mono (k:Kp w S w' S'): ∀{vs:List Value} {ps:List PV},RTs w S vs ps→RTs w' S' vs ps
 |_,_,.nil=> .nil
 |_,_,.cons h t=> .cons (h.mono k) (t.mono k)
end
theorem RT.one {v:Value}{p:PV}(h:RT w S v p)(ht:t0 p=true):one v=true:=by
 cases h with
 |v h=>cases v<;>first|rfl|simp[plain1] at h
 |nil h=>rcases h with rfl|⟨_,_,rfl⟩<;>rfl
 |sl=>rfl
 |agg=>simp[t0] at ht
end
def kd:SB→SB
 | .box _=> .box []
 | .lst _ nl z _=> .lst (.x 0) nl z false
 | .map _ ka nk va=> .map (.x 0) ka nk va
structure Cx where
 e:List PV
 ρ:Nat→Option (Nat×Nat)
 S:Nat→Prop
 w:World
 σ:SS
 nm:Nat→Prop
 N:Nat
 K:Nat→Option SB
section
variable (X:Cx)
abbrev Cx.T (X:Cx):Value→PV→Prop:=RT X.w X.S
inductive CapR:Value→Cap→Prop
 |ptr {b o B:Nat} (hb:X.nm b) (h: ∀sb,X.K b=some sb→ ∃l,X.ρ b=some (B,l)):CapR (.pointer (some ⟨B,o,none⟩)) (.ptr b o)
 |a {x:A} {v:Value} {p:PV} (h:x.ev X.e=some p) (ht:t0 p=true) (r:X.T v p):CapR v (.a x)
def EL (b:Nat)(o n nl:A)(z:Nat)(v:Value):Prop:= ∃oi ni L:Nat,o.ev X.e=some (.i64 oi)∧n.ev X.e=some (.i64 ni)∧nl.ev X.e=some (.i64 L)∧oi+ni≤L∧
 ((∃B lim cap,X.ρ b=some (B,lim)∧v= .slice (some ⟨B,oi*z,none⟩) ni cap∧L≤oi+cap∧(oi+cap)*z≤lim)∨(ni=0∧ew v∧L≤oi))
inductive CR:Value→SC→Prop
 |a {x:A} {v:Value} {p:PV} (h:x.ev X.e=some p) (ht:t0 p=true) (r:X.T v p):CR v (.a x)
 |pc {x:A} {i:Nat} {cs:List PV} {v:Value} {p:PV} (h:x.ev X.e=some (.agg cs)) (ha:cs.all t0=true) (hi:cs[i]?=some p) (r:X.T v p):CR v (.pc x i)
 |nil {v:Value} (h:ew v):CR v .nil
 |un {v:Value} (h:one v=true):CR v .un
 |ub {x:A} {b e s:Bool} (h:x.ev X.e=some (.bool e)) (hs:e=false→b=s):CR (.bool b) (.ub x s)
 |ptr {b o B:Nat} (hb:X.nm b) (h: ∀sb,X.K b=some sb→ ∃l,X.ρ b=some (B,l)):CR (.pointer (some ⟨B,o,none⟩)) (.ptr b o)
 |ep {b o B x:Nat} {i:A} {kk:IntKind} {k:Nat} (hb:X.nm b) (hi:i.ev X.e=some (.v (.int kk k))) (h: ∀nl z,X.K b=some (.lst (.x 0) nl z false)→(∃l,X.ρ b=some (B,l))∧x=k*z+o):CR (.pointer (some ⟨B,x,none⟩)) (.ep b i o)
 |tp {l i:A} {o B x:Nat} {els:List (List PV)} {kk:IntKind} {k:Nat} {row:List PV} {arr:Array Value} {ty:TypeId} {fz:Nat×Nat} (hl:l.ev X.e=some (.sl els)) (hi:i.ev X.e=some (.v (.int kk k))) (hr:els[k]?=some row)
  (hS:X.S B) (hg:X.w.heap[B]?=some (.cells arr ty fz)) (he:RTs X.w X.S ((arr.toList.drop x).take row.length) row):CR (.pointer (some ⟨B,x+o,none⟩)) (.tp l i o)
 |lsl {b:Nat} {o n:A} {v:Value} (hb:X.nm b) (h1:one v=true) (h: ∀nl z,X.K b=some (.lst (.x 0) nl z false)→EL X b o n nl z v):CR v (.lsl b o n)
 |mp {b:Nat} {r:Option Nat} (hb:X.nm b) (h: ∀sb,X.K b=some sb→ ∃B l,X.ρ b=some (B,l)∧r=some B):CR (.map r) (.mp b)
 |fn {g:Nat} {f c:List Cap} {f1 c1:Array Value} (h1:F2 (CapR X) f1.toList f) (h2:F2 (CapR X) c1.toList c):CR (.func (.func g) f1 c1) (.fn g f c)
inductive WR:Value→SW→Prop
 |c {v:Value} {x:SC} (h:CR X v x):WR v (.c x)
 |av {a:Array Value} {x:A} {cs:List PV} (h:x.ev X.e=some (.agg cs)) (ht:cs.all t0=true) (r:RTs X.w X.S a.toList cs):WR (.agg a) (.av x)
 |agg {a:Array Value} {cs:List SC} (h:F2 (CR X) a.toList cs):WR (.agg a) (.agg cs)
inductive VR:Value→SV→Prop
 |w {v:Value} {x:SW} (h:WR X v x):VR v (.w x)
 |tup {a:Array Value} {ws:List SW} (h:F2 (WR X) a.toList ws):VR (.tuple a) (.tup ws)
end
structure Sx (X X':Cx):Prop where
 e: ∃x,X'.e=X.e++x
 ρ: ∀b,X.nm b→X'.ρ b=X.ρ b
 k:Kp X.w X.S X'.w X'.S
 lv: ∀b sb,X.nm b→X'.K b=some sb→X.K b=some sb
 nm: ∀b,X.nm b→X'.nm b
section
variable {X X' X'':Cx}
theorem Sx.refl:Sx X X:=⟨⟨[],by simp⟩,fun _ _=>rfl,Kp.refl _ _,fun _ _ _ h=>h,fun _ h=>h⟩
theorem Sx.trans (h:Sx X X')(k:Sx X' X''):Sx X X'':=by
 obtain⟨x,hx⟩:=h.e;obtain⟨y,hy⟩:=k.e;refine⟨⟨x++y,by rw[hy,hx,aO]⟩,fun b hb=>(k.ρ b (h.nm b hb)).trans (h.ρ b hb),h.k.trans k.k,fun b sb' hb hl=>h.lv b sb' hb (k.lv b sb' (h.nm b hb) hl),fun b hb=>k.nm b (h.nm b hb)⟩
theorem Sx.ev (k:Sx X X'){a:A}{v:PV}(h:a.ev X.e=some v):a.ev X'.e=some v:=by
 obtain⟨x,hx⟩:=k.e;rw[hx];exact ev_mono h
theorem CapR.step (k:Sx X X'){v:Value}{c:Cap}(h:CapR X v c):CapR X' v c:=by
 cases h with
 |ptr hb h=>
  exact .ptr (k.nm _ hb) fun sb hl=>by
   rw[k.ρ _ hb];exact h _ (k.lv _ sb hb hl)
 |a h ht r=>exact .a (k.ev h) ht (r.mono k.k)
theorem EL.step (k:Sx X X'){b z:Nat}{o n nl:A}{v:Value}(hb:X.nm b)(h:EL X b o n nl z v):EL X' b o n nl z v:=by
 obtain⟨oi,ni,L,h1,h2,h3,h4,h5⟩:=h;exact⟨oi,ni,L,k.ev h1,k.ev h2,k.ev h3,h4,by rw[k.ρ _ hb];exact h5⟩
theorem CR.step (k:Sx X X'){v:Value}{c:SC}(h:CR X v c):CR X' v c:=by
 cases h with
 |a h ht r=>exact .a (k.ev h) ht (r.mono k.k)
 |pc h ha hi r=>exact .pc (k.ev h) ha hi (r.mono k.k)
 |nil h=>exact .nil h
 |un h=>exact .un h
 |ub h hs=>exact .ub (k.ev h) hs
 |ptr hb h=>
  exact .ptr (k.nm _ hb) fun sb hl=>by
   rw[k.ρ _ hb];exact h _ (k.lv _ sb hb hl)
 |ep hb hi h=>
  exact .ep (k.nm _ hb) (k.ev hi) fun nl z hl=>by
   rw[k.ρ _ hb];exact h _ _ (k.lv _ _ hb hl)
 |tp hl hi hr hS hg he=>exact .tp (k.ev hl) (k.ev hi) hr (k.k.sub _ hS) ((k.k.get _ hS).trans hg) (he.mono k.k)
 |lsl hb h1 h=>
  exact .lsl (k.nm _ hb) h1 fun nl z hl=>(h _ _ (k.lv _ _ hb hl)).step k hb
 |mp hb h=>
  exact .mp (k.nm _ hb) fun sb hl=>by
   rw[k.ρ _ hb];exact h _ (k.lv _ sb hb hl)
 |fn h1 h2=>exact .fn (h1.mono fun _ _ h=>h.step k) (h2.mono fun _ _ h=>h.step k)
theorem WR.step (k:Sx X X'){v:Value}{x:SW}(h:WR X v x):WR X' v x:=by
 cases h with
 |c h=>exact .c (h.step k)
 |av h ht r=>exact .av (k.ev h) ht (r.mono k.k)
 |agg h=>exact .agg (h.mono fun _ _ h=>h.step k)
theorem VR.step (k:Sx X X'){v:Value}{x:SV}(h:VR X v x):VR X' v x:=by
 cases h with
 |w h=>exact .w (h.step k)
 |tup h=>exact .tup (h.mono fun _ _ h=>h.step k)
theorem all_get {cs:List PV}(h:cs.all t0=true){i:Nat}{v:PV}(hi:cs[i]?=some v):t0 v=true:=aG.1 h v (aA.2 ⟨i,hi⟩)
theorem CR.one {v:Value}{c:SC}(h:CR X v c):one v=true:=by
 cases h with
 |a _ ht r=>exact r.one ht
 |pc _ ha hi r=>exact r.one (all_get ha hi)
 |nil h=>rcases h with rfl|⟨_,_,rfl⟩<;>rfl
 |un h=>exact h
 |lsl _ h1 _=>exact h1
 |_=>rfl
theorem one_cells {v:Value}(h:one v=true):v.cells=#[v]:=by cases v<;>first|rfl|simp[Sym.one] at h
end
def nR (n:Nat)(fz:Nat×Nat):Prop:= ∀i,i<n→¬(fz.1≤i∧i<fz.2)
def Row (w:World)(B:Nat)(arr:Array Value):Prop:= ∃ty fz,w.heap[B]?=some (.cells arr ty fz)∧nR arr.size fz
def Shp (g:Bool)(v:Value):Prop:=(g=true→ ∃a,v= .agg a)∧(g=false→one v=true)
def Jq (w:World)(S:Nat→Prop)(ka:Bool)(nk:Nat)(va:Bool)(m:MapEntry)(r:List PV):Prop:= ∃ks vs,r=ks++vs∧RTs w S m.key.cells.toList ks∧RTs w S m.val.cells.toList vs∧ks.length=nk∧Shp ka m.key∧Shp va m.val∧vs.all t0=true∧(va=true→vs.length≠1)
def pa (w:World)(S:Nat→Prop)(ka:Bool)(nk:Nat)(va:Bool)(es:List MapEntry)(rows:List (List PV)):Prop:=F2 (Jq w S ka nk va) es rows
def BR (X:Cx)(b:Nat):SB→Prop
 | .box cs=> ∃B arr,X.ρ b=some (B,arr.size)∧Row X.w B arr∧F2 (CR X) arr.toList cs
 | .lst l nl z _=>0<z∧ ∃els,l.ev X.e=some (.sl els)∧nl.ev X.e=some (.i64 els.length)∧Rw z els∧
   ((els=[]∧X.ρ b=none)∨ ∃B arr,X.ρ b=some (B,arr.size)∧Row X.w B arr∧RTs X.w X.S (arr.toList.take (els.length*z)) els.flatten)
 | .map l ka nk va=> ∃B es ck rows,X.ρ b=some (B,0)∧X.w.heap[B]?=some (.map es ck)∧l.ev X.e=some (.sl rows)∧pa X.w X.S ka nk va es.toList rows
def frz:SB→Bool
 | .lst _ _ _ f=>f
 |_=>false
structure MR (X:Cx)(base:Nat)(L:Nat→Prop):Prop where
 lt: ∀b sb,look X.σ.bl b=some sb→X.nm b
 kd: ∀b sb,look X.σ.bl b=some sb→X.K b=some (Sym.kd sb)
 fr: ∀b,X.σ.nb≤b→b<X.N→¬X.nm b
 bl: ∀b sb,look X.σ.bl b=some sb→BR X b sb
 own: ∀b sb B l,look X.σ.bl b=some sb→X.ρ b=some (B,l)→(base≤B∨L B)∧(X.S B↔frz sb=true)
 inj: ∀b b' sb sb' B l l',look X.σ.bl b=some sb→look X.σ.bl b'=some sb'→X.ρ b=some (B,l)→X.ρ b'=some (B,l')→b=b'
 cur: ∀B,X.S B→B<X.w.heap.size
 hb:base≤X.w.heap.size
 sz:eJ X.e X.σ.sz
 fc: ∀p∈X.σ.fc,X.e[p.1]?=some p.2
structure Frm (base:Nat)(L:Nat→Prop)(w w':World):Prop where
 os:w'.os=w.os
 tape:w'.tape=w.tape
 output:w'.output=w.output
 size:w.heap.size≤w'.heap.size
 block: ∀k,k<base→¬L k→w'.heap[k]?=w.heap[k]?
 drawn:w.drawn≤w'.drawn
theorem Frm.refl {base:Nat}{L:Nat→Prop}{w:World}:Frm base L w w:=⟨rfl,rfl,rfl,am _,fun _ _ _=>rfl,am _⟩
theorem Frm.trans {base:Nat}{L:Nat→Prop}{w w' w'':World}(h:Frm base L w w')(k:Frm base L w' w''):Frm base L w w'':=⟨k.os.trans h.os,k.tape.trans h.tape,k.output.trans h.output,bc h.size k.size,fun i hi hl=>(k.block i hi hl).trans (h.block i hi hl),bc h.drawn k.drawn⟩
structure Nx (X:Cx)(base:Nat)(L:Nat→Prop)(X':Cx):Prop where
 sx:Sx X X'
 mr:MR X' base L
 fr:Frm base L X.w X'.w
 new: ∀B,X'.S B→X.S B∨base≤B∨L B
 e:X'.e=X.e
 N:X'.N=X.N
 nb:X.σ.nb≤X'.σ.nb
 nmb: ∀b,X'.nm b→X.nm b∨(X.σ.nb≤b∧b<X'.σ.nb)
 kk: ∀b,X.nm b→look X.σ.bl b=none→X'.K b=X.K b∧look X'.σ.bl b=none
theorem Nx.trans {X X' X'':Cx}{base:Nat}{L:Nat→Prop}(h:Nx X base L X')(k:Nx X' base L X''):Nx X base L X'':=⟨h.sx.trans k.sx,k.mr,h.fr.trans k.fr,fun B hB=>by
 rcases k.new B hB with h1|h1
 ·exact h.new B h1
 ·exact .inr h1,k.e.trans h.e,k.N.trans h.N,bc h.nb k.nb,fun b hb=>by
 rcases k.nmb b hb with h1|h1
 ·exact(h.nmb b h1).imp id fun h2=>⟨h2.1,bB h2.2 k.nb⟩
 ·exact .inr ⟨bc h.nb h1.1,h1.2⟩,fun b h1 h2=>by
 obtain⟨h3,h4⟩:=h.kk b h1 h2;obtain⟨h5,h6⟩:=k.kk b (h.sx.nm b h1) h4;exact⟨h5.trans h3,h6⟩⟩
theorem Nx.refl {X:Cx}{base:Nat}{L:Nat→Prop}(h:MR X base L):Nx X base L X:=⟨.refl,h,.refl,fun _ h=> .inl h,rfl,rfl,am _,fun _ h=> .inl h,fun _ _ h=>⟨rfl,h⟩⟩
end Go.Sym
namespace Go.Sym
open Go.RowKit
section
variable {e:List PV}
theorem ec {f:RF}{a y:A}{v:PV}(h:gX e f [a] y)(ha:a.ev e=some v): ∃u,f.ev [v]=some u∧y.ev e=some u:=by
 obtain⟨vs,u,h1,h2,h3⟩:=h;obtain⟨v',h4,rfl⟩:=o9 h1;rw[ha] at h4;cases h4;exact⟨u,h2,h3⟩
theorem dT {f:RF}{a b y:A}{v w:PV}(h:gX e f [a,b] y)(ha:a.ev e=some v)(hb:b.ev e=some w): ∃u,f.ev [v,w]=some u∧y.ev e=some u:=by
 obtain⟨vs,u,h1,h2,h3⟩:=h;obtain⟨v',w',h4,h5,rfl⟩:=tL h1;rw[ha] at h4;cases h4;rw[hb] at h5;cases h5;exact⟨u,h2,h3⟩
theorem fS {f:RF}{a b c y:A}{u v w:PV}(h:gX e f [a,b,c] y)(ha:a.ev e=some u)(hb:b.ev e=some v)(hc:c.ev e=some w): ∃r,f.ev [u,v,w]=some r∧y.ev e=some r:=by
 obtain⟨vs,r,h1,h2,h3⟩:=h;obtain⟨u',v',w',h4,h5,h6,rfl⟩:=abx h1;rw[ha] at h4;cases h4;rw[hb] at h5;cases h5;rw[hc] at h6;cases h6;exact⟨r,h2,h3⟩
theorem bQ {α:Type}{c:Prop}[Decidable c]{x y:α}(h:(if c then some x else none)=some y):c∧x=y:=by
 by_cases hc:c
 ·rw[if_pos hc] at h;cases h;exact⟨hc,rfl⟩
 ·rw[if_neg hc] at h;cases h
theorem Jr {α:Type}{c:Prop}{d:Decidable c}{x y:α}(h:(if c then some x else none)=some y):c∧x=y:=bQ h
theorem tM {α:Type}{c:Prop}[Decidable c]{x:Option α}{y:α}(h:(if c then x else none)=some y):c∧x=some y:=by
 by_cases hc:c
 ·rw[if_pos hc] at h;exact⟨hc,h⟩
 ·rw[if_neg hc] at h;cases h
theorem fd {a b:Nat}(h:Nat.beq a b=true):a=b:=aS h
end
section
variable {X:Cx}{P:Program}
theorem cellA_ok {c:SC}{v:Value}(h:CR X v c):Sp X.e (c8 c) fun a=> ∃p,a.ev X.e=some p∧t0 p=true∧X.T v p:=by
 cases h with
 |a h ht r=>exact .ret ⟨_,h,ht,r⟩
 |pc h ha hi r=>
  refine Sp.emit.mono fun y hy=>?_;obtain⟨u,h1,h2⟩:=ec hy h;simp only[RF.ev] at h1;rw[hi] at h1;cases h1;exact⟨_,h2,all_get ha hi,r⟩
 |nil h=>exact .ret ⟨_,rfl,rfl,.nil h⟩
 |_=>exact .fail
theorem jG {n:Nat}{x:A}{cs:List PV}(h:x.ev X.e=some (.agg cs)):Sp X.e (iL n x) fun y=>y.ev X.e=some (.agg cs)∧cs.length=n:=by
 unfold iL;refine Sp.bind Sp.sizeOf fun k hk=>?_;cases k with
 |none=>
  refine Sp.mono (Sp.emitN fun vs v h1 h2=>?_) fun y hy=>?_
  ·obtain⟨v',h4,rfl⟩:=o9 h1;rw[h] at h4;cases h4;obtain⟨hl,rfl⟩:=bQ h2;exact⟨cs,rfl,hl⟩
  ·obtain⟨u,h1,h2⟩:=ec hy h;obtain⟨hl,rfl⟩:=bQ h1;exact⟨h2,hl⟩
 |some k=>
  simp only;split
  ·rename_i hb;have:=fd hb;subst this;obtain⟨cs',h1,h2⟩:=hk k rfl;rw[h] at h1;cases h1;exact .ret ⟨h,h2⟩
  ·exact .fail
theorem pb {α:Type}{l:List α}{i:Nat}{a:α}{r:List α}(h:l.drop i=a::r):l[i]?=some a∧l.drop (i+1)=r:=by
 have:l[i]?=(l.drop i)[0]?:=by simp
 rw[h] at this;exact⟨by simpa using this,by rw[←dM,h];rfl⟩
theorem sF {x:A}{cs:List PV}(h:x.ev X.e=some (.agg cs))(ht:cs.all t0=true): ∀(n i:Nat) {ds:List PV} {vs:List Value},cs.drop i=ds→ds.length=n→F2 X.T vs ds→F2 (CR X) vs (pcs x i n)
 |0,i,ds,vs,hd,hn,hs=>by
  have:ds=[]:=bb hn;subst this;cases hs;exact .nil
 |n+1,i,ds,vs,hd,hn,hs=>by
  cases hs with
  |nil=>simp at hn
  |cons hv t=>
   obtain⟨h1,h2⟩:=pb hd;exact .cons (.pc h ht h1 hv) (sF h ht n (i+1) h2 (by simpa using hn) t)
theorem cellsT_ok {t:TypeId}{w:SW}{v:Value}(h:WR X v w):Sp X.e (oW P t w) fun cs=>F2 (CR X) v.cells.toList cs∧szT P t=some v.cells.size:=by
 unfold oW;split
 ·split
  ·rename_i n hn;cases h with
   |c h=>exact .fail
   |av h ht hs=>
    refine Sp.bind (jG h) fun y hy=> .ret ⟨?_,?_⟩
    ·rw[←hy.2];exact sF hy.1 ht _ 0 rfl rfl hs.f2
    ·have:=hs.f2.len;rw[hn,←hy.2];simpa [Value.cells] using this.symm
   |agg h=>
    simp only;split
    ·rename_i hb;have:=h.len;exact .ret ⟨h,by rw[hn,←fd hb];simpa [Value.cells] using this.symm⟩
    ·exact .fail
  ·exact .fail
 ·split
  ·rename_i hn;cases h with
   |c h=>rw[one_cells h.one];exact .ret ⟨.cons h .nil,hn⟩
   |_=>exact .fail
  ·exact .fail
 ·exact .fail
theorem A.same_eq {x y:A}(h:A.same x y=true):x=y:=by
 cases x<;>cases y<;>simp only[A.same] at h<;>first|(cases h;done)|(have:=fd h;subst this;rfl)
theorem RL {p q:PV}(h:cEq p q=true):p=q:=by
 unfold cEq at h;split at h
 ·rw[au] at h;obtain⟨h1,h2⟩:=h;rw[of_decide_eq_true h1,of_decide_eq_true h2]
 ·rw[eq_of_beq h]
 ·rfl
 ·cases h
theorem mI {a b:A}(h:A.eq a b=true):a=b:=by
 unfold A.eq at h;split at h
 ·rw[aS h]
 ·rw[RL h]
 ·cases h
theorem zh {x:A}{cs:List PV}(h:x.ev X.e=some (.agg cs)): ∀(l:List SC) (i:Nat) {vs:List Value},F2 (CR X) vs l→F2 X.T (vs.take (gT x i l)) ((cs.drop i).take (gT x i l))∧i+gT x i l≤max i cs.length∧gT x i l≤l.length
 |[],i,vs,hf=>by simp only[gT,da];exact⟨.nil,by omega,am _⟩
 |c::l,i,vs,hf=>by
  cases hf with
  |cons hc t=>
   cases c with
   |pc y j=>
    simp only[gT];split
    ·rename_i hb;simp only[au] at hb;have e1:=A.same_eq hb.1;have e2:=fd hb.2;subst e1;subst e2;obtain⟨k1,k2,k3⟩:=zh h l (i+1) t;cases hc with
     |pc h' ha hi r=>
      rw[h] at h';cases h';have hlt:=(aj.1 hi).1;refine⟨?_,by omega,by simp;omega⟩;rw[eH,bG hlt,eH,(aj.1 hi).2];exact .cons r k1
    ·simp only[da];exact⟨.nil,by omega,bD _⟩
   |_=>simp only[gT,da];exact⟨.nil,by omega,bD _⟩
theorem pZ {cs:List PV}(h:cs.all t0=true)(i n:Nat):((cs.drop i).take n).all t0=true:=by
 rw[aG] at h⊢;exact fun q hq=>h q (eg (fM hq))
theorem collapse_ok {cs:List SC}{a:Array Value}(h:F2 (CR X) a.toList cs):Sp X.e (kG cs) (WR X (.agg a)):=by
 unfold kG;split
 ·rename_i x i rest;split
  ·rename_i hb;have hrun:=fd hb;generalize hvs:a.toList=vs at h;cases h with
   | @cons v _ vs _ hc t=>
    cases hc with
    | @pc _ _ ds _ p hx hall hi r=>
     obtain⟨k1,k2,k3⟩:=zh hx rest (i+1) t;rw[hrun] at k1 k2;have hlt:=(aj.1 hi).1;have hlen:=t.len;rw[aR (by omega:vs.length≤rest.length)] at k1;have hd:(ds.drop i).take (rest.length+1)=p::(ds.drop (i+1)).take rest.length:=by
      rw[bG hlt,eH]
      congr 1
      exact(aj.1 hi).2
     have hall2:RTs X.w X.S a.toList ((ds.drop i).take (rest.length+1)):=by rw[hd,hvs];exact .of (.cons r k1)
     refine Sp.bind Sp.sizeOf fun k hk=>?_;split
     ·rename_i hb2;cases k with
      |none=>cases hb2
      |some k=>
       simp only[au] at hb2;have e1:=fd hb2.1;have e2:=fd hb2.2;subst e1;obtain⟨ds',h1,h2⟩:=hk k rfl;rw[hx] at h1;cases h1;rw[bS,aR (by simp at e2;omega)] at hall2;exact .ret (.av hx hall hall2)
     ·refine Sp.bind (Sp.emitN fun vs v h1 h2=>?_) fun y hy=>?_
      ·obtain⟨v',h4,rfl⟩:=o9 h1;rw[hx] at h4;cases h4;obtain⟨hl,rfl⟩:=bQ h2;exact⟨_,rfl,by rw[aH,bu];omega⟩
      ·obtain⟨u,h1,h2⟩:=ec hy hx;obtain⟨hl,rfl⟩:=bQ h1;exact .ret (.av h2 (pZ hall _ _) hall2)
  ·exact .ret (.agg h)
 ·exact .ret (.agg h)
def PartV (P:Program)(t:TypeId)(vs:List Value)(o:Nat)(v:Value):Prop:=
 (bv P t=some true∧ ∃n,szT P t=some n∧o+n≤vs.length∧v= .agg ((vs.drop o).take n).toArray)∨(bv P t=some false∧vs[o]?=some v)
theorem uB {t:TypeId}{c:SC}{v:Value}(h:CR X v c):Sp X.e (sf P t c) (WR X v):=by
 unfold sf;split
 ·split
  ·cases h with
   |pc hx ha hi r=>
    refine Sp.bind Sp.emit fun y hy=>?_;obtain⟨u,h1,h2⟩:=ec hy hx;simp only[RF.ev] at h1;rw[hi] at h1;cases h1;exact .ret (.c (.a h2 (all_get ha hi) r))
  ·exact .ret (.c h)
 ·exact .ret (.c h)
theorem partT_ok {t:TypeId}{cs:List SC}{vs:List Value}{o:Nat}(h:F2 (CR X) vs cs):Sp X.e (vq P t cs o) fun w=> ∃v,PartV P t vs o v∧WR X v w:=by
 unfold vq;split
 ·rename_i ha;split
  ·rename_i n hn;split
   ·rename_i hb;refine(collapse_ok (a:=((vs.drop o).take n).toArray) (by simpa using(h.drop o).take n)).mono fun w hw=>⟨_,.inl ⟨ha,n,hn,?_,rfl⟩,hw⟩
    rw[h.len];rwa [ei] at hb
   ·exact .fail
  ·exact .fail
 ·rename_i ha;split
  ·rename_i c hc;obtain⟨v,h1,h2⟩:=h.get' o c hc;exact(uB h2).mono fun w hw=>⟨v,.inr ⟨ha,h1⟩,hw⟩
  ·exact .fail
 ·exact .fail
theorem cnt_spec {t:TypeId}{n:Nat}(h:cnt P t=some n):(n=0∧bv P t=some false)∨(0<n∧bv P t=some true∧szT P t=some n):=by
 unfold cnt at h;split at h
 ·rename_i ha;split at h
  ·rename_i k hk;cases h;exact .inr ⟨by omega,ha,hk⟩
  ·cases h
 ·rename_i ha;cases h;exact .inl ⟨rfl,ha⟩
 ·cases h
theorem rowPart_spec {t:TypeId}{o n:Nat}{row:List PV}{p:PV}(hc:cnt P t=some n)(h:rowPart o n row=some p):(n=0∧bv P t=some false∧row[o]?=some p∧t0 p=true)∨(0<n∧bv P t=some true∧szT P t=some n∧o+n≤row.length∧p= .agg ((row.drop o).take n)∧((row.drop o).take n).all t0=true):=by
 rcases cnt_spec hc with⟨rfl,ha⟩|⟨hn,ha,hz⟩
 ·simp only[rowPart] at h;split at h
  ·rename_i q hq;obtain⟨ht,rfl⟩:=bQ h;exact .inl ⟨rfl,ha,hq,ht⟩
  ·cases h
 ·unfold rowPart at h;split at h
  ·omega
  ·obtain⟨hcond,rfl⟩:=bQ h;exact .inr ⟨hn,ha,hz,hcond.1,rfl,hcond.2⟩
theorem pd {t:TypeId}{n:Nat}{f:RF}{as:List A}{vs:List Value}{x m o:Nat}(hc:cnt P t=some n)(h: ∀xs p,evs X.e as=some xs→f.ev xs=some p→ ∃row,rowPart o n row=some p∧RTs X.w X.S ((vs.drop x).take m) row):Sp X.e (fb n f as) fun w=>(∃v,PartV P t vs (x+o) v∧WR X v w)∧ ∃xs p,evs X.e as=some xs∧f.ev xs=some p:=by
 have key: ∀{p:PV} {row:List PV} {y:A},rowPart o n row=some p→RTs X.w X.S ((vs.drop x).take m) row→y.ev X.e=some p→ ∃v,PartV P t vs (x+o) v∧WR X v (match n with|0=> .c (.a y)|_=> .av y):=by
  intro p row y h1 h2 h3;rcases rowPart_spec hc h1 with⟨rfl,ha,hr,ht⟩|⟨hn,ha,hz,hl,rfl,ht⟩
  ·obtain⟨v,k1,k2⟩:=h2.f2.get' o p hr;rw[cu] at k1;split at k1
   ·exact⟨v,.inr ⟨ha,by rwa [dX] at k1⟩,.c (.a h3 ht k2)⟩
   ·cases k1
  ·have hl':=h2.f2.len;simp only[aH,bu] at hl';refine⟨_,.inl ⟨ha,n,hz,by omega,rfl⟩,?_⟩;have h4:=(h2.f2.drop o).take n;rw[cS,b8,bi (by omega),dM] at h4;cases n with
   |zero=>omega
   |succ n=>exact .av h3 ht (by simpa using RTs.of h4)
 unfold fb;split
 ·refine Sp.bind Sp.emit fun y hy=>?_;obtain⟨xs,p,h1,h2,h3⟩:=hy;obtain⟨row,h4,h5⟩:=h xs p h1 h2;exact .ret ⟨key h4 h5 h3,xs,p,h1,h2⟩
 ·rename_i hne;refine Sp.bind (Sp.emitN fun xs p h1 h2=>?_) fun y hy=>?_
  ·obtain⟨row,h4,h5⟩:=h xs p h1 h2;rcases rowPart_spec hc h4 with⟨h0,_⟩|⟨hn,_,_,hl,rfl,_⟩
   ·exact absurd h0 hne
   ·exact⟨_,rfl,by rw[aH,bu];omega⟩
  ·obtain⟨xs,p,h1,h2,h3⟩:=hy;obtain⟨row,h4,h5⟩:=h xs p h1 h2;have:=key h4 h5 h3;cases n with
   |zero=>exact absurd rfl hne
   |succ n=>exact .ret ⟨this,xs,p,h1,h2⟩
theorem emitPart_ok {t:TypeId}{n:Nat}{f:RF}{as:List A}{vs:List Value}{x m o:Nat}(hc:cnt P t=some n)(h: ∀xs p,evs X.e as=some xs→f.ev xs=some p→ ∃row,rowPart o n row=some p∧RTs X.w X.S ((vs.drop x).take m) row):Sp X.e (fb n f as) fun w=> ∃v,PartV P t vs (x+o) v∧WR X v w:=(pd hc h).mono fun _ h=>h.1
theorem fE (g o i:Nat):(⟨g,o,none⟩:Addr).add i=⟨g,o+i,none⟩:=by
 unfold Addr.add;split
 ·rename_i h;rw[h];rfl
 ·rfl
theorem run_sizeOf {t n:Nat}(h:szT P t=some n)(w:World):(sizeOf t).run P w= .ok n w:=by
 unfold szT at h;rw[bf] at h;obtain⟨i,hi,hn⟩:=h;simp[Go.sizeOf,typeInfo,hi,hn]
theorem lD {t:Nat}{b:Bool}(h:bv P t=some b)(w:World):(isAgg t).run P w= .ok b w:=by
 unfold bv at h;rw[bf] at h;obtain⟨d,hd,rfl⟩:=h;unfold isAgg;rw[Sem.run_bind,run_underlying hd w];cases d<;>rfl
theorem pe {w:World}{B:Nat}{arr:Array Value}{ty:TypeId}{fz:Nat×Nat}(hg:w.heap[B]?=some (.cells arr ty fz))(o n:Nat)(h:o+n≤arr.size):(loadCells ⟨B,o,none⟩ n).run P w= .ok ((arr.toList.drop o).take n).toArray w:=by
 have:=run_loadCells_list (P:=P) w ⟨B,o,none⟩ ((arr.toList.drop o).take n) fun j v hv=>by
  rw[fE];simp only[World.cell?,hg];rw[cu] at hv;split at hv
  ·rw[dX] at hv;simpa using hv
  ·cases hv
 rwa [show((arr.toList.drop o).take n).length=n by simp;omega] at this
theorem qK {w:World}{B o:Nat}{arr:Array Value}{ty:TypeId}{fz:Nat×Nat}{t:TypeId}{v:Value}(hg:w.heap[B]?=some (.cells arr ty fz))(h:PartV P t arr.toList o v):(loadVar t ⟨B,o,none⟩).run P w= .ok v w:=by
 unfold loadVar;rcases h with⟨ha,n,hn,hl,rfl⟩|⟨ha,hv⟩
 ·simp[lD ha,run_sizeOf hn,pe hg o n (by simpa using hl)]
 ·have hc:w.cell? ⟨B,o,none⟩=some v:=by simp only[World.cell?,hg];simpa using hv
  rw[Sem.run_bind,lD ha];simp[load,Sem.run,hc]
theorem qL {z:Nat}: ∀{els:List (List PV)} {k:Nat} {row:List PV},(∀r∈els,r.length=z)→els[k]?=some row→(els.flatten.drop (k*z)).take z=row
 |[],k,row,_,h=>by simp at h
 |r::els,0,row,hr,h=>by
  simp at h;subst h;have:=hr r (by simp);rw[kY,bS,cT,cd (by omega),aR (by omega)]
 |r::els,k+1,row,hr,h=>by
  have:=hr r (by simp);rw[cT,kW,bR (by rw[bw];omega),ax,show(k+1)*z-r.length=k*z by rw[bw];omega]
  exact qL (fun r h=>hr r (by simp[h])) (by simpa using h)
theorem dL {z:Nat}: ∀{els:List (List PV)},(∀r∈els,r.length=z)→els.flatten.length=els.length*z
 |[],_=>by simp
 |r::els,hr=>by
  rw[cT,an,hr r (by simp),dL fun r h=>hr r (by simp[h]),aD,bw];omega
theorem tN {z:Nat}: ∀{n:Nat} {l:List (List PV)},(∀r∈l,r.length=z)→l.flatten.drop (n*z)=(l.drop n).flatten∧l.flatten.take (n*z)=(l.take n).flatten
 |0,l,_=>by simp
 |n+1,[],_=>by simp
 |n+1,r::l,hr=>by
  have hrl:=hr r (by simp);obtain⟨i1,i2⟩:=tN (n:=n) (l:=l) fun x hx=>hr x (by simp[hx]);have he:(n+1)*z=r.length+n*z:=by rw[bw];omega
  rw[cT,he,jK,jN,i1,i2];simp
theorem flat_drop {z n:Nat}{l:List (List PV)}(h: ∀r∈l,r.length=z):l.flatten.drop (n*z)=(l.drop n).flatten:=(tN h).1
theorem flat_take {z n:Nat}{l:List (List PV)}(h: ∀r∈l,r.length=z):l.flatten.take (n*z)=(l.take n).flatten:=(tN h).2
theorem uC {z k n:Nat}{vs:List Value}{els:List (List PV)}{row:List PV}(hr: ∀r∈els,r.length=z)(h:RTs X.w X.S (vs.take n) els.flatten)(hk:els[k]?=some row):RTs X.w X.S ((vs.drop (k*z)).take z) row:=by
 have h1:=(h.f2.drop (k*z)).take z;rw[qL hr hk] at h1;have hn:els.length*z≤n:=by
  have h2:=h.f2.len;rw[dL hr,aH] at h2;omega
 have hlt:=(aj.1 hk).1;have:k*z+z≤n:=by
  have:=bx z (show k+1≤els.length by omega)
  rw[bw] at this;omega
 rw[cS,b8,bi (by omega)] at h1;exact .of h1
theorem zi {o n:Nat}{els:List (List PV)}{kk:IntKind}{k:Nat}{p:PV}(h:(RF.elt o n).ev [.sl els,.v (.int kk k)]=some p): ∃row,els[k]?=some row∧rowPart o n row=some p:=by
 simp only[RF.ev,aq] at h;obtain⟨_,h⟩:=tM h;split at h
 ·rename_i row hr;exact⟨row,hr,h⟩
 ·cases h
theorem zj {base:Nat}{L:Nat→Prop}(hm:MR X base L){t:TypeId}{c:SC}{u:Value}(h:CR X u c):Sp X.e (pU P X.σ t c) fun w=> ∃v B o,u= .pointer (some ⟨B,o,none⟩)∧(loadVar t ⟨B,o,none⟩).run P X.w= .ok v X.w∧WR X v w:=by
 cases h with
 | @ptr b o B hb h=>
  simp only[pU];split
  ·rename_i cs hl;obtain⟨B',arr,h1,⟨ty,fz,hg,_⟩,h2⟩:=hm.bl b _ hl;obtain⟨l,h3⟩:=h _ (hm.kd _ _ hl);rw[h3] at h1;cases h1;exact(partT_ok (P:=P) h2).mono fun w ⟨v,k1,k2⟩=>⟨v,B,o,rfl,qK hg k1,k2⟩
  ·exact .fail
 | @ep b o B x i kk k hb hi h=>
  simp only[pU];split
  ·rename_i l nl z fz hl;split
   ·rename_i m hm';obtain⟨hz,els,h1,h2,h3,h4⟩:=hm.bl b _ hl;obtain⟨⟨lim,h5⟩,rfl⟩:=h _ _ (hm.kd _ _ hl);rcases h4 with⟨rfl,h4⟩|⟨B',arr,h4,⟨ty,fz',hg,_⟩,h6⟩
    ·rw[h5] at h4;cases h4
    ·rw[h5] at h4;cases h4;refine(emitPart_ok (vs:=arr.toList) (x:=k*z) (m:=z) (o:=o) hm' fun xs p e1 e2=>?_).mono fun w ⟨v,k1,k2⟩=>⟨v,B,_,rfl,qK hg k1,k2⟩;obtain⟨x,y,f1,f2,rfl⟩:=tL e1;rw[h1] at f1;cases f1;rw[hi] at f2;cases f2;obtain⟨row,g1,g2⟩:=zi e2;exact⟨row,g2,uC h3.l h6 g1⟩
   ·exact .fail
  ·exact .fail
 | @tp l i o B x els kk k row arr ty fz hl hi hr hS hg he=>
  simp only[pU];split
  ·rename_i m hm';refine(emitPart_ok (vs:=arr.toList) (x:=x) (m:=row.length) (o:=o) hm' fun xs p e1 e2=>?_).mono fun w ⟨v,k1,k2⟩=>⟨v,B,_,rfl,qK hg k1,k2⟩;obtain⟨x,y,f1,f2,rfl⟩:=tL e1;rw[hl] at f1;cases f1;rw[hi] at f2;cases f2;obtain⟨row',g1,g2⟩:=zi e2;rw[hr] at g1;cases g1;exact⟨row,g2,he⟩
  ·exact .fail
 |_=>exact .fail
end
section
variable {X:Cx}{P:Program}{base:Nat}{L:Nat→Prop}
def dR (X:Cx)(bs:List Nat):Prop:= ∀b∈bs,∃l nl z fz,look X.σ.bl b=some (.lst l nl z fz)
theorem dR.nil:dR X []:=fun _ h=>by cases h
theorem dR.app {bs cs:List Nat}(h:dR X bs)(k:dR X cs):dR X (bs++cs):=fun b hb=>(bh.1 hb).elim (h b) (k b)
def frS (X:Cx)(bs:List Nat)(B:Nat):Prop:=X.S B∨ ∃b∈bs,∃l,X.ρ b=some (B,l)
theorem frS_nil:Kp X.w X.S X.w (frS X []):=⟨fun _ h=> .inl h,fun _ _=>rfl⟩
theorem vz {bs cs:List Nat}:Kp X.w (frS X bs) X.w (frS X (bs++cs)):=⟨fun _ h=>h.imp id fun⟨b,hb,h⟩=>⟨b,b5 _ hb,h⟩,fun _ _=>rfl⟩
theorem vA {bs cs:List Nat}:Kp X.w (frS X cs) X.w (frS X (bs++cs)):=⟨fun _ h=>h.imp id fun⟨b,hb,h⟩=>⟨b,cI _ hb,h⟩,fun _ _=>rfl⟩
theorem frS_k {bs:List Nat}:Kp X.w X.S X.w (frS X bs):=⟨fun _ h=> .inl h,fun _ _=>rfl⟩
def Out (X:Cx)(v:Value)(r:A×List Nat):Prop:=(∃p,r.1.ev X.e=some p∧t0 p=true∧RT X.w (frS X r.2) v p)∧dR X r.2
theorem pf (hm:MR X base L){c:SC}{v:Value}(h:CR X v c):Sp X.e (gm X.σ c) (Out X v):=by
 cases h with
 |a h ht r=>exact .ret ⟨⟨_,h,ht,r.mono frS_nil⟩,.nil⟩
 |pc h ha hi r=>
  simp only[gm];refine Sp.bind Sp.emit fun y hy=>?_;obtain⟨u,h1,h2⟩:=ec hy h;simp only[RF.ev] at h1;rw[hi] at h1;cases h1;exact .ret ⟨⟨_,h2,all_get ha hi,r.mono frS_nil⟩,.nil⟩
 |nil h=>exact .ret ⟨⟨_,rfl,rfl,.nil h⟩,.nil⟩
 | @lsl b o n v hb h1 h=>
  simp only[gm];split
  ·rename_i l nl z fz hl;refine Sp.bind Sp.emit fun y hy=> .ret ⟨?_,fun b' hb'=>by simp at hb';subst hb';exact⟨_,_,_,_,hl⟩⟩;obtain⟨oi,ni,Ln,e1,e2,e3,e4,e5⟩:=h _ _ (hm.kd _ _ hl);obtain⟨hz,els,k1,k2,k3,k4⟩:=hm.bl b _ hl;rw[e3] at k2;simp only[aK,PV.v.injEq,Value.int.injEq,true_and] at k2;have hLn:Ln=els.length:=by omega
   subst hLn;obtain⟨u,q1,q2⟩:=fS hy k1 e1 e2;obtain⟨_,rfl⟩:=bQ q1;simp only[aq] at q2;refine⟨_,q2,rfl,?_⟩;rcases e5 with⟨B,lim,cap,f1,rfl,f2,f3⟩|⟨rfl,hv,_⟩
   ·rcases k4 with⟨_,k4⟩|⟨B',arr,k4,⟨ty,fz',hg,_⟩,k6⟩
    ·rw[f1] at k4;cases k4
    ·rw[f1] at k4;cases k4;refine .sl (.inr ⟨b,by simp,_,f1⟩) hg hz (by simp;omega) (by omega) (k3.sub _ _) ?_;have h5:=((RTs.f2 k6).drop (oi*z)).take (ni*z);rw[flat_drop k3.l,flat_take (k3.d _).l,cS,b8] at h5;rw[bi (by have:=bx z e4;rw[bw] at this;omega)] at h5;exact(RTs.of h5).mono frS_k
   ·rw[da];exact .nil hv
  ·exact .fail
 |_=>exact .fail
def OutL (X:Cx)(vs:List Value)(r:List A×List Nat):Prop:=(∃xs,evs X.e r.1=some xs∧(xs.flatMap PV.cells).all t0=true∧RTs X.w (frS X r.2) vs (xs.flatMap PV.cells))∧dR X r.2
theorem evs_cons {e:List PV}{a:A}{as:List A}{p:PV}{ps:List PV}(h:a.ev e=some p)(k:evs e as=some ps):evs e (a::as)=some (p::ps):=by simp only[evs,h,k]
theorem OutL.cons {v:Value}{vs:List Value}{p:A×List Nat}{q:List A×List Nat}(h:Out X v p)(k:OutL X vs q):OutL X (v::vs) (p.1::q.1,p.2++q.2):=by
 obtain⟨⟨x,h1,h2,h3⟩,h4⟩:=h;obtain⟨⟨xs,k1,k2,k3⟩,k4⟩:=k;have hx:x.cells=[x]:=by cases x<;>first|rfl|simp[t0] at h2
 refine⟨⟨x::xs,evs_cons h1 k1,?_,?_⟩,h4.app k4⟩
 ·rw[df,hx];simp only[fA,bL,h2,k2,bV]
 ·rw[df,hx];exact .cons (h3.mono vz) (k3.mono vA)
theorem ke (hm:MR X base L): ∀(k:Nat) {cs:List SC} {vs:List Value},F2 (CR X) vs cs→Sp X.e (deep0Ls X.σ k cs) (OutL X vs)
 |k,[],vs,h=>by
  cases h;unfold deep0Ls;exact .ret ⟨⟨[],rfl,rfl,.nil⟩,.nil⟩
 |0,c::cs,vs,h=> .fail
 |k+1,c::cs,vs,h=>by
  have one: ∀(c:SC) (vs:List Value),F2 (CR X) vs (c::cs)→Sp X.e (EM.bind (gm X.σ c) fun p=>EM.bind (deep0Ls X.σ k cs) fun q=>EM.ret (p.1::q.1,p.2++q.2)) (OutL X vs):=fun c vs h=>by
   cases h with
   |cons h t=>exact Sp.bind (pf hm h) fun p hp=>Sp.bind (ke hm k t) fun q hq=> .ret (OutL.cons hp hq)
  unfold deep0Ls;split
  ·rename_i x i;cases h with
   | @cons v _ vs _ h t=>
   cases h with
   | @pc _ _ ds _ p hx ha hi r=>
   obtain⟨k1,k2,k3⟩:=zh hx cs (i+1) t;split
   ·refine Sp.bind Sp.emit fun y hy=>Sp.bind (ke hm k t) fun q hq=>?_;obtain⟨u,h1,h2⟩:=ec hy hx;simp only[RF.ev] at h1;rw[hi] at h1;cases h1;exact .ret (OutL.cons (p:=(y,[])) ⟨⟨_,h2,all_get ha hi,r.mono frS_nil⟩,.nil⟩ hq)
   ·rename_i n hn;rw[hn] at k1 k2 k3;have hlt:=(aj.1 hi).1;refine Sp.bind (Sp.emitN fun vs v h1 h2=>?_) fun y hy=>Sp.bind (ke hm k (t.drop (n+1))) fun q hq=>?_
    ·obtain⟨v',h4,rfl⟩:=o9 h1;rw[hx] at h4;cases h4;obtain⟨hl,rfl⟩:=bQ h2;exact⟨_,rfl,by rw[aH,bu];omega⟩
    ·obtain⟨u,h1,h2⟩:=ec hy hx;obtain⟨hl,rfl⟩:=bQ h1;obtain⟨⟨xs,q1,q2,q3⟩,q4⟩:=hq;have hd:(ds.drop i).take (n+2)=p::(ds.drop (i+1)).take (n+1):=by
      rw[bG hlt,eH]
      congr 1
      exact(aj.1 hi).2
     refine .ret ⟨⟨_::xs,evs_cons h2 q1,?_,?_⟩,q4⟩
     ·rw[df,i8,q2,eL];exact pZ ha _ _
     ·rw[df];show RTs X.w (frS X q.2) (v::vs) ((ds.drop i).take (n+2)++_)
      rw[hd,←d6 (n+1) vs];exact .of ((F2.cons (r.mono frS_k) ((RTs.of k1).mono frS_k).f2).append q3.f2)
  ·exact one _ _ h
theorem deepS_ok (hm:MR X base L){w:SW}{v:Value}(h:WR X v w):Sp X.e (pV X.σ w) fun r=>(∃p,r.1.ev X.e=some p∧RT X.w (frS X r.2) v p∧((∃c,w= .c c)→t0 p=true))∧dR X r.2:=by
 unfold pV;split
 ·rename_i cs;cases h with
  |agg h=>
   have hl:=h.len;refine Sp.bind (ke hm _ h) fun q ⟨⟨xs,q1,q2,q3⟩,q4⟩=>Sp.bind (Sp.emitN fun vs v h1 h2=>?_) fun y hy=>?_
   ·rw[q1] at h1;cases h1;obtain⟨_,rfl⟩:=bQ h2;exact⟨_,rfl,by rw[←q3.f2.len,hl]⟩
   ·obtain⟨vs,u,h1,h2,h3⟩:=hy;rw[q1] at h1;cases h1;obtain⟨_,rfl⟩:=bQ h2;exact .ret ⟨⟨_,h3,.agg q3 q2,fun⟨_,e⟩=>by cases e⟩,q4⟩
 ·cases h with
  |av h ht r=>exact .ret ⟨⟨_,h,.agg (r.mono frS_nil) ht,fun⟨_,e⟩=>by cases e⟩,.nil⟩
 ·cases h with
  |c h=>exact(pf hm h).mono fun r ⟨⟨p,h1,h2,h3⟩,h4⟩=>⟨⟨p,h1,h3,fun _=>h2⟩,h4⟩
theorem im (hm:MR X base L): ∀{ws:List SW} {vs:List Value},F2 (WR X) vs ws→Sp X.e (mF X.σ ws) fun r=>(∃ps,evs X.e r.1=some ps∧F2 (RT X.w (frS X r.2)) vs ps)∧dR X r.2
 |_,_,.nil=> .ret ⟨⟨[],rfl,.nil⟩,.nil⟩
 |_,_,.cons h t=>by
  unfold mF;refine Sp.bind (deepS_ok hm h) fun p ⟨⟨x,h1,h2,_⟩,h3⟩=>Sp.bind (im hm t) fun q ⟨⟨xs,q1,q2⟩,q3⟩=> .ret ⟨⟨x::xs,evs_cons h1 q1,.cons (h2.mono vz) (q2.mono fun _ _ h=>h.mono vA)⟩,h3.app q3⟩
def Cx.fz (X:Cx)(bs:List Nat):Cx:={X with S:=frS X bs,σ:=b7 X.σ bs}
theorem f7: ∀(bs:List Nat) (σ:SS) (b:Nat),look (b7 σ bs).bl b=if b∈bs then(look σ.bl b).map freezeB else look σ.bl b
 |[],σ,b=>by simp[b7]
 |c::bs,σ,b=>by
  have idem: ∀x,freezeB (freezeB x)=freezeB x:=fun x=>by cases x<;>rfl
  unfold b7;cases h:look σ.bl c with
  |none=>
   simp only;rw[f7 bs];by_cases e:b=c
   ·subst e;simp[h]
   ·simp[e]
  |some sb=>
   simp only;rw[f7 bs];simp only[look_put];by_cases e:b=c
   ·subst e;simp[h,idem]
   ·simp[e]
theorem kf: ∀(bs:List Nat) (σ:SS),(b7 σ bs).nb=σ.nb∧(b7 σ bs).tm=σ.tm∧(b7 σ bs).n=σ.n∧(b7 σ bs).fc=σ.fc∧(b7 σ bs).sz=σ.sz
 |[],σ=>⟨rfl,rfl,rfl,rfl,rfl⟩
 |c::bs,σ=>by
  unfold b7;split
  ·exact kf bs _
  ·exact kf bs _
theorem HY (sb:SB):kd (freezeB sb)=kd sb:=by cases sb<;>rfl
theorem BR.step {X X':Cx}(k:Sx X X'){b:Nat}(hb:X.nm b)(hw: ∀B l,X.ρ b=some (B,l)→X'.w.heap[B]?=X.w.heap[B]?): ∀{sb:SB},BR X b sb→BR X' b sb
 | .box cs,⟨B,arr,h1,⟨ty,fz,h2,h3⟩,h4⟩=>⟨B,arr,by rw[k.ρ b hb];exact h1,⟨ty,fz,by rw[hw B _ h1];exact h2,h3⟩,h4.mono fun _ _ h=>h.step k⟩
 | .lst l nl z f,⟨hz,els,h1,h2,h3,h4⟩=>⟨hz,els,k.ev h1,k.ev h2,h3,by
   rw[k.ρ b hb];exact h4.imp id fun⟨B,arr,q1,⟨ty,fz,q2,q3⟩,q4⟩=>⟨B,arr,q1,⟨ty,fz,by rw[hw B _ q1];exact q2,q3⟩,q4.mono k.k⟩⟩
 | .map l _ _ _,⟨B,es,ck,rows,h1,h2,h3,h4⟩=>⟨B,es,ck,rows,by rw[k.ρ b hb];exact h1,by rw[hw B _ h1];exact h2,k.ev h3,F2.mono (fun _ _ ⟨ks,vs,e,a,b,c⟩=>⟨ks,vs,e,a.mono k.k,b.mono k.k,c⟩) h4⟩
theorem BR.freeze {b:Nat}: ∀{sb:SB},BR X b sb→BR X b (freezeB sb)
 | .box _,h=>h
 | .lst ..,h=>h
 | .map ..,h=>h
theorem nS (hm:MR X base L){bs:List Nat}(hl:dR X bs):Nx X base L (X.fz bs):=by
 obtain⟨e1,_,_,e2,e3⟩:=kf bs X.σ;have hlook: ∀b sb',look (X.fz bs).σ.bl b=some sb'→ ∃sb,look X.σ.bl b=some sb∧sb'=(if b∈bs then freezeB sb else sb):=by
  intro b sb' h;rw[show(X.fz bs).σ=b7 X.σ bs from rfl,f7] at h
  split at h
  ·rename_i hb;rw[bf] at h;obtain⟨sb,h1,rfl⟩:=h;exact⟨sb,h1,by rw[if_pos hb]⟩
  ·rename_i hb;exact⟨sb',h,by rw[if_neg hb]⟩
 have sx:Sx X (X.fz bs):=⟨⟨[],by simp[Cx.fz]⟩,fun _ _=>rfl,⟨fun _ h=> .inl h,fun _ _=>rfl⟩,fun b sb' _ h=>h,fun _ h=>h⟩;refine⟨sx,⟨fun b sb' h=>?_,fun b sb' h=>?_,fun b hb=>hm.fr b (by rw[←e1];exact hb),fun b sb' h=>?_,fun b sb' B l h hρ=>?_,fun b b' sb sb' B l l' h h'=>?_,fun B hB=>?_,hm.hb,?_,?_⟩,.refl,fun B hB=>?_,rfl,rfl,by rw[show(X.fz bs).σ=b7 X.σ bs from rfl,e1];exact am _,fun _ h=> .inl h,fun b _ h=>⟨rfl,by rw[show(X.fz bs).σ=b7 X.σ bs from rfl,f7,h];split<;>rfl⟩⟩
 ·obtain⟨sb,h1,_⟩:=hlook b sb' h;exact hm.lt b sb h1
 ·obtain⟨sb,h1,rfl⟩:=hlook b sb' h;refine(hm.kd b sb h1).trans ?_;split<;>simp[HY]
 ·obtain⟨sb,h1,rfl⟩:=hlook b sb' h;have:=(hm.bl b sb h1).step sx (hm.lt b sb h1) fun _ _ _=>rfl;split
  ·exact this.freeze
  ·exact this
 ·obtain⟨sb,h1,rfl⟩:=hlook b sb' h;obtain⟨k1,k2⟩:=hm.own b sb B l h1 hρ;refine⟨k1,?_⟩;show frS X bs B↔_
  unfold frS;rw[k2];constructor
  ·rintro(h2|⟨b',hb',l',h3⟩)
   ·split
    ·cases sb<;>simp[frz] at h2<;>rfl
    ·exact h2
   ·obtain⟨_,_,_,_,h4⟩:=hl b' hb';have:=hm.inj b b' _ _ B l l' h1 h4 hρ h3;subst this;rw[h1] at h4;cases h4;rw[if_pos hb'];rfl
  ·intro h2;split at h2
   ·rename_i hb;exact .inr ⟨b,hb,l,hρ⟩
   ·exact .inl h2
 ·obtain⟨sb,h1,_⟩:=hlook b sb h;obtain⟨sb',h2,_⟩:=hlook b' sb' h';exact hm.inj b b' _ _ B l l' h1 h2
 ·rcases hB with hB|⟨b,hb,l,hρ⟩
  ·exact hm.cur B hB
  ·obtain⟨lv,nl,z,f,h1⟩:=hl b hb;obtain⟨_,els,_,_,_,h2⟩:=hm.bl b _ h1;rcases h2 with⟨_,h2⟩|⟨B',arr,h2,⟨ty,fz,hg,_⟩,_⟩
   ·rw[hρ] at h2;cases h2
   ·rw[hρ] at h2;cases h2;exact(bC.1 hg).1
 ·rw[show(X.fz bs).σ=b7 X.σ bs from rfl,e3];exact hm.sz
 ·rw[show(X.fz bs).σ=b7 X.σ bs from rfl,e2];exact hm.fc
 ·rcases hB with hB|⟨b,hb,l,hρ⟩
  ·exact .inl hB
  ·obtain⟨lv,nl,z,f,h1⟩:=hl b hb;exact .inr (hm.own b _ B l h1 hρ).1
end
structure But (B:Nat)(w w':World):Prop where
 os:w'.os=w.os
 tape:w'.tape=w.tape
 output:w'.output=w.output
 size:w.heap.size≤w'.heap.size
 block: ∀k,k≠B→k<w.heap.size→w'.heap[k]?=w.heap[k]?
 drawn:w.drawn≤w'.drawn
theorem But.refl {B:Nat}{w:World}:But B w w:=⟨rfl,rfl,rfl,am _,fun _ _ _=>rfl,am _⟩
theorem But.trans {B:Nat}{w w' w'':World}(h:But B w w')(k:But B w' w''):But B w w'':=⟨k.os.trans h.os,k.tape.trans h.tape,k.output.trans h.output,bc h.size k.size,fun i h1 h2=>(k.block i h1 (bB h2 h.size)).trans (h.block i h1 h2),bc h.drawn k.drawn⟩
theorem But.drew {B:Nat}{w:World}:But B w w.drew:=⟨rfl,rfl,rfl,am _,fun _ _ _=>rfl,cJ _⟩
theorem But.alloc {B:Nat}{w:World}(o:Obj):But B w (w.alloc o):=⟨rfl,rfl,rfl,by show _≤(w.heap.push o).size;simp,fun k _ hk=>Below.heap_alloc w o k hk,am _⟩
theorem But.setCell {w:World}(a:Addr)(v:Value):But a.block w (w.setCell a v):=⟨rfl,rfl,rfl,by simp[World.setCell],fun k hk _=>Below.heap_setCell w a v k hk,am _⟩
theorem kJ (w:World)(o:Obj):(w.alloc o).heap[w.heap.size]?=some o:=by show(w.heap.push o)[w.heap.size]?=_;simp
section
variable {X:Cx}{P:Program}{base:Nat}{L:Nat→Prop}
theorem dom_lt (hm:MR X base L){b:Nat}{sb:SB}{B l:Nat}(h:look X.σ.bl b=some sb)(hr:X.ρ b=some (B,l)):B<X.w.heap.size:=by
 have hbr:=hm.bl b sb h;cases sb with
 |box cs=>
  obtain⟨B',arr,h1,⟨ty,fz,hg,_⟩,_⟩:=hbr;rw[hr] at h1;cases h1;exact(bC.1 hg).1
 |lst l nl z f=>
  obtain⟨_,els,_,_,_,⟨_,h1⟩|⟨B',arr,h1,⟨ty,fz,hg,_⟩,_⟩⟩:=hbr
  ·rw[hr] at h1;cases h1
  ·rw[hr] at h1;cases h1;exact(bC.1 hg).1
 |map l=>
  obtain⟨B',es,ck,rows,h1,hg,_⟩:=hbr;rw[hr] at h1;cases h1;exact(bC.1 hg).1
theorem mJ (hm:MR X base L){ρ':Nat→Option (Nat×Nat)}{w':World}{σ':SS}{A':Nat→Prop}{K':Nat→Option SB}{b0 B0:Nat}{sb0:SB}(hold: ∀b sb,b≠b0→look σ'.bl b=some sb→look X.σ.bl b=some sb∧K' b=X.K b)(h0:look σ'.bl b0=some sb0)(hK0:K' b0=some (kd sb0))(hf:frz sb0=false)
  (hρ: ∀b,X.nm b→ρ' b=X.ρ b) (hA: ∀b,X.nm b→A' b) (hb0:A' b0) (hfr: ∀b,σ'.nb≤b→b<X.N→¬A' b) (hnb:X.σ.nb≤σ'.nb) (hAb: ∀b,A' b→X.nm b∨(X.σ.nb≤b∧b<σ'.nb)) (hK: ∀b,X.nm b→(K' b=X.K b∧(b≠b0∨ ∃sb,look X.σ.bl b=some sb))∨(K' b=none∧ ∃sb,look X.σ.bl b=some sb))
  (hB: ∀B l,ρ' b0=some (B,l)→B=B0) (hown:base≤B0∨L B0) (hS:¬X.S B0)
  (hinj: ∀b sb l,b≠b0→look σ'.bl b=some sb→X.ρ b≠some (B0,l)) (hw:But B0 X.w w') (hsz:σ'.sz=X.σ.sz) (hfc:σ'.fc=X.σ.fc) (hbr:Sx X ⟨X.e,ρ',X.S,w',σ',A',X.N,K'⟩→BR ⟨X.e,ρ',X.S,w',σ',A',X.N,K'⟩ b0 sb0):Nx X base L ⟨X.e,ρ',X.S,w',σ',A',X.N,K'⟩:=by
 have sx:Sx X ⟨X.e,ρ',X.S,w',σ',A',X.N,K'⟩:=by
  refine⟨⟨[],by simp⟩,hρ,⟨fun _ h=>h,fun B h=>hw.block B (fun e=>hS (e▸h)) (hm.cur B h)⟩,fun b sb' hb h=>?_,hA⟩;rcases hK b hb with⟨h1,_⟩|⟨h1,_⟩
  ·exact h1.symm.trans h
  ·exact absurd (h1.symm.trans h) (fun e=>by cases e)
 have hold': ∀b sb,b≠b0→look σ'.bl b=some sb→look X.σ.bl b=some sb:=fun b sb h k=>(hold b sb h k).1;refine⟨sx,⟨fun b sb h=>?_,fun b sb h=>?_,hfr,fun b sb h=>?_,fun b sb B l h hr=>?_,fun b b' sb sb' B l l' h h' hr hr'=>?_,fun B h=>bB (hm.cur B h) hw.size,bc hm.hb hw.size,?_,?_⟩,⟨hw.os,hw.tape,hw.output,hw.size,fun k hk hL=>?_,hw.drawn⟩,fun _ h=> .inl h,rfl,rfl,hnb,hAb,fun b h1 h2=>?_⟩
 ·by_cases e:b=b0
  ·rw[e];exact hb0
  ·exact hA b (hm.lt b sb (hold' b sb e h))
 ·by_cases e:b=b0
  ·subst e;rw[h0] at h;cases h;exact hK0
  ·obtain⟨h1,h2⟩:=hold b sb e h;exact h2.trans (hm.kd b sb h1)
 ·by_cases e:b=b0
  ·subst e;rw[h0] at h;cases h;exact hbr sx
  ·have h1:=hold' b sb e h;exact(hm.bl b sb h1).step sx (hm.lt b sb h1) fun B l hr=>hw.block B (fun e'=>hinj b sb l e h (e'▸hr)) (dom_lt hm h1 hr)
 ·by_cases e:b=b0
  ·subst e;rw[h0] at h;cases h;have:=hB B l hr;subst this;exact⟨hown,by simp[hf,hS]⟩
  ·have h1:=hold' b sb e h;exact hm.own b sb B l h1 ((hρ b (hm.lt b sb h1)).symm.trans hr)
 ·by_cases e:b=b0<;>by_cases e':b'=b0
  ·rw[e,e']
  ·exfalso;subst e;have h1:=hold' b' sb' e' h';rw[hB B l hr] at hr';exact hinj b' sb' l' e' h' (by rw[←hρ b' (hm.lt b' sb' h1)];exact hr')
  ·exfalso;subst e';have h1:=hold' b sb e h;rw[hB B l' hr'] at hr;exact hinj b sb l e h (by rw[←hρ b (hm.lt b sb h1)];exact hr)
  ·have h1:=hold' b sb e h;have h2:=hold' b' sb' e' h';exact hm.inj b b' sb sb' B l l' h1 h2 ((hρ b (hm.lt b sb h1)).symm.trans hr) ((hρ b' (hm.lt b' sb' h2)).symm.trans hr')
 ·rw[hsz];exact hm.sz
 ·rw[hfc];exact hm.fc
 ·have:=hm.hb;rcases hown with h|h
  ·exact hw.block k (by omega) (by omega)
  ·exact hw.block k (fun e=>hL (e▸h)) (by omega)
 ·rcases hK b h1 with⟨h3,h4⟩|⟨_,sb,h4⟩
  ·refine⟨h3,?_⟩;have hne:b≠b0:=h4.elim id fun⟨sb,h5⟩=>by rw[h2] at h5;cases h5
   cases h5:look σ'.bl b with
   |none=>rfl
   |some sb=>rw[hold' b sb hne h5] at h2;cases h2
  ·rw[h2] at h4;cases h4
def upR {α:Type}(ρ:Nat→Option α)(b:Nat)(r:Option α):Nat→Option α:=fun x=>if x=b then r else ρ x
theorem upR_self {α:Type}{ρ:Nat→Option α}{b:Nat}{r:Option α}:upR ρ b r b=r:=if_pos rfl
theorem eQ {α:Type}{ρ:Nat→Option α}{b x:Nat}{r:Option α}(h:x≠b):upR ρ b r x=ρ x:=if_neg h
def upA (A:Nat→Prop)(b x:Nat):Prop:=A x∨x=b
def Cx.nw (X:Cx)(w':World)(r:Option (Nat×Nat))(sb:SB):Cx:=⟨X.e,upR X.ρ X.σ.nb r,X.S,w',X.σ.new sb,upA X.nm X.σ.nb,X.N,upR X.K X.σ.nb (some (kd sb))⟩
theorem sG (hm:MR X base L)(hN:X.σ.nb<X.N){w':World}{r:Option (Nat×Nat)}{sb:SB}(hf:frz sb=false)(hr: ∀B l,r=some (B,l)→B=X.w.heap.size)(hw:But X.w.heap.size X.w w')(hbr:Sx X (X.nw w' r sb)→BR (X.nw w' r sb) X.σ.nb sb):Nx X base L (X.nw w' r sb):=
 mJ hm (b0:=X.σ.nb) (B0:=X.w.heap.size) (fun b sb' hne h=>⟨by simpa [SS.new,look_put,hne] using h,eQ hne⟩) (by simp[SS.new,look_put]) upR_self hf (fun b hb=>eQ fun e=>hm.fr _ (am _) hN (e▸hb)) (fun _ h=> .inl h) (.inr rfl) (fun b hb hn h=>h.elim (hm.fr b (jW hb) hn) fun e=>by subst e;exact cp _ hb) (cJ _) (fun b h=>h.elim .inl fun e=> .inr (by subst e;exact⟨am _,dN _⟩)) (fun b hb=> .inl ⟨eQ fun e=>hm.fr _ (am _) hN (e▸hb),.inl fun e=>hm.fr _ (am _) hN (e▸hb)⟩)
  (fun B l h=>by rw[upR_self] at h;exact hr B l h) (.inl hm.hb) (fun h=>cp _ (hm.cur _ h)) (fun b sb' l hne h=>fun hr=>by
   have h':look X.σ.bl b=some sb':=by simpa [SS.new,look_put,hne] using h
   exact cp _ (dom_lt hm h' hr)) hw rfl rfl hbr
def Cx.pt (X:Cx)(w':World)(b:Nat)(sb:SB):Cx:=⟨X.e,X.ρ,X.S,w',{X.σ with bl:=put X.σ.bl b sb},X.nm,X.N,X.K⟩
theorem kK (hm:MR X base L){w':World}{b B l:Nat}{sb sb':SB}(hl:look X.σ.bl b=some sb)(hr:X.ρ b=some (B,l))(hf:frz sb=false)(hf':frz sb'=false)(hk:kd sb'=kd sb)(hw:But B X.w w')(hbr:Sx X (X.pt w' b sb')→BR (X.pt w' b sb') b sb'):Nx X base L (X.pt w' b sb'):=by
 obtain⟨h1,h2⟩:=hm.own b sb B l hl hr;refine mJ hm (b0:=b) (B0:=B) (fun b' sb' hne h=>⟨by simpa [look_put,hne] using h,rfl⟩) (by simp[look_put]) (by rw[hk];exact hm.kd b sb hl) hf' (fun _ _=>rfl) (fun _ h=>h) (hm.lt b sb hl) hm.fr (am _) (fun _ h=> .inl h) (fun b' hb=> .inl ⟨rfl,if e:b'=b then .inr ⟨sb,by rw[e];exact hl⟩ else .inl e⟩) (fun B' l' h=>by rw[hr] at h;cases h;rfl) h1 (fun h=>by rw[h2,hf] at h;cases h) (fun b' sb2 l' hne h=>fun hr'=>?_) hw rfl rfl hbr
 have h':look X.σ.bl b'=some sb2:=by simpa [look_put,hne] using h
 exact hne (hm.inj b' b sb2 sb B l' l h' hl hr' hr)
def Cx.re (X:Cx)(w':World)(b:Nat)(r:Option (Nat×Nat))(sb:SB):Cx:=⟨X.e,upR X.ρ X.σ.nb r,X.S,w',(X.σ.kill b).new sb,upA X.nm X.σ.nb,X.N,upR (upR X.K b none) X.σ.nb (some (kd sb))⟩
theorem tO {b k:Nat}{sb sb':SB}{σ:SS}(hne:b≠σ.nb)(h:look ((σ.kill k).new sb).bl b=some sb'):look σ.bl b=some sb'∧b≠k:=by
 simp only[SS.new,SS.kill,look_put,nQ] at h;rw[if_neg hne] at h;split at h
 ·cases h
 ·rename_i e;exact⟨h,e⟩
theorem Tf (hm:MR X base L)(hN:X.σ.nb<X.N){w':World}{b B l l':Nat}{sb sb':SB}(hl:look X.σ.bl b=some sb)(hr:X.ρ b=some (B,l))(hf:frz sb=false)(hf':frz sb'=false)(hw:But B X.w w')(hbr:Sx X (X.re w' b (some (B,l')) sb')→BR (X.re w' b (some (B,l')) sb') X.σ.nb sb'):Nx X base L (X.re w' b (some (B,l')) sb'):=by
 obtain⟨h1,h2⟩:=hm.own b sb B l hl hr;refine mJ hm (b0:=X.σ.nb) (B0:=B) (fun b' sb2 hne h=>⟨(tO hne h).1,(eQ hne).trans (eQ (tO hne h).2)⟩) (by simp[SS.new,SS.kill,look_put]) upR_self hf' (fun b hb=>eQ fun e=>hm.fr _ (am _) hN (e▸hb)) (fun _ h=> .inl h) (.inr rfl) (fun b hb hn h=>h.elim (hm.fr b (jW hb) hn) fun e=>by subst e;exact cp _ hb) (cJ _) (fun b h=>h.elim .inl fun e=> .inr (by subst e;exact⟨am _,dN _⟩)) (fun b' hb=>by
  have hne:b'≠X.σ.nb:=fun e=>hm.fr _ (am _) hN (e▸hb);by_cases e:b'=b
  ·exact .inr ⟨(eQ hne).trans (by rw[e];exact upR_self),sb,by rw[e];exact hl⟩
  ·exact .inl ⟨(eQ hne).trans (eQ e),.inl hne⟩) (fun B' l2 h=>by rw[upR_self] at h;cases h;rfl) h1 (fun h=>by rw[h2,hf] at h;cases h) (fun b' sb2 l2 hne h=>fun hr'=>?_) hw rfl rfl hbr
 obtain⟨h3,h4⟩:=tO hne h;exact h4 (hm.inj b' b sb2 sb B l2 l h3 hl hr' hr)
def Cx.kl (X:Cx)(b:Nat):Cx:={X with σ:=X.σ.kill b,K:=upR X.K b none}
theorem tP (hm:MR X base L){b:Nat}{sb0:SB}(h0:look X.σ.bl b=some sb0):Nx X base L (X.kl b):=by
 have hlook: ∀b' sb,look (X.kl b).σ.bl b'=some sb→look X.σ.bl b'=some sb∧b'≠b:=fun b' sb h=>by
  simp only[Cx.kl,SS.kill,nQ] at h;split at h
  ·cases h
  ·rename_i e;exact⟨h,e⟩
 have sx:Sx X (X.kl b):=⟨⟨[],by simp[Cx.kl]⟩,fun _ _=>rfl,⟨fun _ h=>h,fun _ _=>rfl⟩,fun b' sb _ h=>by
  have h:upR X.K b none b'=some sb:=h;unfold upR at h;split at h
  ·cases h
  ·exact h,fun _ h=>h⟩
 exact⟨sx,⟨fun b' sb h=>hm.lt b' sb (hlook b' sb h).1,fun b' sb h=>(eQ (hlook b' sb h).2).trans (hm.kd b' sb (hlook b' sb h).1),hm.fr,fun b' sb h=>(hm.bl b' sb (hlook b' sb h).1).step sx (hm.lt b' sb (hlook b' sb h).1) fun _ _ _=>rfl,fun b' sb B l h=>hm.own b' sb B l (hlook b' sb h).1,fun b1 b2 s1 s2 B l l' h h'=>hm.inj b1 b2 s1 s2 B l l' (hlook _ _ h).1 (hlook _ _ h').1,hm.cur,hm.hb,hm.sz,hm.fc⟩,.refl,fun _ h=> .inl h,rfl,rfl,am _,fun _ h=> .inl h,fun b' _ h=>by
  have hne:b'≠b:=fun e=>by rw[e,h0] at h;cases h
  refine⟨eQ hne,?_⟩;cases h':look (X.kl b).σ.bl b' with
  |none=>rfl
  |some sb=>rw[(hlook b' sb h').1] at h;cases h⟩
end
section
variable {X:Cx}{P:Program}{base:Nat}{L:Nat→Prop}
def EvR (X:Cx)(ρc:Operand→Value):Prop:=(∀v,ρc (.const v)=v)∧ ∀x sv,opS X.σ x=some sv→VR X (ρc x) sv
theorem VR.inv {v:Value}{w:SW}(h:VR X v (.w w)):WR X v w:=by cases h;assumption
theorem WR.inv {v:Value}{c:SC}(h:WR X v (.c c)):CR X v c:=by cases h;assumption
section
variable {ρc:Operand→Value}(hρ:EvR X ρc)
include hρ
theorem opW_ok {x:Operand}{w:SW}(h:opW X.σ x=some w):WR X (ρc x) w:=by
 unfold opW at h;split at h
 ·rename_i w' hw;cases h;exact(hρ.2 x _ hw).inv
 ·cases h
theorem opC_ok {x:Operand}{c:SC}(h:opC X.σ x=some c):CR X (ρc x) c:=by
 unfold opC at h;split at h
 ·rename_i c' hw;cases h;exact(opW_ok hρ hw).inv
 ·cases h
theorem opWs_ok: ∀{xs:List Operand} {ws:List SW},Ey X.σ xs=some ws→F2 (WR X) (xs.map ρc) ws
 |[],_,h=>by cases h;exact .nil
 |x::xs,ws,h=>by
  unfold Ey at h;split at h
  ·rename_i w hw;split at h
   ·rename_i l hl;cases h;exact .cons (opW_ok hρ hw) (opWs_ok hl)
   ·cases h
  ·cases h
theorem pairsS_ok: ∀{xs:List (Nat×Operand)} {ps:List (Nat×SW)},pairsS X.σ xs=some ps→F2 (fun(a:Nat×Value) (b:Nat×SW)=>a.1=b.1∧WR X a.2 b.2) (xs.map fun p=>(p.1,ρc p.2)) ps
 |[],_,h=>by cases h;exact .nil
 |(i,x)::xs,ps,h=>by
  unfold pairsS at h;split at h
  ·rename_i w hw;split at h
   ·rename_i l hl;cases h;exact .cons ⟨rfl,opW_ok hρ hw⟩ (pairsS_ok hl)
   ·cases h
  ·cases h
end
def OpR (X:Cx)(base:Nat)(L:Nat→Prop)(r:Result Next):SR→Prop
 | .val sv σ'=>σ'.nb≤X.N→ ∃v X',(r= .ok (.value v) X'.w∨(r= .ok .skip X'.w∧v=undef))∧VR X' v sv∧Nx X base L X'∧X'.σ=σ'
 | .call g args=> ∃vs,r= .ok (.enter g vs) X.w∧F2 (WR X) vs.toList args
def SmR (P:Program)(X:Cx)(base:Nat)(L:Nat→Prop)(s:Sem Value)(p:SV×SS):Prop:=p.2.nb≤X.N→ ∃v X',s.run P X.w= .ok v X'.w∧VR X' v p.1∧Nx X base L X'∧X'.σ=p.2
theorem opR_v {s:Sem Value}{x:EM (SV×SS)}(h:Sp X.e x (SmR P X base L s)):Sp X.e (qJ x) (OpR X base L ((do pure (.value (←s)):Sem Next).run P X.w)):=
 Sp.bind h fun p hp=> .ret fun hn=>let⟨v,X',h1,h2⟩:=hp hn;⟨v,X',.inl (by simp[h1]),h2⟩
def SwR (P:Program)(X:Cx)(s:Sem Value)(w:SW):Prop:= ∃v,s.run P X.w= .ok v X.w∧WR X v w
theorem p6 (hm:MR X base L){s:Sem Value}{x:EM SW}(h:Sp X.e x (SwR P X s)):Sp X.e (oX X.σ x) (OpR X base L ((do pure (.value (←s)):Sem Next).run P X.w)):=
 Sp.bind h fun w ⟨v,h1,h2⟩=> .ret fun _=>⟨v,X,.inl (by simp[h1]),.w h2,.refl hm,rfl⟩
theorem vB (hm:MR X base L){s:Sem Value}{x:EM SC}(h:Sp X.e x fun c=>SwR P X s (.c c)):Sp X.e (oY X.σ x) (OpR X base L ((do pure (.value (←s)):Sem Next).run P X.w)):=
 Sp.bind h fun w ⟨v,h1,h2⟩=> .ret fun _=>⟨v,X,.inl (by simp[h1]),.w h2,.refl hm,rfl⟩
theorem ofCell_ok {v:Value}{c:SC}(h:sg v=some c):CR X v c:=by
 unfold sg at h;split at h
 ·cases h;exact .nil (.inl rfl)
 ·split at h
  ·rename_i hp;cases h;exact .a rfl rfl (.v hp)
  ·split at h<;>cases h<;>exact .un rfl
theorem ofCells_ok: ∀{vs:List Value} {cs:List SC},mG vs=some cs→F2 (CR X) vs cs
 |[],_,h=>by cases h;exact .nil
 |v::vs,cs,h=>by
  unfold mG at h;split at h
  ·rename_i c hc;split at h
   ·rename_i l hl;cases h;exact .cons (ofCell_ok hc) (ofCells_ok hl)
   ·cases h
  ·cases h
theorem HZ {v:Value}{sv:SV}(h:yV v=some sv):VR X v sv:=by
 unfold yV at h;split at h
 ·rw[bf] at h;obtain⟨l,hl,rfl⟩:=h;exact .w (.agg (ofCells_ok hl))
 ·rw[bf] at h;obtain⟨c,hc,rfl⟩:=h;exact .w (.c (ofCell_ok hc))
theorem Jt (hm:MR X base L){v:Value}{sv:SV}(h:VR X v sv):VR X v (sj X.σ sv):=by
 unfold sj;split
 ·rename_i i;split
  ·rename_i b hb;have h1:=hm.fc _ (dA hb);cases h with
   |w h=>cases h with
    |c h=>cases h with
     |a h ht r=>
      rw[show A.ev X.e (.x i)=X.e[i]? from rfl,h1] at h;cases h
      exact .w (.c (.a rfl ht r))
  ·exact h
 ·exact h
theorem mK (hm:MR X base L){a:Act}(h: ∀t sv,look X.σ.tm t=some sv→ ∃v,a.tmps[t]?=some v∧VR X v sv):EvR X a.eval:=by
 refine⟨fun _=>rfl,fun x sv hx=>?_⟩;cases x with
 |tmp t=>
  simp only[opS] at hx;split at hx
  ·rename_i v hv;cases hx;obtain⟨u,h1,h2⟩:=h t v hv;have:a.eval (.tmp t)=u:=by simp only[Act.eval];rw[aU,h1];rfl
   rw[this];exact Jt hm h2
  ·cases hx
 |const c=>exact HZ hx
 |func g=>cases hx;exact .w (.c (.fn .nil .nil))
 |global g=>cases hx
theorem run_zero {t:TypeId}{z:Value}(h:zeroT P t=some z)(w:World):(zeroValue t).run P w= .ok z w:=by
 unfold zeroT at h;rw[lg] at h;obtain⟨i,hi,hz⟩:=h;simp[zeroValue,typeInfo,hi,hz]
theorem iQ (w:World)(t:TypeId)(arr:Array Value):(newRow t arr).run P w= .ok ⟨w.heap.size,0,none⟩ (w.alloc (.cells arr t)):=by
 unfold newRow newObj;rw[Sem.run_bind];rfl
theorem unfrozen00 (n:Nat):nR n (0,0):=fun i _ h=>by simp at h
theorem Ot (hm:MR X base L)(hN:X.σ.nb<X.N){arr:Array Value}{t:TypeId}{cs:List SC}(h:F2 (CR X) arr.toList cs):Nx X base L (X.nw (X.w.alloc (.cells arr t)) (some (X.w.heap.size,arr.size)) (.box cs)):=
 sG hm hN rfl (fun B l h=>by cases h;rfl) (.alloc _) fun sx=>⟨X.w.heap.size,arr,upR_self,⟨t,(0,0),kJ _ _,unfrozen00 _⟩,h.mono fun _ _ h=>h.step sx⟩
theorem boxS_ok (hm:MR X base L){arr:Array Value}{t:TypeId}{cs:List SC}(h:F2 (CR X) arr.toList cs){s:Sem Value}(hs:s.run P X.w= .ok (.pointer (some ⟨X.w.heap.size,0,none⟩)) (X.w.alloc (.cells arr t))):Sp X.e (yW P X.σ t cs) (SmR P X base L s):=by
 unfold yW;split
 ·split
  ·refine .ret fun hn=>⟨_,_,hs,?_,Ot hm hn h,rfl⟩;exact .w (.c (.ptr (.inr rfl) fun _ _=>⟨_,upR_self⟩))
  ·exact .fail
 ·exact .fail
theorem Ju (hm:MR X base L){t:TypeId}{cs:List SC}(h:mH P t=some cs):Sp X.e (yW P X.σ t cs) (SmR P X base L (Instr.alloc t true (.tuple #[]))):=by
 unfold mH at h;split at h
 ·rename_i z hz;refine boxS_ok hm (ofCells_ok h) ?_;have:=iQ (P:=P) X.w t z.cells;simp[Instr.alloc,run_zero hz,newVar,this]
 ·cases h
theorem mL (g o:Nat)(t:TypeId)(fz:Nat×Nat): ∀(vs:List Value) (i:Nat) (w:World) (arr:Array Value),w.heap[g]?=some (.cells arr t fz)→nR arr.size fz→
  o+i+vs.length≤arr.size→(∀v∈vs,one v=true)→ ∃w' arr',(storeCells ⟨g,o,none⟩ vs i).run P w= .ok () w'∧But g w w'∧w'.heap[g]?=some (.cells arr' t fz)∧arr'.size=arr.size∧
   ∀j,arr'[j]?=if o+i≤j∧j<o+i+vs.length then vs[j-(o+i)]? else arr[j]?
 |[],i,w,arr,h1,h2,h3,h4=>⟨w,arr,by simp[storeCells],But.refl,h1,rfl,fun j=>by rw[if_neg (by simp<;>omega)]⟩
 |v::vs,i,w,arr,h1,h2,h3,h4=>by
  simp only[aD] at h3;have hv:one v=true:=h4 v (by simp);have hcell:w.cell? ⟨g,o+i,none⟩=some arr[o+i]:=by
   simp only[World.cell?,h1];simp
  have hfz:w.frozen? ⟨g,o+i,none⟩=false:=by
   simp only[World.frozen?,h1];have:=h2 (o+i) (by omega);simp only[iA,decide_eq_false_iff_not];by_cases hh:fz.1≤o+i
   ·right;intro hh';exact this ⟨hh,hh'⟩
   ·left;exact hh
  have hset:(w.setCell ⟨g,o+i,none⟩ v).heap[g]?=some (.cells (arr.setIfInBounds (o+i) v) t fz):=by
   simp only[World.setCell,iz,if_true,h1];simp
  obtain⟨w',arr',e1,e2,e3,e4,e5⟩:=mL g o t fz vs (i+1) (w.setCell ⟨g,o+i,none⟩ v) _ hset (by simpa using h2) (by simp;omega) (fun u hu=>h4 u (by simp[hu]))
  refine⟨w',arr',?_,(But.setCell (w:=w) ⟨g,o+i,none⟩ v).trans e2,e3,by simpa using e4,?_⟩
  ·simp only[storeCells,fE];have:(store ⟨g,o+i,none⟩ v).run P w= .ok () (w.setCell ⟨g,o+i,none⟩ v):=by
    unfold store;cases v<;>first|(simp[one] at hv;done)|simp[Sem.run,hcell,hfz]
   rw[Sem.run_bind,this];exact e1
  ·intro j;rw[e5 j];by_cases hj:o+(i+1)≤j∧j<o+(i+1)+vs.length
   ·rw[if_pos hj,if_pos (by simp only[aD];omega)];have:j-(o+i)=(j-(o+(i+1)))+1:=by omega
    rw[this,lb]
   ·rw[if_neg hj];by_cases hj':j=o+i
    ·subst hj';rw[if_pos (by simp only[aD];omega)];simp;rw[cQ (by omega)]
    ·rw[if_neg (by simp only[aD];omega),eI (by omega)]
theorem iR {w:World}{B:Nat}{arr:Array Value}{ty:TypeId}{fz:Nat×Nat}(hg:w.heap[B]?=some (.cells arr ty fz))(hf:nR arr.size fz)(o:Nat){vs:List Value}(h:o+vs.length≤arr.size)(h1: ∀v∈vs,one v=true):
  ∃w' arr',(storeCells ⟨B,o,none⟩ vs).run P w= .ok () w'∧But B w w'∧w'.heap[B]?=some (.cells arr' ty fz)∧arr'.size=arr.size∧arr'.toList=arr.toList.take o++vs++arr.toList.drop (o+vs.length):=by
 obtain⟨w',arr',h2,h3,h4,h5,h6⟩:=mL (P:=P) B o ty fz vs 0 w arr hg hf (by omega) h1;refine⟨w',arr',h2,h3,h4,h5,b9 fun i=>?_⟩;have hl:arr.toList.length=arr.size:=by simp
 rw[bH,h6 i,aO,ef,aH,bi (by omega)];simp only[fB];by_cases hi:i<o
 ·rw[if_neg (by omega),if_pos hi,cu,if_pos hi,bH]
 ·rw[if_neg hi,ef];by_cases hj:i<o+vs.length
  ·rw[if_pos ⟨by omega,hj⟩,if_pos (by omega)]
  ·rw[if_neg (by omega),if_neg (by omega),dX,bH]
   congr 1;omega
theorem Ou {vs:List Value}{cs:List SC}(h:F2 (CR X) vs cs): ∀v∈vs,one v=true:=by
 induction h with
 |nil=>intro v hv;cases hv
 |cons h _ ih=>exact fun v hv=>(aT.1 hv).elim (fun e=>e▸h.one) (ih v)
theorem sH {S:Nat→Prop}{w:World}{vs:List Value}{ps:List PV}(h:F2 (RT w S) vs ps)(ht:ps.all t0=true): ∀v∈vs,one v=true:=by
 induction h with
 |nil=>intro v hv;cases hv
 |cons h _ ih=>
  simp only[bL,au] at ht;exact fun v hv=>(aT.1 hv).elim (fun e=>e▸h.one ht.1) (ih ht.2 v)
theorem ph {t:TypeId}{v:Value}(hz:szT P t=some v.cells.size){B o:Nat}{w w':World}(h:(storeCells ⟨B,o,none⟩ v.cells.toList).run P w= .ok () w'):(storeVar t ⟨B,o,none⟩ v).run P w= .ok () w':=by
 simp[storeVar,run_sizeOf hz,h]
theorem storeW_spec {t:TypeId}{w:SW}{n:Nat}(h:yX P t w=some n):(n=0∧bv P t=some false∧szT P t=some 1∧ ∃c,w= .c c)∨(0<n∧bv P t=some true∧szT P t=some n∧ ∀c,w≠ .c c):=by
 unfold yX at h;split at h
 ·rename_i ha;split at h
  ·cases h
  ·rename_i hw;split at h
   ·rename_i k hk;cases h;exact .inr ⟨by omega,ha,hk,fun c e=>hw c e⟩
   ·cases h
 ·rename_i ha;split at h
  ·split at h
   ·rename_i h1;cases h;exact .inl ⟨rfl,ha,h1,_,rfl⟩
   ·cases h
  ·cases h
 ·cases h
theorem qM {z:Nat}{row':List PV}: ∀{els:List (List PV)} {k:Nat},(∀r∈els,r.length=z)→k<els.length→(els.set k row').flatten=els.flatten.take (k*z)++row'++els.flatten.drop (k*z+z)
 |[],k,_,h=>by simp at h
 |r::els,0,hr,_=>by
  have:=hr r (by simp);simp[kW,bR (show r.length≤z by omega),show z-r.length=0 by omega]
 |r::els,k+1,hr,h=>by
  have h1:=hr r (by simp);rw[List.set_cons_succ,cT,qM (fun r h=>hr r (by simp[h])) (by simpa using h),cT]
  have e1:(k+1)*z=r.length+k*z:=by rw[bw];omega
  rw[e1,jN,bZ,jK];simp
theorem Jv {o:Nat}{els:List (List PV)}{kk:IntKind}{k:Nat}{p r:PV}(h:(RF.set o).ev [.sl els,.v (.int kk k),p]=some r): ∃row,els[k]?=some row∧o+p.cells.length≤row.length∧r= .sl (els.set k (splice row o p.cells)):=by
 simp only[RF.ev,aq] at h;obtain⟨_,h⟩:=tM h;split at h
 ·rename_i row hr;obtain⟨h1,rfl⟩:=bQ h;exact⟨row,hr,h1,rfl⟩
 ·cases h
theorem RT.cells {w:World}{S:Nat→Prop}{v:Value}{p:PV}(h:RT w S v p):F2 (RT w S) v.cells.toList p.cells:=by
 cases h with
 |v h=>rw[one_cells (RT.one (w:=w) (S:=S) (.v h) rfl)];exact .cons (.v h) .nil
 |nil h=>rw[one_cells (RT.one (w:=w) (S:=S) (.nil h) rfl)];exact .cons (.nil h) .nil
 |sl a b c d e f g=>exact .cons (.sl a b c d e f g) .nil
 |agg h _=>exact h.f2
theorem RT.agg_inv {w:World}{S:Nat→Prop}{a:Array Value}{p:PV}(h:RT w S (.agg a) p): ∃cs,p= .agg cs∧cs.all t0=true∧RTs w S a.toList cs:=by
 generalize hv:Value.agg a=v at h;cases h with
 |v h=>subst hv;simp[plain1] at h
 |nil h=>subst hv;rcases h with h|⟨_,_,h⟩<;>cases h
 |sl=>cases hv
 |agg h ht=>cases hv;exact⟨_,rfl,ht,h⟩
theorem H1 (hm:MR X base L){t:TypeId}{c:SC}{w:SW}{u v:Value}(hc:CR X u c)(hv:WR X v w):Sp X.e (sk P X.σ t c w) fun σ'=> ∃B o X',u= .pointer (some ⟨B,o,none⟩)∧(storeVar t ⟨B,o,none⟩ v).run P X.w= .ok () X'.w∧Nx X base L X'∧X'.σ=σ':=by
 cases hc with
 | @ptr b o B hb h=>
  simp only[sk];split
  ·rename_i cs hl;refine Sp.bind (cellsT_ok hv) fun vs ⟨h1,h2⟩=>?_;split
   ·rename_i hcond;simp only[au,ei] at hcond;obtain⟨B',arr,k1,⟨ty,fz,hg,hf⟩,k2⟩:=hm.bl b _ hl;obtain⟨l,k3⟩:=h _ (hm.kd _ _ hl);rw[k3] at k1;cases k1;have hlen:=h1.len;have hlen2:=k2.len;rw[cA] at hlen hlen2;obtain⟨w',arr',r1,r2,r3,r4,r5⟩:=iR (P:=P) hg hf o (vs:=v.cells.toList) (by rw[cA];omega) (Ou h1);refine .ret ⟨B,o,X.pt w' b (.box (tG cs o vs)),rfl,ph h2 r1,kK hm hl k3 rfl rfl rfl r2 fun sx=>?_,rfl⟩;refine⟨B,arr',by rw[r4];exact k3,⟨ty,fz,r3,by rw[r4];exact hf⟩,?_⟩;rw[r5,h1.len];exact(((k2.take o).append h1).append (k2.drop _)).mono fun _ _ h=>h.step sx
   ·exact .fail
  ·exact .fail
 | @ep b o B x i kk k hb hi h=>
  simp only[sk];split
  ·rename_i l nl z hl;split
   ·rename_i n hn;refine Sp.bind (deepS_ok hm hv) fun q ⟨⟨p,p1,p2,p3⟩,p4⟩=>?_;split
    ·exact .fail
    ·rename_i hq;have hnx:=nS hm p4;have key:Sp X.e (match n with|0=>EM.ret q.1|n=>iL n q.1) fun y=>y.ev X.e=some p∧szT P t=some p.cells.length∧p.cells.all t0=true:=by
      rcases storeW_spec hn with⟨rfl,ha,hz,c,rfl⟩|⟨hn0,ha,hz,hw⟩
      ·have ht:=p3 ⟨c,rfl⟩;have:p.cells=[p]:=by cases p<;>first|rfl|simp[t0] at ht
       exact .ret ⟨p1,by rw[this];exact hz,by rw[this];simp[ht]⟩
      ·cases n with
       |zero=>omega
       |succ n=>
        have: ∃cs,p= .agg cs∧cs.all t0=true:=by
         cases hv with
         |c _=>exact absurd rfl (hw _)
         |av _ _ _=>obtain⟨cs,h1,h2,_⟩:=p2.agg_inv;exact⟨cs,h1,h2⟩
         |agg _=>obtain⟨cs,h1,h2,_⟩:=p2.agg_inv;exact⟨cs,h1,h2⟩
        obtain⟨cs,rfl,ht⟩:=this;exact(jG p1).mono fun y ⟨h1,h2⟩=>⟨h1,by rw[hz,←h2];rfl,ht⟩
     refine Sp.bind key fun y ⟨y1,y2,y3⟩=>Sp.bind Sp.emit fun l' hl'=>?_;obtain⟨hz,els,e1,e2,e3,e4⟩:=hm.bl b _ hl;obtain⟨⟨lim,f1⟩,rfl⟩:=h _ _ (hm.kd _ _ hl);obtain⟨r,g1,g2⟩:=fS hl' e1 hi y1;obtain⟨row,g3,g4,rfl⟩:=Jv g1;rcases e4 with⟨_,e4⟩|⟨B',arr,e4,⟨ty,fz,hg,hf⟩,e5⟩
     ·rw[f1] at e4;cases e4
     rw[f1] at e4;cases e4;have hk:=(aj.1 g3).1;have hrow:=(e3 row (ah g3)).1;have hfl:=dL e3.l;have he5:=e5.f2.len;have hsz:arr.toList.length=arr.size:=by simp
     rw[aH,hsz,hfl] at he5;have hkz:k*z+z≤els.length*z:=by have:=bx z (show k+1≤els.length from hk);rw[bw] at this;omega
     have hcl:=p2.cells.len;have hvs:v.cells.toList.length=v.cells.size:=by simp
     have hlook:look (X.fz q.2).σ.bl b=some (.lst l nl z false):=by
      show look (b7 X.σ q.2).bl b=_
      rw[f7,if_neg (fun hb=>by simp[hb] at hq),hl]
     obtain⟨w',arr',r1,r2,r3,r4,r5⟩:=iR (P:=P) hg hf (k*z+o) (vs:=v.cells.toList) (by omega) (sH p2.cells y3);refine .ret ⟨B,k*z+o,(X.fz q.2).pt w' b (.lst l' nl z false),rfl,ph (by rw[←hvs,hcl];exact y2) r1,hnx.trans (kK hnx.mr hlook f1 rfl rfl rfl r2 fun sx=>?_),rfl⟩;have hset:(els.set k (splice row o p.cells)).length=els.length:=by simp
     refine⟨hz,_,g2,by rw[hset];exact e2,fun r hr=>?_,.inr ⟨B,arr',by rw[r4];exact f1,⟨ty,fz,r3,by rw[r4];exact hf⟩,?_⟩⟩
     ·rcases cg hr with hr|rfl
      ·exact e3 r hr
      ·have hall:=(e3 row (ah g3)).2;refine⟨by simp[splice];omega,?_⟩;simp only[splice,i8,au];exact⟨⟨by have:=pZ hall 0 o;rwa [bS] at this,y3⟩,by rw[aG] at hall⊢;exact fun q hq=>hall q (eg hq)⟩
     ·have hz1: ∀{α:Type} (a b c:List α) (n:Nat),a.length+b.length≤n→(a++b++c).take n=a++b++c.take (n-(a.length+b.length)):=fun a b c n hn=>by
       rw[fN,aR (by rw[an];omega),an]
      rw[hset,qM e3.l hk,r5,hz1 (arr.toList.take (k*z+o)) v.cells.toList _ (els.length*z) (by rw[aH];omega)];have m1:=e5.mono (w':=w') (S':=frS X q.2) ⟨fun _ h=> .inl h,fun B hB=>sx.k.get B (.inl hB)⟩;have m2:F2 (RT w' (frS X q.2)) v.cells.toList p.cells:=p2.cells.mono fun _ _ h=>h.mono ⟨fun _ h=>h,fun B hB=>sx.k.get B hB⟩;have hfr:=qL e3.l g3;have big:els.flatten=els.flatten.take (k*z)++(row++els.flatten.drop (k*z+z)):=by
       have h1:=d6 (k*z) els.flatten;have h2:=d6 z (els.flatten.drop (k*z));rw[hfr,dM] at h2;rw[h2,h1]
      refine .of ?_;have a1:F2 (RT w' (frS X q.2)) (arr.toList.take (k*z+o)) (els.flatten.take (k*z+o)):=by
       have:=m1.f2.take (k*z+o);rwa [b8,bi (by omega)] at this
      have a2:F2 (RT w' (frS X q.2)) ((arr.toList.drop (k*z+o+v.cells.toList.length)).take (els.length*z-(k*z+o+v.cells.toList.length))) (els.flatten.drop (k*z+o+v.cells.toList.length)):=by
       have:=m1.f2.drop (k*z+o+v.cells.toList.length);rwa [cS] at this
      have b1:els.flatten.take (k*z)++row.take o=els.flatten.take (k*z+o):=by
       conv=>rhs;rw[big]
       rw[fN,aH,b8];rw[dq (by omega),bi (by omega),Nat.add_sub_cancel_left,cd (by omega)]
      have b2:row.drop (o+p.cells.length)++els.flatten.drop (k*z+z)=els.flatten.drop (k*z+o+v.cells.toList.length):=by
       conv=>rhs;rw[big]
       rw[kW,aH,bi (by omega),bR (l:=els.flatten.take (k*z)) (by rw[aH];omega),ax,show k*z+o+v.cells.toList.length-k*z=o+p.cells.length by omega,List.drop_append_of_le_length (by omega)]
      have:=(a1.append m2).append a2;rw[←b1,←b2] at this;simp[splice,aO,bi (show k*z+o≤arr.size by omega)] at this⊢
      exact this
   ·exact .fail
  ·exact .fail
 |_=>exact .fail
end
section
variable {X:Cx}{P:Program}{base:Nat}{L:Nat→Prop}
theorem fold_set {off:Nat}: ∀(l:List Value) (n:Nat) (cs:Array Value),off+n+l.length≤cs.size→((l.zipIdx n).foldl (fun cs (p:Value×Nat)=>cs.setIfInBounds (off+p.2) p.1) cs).toList=cs.toList.take (off+n)++l++cs.toList.drop (off+n+l.length)
 |[],n,cs,h=>by simp
 |v::l,n,cs,h=>by
  simp only[aD] at h;rw[List.zipIdx_cons,bI,fold_set l (n+1) _ (by simp;omega)];simp only[dl,aD];have hlt:off+n<cs.toList.length:=by simp;omega
  rw[List.take_set,List.drop_set,if_pos (by omega)];have e:(cs.toList.take (off+(n+1))).set (off+n) v=cs.toList.take (off+n)++[v]:=by
   rw[←bZ,cG,ac hlt,Option.toList_some,List.set_append,if_neg (by rw[aH];omega)];rw[aH,bi (by omega),fC];rfl
  rw[e,show off+(n+1)+l.length=off+n+(l.length+1) by omega]
  simp
theorem uD {pl:Nat→Option (Nat×Nat)}{arr:Array Value}{i off:Nat}{v:Value}{ps:List (Nat×Value)}(h:pl i=some (off,v.cells.size))(hl:off+v.cells.size≤arr.size):
  ∃arr':Array Value,Instr.fill pl arr ((i,v)::ps)=Instr.fill pl arr' ps∧arr'.size=arr.size∧arr'.toList=arr.toList.take off++v.cells.toList++arr.toList.drop (off+v.cells.toList.length):=by
 have hf:=fold_set (off:=off) v.cells.toList 0 arr (by simpa using hl)
 refine⟨v.cells.zipIdx.foldl (fun cs (c,j)=>cs.setIfInBounds (off+j) c) arr,?_,?_,?_⟩
 ·simp only[Instr.fill,h];rw[if_neg (by simp;omega)]
 ·have:=congrArg List.length hf;rw[←gz,ou,←cA,this];simp;omega
 ·rw[←gz,ou];simpa using hf
theorem Ah {t:TypeId}{pl:Nat→Option (Nat×Nat)}{i ty o n:Nat}(h:kr P t=some pl)(hp:partTy P t i=some (ty,o))(hz:szT P ty=some n):pl i=some (o,n):=by
 unfold kr at h;unfold partTy at hp;split at h
 ·rename_i fields hu;rw[hu] at hp;simp only at hp;split at h
  ·cases h;split at hp
   ·rename_i fl hf;cases hp;simp only[hf,hz,aZ,bj]
   ·cases hp
  ·cases h
 ·rename_i _ elem hu;rw[hu] at hp;simp only at hp;split at hp
  ·rename_i z hz';cases hp;rw[hz'] at hz;cases hz;rw[hz'] at h;cases h;rfl
  ·cases hp
 ·cases h
abbrev PrR (X:Cx)(a:Nat×Value)(b:Nat×SW):Prop:=a.1=b.1∧WR X a.2 b.2
theorem fillS_ok {t:TypeId}{pl:Nat→Option (Nat×Nat)}(hpl:kr P t=some pl): ∀{vs:List (Nat×Value)} {l:List (Nat×SW)},F2 (PrR X) vs l→ ∀{arr:Array Value} {cs:List SC},F2 (CR X) arr.toList cs→Sp X.e (sm P t cs l) fun cs'=> ∃r,Instr.fill pl arr vs=some r∧F2 (CR X) r.toList cs'
 |_,_,.nil,arr,cs,h=> .ret ⟨arr,rfl,h⟩
 |(i,v)::vs,(j,w)::l,.cons ⟨hi,hv⟩ ht,arr,cs,h=>by
  simp only at hi;subst hi
  replace hv:WR X v w:=hv
  unfold sm;split
  ·rename_i ty o hp;refine Sp.bind (cellsT_ok (P:=P) hv) fun xs ⟨h1,h2⟩=>?_;split
   ·rename_i hb;rw[ei] at hb;have hlen:=h1.len;have hl2:=h.len;rw[cA] at hlen hl2;obtain⟨arr',e1,e2,e3⟩:=uD (ps:=vs) (Ah hpl hp h2) (show o+v.cells.size≤arr.size by omega)
    rw[e1];refine fillS_ok hpl ht ?_;rw[e3,h1.len];exact((h.take o).append h1).append (h.drop _)
   ·exact .fail
  ·exact .fail
theorem Jw {fields:Array Field}(h:fields.toList.all (fun f=>(szT P f.type).isSome)=true)(w:World):
  (fields.mapM fun f=>do pure (f.offset,←sizeOf f.type):Sem (Array (Nat×Nat))).run P w= .ok (fields.map fun f=>(f.offset,(szT P f.type).getD 0)) w:=by
 have key: ∀(l:List Field),l.all (fun f=>(szT P f.type).isSome)=true→(l.mapM fun f=>do pure (f.offset,←sizeOf f.type):Sem (List (Nat×Nat))).run P w= .ok (l.map fun f=>(f.offset,(szT P f.type).getD 0)) w:=by
  intro l;induction l with
  |nil=>intro _;simp
  |cons f l ih=>
   intro hl;simp only[bL,au] at hl;obtain⟨n,hn⟩:=kZ.1 hl.1;simp only[m7,Sem.run_bind,run_sizeOf hn,Result.andThen_ok,Sem.run_pure,ih hl.2,bz,hn,bj]
 have e:fields.mapM (fun f=>do pure (f.offset,←sizeOf f.type):Field→Sem (Nat×Nat))=(do pure (←fields.toList.mapM fun f=>do pure (f.offset,←sizeOf f.type)).toArray):=by
  rw[kj];rfl
 rw[e,Sem.run_bind,key _ h];simp only[Result.andThen_ok,Sem.run_pure]
 congr 1
 apply eC.1;simp
theorem Jx {t:TypeId}{vs:List (Nat×Value)}{l:List (Nat×SW)}{z:List SC}{pl:Nat→Option (Nat×Nat)}(hz:mH P t=some z)(hpl:kr P t=some pl)(hl:F2 (PrR X) vs l):Sp X.e (sm P t z l) fun cs=>Sp X.e (kG cs) (SwR P X (Instr.build t vs.toArray)):=by
 unfold mH at hz;split at hz
 ·rename_i zv hzv;refine(fillS_ok (arr:=zv.cells) hpl hl (ofCells_ok hz)).mono fun cs ⟨r,h1,h2⟩=>(collapse_ok h2).mono fun w hw=>⟨_,?_,hw⟩;unfold kr at hpl;split at hpl
  ·rename_i fields hu;obtain⟨hall,rfl⟩:=bQ hpl;have hfun:(fun(i:Nat)=>(fields.map fun(f:Field)=>(f.offset,(szT P f.type).getD 0))[i]?)=fun i=>(fields[i]?).map fun f=>(f.offset,(szT P f.type).getD 0):=by
    funext i;simp
   simp only[Instr.build,Sem.run_bind,run_zero hzv,run_underlying hu,Result.andThen_ok,Jw hall];simp only[hfun,h1];rfl
  ·rename_i n elem hu;rw[bf] at hpl;obtain⟨size,hs,rfl⟩:=hpl;simp only[Instr.build,Sem.run_bind,run_zero hzv,run_underlying hu,Result.andThen_ok,run_sizeOf hs];simp only[h1];rfl
  ·cases hpl
 ·cases hz
theorem AL {w:World}{S:Nat→Prop}: ∀{vs:List Value} {ps:List PV},Ex vs=some ps→F2 (RT w S) vs ps∧ps.all t0=true
 |[],_,h=>by cases h;exact⟨.nil,rfl⟩
 |v::vs,ps,h=>by
  unfold Ex at h;split at h
  ·rename_i c hc;split at h
   ·rename_i l hl;cases h;obtain⟨h1,h2⟩:=AL (w:=w) (S:=S) hl;unfold pvC at hc;split at hc
    ·cases hc;exact⟨.cons (.nil (.inl rfl)) h1,by simpa [t0] using h2⟩
    ·obtain⟨hp,rfl⟩:=bQ hc;exact⟨.cons (.v hp) h1,by simpa [t0] using h2⟩
   ·cases h
  ·cases h
theorem io {t:TypeId}{ps:List PV}(h:iK P t=some ps): ∃z,zeroT P t=some z∧z.cells.size=ps.length∧ps.all t0=true∧ ∀w S,F2 (RT w S) z.cells.toList ps:=by
 unfold iK at h;split at h
 ·rename_i z hz;have:=fun w S=>AL (w:=w) (S:=S) h;exact⟨z,hz,by simpa using(this default (fun _=>False)).1.len,(this default fun _=>False).2,fun w S=>(this w S).1⟩
 ·cases h
theorem rep_flat {α β:Type}{R:α→β→Prop}{a:List α}{b:List β}(h:F2 R a b): ∀n,F2 R (List.replicate n a).flatten (List.replicate n b).flatten
 |0=> .nil
 |n+1=>by rw[jk,jk,cT,cT];exact h.append (rep_flat h n)
theorem nT (z:Array Value): ∀n,((Array.range (n*z.size)).map (fun i=>z[i% z.size]!)).toList=(List.replicate n z.toList).flatten
 |0=>by simp
 |n+1=>by
  have ih:=nT z n;simp only[Array.toList_map,Array.toList_range] at ih⊢;rw[bw,qw,jb,List.range_add,dg,jk,cT]
  congr 1
  ·apply List.ext_getElem
   ·simp
   ·intro i h1 h2;simp at h1;simp[Nat.mod_eq_of_lt h1,h1]
  ·rw[←ih];simp[Function.comp_def]
theorem ir (hm:MR X base L){w':World}(hw:But X.w.heap.size X.w w'):Nx X base L {X with w:=w'}:=by
 have hk: ∀B,B<X.w.heap.size→w'.heap[B]?=X.w.heap[B]?:=fun B h=>hw.block B (by omega) h;have sx:Sx X {X with w:=w'}:=⟨⟨[],by simp⟩,fun _ _=>rfl,⟨fun _ h=>h,fun B h=>hk B (hm.cur B h)⟩,fun _ _ _ h=>h,fun _ h=>h⟩
 exact⟨sx,⟨hm.lt,hm.kd,hm.fr,fun b sb h=>(hm.bl b sb h).step sx (hm.lt b sb h) fun B l hr=>hk B (dom_lt hm h hr),hm.own,hm.inj,fun B h=>bB (hm.cur B h) hw.size,bc hm.hb hw.size,hm.sz,hm.fc⟩,⟨hw.os,hw.tape,hw.output,hw.size,fun k h _=>hk k (bB h hm.hb),hw.drawn⟩,fun _ h=> .inl h,rfl,rfl,am _,fun _ h=> .inl h,fun _ _ h=>⟨rfl,h⟩⟩
theorem lst_new (hm:MR X base L)(hN:X.σ.nb<X.N){w':World}{arr:Array Value}{ty:TypeId}{z cap:Nat}{els:List (List PV)}{l nl:A}(hw:But X.w.heap.size X.w w')(hg:w'.heap[X.w.heap.size]?=some (.cells arr ty))(hz:0<z)(hr:Rw z els)
  (hl:l.ev X.e=some (.sl els)) (hn:nl.ev X.e=some (.i64 els.length)) (he:RTs X.w X.S (arr.toList.take (els.length*z)) els.flatten) (hc:els.length≤cap) (hc':cap*z≤arr.size):
  ∃X',X'.w=w'∧VR X' (.slice (some ⟨X.w.heap.size,0,none⟩) els.length cap) (.w (.c (.lsl X.σ.nb (.c (.i64 0)) nl)))∧Nx X base L X'∧X'.σ=X.σ.new (.lst l nl z false):=by
 have hx:Nx X base L (X.nw w' (some (X.w.heap.size,arr.size)) (.lst l nl z false)):=sG hm hN rfl (fun B l h=>by cases h;rfl) hw fun sx=>⟨hz,els,hl,hn,hr,.inr ⟨_,arr,upR_self,⟨ty,(0,0),hg,unfrozen00 _⟩,he.mono sx.k⟩⟩;refine⟨_,rfl,show VR (X.nw w' (some (X.w.heap.size,arr.size)) (.lst l nl z false)) _ _ from .w (.c (.lsl (.inr rfl) rfl fun nl' z' h=>?_)),hx,rfl⟩
 cases upR_self.symm.trans h;exact⟨0,els.length,els.length,rfl,hn,hn,by omega,.inl ⟨_,_,cap,upR_self,by simp,by omega,by simpa using hc'⟩⟩
theorem RT.cells_t0 {w:World}{S:Nat→Prop}{v:Value}{p:PV}(h:RT w S v p):p.cells.all t0=true:=by
 cases h<;>first|rfl|assumption
theorem sI: ∀{z:Nat} {els els':List (List PV)} {ids:List Nat} {ps:List PV},mD z els ids ps=some els'→els'.length=els.length
 |z,els,els',[],[],h=>by cases h;rfl
 |z,els,els',i::ids,p::ps,h=>by
  unfold mD at h;obtain⟨_,h⟩:=tM h;rw[sI h,aB]
 |_,_,_,[],_::_,h=>by cases h
 |_,_,_,_::_,[],h=>by cases h
theorem uE {w:World}{S:Nat→Prop}{z:Nat}: ∀{vs:List (Nat×Value)} {ps:List PV} {els els':List (List PV)} {arr:Array Value},F2 (RT w S) (vs.map (·.2)) ps→mD z els (vs.map (·.1)) ps=some els'→Rw z els→RTs w S arr.toList els.flatten→
  ∃r,Instr.fill (fun i=>some (i*z,z)) arr vs=some r∧RTs w S r.toList els'.flatten∧Rw z els'
 |[],ps,els,els',arr,h,hs,hr,ha=>by
  cases h;cases hs;exact⟨arr,rfl,ha,hr⟩
 |(i,v)::vs,ps,els,els',arr,h,hs,hr,ha=>by
  cases h with
  | @cons _ p _ ps h t=>
   unfold mD at hs;simp only[bz] at hs;obtain⟨⟨hi,hz⟩,hs⟩:=tM hs;have hc:F2 (RT w S) v.cells.toList p.cells:=RT.cells h;have hcl:=hc.len;have hal:=ha.f2.len;rw[dL hr.l] at hal;rw[cA] at hcl hal;have hle:i*z+z≤els.length*z:=by have:=bx z (show i+1≤els.length from hi);rw[bw] at this;omega
   obtain⟨arr',e1,e2,e3⟩:=uD (pl:=fun i=>some (i*z,z)) (arr:=arr) (i:=i) (v:=v) (ps:=vs) (off:=i*z) (by rw[hcl,hz]) (by omega);rw[e1];refine uE t hs (fun r hr'=>?_) ?_
   ·rcases cg hr' with h'|rfl
    ·exact hr r h'
    ·exact⟨hz,RT.cells_t0 (w:=w) (S:=S) h⟩
   ·have hvl:v.cells.toList.length=z:=by rw[cA];omega
    rw[e3,qM hr.l hi,hvl];exact .of (((ha.f2.take _).append hc).append (ha.f2.drop _))
theorem tQ (hm:MR X base L){t len:Nat}{vs:List (Nat×Value)}{l:List (Nat×SW)}(hl:F2 (PrR X) vs l):Sp X.e (lU P X.σ t len l) (SmR P X base L (Instr.buildSlice t len vs.toArray)):=by
 unfold lU;split
 ·rename_i elem hu;split
  ·rename_i size hs;split
   ·rename_i z hz;split
    ·rename_i hc;simp only[au,ei] at hc;obtain⟨⟨h1,h2⟩,h3⟩:=hc;have h3:=fd h3;obtain⟨zv,hzv,q1,q2,q3⟩:=io hz;have hv2:F2 (WR X) (vs.map (·.2)) (l.map (·.2))∧vs.map (·.1)=l.map (·.1):=by
      clear hm;induction hl with
      |nil=>exact⟨.nil,rfl⟩
      |cons h _ ih=>exact⟨.cons h.2 ih.1,by simp[h.1,ih.2]⟩
     refine Sp.bind (im hm hv2.1) fun q ⟨⟨ps,p1,p2⟩,p3⟩=>?_;have hbig:¬len*size>2^ 24:=by omega
     cases len with
     |zero=>
      simp only;split
      ·have:vs=[]:=by cases hl;rfl
       subst this;refine .ret fun _=>⟨.slice (some ⟨X.w.heap.size,0,none⟩) 0 0,{X with w:=X.w.alloc (.cells #[] elem)},?_,.w (.c (.nil (.inr ⟨_,_,rfl⟩))),ir hm (.alloc _),rfl⟩
       have:=iQ (P:=P) X.w elem #[];simp[Instr.buildSlice,run_underlying hu,run_sizeOf hs,Instr.fill,this];rw[show(Array.map (fun(x:Nat)=>(default:Value)) (Array.range 0))=#[] by simp,this]
       rfl
      ·exact .fail
     |succ n=>
      simp only;refine Sp.bind Sp.emit fun y ⟨xs,v,y1,y2,y3⟩=> .ret fun hn=>?_;rw[p1] at y1;cases y1;simp only[RF.ev] at y2;split at y2
      ·rename_i els' hset;cases y2;rw[h3,←hv2.2] at hset;have hnx:=nS hm p3;have hrep:Rw size (List.replicate (n+1) z):=fun r hr=>by rw[(eV.1 hr).2];exact⟨h3,q2⟩
       obtain⟨arr,f1,f2,f3⟩:=uE (arr:=(Array.range ((n+1)*size)).map (fun i=>zv.cells[i% zv.cells.size]!)) p2 hset hrep (.of (by
        have:=nT zv.cells (n+1);rw[q1,h3] at this;rw[q1,h3,this];exact rep_flat (q3 X.w (frS X q.2)) _))
       have hlen:=sI hset;rw[aQ] at hlen;have hfl:=f2.f2.len;rw[dL f3.l,cA] at hfl;have hN:(X.fz q.2).σ.nb<X.N:=hn;obtain⟨X',w1,w2,w3,w4⟩:=lst_new (X:=X.fz q.2) (cap:=n+1) (nl:= .c (.i64 (n+1:Nat))) hnx.mr hN (.alloc (.cells arr elem)) (kJ _ _) h2 f3 y3 (by rw[hlen];rfl) (by rw[aR (by rw[cA];omega)];exact f2) (by omega) (by have h9:(n+1)*size=els'.length*size:=by{rw[hlen]};omega);refine⟨.slice (some ⟨X.w.heap.size,0,none⟩) (n+1) (n+1),X',?_,?_,hnx.trans w3,w4⟩
       ·rw[w1];have h0:¬(n+1)*size=0:=Nat.ne_of_gt (Nat.mul_pos (Nat.succ_pos n) h2);have:=iQ (P:=P) X.w elem arr;simp[Instr.buildSlice,run_underlying hu,run_sizeOf hs,run_zero hzv,Sem.run_ite,f1,this,hbig,h0];rfl
       ·have e:(b7 X.σ q.2).nb=X.σ.nb:=(kf _ _).1;have:VR X' (.slice (some ⟨X.w.heap.size,0,none⟩) els'.length (n+1)) (.w (.c (.lsl (b7 X.σ q.2).nb (.c (.i64 0)) (.c (.i64 (n+1:Nat)))))):=w2;rw[hlen,e] at this;exact this
      ·cases y2
    ·exact .fail
   ·exact .fail
  ·exact .fail
 ·exact .fail
theorem ey {a y:A}{p:PV}(h:gX X.e .len [a] y)(ha:a.ev X.e=some p): ∃els,p= .sl els∧y.ev X.e=some (.i64 els.length):=by
 obtain⟨u,h1,h2⟩:=ec h ha;cases p<;>simp only[RF.ev] at h1<;>try (cases h1;done)
 cases h1;exact⟨_,rfl,h2⟩
theorem H2 {v:Value}{k:IntKind}{n:Int}(h:X.T v (.v (.int k n))):v= .int k n:=by cases h;rfl
theorem Jy {z:List PV}{bytes:Nat}{p p' r:PV}(h:(RF.rep z bytes).ev [p,p']=some r): ∃k l k' c,p= .v (.int k l)∧p'= .v (.int k' c)∧0≤l∧l≤c∧c<9223372036854775808∧bytes*c≤281474976710656∧r= .sl (List.replicate l.toNat z):=by
 simp only[RF.ev] at h;split at h
 ·rename_i e;cases e;obtain⟨⟨c1,c2,c3,c4⟩,rfl⟩:=bQ h;exact⟨_,_,_,_,rfl,rfl,c1,c2,c3,c4,rfl⟩
 ·cases h
theorem uW (hm:MR X base L){t:TypeId}{a b:SC}{v1 v2:Value}(ha:CR X v1 a)(hb:CR X v2 b):Sp X.e (nL P X.σ t a b) (SmR P X base L (Instr.makeSlice t v1 v2)):=by
 unfold nL;split
 ·rename_i elem he;have hu:P.underlying t=some (.slice elem):=by
   unfold jE at he;split at he
   ·rename_i e' hu;cases he;exact hu
   ·cases he
  split
  ·rename_i info hi;split
   ·rename_i z hz;split
    ·rename_i hc;simp only[au,ei] at hc;obtain⟨⟨⟨h3,h2⟩,h4⟩,h5⟩:=hc;have h3:=fd h3;obtain⟨zv,hzv,q1,q2,q3⟩:=io hz;refine Sp.bind (cellA_ok ha) fun a ⟨p,a1,_,a3⟩=>Sp.bind (cellA_ok hb) fun b ⟨p',b1,_,b3⟩=>Sp.bind Sp.emit fun r hr=>Sp.bind Sp.emit fun n hn=> .ret fun hN=>?_;obtain⟨u,r1,r2⟩:=dT hr a1 b1;obtain⟨k,l,k',c,rfl,rfl,c1,c2,c3,c4,rfl⟩:=Jy r1;obtain⟨els,e1,e2⟩:=ey hn r2;cases e1;have:=H2 a3;subst this;have:=H2 b3;subst this;have hsz:=nT zv.cells c.toNat;rw[q1,h3] at hsz;have hrl:Rw info.size (List.replicate l.toNat z):=fun r hr=>by rw[(eV.1 hr).2];exact⟨h3,q2⟩
     have hzl:zv.cells.toList.length=info.size:=by simpa [h3] using q1
     have hct:(List.replicate c.toNat zv.cells.toList).flatten.take (l.toNat*info.size)=(List.replicate l.toNat zv.cells.toList).flatten:=by
      have:c.toNat=l.toNat+(c.toNat-l.toNat):=by omega
      rw[this,←List.replicate_append_replicate,cB,cd,aR]<;>simp[hzl]
     obtain⟨X',w1,w2,w3,w4⟩:=lst_new (l:=r) (nl:=n) (cap:=c.toNat) hm hN (.alloc (.cells ((Array.range (c.toNat*info.size)).map fun i=>zv.cells[i% zv.cells.size]!) elem)) (kJ _ _) h2 hrl r2 e2 (by
      rw[q1,h3,hsz,aQ,hct];exact .of (rep_flat (q3 X.w X.S) _)) (by simp;omega) (by simp)
     refine⟨_,X',?_,w2,w3,w4⟩;rw[w1];have hzero:info.zero=some zv:=by unfold zeroT at hzv;rw[hi] at hzv;simpa using hzv
     have hwl:IntKind.i64.wrap l=l:=by simp[IntKind.wrap,IntKind.bits,IntKind.signed];omega
     have hwc:IntKind.i64.wrap c=c:=by simp[IntKind.wrap,IntKind.bits,IntKind.signed];omega
     have n1:¬(c<0):=by omega
     have n2:¬(281474976710656<(info.bytes:Int)*c):=by omega
     have n3:¬(l<0):=by omega
     have n4:¬(c<l):=by omega
     have hnr:=fun arr=>iQ (P:=P) X.w elem arr;by_cases h0:c.toNat*info.size=0
     ·have harr:(Array.range (c.toNat*info.size)).map (fun i=>zv.cells[i% zv.cells.size]!)=#[]:=by rw[h0];simp
      rw[harr];simp[Instr.makeSlice,run_underlying hu,asInt,asIntOf,typeInfo,hi,Go.sizeOf,hwl,hwc,n1,n2,n3,n4,h0];rw[show(Array.map (fun(_:Nat)=>(default:Value)) (Array.range 0))=#[] from by simp,hnr]
      simp
     ·simp[Instr.makeSlice,run_underlying hu,asInt,asIntOf,typeInfo,zeroValue,hi,hzero,Go.sizeOf,hwl,hwc,n1,n2,n3,n4,h0,hnr]
    ·exact .fail
   ·exact .fail
  ·exact .fail
 ·exact .fail
end
def pureRun {α:Type}(P:Program):Sem α→Option α
 | .pure a=>some a
 | .program k=>pureRun P (k P)
 | .mark _ k=>pureRun P k
 |_=>none
theorem pureRun_sound {α:Type}(P:Program): ∀(e:Sem α) (a:α),pureRun P e=some a→ ∀w,e.run P w= .ok a w:=by
 intro e;induction e with
 |pure b=>intro a h w;simp only[pureRun] at h;cases h;rfl
 |program k ih=>intro a h w;simp only[pureRun] at h;simp only[Sem.run];exact ih P a h w
 |mark m k ih=>intro a h w;simp only[pureRun] at h;simp only[Sem.run];exact ih a h w
 |_=>intro a h w;simp[pureRun] at h
section
variable {P:Program}
theorem pureRun_bind {α β:Type}(x:Sem α)(f:α→Sem β):pureRun P (x>>=f)=(pureRun P x).bind fun a=>pureRun P (f a):=by
 show pureRun P (x.bind f)=_
 induction x with
 |pure a=>rfl
 |program k ih=>exact ih P
 |mark m k ih=>exact ih
 |_=>rfl
theorem Ov {t:TypeId}{xo yo:Operand}{op:BinOp}{k k':IntKind}{a b:Int}{v:Value}(h:intB op k a k' b=some (.v v)):
  pureRun P (do eqGuard op t xo yo (.int k a) (.int k' b);binOp op t (.int k a) (.int k' b))=some v:=by
 have sameK: ∀{X:Sem Value},k=k'→(if k≠k' then stuck "BinOp: operands of different kinds" else X)=X:=by
  intro X e;rw[if_neg (by simp[e])]
 cases op<;>simp only[intB] at h
 case add=>split at h;(rename_i e;subst e;cases h;simp only[binOp];rw[sameK rfl];rfl);cases h
 case sub=>split at h;(rename_i e;subst e;cases h;simp only[binOp];rw[sameK rfl];rfl);cases h
 case mul=>split at h;(rename_i e;subst e;cases h;simp only[binOp];rw[sameK rfl];rfl);cases h
 case quo=>
  split at h
  ·rename_i e;subst e;split at h
   ·cases h
   ·rename_i hb;cases h;simp only[binOp];rw[sameK rfl];simp only[Op.intDiv];rw[if_neg hb];rfl
  ·cases h
 case rem=>
  split at h
  ·rename_i e;subst e;split at h
   ·cases h
   ·rename_i hb;cases h;simp only[binOp];rw[sameK rfl];simp only[Op.intDiv];rw[if_neg hb];rfl
  ·cases h
 case and=>split at h;(rename_i e;subst e;cases h;simp only[binOp];rw[sameK rfl];rfl);cases h
 case or=>split at h;(rename_i e;subst e;cases h;simp only[binOp];rw[sameK rfl];rfl);cases h
 case xor=>split at h;(rename_i e;subst e;cases h;simp only[binOp];rw[sameK rfl];rfl);cases h
 case andNot=>split at h;(rename_i e;subst e;cases h;simp only[binOp];rw[sameK rfl];rfl);cases h
 case shl=>
  split at h
  ·cases h
  ·rename_i hb;cases h;simp only[binOp,Op.shift];rw[if_neg hb];rfl
 case shr=>
  split at h
  ·cases h
  ·rename_i hb;cases h;simp only[binOp,Op.shift];rw[if_neg hb];rfl
 case eql=>split at h;(rename_i e;subst e;cases h;simp only[binOp];rw[sameK rfl];show some (Value.bool (a==b))=_;congr 2);cases h
 case neq=>split at h;(rename_i e;subst e;cases h;simp only[binOp];rw[sameK rfl];show some (Value.bool (a !=b))=_;congr 2);cases h
 case lss=>split at h;(rename_i e;subst e;cases h;simp only[binOp];rw[sameK rfl];rfl);cases h
 case leq=>split at h;(rename_i e;subst e;cases h;simp only[binOp];rw[sameK rfl];rfl);cases h
 case gtr=>split at h;(rename_i e;subst e;cases h;simp only[binOp];rw[sameK rfl];rfl);cases h
 case geq=>split at h;(rename_i e;subst e;cases h;simp only[binOp];rw[sameK rfl];rfl);cases h
theorem H3 {op:BinOp}{k k':IntKind}{a b:Int}{p:PV}(h:intB op k a k' b=some p): ∃v,p= .v v∧plain1 v=true:=by
 unfold intB at h
 (repeat' split at h)<;>first|(cases h;done)|(cases h;exact⟨_,rfl,rfl⟩)
theorem Ow {t:TypeId}{xo yo:Operand}{op:BinOp}{a b:ByteArray}{v:Value}(h:strB op a b=some (.v v)):
  pureRun P (do eqGuard op t xo yo (.string a) (.string b);binOp op t (.string a) (.string b))=some v:=by
 cases op<;>simp only[strB] at h<;>try (cases h;done)
 case add=>
  split at h
  ·cases h
  ·rename_i hn;cases h;simp only[binOp,Op.stringOp];rw[if_neg (by simpa using hn)]
   rfl
 case eql=>cases h;rfl
 case neq=>cases h;rfl
theorem H4 {op:BinOp}{a b:ByteArray}{p:PV}(h:strB op a b=some p): ∃v,p= .v v∧plain1 v=true:=by
 unfold strB at h
 (repeat' split at h)<;>first|(cases h;done)|(cases h;exact⟨_,rfl,rfl⟩)
theorem Jz {t:TypeId}{xo yo:Operand}{op:BinOp}{a b:Bool}{v:Value}(ht:P.underlying t=some .bool)(h:boolB op a b=some (.v v)):
  pureRun P (do eqGuard op t xo yo (.bool a) (.bool b);binOp op t (.bool a) (.bool b))=some v:=by
 have hu:pureRun P (underlying t)=some .bool:=by
  unfold underlying;rw[pureRun_bind];show(some P:Option Program).bind _=_
  rw[aW,ht];rfl
 cases op<;>simp only[boolB] at h<;>try (cases h;done)
 case eql=>
  cases h;show pureRun P ((Op.equal t (.bool a) (.bool b))>>=fun x=>pure (Value.bool x))=_
  unfold Op.equal Op.maxDepth;unfold Op.equalIn;simp only[pureRun_bind,hu,aW];rfl
 case neq=>
  cases h;show pureRun P ((Op.equal t (.bool a) (.bool b))>>=fun x=>pure (Value.bool (!x)))=_
  unfold Op.equal Op.maxDepth;unfold Op.equalIn;simp only[pureRun_bind,hu,aW];rfl
theorem EN {op:BinOp}{a b:Bool}{p:PV}(h:boolB op a b=some p): ∃v,p= .v v∧plain1 v=true:=by
 unfold boolB at h
 (repeat' split at h)<;>first|(cases h;done)|(cases h;exact⟨_,rfl,rfl⟩)
def valT (P:Program)(t:TypeId)(vs:List Value):Option Value:=
 match bv P t with
 |some true=>some (.agg vs.toArray)
 |some false=>vs[0]?
 |none=>none
theorem pure_underlying {t:TypeId}{d:TypeDesc}(h:P.underlying t=some d):pureRun P (underlying t)=some d:=by
 unfold underlying;rw[pureRun_bind];show(some P:Option Program).bind _=_
 rw[aW,h];rfl
theorem sJ {t:TypeId}{b:Bool}(h:bv P t=some b):pureRun P (isAgg t)=some b:=by
 unfold bv at h;rw[bf] at h;obtain⟨d,h1,h2⟩:=h;unfold isAgg;rw[pureRun_bind,pure_underlying h1,aW];subst h2;cases d<;>rfl
theorem Ai {t:TypeId}{n:Nat}(h:szT P t=some n):pureRun P (sizeOf t)=some n:=by
 unfold szT at h;rw[bf] at h;obtain⟨i,h1,h2⟩:=h;unfold sizeOf typeInfo;rw[pureRun_bind,pureRun_bind];show((some P:Option Program).bind _).bind _=_
 rw[aW,h1];subst h2;rfl
structure EqT (P:Program)(t:TypeId)(ks:List Ck):Prop where
 agg:(bv P t=some true∧szT P t=some ks.length)∨(bv P t=some false∧ks.length=1)
theorem pi {t:TypeId}{ks:List Ck}(h:EqT P t ks){vs:List Value}{o:Nat}(hl:o+ks.length≤vs.length): ∃u,valT P t ((vs.drop o).take ks.length)=some u∧pureRun P (part t vs.toArray o)=some u:=by
 rcases h.agg with⟨h1,h2⟩|⟨h1,h2⟩
 ·refine⟨.agg ((vs.drop o).take ks.length).toArray,by unfold valT;rw[h1],?_⟩;unfold part;rw[pureRun_bind,sJ h1,aW];simp only[if_true];rw[pureRun_bind,Ai h2,aW];show some (Value.agg _)=_
  congr 2
  simp[kn]
 ·have hlt:o<vs.length:=by omega
  refine⟨vs[o],?_,?_⟩
  ·unfold valT;rw[h1];simp only;rw[h2,cu];simp[hlt]
  ·unfold part;rw[pureRun_bind,sJ h1,aW];simp only[ad,if_false];have:vs.toArray[o]?=some vs[o]:=by simp[hlt]
   rw[this];rfl
theorem eqL_len: ∀{ks:List Ck} {xs ys:List PV} {b:Bool},eqL ks xs ys=some b→xs.length=ks.length∧ys.length=ks.length
 |[],[],[],b,h=>⟨rfl,rfl⟩
 |k::ks,x::xs,y::ys,b,h=>by
  unfold eqL at h;split at h
  ·split at h
   ·rename_i h2;obtain⟨a,c⟩:=eqL_len h2;simp[a,c]
   ·cases h
  ·cases h
 |[],[],_::_,_,h=>by cases h
 |[],_::_,_,_,h=>by cases h
 |_::_,[],_,_,h=>by cases h
 |_::_,_::_,[],_,h=>by cases h
theorem sK: ∀{ks ls:List Ck} {xs ys:List PV} {b:Bool},eqL (ks++ls) xs ys=some b→ ∃b1 b2,eqL ks (xs.take ks.length) (ys.take ks.length)=some b1∧eqL ls (xs.drop ks.length) (ys.drop ks.length)=some b2∧b=(b1&& b2)
 |[],ls,xs,ys,b,h=>⟨true,b,rfl,h,by simp⟩
 |k::ks,ls,[],ys,b,h=>by cases h
 |k::ks,ls,x::xs,[],b,h=>by cases h
 |k::ks,ls,x::xs,y::ys,b,h=>by
  simp only[ay] at h;unfold eqL at h;split at h
  ·rename_i c hc;split at h
   ·rename_i d hd;cases h;obtain⟨b1,b2,h1,h2,rfl⟩:=sK hd;exact⟨c&& b1,b2,by simp only[aD,eH,eqL,hc,h1],h2,by rw[mQ]⟩
   ·cases h
  ·cases h
theorem sL (vs:List Value)(n:Nat):(vs.map PV.v).take n=(vs.take n).map PV.v:=by rw[jV]
theorem sM (vs:List Value)(n:Nat):(vs.map PV.v).drop n=(vs.drop n).map PV.v:=by rw[jU]
def EqOk (P:Program)(D:Nat)(t:TypeId)(ks:List Ck):Prop:=EqT P t ks∧ ∀(vx vy:List Value) (b:Bool),eqL ks (vx.map .v) (vy.map .v)=some b→ ∃u w,valT P t vx=some u∧valT P t vy=some w∧pureRun P (Op.equalIn D t u w)=some b
theorem eq_loop {D:Nat}{rec:TypeId→Option (List Ck)}(hrec: ∀t ks,rec t=some ks→EqOk P D t ks){vx vy:List Value}: ∀(fs:List Field) (o:Nat) {ks:List Ck} {b:Bool},eqFs rec fs o=some ks→o≤vx.length→o≤vy.length→eqL ks ((vx.drop o).map .v) ((vy.drop o).map .v)=some b→
  pureRun P (forIn fs ((none,()):Option Bool×Unit) fun f __s=>
      if f.name≠ "_" then do
       let __do_lift←part f.type vx.toArray f.offset
       let __do_lift_1←part f.type vy.toArray f.offset
       let __do_lift←Op.equalIn D f.type __do_lift __do_lift_1
       if(!__do_lift)=true then pure (ForInStep.done (some false,())) else pure (ForInStep.yield (none,()))
      else pure (ForInStep.yield (none,())))=some ((if b then none else some false),())
 |[],o,ks,b,h,_,_,hl=>by
  cases h;have:=eqL_len hl;have:vx.drop o=[]:=bb (by simpa using this.1)
  have:vy.drop o=[]:=bb (by have:=(eqL_len hl).2;simpa using this)
  simp only[List.forIn_nil];simp_all[eqL];cases hl;rfl
 |f::fs,o,ks,b,h,ho1,ho2,hl=>by
  unfold eqFs at h;split at h
  ·rename_i hn;simp only[au,bne_iff_ne] at hn;have ho:=aS hn.2;split at h
   ·rename_i k hk;split at h
    ·rename_i r hr;cases h;obtain⟨b1,b2,e1,e2,rfl⟩:=sK hl;have hlen:=eqL_len hl;simp only[aa,bu,an] at hlen;obtain⟨hT,hE⟩:=hrec _ _ hk;rw[sL,sL] at e1;obtain⟨u,w,m1,m2,m3⟩:=hE _ _ _ e1;obtain⟨u',p1,p2⟩:=pi hT (vs:=vx) (o:=o) (by omega);obtain⟨w',q1,q2⟩:=pi hT (vs:=vy) (o:=o) (by omega);rw[m1] at p1;cases p1;rw[m2] at q1;cases q1;simp only[List.forIn_cons];rw[if_pos hn.1,ho,pureRun_bind,pureRun_bind,p2,aW,pureRun_bind,q2,aW,pureRun_bind,m3,aW];cases b1 with
     |false=>rfl
     |true=>
      simp only[ak,ad,if_false,cR];rw[sM,sM,dM,dM] at e2;exact eq_loop hrec fs (o+k.length) hr (by omega) (by omega) e2
    ·cases h
   ·cases h
  ·cases h
theorem mM: ∀(d:Nat) {t:TypeId} {ks:List Ck},eqTy P d t=some ks→ ∀D,d≤D→EqOk P D t ks
 |0,t,ks,h=>by cases h
 |d+1,t,ks,h=>by
  intro D hD;obtain⟨D,rfl⟩: ∃D',D=D'+1:=⟨D-1,by omega⟩;unfold eqTy at h;have one: ∀{k:Ck} {d:TypeDesc},P.underlying t=some d→yT d=false→(∀x y b,eqC k (.v x) (.v y)=some b→pureRun P (Op.equalIn (D+1) t x y)=some b)→EqOk P (D+1) t [k]:=by
   intro k d hu ha hE;have hag:bv P t=some false:=by unfold bv;rw[hu];simp[ha]
   refine⟨⟨.inr ⟨hag,rfl⟩⟩,fun vx vy b hb=>?_⟩;have hl:=eqL_len hb;simp only[aa,az] at hl;obtain⟨x,rfl⟩:=gV.1 hl.1;obtain⟨y,rfl⟩:=gV.1 hl.2;refine⟨x,y,by unfold valT;rw[hag];rfl,by unfold valT;rw[hag];rfl,?_⟩;simp only[bz,fy,eqL] at hb;split at hb
   ·rename_i c hc;cases hb;rw[eL];exact hE x y c hc
   ·cases hb
  split at h
  ·rename_i hu;cases h;refine one hu rfl fun x y b hb=>?_;cases x<;>cases y<;>simp only[eqC] at hb<;>try (cases hb;done)
   cases hb;unfold Op.equalIn;rw[pureRun_bind,pure_underlying hu,aW];rfl
  ·rename_i k hu;cases h;refine one hu rfl fun x y b hb=>?_;cases x<;>cases y<;>simp only[eqC] at hb<;>try (cases hb;done)
   split at hb
   ·rename_i e;cases hb;subst e;unfold Op.equalIn;rw[pureRun_bind,pure_underlying hu,aW];simp only[if_true];show some _=some _
    congr 1
   ·cases hb
  ·rename_i hu;cases h;refine one hu rfl fun x y b hb=>?_;cases x<;>cases y<;>simp only[eqC] at hb<;>try (cases hb;done)
   cases hb;unfold Op.equalIn;rw[pureRun_bind,pure_underlying hu,aW];rfl
  ·rename_i fields hu;split at h
   ·cases h
   ·rename_i hst;split at h
    ·rename_i ks' hfs;split at h
     ·rename_i m hm;split at h
      ·rename_i hb;cases h;have e:=aS hb;have hag:bv P t=some true:=by unfold bv;rw[hu];rfl
       refine⟨⟨.inl ⟨hag,by rw[hm,e]⟩⟩,fun vx vy b hl=>?_⟩;refine⟨.agg vx.toArray,.agg vy.toArray,by unfold valT;rw[hag],by unfold valT;rw[hag],?_⟩;have loop:=eq_loop (P:=P) (D:=D) (rec:=eqTy P d) (fun t ks hk=>mM d hk D (by omega)) (vx:=vx) (vy:=vy) fields.toList 0 hfs (bD _) (bD _) (by simpa using hl)
       unfold Op.equalIn;simp only[pureRun_bind,pure_underlying hu,aW];have hp:pureRun P program=some P:=rfl;rw[hp];simp only[aW,hst,ad,if_false];simp only[←Array.forIn_toList];rw[pureRun_bind,loop,aW];cases b<;>rfl
      ·cases h
     ·cases h
    ·cases h
  ·cases h
theorem sN: ∀(d:Nat) {t:TypeId} {ks:List Ck},eqTy P d t=some ks→ ∀D,d≤D→P.eqGuardType D t=false
 |0,t,ks,h=>by cases h
 |d+1,t,ks,h=>by
  intro D hD;obtain⟨D,rfl⟩: ∃D',D=D'+1:=⟨D-1,by omega⟩;unfold eqTy at h;unfold Program.eqGuardType;split at h
  ·rename_i hu;rw[hu]
  ·rename_i hu;rw[hu]
  ·rename_i hu;rw[hu]
  ·rename_i fields hu;rw[hu];simp only;split at h
   ·cases h
   ·split at h
    ·rename_i ks' hfs;have: ∀(fs:List Field) (o:Nat) (ks:List Ck),eqFs (eqTy P d) fs o=some ks→ ∀f∈fs,P.eqGuardType D f.type=false:=by
      intro fs;induction fs with
      |nil=>intro o ks _ f hf;cases hf
      |cons g gs ih=>
       intro o ks hk f hf;unfold eqFs at hk;split at hk
       ·split at hk
        ·rename_i k hk1;split at hk
         ·rename_i r hr;rcases aT.1 hf with rfl|hf
          ·exact sN d hk1 D (by omega)
          ·exact ih _ _ hr f hf
         ·cases hk
        ·cases hk
       ·cases hk
     rw[←Array.any_toList,cF];intro f hf;simp[this _ _ _ hfs f hf]
    ·cases h
  ·cases h
theorem Ox {t:TypeId}{xo yo:Operand}{ks:List Ck}{vx vy:List Value}{b:Bool}(hk:eqTy P 10 t=some ks)(hd:10≤P.depth)(ha:bv P t=some true)(h:eqL ks (vx.map .v) (vy.map .v)=some b):
  pureRun P (do eqGuard .eql t xo yo (.agg vx.toArray) (.agg vy.toArray);binOp .eql t (.agg vx.toArray) (.agg vy.toArray))=some (.bool b)∧pureRun P (do eqGuard .neq t xo yo (.agg vx.toArray) (.agg vy.toArray);binOp .neq t (.agg vx.toArray) (.agg vy.toArray))=some (.bool (!b)):=by
 obtain⟨_,hE⟩:=mM 10 hk Op.maxDepth (by decide);obtain⟨u,w,h1,h2,h3⟩:=hE vx vy b h;unfold valT at h1 h2;rw[ha] at h1 h2;cases h1;cases h2;have hg:=sN 10 hk P.depth hd;have guard: ∀op,(op= .eql∨op= .neq)→pureRun P (eqGuard op t xo yo (.agg vx.toArray) (.agg vy.toArray))=some ():=by
  intro op ho;have hp:pureRun P program=some P:=rfl;rcases ho with rfl|rfl<;>
  ·unfold eqGuard;simp only[ak,ad,if_false,pureRun_bind]
   try rw[hp]
   try simp only[aW,hg,aM,if_true]
   rfl
 constructor
 ·rw[pureRun_bind,guard _ (.inl rfl),aW];show pureRun P ((Op.equal t (.agg vx.toArray) (.agg vy.toArray))>>=fun x=>pure (Value.bool x))=_
  rw[pureRun_bind];unfold Op.equal;rw[h3];rfl
 ·rw[pureRun_bind,guard _ (.inr rfl),aW];show pureRun P ((Op.equal t (.agg vx.toArray) (.agg vy.toArray))>>=fun x=>pure (Value.bool (!x)))=_
  rw[pureRun_bind];unfold Op.equal;rw[h3];rfl
end
section
variable {X:Cx}{P:Program}{base:Nat}{L:Nat→Prop}
theorem v_of {v:Value}{x:Value}(h:X.T v (.v x)):v=x:=by cases h;rfl
theorem sO {w:World}{S:Nat→Prop}: ∀{ks:List Ck} {xs ys:List PV} {b:Bool} {vx vy:List Value},eqL ks xs ys=some b→F2 (RT w S) vx xs→F2 (RT w S) vy ys→xs=vx.map .v∧ys=vy.map .v
 |[],[],[],b,_,_,h,hx,hy=>by cases hx;cases hy;exact⟨rfl,rfl⟩
 |k::ks,x::xs,y::ys,b,_,_,h,.cons (a:=u) hx tx,.cons (a:=w) hy ty=>by
  unfold eqL at h;split at h
  ·rename_i c hc;split at h
   ·rename_i d hd;obtain⟨e1,e2⟩:=sO hd tx ty;have:x= .v u∧y= .v w:=by
     cases k<;>cases x<;>cases y<;>simp only[eqC] at hc<;>first|(cases hc;done)|exact⟨by cases hx;rfl,by cases hy;rfl⟩
    rw[e1,e2,this.1,this.2];exact⟨rfl,rfl⟩
   ·cases h
  ·cases h
 |[],[],_::_,_,_,_,h,_,_=>by cases h
 |[],_::_,_,_,_,_,h,_,_=>by cases h
 |_::_,[],_,_,_,_,h,_,_=>by cases h
 |_::_,_::_,[],_,_,_,h,_,_=>by cases h
theorem aggA_ok (hm:MR X base L){w:SW}{v:Value}(h:WR X v w):Sp X.e (tH X.σ w) fun a=> ∃p,a.ev X.e=some p∧X.T v p:=by
 unfold tH;refine Sp.bind (deepS_ok hm h) fun q ⟨⟨p,h1,h2,_⟩,_⟩=>?_;split
 ·rename_i hq;rw[hq] at h2;exact .ret ⟨p,h1,h2.mono ⟨fun B hB=>hB.elim id (fun⟨_,hb,_⟩=>by cases hb),fun _ _=>rfl⟩⟩
 ·exact .fail
theorem binC_ok {x y:SW}{u v:Value}{f:RF}{s:Sem Value}(hx:WR X u x)(hy:WR X v y)(h: ∀p q r,X.T u p→X.T v q→f.ev [p,q]=some r→ ∃w,r= .v w∧plain1 w=true∧s.run P X.w= .ok w X.w):Sp X.e (yY f x y) fun sv=> ∃w,s.run P X.w= .ok w X.w∧VR X w sv:=by
 unfold yY;split
 ·split
  ·refine Sp.bind (cellA_ok hx.inv) fun a ⟨p,a1,_,a3⟩=>Sp.bind (cellA_ok hy.inv) fun b ⟨q,b1,_,b3⟩=>Sp.bind Sp.emit fun r hr=>?_;obtain⟨z,h1,h2⟩:=dT hr a1 b1;obtain⟨w,rfl,hp,hw⟩:=h p q z a3 b3 h1;exact .ret ⟨w,hw,.w (.c (.a h2 rfl (.v hp)))⟩
  ·exact .fail
 ·exact .fail
theorem Oy (hm:MR X base L){op:BinOp}{t:TypeId}{xo yo:Operand}{x y:SW}{u v:Value}(hx:WR X u x)(hy:WR X v y):Sp X.e (Ji P X.σ op t x y) fun sv=> ∃w,(do eqGuard op t xo yo u v;binOp op t u v:Sem Value).run P X.w= .ok w X.w∧VR X w sv:=by
 have ints: ∀p q r,X.T u p→X.T v q→(RF.bin op).ev [p,q]=some r→ ∃w,r= .v w∧plain1 w=true∧(do eqGuard op t xo yo u v;binOp op t u v:Sem Value).run P X.w= .ok w X.w:=by
  intro p q r hp hq h;simp only[RF.ev] at h;split at h
  ·rename_i k a k' b e;cases e;have:=v_of hp;subst this;have:=v_of hq;subst this;obtain⟨w,rfl,hw⟩:=H3 h;exact⟨w,rfl,hw,pureRun_sound P _ _ (Ov h) _⟩
  ·rename_i a b e;cases e;have:=v_of hp;subst this;have:=v_of hq;subst this;obtain⟨w,rfl,hw⟩:=H4 h;exact⟨w,rfl,hw,pureRun_sound P _ _ (Ow h) _⟩
  ·cases h
 unfold Ji;split
 ·rename_i fields hu;have hag:bv P t=some true:=by unfold bv;rw[hu];rfl
  split
  ·rename_i hc;simp only[au,ei] at hc;split
   ·rename_i ks hk;refine Sp.bind (aggA_ok hm hx) fun a' ⟨p,a1,a2⟩=>Sp.bind (aggA_ok hm hy) fun b' ⟨q,b1,b2⟩=>Sp.bind Sp.emit fun r hr=>?_;obtain⟨z,e1,e2⟩:=dT hr a1 b1;simp only[RF.ev] at e1;split at e1
    ·rename_i xs ys hl;cases hl;split at e1
     ·rename_i c hc';cases e1;have run: ∀vx vy:Array Value,u= .agg vx→v= .agg vy→pureRun P (do eqGuard .eql t xo yo u v;binOp .eql t u v)=some (.bool c)∧pureRun P (do eqGuard .neq t xo yo u v;binOp .neq t u v)=some (.bool (!c)):=by
       rintro vx vy rfl rfl;obtain⟨_,e3,_,k1⟩:=a2.agg_inv;obtain⟨_,e4,_,k2⟩:=b2.agg_inv;cases e3;cases e4;obtain⟨e5,e6⟩:=sO hc' k1.f2 k2.f2;have:=Ox (xo:=xo) (yo:=yo) (vx:=vx.toList) (vy:=vy.toList) hk hc.2 hag (by rw[←e5,←e6];exact hc');simpa using this
      have run:pureRun P (do eqGuard .eql t xo yo u v;binOp .eql t u v)=some (.bool c)∧pureRun P (do eqGuard .neq t xo yo u v;binOp .neq t u v)=some (.bool (!c)):=by
       generalize hp:PV.agg xs=p at a2;generalize hq:PV.agg ys=q at b2;cases a2<;>first|(cases hp;done)|skip
       cases b2<;>first|(cases hq;done)|exact run _ _ rfl rfl
      split
      ·exact .ret ⟨_,pureRun_sound P _ _ run.1 _,.w (.c (.a e2 rfl (.v rfl)))⟩
      ·rename_i hne;refine Sp.bind Sp.emit fun r' hr'=>?_;obtain⟨z',g1,g2⟩:=ec hr' e2;cases g1;cases op<;>first|(exact absurd rfl hne)|(exact Bool.noConfusion hc.1)|skip
       exact .ret ⟨_,pureRun_sound P _ _ run.2 _,.w (.c (.a g2 rfl (.v rfl)))⟩
     ·cases e1
    ·cases e1
   ·exact .fail
  ·exact .fail
 ·rename_i hu;refine binC_ok hx hy fun p q r hp hq h=>?_;simp only[RF.ev] at h;split at h
  ·rename_i a b e;cases e;have:=v_of hp;subst this;have:=v_of hq;subst this;obtain⟨w,rfl,hw⟩:=EN h;exact⟨w,rfl,hw,pureRun_sound P _ _ (Jz hu h) _⟩
  ·cases h
 ·exact binC_ok hx hy ints
 ·exact binC_ok hx hy ints
 ·exact .fail
theorem Oz {op:BinOp}{t:TypeId}{y:Operand}(h:Ez P op t y=true):(op= .eql∨op= .neq)∧(∃e,P.underlying t=some (.slice e))∧y= .const (.slice none 0 0):=by
 unfold Ez yU at h;simp only[au] at h;obtain⟨⟨h1,h2⟩,h3⟩:=h;refine⟨?_,?_,?_⟩
 ·cases op<;>first|exact .inl rfl|exact .inr rfl|cases h1
 ·split at h2
  ·exact⟨_,by assumption⟩
  ·cases h2
 ·split at h3
  ·rfl
  ·cases h3
theorem OA {op:BinOp}{t e:TypeId}{xo:Operand}{b:Option Addr}{n c:Nat}{w:World}(ho:op= .eql∨op= .neq)(hu:P.underlying t=some (.slice e)):(do eqGuard op t xo (.const (.slice none 0 0)) (.slice b n c) (.slice none 0 0);binOp op t (.slice b n c) (.slice none 0 0):Sem Value).run P w= .ok (.bool (if b.isSome then iM op else !iM op)) w:=by
 have e1:(Op.equal t (.slice b n c) (.slice none 0 0)).run P w= .ok (!b.isSome) w:=by
  unfold Op.equal Op.maxDepth Op.equalIn;rw[Sem.run_bind,run_underlying hu];cases b<;>rfl
 rcases ho with rfl|rfl
 ·show(do pure (.bool (←Op.equal t (.slice b n c) (.slice none 0 0))):Sem Value).run P w=_
  rw[Sem.run_bind,e1];cases b<;>rfl
 ·show(do pure (.bool (!(←Op.equal t (.slice b n c) (.slice none 0 0)))):Sem Value).run P w=_
  rw[Sem.run_bind,e1];cases b<;>rfl
theorem Tg {w:World}{S:Nat→Prop}{v:Value}{els:List (List PV)}(h:RT w S v (.sl els)): ∃b n c,v= .slice b n c∧(els.length≠0→b.isSome=true):=by
 cases h with
 |nil h=>rcases h with rfl|⟨_,_,rfl⟩<;>exact⟨_,_,_,rfl,fun h=>absurd rfl h⟩
 |sl=>exact⟨_,_,_,rfl,fun _=>rfl⟩
theorem AM {e:List PV}{n r:A}{k:Nat}(h:gX e (.bin .eql) [n,.c (.i64 0)] r)(hn:n.ev e=some (.i64 k)):r.ev e=some (.bool (decide (k=0))):=by
 obtain⟨u,h1,h2⟩:=dT h hn (show A.ev e (.c (.i64 0))=some (.i64 0) from rfl)
 have:u= .bool (decide (k=0)):=by
  have h1:some (PV.bool (decide ((k:Int)=0)))=some u:=h1;cases h1;exact congrArg (fun b=>PV.v (.bool b)) (aV.2 ⟨fun h=>by omega,fun h=>by rw[h];rfl⟩)
 rw[h2,this]
theorem OB (hm:MR X base L){op:BinOp}{c:SC}{v:Value}(h:CR X v c):Sp X.e (Jj X.σ op c) fun sv=> ∃b n c,v= .slice b n c∧CR X (.bool (if b.isSome then iM op else !iM op)) (match sv with| .w (.c c)=>c|_=> .nil)∧ ∃c,sv= .w (.c c):=by
 have fin: ∀{b:Option Addr} {k:Nat} {r:A},(k≠0→b.isSome=true)→r.ev X.e=some (.bool (decide (k=0)))→CR X (.bool (if b.isSome then iM op else !iM op)) (.ub r (iM op)):=fun{b k r} hb hr=> .ub hr fun e=>by
  rw[hb (dZ e),if_pos rfl]
 unfold Jj;split
 ·split
  ·rename_i hl;cases h with
   |lsl hb h1 h=>
    refine Sp.bind Sp.emit fun r hr=>?_;obtain⟨_,ni,_,_,h3,_,_,h5⟩:=h _ _ (hm.kd _ _ hl);have hr:=AM hr h3;rcases h5 with⟨_,_,_,_,rfl,_⟩|⟨rfl,h5,_⟩
    ·exact .ret ⟨_,_,_,rfl,fin (fun _=>rfl) hr,_,rfl⟩
    ·rcases h5 with rfl|⟨_,_,rfl⟩<;>exact .ret ⟨_,_,_,rfl,fin (fun h=>absurd rfl h) hr,_,rfl⟩
  ·exact .fail
 ·refine Sp.bind (cellA_ok h) fun a ⟨p,a1,_,a3⟩=>Sp.bind Sp.emit fun n hn=>Sp.bind Sp.emit fun r hr=>?_;obtain⟨els,rfl,hn⟩:=ey hn a1;have hr:=AM hr hn;obtain⟨b,n,c,rfl,hb⟩:=Tg a3;exact .ret ⟨_,_,_,rfl,fin hb hr,_,rfl⟩
theorem Th {op:UnOp}{c:SC}{v:Value}(hv:CR X v c):Sp X.e (EM.bind (c8 c) fun a=>EM.bind (emit (.un op) [a]) fun r=>EM.ret (SW.c (.a r))) (SwR P X (Op.unary op v)):=by
 refine Sp.bind (cellA_ok hv) fun a ⟨p,a1,_,a3⟩=>Sp.bind Sp.emit fun r hr=>?_;obtain⟨z,h1,h2⟩:=ec hr a1;simp only[RF.ev] at h1;split at h1
 ·rename_i b e;cases e;have:=v_of a3;subst this;split at h1
  ·cases h1;exact .ret ⟨_,rfl,.c (.a h2 rfl (.v rfl))⟩
  ·cases h1
 ·rename_i k n e;cases e;have:=v_of a3;subst this;split at h1
  ·cases h1;exact .ret ⟨_,rfl,.c (.a h2 rfl (.v rfl))⟩
  ·cases h1
 ·cases h1
end
section
variable {X:Cx}{P:Program}{base:Nat}{L:Nat→Prop}
theorem OC {t t':TypeId}{c:SC}{v:Value}(hv:CR X v c):Sp X.e (EA P t t' c) (SwR P X (convert t t' v)):=by
 unfold EA;split
 ·rename_i k0 hs;split
  ·rename_i k hd;refine Sp.bind (cellA_ok hv) fun a ⟨p,a1,_,a3⟩=>Sp.bind Sp.emit fun r hr=>?_;obtain⟨z,h1,h2⟩:=ec hr a1;simp only[RF.ev] at h1;split at h1
   ·rename_i e;cases e;cases h1;have:=v_of a3;subst this;refine .ret ⟨_,?_,.c (.a h2 rfl (.v rfl))⟩;simp[convert,run_underlying hs,run_underlying hd,Conv.intToInt]
   ·cases h1
  ·exact .fail
 ·exact .fail
theorem run_part {t:TypeId}{cs:Array Value}{o:Nat}{v:Value}(h:PartV P t cs.toList o v)(w:World):(part t cs o).run P w= .ok v w:=by
 rcases h with⟨ha,n,hn,hl,rfl⟩|⟨ha,hv⟩
 ·have e:cs.extract o (o+n)=((cs.toList.drop o).take n).toArray:=by
   apply eC.1;simp[kn]
  simp[part,lD ha,run_sizeOf hn,e]
 ·have hv':cs[o]?=some v:=by simpa using hv
  simp[part,lD ha,hv']
theorem JA {t:TypeId}{i:Nat}{w:SW}{v:Value}(hv:WR X v w):Sp X.e (yZ P t w i) (SwR P X (Instr.field t v i)):=by
 have fin: ∀{fields:Array Field} {f:Field} {a:Array Value} {u:Value},P.underlying t=some (.struct fields)→fields[i]?=some f→PartV P f.type a.toList f.offset u→(Instr.field t (.agg a) i).run P X.w= .ok u X.w:=fun hu hf h=>by
  simp[Instr.field,run_underlying hu,hf,asAgg,run_part h]
 unfold yZ;split
 ·rename_i fields hu;split
  ·rename_i f hf;split
   ·cases hv with
    |agg h=>exact(partT_ok h).mono fun w ⟨u,h1,h2⟩=>⟨u,fin hu hf h1,h2⟩
   ·cases hv with
    | @av a x cs h ht r=>
     split
     ·rename_i hc;have ha:=(cnt_spec hc).elim (fun h=>h.2) fun h=>absurd h.1 (cp 0);refine Sp.bind Sp.sizeOf fun k hk=>?_;split
      ·rename_i m;split
       ·rename_i hb;rw[ei] at hb;obtain⟨cs',k1,k2⟩:=hk m rfl;rw[h] at k1;cases k1;obtain⟨p,hp⟩: ∃p,cs[f.offset]?=some p:=⟨_,ac (by omega)⟩;obtain⟨u,h1,h2⟩:=r.f2.get' _ _ hp;exact(uB (.pc h ht hp h2)).mono fun w hw=>⟨u,fin hu hf (.inr ⟨ha,h1⟩),hw⟩
       ·exact .fail
      ·refine Sp.bind Sp.emit fun y hy=>?_;obtain⟨z,h1,h2⟩:=ec hy h;obtain⟨u,k1,k2⟩:=r.f2.get' _ _ (show cs[f.offset]?=some z from h1)
       exact .ret ⟨u,fin hu hf (.inr ⟨ha,k1⟩),.c (.a h2 (all_get ht h1) k2)⟩
     ·rename_i n hc;refine(emitPart_ok (vs:=a.toList) (x:=f.offset) (m:=n+1) (o:=0) hc fun xs p e1 e2=>?_).mono fun w ⟨u,h1,h2⟩=>⟨u,fin hu hf h1,h2⟩;obtain⟨x',e3,rfl⟩:=o9 e1;rw[h] at e3;cases e3;obtain⟨hl,rfl⟩:=bQ e2;refine⟨_,?_,.of ((r.f2.drop f.offset).take (n+1))⟩;unfold rowPart;simp only;rw[if_pos ⟨by rw[aH,bu];omega,by rw[bS,aR (by rw[aH];omega)];exact pZ ht _ _⟩];rw[bS,aR (by rw[aH];omega)]
     ·exact .fail
   ·exact .fail
  ·exact .fail
 ·exact .fail
theorem uF: ∀{cs:List SC} {vs:List Value},F2 (CR X) vs cs→Sp X.e (y7 cs) fun as=> ∃ps,evs X.e as=some ps∧F2 X.T vs ps∧ps.all t0=true
 |_,_,.nil=> .ret ⟨[],rfl,.nil,rfl⟩
 |_,_,.cons h t=>Sp.bind (cellA_ok h) fun a ⟨p,a1,a2,a3⟩=>Sp.bind (uF t) fun as ⟨ps,b1,b2,b3⟩=> .ret ⟨p::ps,evs_cons a1 b1,.cons a3 b2,by simp[a2,b3]⟩
theorem flatA_ok {w:SW}{v:Value}(hv:WR X v w):Sp X.e (Lc w) fun a=> ∃cs arr,v= .agg arr∧a.ev X.e=some (.agg cs)∧RTs X.w X.S arr.toList cs∧cs.all t0=true:=by
 cases hv with
 |c h=>exact .fail
 |av h ht r=>exact .ret ⟨_,_,rfl,h,r,ht⟩
 |agg h=>
  refine Sp.bind (uF h) fun as ⟨ps,p1,p2,p3⟩=>Sp.emit.mono fun y ⟨xs,u,h1,h2,h3⟩=>?_;rw[p1] at h1;cases h1;obtain⟨_,rfl⟩:=bQ h2;have:ps.flatMap PV.cells=ps:=by
   clear p1 p2 h2 h3;rename_i hall;clear hall;induction ps with
   |nil=>rfl
   |cons p ps ih=>
    simp only[bL,au] at p3;rw[df,ih p3.2];cases p<;>first|rfl|simp[t0] at p3
  rw[this] at h3;exact⟨_,_,rfl,h3,.of p2,p3⟩
theorem JB {t:TypeId}{w:SW}{c:SC}{v u:Value}(hv:WR X v w)(hu:CR X u c):Sp X.e (y8 P X.σ t w c) (SwR P X (Instr.index t v u)):=by
 unfold y8;split
 ·rename_i len elem hu';split
  ·rename_i z hz;split
   ·rename_i n hn;refine Sp.bind (flatA_ok hv) fun a ⟨cs,arr,e,a1,a2,a3⟩=>Sp.bind (cellA_ok hu) fun i ⟨p,i1,_,i3⟩=>?_;subst e;have key: ∀xs p',evs X.e [a,i]=some xs→(RF.aix z len n).ev xs=some p'→ ∃(k:IntKind) (j:Int),p= .v (.int k j)∧0≤j∧j<len∧rowPart (j.toNat*z) n cs=some p':=fun xs p' e1 e2=>by
     obtain⟨x,y,f1,f2,rfl⟩:=tL e1;rw[a1] at f1;cases f1;rw[i1] at f2;cases f2;simp only[RF.ev] at e2;split at e2
     ·rename_i e;cases e;obtain⟨h,e2⟩:=tM e2;exact⟨_,_,rfl,h.1,h.2,e2⟩
     ·cases e2
    have hj: ∃jj:Nat,∀k j,p= .v (.int k j)→0≤j→j.toNat=jj:=by
     cases p with
     |v x=>cases x with
      |int k j=>exact⟨j.toNat,fun _ _ e _=>by cases e;rfl⟩
      |_=>exact⟨0,fun _ _ e _=>by cases e⟩
     |_=>exact⟨0,fun _ _ e _=>by cases e⟩
    obtain⟨jj,hj⟩:=hj;refine((pd (vs:=arr.toList) (x:=0) (m:=arr.size) (o:=jj*z) hn fun xs p' e1 e2=>?_)).mono fun w ⟨⟨x,h1,h2⟩,xs,p',e1,e2⟩=>⟨x,?_,h2⟩
    ·obtain⟨k,j,e,h0,_,hr⟩:=key xs p' e1 e2;rw[hj k j e h0] at hr;exact⟨cs,hr,by rw[bS,aR (by simp)];exact a2⟩
    ·obtain⟨k,j,rfl,h0,hl,_⟩:=key xs p' e1 e2;have:=v_of i3;subst this;rw[be,←hj k j rfl h0] at h1;simp[Instr.index,asIntOf,run_underlying hu',h0,hl,run_sizeOf hz,run_part h1]
   ·exact .fail
  ·exact .fail
 ·exact .fail
theorem zk {t:TypeId}{i:Nat}{c:SC}{v:Value}(hv:CR X v c):Sp X.e (nK P t c i) fun c=>SwR P X (Instr.fieldAt t v i) (.c c):=by
 have fin: ∀{fields:Array Field} {f:Field} {m B o:Nat},P.underlying t=some (.struct fields)→fields[i]?=some f→szT P f.type=some (m+1)→(Instr.fieldAt t (.pointer (some ⟨B,o,none⟩)) i).run P X.w= .ok (.pointer (some ⟨B,o+f.offset,none⟩)) X.w:=fun hu hf hz=>by
  simp[Instr.fieldAt,run_underlying hu,hf,Instr.sureAddr,fieldPlace,run_sizeOf hz,fE]
 unfold nK;split
 ·rename_i fields hu;split
  ·rename_i f hf;split
   ·rename_i m hz;split
    ·cases hv with
     |ptr hb h=>exact .ret ⟨_,fin hu hf hz,.c (.ptr hb h)⟩
    ·cases hv with
     |ep hb hi h=>exact .ret ⟨_,fin hu hf hz,.c (.ep hb hi fun nl z hl=>⟨(h nl z hl).1,by rw[(h nl z hl).2,bZ]⟩)⟩
    ·cases hv with
     |tp hl hi hr hS hg he=>exact .ret ⟨_,fin hu hf hz,.c (by rw[bZ];exact .tp hl hi hr hS hg he)⟩
    ·exact .fail
   ·exact .fail
  ·exact .fail
 ·exact .fail
theorem OD {a b y:A}{p q:PV}(h:gX X.e .ix [a,b] y)(ha:a.ev X.e=some p)(hb:b.ev X.e=some q): ∃(k:IntKind) (i:Nat) (k':IntKind) (n:Int),p= .v (.int k i)∧q= .v (.int k' n)∧i<n∧y.ev X.e=some (.v (.int k i)):=by
 obtain⟨u,h1,h2⟩:=dT h ha hb;simp only[RF.ev] at h1;split at h1
 ·rename_i k i k' n e;cases e;obtain⟨hc,rfl⟩:=bQ h1;obtain⟨j,rfl⟩: ∃j:Nat,i=j:=⟨i.toNat,by omega⟩;exact⟨k,j,k',n,rfl,rfl,hc.2,h2⟩
 ·cases h1
theorem it {a:A}(h:iN a=true):a= .c (.i64 0):=by
 unfold iN at h;split at h
 ·rfl
 ·cases h
theorem dD {a b:Nat}(h:(some (PV.i64 (a:Int)):Option PV)=some (.i64 (b:Int))):a=b:=by
 simp only[aK,PV.v.injEq,Value.int.injEq,true_and] at h;omega
theorem zm {t elem:TypeId}{z:Nat}(hu:P.underlying t=some (.slice elem))(hz:szT P elem=some z){B o n cap i:Nat}{k:IntKind}(h:i<n):(Instr.indexAt t (.slice (some ⟨B,o,none⟩) n cap) (.int k i)).run P X.w= .ok (.pointer (some ⟨B,o+i*z,none⟩)) X.w:=by
 have h':(i:Int)<n:=by omega
 simp[Instr.indexAt,asIntOf,run_underlying hu,h,run_sizeOf hz,fE]
theorem zn (hm:MR X base L){t:TypeId}{c d:SC}{v u:Value}(hv:CR X v c)(hu:CR X u d):Sp X.e (nJ P X.σ t c d) fun c=>SwR P X (Instr.indexAt t v u) (.c c):=by
 have tree: ∀{elem:TypeId} {z:Nat} {l:A} {p:PV},P.underlying t=some (.slice elem)→szT P elem=some z→l.ev X.e=some p→X.T v p→Sp X.e (EM.bind (c8 d) fun i=>EM.bind (emit (.tix z) [l,i]) fun j=>EM.ret (SC.tp l j 0)) fun c=>SwR P X (Instr.indexAt t v u) (.c c):=by
  intro elem z l p hut hz hl hp;refine Sp.bind (cellA_ok hu) fun i ⟨q,i1,_,i3⟩=>Sp.bind Sp.emit fun j hj=>?_;obtain⟨r,h1,h2⟩:=dT hj hl i1;simp only[RF.ev] at h1;split at h1
  ·rename_i els k n e;cases e;obtain⟨h0,h1⟩:=tM h1;obtain⟨m,rfl⟩: ∃m:Nat,n=m:=⟨n.toNat,by omega⟩;rw[aq] at h1;split at h1
   ·rename_i row hr;obtain⟨hlen,rfl⟩:=bQ h1;have:=v_of i3;subst this;have hlt:=(aj.1 hr).1;cases hp with
    |nil h=>simp at hlt
    | @sl B o n cap z' arr ty fz _ hS hg hz' hn hc hrow he=>
     have hzz:=(hrow row (ah hr)).1;subst hzz;subst hlen;refine .ret ⟨_,zm hut hz (by omega),.c ?_⟩;have:=uC (vs:=arr.toList.drop o) (n:=n*row.length) (k:=m) hrow.l he hr;rw[dM] at this;exact .tp (o:=0) hl h2 hr hS hg this
   ·cases h1
  ·cases h1
 have arr: ∀{len z:Nat} {elem:TypeId} {B o:Nat} {i:Int} {kk:IntKind},P.underlying t=some (.array len elem)→szT P elem=some z→decide (0≤i∧i<len)=true→(Instr.indexAt t (.pointer (some ⟨B,o,none⟩)) (.int kk i)).run P X.w= .ok (.pointer (some ⟨B,o+i.toNat*z,none⟩)) X.w:=fun hut hz hi=>by
  have hi:=of_decide_eq_true hi;simp[Instr.indexAt,asIntOf,run_underlying hut,hi,run_sizeOf hz,Instr.sureAddr,fE]
 have cst: ∀{kk:IntKind} {i:Int},CR X u (.a (.c (.v (.int kk i))))→u= .int kk i:=fun h=>by
  cases h with
  |a h _ r=>cases h;exact v_of r
 unfold nJ;split
 ·rename_i elem hut;split
  ·rename_i z hz;split
   ·rename_i b o n;split
    ·rename_i l nl z' fz hl;split
     ·rename_i hb;have:=fd hb;subst this;cases hv with
      |lsl hbm h1 h=>
       obtain⟨oi,ni,Ln,e1,e2,e3,e4,e5⟩:=h _ _ (hm.kd _ _ hl);refine Sp.bind (cellA_ok hu) fun i ⟨q,i1,_,i3⟩=>Sp.bind Sp.emit fun j hj=>?_;obtain⟨k,ix,k',nn,rfl,eq,hlt,j1⟩:=OD hj i1 e2;cases eq;have:=v_of i3;subst this;rcases e5 with⟨B,lim,cap,f1,rfl,f2,f3⟩|⟨rfl,_,_⟩
       ·have run:=zm (X:=X) hut hz (B:=B) (o:=oi*z) (cap:=cap) (k:=k) (show ix<ni by omega)
        split
        ·rename_i ho;have:=it ho;subst this;have:oi=0:=dD (a:=oi) (b:=0) e1.symm;subst this;exact .ret ⟨_,run,.c (.ep hbm j1 fun nl z hl'=>by cases(hm.kd _ _ hl).symm.trans hl';exact⟨⟨_,f1⟩,by simp⟩)⟩
        ·refine Sp.bind Sp.emit fun j' hj'=>?_;obtain⟨r,g1,g2⟩:=dT hj' e1 j1;cases g1;refine .ret ⟨_,run,.c (.ep (kk:= .i64) (k:=oi+ix) hbm (by rw[g2];simp) fun nl z hl'=>?_)⟩;cases(hm.kd _ _ hl).symm.trans hl';exact⟨⟨_,f1⟩,by rw[bw];omega⟩
       ·omega
     ·exact .fail
    ·exact .fail
   ·cases hv with
    |a h _ r=>exact tree hut hz h r
   ·cases hv with
    |pc h ha hi r=>
     refine Sp.bind Sp.emit fun y hy=>?_;obtain⟨u',h1,h2⟩:=ec hy h;simp only[RF.ev] at h1;rw[hi] at h1;cases h1;exact tree hut hz h2 r
   ·exact .fail
  ·exact .fail
 ·rename_i len elem hut;split
  ·rename_i z hz;split
   ·cases hv with
    |ptr hb h=>
     split
     ·split
      ·rename_i hi;have:=cst hu;subst this;exact .ret ⟨_,arr hut hz hi,.c (.ptr hb h)⟩
      ·exact .fail
     ·exact .fail
   ·cases hv with
    |ep hb hi' h=>
     split
     ·split
      ·rename_i hi;have:=cst hu;subst this;exact .ret ⟨_,arr hut hz hi,.c (.ep hb hi' fun nl z hl=>⟨(h nl z hl).1,by rw[(h nl z hl).2,bZ]⟩)⟩
      ·exact .fail
     ·exact .fail
   ·cases hv with
    |tp hl hi' hr hS hg he=>
     split
     ·split
      ·rename_i hi;have:=cst hu;subst this;exact .ret ⟨_,arr hut hz hi,.c (by rw[bZ];exact .tp hl hi' hr hS hg he)⟩
      ·exact .fail
     ·exact .fail
   ·exact .fail
  ·exact .fail
 ·exact .fail
def Bd (o:Option Value)(d h lim:Nat):Prop:=(o=none∧h=d)∨ ∃k,o=some (.int k h)∧h≤lim
def OR (X:Cx)(o:Option Value)(c:Option SC):Prop:=(o=none∧c=none)∨ ∃v x,o=some v∧c=some x∧CR X v x
theorem bnd_ok {d y:A}{c:Option SC}{o:Option Value}{dv:Nat}{yk:IntKind}{yv:Nat}(hc:OR X o c)(hd:d.ev X.e=some (.i64 dv))(hy:y.ev X.e=some (.v (.int yk yv))):Sp X.e (lV d y c) fun a=> ∃h:Nat,a.ev X.e=some (.i64 h)∧Bd o dv h yv:=by
 rcases hc with⟨rfl,rfl⟩|⟨v,x,rfl,rfl,hv⟩
 ·exact .ret ⟨dv,hd,.inl ⟨rfl,rfl⟩⟩
 ·refine Sp.bind (cellA_ok hv) fun a ⟨p,a1,_,a3⟩=>Sp.emit.mono fun r hr=>?_;obtain⟨u,h1,h2⟩:=dT hr a1 hy;simp only[RF.ev] at h1;split at h1
  ·rename_i k n k' m e;cases e;obtain⟨hb,rfl⟩:=bQ h1;obtain⟨j,rfl⟩: ∃j:Nat,n=j:=⟨n.toNat,by omega⟩;exact⟨j,h2,.inr ⟨k,by rw[v_of a3],by omega⟩⟩
  ·cases h1
theorem fF {t elem:TypeId}{z:Nat}(hu:P.underlying t=some (.slice elem))(hz:szT P elem=some z){a:Option Addr}{len cap h l hl:Nat}{hi lo:Option Value}(h1:Bd hi len h hl)(h1':hl≤cap)(h2:Bd lo 0 l h)(w:World):
  (Instr.sliceAt t (.slice a len cap) lo hi none).run P w= .ok (.slice (if cap=l then a else a.map (·.add (l*z))) (h-l) (cap-l)) w:=by
 have e:(Instr.sliceBounds true len cap lo hi none).run P w= .ok (l,h,cap) w:=by
  rcases h1 with⟨rfl,rfl⟩|⟨k,rfl,hb⟩<;>rcases h2 with⟨rfl,rfl⟩|⟨k',rfl,hb'⟩
  ·simp[Instr.sliceBounds]
  ·have q:(l:Int)≤h:=by omega
   simp[Instr.sliceBounds,Instr.sliceBound,asIntOf,hb']
  ·have q:h≤cap:=by omega
   simp[Instr.sliceBounds,Instr.sliceBound,asIntOf,q]
  ·have q:h≤cap:=by omega
   simp[Instr.sliceBounds,Instr.sliceBound,asIntOf,q,hb']
 simp only[Instr.sliceAt,Sem.run_bind,run_underlying hu,Result.andThen_ok,Instr.slice,e,run_sizeOf hz,Sem.run_pure]
theorem JC (hm:MR X base L){t:TypeId}{c:SC}{v:Value}{lo hi:Option Value}{l h:Option SC}(hv:CR X v c)(hlo:OR X lo l)(hhi:OR X hi h):Sp X.e (za P X.σ t c l h) fun c=>SwR P X (Instr.sliceAt t v lo hi none) (.c c):=by
 unfold za;split
 ·rename_i elem hu;split
  ·rename_i z hz;split
   ·cases hv with
    |nil hn=>
     refine Sp.bind (bnd_ok (dv:=0) (yv:=0) hhi rfl rfl) fun ha ⟨hh,h1,h2⟩=>Sp.bind (bnd_ok (dv:=0) hlo rfl h1) fun la ⟨ll,l1,l2⟩=> .ret ?_;have e1:hh=0:=by rcases h2 with⟨_,h⟩|⟨_,_,h⟩<;>omega
     have e2:ll=0:=by rcases l2 with⟨_,h⟩|⟨_,_,h⟩<;>omega
     subst e1;subst e2;rcases hn with rfl|⟨B,o,rfl⟩
     ·exact⟨_,fF hu hz h2 (am _) l2 _,.c (.nil (.inl rfl))⟩
     ·exact⟨_,fF hu hz h2 (am _) l2 _,.c (.nil (.inr ⟨B,o,rfl⟩))⟩
   ·rename_i b o n;split
    ·rename_i lst nl z' fz hl;split
     ·rename_i hc;simp only[au,ei] at hc;have:=fd hc.1;subst this;cases hv with
      |lsl hbm hone hh=>
       obtain⟨oi,ni,Ln,e1,e2,e3,e4,e5⟩:=hh _ _ (hm.kd _ _ hl);have lim: ∃lm:Nat,(if iN o=true then nl else n).ev X.e=some (.i64 lm)∧oi+lm≤Ln:=by
        split
        ·rename_i ho;have:=it ho;subst this;have:oi=0:=dD (a:=oi) (b:=0) e1.symm;exact⟨Ln,e3,by omega⟩
        ·exact⟨ni,e2,e4⟩
       obtain⟨lm,m1,m2⟩:=lim;refine Sp.bind (bnd_ok hhi e2 m1) fun ha ⟨hv',h1,h2⟩=>?_;have hvle:oi+hv'≤Ln:=by rcases h2 with⟨_,h⟩|⟨_,_,h⟩<;>omega
       have key: ∀{lv:Nat} {o' n':A},Bd lo 0 lv hv'→lv≤hv'→o'.ev X.e=some (.i64 (oi+lv:Nat))→n'.ev X.e=some (.i64 (hv'-lv:Nat))→SwR P X (Instr.sliceAt t v lo hi none) (.c (.lsl b o' n')):=by
        intro lv o' n' hb hle k1 k2;rcases e5 with⟨B,lim,cap,f1,rfl,f2,f3⟩|⟨rfl,hn,f2⟩
        ·refine⟨_,fF hu hz h2 (by omega) hb _,.c (.lsl hbm rfl fun nl' z' hl'=>?_)⟩;cases(hm.kd _ _ hl).symm.trans hl';refine⟨oi+lv,hv'-lv,Ln,k1,k2,e3,by omega,?_⟩;by_cases hcl:cap=lv
         ·rw[if_pos hcl];refine .inr ⟨by omega,.inr ⟨B,oi*z,?_⟩,by omega⟩;rw[show hv'-lv=0 by omega,show cap-lv=0 by omega]
         ·rw[if_neg hcl];refine .inl ⟨B,lim,cap-lv,f1,?_,by omega,?_⟩
          ·simp[fE,bw]
          ·rw[show oi+lv+(cap-lv)=oi+cap by omega];exact f3
        ·have e1:hv'=0:=by omega
         have e2:lv=0:=by omega
         subst e1;subst e2;rcases hn with rfl|⟨B,x,rfl⟩
         ·exact⟨_,fF hu hz h2 (by omega) hb _,.c (.lsl hbm rfl fun nl' z' hl'=>by cases(hm.kd _ _ hl).symm.trans hl';exact⟨oi,0,Ln,k1,k2,e3,by omega,.inr ⟨rfl,.inl rfl,f2⟩⟩)⟩
         ·exact⟨_,fF hu hz h2 (by omega) hb _,.c (.lsl hbm rfl fun nl' z' hl'=>by cases(hm.kd _ _ hl).symm.trans hl';exact⟨oi,0,Ln,k1,k2,e3,by omega,.inr ⟨rfl,.inr ⟨B,x,rfl⟩,f2⟩⟩)⟩
       split
       ·rename_i hlo';rcases hlo with⟨rfl,_⟩|⟨_,_,_,e,_⟩
        ·exact .ret (key (lv:=0) (.inl ⟨rfl,rfl⟩) (bD _) e1 h1)
        ·cases e
       ·rename_i lc;refine Sp.bind (bnd_ok (dv:=0) hlo rfl h1) fun la ⟨lv,l1,l2⟩=>Sp.bind Sp.emit fun o' ho'=>Sp.bind Sp.emit fun n' hn'=>?_;have hle:lv≤hv':=by rcases l2 with⟨_,h⟩|⟨_,_,h⟩<;>omega
        obtain⟨r,g1,g2⟩:=dT ho' e1 l1;obtain⟨r',g3,g4⟩:=dT hn' h1 l1;cases g1;cases g3;exact .ret (key l2 hle (by rw[g2];simp) (by rw[g4];congr 3;omega))
     ·exact .fail
    ·exact .fail
   ·refine Sp.bind (cellA_ok hv) fun s ⟨p,s1,_,s3⟩=>Sp.bind Sp.emit fun n hn=>?_;obtain⟨els,rfl,n1⟩:=ey hn s1;refine Sp.bind (bnd_ok hhi n1 n1) fun ha ⟨hv',h1,h2⟩=>Sp.bind (bnd_ok (dv:=0) hlo rfl h1) fun la ⟨lv,l1,l2⟩=>Sp.bind Sp.emit fun r hr=>?_;have hle:lv≤hv':=by rcases l2 with⟨_,h⟩|⟨_,_,h⟩<;>omega
    have hvl:hv'≤els.length:=by rcases h2 with⟨_,h⟩|⟨_,_,h⟩<;>omega
    obtain⟨u,g1,g2⟩:=fS hr s1 l1 h1;simp only[RF.ev,aq] at g1;obtain⟨⟨_,_,_,hok,hz0⟩,rfl⟩:=bQ g1;cases s3 with
    |nil hn=>
     simp only[bJ] at hvl;have e1:hv'=0:=by omega
     have e2:lv=0:=by omega
     subst e1;subst e2;rcases hn with rfl|⟨B,x,rfl⟩
     ·exact .ret ⟨_,fF hu hz h2 (by simp) l2 _,.c (.a g2 rfl (.nil (.inl rfl)))⟩
     ·exact .ret ⟨_,fF hu hz h2 (by simp) l2 _,.c (.a g2 rfl (.nil (.inr ⟨B,x,rfl⟩)))⟩
    | @sl B o n cap z' arr ty fz _ hS hg hz' hn' hcp hrow he=>
     subst hn';refine .ret ⟨_,fF hu hz h2 hcp l2 _,.c (.a g2 rfl ?_)⟩;by_cases hcl:cap=lv
     ·rw[if_pos hcl,show hv'-lv=0 by omega,show cap-lv=0 by omega,da]
      exact .nil (.inr ⟨B,o,rfl⟩)
     ·rw[if_neg hcl];have hsub:=hrow.sub lv (hv'-lv);have hlen2:((els.drop lv).take (hv'-lv)).length=hv'-lv:=by rw[aH,bu];omega
      have hzz:(els.drop lv).take (hv'-lv)=[]∨z'=z:=by
       cases els with
       |nil=>exact .inl (by simp)
       |cons r els=>
        right
        have:r.length=z:=of_decide_eq_true hok;rw[←this,(hrow r (by simp)).1]
      have hadd:(some ⟨B,o,none⟩:Option Addr).map (·.add (lv*z))=some ⟨B,o+lv*z,none⟩:=by simp[fE]
      rw[hadd];refine .sl hS hg hz' hlen2 (by omega) hsub ?_;rcases hzz with hnil|rfl
      ·have h0:hv'-lv=0:=by rw[←hlen2,hnil];rfl
       rw[hnil,h0];simpa using RTs.nil
      ·have h5:=(he.f2.drop (lv*z')).take ((hv'-lv)*z');have hmul:(hv'-lv)*z'≤els.length*z'-lv*z':=by rw[←Nat.sub_mul];exact bx _ (by omega)
       rw[cS,dM,b8,bi hmul] at h5;rw[flat_drop hrow.l,flat_take (hrow.d _).l] at h5;exact .of h5
  ·exact .fail
 ·exact .fail
theorem H5 (hm:MR X base L){t:TypeId}{c hc mc:SC}{v vh vm:Value}{lo:Option Value}{l:Option SC}(hv:CR X v c)(hlo:OR X lo l)(hh:CR X vh hc)(hmx:CR X vm mc):Sp X.e (tI P X.σ t c l hc mc) fun c=>SwR P X (Instr.sliceAt t v lo (some vh) (some vm)) (.c c):=by
 unfold tI;split
 ·rename_i elem hu;split
  ·rename_i z hz;split
   ·rename_i b o n;split
    ·rename_i lst nl z' fz hl;split
     ·cases hv with
      |lsl hbm hone hx=>
       obtain⟨oi,ni,Ln,e1,e2,e3,e4,e5⟩:=hx _ _ (hm.kd _ _ hl);refine Sp.bind (bnd_ok (.inr ⟨vm,mc,rfl,rfl,hmx⟩) e2 e2) fun ma ⟨mv,m1,m2⟩=>Sp.bind (bnd_ok (.inr ⟨vh,hc,rfl,rfl,hh⟩) m1 m1) fun ha ⟨hv',h1,h2⟩=>Sp.bind (bnd_ok (dv:=0) hlo rfl h1) fun la ⟨lv,l1,l2⟩=> .ret ?_;have hcap: ∃a cap,v= .slice a ni cap∧ni≤cap:=by
        rcases e5 with⟨B,lim,cap,_,rfl,_,_⟩|⟨rfl,rfl|⟨B,x,rfl⟩,_⟩
        ·exact⟨_,_,rfl,by omega⟩
        ·exact⟨_,_,rfl,am _⟩
        ·exact⟨_,_,rfl,am _⟩
       obtain⟨a,cap,rfl,hcap⟩:=hcap;have e:(Instr.sliceBounds true ni cap lo (some vh) (some vm)).run P X.w= .ok (lv,hv',mv) X.w:=by
        rcases m2 with⟨e,_⟩|⟨k1,e,q1⟩
        ·cases e
        cases e;rcases h2 with⟨e,_⟩|⟨k2,e,q2⟩
        ·cases e
        cases e;have q3:mv≤cap:=by omega
        rcases l2 with⟨rfl,rfl⟩|⟨k',rfl,hb'⟩
        ·simp[Instr.sliceBounds,Instr.sliceBound,asIntOf,q2,q3]
        ·simp[Instr.sliceBounds,Instr.sliceBound,asIntOf,q2,q3,hb']
       refine⟨.slice (if mv=lv then a else a.map (·.add (lv*z))) (hv'-lv) (mv-lv),?_,.c (.un rfl)⟩
       simp only[Instr.sliceAt,Sem.run_bind,run_underlying hu,Result.andThen_ok,Instr.slice,e,run_sizeOf hz,Sem.run_pure]
     ·exact .fail
    ·exact .fail
   ·exact .fail
  ·exact .fail
 ·exact .fail
end
section
variable {X:Cx}{P:Program}{base:Nat}{L:Nat→Prop}
def El (P:Program)(X:Cx)(u:Value)(els:List (List PV)):Prop:= ∀size,elsOk' size els=true→ ∃a c vs,u= .slice a els.length c∧(∀w',w'.heap=X.w.heap→ ∀k,k≤els.length→(Builtin.firstCells size k u).run P w'= .ok (vs.take (k*size)).toArray w')∧F2 X.T vs els.flatten∧Rw size els
theorem El.all {u:Value}{els:List (List PV)}(h:El P X u els)(size:Nat)(hok:elsOk' size els=true): ∃a c vs,u= .slice a els.length c∧(∀w',w'.heap=X.w.heap→(Builtin.firstCells size els.length u).run P w'= .ok vs.toArray w')∧F2 X.T vs els.flatten∧Rw size els:=by
 obtain⟨a,c,vs,h1,h2,h3,h4⟩:=h size hok;refine⟨a,c,vs,h1,fun w' hw=>?_,h3,h4⟩;have hl:=h3.len;rw[dL h4.l] at hl;rw[h2 w' hw _ (am _),aR (by omega)]
theorem el_nil {u:Value}(h:ew u):El P X u []:=fun size _=>by
 have k0: ∀k:Nat,k≤([]:List (List PV)).length→k=0:=fun k h=>by simpa using h
 rcases h with rfl|⟨b,o,rfl⟩
 ·exact⟨none,0,[],rfl,fun w' _ k hk=>by cases k0 k hk;simp[Builtin.firstCells],.nil,fun r h=>by cases h⟩
 ·exact⟨_,0,[],rfl,fun w' _ k hk=>by cases k0 k hk;simp[Builtin.firstCells,loadCells,loadCellsFrom],.nil,fun r h=>by cases h⟩
theorem el_row {B o n cap z:Nat}{arr:Array Value}{ty:TypeId}{fz:Nat×Nat}{els:List (List PV)}(hg:X.w.heap[B]?=some (.cells arr ty fz))(hn:els.length=n)(hr:Rw z els)(he:RTs X.w X.S ((arr.toList.drop o).take (n*z)) els.flatten):
  El P X (.slice (some ⟨B,o,none⟩) n cap) els:=fun size hok=>by
 subst hn;cases els with
 |nil=>exact⟨_,cap,[],rfl,fun w' _ k hk=>by
  have:k=0:=by simpa using hk
  subst this;simp[Builtin.firstCells,loadCells,loadCellsFrom],.nil,fun r h=>by cases h⟩
 |cons r els=>
  have hs:r.length=size:=of_decide_eq_true hok;have hz:=(hr r (by simp)).1;have:z=size:=by omega
  subst this;have hl:=he.f2.len;rw[dL hr.l,aH,bu] at hl;refine⟨_,cap,_,rfl,fun w' hw k hk=>?_,he.f2,hr⟩;have hg':w'.heap[B]?=some (.cells arr ty fz):=by rw[hw];exact hg
  have hm:k*z≤(r::els).length*z:=bx _ hk;simp only[Builtin.firstCells];rw[b8,bi hm];rcases Nat.eq_zero_or_pos (k*z) with h0|hpos
  ·rw[h0,da];simp[loadCells,loadCellsFrom]
  ·exact pe hg' o _ (by rw[←cA];omega)
theorem RM {u:Value}{p:PV}{els:List (List PV)}(h:X.T u p)(e:p= .sl els):El P X u els:=by
 cases h with
 |v _=>cases e
 |nil h=>cases e;exact el_nil h
 |sl hS hg hz hn hc hr he=>cases e;exact el_row hg hn hr he
 |agg _ _=>cases e
theorem uG (hm:MR X base L){c:SC}{u:Value}(h:CR X u c):Sp X.e (sn X.σ c) fun a=> ∃p,a.ev X.e=some p∧ ∀els,p= .sl els→El P X u els:=by
 unfold sn;cases h with
 |a h ht r=>exact .ret ⟨_,h,fun els e=>RM r e⟩
 | @pc x i _ _ _ h ha hi r=>
  simp only[gm];refine Sp.bind (Sp.bind Sp.emit fun y hy=> .ret (Q:=fun(q:A×List Nat)=>gX X.e (.cell i) [x] q.1) hy) fun q hy=>?_;obtain⟨u',h1,h2⟩:=ec hy h;simp only[RF.ev] at h1;rw[hi] at h1;cases h1;exact .ret ⟨_,h2,fun els e=>RM r e⟩
 |nil h=>exact .ret ⟨_,rfl,fun els e=>by cases e;exact el_nil h⟩
 | @lsl b o n v hb h1 h=>
  simp only[gm];split
  ·rename_i l nl z fz hl;refine Sp.bind (Sp.bind Sp.emit fun y hy=> .ret (Q:=fun(q:A×List Nat)=>gX X.e .sub [l,o,n] q.1) hy) fun q hy=> .ret ?_;obtain⟨oi,ni,Ln,e1,e2,e3,e4,e5⟩:=h _ _ (hm.kd _ _ hl);obtain⟨hz,els,k1,k2,k3,k4⟩:=hm.bl b _ hl;rw[e3] at k2;have:=dD k2;subst this;obtain⟨u,q1,q2⟩:=fS hy k1 e1 e2;obtain⟨_,rfl⟩:=bQ q1;simp only[aq] at q2;refine⟨_,q2,fun els' e=>?_⟩;cases e;rcases e5 with⟨B,lim,cap,f1,rfl,f2,f3⟩|⟨rfl,hv,_⟩
   ·rcases k4 with⟨_,k4⟩|⟨B',arr,k4,⟨ty,fz',hg,_⟩,k6⟩
    ·rw[f1] at k4;cases k4
    ·rw[f1] at k4;cases k4;refine el_row hg (by rw[aH,bu];omega) (k3.sub _ _) ?_;have h5:=((RTs.f2 k6).drop (oi*z)).take (ni*z);rw[flat_drop k3.l,flat_take (k3.d _).l,cS,b8] at h5;rw[bi (by have:=bx z e4;rw[bw] at this;omega)] at h5;exact .of h5
   ·rw[da];exact el_nil hv
  ·exact .fail
 |_=>exact .fail
def ez (w:World)(need old elem:Nat):Nat:=(Question.appendCap need old elem).cut (w.tape w.drawn (.appendCap need old elem))
section
variable {st xt ty elem:TypeId}{i:TypeInfo}{zv:Value}(hu:P.underlying st=some (.slice elem))(hx: ∃e,P.underlying xt=some (.slice e))(hi:P.info? elem=some i)
include hu hx hi
theorem EO {u:Value}{n:Nat}{vs:List Value}{ua:Option Addr}{uc:Nat}(hl:u= .slice ua n uc){w w':World}(hf:(Builtin.firstCells i.size n u).run P w= .ok vs.toArray w)(g o len cap:Nat)(hroom:len+n≤cap)
  (hst:(storeCells ⟨g,o+len*i.size,none⟩ vs).run P w= .ok () w'):(Builtin.append_ #[st,xt] ty #[.slice (some ⟨g,o,none⟩) len cap,u]).run P w= .ok (.slice (some ⟨g,o,none⟩) (len+n) cap) w':=by
 obtain⟨e,hx⟩:=hx;subst hl;simp[Builtin.append_,run_underlying hu,run_underlying hx,Go.sizeOf,typeInfo,hi,Builtin.lenOf,hroom,hf,fE,hst]
theorem zo {u:Value}{ua:Option Addr}{uc:Nat}(hl:u= .slice ua 0 uc){w:World}(hf:(Builtin.firstCells i.size 0 u).run P w= .ok #[] w){v:Value}(hv:ew v):(Builtin.append_ #[st,xt] ty #[v,u]).run P w= .ok v w:=by
 obtain⟨e,hx⟩:=hx;subst hl;rcases hv with rfl|⟨b,o,rfl⟩<;>simp[Builtin.append_,run_underlying hu,run_underlying hx,Go.sizeOf,typeInfo,hi,Builtin.lenOf,hf,storeCells]
theorem po (hz:i.zero=some zv){u:Value}{n:Nat}{vs:List Value}{ua:Option Addr}{uc:Nat}(hl:u= .slice ua n uc){w:World}(hf: ∀w':World,w'.heap=w.heap→(Builtin.firstCells i.size n u).run P w'= .ok vs.toArray w')(a:Option Addr)(len cap:Nat)(hroom:cap<len+n)(hb:(len+n)*i.bytes≤140737488355328)
  (hbp:0<i.bytes) {olds:List Value} (hold: ∀w':World,w'.heap=w.heap→(Builtin.firstCells i.size len (.slice a len cap)).run P w'= .ok olds.toArray w'):
  (Builtin.append_ #[st,xt] ty #[.slice a len cap,u]).run P w=
   .ok (.slice (some ⟨w.heap.size,0,none⟩) (len+n) (ez w (len+n) cap elem)) (w.drew.alloc (.cells (olds.toArray++vs.toArray++Builtin.zeroCells zv.cells (ez w (len+n) cap elem-(len+n))) elem)):=by
 obtain⟨e,hx⟩:=hx;have hfit:=growslice_fits hroom hb;have hn:¬(len+n≤cap):=by omega
 have hle:(len+n)*1≤(len+n)*i.bytes:=oz _ hbp;have h63':¬(9223372036854775807<((len:Int)+(n:Int))):=by omega
 have h48':¬(281474976710656<Builtin.nextslicecap (len+n) cap*i.bytes):=by omega
 have ho:=hold w.drew rfl;subst hl;simp[Builtin.append_,run_underlying hu,run_underlying hx,Go.sizeOf,typeInfo,zeroValue,hi,hz,Builtin.lenOf,hn,h63',h48',Question.forced,hf w.drew rfl,ho,newRow,ez]
 congr 2
 apply Array.ext';simp[aO]
end
theorem qj (w:World)(need old elem:Nat):need≤ez w need old elem:=by
 unfold ez;simp only[Question.cut];omega
theorem zr (hm:MR X base L)(hN:X.σ.nb<X.N){v:Value}(hv:ew v){z:Nat}(hz:0<z){l nl n:A}(hl:l.ev X.e=some (.sl []))(hnl:nl.ev X.e=some (.i64 0))(hn:n.ev X.e=some (.i64 0)):
  CR (X.nw X.w none (.lst l nl z false)) v (.lsl X.σ.nb (.c (.i64 0)) n)∧Nx X base L (X.nw X.w none (.lst l nl z false)):=by
 refine⟨.lsl (.inr rfl) ?_ fun nl' z' h=>?_,sG hm hN rfl (fun _ _ h=>by cases h) .refl fun sx=>⟨hz,[],hl,hnl,(fun r h=>by cases h),.inl ⟨rfl,upR_self⟩⟩⟩
 ·rcases hv with rfl|⟨_,_,rfl⟩<;>rfl
 ·cases upR_self.symm.trans h;exact⟨0,0,0,rfl,hn,hnl,by omega,.inr ⟨rfl,hv,by omega⟩⟩
theorem H6 (hm:MR X base L)(hN:X.σ.nb<X.N){v:Value}(hv:ew v){z:Nat}(hz:0<z){l nl n:A}(hl:l.ev X.e=some (.sl []))(hnl:nl.ev X.e=some (.i64 0))(hn:n.ev X.e=some (.i64 0)):
  ∃X',X'.w=X.w∧VR X' v (.w (.c (.lsl X.σ.nb (.c (.i64 0)) n)))∧Nx X base L X'∧X'.σ=X.σ.new (.lst l nl z false):=
 let⟨h1,h2⟩:=zr hm hN hv hz hl hnl hn;⟨X.nw X.w none (.lst l nl z false),rfl,.w (.c h1),h2,rfl⟩
theorem ol (z:Array Value)(n:Nat):(Builtin.zeroCells z n).size=n*z.size:=by simp[Builtin.zeroCells]
theorem zt (hm:MR X base L)(hN:X.σ.nb<X.N){elem:TypeId}{olds vs:List Value}{rest:Array Value}{z cap:Nat}{els:List (List PV)}{l nl:A}(hz:0<z)(hr:Rw z els)(hl:l.ev X.e=some (.sl els))(hn:nl.ev X.e=some (.i64 els.length))
  (he:F2 X.T (olds++vs) els.flatten) (hc:els.length≤cap) (hrest:rest.size=(cap-els.length)*z):
  ∃X',X'.w=X.w.drew.alloc (.cells (olds.toArray++vs.toArray++rest) elem)∧VR X' (.slice (some ⟨X.w.heap.size,0,none⟩) els.length cap) (.w (.c (.lsl X.σ.nb (.c (.i64 0)) nl)))∧Nx X base L X'∧X'.σ=X.σ.new (.lst l nl z false):=by
 have hlen:=he.len;rw[dL hr.l,an] at hlen;refine lst_new (cap:=cap) hm hN (But.drew.trans (.alloc _)) (kJ X.w.drew _) hz hr hl hn ?_ hc ?_
 ·have:(olds.toArray++vs.toArray++rest).toList.take (els.length*z)=olds++vs:=by
   simp only[Array.toList_append,List.toList_toArray];rw[cd (by rw[an];omega),aR (by rw[an];omega)]
  rw[this];exact .of he
 ·simp only[Array.size_append,List.size_toArray,hrest];have:cap*z=els.length*z+(cap-els.length)*z:=by rw[←bw];congr 1;omega
  omega
theorem kL {f:RF}{bytes z:Nat}(hf:f= .app bytes z∨f= .appK bytes z){l n y r:A}{els0:List (List PV)}{ni:Nat}{p:PV}(h:gX X.e f [l,n,y] r)(hl:l.ev X.e=some (.sl els0))(hn:n.ev X.e=some (.i64 ni))(hy:y.ev X.e=some p)(hfull:f= .app bytes z→ni=els0.length):
  ∃els,p= .sl els∧ni≤els0.length∧(ni+els.length)*bytes≤140737488355328∧elsOk' z els=true∧r.ev X.e=some (.sl (els0.take ni++els++els0.drop (ni+els.length))):=by
 obtain⟨u,h1,h2⟩:=fS h hl hn hy;rcases hf with rfl|rfl<;>simp only[RF.ev] at h1<;>split at h1<;>try (cases h1;done)
 ·rename_i e;cases e;obtain⟨⟨_,c1,c2,c3⟩,rfl⟩:=bQ h1;simp only[aq] at c2 h2;refine⟨_,rfl,by omega,c2,c3,?_⟩;rw[bR (by have:=hfull rfl;omega),aJ];exact h2
 ·rename_i e;cases e;obtain⟨⟨_,c1,c2,c3⟩,rfl⟩:=bQ h1;simp only[aq] at c2 h2;exact⟨_,rfl,by omega,c2,c3,h2⟩
theorem sum_spec {a b y:A}{m n:Nat}(h:gX X.e .sum [a,b] y)(ha:a.ev X.e=some (.i64 m))(hb:b.ev X.e=some (.i64 n)):y.ev X.e=some (.i64 (m+n:Nat)):=by
 obtain⟨u,h1,h2⟩:=dT h ha hb;cases h1;rw[h2];simp
section
variable {st xt ty elem:TypeId}{i:TypeInfo}{z:List PV}(hu:P.underlying st=some (.slice elem))(hx: ∃e,P.underlying xt=some (.slice e))(hi:P.info? elem=some i)(hz:iK P elem=some z)(hzl:z.length=i.size)(hpos:0<i.size)(hbp:0<i.bytes)
include hu hx hi hz hzl hpos hbp
theorem app_nil (hm:MR X base L)(hN:X.σ.nb<X.N){v u:Value}{els:List (List PV)}{l n nl:A}(hv:ew v)(hel:El P X u els)(hok:elsOk' i.size els=true)(hb:els.length*i.bytes≤140737488355328)(hl:l.ev X.e=some (.sl els))(hn:n.ev X.e=some (.i64 els.length))(hnl:nl.ev X.e=some (.i64 els.length)):
  ∃v' X',(Builtin.append_ #[st,xt] ty #[v,u]).run P X.w= .ok v' X'.w∧VR X' v' (.w (.c (.lsl X.σ.nb (.c (.i64 0)) n)))∧Nx X base L X'∧X'.σ=X.σ.new (.lst l nl i.size false):=by
 obtain⟨a,c,vs,rfl,hf,hvs,hr⟩:=hel.all _ hok;obtain⟨zv,hzv,q1,q2,q3⟩:=io hz;have hzero:i.zero=some zv:=by unfold zeroT at hzv;rw[hi] at hzv;simpa using hzv
 cases els with
 |nil=>
  have:vs=[]:=by cases hvs;rfl
  subst this;obtain⟨X',w1,w2,w3,w4⟩:=H6 hm hN hv hpos hl hnl hn;exact⟨v,X',by rw[w1];exact zo hu hx hi rfl (hf _ rfl) hv,w2,w3,w4⟩
 |cons r els=>
  have hcap:=qj X.w (r::els).length 0 elem;have hg: ∃X',X'.w=_∧VR X' _ (.w (.c (.lsl X.σ.nb (.c (.i64 0)) nl)))∧_∧_:=zt hm hN (elem:=elem) (olds:=[]) (vs:=vs) (rest:=Builtin.zeroCells zv.cells (ez X.w (r::els).length 0 elem-(r::els).length)) hpos hr hl hnl hvs hcap (by rw[ol,q1,hzl]);obtain⟨X',w1,w2,w3,w4⟩:=hg;have run: ∀(ao:Option Addr),(∀w':World,w'.heap=X.w.heap→(Builtin.firstCells i.size 0 (.slice ao 0 0)).run P w'= .ok #[] w')→(Builtin.append_ #[st,xt] ty #[.slice ao 0 0,.slice a (r::els).length c]).run P X.w= .ok (.slice (some ⟨X.w.heap.size,0,none⟩) (r::els).length (ez X.w (r::els).length 0 elem)) X'.w:=by
   intro ao ho;have:=po hu hx hi (ty:=ty) hzero rfl hf ao 0 0 (by simp) (by simpa using hb) hbp (olds:=[]) ho
   rw[w1];simpa using this
  have w2':VR X' (.slice (some ⟨X.w.heap.size,0,none⟩) (r::els).length (ez X.w (r::els).length 0 elem)) (.w (.c (.lsl X.σ.nb (.c (.i64 0)) n))):=by
   cases w2.inv.inv with
   |lsl h1 h2 h3=>exact .w (.c (.lsl h1 h2 fun nl' z' h=>by
    obtain⟨oi,ni,Ln,e1,e2,e3⟩:=h3 nl' z' h;rw[w3.sx.ev hnl] at e2;cases e2;exact⟨oi,_,Ln,e1,w3.sx.ev hn,e3⟩))
  refine⟨_,X',?_,w2',w3,w4⟩;rcases hv with rfl|⟨B,o,rfl⟩
  ·exact run none fun w' _=>by simp[Builtin.firstCells]
  ·exact run _ fun w' _=>by simp[Builtin.firstCells,loadCells,loadCellsFrom]
theorem app_own (hm:MR X base L)(hN:X.σ.nb<X.N){b B lim cap ni:Nat}{u:Value}{l0 nl0:A}{els0 els:List (List PV)}{l n nl:A}(hlk:look X.σ.bl b=some (.lst l0 nl0 i.size false))(hρ:X.ρ b=some (B,lim))(hl0:l0.ev X.e=some (.sl els0))(hle:ni≤els0.length)(hcap:els0.length≤cap)(hlim:cap*i.size≤lim)
  (hel:El P X u els) (hok:elsOk' i.size els=true) (hb:(ni+els.length)*i.bytes≤140737488355328) (hl:l.ev X.e=some (.sl (els0.take ni++els++els0.drop (ni+els.length)))) (hn:n.ev X.e=some (.i64 (ni+els.length:Nat))) (hnl:nl.ev X.e=some (.i64 (els0.take ni++els++els0.drop (ni+els.length)).length)):
  ∃v' X',(Builtin.append_ #[st,xt] ty #[.slice (some ⟨B,0,none⟩) ni cap,u]).run P X.w= .ok v' X'.w∧VR X' v' (.w (.c (.lsl X.σ.nb (.c (.i64 0)) n)))∧Nx X base L X'∧X'.σ=(X.σ.kill b).new (.lst l nl i.size false):=by
 obtain⟨a,c,vs,rfl,hf,hvs,hr⟩:=hel.all _ hok;obtain⟨zv,hzv,q1,q2,q3⟩:=io hz;have hzero:i.zero=some zv:=by unfold zeroT at hzv;rw[hi] at hzv;simpa using hzv
 obtain⟨_,els0',k1,k2,k3,k4⟩:=hm.bl b _ hlk;rw[hl0] at k1;cases k1;have k4:=k4.resolve_left fun h=>by rw[hρ] at h;cases h.2
 obtain⟨B',arr,k5,⟨tt,fz,hg,hfz⟩,k6⟩:=k4;rw[hρ] at k5;cases k5;generalize hnew:els0.take ni++els++els0.drop (ni+els.length)=new at hl hnl;have hnr:Rw i.size new:=by rw[←hnew];exact((k3.t _).app hr).app (k3.d _)
 have hvl:=hvs.len;rw[dL hr.l] at hvl;have hal:=k6.f2.len;have hsz:arr.toList.length=arr.size:=by simp
 rw[dL k3.l,aH,hsz] at hal;have m1:ni*i.size≤els0.length*i.size:=bx _ hle;have old:F2 X.T (arr.toList.take (ni*i.size)) (els0.take ni).flatten:=by
  have:=k6.f2.take (ni*i.size);rwa [b8,bi m1,flat_take k3.l] at this
 by_cases hroom:ni+els.length≤cap
 ·
  have m2:(ni+els.length)*i.size≤arr.size:=bc (bx _ hroom) hlim;rw[bw] at m2;obtain⟨w',arr',r1,r2,r3,r4,r5⟩:=iR (P:=P) hg hfz (ni*i.size) (vs:=vs) (by omega) (sH hvs hr.ft);have hlen:new.length*i.size=ni*i.size+vs.length+(els0.length*i.size-(ni*i.size+vs.length)):=by
   rw[←hnew];simp only[an,aH,bu];rw[bi hle,bw,bw,Nat.sub_mul,bw,hvl]
  refine⟨_,X.re w' b (some (B,arr.size)) (.lst l nl i.size false),EO hu hx hi rfl (hf _ rfl) B 0 ni cap hroom (by rw[be];exact r1),.w (.c (.lsl (.inr rfl) rfl fun nl' z' h=>?_)),Tf hm hN hlk hρ rfl rfl r2 fun sx=>⟨hpos,new,hl,hnl,hnr,.inr ⟨B,arr',by rw[r4];exact upR_self,⟨tt,fz,r3,by rw[r4];exact hfz⟩,?_⟩⟩,rfl⟩
  ·cases upR_self.symm.trans h;refine⟨0,ni+els.length,new.length,rfl,hn,hnl,?_,.inl ⟨B,arr.size,cap,upR_self,by simp,?_,by simpa using hlim⟩⟩
   ·rw[←hnew];simp;omega
   ·rw[←hnew];simp;omega
  ·have e:arr'.toList.take (new.length*i.size)=arr.toList.take (ni*i.size)++vs++(arr.toList.drop (ni*i.size+vs.length)).take (els0.length*i.size-(ni*i.size+vs.length)):=by
    rw[r5,hlen,fN,an,aH,bi (by omega),aR (l:=arr.toList.take (ni*i.size)++vs) (by rw[an,aH];omega)]
    congr 2;omega
   have tail:F2 X.T ((arr.toList.drop (ni*i.size+vs.length)).take (els0.length*i.size-(ni*i.size+vs.length))) (els0.drop (ni+els.length)).flatten:=by
    have:=k6.f2.drop ((ni+els.length)*i.size);rwa [flat_drop k3.l,cS,bw,←hvl] at this
   rw[e,←hnew,cB,cB];exact(RTs.of ((old.append hvs).append tail)).mono sx.k
 ·
  have hd:els0.drop (ni+els.length)=[]:=bR (by omega);rw[hd,aJ] at hnew;have hnl':new.length=ni+els.length:=by rw[←hnew];simp;omega
  have hk:=tP hm hlk;have hcg:=qj X.w (ni+els.length) cap elem;obtain⟨X',w1,w2,w3,w4⟩:=zt (X:=X.kl b) hk.mr hN (elem:=elem) (olds:=arr.toList.take (ni*i.size)) (vs:=vs) (rest:=Builtin.zeroCells zv.cells (ez X.w (ni+els.length) cap elem-(ni+els.length))) (cap:=ez X.w (ni+els.length) cap elem) (nl:=nl) hpos hnr hl hnl (by
   rw[←hnew,cB];exact old.append hvs) (by rw[hnl'];exact hcg) (by rw[ol,q1,hzl,hnl'])
  refine⟨.slice (some ⟨X.w.heap.size,0,none⟩) (ni+els.length) (ez X.w (ni+els.length) cap elem),X',?_,?_,hk.trans w3,w4⟩
  rotate_left
  ·rw[hnl'] at w2;cases w2.inv.inv with
   |lsl h1 h2 h3=>exact .w (.c (.lsl h1 h2 fun nl' z' h=>by
    obtain⟨oi,ni',Ln,e1,e2,e3,e4,e5⟩:=h3 nl' z' h;rw[w3.sx.ev (show nl.ev X.e=_ from hnl)] at e2
    have:=dD e2;rw[hnl'] at this;subst this;exact⟨oi,_,Ln,e1,w3.sx.ev (show n.ev X.e=_ from hn),e3,e4,e5⟩))
  ·rw[w1];refine po hu hx hi hzero rfl hf (some ⟨B,0,none⟩) ni cap (by omega) hb hbp (olds:=arr.toList.take (ni*i.size)) fun w' hw=>?_;have:=pe (P:=P) (w:=w') (B:=B) (by rw[hw];exact hg) 0 (ni*i.size) (by omega);rw[bS] at this;simpa [Builtin.firstCells] using this
end
theorem OE {t:TypeId}(h:yU P t=true): ∃e,P.underlying t=some (.slice e):=by
 unfold yU at h;split at h
 ·exact⟨_,by assumption⟩
 ·cases h
theorem EQ (hm:MR X base L){st xt ty:TypeId}{c d:SC}{v u:Value}(hc:CR X v c)(hd:CR X u d):Sp X.e (tJ P X.σ st xt c d) (SmR P X base L (Builtin.append_ #[st,xt] ty #[v,u])):=by
 unfold tJ;split
 ·rename_i elem hu;split
  ·rename_i size hs;split
   ·rename_i info hi;have hsz:info.size=size:=by unfold szT at hs;rw[hi] at hs;simpa using hs
    subst hsz;split
    ·rename_i z hz;split
     ·rename_i hcond;simp only[au,ei] at hcond;obtain⟨⟨⟨⟨h1,_⟩,h3⟩,h4⟩,h5⟩:=hcond;have h3:=fd h3;have hx:=OE h5;refine Sp.bind (uG (P:=P) hm hd) fun ys ⟨p,y1,y2⟩=>?_;split
      ·cases hc with
       |nil hn=>
        refine Sp.bind Sp.emit fun l hl=>Sp.bind Sp.emit fun n hnn=> .ret fun hN=>?_;obtain⟨els,rfl,a1,a2,a3,a4⟩:=kL (els0:=[]) (ni:=0) (.inl rfl) hl rfl rfl y1 fun _=>rfl;simp only[ot,ax,oq,aJ,be] at a2 a4;obtain⟨_,e,n1⟩:=ey hnn a4;cases e;exact app_nil hu hx hi hz h3 h1 h4 hm hN hn (y2 _ rfl) a3 a2 a4 n1 n1
      ·rename_i b o n;split
       ·rename_i l0 nl z' hl0;split
        ·rename_i hc2;simp only[au] at hc2;have:=it hc2.1;subst this;have:=fd hc2.2;subst this;cases hc with
         |lsl hbm hone h=>
          obtain⟨oi,ni,Ln,e1,e2,e3,e4,e5⟩:=h _ _ (hm.kd _ _ hl0);have:oi=0:=(dD (a:=0) (b:=oi) e1).symm;subst this;obtain⟨_,els0,k1,k2,k3,k4⟩:=hm.bl b _ hl0;rw[e3] at k2;have:=dD k2;subst this;have fin: ∀{els:List (List PV)} {l' n' nl':A},p= .sl els→ni≤els0.length→(ni+els.length)*info.bytes≤140737488355328→elsOk' info.size els=true→l'.ev X.e=some (.sl (els0.take ni++els++els0.drop (ni+els.length)))→n'.ev X.e=some (.i64 (ni+els.length:Nat))→nl'.ev X.e=some (.i64 (els0.take ni++els++els0.drop (ni+els.length)).length)→
            SmR P X base L (Builtin.append_ #[st,xt] ty #[v,u]) (.w (.c (.lsl X.σ.nb (.c (.i64 0)) n')),(X.σ.kill b).new (.lst l' nl' info.size false)):=by
           intro els l' n' nl' hp a1 a2 a3 a4 a5 a6 hN;have hN:X.σ.nb<X.N:=hN;rcases e5 with⟨B,lim,cap,f1,rfl,f2,f3⟩|⟨rfl,hn,f2⟩
           ·simp only[kY,be] at f2 f3⊢;exact app_own hu hx hi hz h3 h1 h4 hm hN hl0 f1 k1 a1 f2 f3 (y2 _ hp) a3 a2 a4 a5 a6
           ·have:els0=[]:=bb (by omega);subst this;simp only[ot,ax,oq,aJ,be] at a2 a4 a5 a6;have hk:=tP hm hl0;obtain⟨v',X',r1,r2,r3,r4⟩:=app_nil (X:=X.kl b) hu hx hi hz h3 h1 h4 hk.mr hN hn (y2 _ hp) a3 a2 a4 a5 a6;exact⟨v',X',r1,r2,hk.trans r3,r4⟩
          split
          ·rename_i hsame;have:=mI hsame;subst this;refine Sp.bind Sp.emit fun l' hl'=>Sp.bind Sp.emit fun n' hn'=> .ret ?_;rw[e2] at e3;have hni:=dD e3;obtain⟨els,hp,a1,a2,a3,a4⟩:=kL (.inl rfl) hl' k1 e2 y1 fun _=>hni;obtain⟨_,e,n1⟩:=ey hn' a4;cases e;refine fin hp a1 a2 a3 a4 ?_ n1;rw[n1];simp only[an,aH,bu,aK,PV.v.injEq,Value.int.injEq,true_and];omega
          ·refine Sp.bind Sp.emit fun l' hl'=>Sp.bind Sp.emit fun nl' hnl'=>Sp.bind Sp.emit fun k hk=>Sp.bind Sp.emit fun n' hn'=> .ret ?_;obtain⟨els,hp,a1,a2,a3,a4⟩:=kL (.inr rfl) hl' k1 e2 y1 fun h=>by cases h
           obtain⟨_,e,n1⟩:=ey hnl' a4;cases e;obtain⟨_,e,n2⟩:=ey hk y1;rw[hp] at e;cases e;exact fin hp a1 a2 a3 a4 (sum_spec hn' e2 n2) n1
        ·exact .fail
       ·exact .fail
      ·exact .fail
     ·exact .fail
    ·exact .fail
   ·exact .fail
  ·exact .fail
 ·exact .fail
end
end Go.Sym
