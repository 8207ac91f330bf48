import Derived.Test.YthaokoopmhgfiaaM1
set_option linter.unusedVariables false
set_option linter.unusedSimpArgs false
set_option linter.defProp false
noncomputable section
namespace Go.Pev
open Go.Abu
inductive PV where
 | v (x : Value)
 | nil
 | sl (els : List (List PV))
 | fsl (els : List (List PV)) (ty : TypeId) (z : Nat)
 | lsl (b o n : Nat)
 | ptr (b i o : Nat)
 | slp (els : List (List PV)) (i o : Nat)
 | agg (cs : List PV)
 | tup (cs : List PV)
 | fn (f : FuncId) (first cap : List PV)
 | mp (b : Nat)
 | yl (b : Nat)
 deriving Inhabited
abbrev PV.int (k : IntKind) (n : Int) : PV := .v (.int k n)
abbrev PV.i64 (n : Int) : PV := .v (.int .i64 n)
abbrev PV.bool (b : Bool) : PV := .v (.bool b)
def PV.cells : PV → List PV
 | .agg cs => cs
 | x => [x]
def PV.sc : PV → Bool
 | .agg _ | .tup _ | .fsl .. => false
 | _ => true
def ofC1 (x : Value) : Option PV :=
 match x with
 | .slice none 0 0 => some .nil
 | x => if plain1 x then some (.v x) else none
def ofCs : List Value → Option (List PV)
 | [] => some []
 | x :: xs => match ofC1 x with
  | some p => match ofCs xs with
   | some ps => some (p :: ps)
   | none => none
  | none => none
def ofC (x : Value) : Option PV :=
 match x with
 | .agg cs => (ofCs cs.toList).map .agg
 | x => ofC1 x
structure Ent where
 els : List (List PV)
 ty : TypeId
 z : Nat
 box : Bool
 fz : Bool
structure St where
 next : Nat
 m : Nat → Option Ent
 mm : Nat → Option (List MapEntry × Nat)
def St.empty : St := ⟨0, fun _ => none, fun _ => none⟩
def St.get (s : St) (b : Nat) : Option Ent := s.m b
def St.put (s : St) (b : Nat) (e : Ent) : St := ⟨s.next, fun x => if x = b then some e else s.m x, s.mm⟩
def St.kill (s : St) (b : Nat) : St := ⟨s.next, fun x => if x = b then none else s.m x, s.mm⟩
def St.alloc (s : St) (e : Ent) : St := ⟨s.next + 1, fun x => if x = s.next then some e else s.m x, s.mm⟩
def St.getM (s : St) (b : Nat) : Option (List MapEntry × Nat) := s.mm b
def St.putM (s : St) (b : Nat) (e : List MapEntry × Nat) : St := ⟨s.next, s.m, fun x => if x = b then some e else s.mm x⟩
def St.allocM (s : St) (e : List MapEntry × Nat) : St := ⟨s.next + 1, s.m, fun x => if x = s.next then some e else s.mm x⟩
structure LRec where
 n : Nat
 m : Nat → Option PV
 ps : List Tmp
 assign : Code
 body : Code
 b : Nat
 pd : Option AExit
structure PF where
 n : Nat
 m : Nat → Option PV
 up : List LRec
def PF.get (f : PF) (t : Nat) : Option PV := f.m t
def PF.set (f : PF) (t : Nat) (p : PV) : PF := ⟨f.n, fun x => if x = t then some p else f.m x, f.up⟩
def PF.put (f : PF) (dst : Option Tmp) (p : PV) : Option PF := match dst with
 | none => some f
 | some t => if t < f.n then some (f.set t p) else none
def PF.puts (f : PF) : List Tmp → List PV → Option PF
 | [], [] => some f
 | t :: ts, v :: vs => match f.put (some t) v with
  | some f' => f'.puts ts vs
  | none => none
 | _, _ => none
def opd (f : PF) : Operand → Option PV
 | .tmp t => f.get t
 | .const v => ofC v
 | .func g => some (.fn g [] [])
 | .global _ => none
def opds (f : PF) : List Operand → Option (List PV)
 | [] => some []
 | x :: xs => match opd f x with
  | some p => match opds f xs with
   | some ps => some (p :: ps)
   | none => none
  | none => none
def deep0 (s : St) : PV → Option (PV × List Nat)
 | .v x => some (.v x, [])
 | .nil => some (.sl [], [])
 | .sl els => some (.sl els, [])
 | .lsl b o n => match s.get b with
  | some e => if o + n ≤ e.els.length ∧ e.box = false then some (.sl ((e.els.drop o).take n), [b]) else none
  | none => none
 | .slp els i o => some (.slp els i o, [])
 | .fn g [] [] => some (.fn g [] [], [])
 | _ => none
def deep0L (s : St) : List PV → Option (List PV × List Nat)
 | [] => some ([], [])
 | p :: ps => match deep0 s p with
  | some (q, bs) => match deep0L s ps with
   | some (qs, cs) => some (q :: qs, bs ++ cs)
   | none => none
  | none => none
def deep1 (s : St) : PV → Option (PV × List Nat)
 | .ptr b i o => match s.get b with
  | some e => match e.box with
   | true => match e.els with
    | [cs] => match deep0L s cs with
     | some (qs, bs) => some (.slp [qs] i o, b :: bs)
     | none => none
    | _ => none
   | false => none
  | none => none
 | p => deep0 s p
def deep1L (s : St) : List PV → Option (List PV × List Nat)
 | [] => some ([], [])
 | p :: ps => match deep1 s p with
  | some (q, bs) => match deep1L s ps with
   | some (qs, cs) => some (q :: qs, bs ++ cs)
   | none => none
  | none => none
def deep (s : St) : PV → Option (PV × List Nat)
 | .agg cs => match deep0L s cs with
  | some (qs, bs) => some (.agg qs, bs)
  | none => none
 | .fn g a c => match deep1L s a with
  | some (qa, bs) => match deep1L s c with
   | some (qc, cs) => some (.fn g qa qc, bs ++ cs)
   | none => none
  | none => none
 | p => deep1 s p
def deeps (s : St) : List PV → Option (List PV × List Nat)
 | [] => some ([], [])
 | p :: ps => match deep s p with
  | some (q, bs) => match deeps s ps with
   | some (qs, cs) => some (q :: qs, bs ++ cs)
   | none => none
  | none => none
def freeze (s : St) : List Nat → St
 | [] => s
 | b :: bs => match s.get b with
  | some e => freeze (s.put b { e with fz := true }) bs
  | none => freeze s bs
def nodup : List Nat → Bool
 | [] => true
 | b :: bs => !bs.elem b && nodup bs
def lend0 (s : St) (fl : Bool) (p : PV) : Option (PV × List Nat × List Nat) :=
 match fl with
 | true => match p with
  | .lsl b o n => match s.get b with
   | some e => if o = 0 ∧ n ≤ e.els.length ∧ e.fz = false ∧ e.box = false then some (.fsl (e.els.take n) e.ty e.z, [b], []) else none
   | none => none
  | _ => none
 | false => match deep0 s p with
  | some (q, bs) => some (q, [], bs)
  | none => none
def lend0L (s : St) : List Bool → List PV → Option (List PV × List Nat × List Nat)
 | _, [] => some ([], [], [])
 | fs, p :: ps => match lend0 s (fs.headD false) p with
  | some (q, ls, bs) => match lend0L s fs.tail ps with
   | some (qs, ls', cs) => some (q :: qs, ls ++ ls', bs ++ cs)
   | none => none
  | none => none
def lend (s : St) (fs : List Bool) : PV → Option (PV × List Nat × List Nat)
 | .agg cs => match lend0L s fs cs with
  | some (qs, ls, bs) => some (.agg qs, ls, bs)
  | none => none
 | p => lend0 s (fs.headD false) p
abbrev Slot := Option (TypeId × Nat)
def thaw1 (m : Slot) : PV → List Nat
 | .lsl b _ _ => match m with
  | none => [b]
  | some _ => []
 | _ => []
def thawL : List Slot → List PV → List Nat
 | _, [] => []
 | ts, p :: ps => thaw1 (ts.headD none) p ++ thawL ts.tail ps
def thaw2 (ts : List Slot) : PV → List Nat
 | .agg cs => thawL ts cs
 | p => thaw1 (ts.headD none) p
def thaw2L : List (List Slot) → List PV → List Nat
 | _, [] => []
 | ts, p :: ps => thaw2 (ts.headD []) p ++ thaw2L ts.tail ps
def thaw (ts : List (List Slot)) : PV → List Nat
 | .tup cs => thaw2L ts cs
 | p => thaw2 (ts.headD []) p
def shut1 (s : St) (m : Slot) : PV → Option (PV × List Nat)
 | .v x => some (.v x, [])
 | .nil => match m with
  | some ty => some (.fsl [] ty.1 ty.2, [])
  | none => some (.sl [], [])
 | .sl els => match m with
  | some _ => none
  | none => some (.sl els, [])
 | .lsl b o n => match s.get b with
  | some e => match m with
   | some ty => if o = 0 ∧ n ≤ e.els.length ∧ e.fz = false ∧ e.box = false ∧ e.ty = ty.1 ∧ e.z = ty.2 then some (.fsl (e.els.take n) ty.1 ty.2, [b]) else none
   | none => if o + n ≤ e.els.length ∧ e.fz = true ∧ e.box = false then some (.sl ((e.els.drop o).take n), []) else none
  | none => none
 | .fn g [] [] => some (.fn g [] [], [])
 | _ => none
def shutL (s : St) : List Slot → List PV → Option (List PV × List Nat)
 | _, [] => some ([], [])
 | ts, p :: ps => match shut1 s (ts.headD none) p with
  | some (q, bs) => match shutL s ts.tail ps with
   | some (qs, cs) => some (q :: qs, bs ++ cs)
   | none => none
  | none => none
def shut2 (s : St) (ts : List Slot) : PV → Option (PV × List Nat)
 | .agg cs => match shutL s ts cs with
  | some (qs, bs) => some (.agg qs, bs)
  | none => none
 | p => shut1 s (ts.headD none) p
def shut2L (s : St) : List (List Slot) → List PV → Option (List PV × List Nat)
 | _, [] => some ([], [])
 | ts, p :: ps => match shut2 s (ts.headD []) p with
  | some (q, bs) => match shut2L s ts.tail ps with
   | some (qs, cs) => some (q :: qs, bs ++ cs)
   | none => none
  | none => none
def backs (s : St) (bs : List Nat) : Nat → Option (List (Option (List (List PV))))
 | 0 => some []
 | k + 1 => match backs s bs k with
  | some l => match s.get k with
   | some e => if bs.elem k then some (l ++ [none]) else if e.fz = false then some (l ++ [some e.els]) else none
   | none => some (l ++ [none])
  | none => none
def shut3 (s : St) (ts : List (List Slot)) : PV → Option (PV × List Nat)
 | .tup cs => match shut2L s ts cs with
  | some (qs, bs) => some (.tup qs, bs)
  | none => none
 | p => shut2 s (ts.headD []) p
def shutB (s : St) (ts : List (List Slot)) (lent : Nat) (p : PV) : Option (PV × List (Option (List (List PV)))) :=
 match shut3 s ts p with
 | some (q, bs) => if nodup bs then match backs s bs lent with
   | some l => some (q, l)
   | none => none
  else none
 | none => none
def shut (s : St) (ts : List (List Slot)) (lent : Nat) (p : PV) : Option (PV × List (Option (List (List PV)))) := shutB (freeze s (thaw ts p)) ts lent p
def inst1 (s : St) : PV → St × PV
 | .fsl els ty z => (s.alloc ⟨els, ty, z, false, false⟩, .lsl s.next 0 els.length)
 | p => (s, p)
def instL (s : St) : List PV → St × List PV
 | [] => (s, [])
 | p :: ps => let (s1, q) := inst1 s p; let (s2, qs) := instL s1 ps; (s2, q :: qs)
def inst2 (s : St) : PV → St × PV
 | .agg cs => let (s1, qs) := instL s cs; (s1, .agg qs)
 | p => inst1 s p
def inst2L (s : St) : List PV → St × List PV
 | [] => (s, [])
 | p :: ps => let (s1, q) := inst2 s p; let (s2, qs) := inst2L s1 ps; (s2, q :: qs)
def inst (s : St) : PV → St × PV
 | .tup cs => let (s1, qs) := inst2L s cs; (s1, .tup qs)
 | p => inst2 s p
def killBack (s : St) : List Nat → List (Option (List (List PV))) → St
 | b :: bs, none :: l => killBack (s.kill b) bs l
 | _ :: bs, some _ :: l => killBack s bs l
 | b :: bs, [] => killBack (s.kill b) bs []
 | [], _ => s
def putBack (s : St) : List Nat → List (Option (List (List PV))) → St
 | b :: bs, some els :: l => match s.get b with
  | some e => putBack (s.put b { e with els := els }) bs l
  | none => putBack s bs l
 | _ :: bs, none :: l => putBack s bs l
 | _, _ => s
def giveBack (s : St) (bs : List Nat) (l : List (Option (List (List PV)))) : St := putBack (killBack s bs l) bs l
def flat : List PV → Bool
 | [] => true
 | .v _ :: l => flat l
 | _ => false
def flatC : List PV → Bool
 | [] => true
 | p :: l => flat p.cells && flatC l
def flatR : PV → Bool
 | .tup ps => flatC ps
 | p => flat p.cells
def part (P : Program) (t : TypeId) (cs : List PV) (off : Nat) : Option PV :=
 match isAggT P t with
 | some true => match szT P t with
  | some n => if off + n ≤ cs.length then some (.agg ((cs.drop off).take n)) else none
  | none => none
 | some false => cs[off]?
 | none => none
def pLoad (P : Program) (s : St) (t : TypeId) : PV → Option PV
 | .ptr b i o => match s.get b with
  | some e => match e.els[i]? with
   | some cs => part P t cs o
   | none => none
  | none => none
 | .slp els i o => match els[i]? with
  | some cs => part P t cs o
  | none => none
 | _ => none
def splice (cs : List PV) (o : Nat) (vs : List PV) : List PV := cs.take o ++ vs ++ cs.drop (o + vs.length)
def pStore (P : Program) (bar : Nat) (s : St) (t : TypeId) (a x : PV) : Option St :=
 match a with
 | .ptr b i o => match s.get b with
  | some e => if e.fz = false ∧ bar ≤ b ∧ szT P t = some x.cells.length ∧ 0 < x.cells.length ∧ x.cells.all PV.sc = true then
    match e.els[i]? with
    | some cs => if o + x.cells.length ≤ cs.length then
      (match e.box with
       | true => some (s.put b { e with els := e.els.set i (splice cs o x.cells) })
       | false => match deep s x with
        | some (y, bs) => match (freeze s bs).get b with
         | some e' => match e'.els[i]? with
          | some cs' => if e'.fz = false ∧ e'.box = false ∧ o + y.cells.length ≤ cs'.length ∧ y.cells.length = x.cells.length then some ((freeze s bs).put b { e' with els := e'.els.set i (splice cs' o y.cells) }) else none
          | none => none
         | none => none
        | none => none)
     else none
    | none => none
   else none
  | none => none
 | _ => none
def zeroP (P : Program) (t : TypeId) : Option PV := match zeroT P t with
 | some z => ofC z
 | none => none
def pAlloc (P : Program) (s : St) (t : TypeId) : Option (PV × St) :=
 match zeroP P t with
 | some z => match szT P t with
  | some n => if z.cells.length = n then some (.ptr s.next 0 0, s.alloc ⟨[z.cells], t, n, true, false⟩) else none
  | none => none
 | none => none
def pBox (P : Program) (s : St) (t : TypeId) (x : PV) : Option (PV × St) :=
 match szT P t with
 | some n => if x.cells.length = n ∧ x.cells.all PV.sc = true then some (.ptr s.next 0 0, s.alloc ⟨[x.cells], t, n, true, false⟩) else none
 | none => none
def pairs (f : PF) : List (Nat × Operand) → Option (List (Nat × PV))
 | [] => some []
 | (i, x) :: xs => match opd f x with
  | some v => match pairs f xs with
   | some r => some ((i, v) :: r)
   | none => none
  | none => none
def pFill (pl : Nat → Option (Nat × Nat)) (cs : List PV) : List (Nat × PV) → Option (List PV)
 | [] => some cs
 | (i, v) :: r => match pl i with
  | some (off, n) => if v.cells.length = n ∧ off + n ≤ cs.length ∧ v.cells.all PV.sc = true then pFill pl (splice cs off v.cells) r else none
  | none => none
def pBuild (P : Program) (t : TypeId) (ps : List (Nat × PV)) : Option PV :=
 match zeroP P t with
 | some z => match aPlaces P t with
  | some pl => (pFill pl z.cells ps).map .agg
  | none => none
 | none => none
def pElems (s : St) (n : Nat) (els : List (List PV)) (sz : Nat) : List (Nat × PV) → Option (List (List PV) × List Nat)
 | [] => some (els, [])
 | (i, v) :: r => if i < n then match deep s v with
   | some (w, bs) => if w.cells.length = sz then match pElems s n (els.set i w.cells) sz r with
     | some (l, cs) => some (l, bs ++ cs)
     | none => none
    else none
   | none => none
  else none
def zeroEl (P : Program) (t : TypeId) : Option (List PV) :=
 match zeroP P t with
 | some z => match deep St.empty z with
  | some (w, _) => some w.cells
  | none => none
 | none => none
def pBuildSlice (P : Program) (s : St) (t : TypeId) (len : Nat) (ps : List (Nat × PV)) : Option (PV × St) :=
 match P.underlying t with
 | some (.slice elem) => match szT P elem with
  | some size => if len * size ≤ 16777216 ∧ 0 < size then match zeroEl P elem with
    | some z => if z.length = size then match pElems s len (List.replicate len z) size ps with
      | some (els, bs) => match len with
       | 0 => some (.nil, s)
       | _ => some (.lsl s.next 0 len, (freeze s bs).alloc ⟨els, elem, size, false, false⟩)
      | none => none
     else none
    | none => none
   else none
  | none => none
 | _ => none
def toV : PV → Option Value
 | .v x => some x
 | _ => none
def toVs : List PV → Option (List Value)
 | [] => some []
 | p :: ps => match toV p with
  | some x => match toVs ps with
   | some xs => some (x :: xs)
   | none => none
  | none => none
def toVal : PV → Option Value
 | .agg cs => (toVs cs).map fun l => .agg l.toArray
 | p => toV p
def notNilP : PV → Bool
 | .sl (_ :: _) => true
 | .lsl _ _ (_ + 1) => true
 | _ => false
def pNil (P : Program) (op : BinOp) (t : TypeId) (x : PV) (yo : Operand) : Option PV :=
 match P.underlying t with
 | some (.slice _) => match yo with
  | .const (.slice none 0 0) => if notNilP x then match op with
    | .eql => some (.v (.bool false))
    | .neq => some (.v (.bool true))
    | _ => none
   else none
  | _ => none
 | _ => none
def pBin (P : Program) (op : BinOp) (t : TypeId) (xo yo : Operand) (x y : PV) : Option PV :=
 match toVal x with
 | some a => match toVal y with
  | some b => match aBin P op t xo yo a b with
   | some r => if plain1 r then some (.v r) else none
   | none => none
  | none => none
 | none => pNil P op t x yo
def pUn (P : Program) (op : UnOp) (x : PV) : Option PV :=
 match x with
 | .v a => if plain1 a then match pureRun P (Op.unary op a) with
   | some r => if plain1 r then some (.v r) else none
   | none => none
  else none
 | _ => none
def bytesP : List (List PV) → Option (List UInt8)
 | [] => some []
 | [.v (.int .u8 n)] :: r => match bytesP r with
  | some l => some (UInt8.ofNat n.toNat :: l)
  | none => none
 | _ => none
def elsOf (s : St) : PV → Option (List (List PV))
 | .nil => some []
 | .sl els => some els
 | .lsl b o n => match s.get b with
  | some e => if o + n ≤ e.els.length ∧ e.box = false then some ((e.els.drop o).take n) else none
  | none => none
 | _ => none
def byteEls (s : ByteArray) : List (List PV) := s.data.toList.map fun b => [.v (.int .u8 b.toNat)]
def pConvert (P : Program) (s : St) (src dst : TypeId) (x : PV) : Option (PV × St) :=
 match P.underlying src with
 | some ts => match P.underlying dst with
  | some (.int k) => match x with
   | .v (.int _ n) => some (.v (.int k (k.wrap n)), s)
   | _ => none
  | some (.slice e) => match ts, P.underlying e, x with
   | .string, some (.int .u8), .v (.string str) => if str.size < 140737488355328 then some (.lsl s.next 0 str.size, s.alloc ⟨byteEls str, e, 1, false, false⟩) else none
   | _, _, _ => none
  | some .string => match ts, x with
   | .string, .v (.string str) => some (.v (.string str), s)
   | .slice e, x => match P.underlying e with
    | some (.int .u8) => match elsOf s x with
     | some els => match bytesP els with
      | some l => some (.v (.string ⟨l.toArray⟩), s)
      | none => none
     | none => none
    | _ => none
   | _, _ => none
  | _ => none
 | none => none
def pField (P : Program) (t : TypeId) (x : PV) (i : Nat) : Option PV :=
 match P.underlying t with
 | some (.struct fields) => match x with
  | .agg cs => match fields[i]? with
   | some f => part P f.type cs f.offset
   | none => none
  | _ => none
 | _ => none
def pIndex (P : Program) (t : TypeId) (x ix : PV) : Option PV :=
 match ix with
 | .v (.int _ i) => match P.underlying t with
  | some (.array len elem) => match x with
   | .agg cs => if 0 ≤ i ∧ i < len then match szT P elem with
     | some n => part P elem cs (i.toNat * n)
     | none => none
    else none
   | _ => none
  | some .string => match x with
   | .v (.string s) => if 0 ≤ i then match s[i.toNat]? with
     | some b => some (.v (.int .u8 b.toNat))
     | none => none
    else none
   | _ => none
  | _ => none
 | _ => none
def pIndexAddr (P : Program) (s : St) (t : TypeId) (x ix : PV) : Option PV :=
 match ix with
 | .v (.int _ i) => match P.underlying t with
  | some (.slice elem) => match x with
   | .lsl b o n => match s.get b with
    | some e => if 0 ≤ i ∧ i < n ∧ szT P elem = some e.z ∧ e.box = false then some (.ptr b (o + i.toNat) 0) else none
    | none => none
   | .sl els => match els[i.toNat]? with
    | some cs => if 0 ≤ i ∧ szT P elem = some cs.length then some (.slp els i.toNat 0) else none
    | none => none
   | _ => none
  | some (.array len elem) => match szT P elem with
   | some z => if 0 ≤ i ∧ i < len then match x with
     | .ptr b k o => some (.ptr b k (o + i.toNat * z))
     | .slp els k o => some (.slp els k (o + i.toNat * z))
     | _ => none
    else none
   | none => none
  | _ => none
 | _ => none
def pFieldAddr (P : Program) (t : TypeId) (x : PV) (i : Nat) : Option PV :=
 match P.underlying t with
 | some (.struct fields) => match fields[i]? with
  | some f => match szT P f.type with
   | some (_ + 1) => match x with
    | .ptr b k o => some (.ptr b k (o + f.offset))
    | .slp els k o => some (.slp els k (o + f.offset))
    | _ => none
   | _ => none
  | none => none
 | _ => none
def optP (f : PF) : Option Operand → Option (Option PV)
 | none => some none
 | some x => match opd f x with
  | some p => some (some p)
  | none => none
def bnd (y : Nat) : PV → Option Nat
 | .v (.int _ i) => if 0 ≤ i ∧ i ≤ y then some i.toNat else none
 | _ => none
def bnd? (d y : Nat) : Option PV → Option Nat
 | none => some d
 | some p => bnd y p
def headOk (P : Program) (elem : TypeId) (els : List (List PV)) : Bool :=
 match szT P elem with
 | some z => match els with
  | [] => true
  | cs :: _ => decide (cs.length = z ∧ 0 < z)
 | none => false
def pSlice (P : Program) (s : St) (t : TypeId) (x : PV) (lo hi : Option PV) : Option PV :=
 match P.underlying t with
 | some .string => match x with
  | .v (.string str) => match bnd? str.size str.size hi with
   | some h => match bnd? 0 h lo with
    | some l => some (.v (.string (str.extract l h)))
    | none => none
   | none => none
  | _ => none
 | some (.slice elem) =>
  (match x with
   | .nil => match bnd? 0 0 hi with
    | some h => match bnd? 0 h lo with
     | some _ => match szT P elem with
      | some _ => some .nil
      | none => none
     | none => none
    | none => none
   | .sl els => match bnd? els.length els.length hi with
    | some h => match bnd? 0 h lo with
     | some l => if headOk P elem els then some (.sl ((els.drop l).take (h - l))) else none
     | none => none
    | none => none
   | .lsl b o n => match bnd? n n hi with
    | some h => match bnd? 0 h lo with
     | some l => match s.get b with
      | some e => if szT P elem = some e.z ∧ e.box = false ∧ 0 < e.z ∧ o + n ≤ e.els.length then some (.lsl b (o + l) (h - l)) else none
      | none => none
     | none => none
    | none => none
   | _ => none)
 | _ => none
def elsOk (z : Nat) : List (List PV) → Bool
 | [] => true
 | cs :: _ => decide (cs.length = z)
def pSlice3 (P : Program) (t : TypeId) (x : PV) (lo : Option PV) (hi mx : PV) : Option PV :=
 match P.underlying t with
 | some (.slice elem) => match szT P elem with
  | some z => match x with
   | .sl els => match bnd els.length mx with
    | some m => match bnd m hi with
     | some h => match bnd? 0 h lo with
      | some l => if els.isEmpty = false ∧ elsOk z els = true ∧ 0 < z then some (.sl ((els.drop l).take (h - l))) else none
      | none => none
     | none => none
    | none => none
   | _ => none
  | none => none
 | _ => none
def pExtract (x : PV) (i : Nat) : Option PV := match x with
 | .tup ps => ps[i]?
 | _ => none
def elemOf (P : Program) (t : TypeId) : Option TypeId := match P.underlying t with
 | some (.slice e) => some e
 | _ => none
def appEls (P : Program) (s : St) (xt : TypeId) (size : Nat) (z : List PV) (bytes : Nat) (x : PV) : Option (List (List PV)) :=
 match P.underlying xt with
 | some (.slice _) => match elsOf s x with
  | some els => if elsOk size els then some els else none
  | none => none
 | some .string => match x with
  | .v (.string str) => if size = 1 then some (byteEls str) else none
  | _ => none
 | some (.int _) => match x with
  | .v (.int .i64 n) => if 0 ≤ n ∧ n * bytes ≤ 281474976710656 ∧ n < 9223372036854775808 then some (List.replicate n.toNat z) else none
  | _ => none
 | _ => none
def pAppend (P : Program) (bar : Nat) (s : St) (st xt : TypeId) (x y : PV) : Option (PV × St) :=
 match P.underlying st with
 | some (.slice elem) => match szT P elem with
  | some size => match P.info? elem with
   | some info => match zeroEl P elem with
    | some z => if 0 < size ∧ size < 65536 ∧ z.length = size ∧ 0 < info.bytes then
      match appEls P s xt size z info.bytes y with
      | some new => (match x with
       | .nil => if new.length * info.bytes ≤ 140737488355328 then some (.lsl s.next 0 new.length, s.alloc ⟨new, elem, size, false, false⟩) else none
       | .lsl b o n => match s.get b with
        | some e => if o = 0 ∧ e.fz = false ∧ bar ≤ b ∧ e.box = false ∧ (e.ty = elem ∧ e.z = size) ∧ n ≤ e.els.length ∧ (n + new.length) * info.bytes ≤ 140737488355328 then
          some (.lsl s.next 0 (n + new.length), (s.kill b).alloc ⟨e.els.take n ++ new, elem, size, false, false⟩)
         else none
        | none => none
       | _ => none)
      | none => none
     else none
    | none => none
   | none => none
  | none => none
 | _ => none
def pLen (P : Program) (s : St) (t : TypeId) (x : PV) : Option PV :=
 match P.underlying t with
 | some .string => match x with
  | .v (.string str) => some (.i64 str.size)
  | _ => none
 | some (.array n _) => some (.i64 n)
 | some (.slice _) => match x with
  | .nil => some (.i64 0)
  | .sl els => some (.i64 els.length)
  | .lsl _ _ n => some (.i64 n)
  | _ => none
 | some (.map _ _) => match x with
  | .mp b => match s.getM b with
   | some es => some (.i64 es.1.length)
   | none => none
  | _ => none
 | _ => none
def pMakeSlice (P : Program) (s : St) (t : TypeId) (l c : PV) : Option (PV × St) :=
 match elemOf P t with
 | some elem => match P.info? elem with
  | some info => match zeroEl P elem with
   | some z => match l with
    | .v (.int _ l) => match c with
     | .v (.int _ c) => if 0 ≤ l ∧ l ≤ c ∧ c < 9223372036854775808 ∧ info.bytes * c ≤ 281474976710656 ∧ z.length = info.size ∧ 0 < info.size ∧ info.size < 65536 ∧ 0 < info.bytes then
       some (.lsl s.next 0 l.toNat, s.alloc ⟨List.replicate l.toNat z, elem, info.size, false, false⟩)
      else none
     | _ => none
    | _ => none
   | none => none
  | none => none
 | none => none
def pBuiltin (P : Program) (bar : Nat) (s : St) (b : Builtin) (ts : Array TypeId) (args : List PV) : Option (PV × St) :=
 match b with
 | .append => match ts.toList with
  | [st, xt] => match args with
   | [x, y] => pAppend P bar s st xt x y
   | _ => none
  | _ => none
 | .len => match ts.toList with
  | [t] => match args with
   | [x] => match pLen P s t x with
    | some v => some (v, s)
    | none => none
   | _ => none
  | _ => none
 | .max => match toVs args with
  | some l => match pureRun P (Builtin.max_ ts 0 l.toArray) with
   | some r => if l.all plain1 && plain1 r then some (.v r, s) else none
   | none => none
  | none => none
 | .min => match toVs args with
  | some l => match pureRun P (Builtin.min_ ts 0 l.toArray) with
   | some r => if l.all plain1 && plain1 r then some (.v r, s) else none
   | none => none
  | none => none
 | _ => none
def ofVal (x : Value) : Option PV :=
 match x with
 | .agg cs => if cs.toList.all plain1 then some (.agg (cs.toList.map .v)) else none
 | x => if plain1 x then some (.v x) else none
def find (P : Program) (kt : TypeId) (k : Value) (es : List MapEntry) : Option (Option (Nat × Value)) :=
 if keysPlain es && plain k then
  (match pureRun P (Instr.checkKey es.isEmpty 10000 kt k) with
   | some _ => aFind P kt k es
   | none => none)
 else none
def orZero (r : Option (Nat × Value)) (z : Value) : Value := match r with
 | some p => p.2
 | none => z
def pLookup (P : Program) (s : St) (t : TypeId) (x k : PV) (ok : Bool) : Option PV :=
 match P.underlying t with
 | some (.map kt et) => match x with
  | .mp b => match s.getM b with
   | some es => match toVal k with
    | some kv => match zeroT P et with
     | some z => match find P kt kv es.1 with
      | some r => if plain z && plain (orZero r z) then match ofVal (orZero r z) with
        | some w => some (if ok then .tup [w, .v (.bool r.isSome)] else w)
        | none => none
       else none
      | none => none
     | none => none
    | none => none
   | none => none
  | _ => none
 | _ => none
def pMapUpdate (P : Program) (bar : Nat) (s : St) (t : TypeId) (m k x : PV) : Option St :=
 match P.underlying t with
 | some (.map kt _) => match m with
  | .mp b => match s.getM b with
   | some es => match toVal k with
    | some kv => match toVal x with
     | some xv => if plain xv && decide (bar ≤ b) && keysPlain es.1 && plain kv then
       match pureRun P (Instr.checkKey false 10000 kt kv) with
       | some _ => match aFind P kt kv es.1 with
        | some (some (i, _)) => match es.1[i]? with
         | some e => if Instr.sameBits 10000 e.key kv then some (s.putM b (es.1.modify i fun e => { e with key := kv, val := xv }, es.2)) else none
         | none => none
        | some none => some (s.putM b (es.1 ++ [{ key := kv, val := xv, born := es.2 }], es.2 + 1))
        | none => none
       | none => none
      else none
     | none => none
    | none => none
   | none => none
  | _ => none
 | _ => none
inductive PRes where
 | val (p : PV) (s : St)
 | call (f : FuncId) (args : List PV)
def pOp (P : Program) (bar : Nat) (f : PF) (s : St) (op : Op) : Option PRes :=
 match op with
 | .move x | .assign x => match opd f x with
  | some p => some (.val p s)
  | none => none
 | .pick c a b => match opd f c with
  | some (.v (.bool t)) => match opd f (if t then a else b) with
   | some p => some (.val p s)
   | none => none
  | _ => none
 | .alloc t => match pAlloc P s t with
  | some (p, s) => some (.val p s)
  | none => none
 | .box t x => match opd f x with
  | some p => match pBox P s t p with
   | some (p, s) => some (.val p s)
   | none => none
  | none => none
 | .build t ps => match pairs f ps.toList with
  | some l => match pBuild P t l with
   | some p => some (.val p s)
   | none => none
  | none => none
 | .buildSlice t n ps => match pairs f ps.toList with
  | some l => match pBuildSlice P s t n l with
   | some (p, s) => some (.val p s)
   | none => none
  | none => none
 | .load t a => match opd f a with
  | some p => match pLoad P s t p with
   | some v => some (.val v s)
   | none => none
  | none => none
 | .store t a x => match opd f a with
  | some p => match opd f x with
   | some v => match pStore P bar s t p v with
    | some s => some (.val (.tup []) s)
    | none => none
   | none => none
  | none => none
 | .nilCheck x => match opd f x with
  | some (.ptr b i o) => some (.val (.ptr b i o) s)
  | some (.fn g a b) => some (.val (.fn g a b) s)
  | _ => none
 | .binOp op t x y _ => match opd f x with
  | some a => match opd f y with
   | some b => match pBin P op t x y a b with
    | some r => some (.val r s)
    | none => none
   | none => none
  | none => none
 | .unOp op _ x => match opd f x with
  | some a => match pUn P op a with
   | some r => some (.val r s)
   | none => none
  | none => none
 | .convert src dst x => match opd f x with
  | some a => match pConvert P s src dst a with
   | some (r, s) => some (.val r s)
   | none => none
  | none => none
 | .makeFunc (.func g) a c => match opds f a.toList with
  | some l => match opds f c.toList with
   | some r => some (.val (.fn g l r) s)
   | none => none
  | none => none
 | .makeMap t none => match P.underlying t with
  | some (.map _ _) => some (.val (.mp s.next) (s.allocM ([], 0)))
  | _ => none
 | .lookup t x k ok => match opd f x with
  | some a => match opd f k with
   | some b => match pLookup P s t a b ok with
    | some r => some (.val r s)
    | none => none
   | none => none
  | none => none
 | .mapUpdate t m k x | .insert t m k x => match opd f m with
  | some a => match opd f k with
   | some b => match opd f x with
    | some c => match pMapUpdate P bar s t a b c with
     | some s => some (.val (.tup []) s)
     | none => none
    | none => none
   | none => none
  | none => none
 | .makeSlice t l c => match opd f l with
  | some a => match opd f c with
   | some b => match pMakeSlice P s t a b with
    | some (r, s) => some (.val r s)
    | none => none
   | none => none
  | none => none
 | .slice t x lo hi none => match opd f x with
  | some a => match optP f lo with
   | some l => match optP f hi with
    | some h => match pSlice P s t a l h with
     | some r => some (.val r s)
     | none => none
    | none => none
   | none => none
  | none => none
 | .slice t x lo (some hi) (some mx) => match opd f x with
  | some a => match optP f lo with
   | some l => match opd f hi with
    | some h => match opd f mx with
     | some m => match pSlice3 P t a l h m with
      | some r => some (.val r s)
      | none => none
     | none => none
    | none => none
   | none => none
  | none => none
 | .fieldAddr t x i => match opd f x with
  | some a => match pFieldAddr P t a i with
   | some r => some (.val r s)
   | none => none
  | none => none
 | .field t x i => match opd f x with
  | some a => match pField P t a i with
   | some r => some (.val r s)
   | none => none
  | none => none
 | .indexAddr t x i => match opd f x with
  | some a => match opd f i with
   | some b => match pIndexAddr P s t a b with
    | some r => some (.val r s)
    | none => none
   | none => none
  | none => none
 | .index t x i => match opd f x with
  | some a => match opd f i with
   | some b => match pIndex P t a b with
    | some r => some (.val r s)
    | none => none
   | none => none
  | none => none
 | .extract x i => match opd f x with
  | some a => match pExtract a i with
   | some r => some (.val r s)
   | none => none
  | none => none
 | .call c => match opds f c.args.toList with
  | some args => match c.callee with
   | .builtin b => match pBuiltin P bar s b c.argTypes args with
    | some (r, s) => some (.val r s)
    | none => none
   | .value x => match opd f x with
    | some (.fn g a b) => some (.call g (a ++ args ++ b))
    | _ => none
   | _ => none
  | none => none
 | _ => none
structure Cfg where
 P : Program
 kn : FuncId → Bool
 X : FuncId → List PV → Option (PV × List (Option (List (List PV))))
 inl : FuncId → Bool
 ptrs : FuncId → Bool
 lent : FuncId → Option (Nat × List Bool)
 slots : FuncId → List (List Slot)
def Cfg.wf (C : Cfg) (g : FuncId) : Option Nat := (C.lent g).map (·.1)
abbrev PRec := Nat → Code → PF → St → Option (AExit × PF × St)
def wantedP (ops : Array Oper) (f : PF) (o : Oper) : Option Bool :=
 match o.guard with
 | none => some true
 | some (j, want) => match (ops[j]?).bind (·.dst) with
  | none => none
  | some t => match f.get t with
   | some (.v (.bool b)) => some (b == want)
   | some (.tup _) => some false
   | _ => none
def resP (P : Program) (s : St) (f : PF) : List ResultVar → Option (List PV)
 | [] => some []
 | .tmp t :: rs => match f.get t with
  | some v => match resP P s f rs with
   | some l => some (v :: l)
   | none => none
  | none => none
 | .cell a t :: rs => match f.get a with
  | some p => match pLoad P s t p with
   | some v => match resP P s f rs with
    | some l => some (v :: l)
    | none => none
   | none => none
  | none => none
def packP : List PV → PV
 | [p] => p
 | ps => .tup ps
def pExt (P : Program) (g : FuncId) (args : List PV) : Option PV :=
 match toVs args with
 | some l => match pureRun P (callFunc g l.toArray) with
  | some (.value v) => if l.all plain1 && plainT v then (match v with
    | .tuple vs => some (.tup (vs.toList.map .v))
    | v => some (.v v)) else none
  | _ => none
 | none => none
def endP (P : Program) (rs : List ResultVar) : Option (AExit × PF × St) → Option (PV × List LRec × St)
 | some (.normal, f, s) => match resP P s f rs with
  | some l => some (packP l, f.up, s)
  | none => none
 | some (.ret, f, s) => match resP P s f rs with
  | some l => some (packP l, f.up, s)
  | none => none
 | _ => none
def callI (C : Cfg) (rec : PRec) (bar : Nat) (g : FuncId) (args : List PV) (up : List LRec) (s : St) : Option (PV × List LRec × St) :=
 match C.kn g with
 | true => none
 | false => match C.P.funcs[g]? with
  | some fn => match fn.body with
   | some c => if args.length ≤ fn.ntmps ∧ fn.ntmps ≤ 1024 ∧ (fn.name == "runtime.NumGoroutine") = false then
     endP C.P fn.results.toList (rec bar c ⟨fn.ntmps, fun t => args[t]?, up⟩ s)
    else none
   | none => match pExt C.P g args with
    | some p => some (p, up, s)
    | none => none
  | none => none
def callT (C : Cfg) (rec : PRec) (g : FuncId) (ts : List PV) : Option (PV × List (Option (List (List PV)))) :=
 match C.kn g with
 | true => C.X g ts
 | false => match inst2L St.empty ts with
  | (s0, args) => match callI C rec 0 g args [] s0 with
   | some (p, _, s) => shut s (C.slots g) s0.next p
   | none => none
def argsT (s : St) (k : Option (Nat × List Bool)) (args : List PV) : Option (List PV × List Nat × List Nat) :=
 match k with
 | none => match deeps s args with
  | some (ts, bs) => some (ts, bs, [])
  | none => none
 | some (k, fs) => match args[k]? with
  | none => none
  | some a => match lend s fs a with
   | none => none
   | some (t, ls, bs) => match deeps s (args.set k .nil) with
    | none => none
    | some (ts, cs) => if nodup ls && ls.all (fun b => !(bs ++ cs).elem b) then some (ts.set k t, bs ++ cs, ls) else none
def inlP (C : Cfg) (g : FuncId) : List PV → Bool
 | [] => C.inl g
 | .fn h _ _ :: ps => C.inl h || inlP C g ps
 | _ :: ps => inlP C g ps
def callP (C : Cfg) (rec : PRec) (bar : Nat) (g : FuncId) (args : List PV) (up : List LRec) (s : St) : Option (PV × List LRec × St) :=
 match inlP C g args with
 | true => callI C rec bar g args up s
 | false => match argsT s (C.lent g) args with
  | some (ts, bs, ls) => if ls.all (fun b => decide (bar ≤ b)) then match callT C rec g ts with
    | some (r, l) => if C.ptrs g || !ls.isEmpty then (match inst (giveBack (freeze s bs) ls l) r with
      | (s1, q) => some (q, up, s1))
     else if flatR r then some (r, up, s) else none
    | none => none
   else none
  | none => none
def oper (C : Cfg) (rec : PRec) (bar : Nat) (ops : Array Oper) (o : Oper) (f : PF) (s : St) : Option (PF × St) :=
 match wantedP ops f o with
 | none => none
 | some false => match f.put o.dst (.tup []) with
  | some f => some (f, s)
  | none => none
 | some true => match pOp C.P bar f s o.op with
  | none => none
  | some (.val p s') => match f.put o.dst p with
   | some f => some (f, s')
   | none => none
  | some (.call g args) => match callP C rec bar g args f.up s with
   | some (p, up, s') => match (PF.mk f.n f.m up).put o.dst p with
    | some f => some (f, s')
    | none => none
   | none => none
def yieldP (f : PF) (op : Op) : Option (Nat × List PV) :=
 match op with
 | .call c => match c.callee with
  | .value x => match opd f x with
   | some (.yl b) => (opds f c.args.toList).map (b, ·)
   | _ => none
  | _ => none
 | _ => none
def noYl (f : PF) (op : Op) : Bool :=
 match op with
 | .call c => match c.callee with
  | .value x => match opd f x with
   | some (.yl _) => false
   | some _ => true
   | none => false
  | _ => true
 | _ => true
def roundP (rec : PRec) (bar b : Nat) (args : List PV) (f : PF) (s : St) : Option (Bool × PF × St) :=
 match f.up with
 | [] => none
 | r :: up => match r.pd with
  | some _ => none
  | none => if r.b = b then
    match (PF.mk r.n r.m up).puts r.ps args with
    | none => none
    | some f0 => match rec bar r.assign f0 s with
     | some (.normal, f1, s1) => match rec bar r.body f1 s1 with
      | some (e, f2, s2) => match e with
       | .normal => some (true, ⟨f.n, f.m, r :: f2.up⟩, s2)
       | e => some (false, ⟨f.n, f.m, { r with pd := some e } :: f2.up⟩, s2)
      | none => none
     | _ => none
   else none
def operY (C : Cfg) (rec : PRec) (bar : Nat) (ops : Array Oper) (o : Oper) (f : PF) (s : St) : Option (PF × St) :=
 match yieldP f o.op with
 | none => match o.guard with
  | none => oper C rec bar ops o f s
  | some _ => if noYl f o.op then oper C rec bar ops o f s else none
 | some (b, args) => match o.guard with
  | some _ => none
  | none => match roundP rec bar b args f s with
   | none => none
   | some (v, f', s') => match f'.put o.dst (.v (.bool v)) with
    | some f'' => some (f'', s')
    | none => none
def St.bump (s : St) : St := ⟨s.next + 1, s.m, s.mm⟩
def rangeP (C : Cfg) (rec : PRec) (bar : Nat) (x : Operand) (ps : Array Tmp) (assign body : Code) (f : PF) (s : St) : Option (AExit × PF × St) :=
 match opd f x with
 | some (.fn g a c) => match callI C rec bar g (a ++ [.yl s.next] ++ c) (⟨f.n, f.m, ps.toList, assign, body, s.next, none⟩ :: f.up) s.bump with
  | some (_, r :: up, s') => match r.pd with
   | none => some (.normal, ⟨f.n, f.m, up⟩, s')
   | some e => some (e, ⟨f.n, f.m, up⟩, s')
  | _ => none
 | _ => none
def opers (C : Cfg) (rec : PRec) (bar : Nat) (ops : Array Oper) : List Oper → PF → St → Option (PF × St)
 | [], f, s => some (f, s)
 | o :: os, f, s => match operY C rec bar ops o f s with
  | none => none
  | some (f', s') => opers C rec bar ops os f' s'
inductive PC where
 | R
 | N
 | T
 | L (b : Nat)
 | Q
 | W (bs : List Nat)
 | X
 deriving Inhabited
def clsCall (C : Cfg) (s : St) (g : FuncId) (args : List PV) : PC :=
 match inlP C g args with
 | true => match C.lent g with
  | none => .Q
  | some _ => .X
 | false => match C.lent g with
  | none => .Q
  | some k => match argsT s (some k) args with
   | some (_, _, ls) => .W ls
   | none => .X
def clsP (C : Cfg) (f : PF) (s : St) (op : Op) : PC :=
 match regOp op with
 | true => .R
 | false => match op with
  | .load _ a => match opd f a with
   | some (.ptr b _ _) => .L b
   | some (.slp ..) => .T
   | _ => .X
  | .slice _ x _ _ _ => match opd f x with
   | some (.lsl b _ _) => .L b
   | some (.v (.string _)) => .N
   | some .nil => .T
   | some (.sl _) => .T
   | _ => .X
  | .store _ a _ => match opd f a with
   | some (.ptr b _ _) => .W [b]
   | _ => .X
  | .lookup _ x _ _ => match opd f x with
   | some (.mp b) => .L b
   | _ => .X
  | .mapUpdate _ x _ _ => match opd f x with
   | some (.mp b) => .W [b]
   | _ => .X
  | .call c => match c.callee with
   | .builtin .len => match (c.args[0]?).bind (opd f) with
    | some (.mp b) => .L b
    | some (.lsl ..) => .N
    | some .nil => .N
    | some (.sl _) => .N
    | some (.v (.string _)) => .N
    | _ => .X
   | .builtin .append => match (c.args[0]?).bind (opd f) with
    | some (.lsl b _ _) => .W [b]
    | some .nil => .Q
    | _ => .X
   | .builtin .max => .N
   | .builtin .min => .N
   | .value x => match opd f x with
    | some (.fn g a e) => match opds f c.args.toList with
     | some args => clsCall C s g (a ++ args ++ e)
     | none => .X
    | _ => .X
   | _ => .X
  | .alloc _ | .box .. | .buildSlice .. | .convert .. | .makeMap .. | .makeSlice .. => .Q
  | _ => .X
def aliveP (s : St) (b : Nat) : Bool := (s.get b).isSome || (s.getM b).isSome
def freeP (c : PC) (i : Nat) (bs : List Nat) (t : St) (j : Nat) : Bool :=
 match c with
 | .R => true
 | .N => true
 | .T => Nat.ble (i + 1) j
 | .L x => !bs.elem x && aliveP t x
 | _ => false
def okP (B : Array Nat) (cs : List (PC × St)) : Bool :=
 let l := cs.zipIdx
 l.all fun (c, j) => match c.1 with
  | .W bs => l.all fun (c', i) => i == j || bfr B (min i j) (max i j) || freeP c'.1 i bs c.2 j
  | .X => false
  | _ => true
def barP (c : PC) (bar : Nat) (s : St) : Nat := match c with
 | .W _ => bar
 | _ => s.next
def clsW (C : Cfg) (ops : Array Oper) (f : PF) (s : St) (o : Oper) : PC := match wantedP ops f o with
 | some true => clsP C f s o.op
 | _ => .R
def drawnP (C : Cfg) (rec : PRec) (bar : Nat) (ops : Array Oper) : List Oper → PF → St → Option (List (PC × St) × PF × St)
 | [], f, s => some ([], f, s)
 | o :: os, f, s => match oper C rec (barP (clsW C ops f s o) bar s) ops o f s with
  | none => none
  | some (f', s') => match drawnP C rec bar ops os f' s' with
   | none => none
   | some (cs, r) => some ((clsW C ops f s o, s) :: cs, r)
def drawP (C : Cfg) (rec : PRec) (bar : Nat) (ops : Array Oper) (f : PF) (s : St) : Option (PF × St) :=
 if staticOk ops (Region.before ops) then
  match drawnP C rec bar ops ops.toList ⟨f.n, f.m, []⟩ s with
  | some (cs, f', s') => if okP (Region.before ops) cs then some (⟨f'.n, f'.m, f.up⟩, s') else none
  | none => none
 else none
def stepP (C : Cfg) (rec : PRec) (bar : Nat) (c : Code) (f : PF) (s : St) : Option (AExit × PF × St) :=
 match c with
 | .skip => some (.normal, f, s)
 | .label _ => some (.normal, f, s)
 | .region _ ops draw =>
  match draw with
  | true => match drawP C rec bar ops f s with
   | some (f, s) => some (.normal, f, s)
   | none => none
  | false => match opers C rec bar ops ops.toList f s with
   | some (f, s) => some (.normal, f, s)
   | none => none
 | .seq a b => match rec bar a f s with
  | some (.normal, f', s') => rec bar b f' s'
  | r => r
 | .cond x t e => match opd f x with
  | some (.v (.bool b)) => rec bar (if b then t else e) f s
  | _ => none
 | .block id b => match rec bar b f s with
  | some (.exit id', f', s') => if id' = id then some (.normal, f', s') else some (.exit id', f', s')
  | r => r
 | .loop b => match rec bar b f s with
  | some (.normal, f', s') => rec bar (.loop b) f' s'
  | r => r
 | .exit id => some (.exit id, f, s)
 | .ret => some (.ret, f, s)
 | .scope b => rec bar b f s
 | .rangeFunc x ps assign body => rangeP C rec bar x ps assign body f s
 | _ => none
def runP (C : Cfg) : Nat → PRec
 | 0 => fun _ _ _ _ => none
 | n + 1 => stepP C (runP C n)
end Go.Pev
namespace Go.Sym
open Go.Abu Go.Pev
inductive A where
 | x (i : Nat)
 | c (p : PV)
 deriving Inhabited
def A.ev (e : List PV) : A → Option PV
 | .x i => e[i]?
 | .c p => some p
def evs (e : List PV) : List A → Option (List PV)
 | [] => some []
 | a :: as => match a.ev e with
  | some v => match evs e as with
   | some vs => some (v :: vs)
   | none => none
  | none => none
def t0 : PV → Bool
 | .v _ | .sl _ | .slp .. => true
 | _ => false
def tG (I : FuncId → Bool) : PV → Bool
 | .agg cs => cs.all t0
 | .fn g a c => !I g && a.all t0 && c.all t0
 | p => t0 p
inductive Ck where
 | i
 | b
 | s
 deriving Inhabited
inductive RF where
 | bin (op : BinOp)
 | bbin (op : BinOp)
 | un (op : UnOp)
 | eqv (ks : List Ck)
 | conv (k : IntKind)
 | mm (mx : Bool)
 | shape (n : Nat)
 | cell (i : Nat)
 | part (o n : Nat)
 | agg
 | len
 | ix
 | sum
 | dif
 | bnd
 | elt (o n : Nat)
 | set (o : Nat)
 | app (bytes z : Nat)
 | sub
 | bs (len : Nat) (z : List PV) (ids : List Nat)
 | rep (z : List PV) (bytes : Nat)
 | tix (z : Nat)
 | tsub (z : Nat)
 | tsub3 (z : Nat)
 | b2s
 | s2b
 | sidx
 | ssub
 | slen
 | flat
 | tree
 | ld (n : Nat)
 | ladd (o : Nat)
 | lix (z len : Nat)
 | aix (z len n : Nat)
 | mkfn (g k : Nat)
 | mkslp (o : Nat)
 | same
 deriving Inhabited
def intB (op : BinOp) (k : IntKind) (a : Int) (k' : IntKind) (b : Int) : Option PV :=
 match op with
 | .shl => if b < 0 then none else some (.v (.int k (k.wrap (a * 2 ^ (min b.toNat k.bits)))))
 | .shr => if b < 0 then none else some (.v (.int k (a.fdiv (2 ^ (min b.toNat k.bits)))))
 | op => if k = k' then match op with
   | .add => some (.v (.int k (k.wrap (a + b))))
   | .sub => some (.v (.int k (k.wrap (a - b))))
   | .mul => some (.v (.int k (k.wrap (a * b))))
   | .quo => if b = 0 then none else some (.v (.int k (k.wrap (a.tdiv b))))
   | .rem => if b = 0 then none else some (.v (.int k (a.tmod b)))
   | .and => some (.v (.int k (k.wrap (BitVec.ofInt k.bits a &&& BitVec.ofInt k.bits b).toNat)))
   | .or => some (.v (.int k (k.wrap (BitVec.ofInt k.bits a ||| BitVec.ofInt k.bits b).toNat)))
   | .xor => some (.v (.int k (k.wrap (BitVec.ofInt k.bits a ^^^ BitVec.ofInt k.bits b).toNat)))
   | .andNot => some (.v (.int k (k.wrap (BitVec.ofInt k.bits a &&& ~~~BitVec.ofInt k.bits b).toNat)))
   | .eql => some (.v (.bool (decide (a = b))))
   | .neq => some (.v (.bool (!decide (a = b))))
   | .lss => some (.v (.bool (decide (a < b))))
   | .leq => some (.v (.bool (decide (a ≤ b))))
   | .gtr => some (.v (.bool (decide (b < a))))
   | .geq => some (.v (.bool (decide (b ≤ a))))
   | _ => none
  else none
def strB (op : BinOp) (a b : ByteArray) : Option PV :=
 match op with
 | .eql => some (.v (.bool (a.toList == b.toList)))
 | .neq => some (.v (.bool (!(a.toList == b.toList))))
 | .add => if ((a.size + b.size : Nat) : Int) > 9223372036854775807 then none else some (.v (.string (a ++ b)))
 | _ => none
def boolB (op : BinOp) (a b : Bool) : Option PV :=
 match op with
 | .eql => some (.v (.bool (a == b)))
 | .neq => some (.v (.bool (!(a == b))))
 | _ => none
def eqC : Ck → PV → PV → Option Bool
 | .i, .v (.int k a), .v (.int k' b) => if k = k' then some (decide (a = b)) else none
 | .b, .v (.bool a), .v (.bool b) => some (a == b)
 | .s, .v (.string a), .v (.string b) => some (a == b)
 | _, _, _ => none
def eqL : List Ck → List PV → List PV → Option Bool
 | [], [], [] => some true
 | k :: ks, x :: xs, y :: ys => match eqC k x y with
  | some b => match eqL ks xs ys with
   | some c => some (b && c)
   | none => none
  | none => none
 | _, _, _ => none
def rowPart (o n : Nat) (row : List PV) : Option PV :=
 match n with
 | 0 => match row[o]? with
  | some p => if t0 p then some p else none
  | none => none
 | n => if o + n ≤ row.length ∧ ((row.drop o).take n).all t0 = true then some (.agg ((row.drop o).take n)) else none
def elsOk' (z : Nat) : List (List PV) → Bool
 | [] => true
 | cs :: _ => decide (cs.length = z)
def setIds (z : Nat) : List (List PV) → List Nat → List PV → Option (List (List PV))
 | els, i :: is, p :: ps => if i < els.length ∧ p.cells.length = z then setIds z (els.set i p.cells) is ps else none
 | els, [], [] => some els
 | _, _, _ => none
def intMM (mx : Bool) : List PV → Option PV
 | [] => none
 | [.v (.int k a)] => some (.v (.int k a))
 | .v (.int k a) :: rest => match intMM mx rest with
  | some (.v (.int k' b)) => if k = k' then some (.v (.int k (if mx then max a b else min a b))) else none
  | _ => none
 | _ => none
def noSlp : PV → Bool
 | .slp .. => false
 | _ => true
def RF.ev (f : RF) (vs : List PV) : Option PV :=
 match f with
 | .bin op => match vs with
  | [.v (.int k a), .v (.int k' b)] => intB op k a k' b
  | [.v (.string a), .v (.string b)] => strB op a b
  | _ => none
 | .bbin op => match vs with
  | [.v (.bool a), .v (.bool b)] => boolB op a b
  | _ => none
 | .un op => match vs with
  | [.v (.bool b)] => match op with
   | .not => some (.v (.bool (!b)))
   | _ => none
  | [.v (.int k a)] => match op with
   | .neg => some (.v (.int k (k.wrap (0 - a))))
   | _ => none
  | _ => none
 | .eqv ks => match vs with
  | [.agg xs, .agg ys] => match eqL ks xs ys with
   | some b => some (.v (.bool b))
   | none => none
  | _ => none
 | .conv k => match vs with
  | [.v (.int _ n)] => some (.v (.int k (k.wrap n)))
  | _ => none
 | .mm mx => intMM mx vs
 | .shape n => match vs with
  | [.agg cs] => if cs.length = n then some (.agg cs) else none
  | _ => none
 | .cell i => match vs with
  | [.agg cs] => cs[i]?
  | _ => none
 | .part o n => match vs with
  | [.agg cs] => if o + n ≤ cs.length then some (.agg ((cs.drop o).take n)) else none
  | _ => none
 | .agg => if (vs.flatMap PV.cells).all t0 = true then some (.agg (vs.flatMap PV.cells)) else none
 | .len => match vs with
  | [.sl els] => some (.i64 els.length)
  | _ => none
 | .flat => match vs with
  | [v] => if Pev.flat v.cells = true then some v else none
  | _ => none
 | .tree => match vs with
  | [v] => if v.cells.all noSlp = true then some v else none
  | _ => none
 | .slen => match vs with
  | [.v (.string s)] => some (.i64 s.size)
  | _ => none
 | .ix => match vs with
  | [.v (.int k i), .v (.int _ n)] => if 0 ≤ i ∧ i < n then some (.v (.int k i)) else none
  | _ => none
 | .sum => match vs with
  | [.v (.int _ a), .v (.int _ b)] => some (.i64 (a + b))
  | _ => none
 | .dif => match vs with
  | [.v (.int _ a), .v (.int _ b)] => some (.i64 (a - b))
  | _ => none
 | .bnd => match vs with
  | [.v (.int _ a), .v (.int _ b)] => if 0 ≤ a ∧ a ≤ b then some (.i64 a) else none
  | _ => none
 | .elt o n => match vs with
  | [.sl els, .v (.int _ i)] => if 0 ≤ i then match els[i.toNat]? with
    | some row => rowPart o n row
    | none => none
   else none
  | _ => none
 | .set o => match vs with
  | [.sl els, .v (.int _ i), p] => if 0 ≤ i then match els[i.toNat]? with
    | some row => if o + p.cells.length ≤ row.length then some (.sl (els.set i.toNat (splice row o p.cells))) else none
    | none => none
   else none
  | _ => none
 | .app bytes z => match vs with
  | [.sl a, .v (.int _ n), .sl b] => if 0 ≤ n ∧ n ≤ a.length ∧ (n.toNat + b.length) * bytes ≤ 140737488355328 ∧ elsOk' z b = true then some (.sl (a.take n.toNat ++ b)) else none
  | _ => none
 | .sub => match vs with
  | [.sl els, .v (.int _ o), .v (.int _ n)] => if 0 ≤ o ∧ 0 ≤ n ∧ o + n ≤ els.length then some (.sl ((els.drop o.toNat).take n.toNat)) else none
  | _ => none
 | .bs n z ids => match setIds z.length (List.replicate n z) ids vs with
  | some els => some (.sl els)
  | none => none
 | .rep z bytes => match vs with
  | [.v (.int _ l), .v (.int _ c)] => if 0 ≤ l ∧ l ≤ c ∧ c < 9223372036854775808 ∧ bytes * c ≤ 281474976710656 then some (.sl (List.replicate l.toNat z)) else none
  | _ => none
 | .tix z => match vs with
  | [.sl els, .v (.int k i)] => if 0 ≤ i then match els[i.toNat]? with
    | some row => if row.length = z then some (.v (.int k i)) else none
    | none => none
   else none
  | _ => none
 | .tsub z => match vs with
  | [.sl els, .v (.int _ l), .v (.int _ h)] => if 0 ≤ l ∧ l ≤ h ∧ h ≤ els.length ∧ elsOk' z els = true ∧ 0 < z then some (.sl ((els.drop l.toNat).take (h.toNat - l.toNat))) else none
  | _ => none
 | .tsub3 z => match vs with
  | [.sl els, .v (.int _ l), .v (.int _ h), .v (.int _ m)] => if 0 ≤ l ∧ l ≤ h ∧ h ≤ m ∧ m ≤ els.length ∧ els.isEmpty = false ∧ Pev.elsOk z els = true ∧ 0 < z then some (.sl ((els.drop l.toNat).take (h.toNat - l.toNat))) else none
  | _ => none
 | .b2s => match vs with
  | [.sl els] => match bytesP els with
   | some l => some (.v (.string ⟨l.toArray⟩))
   | none => none
  | _ => none
 | .s2b => match vs with
  | [.v (.string s)] => if s.size < 140737488355328 then some (.sl (byteEls s)) else none
  | _ => none
 | .sidx => match vs with
  | [.v (.string s), .v (.int _ i)] => if 0 ≤ i then match s[i.toNat]? with
    | some b => some (.v (.int .u8 b.toNat))
    | none => none
   else none
  | _ => none
 | .ssub => match vs with
  | [.v (.string s), .v (.int _ l), .v (.int _ h)] => if 0 ≤ l ∧ l ≤ h ∧ h ≤ s.size then some (.v (.string (s.extract l.toNat h.toNat))) else none
  | _ => none
 | .ld n => match vs with
  | [.slp els i o] => match els[i]? with
   | some row => rowPart o n row
   | none => none
  | _ => none
 | .ladd o => match vs with
  | [.slp els i k] => some (.slp els i (k + o))
  | _ => none
 | .lix z w => match vs with
  | [.slp els k o, .v (.int _ i)] => if 0 ≤ i ∧ i < w then some (.slp els k (o + i.toNat * z)) else none
  | _ => none
 | .aix z w n => match vs with
  | [.agg cs, .v (.int _ i)] => if 0 ≤ i ∧ i < w then rowPart (i.toNat * z) n cs else none
  | _ => none
 | .mkfn g k => if vs.all t0 = true then some (.fn g (vs.take k) (vs.drop k)) else none
 | .mkslp o => if vs.all t0 = true then some (.slp [vs] 0 o) else none
 | .same => match vs with
  | [.sl a, .sl b] => if a.length = b.length then some (.sl a) else none
  | _ => none
inductive K where
 | ret (vs : List A)
 | dead
 | lt (f : RF) (as : List A) (k : K)
 | call (g : FuncId) (as : List A) (k : K)
 | callv (x : A) (as : List A) (k : K)
 | br (x : A) (t e : K)
 | jp (d k : K)
 | loop (b k : K)
 | jmp (j : Nat) (vs : List A)
 deriving Inhabited
def iter {α β : Type} (F : (α → Option β) → α → Option β) : Nat → α → Option β
 | 0, _ => none
 | n + 1, a => F (iter F n) a
def den (Φ : FuncId → List PV → Option (List PV)) (V : FuncId → Bool) (N : Nat) : K → List (List PV → Option (List PV)) → List PV → Option (List PV)
 | .ret vs, _, e => evs e vs
 | .dead, _, _ => none
 | .lt f as k, J, e => match evs e as with
  | some xs => match f.ev xs with
   | some v => den Φ V N k J (e ++ [v])
   | none => none
  | none => none
 | .call g as k, J, e => match evs e as with
  | some xs => match Φ g xs with
   | some rs => den Φ V N k J (e ++ rs)
   | none => none
  | none => none
 | .callv x as k, J, e => match x.ev e with
  | some (.fn g a c) => match V g with
   | true => match evs e as with
    | some xs => match Φ g (a ++ xs ++ c) with
     | some [r] => den Φ V N k J (e ++ [r])
     | _ => none
    | none => none
   | false => none
  | _ => none
 | .br x t f, J, e => match x.ev e with
  | some (.v (.bool true)) => den Φ V N t J e
  | some (.v (.bool false)) => den Φ V N f J e
  | _ => none
 | .jp d k, J, e => den Φ V N k (J ++ [fun vs => den Φ V N d J (e ++ vs)]) e
 | .loop b k, J, e => den Φ V N k (J ++ [iter (fun self vs => den Φ V N b (J ++ [self]) (e ++ vs)) N]) e
 | .jmp j vs, J, e => match J[j]? with
  | some f => match evs e vs with
   | some xs => f xs
   | none => none
  | none => none
inductive Cap where
 | ptr (b o : Nat)
 | a (x : A)
 deriving Inhabited
inductive SC where
 | a (x : A)
 | pc (x : A) (i : Nat)
 | nil
 | ptr (b o : Nat)
 | ep (b : Nat) (i : A) (o : Nat)
 | tp (l i : A) (o : Nat)
 | lsl (b : Nat) (o n : A)
 | mp (b : Nat)
 | fn (g : Nat) (f c : List Cap)
 | fv (x : A)
 | yl (b : Nat)
 deriving Inhabited
inductive SW where
 | c (x : SC)
 | av (x : A)
 | agg (cs : List SC)
 deriving Inhabited
inductive SV where
 | w (x : SW)
 | tup (xs : List SW)
 deriving Inhabited
inductive SB where
 | box (cs : List SC) (z : Nat) (fz : Bool)
 | lst (l : A) (ty z : Nat) (fz : Bool)
 deriving Inhabited
structure SS where
 n : Nat
 tm : List (Nat × SV)
 bl : List (Nat × SB)
 nb : Nat
 fc : List (Nat × Bool)
 sz : List (Nat × Nat)
 le : List (Nat × Nat)
 ld : List (Nat × List Nat)
 nn : List Nat
 deriving Inhabited
def look {α : Type} : List (Nat × α) → Nat → Option α
 | [], _ => none
 | (k, v) :: l, i => match Nat.beq k i with
  | true => some v
  | false => look l i
def del {α : Type} : List (Nat × α) → Nat → List (Nat × α)
 | [], _ => []
 | (k, v) :: l, i => match Nat.beq k i with
  | true => del l i
  | false => (k, v) :: del l i
def put {α : Type} (l : List (Nat × α)) (k : Nat) (v : α) : List (Nat × α) := (k, v) :: del l k
abbrev Lets := List (RF × List A)
abbrev Szs := List (Nat × Nat)
abbrev EM (α : Type) := Nat → Szs → Option (α × Lets × Szs)
def EM.ret {α : Type} (a : α) : EM α := fun _ _ => some (a, [], [])
def EM.bind {α β : Type} (x : EM α) (f : α → EM β) : EM β := fun m z => match x m z with
 | some (a, l1, z1) => match f a (m + l1.length) (z1 ++ z) with
  | some (b, l2, z2) => some (b, l1 ++ l2, z2 ++ z1)
  | none => none
 | none => none
def fail {α : Type} : EM α := fun _ _ => none
def ofO {α : Type} : Option α → EM α
 | some a => EM.ret a
 | none => fail
def emit (f : RF) (as : List A) : EM A := fun m _ => some (.x m, [(f, as)], [])
def emitN (n : Nat) (f : RF) (as : List A) : EM A := fun m _ => some (.x m, [(f, as)], [(m, n)])
def sizeOf? (a : A) : EM (Option Nat) := fun _ z => some ((match a with | .x i => look z i | _ => none), [], [])
def A.same : A → A → Bool
 | .x i, .x j => Nat.beq i j
 | _, _ => false
def cellA : SC → EM A
 | .a x => EM.ret x
 | .pc x i => emit (.cell i) [x]
 | .nil => EM.ret (.c (.sl []))
 | _ => fail
def shaped (n : Nat) (x : A) : EM A := EM.bind (sizeOf? x) fun k => match k with
 | some k => match Nat.beq k n with
  | true => EM.ret x
  | false => fail
 | none => emitN n (.shape n) [x]
def pcs (x : A) (i : Nat) : Nat → List SC
 | 0 => []
 | n + 1 => .pc x i :: pcs x (i + 1) n
def cellsT (P : Program) (t : TypeId) (w : SW) : EM (List SC) :=
 match isAggT P t with
 | some true => match szT P t with
  | some n => match w with
   | .agg cs => match Nat.beq cs.length n with
    | true => EM.ret cs
    | false => fail
   | .av x => EM.bind (shaped n x) fun y => EM.ret (pcs y 0 n)
   | _ => fail
  | none => fail
 | some false => match szT P t with
  | some 1 => match w with
   | .c (.fv _) => fail
   | .c x => EM.ret [x]
   | _ => fail
  | _ => fail
 | none => fail
def runLen (x : A) : Nat → List SC → Nat
 | _, [] => 0
 | i, .pc y j :: cs => match A.same x y && Nat.beq i j with
  | true => runLen x (i + 1) cs + 1
  | false => 0
 | _, _ => 0
def collapse (cs : List SC) : EM SW :=
 match cs with
 | .pc x i :: rest => match Nat.beq (runLen x (i + 1) rest) rest.length with
  | true => EM.bind (sizeOf? x) fun k => match (match k with | some k => Nat.beq i 0 && Nat.beq k cs.length | none => false) with
   | true => EM.ret (.av x)
   | false => EM.bind (emitN cs.length (.part i cs.length) [x]) fun y => EM.ret (.av y)
  | false => EM.ret (.agg cs)
 | _ => EM.ret (.agg cs)
def plainC (P : Program) (t : TypeId) (c : SC) : EM SW :=
 match c with
 | .pc x i => match P.underlying t with
  | some .bool => EM.bind (emit (.cell i) [x]) fun y => EM.ret (.c (.a y))
  | _ => EM.ret (.c (.pc x i))
 | c => EM.ret (.c c)
def partT (P : Program) (t : TypeId) (cs : List SC) (o : Nat) : EM SW :=
 match isAggT P t with
 | some true => match szT P t with
  | some n => match Nat.ble (o + n) cs.length with
   | true => collapse ((cs.drop o).take n)
   | false => fail
  | none => fail
 | some false => match cs[o]? with
  | some c => plainC P t c
  | none => fail
 | none => fail
def cnt (P : Program) (t : TypeId) : Option Nat :=
 match isAggT P t with
 | some true => match szT P t with
  | some (n + 1) => some (n + 1)
  | _ => none
 | some false => some 0
 | none => none
def emitPart (n : Nat) (f : RF) (as : List A) : EM SW :=
 match n with
 | 0 => EM.bind (emit f as) fun y => EM.ret (.c (.a y))
 | n => EM.bind (emitN n f as) fun y => EM.ret (.av y)
def loadS (P : Program) (σ : SS) (t : TypeId) (p : SC) : EM SW :=
 match p with
 | .ptr b o => match look σ.bl b with
  | some (.box cs _ _) => partT P t cs o
  | _ => fail
 | .ep b i o => match look σ.bl b with
  | some (.lst l _ _ _) => match cnt P t with
   | some n => emitPart n (.elt o n) [l, i]
   | none => fail
  | _ => fail
 | .tp l i o => match cnt P t with
  | some n => emitPart n (.elt o n) [l, i]
  | none => fail
 | .a x => match cnt P t with
  | some n => emitPart n (.ld n) [x]
  | none => fail
 | .pc x i => EM.bind (emit (.cell i) [x]) fun y => match cnt P t with
  | some n => emitPart n (.ld n) [y]
  | none => fail
 | _ => fail
def capsA (xs : List Cap) (σ : SS) (f : Cap → EM (A × List Nat)) : EM (List A × List Nat) :=
 match xs with
 | [] => EM.ret ([], [])
 | x :: xs => EM.bind (f x) fun p => EM.bind (capsA xs σ f) fun q => EM.ret (p.1 :: q.1, p.2 ++ q.2)
def deep0S (σ : SS) : SC → EM (A × List Nat)
 | .a x => EM.ret (x, [])
 | .pc x i => EM.bind (emit (.cell i) [x]) fun y => EM.ret (y, [])
 | .nil => EM.ret (.c (.sl []), [])
 | .lsl b o n => match look σ.bl b with
  | some (.lst l _ _ _) => EM.bind (emit .sub [l, o, n]) fun y => EM.ret (y, [b])
  | _ => fail
 | _ => fail
def deep0Ls (σ : SS) : Nat → List SC → EM (List A × List Nat)
 | _, [] => EM.ret ([], [])
 | 0, _ => fail
 | k + 1, c :: cs =>
  match c with
  | .pc x i => match runLen x (i + 1) cs with
   | 0 => EM.bind (emit (.cell i) [x]) fun y => EM.bind (deep0Ls σ k cs) fun q => EM.ret (y :: q.1, q.2)
   | n + 1 => EM.bind (emitN (n + 2) (.part i (n + 2)) [x]) fun y => EM.bind (deep0Ls σ k (cs.drop (n + 1))) fun q => EM.ret (y :: q.1, q.2)
  | c => EM.bind (deep0S σ c) fun p => EM.bind (deep0Ls σ k cs) fun q => EM.ret (p.1 :: q.1, p.2 ++ q.2)
def deep0Cs (σ : SS) : List SC → EM (List A × List Nat)
 | [] => EM.ret ([], [])
 | c :: cs => EM.bind (deep0S σ c) fun p => EM.bind (deep0Cs σ cs) fun q => EM.ret (p.1 :: q.1, p.2 ++ q.2)
def deepP (σ : SS) (b o : Nat) : EM (A × List Nat) :=
 match look σ.bl b with
 | some (.box cs _ _) => EM.bind (deep0Cs σ cs) fun p => EM.bind (emit (.mkslp o) p.1) fun y => EM.ret (y, b :: p.2)
 | _ => fail
def deepCap (σ : SS) : Cap → EM (A × List Nat)
 | .ptr b o => deepP σ b o
 | .a x => EM.ret (x, [])
def deepS (σ : SS) : SW → EM (A × List Nat)
 | .agg cs => EM.bind (deep0Ls σ cs.length cs) fun p => EM.bind (emitN cs.length .agg p.1) fun y => EM.ret (y, p.2)
 | .c (.ptr b o) => deepP σ b o
 | .c (.fn g f c) => match f ++ c with
  | [] => EM.ret (.c (.fn g [] []), [])
  | fc => EM.bind (capsA fc σ (deepCap σ)) fun p => EM.bind (emit (.mkfn g f.length) p.1) fun y => EM.ret (y, p.2)
 | .c (.fv x) => EM.ret (x, [])
 | .av x => EM.ret (x, [])
 | .c x => deep0S σ x
def deepsS (σ : SS) : List SW → EM (List A × List Nat)
 | [] => EM.ret ([], [])
 | w :: ws => EM.bind (deepS σ w) fun p => EM.bind (deepsS σ ws) fun q => EM.ret (p.1 :: q.1, p.2 ++ q.2)
def freezeB : SB → SB
 | .box cs z _ => .box cs z true
 | .lst l ty z _ => .lst l ty z true
def freezeS (σ : SS) : List Nat → SS
 | [] => σ
 | b :: bs => match look σ.bl b with
  | some sb => freezeS { σ with bl := put σ.bl b (freezeB sb) } bs
  | none => freezeS σ bs
def ofCell : PV → SC
 | .nil => .nil
 | p => .a (.c p)
def constS (v : Value) : Option SV :=
 match ofC v with
 | some (.agg cs) => some (.w (.agg (cs.map ofCell)))
 | some p => some (.w (.c (ofCell p)))
 | none => none
def known (σ : SS) : SV → SV
 | .w (.c (.a (.x i))) => match look σ.fc i with
  | some b => .w (.c (.a (.c (.v (.bool b)))))
  | none => .w (.c (.a (.x i)))
 | v => v
def opS (σ : SS) : Operand → Option SV
 | .tmp t => match look σ.tm t with
  | some v => some (known σ v)
  | none => none
 | .const v => constS v
 | .func g => some (.w (.c (.fn g [] [])))
 | .global _ => none
def opW (σ : SS) (x : Operand) : Option SW := match opS σ x with
 | some (.w w) => some w
 | _ => none
def opC (σ : SS) (x : Operand) : Option SC := match opW σ x with
 | some (.c c) => some c
 | _ => none
def opWs (σ : SS) : List Operand → Option (List SW)
 | [] => some []
 | x :: xs => match opW σ x with
  | some w => match opWs σ xs with
   | some ws => some (w :: ws)
   | none => none
  | none => none
def SS.new (σ : SS) (sb : SB) : SS := { σ with bl := put σ.bl σ.nb sb, nb := σ.nb + 1, nn := σ.nb :: σ.nn }
def SS.kill (σ : SS) (b : Nat) : SS := { σ with bl := del σ.bl b, le := σ.le.filter (fun p => !Nat.beq p.2 b), ld := (σ.le.filter (fun p => Nat.beq p.2 b)).map (fun p => (p.1, [])) ++ σ.ld.map fun p => (p.1, p.2.filter fun c => !Nat.beq c b) }
def zeroCs (P : Program) (t : TypeId) : Option (List SC) := match zeroP P t with
 | some z => some (z.cells.map ofCell)
 | none => none
def boxS (P : Program) (σ : SS) (t : TypeId) (cs : List SC) : EM (SV × SS) :=
 match szT P t with
 | some n => match Nat.beq cs.length n with
  | true => EM.ret (.w (.c (.ptr σ.nb 0)), σ.new (.box cs n false))
  | false => fail
 | none => fail
def spliceS (cs : List SC) (o : Nat) (vs : List SC) : List SC := cs.take o ++ vs ++ cs.drop (o + vs.length)
def storeW (P : Program) (t : TypeId) (w : SW) : Option Nat :=
 match isAggT P t with
 | some true => match w with
  | .c _ => none
  | _ => match szT P t with
   | some (n + 1) => some (n + 1)
   | _ => none
 | some false => match w with
  | .c (.fv _) => none
  | .c _ => match szT P t with
   | some 1 => some 0
   | _ => none
  | _ => none
 | none => none
def storeS (P : Program) (σ : SS) (t : TypeId) (p : SC) (w : SW) : EM SS :=
 match p with
 | .ptr b o => match look σ.bl b with
  | some (.box cs z false) => EM.bind (cellsT P t w) fun vs => match Nat.ble 1 vs.length && Nat.ble (o + vs.length) cs.length with
   | true => EM.ret { σ with bl := put σ.bl b (.box (spliceS cs o vs) z false) }
   | false => fail
  | _ => fail
 | .ep b i o => match look σ.bl b with
  | some (.lst l ty z false) => match storeW P t w with
   | some n => EM.bind (deepS σ w) fun q => match q.2.elem b with
    | true => fail
    | false => EM.bind (match n with
     | 0 => EM.ret q.1
     | n => shaped n q.1) fun y => EM.bind (emit (.set o) [l, i, y]) fun l' => EM.ret { freezeS σ q.2 with bl := put (freezeS σ q.2).bl b (.lst l' ty z false) }
   | none => fail
  | _ => fail
 | _ => fail
def partTy (P : Program) (t : TypeId) (i : Nat) : Option (TypeId × Nat) :=
 match P.underlying t with
 | some (.struct fields) => match fields[i]? with
  | some f => some (f.type, f.offset)
  | none => none
 | some (.array _ e) => match szT P e with
  | some z => some (e, i * z)
  | none => none
 | _ => none
def fillS (P : Program) (t : TypeId) : List SC → List (Nat × SW) → EM (List SC)
 | cs, [] => EM.ret cs
 | cs, (i, w) :: r => match partTy P t i with
  | some (ty, o) => EM.bind (cellsT P ty w) fun vs => match Nat.ble (o + vs.length) cs.length with
   | true => fillS P t (spliceS cs o vs) r
   | false => fail
  | none => fail
def pairsS (σ : SS) : List (Nat × Operand) → Option (List (Nat × SW))
 | [] => some []
 | (i, x) :: r => match opW σ x with
  | some w => match pairsS σ r with
   | some l => some ((i, w) :: l)
   | none => none
  | none => none
def buildSliceS (P : Program) (σ : SS) (t : TypeId) (len : Nat) (ps : List (Nat × SW)) : EM (SV × SS) :=
 match P.underlying t with
 | some (.slice elem) => match szT P elem with
  | some size => match zeroEl P elem with
   | some z => match Nat.ble (len * size) 16777216 && Nat.ble 1 size && Nat.beq z.length size with
    | true => EM.bind (deepsS σ (ps.map (·.2))) fun q => match len with
     | 0 => match ps with
      | [] => EM.ret (.w (.c .nil), σ)
      | _ => fail
     | _ => EM.bind (emit (.bs len z (ps.map (·.1))) q.1) fun l =>
      EM.ret (.w (.c (.lsl σ.nb (.c (.i64 0)) (.c (.i64 len)))), (freezeS σ q.2).new (.lst l elem size false))
    | false => fail
   | none => fail
  | none => fail
 | _ => fail
def isCmp : BinOp → Bool
 | .eql | .neq => true
 | _ => false
def eqFs (rec : TypeId → Option (List Ck)) : List Field → Nat → Option (List Ck)
 | [], _ => some []
 | f :: fs, o => match f.name != "_" && Nat.beq f.offset o with
  | true => match rec f.type with
   | some k => match eqFs rec fs (o + k.length) with
    | some r => some (k ++ r)
    | none => none
   | none => none
  | false => none
def eqTy (P : Program) : Nat → TypeId → Option (List Ck)
 | 0, _ => none
 | d + 1, t => match P.underlying t with
  | some .bool => some [.b]
  | some (.int _) => some [.i]
  | some .string => some [.s]
  | some (.struct fields) => match P.stoodInHeld t with
   | true => none
   | false => match eqFs (eqTy P d) fields.toList 0 with
    | some ks => match szT P t with
     | some m => match Nat.beq ks.length m with
      | true => some ks
      | false => none
     | none => none
    | none => none
  | _ => none
def aggA (σ : SS) (w : SW) : EM A := EM.bind (deepS σ w) fun q => match q.2 with
 | [] => EM.ret q.1
 | _ => fail
def binC (f : RF) (x y : SW) : EM SV :=
 match x with
 | .c x => match y with
  | .c y => EM.bind (cellA x) fun a => EM.bind (cellA y) fun b => EM.bind (emit f [a, b]) fun r => EM.ret (.w (.c (.a r)))
  | _ => fail
 | _ => fail
def binS (P : Program) (σ : SS) (op : BinOp) (t : TypeId) (x y : SW) : EM SV :=
 match P.underlying t with
 | some (.struct _) => match isCmp op && Nat.ble 10 P.depth with
  | true => match eqTy P 10 t with
   | some ks => EM.bind (aggA σ x) fun a => EM.bind (aggA σ y) fun b => EM.bind (emit (.eqv ks) [a, b]) fun r => match op with
    | .eql => EM.ret (.w (.c (.a r)))
    | _ => EM.bind (emit (.un .not) [r]) fun r' => EM.ret (.w (.c (.a r')))
   | none => fail
  | false => fail
 | some .bool => binC (.bbin op) x y
 | some (.int _) => binC (.bin op) x y
 | some .string => binC (.bin op) x y
 | _ => fail
def convS (P : Program) (σ : SS) (src dst : TypeId) (x : SC) : EM (SV × SS) :=
 match P.underlying src with
 | some ts => match P.underlying dst with
  | some (.int k) => EM.bind (cellA x) fun a => EM.bind (emit (.conv k) [a]) fun r => EM.ret (.w (.c (.a r)), σ)
  | some (.slice e) => match ts, P.underlying e with
   | .string, some (.int .u8) => EM.bind (cellA x) fun a => EM.bind (emit .s2b [a]) fun l => EM.bind (emit .len [l]) fun n =>
    EM.ret (.w (.c (.lsl σ.nb (.c (.i64 0)) n)), σ.new (.lst l e 1 false))
   | _, _ => fail
  | some .string => match ts with
   | .slice e => match P.underlying e with
    | some (.int .u8) => EM.bind (deep0S σ x) fun q => EM.bind (emit .b2s [q.1]) fun r => EM.ret (.w (.c (.a r)), σ)
    | _ => fail
   | _ => fail
  | _ => fail
 | none => fail
def fieldS (P : Program) (t : TypeId) (w : SW) (i : Nat) : EM SW :=
 match P.underlying t with
 | some (.struct fields) => match fields[i]? with
  | some f => match w with
   | .agg cs => partT P f.type cs f.offset
   | .av x => match cnt P f.type with
    | some 0 => EM.bind (sizeOf? x) fun k => match k with
     | some m => match Nat.ble (f.offset + 1) m with
      | true => plainC P f.type (.pc x f.offset)
      | false => fail
     | none => EM.bind (emit (.cell f.offset) [x]) fun y => EM.ret (.c (.a y))
    | some (n + 1) => emitPart (n + 1) (.part f.offset (n + 1)) [x]
    | none => fail
   | _ => fail
  | none => fail
 | _ => fail
def cellLs : List SC → EM (List A)
 | [] => EM.ret []
 | x :: ws => EM.bind (cellA x) fun a => EM.bind (cellLs ws) fun as => EM.ret (a :: as)
def flatA : SW → EM A
 | .av x => EM.ret x
 | .agg cs => EM.bind (cellLs cs) fun as => emit .agg as
 | _ => fail
def indexS (P : Program) (σ : SS) (t : TypeId) (w : SW) (ix : SC) : EM SW :=
 match P.underlying t with
 | some (.array len elem) => match szT P elem with
  | some z => match cnt P elem with
   | some n => EM.bind (flatA w) fun a => EM.bind (cellA ix) fun i => emitPart n (.aix z len n) [a, i]
   | none => fail
  | none => fail
 | some .string => match w with
  | .c x => EM.bind (cellA x) fun a => EM.bind (cellA ix) fun i => emitPart 0 .sidx [a, i]
  | _ => fail
 | _ => fail
def isZero : A → Bool
 | .c (.v (.int .i64 0)) => true
 | _ => false
def indexAddrS (P : Program) (σ : SS) (t : TypeId) (x ix : SC) : EM SC :=
 match P.underlying t with
 | some (.slice elem) => match szT P elem with
  | some z => match x with
   | .lsl b o n => match look σ.bl b with
    | some (.lst _ _ z' _) => match Nat.beq z z' with
     | true => EM.bind (cellA ix) fun i => EM.bind (emit .ix [i, n]) fun j => match isZero o with
      | true => EM.ret (.ep b j 0)
      | false => EM.bind (emit .sum [o, j]) fun j' => EM.ret (.ep b j' 0)
     | false => fail
    | _ => fail
   | .a l => EM.bind (cellA ix) fun i => EM.bind (emit (.tix z) [l, i]) fun j => EM.ret (.tp l j 0)
   | .pc y k => EM.bind (emit (.cell k) [y]) fun l => EM.bind (cellA ix) fun i => EM.bind (emit (.tix z) [l, i]) fun j => EM.ret (.tp l j 0)
   | _ => fail
  | none => fail
 | some (.array len elem) => match szT P elem with
  | some z => match x with
   | .ptr b o => match ix with
    | .a (.c (.v (.int _ i))) => match decide (0 ≤ i ∧ i < len) with
     | true => EM.ret (.ptr b (o + i.toNat * z))
     | false => fail
    | _ => fail
   | .ep b k o => match ix with
    | .a (.c (.v (.int _ i))) => match decide (0 ≤ i ∧ i < len) with
     | true => EM.ret (.ep b k (o + i.toNat * z))
     | false => fail
    | _ => fail
   | .tp l k o => match ix with
    | .a (.c (.v (.int _ i))) => match decide (0 ≤ i ∧ i < len) with
     | true => EM.ret (.tp l k (o + i.toNat * z))
     | false => fail
    | _ => fail
   | .a p => EM.bind (cellA ix) fun i => EM.bind (emit (.lix z len) [p, i]) fun q => EM.ret (.a q)
   | _ => fail
  | none => fail
 | _ => fail
def fieldAddrS (P : Program) (t : TypeId) (x : SC) (i : Nat) : EM SC :=
 match P.underlying t with
 | some (.struct fields) => match fields[i]? with
  | some f => match szT P f.type with
   | some (_ + 1) => match x with
    | .ptr b o => EM.ret (.ptr b (o + f.offset))
    | .ep b k o => EM.ret (.ep b k (o + f.offset))
    | .tp l k o => EM.ret (.tp l k (o + f.offset))
    | .a p => EM.bind (emit (.ladd f.offset) [p]) fun q => EM.ret (.a q)
    | _ => fail
   | _ => fail
  | none => fail
 | _ => fail
def optS (σ : SS) : Option Operand → Option (Option SC)
 | none => some none
 | some x => match opC σ x with
  | some c => some (some c)
  | none => none
def bndS (d : A) (y : A) : Option SC → EM A
 | none => EM.ret d
 | some c => EM.bind (cellA c) fun a => emit .bnd [a, y]
def sliceS (P : Program) (σ : SS) (t : TypeId) (x : SC) (lo hi : Option SC) : EM SC :=
 match P.underlying t with
 | some .string => EM.bind (cellA x) fun s => EM.bind (emit .slen [s]) fun n => EM.bind (bndS n n hi) fun h => EM.bind (bndS (.c (.i64 0)) h lo) fun l => EM.bind (emit .ssub [s, l, h]) fun r => EM.ret (.a r)
 | some (.slice elem) => match szT P elem with
  | some z => match x with
   | .nil => EM.bind (bndS (.c (.i64 0)) (.c (.i64 0)) hi) fun h => EM.bind (bndS (.c (.i64 0)) h lo) fun _ => EM.ret .nil
   | .lsl b o n => match look σ.bl b with
    | some (.lst _ _ z' _) => match Nat.beq z z' && Nat.ble 1 z with
     | true => EM.bind (bndS n n hi) fun h => match lo with
      | none => EM.ret (.lsl b o h)
      | some _ => EM.bind (bndS (.c (.i64 0)) h lo) fun l => EM.bind (emit .sum [o, l]) fun o' => EM.bind (emit .dif [h, l]) fun n' => EM.ret (.lsl b o' n')
     | false => fail
    | _ => fail
   | x => EM.bind (cellA x) fun s => EM.bind (emit .len [s]) fun n => EM.bind (bndS n n hi) fun h => EM.bind (bndS (.c (.i64 0)) h lo) fun l => EM.bind (emit (.tsub z) [s, l, h]) fun r => EM.ret (.a r)
  | none => fail
 | _ => fail
def slice3S (P : Program) (t : TypeId) (x : SC) (lo : Option SC) (hi mx : SC) : EM SC :=
 match P.underlying t with
 | some (.slice elem) => match szT P elem with
  | some z => EM.bind (cellA x) fun s => EM.bind (match lo with | none => EM.ret (.c (.i64 0)) | some c => cellA c) fun l => EM.bind (cellA hi) fun h => EM.bind (cellA mx) fun m => EM.bind (emit (.tsub3 z) [s, l, h, m]) fun r => EM.ret (.a r)
  | none => fail
 | _ => fail
def elemsS (σ : SS) (x : SC) : EM A := EM.bind (deep0S σ x) fun q => EM.ret q.1
def appendS (P : Program) (σ : SS) (st xt : TypeId) (x y : SC) : EM (SV × SS) :=
 match P.underlying st with
 | some (.slice elem) => match szT P elem with
  | some size => match P.info? elem with
   | some info => match zeroEl P elem with
    | some z => match Nat.ble 1 size && Nat.ble (size + 1) 65536 && Nat.beq z.length size && Nat.ble 1 info.bytes with
     | true => EM.bind (match P.underlying xt with
       | some (.slice _) => elemsS σ y
       | some .string => match Nat.beq size 1 with
        | true => EM.bind (cellA y) fun a => emit .s2b [a]
        | false => fail
       | _ => fail) fun ys => match x with
      | .nil => EM.bind (emit (.app info.bytes size) [.c (.sl []), .c (.i64 0), ys]) fun l => EM.bind (emit .len [l]) fun n =>
       EM.ret (.w (.c (.lsl σ.nb (.c (.i64 0)) n)), σ.new (.lst l elem size false))
      | .lsl b o n => match look σ.bl b with
       | some (.lst l ty z' false) => match isZero o && Nat.beq ty elem && Nat.beq z' size with
        | true => EM.bind (emit (.app info.bytes size) [l, n, ys]) fun l' => EM.bind (emit .len [l']) fun n' =>
         EM.ret (.w (.c (.lsl σ.nb (.c (.i64 0)) n')), (σ.kill b).new (.lst l' elem size false))
        | false => fail
       | _ => fail
      | _ => fail
     | false => fail
    | none => fail
   | none => fail
  | none => fail
 | _ => fail
def lenS (P : Program) (t : TypeId) (x : SW) : EM SW :=
 match P.underlying t with
 | some .string => match x with
  | .c x => EM.bind (cellA x) fun a => emitPart 0 .slen [a]
  | _ => fail
 | some (.array n _) => EM.ret (.c (.a (.c (.i64 n))))
 | some (.slice _) => match x with
  | .c .nil => EM.ret (.c (.a (.c (.i64 0))))
  | .c (.lsl _ _ n) => EM.ret (.c (.a n))
  | .c (.a x) => emitPart 0 .len [x]
  | .c (.pc x i) => EM.bind (emit (.cell i) [x]) fun y => emitPart 0 .len [y]
  | _ => fail
 | _ => fail
def makeSliceS (P : Program) (σ : SS) (t : TypeId) (l c : SC) : EM (SV × SS) :=
 match Pev.elemOf P t with
 | some elem => match P.info? elem with
  | some info => match zeroEl P elem with
   | some z => match Nat.beq z.length info.size && Nat.ble 1 info.size && Nat.ble (info.size + 1) 65536 && Nat.ble 1 info.bytes with
    | true => EM.bind (cellA l) fun a => EM.bind (cellA c) fun b => EM.bind (emit (.rep z info.bytes) [a, b]) fun r => EM.bind (emit .len [r]) fun n =>
     EM.ret (.w (.c (.lsl σ.nb (.c (.i64 0)) n)), σ.new (.lst r elem info.size false))
    | false => fail
   | none => fail
  | none => fail
 | none => fail
def cellAs : List SW → EM (List A)
 | [] => EM.ret []
 | .c x :: ws => EM.bind (cellA x) fun a => EM.bind (cellAs ws) fun as => EM.ret (a :: as)
 | _ => fail
def builtinS (P : Program) (σ : SS) (b : Builtin) (ts : List TypeId) (args : List SW) : EM (SV × SS) :=
 match b with
 | .append => match ts with
  | [st, xt] => match args with
   | [.c x, .c y] => appendS P σ st xt x y
   | _ => fail
  | _ => fail
 | .len => match ts with
  | [t] => match args with
   | [x] => EM.bind (lenS P t x) fun r => EM.ret (.w r, σ)
   | _ => fail
  | _ => fail
 | .max => EM.bind (cellAs args) fun as => EM.bind (emit (.mm true) as) fun r => EM.ret (.w (.c (.a r)), σ)
 | .min => EM.bind (cellAs args) fun as => EM.bind (emit (.mm false) as) fun r => EM.ret (.w (.c (.a r)), σ)
 | _ => fail
def capS : SW → Option Cap
 | .c (.ptr b o) => some (.ptr b o)
 | .c (.a x) => some (.a x)
 | _ => none
def capsS (σ : SS) : List Operand → Option (List Cap)
 | [] => some []
 | x :: xs => match opW σ x with
  | some w => match capS w with
   | some c => match capsS σ xs with
    | some cs => some (c :: cs)
    | none => none
   | none => none
  | none => none
def Cap.w : Cap → SW
 | .ptr b o => .c (.ptr b o)
 | .a x => .c (.a x)
inductive SR where
 | val (v : SV) (σ : SS)
 | call (g : FuncId) (args : List SW)
 | callv (x : A) (args : List SW)
 deriving Inhabited
def ret1 (σ : SS) (x : EM SW) : EM SR := EM.bind x fun w => EM.ret (.val (.w w) σ)
def retC (σ : SS) (x : EM SC) : EM SR := EM.bind x fun c => EM.ret (.val (.w (.c c)) σ)
def retV (x : EM (SV × SS)) : EM SR := EM.bind x fun p => EM.ret (.val p.1 p.2)
def opE (P : Program) (σ : SS) (op : Op) : EM SR :=
 match op with
 | .move x | .assign x => EM.bind (ofO (opS σ x)) fun v => EM.ret (.val v σ)
 | .pick c a b => EM.bind (ofO (opC σ c)) fun v => match v with
  | .a (.c (.v (.bool t))) => EM.bind (ofO (opS σ (if t then a else b))) fun v => EM.ret (.val v σ)
  | _ => fail
 | .alloc t => EM.bind (ofO (zeroCs P t)) fun cs => retV (boxS P σ t cs)
 | .box t x => EM.bind (ofO (opW σ x)) fun w => EM.bind (cellsT P t w) fun cs => retV (boxS P σ t cs)
 | .build t ps => EM.bind (ofO (zeroCs P t)) fun z => EM.bind (ofO (aPlaces P t)) fun _ => EM.bind (ofO (pairsS σ ps.toList)) fun l => EM.bind (fillS P t z l) fun cs => ret1 σ (collapse cs)
 | .buildSlice t n ps => EM.bind (ofO (pairsS σ ps.toList)) fun l => retV (buildSliceS P σ t n l)
 | .load t a => EM.bind (ofO (opC σ a)) fun p => ret1 σ (loadS P σ t p)
 | .store t a x => EM.bind (ofO (opC σ a)) fun p => EM.bind (ofO (opW σ x)) fun w => EM.bind (storeS P σ t p w) fun σ' => EM.ret (.val (.tup []) σ')
 | .nilCheck x => EM.bind (ofO (opC σ x)) fun c => match c with
  | .ptr b o => EM.ret (.val (.w (.c (.ptr b o))) σ)
  | .fn g f cs => EM.ret (.val (.w (.c (.fn g f cs))) σ)
  | _ => fail
 | .binOp op t x y _ => EM.bind (ofO (opW σ x)) fun a => EM.bind (ofO (opW σ y)) fun b => EM.bind (binS P σ op t a b) fun v => EM.ret (.val v σ)
 | .unOp op _ x => EM.bind (ofO (opC σ x)) fun c => EM.bind (cellA c) fun a => EM.bind (emit (.un op) [a]) fun r => EM.ret (.val (.w (.c (.a r))) σ)
 | .convert src dst x => EM.bind (ofO (opC σ x)) fun c => retV (convS P σ src dst c)
 | .makeFunc (.func g) a c => EM.bind (ofO (capsS σ a.toList)) fun f => EM.bind (ofO (capsS σ c.toList)) fun cs => EM.ret (.val (.w (.c (.fn g f cs))) σ)
 | .makeSlice t l c => EM.bind (ofO (opC σ l)) fun a => EM.bind (ofO (opC σ c)) fun b => retV (makeSliceS P σ t a b)
 | .slice t x lo hi none => EM.bind (ofO (opC σ x)) fun a => EM.bind (ofO (optS σ lo)) fun l => EM.bind (ofO (optS σ hi)) fun h => retC σ (sliceS P σ t a l h)
 | .slice t x lo (some hi) (some mx) => EM.bind (ofO (opC σ x)) fun a => EM.bind (ofO (optS σ lo)) fun l => EM.bind (ofO (opC σ hi)) fun h => EM.bind (ofO (opC σ mx)) fun m => retC σ (slice3S P t a l h m)
 | .fieldAddr t x i => EM.bind (ofO (opC σ x)) fun a => retC σ (fieldAddrS P t a i)
 | .field t x i => EM.bind (ofO (opW σ x)) fun a => ret1 σ (fieldS P t a i)
 | .indexAddr t x i => EM.bind (ofO (opC σ x)) fun a => EM.bind (ofO (opC σ i)) fun b => retC σ (indexAddrS P σ t a b)
 | .index t x i => EM.bind (ofO (opW σ x)) fun a => EM.bind (ofO (opC σ i)) fun b => ret1 σ (indexS P σ t a b)
 | .extract x i => EM.bind (ofO (opS σ x)) fun v => match v with
  | .tup ws => EM.bind (ofO ws[i]?) fun w => EM.ret (.val (.w w) σ)
  | _ => fail
 | .call c => EM.bind (ofO (opWs σ c.args.toList)) fun args => match c.callee with
  | .builtin b => retV (builtinS P σ b c.argTypes.toList args)
  | .value x => EM.bind (ofO (opC σ x)) fun f => match f with
   | .fn g a cs => EM.ret (.call g (a.map Cap.w ++ args ++ cs.map Cap.w))
   | .fv x => EM.ret (.callv x args)
   | _ => fail
  | _ => fail
 | _ => fail
end Go.Sym
namespace Go.Sym
open Go.Abu Go.Pev
structure Dcf where
 P : Program
 kn : FuncId → Bool
 X : FuncId → List PV → Option (PV × List (Option (List (List PV))))
 inl : FuncId → Bool
 ptrs : FuncId → Bool
 lent : FuncId → Option (Nat × List Slot)
 slots : FuncId → List (List Slot)
 bk : FuncId → List Bool
def Dcf.C (D : Dcf) : Cfg where
 P := D.P
 kn := D.kn
 X := D.X
 inl := D.inl
 ptrs := D.ptrs
 lent := fun g => (D.lent g).map fun p => (p.1, p.2.map (·.isSome))
 slots := D.slots
structure Tm where
 p : Nat
 tm : List (Nat × SV)
 bl : List (Nat × SB)
 nb : Nat
 le : List (Nat × Nat)
 ld : List (Nat × List Nat)
 nn : List Nat
 deriving Inhabited
def Tm.st (T : Tm) (σ : SS) : SS := { n := σ.n, tm := T.tm, bl := T.bl, nb := T.nb, fc := σ.fc, sz := σ.sz, le := T.le, ld := T.ld, nn := T.nn }
structure Mt where
 as : List (Nat × A)
 rn : List (Nat × Option Nat)
 deriving Inhabited
def cEq : PV → PV → Bool
 | .v (.int k a), .v (.int k' b) => decide (k = k') && decide (a = b)
 | .v (.bool a), .v (.bool b) => a == b
 | .sl [], .sl [] => true
 | .fn g [] [], .fn h [] [] => Nat.beq g h
 | _, _ => false
def A.eq : A → A → Bool
 | .x i, .x j => Nat.beq i j
 | .c p, .c q => cEq p q
 | _, _ => false
def mA (m : Nat) (s : Mt) (t a : A) : Option Mt :=
 match t with
 | .x i => match Nat.ble m i with
  | true => match look s.as i with
   | none => some ⟨(i, a) :: s.as, s.rn⟩
   | some b => match A.eq a b with
    | true => some s
    | false => none
  | false => match A.eq t a with
   | true => some s
   | false => none
 | .c _ => match A.eq t a with
  | true => some s
  | false => none
def oEq : Option Nat → Option Nat → Bool
 | none, none => true
 | some a, some b => Nat.beq a b
 | _, _ => false
def mB (s : Mt) (t : Nat) (b : Option Nat) : Option Mt :=
 match look s.rn t with
 | some c => match oEq b c with
  | true => some s
  | false => none
 | none => some ⟨s.as, (t, b) :: s.rn⟩
def mCap (m : Nat) (s : Mt) : Cap → Cap → Option Mt
 | .ptr t o, .ptr b o' => match Nat.beq o o' with
  | true => mB s t (some b)
  | false => none
 | .a t, .a a => mA m s t a
 | _, _ => none
def mCaps (m : Nat) (s : Mt) : List Cap → List Cap → Option Mt
 | [], [] => some s
 | t :: ts, c :: cs => match mCap m s t c with
  | some s => mCaps m s ts cs
  | none => none
 | _, _ => none
def mC (m : Nat) (s : Mt) (t c : SC) : EM Mt :=
 match t with
 | .a ta => EM.bind (cellA c) fun a => ofO (mA m s ta a)
 | .pc tx i => match c with
  | .pc x j => match Nat.beq i j && A.same tx x && (match tx with | .x k => Nat.ble (k + 1) m | _ => false) with
   | true => EM.ret s
   | false => fail
  | _ => fail
 | .nil => match c with
  | .nil => EM.ret s
  | _ => fail
 | .ptr t o => match c with
  | .ptr b o' => match Nat.beq o o' with
   | true => ofO (mB s t (some b))
   | false => fail
  | _ => fail
 | .ep t i o => match c with
  | .ep b j o' => match Nat.beq o o' with
   | true => match mB s t (some b) with
    | some s => ofO (mA m s i j)
    | none => fail
   | false => fail
  | _ => fail
 | .tp l i o => match c with
  | .tp k j o' => match Nat.beq o o' with
   | true => match mA m s l k with
    | some s => ofO (mA m s i j)
    | none => fail
   | false => fail
  | _ => fail
 | .lsl t o n => match c with
  | .lsl b o' n' => match mB s t (some b) with
   | some s => match mA m s o o' with
    | some s => ofO (mA m s n n')
    | none => fail
   | none => fail
  | .nil => match mB s t none with
   | some s => match mA m s o (.c (.i64 0)) with
    | some s => ofO (mA m s n (.c (.i64 0)))
    | none => fail
   | none => fail
  | _ => fail
 | .mp _ => fail
 | .yl t => match c with
  | .yl b => ofO (mB s t (some b))
  | _ => fail
 | .fv x => match c with
  | .fv y => ofO (mA m s x y)
  | _ => fail
 | .fn g f cs => match c with
  | .fn g' f' cs' => match Nat.beq g g' with
   | true => match mCaps m s f f' with
    | some s => ofO (mCaps m s cs cs')
    | none => fail
   | false => fail
  | _ => fail
def mCs (m : Nat) (s : Mt) : List SC → List SC → EM Mt
 | [], [] => EM.ret s
 | t :: ts, c :: cs => EM.bind (mC m s t c) fun s => mCs m s ts cs
 | _, _ => fail
def mW (m : Nat) (σ : SS) (s : Mt) (t w : SW) : EM Mt :=
 match t with
 | .av ta => match w with
  | .agg cs => EM.bind (deep0Ls σ cs.length cs) fun q => match q.2 with
   | [] => EM.bind (emit .agg q.1) fun a => ofO (mA m s ta a)
   | _ => fail
  | .av a => ofO (mA m s ta a)
  | _ => fail
 | .c t => match w with
  | .c c => mC m s t c
  | _ => fail
 | .agg ts => match w with
  | .agg cs => mCs m s ts cs
  | .av x => EM.bind (shaped ts.length x) fun y => mCs m s ts (pcs y 0 ts.length)
  | _ => fail
def mWs (m : Nat) (σ : SS) (s : Mt) : List SW → List SW → EM Mt
 | [], [] => EM.ret s
 | t :: ts, w :: ws => EM.bind (mW m σ s t w) fun s => mWs m σ s ts ws
 | _, _ => fail
def mV (m : Nat) (σ : SS) (s : Mt) (t v : SV) : EM Mt :=
 match t with
 | .w t => match v with
  | .w w => mW m σ s t w
  | _ => fail
 | .tup ts => match v with
  | .tup ws => mWs m σ s ts ws
  | _ => fail
def mTm (m : Nat) (σ : SS) (s : Mt) : List (Nat × SV) → EM Mt
 | [] => EM.ret s
 | (t, v) :: r => match look σ.tm t with
  | some u => EM.bind (mV m σ s v u) fun s => mTm m σ s r
  | none => fail
def bEq : Bool → Bool → Bool
 | true, true => true
 | false, false => true
 | _, _ => false
def mBl (m : Nat) (σ : SS) (s : Mt) : List (Nat × SB) → EM Mt
 | [] => EM.ret s
 | (t, tb) :: r => match look s.rn t with
  | some (some b) => match tb with
   | .box ts z fz => match look σ.bl b with
    | some (.box cs z' fz') => match Nat.beq z z' && bEq fz fz' with
     | true => EM.bind (mCs m s ts cs) fun s => mBl m σ s r
     | false => fail
    | _ => fail
   | .lst tl ty z fz => match look σ.bl b with
    | some (.lst l ty' z' fz') => match Nat.beq ty ty' && Nat.beq z z' && bEq fz fz' with
     | true => match mA m s tl l with
      | some s => mBl m σ s r
      | none => fail
     | false => fail
    | _ => fail
  | some none => match tb with
   | .lst tl _ _ false => match mA m s tl (.c (.sl [])) with
    | some s => mBl m σ s r
    | none => fail
   | _ => fail
  | none => fail
def mVals (s : Mt) (m : Nat) : Nat → Option (List A)
 | 0 => some []
 | n + 1 => match mVals s m n with
  | some l => match look s.as (m + n) with
   | some a => some (l ++ [a])
   | none => none
  | none => none
def mLe (s : Mt) (σ : SS) : List (Nat × Nat) → Bool
 | [] => true
 | (k, t) :: r => (match look s.rn t with
  | some (some b) => σ.le.any fun p => Nat.beq p.1 k && Nat.beq p.2 b
  | _ => false) && mLe s σ r
def mIn (s : Mt) (ts bs : List Nat) : Bool := bs.all fun b => ts.any fun t => match look s.rn t with
 | some (some c) => Nat.beq b c
 | _ => false
def mLd (s : Mt) (σ : SS) : List (Nat × List Nat) → Bool
 | [] => true
 | (k, ts) :: r => (σ.le.any (fun p => Nat.beq p.1 k && mIn s ts [p.2] && (look σ.bl p.2).isSome) || σ.ld.any (fun p => Nat.beq p.1 k && mIn s ts p.2)) && mLd s σ r
def namesOk (T : Tm) : Bool := T.bl.all fun p => Nat.ble (p.1 + 1) T.nb
def mNn (s : Mt) (σ : SS) (ts : List Nat) : Bool := ts.all fun t => match look s.rn t with
 | some (some b) => σ.nn.elem b
 | _ => false
def rnOk (T : Tm) (lo : Nat) (rn : List (Nat × Option Nat)) : Bool := Nat.ble lo T.nb && rn.all fun p => Nat.ble (p.1 + 1) T.nb && (Nat.ble lo p.1 || oEq p.2 (some p.1))
def rnInj : List (Nat × Option Nat) → Bool
 | [] => true
 | (_, none) :: r => rnInj r
 | (_, some b) :: r => !r.any (fun p => oEq p.2 (some b)) && rnInj r
def idRn (lo : Nat) (bl : List (Nat × SB)) : List (Nat × Option Nat) := bl.filterMap fun p => match Nat.ble (p.1 + 1) lo with | true => some (p.1, some p.1) | false => none
def matchT (m lo : Nat) (T : Tm) (σ : SS) : EM (List A) :=
 EM.bind (mTm m σ ⟨[], idRn lo T.bl⟩ T.tm) fun s => EM.bind (mBl m σ s T.bl) fun s => match mLe s σ T.le && mLd s σ T.ld && mNn s σ T.nn && namesOk T && rnOk T lo s.rn && rnInj s.rn && s.as.all (fun p => Nat.ble (p.1 + 1) (m + T.p)) with
  | true => ofO (mVals s m T.p)
  | false => fail
structure SLR where
 n : Nat
 tm : List (Nat × SV)
 ps : List Tmp
 assign : Code
 body : Code
 b : Nat
 nb : Nat
 pd : Option AExit
inductive SF where
 | seq (c : Code)
 | block (id : Nat)
 | J (j m : Nat) (T : Tm)
 | LJ (j m : Nat) (T : Tm) (b : Code)
 | inl (nb n : Nat) (tm : List (Nat × SV)) (dst : Option Tmp) (ops : Array Oper) (rest : List Oper) (res : List ResultVar)
 | rf (nb n : Nat) (tm : List (Nat × SV))
 | yl (nb n : Nat) (tm : List (Nat × SV)) (dst : Option Tmp) (ops : Array Oper) (rest : List Oper) (r : SLR)
 | asn (b : Code)
 | du (up : List SLR)
def loK : List SF → Nat
 | [] => 0
 | .inl nb .. :: _ => nb
 | .rf nb .. :: _ => nb
 | .yl nb .. :: _ => nb
 | _ :: κ => loK κ
inductive SPC where
 | R
 | N
 | T
 | L (b : Nat)
 | S (b : Nat)
 | Q
 | W (bs : List Nat)
 | X
 deriving Inhabited
inductive Tk where
 | code (c : Code)
 | pop (e : AExit)
 | ops (ops : Array Oper) (rest : List Oper)
 | dops (ops : Array Oper) (rest : List Oper) (cs : List (SPC × List Nat))
inductive Hint where
 | no
 | j (T : Tm)
 deriving Inhabited
def lets : List (RF × List A) → K → K
 | [], k => k
 | (f, as) :: r, k => .lt f as (lets r k)
def hasGuard (ops : Array Oper) : Bool := ops.toList.any fun o => o.guard.isSome
def fnInl (D : Dcf) : SW → Bool
 | .c (.fn h _ _) => D.inl h
 | _ => false
def inlS (D : Dcf) (g : FuncId) (args : List SW) : Bool := D.inl g || args.any (fnInl D)
def lendC (σ : SS) (sl : Slot) (c : SC) : EM (A × List Nat × List Nat) :=
 match sl with
 | some ty => match c with
  | .lsl b o n => match look σ.bl b with
   | some (.lst l t z false) => match isZero o && σ.nn.elem b && Nat.beq t ty.1 && Nat.beq z ty.2 with
    | true => EM.bind (emit .sub [l, o, n]) fun y => EM.ret (y, [b], [])
    | false => fail
   | _ => fail
  | _ => fail
 | none => EM.bind (deep0S σ c) fun q => EM.ret (q.1, [], q.2)
def lendCs (σ : SS) : List Slot → List SC → EM (List A × List Nat × List Nat)
 | _, [] => EM.ret ([], [], [])
 | ts, c :: cs => EM.bind (lendC σ (ts.headD none) c) fun p => EM.bind (lendCs σ ts.tail cs) fun q => EM.ret (p.1 :: q.1, p.2.1 ++ q.2.1, p.2.2 ++ q.2.2)
def lendW (σ : SS) (ts : List Slot) : SW → EM (A × List Nat × List Nat)
 | .agg cs => EM.bind (lendCs σ ts cs) fun p => EM.bind (emitN cs.length .agg p.1) fun y => EM.ret (y, p.2.1, p.2.2)
 | .c c => lendC σ (ts.headD none) c
 | .av _ => fail
def nodupS : List Nat → Bool
 | [] => true
 | b :: bs => !bs.elem b && nodupS bs
def argsS (D : Dcf) (σ : SS) (g : FuncId) (args : List SW) : EM (List A × List Nat × List Nat) :=
 match D.lent g with
 | none => EM.bind (deepsS σ args) fun q => EM.ret (q.1, q.2, [])
 | some (k, ts) => match args[k]? with
  | none => fail
  | some w => EM.bind (lendW σ ts w) fun p => EM.bind (deepsS σ (args.set k (.c .nil))) fun q =>
   match nodupS p.2.1 && p.2.1.all (fun b => !(p.2.2 ++ q.2).elem b) with
   | true => EM.ret (q.1.set k p.1, p.2.2 ++ q.2, p.2.1)
   | false => fail
def resN (D : Dcf) (g : FuncId) : Nat := (match D.P.funcs[g]? with | some fn => fn.resultTypes.size | none => 0) + ((D.bk g).filter id).length
def backS (σ : SS) : List Nat → List Bool → Nat → EM SS
 | [], _, _ => EM.ret σ
 | b :: bs, true :: fl, y => match look σ.bl b with
  | some (.lst l ty z false) => EM.bind (emit .same [.x y, l]) fun l' => backS { σ with bl := put σ.bl b (.lst l' ty z false) } bs fl (y + 1)
  | _ => fail
 | b :: bs, false :: fl, y => backS (σ.kill b) bs fl y
 | _ :: _, [], _ => fail
def isFn (P : Program) (t : TypeId) : Bool := match P.underlying t with
 | some (.func ..) => true
 | _ => false
def resC (σ : SS) (sl : Slot) (c : A) : EM (SC × SS) :=
 match sl with
 | some ty => EM.bind (emit .len [c]) fun n => EM.ret (.lsl σ.nb (.c (.i64 0)) n, σ.new (.lst c ty.1 ty.2 false))
 | none => EM.ret (.a c, σ)
def resCs (σ : SS) (y : A) : Nat → List Slot → EM (List SC × SS)
 | _, [] => EM.ret ([], σ)
 | i, some ty :: ts => EM.bind (emit (.cell i) [y]) fun c => EM.bind (emit .len [c]) fun n => EM.bind (resCs (σ.new (.lst c ty.1 ty.2 false)) y (i + 1) ts) fun p => EM.ret (.lsl σ.nb (.c (.i64 0)) n :: p.1, p.2)
 | i, none :: ts => EM.bind (resCs σ y (i + 1) ts) fun p => EM.ret (.pc y i :: p.1, p.2)
def resW (D : Dcf) (σ : SS) (t : TypeId) (ts : List Slot) (y : Nat) : EM (SW × SS) :=
 match isAggT D.P t with
 | some true => match ts.all (·.isNone) with
  | true => EM.ret (.av (.x y), σ)
  | false => EM.bind (shaped ts.length (.x y)) fun y' => EM.bind (resCs σ y' 0 ts) fun p => EM.ret (.agg p.1, p.2)
 | some false => match isFn D.P t with
  | true => fail
  | false => EM.bind (resC σ (ts.headD none) (.x y)) fun p => EM.ret (.c p.1, p.2)
 | none => fail
def resWs (D : Dcf) (σ : SS) : List TypeId → List (List Slot) → Nat → EM (List SW × SS)
 | [], _, _ => EM.ret ([], σ)
 | t :: tys, ts, y => EM.bind (resW D σ t (ts.headD []) y) fun p => EM.bind (resWs D p.2 tys ts.tail (y + 1)) fun q => EM.ret (p.1 :: q.1, q.2)
def packS : List SW → SV
 | [w] => .w w
 | ws => .tup ws
def afterS (D : Dcf) (σ : SS) (g : FuncId) (bs ls : List Nat) (y : Nat) : EM (SV × SS) :=
 match D.P.funcs[g]? with
 | some fn => match D.ptrs g || !ls.isEmpty with
  | true => EM.bind (backS (freezeS σ bs) ls (D.bk g) (y + fn.resultTypes.size)) fun σ => EM.bind (resWs D σ fn.resultTypes.toList (D.slots g) y) fun p => EM.ret (packS p.1, p.2)
  | false => match D.lent g with
   | none => EM.bind (resWs D σ fn.resultTypes.toList [] y) fun p => EM.ret (packS p.1, p.2)
   | some _ => fail
 | none => fail
def SS.setT (σ : SS) (dst : Option Tmp) (v : SV) : Option SS :=
 match dst with
 | none => some σ
 | some t => match Nat.ble (t + 1) σ.n with
  | true => some { σ with tm := put σ.tm t v }
  | false => none
def SS.wz (σ : SS) (z : Szs) : SS := { σ with sz := z }
def retC' (σ : SS) (sl : Slot) (c : SC) : EM (A × List Nat × List Nat) :=
 match sl with
 | some ty => match c with
  | .nil => EM.ret (.c (.sl []), [], [])
  | .lsl b o n => match look σ.bl b with
   | some (.lst l t z false) => match isZero o && Nat.beq t ty.1 && Nat.beq z ty.2 with
    | true => EM.bind (emit .sub [l, o, n]) fun y => EM.ret (y, [b], [])
    | false => fail
   | _ => fail
  | _ => fail
 | none => EM.bind (deep0S σ c) fun q => EM.ret (q.1, [], q.2)
def retCs (σ : SS) : List Slot → List SC → EM (List A × List Nat × List Nat)
 | _, [] => EM.ret ([], [], [])
 | ts, c :: cs => EM.bind (retC' σ (ts.headD none) c) fun p => EM.bind (retCs σ ts.tail cs) fun q => EM.ret (p.1 :: q.1, p.2.1 ++ q.2.1, p.2.2 ++ q.2.2)
def retW (σ : SS) (agg : Bool) (ts : List Slot) (w : SW) : EM (A × List Nat × List Nat) :=
 match agg with
 | true => match w with
  | .agg cs => match ts.all (·.isNone) with
   | true => EM.bind (deep0Ls σ cs.length cs) fun q => EM.bind (emitN cs.length .agg q.1) fun y => EM.ret (y, [], q.2)
   | false => EM.bind (retCs σ ts cs) fun p => EM.bind (emitN cs.length .agg p.1) fun y => EM.ret (y, p.2.1, p.2.2)
  | .av x => match ts.all (·.isNone) with
   | true => EM.ret (x, [], [])
   | false => fail
  | _ => fail
 | false => match w with
  | .c c => retC' σ (ts.headD none) c
  | _ => fail
def retWs (D : Dcf) (σ : SS) : List TypeId → List (List Slot) → List SW → EM (List A × List Nat × List Nat)
 | [], _, [] => EM.ret ([], [], [])
 | t :: tys, ts, w :: ws => match isAggT D.P t with
  | some ag => EM.bind (retW σ ag (ts.headD []) w) fun p => EM.bind (retWs D σ tys ts.tail ws) fun q => EM.ret (p.1 :: q.1, p.2.1 ++ q.2.1, p.2.2 ++ q.2.2)
  | none => fail
 | _, _, _ => fail
def readS (P : Program) (σ : SS) : List ResultVar → EM (List SW)
 | [] => EM.ret []
 | .tmp t :: rs => match look σ.tm t with
  | some v => match known σ v with
   | .w w => EM.bind (readS P σ rs) fun l => EM.ret (w :: l)
   | _ => fail
  | none => fail
 | .cell a t :: rs => match look σ.tm a with
  | some (.w (.c p)) => EM.bind (loadS P σ t p) fun w => EM.bind (readS P σ rs) fun l => EM.ret (w :: l)
  | _ => fail
def lastS (σ : SS) (own : List Nat) : List Bool → Nat → Option (List A)
 | [], _ => some []
 | true :: fl, k => match look σ.le k with
  | some b => match look σ.bl b with
   | some (.lst l _ _ false) => match own.elem b with
    | true => none
    | false => match lastS σ own fl (k + 1) with
     | some r => some (l :: r)
     | none => none
   | _ => none
  | none => none
 | false :: fl, k => match (match look σ.le k with
   | some b => own.elem b
   | none => match look σ.ld k with
    | some bs => bs.all fun b => own.elem b
    | none => false) with
  | true => lastS σ own fl (k + 1)
  | false => none
structure Fn where
 res : List ResultVar
 tys : List TypeId
 slots : List (List Slot)
 bk : List Bool
 flat : Bool
def flatS (b : Bool) : List A → EM (List A)
 | [] => EM.ret []
 | a :: as => EM.bind (emit (match b with | true => .flat | false => .tree) [a]) fun a => EM.bind (flatS b as) fun as => EM.ret (a :: as)
def endS (D : Dcf) (F : Fn) (σ : SS) : EM (List A) :=
 EM.bind (readS D.P σ F.res) fun ws => EM.bind (retWs D σ F.tys F.slots ws) fun p =>
  match nodupS p.2.1 && p.2.1.all (fun b => !p.2.2.elem b) with
  | true => match lastS (freezeS σ p.2.2) p.2.1 F.bk 0 with
   | some l => EM.bind (flatS F.flat p.1) fun as => EM.ret (as ++ l)
   | none => fail
  | false => fail
def lendB1 (sl : Slot) (c : SC) : List Nat :=
 match sl with
 | some _ => match c with
  | .lsl b _ _ => [b]
  | _ => []
 | none => []
def lendBL : List Slot → List SC → List Nat
 | _, [] => []
 | ts, c :: cs => lendB1 (ts.headD none) c ++ lendBL ts.tail cs
def lendBs (ts : List Slot) : SW → List Nat
 | .agg cs => lendBL ts cs
 | .c c => lendB1 (ts.headD none) c
 | .av _ => []
def clsCallS (D : Dcf) (σ : SS) (g : FuncId) (args : List SW) : SPC :=
 match inlS D g args with
 | true => .X
 | false => match D.lent g with
  | none => .Q
  | some (k, ts) => match args[k]? with
   | some w => .W (lendBs ts w)
   | none => .X
def clsS (D : Dcf) (σ : SS) (op : Op) : SPC :=
 match regOp op with
 | true => .R
 | false => match op with
  | .load _ a => match opC σ a with
   | some (.ptr b _) => .L b
   | some (.ep b _ _) => .L b
   | some (.tp ..) => .T
   | some (.a _) => .T
   | some (.pc ..) => .T
   | _ => .X
  | .slice t x _ _ _ => match D.P.underlying t with
   | some .string => .N
   | _ => match opC σ x with
    | some (.lsl b _ _) => .S b
    | some .nil => .T
    | some (.a _) => .T
    | some (.pc ..) => .T
    | _ => .X
  | .store _ a _ => match opC σ a with
   | some (.ptr b _) => .W [b]
   | some (.ep b _ _) => .W [b]
   | _ => .X
  | .call c => match c.callee with
   | .builtin .len => match c.argTypes.toList with
    | [t] => match D.P.underlying t with
     | some (.array ..) => .X
     | _ => .N
    | _ => .X
   | .builtin .append => match (c.args[0]?).bind (opC σ) with
    | some (.lsl b _ _) => .W [b]
    | some .nil => .Q
    | _ => .X
   | .builtin .max => .N
   | .builtin .min => .N
   | .value x => match opC σ x with
    | some (.fn g a e) => match opWs σ c.args.toList with
     | some args => clsCallS D σ g (a.map Cap.w ++ args ++ e.map Cap.w)
     | none => .X
    | some (.fv _) => .Q
    | _ => .X
   | _ => .X
  | .alloc _ | .box .. | .buildSlice .. | .convert .. | .makeMap .. | .makeSlice .. => .Q
  | _ => .X
def freeS (c : SPC) (i : Nat) (bs : List Nat) (t : List Nat) (j : Nat) : Bool :=
 match c with
 | .R => true
 | .N => true
 | .T => Nat.ble (i + 1) j
 | .L x => !bs.elem x && t.elem x
 | .S x => !bs.elem x && t.elem x && Nat.ble (i + 1) j
 | _ => false
def okS (B : Array Nat) (cs : List (SPC × List Nat)) : Bool :=
 let l := cs.zipIdx
 l.all fun (c, j) => match c.1 with
  | .W bs => bs.all (fun b => c.2.elem b) && l.all fun (c', i) => i == j || bfr B (min i j) (max i j) || freeS c'.1 i bs c.2 j
  | .X => false
  | _ => true
def SS.alive (σ : SS) : List Nat := σ.bl.map (·.1)
inductive Gd where
 | go (b : Bool)
 | ask (i : Nat)
def guardS (ops : Array Oper) (σ : SS) (o : Oper) : Option Gd :=
 match o.guard with
 | none => some (.go true)
 | some (j, want) => match (ops[j]?).bind (·.dst) with
  | none => none
  | some t => match look σ.tm t with
   | some v => match known σ v with
    | .w (.c (.a (.c (.v (.bool b))))) => some (.go (b == want))
    | .w (.c (.a (.x i))) => some (.ask i)
    | .tup _ => some (.go false)
    | _ => none
   | none => none
def initT : Nat → List SW → List (Nat × SV)
 | _, [] => []
 | i, w :: ws => (i, .w w) :: initT (i + 1) ws
def opK (D : Dcf) (σ : SS) (m : Nat) (o : Oper) (hs : List Hint) (inl : FuncId → Func → Code → List SW → Nat → Szs → Option (K × List Hint)) (go : SS → Nat → Option (K × List Hint)) : Option (K × List Hint) :=
 match opE D.P σ o.op m σ.sz with
 | none => some (.dead, hs)
 | some (.val v σ', l, z) => match (σ'.wz (z ++ σ.sz)).setT o.dst v with
  | some σ'' => match go σ'' (m + l.length) with
   | some (k, hs) => some (lets l k, hs)
   | none => none
  | none => none
 | some (.call g args, l, z) => match inlS D g args with
  | true => match D.kn g with
   | true => none
   | false => match D.P.funcs[g]? with
    | some fn => match fn.body with
     | some c => match decide (args.length ≤ fn.ntmps ∧ fn.ntmps ≤ 1024 ∧ (fn.name == "runtime.NumGoroutine") = false) with
      | true => match inl g fn c args (m + l.length) (z ++ σ.sz) with
       | some (k, hs) => some (lets l k, hs)
       | none => none
      | false => none
     | none => none
    | none => none
  | false => match argsS D σ g args (m + l.length) (z ++ σ.sz) with
   | none => none
   | some ((as, bs, ls), l2, z2) => match afterS D σ g bs ls (m + l.length + l2.length) (m + l.length + l2.length + resN D g) (z2 ++ (z ++ σ.sz)) with
    | none => none
    | some ((v, σ'), l3, z3) => match (σ'.wz (z3 ++ (z2 ++ (z ++ σ.sz)))).setT o.dst v with
     | some σ'' => match go σ'' (m + l.length + l2.length + resN D g + l3.length) with
      | some (k, hs) => some (lets l (lets l2 (.call g as (lets l3 k))), hs)
      | none => none
     | none => none
 | some (.callv x args, l, z) => match deepsS σ args (m + l.length) (z ++ σ.sz) with
  | none => none
  | some ((as, _), l2, z2) => match (σ.wz (z2 ++ (z ++ σ.sz))).setT o.dst (.w (.c (.a (.x (m + l.length + l2.length))))) with
   | some σ'' => match go σ'' (m + l.length + l2.length + 1) with
    | some (k, hs) => some (lets l (lets l2 (.callv x as k)), hs)
    | none => none
   | none => none
def upOk (up : List SLR) : Bool := up.all (·.pd.isNone)
def jumpK (j m' lo : Nat) (T : Tm) (σ : SS) (up : List SLR) (m : Nat) : Option K :=
 match upOk up with
 | true => match matchT m' lo T σ m σ.sz with
  | some (vs, l, _) => some (lets l (.jmp j vs))
  | none => none
 | false => none
def withJ (h : Hint) (m jc : Nat) (up : List SLR) (κ : List SF) (hs : List Hint) (body : List SF → Nat → List Hint → Option (K × List Hint)) (rest : Tm → List Hint → Option (K × List Hint)) : Option (K × List Hint) :=
 match h with
 | .no => body κ jc hs
 | .j T => match upOk up with
  | true => match body (.J jc m T :: κ) (jc + 1) hs with
   | some (k, hs) => match rest T hs with
    | some (d, hs) => some (.jp d k, hs)
    | none => none
   | none => none
  | false => none
def setF (σ : SS) (i : Nat) (b : Bool) : SS := { σ with fc := (i, b) :: σ.fc }
def both (i : Nat) (x : List Hint → Option (K × List Hint)) (y : List Hint → Option (K × List Hint)) (hs : List Hint) : Option (K × List Hint) :=
 match x hs with
 | some (k1, hs) => match y hs with
  | some (k2, hs) => some (.br (.x i) k1 k2, hs)
  | none => none
 | none => none
def yieldS (σ : SS) (op : Op) : Option (Nat × Option (List SW)) :=
 match op with
 | .call c => match c.callee with
  | .value x => match opC σ x with
   | some (.yl b) => some (b, opWs σ c.args.toList)
   | _ => none
  | _ => none
 | _ => none
def noYlS (σ : SS) (op : Op) : Bool :=
 match op with
 | .call c => match c.callee with
  | .value x => match opS σ x with
   | some (.w (.c (.yl _))) => false
   | some _ => true
   | none => false
  | _ => true
 | _ => true
def setTs (σ : SS) : List Tmp → List SW → Option SS
 | [], [] => some σ
 | t :: ts, w :: ws => match σ.setT (some t) (.w w) with
  | some σ' => setTs σ' ts ws
  | none => none
 | _, _ => none
def pdOf : AExit → Option AExit
 | .normal => none
 | e => some e
def isNormal : AExit → Bool
 | .normal => true
 | _ => false
def exitOf : Option AExit → AExit
 | none => .normal
 | some e => e
def boolS (b : Bool) : SV := .w (.c (.a (.c (.v (.bool b)))))
def SS.frame (σ : SS) (n : Nat) (tm : List (Nat × SV)) : SS := { σ with n := n, tm := tm }
def SS.bump (σ : SS) : SS := { σ with nb := σ.nb + 1 }
def sym (D : Dcf) (F : Fn) : Nat → Tk → SS → List SLR → Nat → List SF → Nat → List Hint → Option (K × List Hint)
 | 0, _, _, _, _, _, _, _ => none
 | n + 1, .code c, σ, up, m, κ, jc, hs =>
  match c with
  | .skip => sym D F n (.pop .normal) σ up m κ jc hs
  | .label _ => sym D F n (.pop .normal) σ up m κ jc hs
  | .exit id => sym D F n (.pop (.exit id)) σ up m κ jc hs
  | .ret => sym D F n (.pop .ret) σ up m κ jc hs
  | .scope b => sym D F n (.code b) σ up m κ jc hs
  | .seq a b => sym D F n (.code a) σ up m (.seq b :: κ) jc hs
  | .region _ ops draw => match draw with
   | false => match hasGuard ops with
    | false => sym D F n (.ops ops ops.toList) σ up m κ jc hs
    | true => match hs with
     | h :: hs => withJ h m jc up κ hs (fun κ jc hs => sym D F n (.ops ops ops.toList) σ up m κ jc hs) (fun T hs => sym D F n (.pop .normal) (T.st σ) up (m + T.p) κ jc hs)
     | [] => none
   | true => match staticOk ops (Region.before ops) with
    | false => none
    | true => match hasGuard ops with
     | false => sym D F n (.dops ops ops.toList []) σ [] m (.du up :: κ) jc hs
     | true => match hs with
      | h :: hs => withJ h m jc up κ hs (fun κ jc hs => sym D F n (.dops ops ops.toList []) σ [] m (.du up :: κ) jc hs) (fun T hs => sym D F n (.pop .normal) (T.st σ) up (m + T.p) κ jc hs)
      | [] => none
  | .cond x t e => match opC σ x with
   | some (.a (.c (.v (.bool b)))) => sym D F n (.code (if b then t else e)) σ up m κ jc hs
   | some (.a (.x i)) => match hs with
    | h :: hs => withJ h m jc up κ hs (fun κ jc hs => both i (fun hs => sym D F n (.code t) (setF σ i true) up m κ jc hs) (fun hs => sym D F n (.code e) (setF σ i false) up m κ jc hs) hs) (fun T hs => sym D F n (.pop .normal) (T.st σ) up (m + T.p) κ jc hs)
    | [] => none
   | _ => none
  | .block id b => match hs with
   | h :: hs => withJ h m jc up κ hs (fun κ jc hs => sym D F n (.code b) σ up m (.block id :: κ) jc hs) (fun T hs => sym D F n (.pop .normal) (T.st σ) up (m + T.p) κ jc hs)
   | [] => none
  | .loop b => match hs with
   | .j T :: hs => match jumpK jc m (loK κ) T σ up m with
    | some k => match sym D F n (.code b) (T.st σ) up (m + T.p) (.LJ jc m T b :: κ) (jc + 1) hs with
     | some (d, hs) => some (.loop d k, hs)
     | none => none
    | none => none
   | _ => none
  | .rangeFunc x ps assign body => match opC σ x with
   | some (.fn g f cs) => match D.kn g with
    | true => none
    | false => match D.P.funcs[g]? with
     | some fn => match fn.body with
      | some c => match decide (f.length + 1 + cs.length ≤ fn.ntmps ∧ fn.ntmps ≤ 1024 ∧ (fn.name == "runtime.NumGoroutine") = false ∧ fn.results.toList.isEmpty = true) with
       | true => sym D F n (.code c) (σ.bump.frame fn.ntmps (initT 0 (f.map Cap.w ++ [.c (.yl σ.nb)] ++ cs.map Cap.w))) (⟨σ.n, σ.tm, ps.toList, assign, body, σ.nb, σ.nb + 1, none⟩ :: up) m (.rf (σ.nb + 1) σ.n σ.tm :: κ) jc hs
       | false => none
      | none => none
     | none => none
   | _ => none
  | _ => none
 | n + 1, .pop e, σ, up, m, κ, jc, hs =>
  match κ with
  | [] => match e with
   | .exit _ => none
   | _ => match endS D F σ m σ.sz with
    | some (vs, l, _) => some (lets l (.ret vs), hs)
    | none => none
  | .seq c :: κ => match e with
   | .normal => sym D F n (.code c) σ up m κ jc hs
   | e => sym D F n (.pop e) σ up m κ jc hs
  | .block id :: κ => match e with
   | .exit id' => match Nat.beq id' id with
    | true => sym D F n (.pop .normal) σ up m κ jc hs
    | false => sym D F n (.pop (.exit id')) σ up m κ jc hs
   | e => sym D F n (.pop e) σ up m κ jc hs
  | .J j m' T :: κ => match e with
   | .normal => match jumpK j m' (loK κ) T σ up m with
    | some k => some (k, hs)
    | none => none
   | e => sym D F n (.pop e) σ up m κ jc hs
  | .LJ j m' T _ :: κ => match e with
   | .normal => match jumpK j m' (loK κ) T σ up m with
    | some k => some (k, hs)
    | none => none
   | e => sym D F n (.pop e) σ up m κ jc hs
  | .inl _ n' tm dst ops rest res :: κ => match e with
   | .exit _ => none
   | _ => match readS D.P σ res m σ.sz with
    | some (ws, l, z) => match ({ σ with n := n', tm := tm, sz := z ++ σ.sz } : SS).setT dst (packS ws) with
     | some σ' => match sym D F n (.ops ops rest) σ' up (m + l.length) κ jc hs with
      | some (k, hs) => some (lets l k, hs)
      | none => none
     | none => none
    | none => none
  | .rf _ n' tm :: κ => match e with
   | .exit _ => none
   | _ => match up with
    | r :: up => sym D F n (.pop (exitOf r.pd)) (σ.frame n' tm) up m κ jc hs
    | [] => none
  | .yl _ n' tm dst ops rest r :: κ => match (σ.frame n' tm).setT dst (boolS (isNormal e)) with
   | some σ' => sym D F n (.ops ops rest) σ' ({ r with pd := pdOf e } :: up) m κ jc hs
   | none => none
  | .asn b :: κ => match e with
   | .normal => sym D F n (.code b) σ up m κ jc hs
   | _ => none
  | .du up :: κ => match e with
   | .normal => sym D F n (.pop .normal) σ up m κ jc hs
   | _ => none
 | n + 1, .ops ops rest, σ, up, m, κ, jc, hs =>
  match rest with
  | [] => sym D F n (.pop .normal) σ up m κ jc hs
  | o :: os => match yieldS σ o.op with
   | some (b, ws) => match o.guard with
    | some _ => none
    | none => match ws with
     | none => none
     | some ws => match up with
      | [] => none
      | r :: up => match r.pd with
       | some _ => none
       | none => match Nat.beq r.b b with
        | false => none
        | true => match setTs (σ.frame r.n r.tm) r.ps ws with
         | some σ' => sym D F n (.code r.assign) σ' up m (.asn r.body :: .yl σ.nb σ.n σ.tm o.dst ops os r :: κ) jc hs
         | none => none
   | none => match guardS ops σ o with
    | none => none
    | some (.ask i) => both i (fun hs => sym D F n (.ops ops (o :: os)) (setF σ i true) up m κ jc hs) (fun hs => sym D F n (.ops ops (o :: os)) (setF σ i false) up m κ jc hs) hs
    | some (.go b) => match o.guard.isNone || noYlS σ o.op with
     | false => none
     | true => match b with
      | false => match σ.setT o.dst (.tup []) with
       | some σ' => sym D F n (.ops ops os) σ' up m κ jc hs
       | none => none
      | true => opK D σ m o hs
       (fun _ fn c args m' z => sym D F n (.code c) { σ with n := fn.ntmps, tm := initT 0 args, sz := z } up m' (.inl σ.nb σ.n σ.tm o.dst ops os fn.results.toList :: κ) jc hs)
       (fun σ' m' => sym D F n (.ops ops os) σ' up m' κ jc hs)
 | n + 1, .dops ops rest cs, σ, up, m, κ, jc, hs =>
  match rest with
  | [] => match okS (Region.before ops) cs with
   | true => sym D F n (.pop .normal) σ up m κ jc hs
   | false => none
  | o :: os => match guardS ops σ o with
   | none => none
   | some (.go false) => match σ.setT o.dst (.tup []) with
    | some σ' => sym D F n (.dops ops os (cs ++ [(.R, σ.alive)])) σ' up m κ jc hs
    | none => none
   | some (.ask i) => both i (fun hs => sym D F n (.dops ops (o :: os) cs) (setF σ i true) up m κ jc hs) (fun hs => sym D F n (.dops ops (o :: os) cs) (setF σ i false) up m κ jc hs) hs
   | some (.go true) => match clsS D σ o.op with
    | .X => none
    | c => opK D σ m o hs (fun _ _ _ _ _ _ => none) (fun σ' m' => sym D F n (.dops ops os (cs ++ [(c, σ.alive)])) σ' up m' κ jc hs)
def entryCs (y : A) (σ : SS) : Nat → List Slot → EM (List SC × SS)
 | _, [] => EM.ret ([], σ)
 | i, some ty :: ts => EM.bind (emit (.cell i) [y]) fun c => EM.bind (emit .len [c]) fun n => EM.bind (entryCs y { σ.new (.lst c ty.1 ty.2 false) with le := (σ.nb, σ.nb) :: σ.le } (i + 1) ts) fun p => EM.ret (.lsl σ.nb (.c (.i64 0)) n :: p.1, p.2)
 | i, none :: ts => EM.bind (entryCs y σ (i + 1) ts) fun p => EM.ret (.pc y i :: p.1, p.2)
def entryW (P : Program) (σ : SS) (t : TypeId) (ts : List Slot) (x : Nat) : EM (SW × SS) :=
 match isAggT P t with
 | some true => EM.bind (shaped ts.length (.x x)) fun y => EM.bind (entryCs y σ 0 ts) fun p => EM.ret (.agg p.1, p.2)
 | some false => match ts with
  | [some ty] => EM.bind (emit .len [.x x]) fun n => EM.ret (.c (.lsl σ.nb (.c (.i64 0)) n), { σ.new (.lst (.x x) ty.1 ty.2 false) with le := (σ.nb, σ.nb) :: σ.le })
  | _ => fail
 | none => fail
def parW (P : Program) (t : TypeId) (i : Nat) : SW := match isAggT P t with
 | some true => .av (.x i)
 | _ => .c (if isFn P t then .fv (.x i) else .a (.x i))
def entryWs (D : Dcf) (σ : SS) (l : Option (Nat × List Slot)) : List TypeId → Nat → EM (List SW × SS)
 | [], _ => EM.ret ([], σ)
 | t :: tys, i => match (match l with | some (k, ts) => if k = i then some ts else none | none => none) with
  | some ts => EM.bind (entryW D.P σ t ts i) fun p => EM.bind (entryWs D p.2 l tys (i + 1)) fun q => EM.ret (p.1 :: q.1, q.2)
  | none => EM.bind (entryWs D σ l tys (i + 1)) fun q => EM.ret (parW D.P t i :: q.1, q.2)
def fnS (D : Dcf) (g : FuncId) (fn : Func) : Fn := ⟨fn.results.toList, fn.resultTypes.toList, D.slots g, D.bk g, !D.ptrs g && (D.lent g).isNone⟩
def paramN (fn : Func) : Nat := fn.params.size + fn.nfree
def parTys (P : Program) (fn : Func) : List TypeId := fn.params.toList ++ List.replicate fn.nfree (fn.params.toList.length + P.types.size + 1000000)
def SS.first (n : Nat) : SS := ⟨n, [], [], 0, [], [], [], [], []⟩
def symF (D : Dcf) (fuel : Nat) (g : FuncId) (hs : List Hint) : Option K :=
 match D.kn g || D.inl g with
 | true => none
 | false => match D.P.funcs[g]? with
  | some fn => match fn.body with
   | some c => match decide (paramN fn ≤ fn.ntmps ∧ fn.ntmps ≤ 1024 ∧ (fn.name == "runtime.NumGoroutine") = false ∧ fn.resultTypes.size = (D.slots g).length) with
    | true => match entryWs D (SS.first fn.ntmps) (D.lent g) (parTys D.P fn) 0 (paramN fn) [] with
     | some ((ws, σ), l, z) => match Nat.beq σ.nb (D.bk g).length with
      | true => match sym D (fnS D g fn) fuel (.code c) { σ with tm := initT 0 ws, sz := z } [] (paramN fn + l.length) [] 0 hs with
       | some (k, _) => some (lets l k)
       | none => none
      | false => none
     | none => none
    | false => none
   | none => none
  | none => none
end Go.Sym
namespace Go.Pev
open Go.Abu
def CapT (c : List Value) (n cap : Nat) : Prop := (cap = capU ∧ c.length < capU) ∨ (n ≤ cap ∧ cap < capU)
def CapL (c : List Value) (off n cap z : Nat) : Prop := (cap = capU ∧ c.length < capU) ∨ (n ≤ cap ∧ cap < capU ∧ off + cap * z ≤ c.length)
mutual
inductive RT (H : AH) (F : Nat → Prop) : Value → PV → Prop
 | v {x : Value} (h : plain1 x = true) : RT H F x (.v x)
 | nilN : RT H F (.slice none 0 0) .nil
 | nilZ {b o : Nat} : RT H F (.slice (some ⟨b, o, none⟩) 0 0) .nil
 | slN : RT H F (.slice none 0 0) (.sl [])
 | slZ {b o : Nat} : RT H F (.slice (some ⟨b, o, none⟩) 0 0) (.sl [])
 | sl {b o n cap : Nat} {c : List Value} {t : TypeId} {z : Nat} {els : List (List PV)} (hF : F b) (hg : H.get b = some (.row c t z)) (hz : 0 < z) (hn : els.length = n) (hc : CapT c n cap)
   (he : REs H F z (c.drop o) els) : RT H F (.slice (some ⟨b, o, none⟩) n cap) (.sl els)
 | slp {b o x i k : Nat} {c : List Value} {t : TypeId} {z : Nat} {els : List (List PV)} (hF : F b) (hg : H.get b = some (.row c t z)) (hx : x = o + i * z + k)
   (he : REs H F z (c.drop o) els) : RT H F (.pointer (some ⟨b, x, none⟩)) (.slp els i k)
 | fn {g : FuncId} {f1 c1 : Array Value} {fs cs : List PV} (h1 : RTs H F f1.toList fs) (h2 : RTs H F c1.toList cs) : RT H F (.func (.func g) f1 c1) (.fn g fs cs)
inductive RTs (H : AH) (F : Nat → Prop) : List Value → List PV → Prop
 | nil : RTs H F [] []
 | cons {x : Value} {p : PV} {xs : List Value} {ps : List PV} (h : RT H F x p) (t : RTs H F xs ps) : RTs H F (x :: xs) (p :: ps)
inductive REs (H : AH) (F : Nat → Prop) : Nat → List Value → List (List PV) → Prop
 | nil {z : Nat} {c : List Value} : REs H F z c []
 | cons {z : Nat} {vs rest : List Value} {cs : List PV} {els : List (List PV)} (h : RTs H F vs cs) (hl : cs.length = z) (t : REs H F z rest els) : REs H F z (vs ++ rest) (cs :: els)
end
structure Keep (H : AH) (F : Nat → Prop) (H' : AH) (F' : Nat → Prop) : Prop where
 sub : ∀ b, F b → F' b
 get : ∀ b, F b → H'.get b = H.get b
mutual
theorem RT.mono {H H' : AH} {F F' : Nat → Prop} (k : Keep H F H' F') : ∀ {x : Value} {p : PV}, RT H F x p → RT H' F' x p
 | _, _, .v h => .v h
 | _, _, .nilN => .nilN
 | _, _, .nilZ => .nilZ
 | _, _, .slN => .slN
 | _, _, .slZ => .slZ
 | _, _, .sl hF hg hz hn hc he => .sl (k.sub _ hF) ((k.get _ hF).trans hg) hz hn hc (REs.mono k he)
 | _, _, .slp hF hg hx he => .slp (k.sub _ hF) ((k.get _ hF).trans hg) hx (REs.mono k he)
 | _, _, .fn h1 h2 => .fn (RTs.mono k h1) (RTs.mono k h2)
theorem RTs.mono {H H' : AH} {F F' : Nat → Prop} (k : Keep H F H' F') : ∀ {xs : List Value} {ps : List PV}, RTs H F xs ps → RTs H' F' xs ps
 | _, _, .nil => .nil
 | _, _, .cons h t => .cons (RT.mono k h) (RTs.mono k t)
theorem REs.mono {H H' : AH} {F F' : Nat → Prop} (k : Keep H F H' F') : ∀ {z : Nat} {c : List Value} {els : List (List PV)}, REs H F z c els → REs H' F' z c els
 | _, _, _, .nil => .nil
 | _, _, _, .cons h hl t => .cons (RTs.mono k h) hl (REs.mono k t)
end
theorem RTs.length {H : AH} {F : Nat → Prop} : ∀ {xs : List Value} {ps : List PV}, RTs H F xs ps → xs.length = ps.length
 | _, _, .nil => rfl
 | _, _, .cons _ t => by simp [t.length]
theorem RTs.get {H : AH} {F : Nat → Prop} : ∀ {xs : List Value} {ps : List PV}, RTs H F xs ps → ∀ (i : Nat) (p : PV), ps[i]? = some p → ∃ x, xs[i]? = some x ∧ RT H F x p
 | _, _, .nil, i, p, h => by simp at h
 | _, _, .cons hv t, i, p, h => by
  cases i with
  | zero => simp at h; subst h; exact ⟨_, by simp, hv⟩
  | succ i => simp at h; obtain ⟨v, h1, h2⟩ := t.get i p h; exact ⟨v, by simpa using h1, h2⟩
theorem RTs.append {H : AH} {F : Nat → Prop} {xs ys : List Value} {ps qs : List PV} (h : RTs H F xs ps) (k : RTs H F ys qs) : RTs H F (xs ++ ys) (ps ++ qs) := by
 cases h with
 | nil => exact k
 | cons hv t => exact .cons hv (RTs.append t k)
theorem RTs.take {H : AH} {F : Nat → Prop} : ∀ {xs : List Value} {ps : List PV} (n : Nat), RTs H F xs ps → RTs H F (xs.take n) (ps.take n)
 | _, _, 0, _ => by simpa using .nil
 | _, _, _ + 1, .nil => by simpa using .nil
 | _, _, n + 1, .cons h t => by simpa using .cons h (t.take n)
theorem RTs.drop {H : AH} {F : Nat → Prop} : ∀ {xs : List Value} {ps : List PV} (n : Nat), RTs H F xs ps → RTs H F (xs.drop n) (ps.drop n)
 | _, _, 0, h => by simpa using h
 | _, _, _ + 1, .nil => by simpa using .nil
 | _, _, n + 1, .cons h t => by simpa using t.drop n
namespace REs
variable {H : AH} {F : Nat → Prop}
theorem len : ∀ {z : Nat} {c : List Value} {els : List (List PV)}, REs H F z c els → els.length * z ≤ c.length
 | _, _, _, .nil => by simp
 | z, _, _, .cons (els := els) h hl t => by
  have h1 := h.length;have h2 := t.len;simp only [List.length_cons, List.length_append, Nat.add_mul, Nat.one_mul];omega
theorem get : ∀ {z : Nat} {c : List Value} {els : List (List PV)}, REs H F z c els → ∀ (i : Nat) (cs : List PV), els[i]? = some cs → cs.length = z ∧ RTs H F ((c.drop (i * z)).take z) cs
 | _, _, _, .nil, i, cs, h => by simp at h
 | z, _, _, .cons (vs := vs) (rest := rest) h hl t, i, cs, hi => by
  have h1 := h.length;cases i with
  | zero =>
   simp at hi; subst hi;refine ⟨hl, ?_⟩;rw [Nat.zero_mul, List.drop_zero, List.take_append_of_le_length (by omega), List.take_of_length_le (by omega)];exact h
  | succ i =>
   simp only [List.getElem?_cons_succ] at hi;obtain ⟨e1, e2⟩ := t.get i cs hi;refine ⟨e1, ?_⟩;have : (vs ++ rest).drop ((i + 1) * z) = rest.drop (i * z) := by
    rw [List.drop_append, List.drop_of_length_le (by rw [Nat.add_mul, Nat.one_mul]; omega), List.nil_append]
    congr 1
    rw [Nat.add_mul, Nat.one_mul]; omega
   rw [this];exact e2
theorem drop : ∀ {z : Nat} {c : List Value} {els : List (List PV)}, REs H F z c els → ∀ (n : Nat), n ≤ els.length → REs H F z (c.drop (n * z)) (els.drop n)
 | _, _, _, h, 0, _ => by simpa using h
 | _, _, _, .nil, n + 1, hn => by simp at hn
 | z, _, _, .cons (vs := vs) (rest := rest) h hl t, n + 1, hn => by
  have h1 := h.length;have := t.drop n (by simpa using hn)
  rw [List.drop_succ_cons];have e : (vs ++ rest).drop ((n + 1) * z) = rest.drop (n * z) := by
   rw [List.drop_append, List.drop_of_length_le (by rw [Nat.add_mul, Nat.one_mul]; omega), List.nil_append]
   congr 1
   rw [Nat.add_mul, Nat.one_mul]; omega
  rw [e];exact this
theorem take : ∀ {z : Nat} {c : List Value} {els : List (List PV)}, REs H F z c els → ∀ (n : Nat), REs H F z c (els.take n)
 | _, _, _, _, 0 => by simpa using .nil
 | _, _, _, .nil, n + 1 => by simpa using .nil
 | _, _, _, .cons h hl t, n + 1 => by simpa using .cons h hl (t.take n)
theorem more : ∀ {z : Nat} {c : List Value} {els : List (List PV)}, REs H F z c els → ∀ (d : List Value), REs H F z (c ++ d) els
 | _, _, _, .nil, _ => .nil
 | _, _, _, .cons h hl t, d => by rw [List.append_assoc]; exact .cons h hl (t.more d)
theorem append : ∀ {z : Nat} {c : List Value} {els : List (List PV)}, REs H F z c els → ∀ {d : List Value} {els' : List (List PV)}, REs H F z d els' → REs H F z (c.take (els.length * z) ++ d) (els ++ els')
 | _, _, _, .nil, d, els', k => by simpa using k
 | z, _, _, .cons (vs := vs) (rest := rest) (els := els) h hl t, d, els', k => by
  have h1 := h.length;have e : (vs ++ rest).take ((els.length + 1) * z) = vs ++ rest.take (els.length * z) := by
   rw [List.take_append, List.take_of_length_le (by rw [Nat.add_mul, Nat.one_mul]; omega)]
   congr 2
   rw [Nat.add_mul, Nat.one_mul]; omega
  rw [List.length_cons, e, List.append_assoc];exact .cons h hl (t.append k)
theorem cut : ∀ {z : Nat} {c : List Value} {els : List (List PV)}, REs H F z c els → ∀ {d : List Value}, d.take (els.length * z) = c.take (els.length * z) → REs H F z d els
 | _, _, _, .nil, _, _ => .nil
 | z, _, _, .cons (vs := vs) (rest := rest) (els := els) h hl t, d, k => by
  have h1 := h.length;have hl' := t.len;have e : (vs ++ rest).take ((els.length + 1) * z) = vs ++ rest.take (els.length * z) := by
   rw [List.take_append, List.take_of_length_le (by rw [Nat.add_mul, Nat.one_mul]; omega)]
   congr 2
   rw [Nat.add_mul, Nat.one_mul]; omega
  rw [List.length_cons, e] at k;have hd : d = vs ++ d.drop z := by
   have := congrArg (List.take z) k;rw [List.take_take, Nat.min_eq_left (by rw [Nat.add_mul, Nat.one_mul]; omega), List.take_append_of_le_length (by omega), List.take_of_length_le (l := vs) (by omega)] at this;rw [← this, List.take_append_drop]
  rw [hd];refine .cons h hl (t.cut ?_);have := congrArg (List.drop z) k;rw [List.drop_take, List.drop_append, List.drop_of_length_le (l := vs) (by omega), List.nil_append] at this;have e1 : (els.length + 1) * z - z = els.length * z := by rw [Nat.add_mul, Nat.one_mul]; omega
  have e2 : z - vs.length = 0 := by omega
  rw [e1, e2, List.drop_zero] at this;exact this
theorem set : ∀ {z : Nat} {c : List Value} {els : List (List PV)}, REs H F z c els → ∀ (i : Nat) (cs : List PV) (vs : List Value), i < els.length → cs.length = z → RTs H F vs cs →
  REs H F z (c.take (i * z) ++ vs ++ c.drop (i * z + z)) (els.set i cs)
 | _, _, _, .nil, i, cs, vs, hi, _, _ => by simp at hi
 | z, _, _, .cons (vs := us) (rest := rest) (els := els) h hl t, i, cs, vs, hi, hc, hv => by
  have h1 := h.length;cases i with
  | zero =>
   rw [Nat.zero_mul, List.take_zero, List.nil_append, Nat.zero_add, List.set_cons_zero];have : (us ++ rest).drop z = rest := by rw [List.drop_append, List.drop_of_length_le (by omega), List.nil_append]; rw [show z - us.length = 0 by omega, List.drop_zero]
   rw [this];exact .cons hv hc t
  | succ i =>
   rw [List.set_cons_succ];have e1 : (us ++ rest).take ((i + 1) * z) = us ++ rest.take (i * z) := by
    rw [List.take_append, List.take_of_length_le (by rw [Nat.add_mul, Nat.one_mul]; omega)]
    congr 2
    rw [Nat.add_mul, Nat.one_mul]; omega
   have e2 : (us ++ rest).drop ((i + 1) * z + z) = rest.drop (i * z + z) := by
    rw [List.drop_append, List.drop_of_length_le (by rw [Nat.add_mul, Nat.one_mul]; omega), List.nil_append]
    congr 1
    rw [Nat.add_mul, Nat.one_mul]; omega
   rw [e1, e2, List.append_assoc, List.append_assoc, ← List.append_assoc (rest.take _)];exact .cons h hl (t.set i cs vs (by simpa using hi) hc hv)
end REs
end Go.Pev
namespace Go.Pev
open Go.Abu
mutual
inductive RV (ρ : Nat → Option Nat) (S : St) (H : AH) (F : Nat → Prop) : Value → PV → Prop
 | tree {x : Value} {p : PV} (h : RT H F x p) : RV ρ S H F x p
 | lsl {b o n B x cap : Nat} {c : List Value} {t : TypeId} {z : Nat} (hρ : ρ b = some B) (hg : H.get B = some (.row c t z)) (hx : x = o * z) (hc : CapL c x n cap z) : RV ρ S H F (.slice (some ⟨B, x, none⟩) n cap) (.lsl b o n)
 | lslN {b o : Nat} : RV ρ S H F (.slice none 0 0) (.lsl b o 0)
 | lslZ {b o B x : Nat} : RV ρ S H F (.slice (some ⟨B, x, none⟩) 0 0) (.lsl b o 0)
 | gone {b o n B x cap : Nat} (h : S.get b = none) (hb : b < S.next) : RV ρ S H F (.slice (some ⟨B, x, none⟩) n cap) (.lsl b o n)
 | ptr {b i o B x : Nat} {c : List Value} {t : TypeId} {z : Nat} (hρ : ρ b = some B) (hg : H.get B = some (.row c t z)) (hx : x = i * z + o) : RV ρ S H F (.pointer (some ⟨B, x, none⟩)) (.ptr b i o)
 | goneP {b i o : Nat} {B x : Nat} (h : S.get b = none) (hb : b < S.next) : RV ρ S H F (.pointer (some ⟨B, x, none⟩)) (.ptr b i o)
 | mp {b B : Nat} (hρ : ρ b = some B) : RV ρ S H F (.map (some B)) (.mp b)
 | fn {g : FuncId} {f1 c1 : Array Value} {fs cs : List PV} (h1 : RVs ρ S H F f1.toList fs) (h2 : RVs ρ S H F c1.toList cs) : RV ρ S H F (.func (.func g) f1 c1) (.fn g fs cs)
 | yl {b B : Nat} (hρ : ρ b = some B) : RV ρ S H F (.func (.yield B) #[] #[]) (.yl b)
 | agg {a : Array Value} {cs : List PV} (h : RVs ρ S H F a.toList cs) : RV ρ S H F (.agg a) (.agg cs)
 | tup {a : Array Value} {cs : List PV} (h : RVs ρ S H F a.toList cs) : RV ρ S H F (.tuple a) (.tup cs)
inductive RVs (ρ : Nat → Option Nat) (S : St) (H : AH) (F : Nat → Prop) : List Value → List PV → Prop
 | nil : RVs ρ S H F [] []
 | cons {x : Value} {p : PV} {xs : List Value} {ps : List PV} (h : RV ρ S H F x p) (t : RVs ρ S H F xs ps) : RVs ρ S H F (x :: xs) (p :: ps)
end
def Own (ρ : Nat → Option Nat) (S : St) (B : Nat) : Prop := (∃ b e, S.get b = some e ∧ e.fz = false ∧ ρ b = some B) ∨ (∃ b es, S.getM b = some es ∧ ρ b = some B)
structure Out (ρ : Nat → Option Nat) (S : St) (H : AH) (F : Nat → Prop) (ρ' : Nat → Option Nat) (S' : St) (H' : AH) (F' : Nat → Prop) : Prop where
 ext : ∀ b B, ρ b = some B → ρ' b = some B
 sn : S.next ≤ S'.next
 hn : H.next ≤ H'.next
 gone : ∀ b, b < S.next → S.get b = none → S'.get b = none
 same : ∀ b e', b < S.next → S'.get b = some e' → ∃ e, S.get b = some e ∧ e'.box = e.box ∧ e'.ty = e.ty ∧ e'.z = e.z ∧ (e.fz = true → e'.fz = true)
 rows : ∀ b e' B c t z, b < S.next → S'.get b = some e' → ρ b = some B → H.get B = some (.row c t z) → ∃ c', H'.get B = some (.row c' t z) ∧ c'.length = c.length
 keep : Keep H F H' F'
 newF : ∀ B, F' B → F B ∨ H.next ≤ B ∨ Own ρ S B
 own : ∀ B, B < H.next → Own ρ' S' B → Own ρ S B
 frame : ∀ B, B < H.next → ¬ Own ρ S B → H'.get B = H.get B
 old : ∀ b, b < S.next → ρ' b = ρ b
 mo : ∀ b, b < S.next → S.getM b = none → S'.getM b = none
structure Stp (ρ : Nat → Option Nat) (S : St) (H : AH) (F : Nat → Prop) (ρ' : Nat → Option Nat) (S' : St) (H' : AH) (F' : Nat → Prop) : Prop where
 ext : ∀ b B, ρ b = some B → ρ' b = some B
 sn : S.next ≤ S'.next
 gone : ∀ b, b < S.next → S.get b = none → S'.get b = none
 rows : ∀ b e' B c t z, b < S.next → S'.get b = some e' → ρ b = some B → H.get B = some (.row c t z) → ∃ c', H'.get B = some (.row c' t z) ∧ c'.length = c.length
 keep : Keep H F H' F'
theorem Out.stp {ρ ρ' : Nat → Option Nat} {S S' : St} {H H' : AH} {F F' : Nat → Prop} (k : Out ρ S H F ρ' S' H' F') : Stp ρ S H F ρ' S' H' F' := ⟨k.ext, k.sn, k.gone, k.rows, k.keep⟩
mutual
theorem RV.step {ρ ρ' : Nat → Option Nat} {S S' : St} {H H' : AH} {F F' : Nat → Prop} (k : Stp ρ S H F ρ' S' H' F') (hd : ∀ b B, ρ b = some B → b < S.next) :
  ∀ {x : Value} {p : PV}, RV ρ S H F x p → RV ρ' S' H' F' x p
 | _, _, .tree h => .tree (h.mono k.keep)
 | _, _, .lsl (b := b) (B := B) (c := c) (t := t) (z := z) hρ hg hx hc => by
  have hb := hd b B hρ;cases h : S'.get b with
  | none => exact .gone h (Nat.lt_of_lt_of_le hb k.sn)
  | some e' =>
   obtain ⟨c', h1, h2⟩ := k.rows b e' B c t z hb h hρ hg;exact .lsl (k.ext _ _ hρ) h1 hx (by unfold CapL at hc ⊢; rw [h2]; exact hc)
 | _, _, .lslN => .lslN
 | _, _, .lslZ => .lslZ
 | _, _, .gone h hb => .gone (k.gone _ hb h) (Nat.lt_of_lt_of_le hb k.sn)
 | _, _, .ptr (b := b) (B := B) (c := c) (t := t) (z := z) hρ hg hx => by
  have hb := hd b B hρ;cases h : S'.get b with
  | none => exact .goneP h (Nat.lt_of_lt_of_le hb k.sn)
  | some e' =>
   obtain ⟨c', h1, h2⟩ := k.rows b e' B c t z hb h hρ hg;exact .ptr (k.ext _ _ hρ) h1 hx
 | _, _, .goneP h hb => .goneP (k.gone _ hb h) (Nat.lt_of_lt_of_le hb k.sn)
 | _, _, .mp hρ => .mp (k.ext _ _ hρ)
 | _, _, .fn h1 h2 => .fn (RVs.step k hd h1) (RVs.step k hd h2)
 | _, _, .yl hρ => .yl (k.ext _ _ hρ)
 | _, _, .agg h => .agg (RVs.step k hd h)
 | _, _, .tup h => .tup (RVs.step k hd h)
theorem RVs.step {ρ ρ' : Nat → Option Nat} {S S' : St} {H H' : AH} {F F' : Nat → Prop} (k : Stp ρ S H F ρ' S' H' F') (hd : ∀ b B, ρ b = some B → b < S.next) :
  ∀ {xs : List Value} {ps : List PV}, RVs ρ S H F xs ps → RVs ρ' S' H' F' xs ps
 | _, _, .nil => .nil
 | _, _, .cons h t => .cons (RV.step k hd h) (RVs.step k hd t)
end
section
variable {ρ : Nat → Option Nat} {S : St} {H : AH} {F : Nat → Prop}
theorem RVs.length : ∀ {xs : List Value} {ps : List PV}, RVs ρ S H F xs ps → xs.length = ps.length
 | _, _, .nil => rfl
 | _, _, .cons _ t => by simp [t.length]
theorem RVs.get : ∀ {xs : List Value} {ps : List PV}, RVs ρ S H F xs ps → ∀ (i : Nat) (p : PV), ps[i]? = some p → ∃ x, xs[i]? = some x ∧ RV ρ S H F x p
 | _, _, .nil, i, p, h => by simp at h
 | _, _, .cons hv t, i, p, h => by
  cases i with
  | zero => simp at h; subst h; exact ⟨_, by simp, hv⟩
  | succ i => simp at h; obtain ⟨v, h1, h2⟩ := t.get i p h; exact ⟨v, by simpa using h1, h2⟩
theorem RVs.append {xs ys : List Value} {ps qs : List PV} (h : RVs ρ S H F xs ps) (k : RVs ρ S H F ys qs) : RVs ρ S H F (xs ++ ys) (ps ++ qs) := by
 cases h with
 | nil => exact k
 | cons hv t => exact .cons hv (RVs.append t k)
theorem RVs.take : ∀ {xs : List Value} {ps : List PV} (n : Nat), RVs ρ S H F xs ps → RVs ρ S H F (xs.take n) (ps.take n)
 | _, _, 0, _ => by simpa using .nil
 | _, _, _ + 1, .nil => by simpa using .nil
 | _, _, n + 1, .cons h t => by simpa using .cons h (t.take n)
theorem RVs.drop : ∀ {xs : List Value} {ps : List PV} (n : Nat), RVs ρ S H F xs ps → RVs ρ S H F (xs.drop n) (ps.drop n)
 | _, _, 0, h => by simpa using h
 | _, _, _ + 1, .nil => by simpa using .nil
 | _, _, n + 1, .cons h t => by simpa using t.drop n
theorem RVs.tree : ∀ {xs : List Value} {ps : List PV}, RTs H F xs ps → RVs ρ S H F xs ps
 | _, _, .nil => .nil
 | _, _, .cons h t => .cons (.tree h) (RVs.tree t)
theorem RVs.splice {xs ys : List Value} {ps qs : List PV} (h : RVs ρ S H F xs ps) (k : RVs ρ S H F ys qs) (o : Nat) : RVs ρ S H F (xs.take o ++ ys ++ xs.drop (o + ys.length)) (splice ps o qs) := by
 unfold Pev.splice;rw [k.length];exact ((h.take o).append k).append (h.drop _)
end
def Cont (ρ : Nat → Option Nat) (S : St) (H : AH) (F : Nat → Prop) (e : Ent) (c : List Value) (t : TypeId) (z : Nat) : Prop :=
 (e.box = true ∧ ∃ cs, e.els = [cs] ∧ cs.length = z ∧ RVs ρ S H F c cs) ∨ (e.box = false ∧ t = e.ty ∧ z = e.z ∧ 0 < z ∧ REs H F z c e.els)
theorem Cont.step {ρ ρ' : Nat → Option Nat} {S S' : St} {H H' : AH} {F F' : Nat → Prop} (k : Stp ρ S H F ρ' S' H' F') (hd : ∀ b B, ρ b = some B → b < S.next) {e : Ent} {c : List Value} {t : TypeId} {z : Nat}
  (h : Cont ρ S H F e c t z) : Cont ρ' S' H' F' e c t z := by
 rcases h with ⟨h1, cs, h2, h3, h4⟩ | ⟨h1, h2, h3, h4, h5⟩
 ·exact .inl ⟨h1, cs, h2, h3, h4.step k hd⟩
 ·exact .inr ⟨h1, h2, h3, h4, h5.mono k.keep⟩
structure RS (ρ : Nat → Option Nat) (S : St) (H : AH) (F : Nat → Prop) (pbar bar : Nat) : Prop where
 rdom : ∀ b B, ρ b = some B → b < S.next
 sdom : ∀ b e, S.get b = some e → b < S.next
 mdom : ∀ b e, S.getM b = some e → b < S.next ∧ S.get b = none
 lt : ∀ b B, ρ b = some B → B < H.next
 ent : ∀ b e, S.get b = some e → (∃ B c t z, ρ b = some B ∧ H.get B = some (.row c t z) ∧ Cont ρ S H F e c t z) ∨ (ρ b = none ∧ e.box = false ∧ e.els = [])
 emap : ∀ b es, S.getM b = some es → ∃ B, ρ b = some B ∧ H.get B = some (.map es.1 es.2)
 inj : ∀ b b' e e' B, S.get b = some e → S.get b' = some e' → ρ b = some B → ρ b' = some B → b = b'
 injM : ∀ b b' e es B, S.get b = some e → S.getM b' = some es → ρ b = some B → ρ b' = some B → False
 injMM : ∀ b b' es es' B, S.getM b = some es → S.getM b' = some es' → ρ b = some B → ρ b' = some B → b = b'
 fix : ∀ B, Own ρ S B → ¬ F B
 flt : ∀ B, F B → B < H.next
 bars : ∀ b e B, S.get b = some e → ρ b = some B → pbar ≤ b → bar ≤ B
 barsM : ∀ b es B, S.getM b = some es → ρ b = some B → pbar ≤ b → bar ≤ B
 barn : bar ≤ H.next
 pbarn : pbar ≤ S.next
 froz : ∀ b e B, S.get b = some e → e.fz = true → ρ b = some B → F B
namespace Out
variable {ρ ρ₁ ρ₂ : Nat → Option Nat} {S S₁ S₂ : St} {H H₁ H₂ : AH} {F F₁ F₂ : Nat → Prop}
theorem refl : Out ρ S H F ρ S H F :=
 ⟨fun _ _ h => h, Nat.le_refl _, Nat.le_refl _, fun _ _ h => h, fun b e' _ h => ⟨e', h, rfl, rfl, rfl, fun h => h⟩, fun b e' B c t z _ _ _ h => ⟨c, h, rfl⟩, ⟨fun _ h => h, fun _ _ => rfl⟩, fun _ h => .inl h, fun _ _ h => h, fun _ _ _ => rfl, fun _ _ => rfl, fun _ _ h => h⟩
theorem trans (h : Out ρ S H F ρ₁ S₁ H₁ F₁) (k : Out ρ₁ S₁ H₁ F₁ ρ₂ S₂ H₂ F₂) : Out ρ S H F ρ₂ S₂ H₂ F₂ where
 ext := fun b B e => k.ext b B (h.ext b B e)
 sn := Nat.le_trans h.sn k.sn
 hn := Nat.le_trans h.hn k.hn
 gone := fun b hb e => k.gone b (Nat.lt_of_lt_of_le hb h.sn) (h.gone b hb e)
 same := fun b e₂ hb e => by
  obtain ⟨e₁, a1, a2, a3, a4, a5⟩ := k.same b e₂ (Nat.lt_of_lt_of_le hb h.sn) e;obtain ⟨e₀, b1, b2, b3, b4, b5⟩ := h.same b e₁ hb a1;exact ⟨e₀, b1, a2.trans b2, a3.trans b3, a4.trans b4, fun x => a5 (b5 x)⟩
 rows := fun b e₂ B c t z hb e hρ hg => by
  obtain ⟨e₁, a1, _⟩ := k.same b e₂ (Nat.lt_of_lt_of_le hb h.sn) e;obtain ⟨c₁, b1, b2⟩ := h.rows b e₁ B c t z hb a1 hρ hg;obtain ⟨c₂, c1, c2⟩ := k.rows b e₂ B c₁ t z (Nat.lt_of_lt_of_le hb h.sn) e (h.ext b B hρ) b1;exact ⟨c₂, c1, c2.trans b2⟩
 keep := ⟨fun B hB => k.keep.sub B (h.keep.sub B hB), fun B hB => (k.keep.get B (h.keep.sub B hB)).trans (h.keep.get B hB)⟩
 newF := fun B hB => by
  rcases k.newF B hB with hB | hB | hB
  ·exact h.newF B hB
  ·exact .inr (.inl (Nat.le_trans h.hn hB))
  ·by_cases hlt : B < H.next
   ·exact .inr (.inr (h.own B hlt hB))
   ·exact .inr (.inl (by omega))
 own := fun B hB hO => h.own B hB (k.own B (Nat.lt_of_lt_of_le hB h.hn) hO)
 frame := fun B hB hO => by
  rw [k.frame B (Nat.lt_of_lt_of_le hB h.hn) (fun x => hO (h.own B hB x)), h.frame B hB hO]
 old := fun b hb => (k.old b (Nat.lt_of_lt_of_le hb h.sn)).trans (h.old b hb)
 mo := fun b hb e => k.mo b (Nat.lt_of_lt_of_le hb h.sn) (h.mo b hb e)
end Out
end Go.Pev
namespace Go.Pev
open Go.Abu
def up (ρ : Nat → Option Nat) (b B : Nat) : Nat → Option Nat := fun x => if x = b then some B else ρ x
section
variable {ρ : Nat → Option Nat} {S : St} {H : AH} {F : Nat → Prop} {pbar bar : Nat}
theorem up_self (b B : Nat) : up ρ b B b = some B := by simp [up]
theorem up_ne {b B x : Nat} (h : x ≠ b) : up ρ b B x = ρ x := by simp [up, h]
theorem St.get_put {b b' : Nat} {e : Ent} : (S.put b e).get b' = if b' = b then some e else S.get b' := rfl
theorem St.get_kill {b b' : Nat} : (S.kill b).get b' = if b' = b then none else S.get b' := rfl
theorem St.get_alloc {b' : Nat} {e : Ent} : (S.alloc e).get b' = if b' = S.next then some e else S.get b' := rfl
theorem St.getM_putM {b b' : Nat} {e : List MapEntry × Nat} : (S.putM b e).getM b' = if b' = b then some e else S.getM b' := rfl
theorem St.getM_allocM {b' : Nat} {e : List MapEntry × Nat} : (S.allocM e).getM b' = if b' = S.next then some e else S.getM b' := rfl
theorem new_row (h : RS ρ S H F pbar bar) {k : Option Nat} {e : Ent} {H' : AH} {c : List Value} {t : TypeId} {z : Nat} (hk : ∀ b, k = some b → ∃ e, S.get b = some e ∧ e.fz = false)
  (hn : H'.next = H.next + 1) (hg : H'.get H.next = some (.row c t z)) (hs : ∀ B, B < H.next → (∀ b, k = some b → ρ b ≠ some B) → H'.get B = H.get B)
  (hc : Cont ρ S H F e c t z) (hf : e.fz = false) :
  ∀ S', S'.next = S.next + 1 → (∀ b, S'.get b = if b = S.next then some e else if k = some b then none else S.get b) → (∀ b, S'.getM b = S.getM b) →
  RS (up ρ S.next H.next) S' H' F pbar bar ∧ Out ρ S H F (up ρ S.next H.next) S' H' F := by
 intro S' e1 e2 e3;have hown : ∀ B, B < H.next → Own (up ρ S.next H.next) S' B → Own ρ S B := by
  rintro B hB (⟨b, x, a1, a2, a3⟩ | ⟨b, x, a1, a3⟩)
  ·rw [e2] at a1;by_cases hb : b = S.next
   ·subst hb; rw [up_self] at a3; cases a3; omega
   ·rw [if_neg hb] at a1; rw [up_ne hb] at a3;split at a1
    ·cases a1
    ·exact .inl ⟨b, x, a1, a2, a3⟩
  ·rw [e3] at a1;have hb : b ≠ S.next := by have := (h.mdom b x a1).1; omega
   rw [up_ne hb] at a3;exact .inr ⟨b, x, a1, a3⟩
 have hkown : ∀ b B, k = some b → ρ b = some B → Own ρ S B := by
  intro b B e5 e6;obtain ⟨x, f1, f2⟩ := hk b e5;exact .inl ⟨b, x, f1, f2, e6⟩
 have out : Out ρ S H F (up ρ S.next H.next) S' H' F := by
  refine ⟨fun b B hb => ?_, by omega, by omega, fun b hb hg => ?_, fun b e' hb hg => ?_, fun b e' B c t z hb hg hρ hB => ?_, ⟨fun _ h => h, fun B hB => ?_⟩, fun B hB => .inl hB, hown, fun B hB hO => ?_, fun b' hb' => up_ne (by omega), fun b _ h => (e3 b).trans h⟩
  ·rw [up_ne (by have := h.rdom b B hb; omega)]; exact hb
  ·rw [e2, if_neg (by omega)];split
   ·rfl
   ·exact hg
  ·rw [e2, if_neg (by omega)] at hg;split at hg
   ·cases hg
   ·exact ⟨e', hg, rfl, rfl, rfl, fun h => h⟩
  ·rw [e2, if_neg (by omega)] at hg;split at hg
   ·cases hg
   ·rename_i hkb;refine ⟨c, ?_, rfl⟩;rw [hs B (h.lt b B hρ) fun b' hb' hρ' => ?_]
    ·exact hB
    ·obtain ⟨x, f1, f2⟩ := hk b' hb';exact hkb (by rw [hb', h.inj b b' _ _ B hg f1 hρ hρ'])
  ·exact hs B (h.flt B hB) fun b hb hρ => h.fix B (hkown b B hb hρ) hB
  ·exact hs B hB fun b hb hρ => hO (hkown b B hb hρ)
 refine ⟨⟨fun b B hb => ?_, fun b x hg => ?_, fun b x hg => ?_, fun b B hb => ?_, fun b x hg => ?_, fun b es hg => ?_, fun b b' x y B h1 h2 h3 h4 => ?_, fun b b' x y B h1 h2 h3 h4 => ?_, fun b b' x y B h1 h2 h3 h4 => ?_,
  fun B hO hF => ?_, fun B hB => ?_, fun b x B h1 h2 h3 => ?_, fun b x B h1 h2 h3 => ?_, ?_, ?_, fun b x B h1 h2 h3 => ?_⟩, out⟩
 ·by_cases hb' : b = S.next
  ·omega
  ·rw [up_ne hb'] at hb; have := h.rdom b B hb; omega
 ·rw [e2] at hg;split at hg
  ·omega
  ·split at hg
   ·cases hg
   ·have := h.sdom b x hg; omega
 ·rw [e3] at hg;have := h.mdom b x hg;refine ⟨by omega, ?_⟩;rw [e2, if_neg (by omega)];split
  ·rfl
  ·exact this.2
 ·by_cases hb' : b = S.next
  ·subst hb'; rw [up_self] at hb; cases hb; omega
  ·rw [up_ne hb'] at hb; have := h.lt b B hb; omega
 ·rw [e2] at hg;split at hg
  ·rename_i hb; cases hg; subst hb;exact .inl ⟨H.next, c, t, z, up_self _ _, by assumption, hc.step out.stp h.rdom⟩
  ·rename_i hb;split at hg
   ·cases hg
   ·rename_i hkb;rw [up_ne hb];rcases h.ent b x hg with ⟨B, c', t', z', a1, a2, a3⟩ | a
    ·refine .inl ⟨B, c', t', z', a1, ?_, a3.step out.stp h.rdom⟩;rw [hs B (h.lt b B a1) fun b' hb' hρ' => ?_]
     ·exact a2
     ·obtain ⟨y, f1, f2⟩ := hk b' hb';exact hkb (by rw [hb', h.inj b b' _ _ B hg f1 a1 hρ'])
    ·exact .inr a
 ·rw [e3] at hg;obtain ⟨B, a1, a2⟩ := h.emap b es hg;have hb := (h.mdom b es hg).1;refine ⟨B, by rw [up_ne (by omega)]; exact a1, ?_⟩;rw [hs B (h.lt b B a1) fun b' hb' hρ' => ?_]
  ·exact a2
  ·obtain ⟨y, f1, f2⟩ := hk b' hb';exact h.injM b' b _ _ B f1 hg hρ' a1
 ·rw [e2] at h1 h2;by_cases c1 : b = S.next <;> by_cases c2 : b' = S.next
  ·rw [c1, c2]
  ·exfalso; subst c1; rw [up_self] at h3; cases h3; rw [up_ne c2] at h4; have := h.lt b' _ h4; omega
  ·exfalso; subst c2; rw [up_self] at h4; cases h4; rw [up_ne c1] at h3; have := h.lt b _ h3; omega
  ·rw [if_neg c1] at h1; rw [if_neg c2] at h2; rw [up_ne c1] at h3; rw [up_ne c2] at h4;split at h1
   ·cases h1
   ·split at h2
    ·cases h2
    ·exact h.inj b b' x y B h1 h2 h3 h4
 ·rw [e2] at h1; rw [e3] at h2;have hb' := (h.mdom b' y h2).1;rw [up_ne (by omega)] at h4;by_cases c1 : b = S.next
  ·subst c1; rw [up_self] at h3; cases h3; have := h.lt b' _ h4; omega
  ·rw [if_neg c1] at h1; rw [up_ne c1] at h3;split at h1
   ·cases h1
   ·exact h.injM b b' x y B h1 h2 h3 h4
 ·rw [e3] at h1 h2;have hb := (h.mdom b x h1).1;have hb' := (h.mdom b' y h2).1;rw [up_ne (by omega)] at h3 h4;exact h.injMM b b' x y B h1 h2 h3 h4
 ·by_cases hB : B < H.next
  ·exact h.fix B (hown B hB hO) hF
  ·have := h.flt B hF; omega
 ·have := h.flt B hB; omega
 ·rw [e2] at h1;by_cases c1 : b = S.next
  ·subst c1; rw [up_self] at h2; cases h2; exact h.barn
  ·rw [if_neg c1] at h1; rw [up_ne c1] at h2;split at h1
   ·cases h1
   ·exact h.bars b x B h1 h2 h3
 ·rw [e3] at h1;have hb := (h.mdom b x h1).1;rw [up_ne (by omega)] at h2;exact h.barsM b x B h1 h2 h3
 ·have := h.barn; omega
 ·have := h.pbarn; omega
 ·rw [e2] at h1;by_cases c1 : b = S.next
  ·rw [if_pos c1] at h1; cases h1; rw [hf] at h2; cases h2
  ·rw [if_neg c1] at h1; rw [up_ne c1] at h3;split at h1
   ·cases h1
   ·exact h.froz b x B h1 h2 h3
theorem new_ghost (h : RS ρ S H F pbar bar) {e : Ent} (h1 : e.box = false) (h2 : e.els = []) :
  ∀ S', S'.next = S.next + 1 → (∀ b, S'.get b = if b = S.next then some e else S.get b) → (∀ b, S'.getM b = S.getM b) →
  RS ρ S' H F pbar bar ∧ Out ρ S H F ρ S' H F := by
 intro S' e1 e2 e3;have hnone : ρ S.next = none := by
  cases hr : ρ S.next with
  | none => rfl
  | some B => have := h.rdom _ _ hr; omega
 have hown : ∀ B, Own ρ S' B → Own ρ S B := by
  rintro B (⟨b, x, a1, a2, a3⟩ | ⟨b, x, a1, a3⟩)
  ·rw [e2] at a1;split at a1
   ·rename_i hb; subst hb; rw [hnone] at a3; cases a3
   ·exact .inl ⟨b, x, a1, a2, a3⟩
  ·rw [e3] at a1; exact .inr ⟨b, x, a1, a3⟩
 have out : Out ρ S H F ρ S' H F := by
  refine ⟨fun b B hb => hb, by omega, Nat.le_refl _, fun b hb hg => ?_, fun b e' hb hg => ?_, fun b e' B c t z hb hg hρ hB => ⟨c, hB, rfl⟩, ⟨fun _ h => h, fun B hB => rfl⟩, fun B hB => .inl hB, fun B _ hO => hown B hO, fun B hB hO => rfl, fun _ _ => rfl, fun b _ h => (e3 b).trans h⟩
  ·rw [e2, if_neg (by omega)]; exact hg
  ·rw [e2, if_neg (by omega)] at hg; exact ⟨e', hg, rfl, rfl, rfl, fun h => h⟩
 refine ⟨⟨fun b B hb => by have := h.rdom b B hb; omega, fun b x hg => ?_, fun b x hg => ?_, h.lt, fun b x hg => ?_, fun b es hg => ?_, fun b b' x y B a1 a2 a3 a4 => ?_, fun b b' x y B a1 a2 a3 a4 => ?_, fun b b' x y B a1 a2 a3 a4 => ?_,
  fun B hO hF => h.fix B (hown B hO) hF, h.flt, fun b x B a1 a2 a3 => ?_, fun b x B a1 a2 a3 => ?_, h.barn, by have := h.pbarn; omega, fun b x B a1 a2 a3 => ?_⟩, out⟩
 ·rw [e2] at hg;split at hg
  ·omega
  ·have := h.sdom b x hg; omega
 ·rw [e3] at hg;have := h.mdom b x hg;exact ⟨by omega, by rw [e2, if_neg (by omega)]; exact this.2⟩
 ·rw [e2] at hg;split at hg
  ·rename_i hb; cases hg; subst hb; exact .inr ⟨hnone, h1, h2⟩
  ·rcases h.ent b x hg with ⟨B, c', t', z', a1, a2, a3⟩ | a
   ·exact .inl ⟨B, c', t', z', a1, a2, a3.step out.stp h.rdom⟩
   ·exact .inr a
 ·rw [e3] at hg; exact h.emap b es hg
 ·rw [e2] at a1 a2;split at a1
  ·rename_i c1; subst c1; rw [hnone] at a3; cases a3
  ·split at a2
   ·rename_i c1; subst c1; rw [hnone] at a4; cases a4
   ·exact h.inj b b' x y B a1 a2 a3 a4
 ·rw [e2] at a1; rw [e3] at a2;split at a1
  ·rename_i c1; subst c1; rw [hnone] at a3; cases a3
  ·exact h.injM b b' x y B a1 a2 a3 a4
 ·rw [e3] at a1 a2; exact h.injMM b b' x y B a1 a2 a3 a4
 ·rw [e2] at a1;split at a1
  ·rename_i c1; subst c1; rw [hnone] at a2; cases a2
  ·exact h.bars b x B a1 a2 a3
 ·rw [e3] at a1; exact h.barsM b x B a1 a2 a3
 ·rw [e2] at a1;split at a1
  ·rename_i c1; subst c1; rw [hnone] at a3; cases a3
  ·exact h.froz b x B a1 a2 a3
end
end Go.Pev
namespace Go.Pev
open Go.Abu
section
variable {ρ : Nat → Option Nat} {S : St} {H : AH} {F : Nat → Prop} {pbar bar : Nat}
theorem put_row (h : RS ρ S H F pbar bar) {b B : Nat} {e e' : Ent} {H' : AH} {c c' : List Value} {t : TypeId} {z : Nat} (hb : S.get b = some e) (hf : e.fz = false) (hρ : ρ b = some B) (hB : H.get B = some (.row c t z))
  (hn : H'.next = H.next) (hg : H'.get B = some (.row c' t z)) (hl : c'.length = c.length) (hs : ∀ B', B' < H.next → B' ≠ B → H'.get B' = H.get B')
  (hc : Cont ρ S H F e' c' t z) (h1 : e'.box = e.box) (h2 : e'.ty = e.ty) (h3 : e'.z = e.z) (h4 : e'.fz = false) :
  RS ρ (S.put b e') H' F pbar bar ∧ Out ρ S H F ρ (S.put b e') H' F := by
 have hbn := h.sdom b e hb;have hown : ∀ B, Own ρ (S.put b e') B → Own ρ S B := by
  rintro B (⟨b₁, x, a1, a2, a3⟩ | ⟨b₁, x, a1, a3⟩)
  ·rw [St.get_put] at a1;split at a1
   ·rename_i hb; subst hb; exact .inl ⟨_, e, hb, hf, a3⟩
   ·exact .inl ⟨b₁, x, a1, a2, a3⟩
  ·exact .inr ⟨b₁, x, a1, a3⟩
 have hBown : Own ρ S B := .inl ⟨b, e, hb, hf, hρ⟩;have out : Out ρ S H F ρ (S.put b e') H' F := by
  refine ⟨fun b B hb => hb, Nat.le_refl _, by omega, fun b₁ hb₁ hg₁ => ?_, fun b₁ e₁ hb₁ hg₁ => ?_, fun b₁ e₁ B₁ c₁ t₁ z₁ hb₁ hg₁ hρ₁ hB₁ => ?_, ⟨fun _ h => h, fun B₁ hB₁ => ?_⟩, fun B hB => .inl hB, fun B _ hO => hown B hO, fun B₁ hB₁ hO => ?_, fun _ _ => rfl, fun _ _ h => h⟩
  ·rw [St.get_put];split
   ·rename_i e; subst e; rw [hb] at hg₁; cases hg₁
   ·exact hg₁
  ·rw [St.get_put] at hg₁;split at hg₁
   ·rename_i e; subst e; cases hg₁; exact ⟨_, hb, h1, h2, h3, fun h => by rw [hf] at h; cases h⟩
   ·exact ⟨e₁, hg₁, rfl, rfl, rfl, fun h => h⟩
  ·by_cases hBB : B₁ = B
   ·subst hBB; rw [hB] at hB₁; cases hB₁; exact ⟨c', hg, hl⟩
   ·exact ⟨c₁, by rw [hs B₁ (h.lt _ _ hρ₁) hBB]; exact hB₁, rfl⟩
  ·exact hs B₁ (h.flt B₁ hB₁) fun e => h.fix B hBown (e ▸ hB₁)
  ·exact hs B₁ hB₁ fun e => hO (e ▸ hBown)
 refine ⟨⟨h.rdom, fun b₁ x hg₁ => ?_, fun b₁ x hg₁ => ?_, fun b₁ B₁ hb₁ => by have := h.lt b₁ B₁ hb₁; omega, fun b₁ x hg₁ => ?_, fun b₁ es hg₁ => ?_, fun b₁ b₂ x y B₁ a1 a2 a3 a4 => ?_, fun b₁ b₂ x y B₁ a1 a2 a3 a4 => ?_, fun b₁ b₂ x y B₁ a1 a2 a3 a4 => h.injMM b₁ b₂ x y B₁ a1 a2 a3 a4,
  fun B hO hF => h.fix B (hown B hO) hF, fun B₁ hB₁ => by have := h.flt B₁ hB₁; omega, fun b₁ x B₁ a1 a2 a3 => ?_, fun b₁ x B₁ a1 a2 a3 => h.barsM b₁ x B₁ a1 a2 a3, by have := h.barn; omega, h.pbarn, fun b₁ x B₁ a1 a2 a3 => ?_⟩, out⟩
 ·rw [St.get_put] at hg₁;split at hg₁
  ·rename_i e; subst e; exact hbn
  ·exact h.sdom b₁ x hg₁
 ·have := h.mdom b₁ x hg₁;refine ⟨this.1, ?_⟩;rw [St.get_put];split
  ·rename_i e; subst e; rw [hb] at this; exact absurd this.2 (by simp)
  ·exact this.2
 ·rw [St.get_put] at hg₁;split at hg₁
  ·rename_i e₁; subst e₁; cases hg₁;exact .inl ⟨B, c', t, z, hρ, hg, hc.step out.stp h.rdom⟩
  ·rename_i hne;rcases h.ent b₁ x hg₁ with ⟨B₁, c₁, t₁, z₁, a1, a2, a3⟩ | a
   ·refine .inl ⟨B₁, c₁, t₁, z₁, a1, ?_, a3.step out.stp h.rdom⟩;rw [hs B₁ (h.lt _ _ a1) fun eB => hne (h.inj b₁ b x e B hg₁ hb (eB ▸ a1) hρ)];exact a2
   ·exact .inr a
 ·obtain ⟨B₁, a1, a2⟩ := h.emap b₁ es hg₁;refine ⟨B₁, a1, ?_⟩;rw [hs B₁ (h.lt _ _ a1) fun eB => h.injM b b₁ e es B hb hg₁ hρ (eB ▸ a1)];exact a2
 ·rw [St.get_put] at a1 a2;have g1 : ∃ x', S.get b₁ = some x' := by
   split at a1
   ·rename_i e₁; subst e₁; exact ⟨e, hb⟩
   ·exact ⟨x, a1⟩
  have g2 : ∃ x', S.get b₂ = some x' := by
   split at a2
   ·rename_i e₁; subst e₁; exact ⟨e, hb⟩
   ·exact ⟨y, a2⟩
  obtain ⟨x', g1⟩ := g1;obtain ⟨y', g2⟩ := g2;exact h.inj b₁ b₂ x' y' B₁ g1 g2 a3 a4
 ·rw [St.get_put] at a1;have g1 : ∃ x', S.get b₁ = some x' := by
   split at a1
   ·rename_i e₁; subst e₁; exact ⟨e, hb⟩
   ·exact ⟨x, a1⟩
  obtain ⟨x', g1⟩ := g1;exact h.injM b₁ b₂ x' y B₁ g1 a2 a3 a4
 ·rw [St.get_put] at a1;have g1 : ∃ x', S.get b₁ = some x' := by
   split at a1
   ·rename_i e₁; subst e₁; exact ⟨e, hb⟩
   ·exact ⟨x, a1⟩
  obtain ⟨x', g1⟩ := g1;exact h.bars b₁ x' B₁ g1 a2 a3
 ·rw [St.get_put] at a1;split at a1
  ·cases a1; rw [h4] at a2; cases a2
  ·exact h.froz b₁ x B₁ a1 a2 a3
theorem kill_row (h : RS ρ S H F pbar bar) (b : Nat) : RS ρ (S.kill b) H F pbar bar ∧ Out ρ S H F ρ (S.kill b) H F := by
 have back : ∀ b₁ x, (S.kill b).get b₁ = some x → S.get b₁ = some x := by
  intro b₁ x a1;rw [St.get_kill] at a1;split at a1
  ·cases a1
  ·exact a1
 have hown : ∀ B, Own ρ (S.kill b) B → Own ρ S B := by
  rintro B (⟨b₁, x, a1, a2, a3⟩ | ⟨b₁, x, a1, a3⟩)
  ·exact .inl ⟨b₁, x, back b₁ x a1, a2, a3⟩
  ·exact .inr ⟨b₁, x, a1, a3⟩
 have out : Out ρ S H F ρ (S.kill b) H F := by
  refine ⟨fun b B hb => hb, Nat.le_refl _, Nat.le_refl _, fun b₁ hb₁ hg₁ => ?_, fun b₁ e₁ hb₁ hg₁ => ?_, fun b₁ e₁ B₁ c₁ t₁ z₁ hb₁ hg₁ hρ₁ hB₁ => ⟨c₁, hB₁, rfl⟩, ⟨fun _ h => h, fun B₁ hB₁ => rfl⟩, fun B hB => .inl hB, fun B _ hO => hown B hO, fun B₁ hB₁ hO => rfl, fun _ _ => rfl, fun _ _ h => h⟩
  ·rw [St.get_kill];split
   ·rfl
   ·exact hg₁
  ·exact ⟨e₁, back b₁ e₁ hg₁, rfl, rfl, rfl, fun h => h⟩
 refine ⟨⟨h.rdom, fun b₁ x hg₁ => h.sdom b₁ x (back b₁ x hg₁), fun b₁ x hg₁ => ?_, h.lt, fun b₁ x hg₁ => ?_, h.emap, fun b₁ b₂ x y B₁ a1 a2 a3 a4 => h.inj b₁ b₂ x y B₁ (back _ _ a1) (back _ _ a2) a3 a4, fun b₁ b₂ x y B₁ a1 a2 a3 a4 => h.injM b₁ b₂ x y B₁ (back _ _ a1) a2 a3 a4, h.injMM,
  fun B hO hF => h.fix B (hown B hO) hF, h.flt, fun b₁ x B₁ a1 a2 a3 => h.bars b₁ x B₁ (back _ _ a1) a2 a3, h.barsM, h.barn, h.pbarn, fun b₁ x B₁ a1 a2 a3 => h.froz b₁ x B₁ (back _ _ a1) a2 a3⟩, out⟩
 ·have := h.mdom b₁ x hg₁;refine ⟨this.1, ?_⟩;rw [St.get_kill];split
  ·rfl
  ·exact this.2
 ·rcases h.ent b₁ x (back b₁ x hg₁) with ⟨B₁, c₁, t₁, z₁, a1, a2, a3⟩ | a
  ·exact .inl ⟨B₁, c₁, t₁, z₁, a1, a2, a3.step out.stp h.rdom⟩
  ·exact .inr a
theorem freeze_row (h : RS ρ S H F pbar bar) {b : Nat} {e : Ent} (hb : S.get b = some e) :
  RS ρ (S.put b { e with fz := true }) H (fun B => F B ∨ ρ b = some B) pbar bar ∧ Out ρ S H F ρ (S.put b { e with fz := true }) H (fun B => F B ∨ ρ b = some B) := by
 have back : ∀ b₁ x, (S.put b { e with fz := true }).get b₁ = some x → ∃ x', S.get b₁ = some x' ∧ x.els = x'.els ∧ x.box = x'.box ∧ x.ty = x'.ty ∧ x.z = x'.z ∧ (x'.fz = true → x.fz = true) ∧ (b₁ = b → x.fz = true) ∧ (b₁ ≠ b → x = x') := by
  intro b₁ x a1;rw [St.get_put] at a1;split at a1
  ·rename_i e₁; subst e₁; cases a1; exact ⟨e, hb, rfl, rfl, rfl, rfl, fun _ => rfl, fun _ => rfl, fun h => absurd rfl h⟩
  ·rename_i hne; exact ⟨x, a1, rfl, rfl, rfl, rfl, fun h => h, fun h => absurd h hne, fun _ => rfl⟩
 have hown : ∀ B, Own ρ (S.put b { e with fz := true }) B → Own ρ S B ∧ ρ b ≠ some B := by
  rintro B (⟨b₁, x, a1, a2, a3⟩ | ⟨b₁, x, a1, a3⟩)
  ·obtain ⟨x', g1, _, _, _, _, g2, g3, _⟩ := back b₁ x a1;refine ⟨.inl ⟨b₁, x', g1, ?_, a3⟩, fun hρ => ?_⟩
   ·cases hx : x'.fz with
    | false => rfl
    | true => rw [g2 hx] at a2; cases a2
   ·have := h.inj b₁ b x' e B g1 hb a3 hρ;rw [g3 this] at a2; cases a2
  ·exact ⟨.inr ⟨b₁, x, a1, a3⟩, fun hρ => h.injM b b₁ e x B hb a1 hρ a3⟩
 have out : Out ρ S H F ρ (S.put b { e with fz := true }) H (fun B => F B ∨ ρ b = some B) := by
  refine ⟨fun b B hb => hb, Nat.le_refl _, Nat.le_refl _, fun b₁ hb₁ hg₁ => ?_, fun b₁ e₁ hb₁ hg₁ => ?_, fun b₁ e₁ B₁ c₁ t₁ z₁ hb₁ hg₁ hρ₁ hB₁ => ⟨c₁, hB₁, rfl⟩, ⟨fun _ h => .inl h, fun B₁ hB₁ => rfl⟩, fun B hB => ?_, fun B _ hO => (hown B hO).1, fun B₁ hB₁ hO => rfl, fun _ _ => rfl, fun _ _ h => h⟩
  ·rw [St.get_put];split
   ·rename_i e; subst e; rw [hb] at hg₁; cases hg₁
   ·exact hg₁
  ·obtain ⟨x', g1, _, g2, g3, g4, g5, _⟩ := back b₁ e₁ hg₁;exact ⟨x', g1, g2, g3, g4, g5⟩
  ·rcases hB with hB | hB
   ·exact .inl hB
   ·cases hz : e.fz with
    | false => exact .inr (.inr (.inl ⟨b, e, hb, hz, hB⟩))
    | true => exact .inl (h.froz b e B hb hz hB)
 refine ⟨⟨h.rdom, fun b₁ x hg₁ => ?_, fun b₁ x hg₁ => ?_, h.lt, fun b₁ x hg₁ => ?_, h.emap, fun b₁ b₂ x y B₁ a1 a2 a3 a4 => ?_, fun b₁ b₂ x y B₁ a1 a2 a3 a4 => ?_, h.injMM,
  fun B hO hF => ?_, fun B hB => ?_, fun b₁ x B₁ a1 a2 a3 => ?_, h.barsM, h.barn, h.pbarn, fun b₁ x B₁ a1 a2 a3 => ?_⟩, out⟩
 ·obtain ⟨x', g, _⟩ := back b₁ x hg₁; exact h.sdom b₁ x' g
 ·have := h.mdom b₁ x hg₁;refine ⟨this.1, ?_⟩;rw [St.get_put];split
  ·rename_i e; subst e; rw [hb] at this; exact absurd this.2 (by simp)
  ·exact this.2
 ·obtain ⟨x', g1, q1, q2, q3, q4, _⟩ := back b₁ x hg₁;rcases h.ent b₁ x' g1 with ⟨B₁, c₁, t₁, z₁, a1, a2, a3⟩ | ⟨a1, a2, a3⟩
  ·refine .inl ⟨B₁, c₁, t₁, z₁, a1, a2, ?_⟩;have := a3.step out.stp h.rdom;unfold Cont at this ⊢;rw [q1, q2, q3, q4];exact this
  ·exact .inr ⟨a1, q2.trans a2, q1.trans a3⟩
 ·obtain ⟨x', g1, _⟩ := back b₁ x a1;obtain ⟨y', g2, _⟩ := back b₂ y a2;exact h.inj b₁ b₂ x' y' B₁ g1 g2 a3 a4
 ·obtain ⟨x', g1, _⟩ := back b₁ x a1;exact h.injM b₁ b₂ x' y B₁ g1 a2 a3 a4
 ·obtain ⟨o1, o2⟩ := hown B hO;rcases hF with hF | hF
  ·exact h.fix B o1 hF
  ·exact o2 hF
 ·rcases hB with hB | hB
  ·exact h.flt B hB
  ·exact h.lt b B hB
 ·obtain ⟨x', g1, _⟩ := back b₁ x a1;exact h.bars b₁ x' B₁ g1 a2 a3
 ·by_cases hbb : b₁ = b
  ·subst hbb; exact .inr a3
  ·obtain ⟨x', g1, _, _, _, _, _, _, g2⟩ := back b₁ x a1;rw [g2 hbb] at a2;exact .inl (h.froz b₁ x' B₁ g1 a2 a3)
theorem rekey_row (h : RS ρ S H F pbar bar) {b B : Nat} {e e' : Ent} {H' : AH} {c c' : List Value} {t : TypeId} {z : Nat} (hb : S.get b = some e) (hf : e.fz = false) (hρ : ρ b = some B) (hB : H.get B = some (.row c t z))
  (hpb : pbar ≤ b) (hn : H'.next = H.next) (hg : H'.get B = some (.row c' t z)) (hs : ∀ B', B' < H.next → B' ≠ B → H'.get B' = H.get B')
  (hc : Cont ρ S H F e' c' t z) (h4 : e'.fz = false) :
  RS (up ρ S.next B) ((S.kill b).alloc e') H' F pbar bar ∧ Out ρ S H F (up ρ S.next B) ((S.kill b).alloc e') H' F := by
 have hbn := h.sdom b e hb;have hBlt := h.lt b B hρ;have hBown : Own ρ S B := .inl ⟨b, e, hb, hf, hρ⟩;have hget : ∀ b₁, ((S.kill b).alloc e').get b₁ = if b₁ = S.next then some e' else if b₁ = b then none else S.get b₁ := fun _ => rfl
 have hgetM : ∀ b₁, ((S.kill b).alloc e').getM b₁ = S.getM b₁ := fun _ => rfl;have hnx : ((S.kill b).alloc e').next = S.next + 1 := rfl;have hown : ∀ B₁, Own (up ρ S.next B) ((S.kill b).alloc e') B₁ → Own ρ S B₁ := by
  rintro B₁ (⟨b₁, x, a1, a2, a3⟩ | ⟨b₁, x, a1, a3⟩)
  ·rw [hget] at a1;by_cases hb₁ : b₁ = S.next
   ·subst hb₁; rw [up_self] at a3; cases a3; exact hBown
   ·rw [if_neg hb₁] at a1; rw [up_ne hb₁] at a3;split at a1
    ·cases a1
    ·exact .inl ⟨b₁, x, a1, a2, a3⟩
  ·rw [hgetM] at a1;have hb₁ : b₁ ≠ S.next := by have := (h.mdom b₁ x a1).1; omega
   rw [up_ne hb₁] at a3;exact .inr ⟨b₁, x, a1, a3⟩
 have out : Out ρ S H F (up ρ S.next B) ((S.kill b).alloc e') H' F := by
  refine ⟨fun b B hb => ?_, by omega, by omega, fun b₁ hb₁ hg₁ => ?_, fun b₁ e₁ hb₁ hg₁ => ?_, fun b₁ e₁ B₁ c₁ t₁ z₁ hb₁ hg₁ hρ₁ hB₁ => ?_, ⟨fun _ h => h, fun B₁ hB₁ => ?_⟩, fun B hB => .inl hB, fun B _ hO => hown B hO, fun B₁ hB₁ hO => ?_, fun b' hb' => up_ne (by omega), fun _ _ h => h⟩
  ·rw [up_ne (by have := h.rdom b B hb; omega)]; exact hb
  ·rw [hget, if_neg (by omega)];split
   ·rfl
   ·exact hg₁
  ·rw [hget, if_neg (by omega)] at hg₁;split at hg₁
   ·cases hg₁
   ·exact ⟨e₁, hg₁, rfl, rfl, rfl, fun h => h⟩
  ·rw [hget, if_neg (by omega)] at hg₁;split at hg₁
   ·cases hg₁
   ·rename_i hne;exact ⟨c₁, by rw [hs B₁ (h.lt _ _ hρ₁) fun eB => hne (h.inj b₁ b e₁ e B hg₁ hb (eB ▸ hρ₁) hρ)]; exact hB₁, rfl⟩
  ·exact hs B₁ (h.flt B₁ hB₁) fun e => h.fix B hBown (e ▸ hB₁)
  ·exact hs B₁ hB₁ fun e => hO (e ▸ hBown)
 refine ⟨⟨fun b₁ B₁ hb₁ => ?_, fun b₁ x hg₁ => ?_, fun b₁ x hg₁ => ?_, fun b₁ B₁ hb₁ => ?_, fun b₁ x hg₁ => ?_, fun b₁ es hg₁ => ?_, fun b₁ b₂ x y B₁ h1 h2 h3 h4 => ?_, fun b₁ b₂ x y B₁ h1 h2 h3 h4 => ?_, fun b₁ b₂ x y B₁ h1 h2 h3 h4 => ?_,
  fun B₁ hO hF => h.fix B₁ (hown B₁ hO) hF, fun B₁ hB₁ => by have := h.flt B₁ hB₁; omega, fun b₁ x B₁ h1 h2 h3 => ?_, fun b₁ x B₁ h1 h2 h3 => ?_, by have := h.barn; omega, by have := h.pbarn; omega, fun b₁ x B₁ h1 h2 h3 => ?_⟩, out⟩
 ·by_cases c1 : b₁ = S.next
  ·omega
  ·rw [up_ne c1] at hb₁; have := h.rdom b₁ B₁ hb₁; omega
 ·rw [hget] at hg₁;split at hg₁
  ·omega
  ·split at hg₁
   ·cases hg₁
   ·have := h.sdom b₁ x hg₁; omega
 ·rw [hgetM] at hg₁;have := h.mdom b₁ x hg₁;refine ⟨by omega, ?_⟩;rw [hget, if_neg (by omega)];split
  ·rfl
  ·exact this.2
 ·by_cases c1 : b₁ = S.next
  ·subst c1; rw [up_self] at hb₁; cases hb₁; omega
  ·rw [up_ne c1] at hb₁; have := h.lt b₁ B₁ hb₁; omega
 ·rw [hget] at hg₁;split at hg₁
  ·rename_i c1; subst c1; cases hg₁;exact .inl ⟨B, c', t, z, up_self _ _, hg, hc.step out.stp h.rdom⟩
  ·rename_i c1;split at hg₁
   ·cases hg₁
   ·rename_i hne;rw [up_ne c1];rcases h.ent b₁ x hg₁ with ⟨B₁, c₁, t₁, z₁, a1, a2, a3⟩ | a
    ·refine .inl ⟨B₁, c₁, t₁, z₁, a1, ?_, a3.step out.stp h.rdom⟩;rw [hs B₁ (h.lt _ _ a1) fun eB => hne (h.inj b₁ b x e B hg₁ hb (eB ▸ a1) hρ)];exact a2
    ·exact .inr a
 ·rw [hgetM] at hg₁;obtain ⟨B₁, a1, a2⟩ := h.emap b₁ es hg₁;have hb₁ := (h.mdom b₁ es hg₁).1;refine ⟨B₁, by rw [up_ne (by omega)]; exact a1, ?_⟩;rw [hs B₁ (h.lt _ _ a1) fun eB => h.injM b b₁ e es B hb hg₁ hρ (eB ▸ a1)];exact a2
 ·rw [hget] at h1 h2;by_cases c1 : b₁ = S.next <;> by_cases c2 : b₂ = S.next
  ·rw [c1, c2]
  ·exfalso; subst c1; rw [up_self] at h3; cases h3; rw [if_neg c2] at h2; rw [up_ne c2] at h4;split at h2
   ·cases h2
   ·rename_i hne; exact hne (h.inj b₂ b y e B h2 hb h4 hρ)
  ·exfalso; subst c2; rw [up_self] at h4; cases h4; rw [if_neg c1] at h1; rw [up_ne c1] at h3;split at h1
   ·cases h1
   ·rename_i hne; exact hne (h.inj b₁ b x e B h1 hb h3 hρ)
  ·rw [if_neg c1] at h1; rw [if_neg c2] at h2; rw [up_ne c1] at h3; rw [up_ne c2] at h4;split at h1
   ·cases h1
   ·split at h2
    ·cases h2
    ·exact h.inj b₁ b₂ x y B₁ h1 h2 h3 h4
 ·rw [hget] at h1; rw [hgetM] at h2;have hb₂ := (h.mdom b₂ y h2).1;rw [up_ne (by omega)] at h4;by_cases c1 : b₁ = S.next
  ·subst c1; rw [up_self] at h3; cases h3; exact h.injM b b₂ e y B hb h2 hρ h4
  ·rw [if_neg c1] at h1; rw [up_ne c1] at h3;split at h1
   ·cases h1
   ·exact h.injM b₁ b₂ x y B₁ h1 h2 h3 h4
 ·rw [hgetM] at h1 h2;have hb₁ := (h.mdom b₁ x h1).1;have hb₂ := (h.mdom b₂ y h2).1;rw [up_ne (by omega)] at h3 h4;exact h.injMM b₁ b₂ x y B₁ h1 h2 h3 h4
 ·rw [hget] at h1;by_cases c1 : b₁ = S.next
  ·subst c1; rw [up_self] at h2; cases h2; exact h.bars b e B hb hρ hpb
  ·rw [if_neg c1] at h1; rw [up_ne c1] at h2;split at h1
   ·cases h1
   ·exact h.bars b₁ x B₁ h1 h2 h3
 ·rw [hgetM] at h1;have hb₁ := (h.mdom b₁ x h1).1;rw [up_ne (by omega)] at h2;exact h.barsM b₁ x B₁ h1 h2 h3
 ·rw [hget] at h1;by_cases c1 : b₁ = S.next
  ·rw [if_pos c1] at h1; cases h1; rw [h4] at h2; cases h2
  ·rw [if_neg c1] at h1; rw [up_ne c1] at h3;split at h1
   ·cases h1
   ·exact h.froz b₁ x B₁ h1 h2 h3
end
end Go.Pev
namespace Go.Pev
open Go.Abu
section
variable {P : Program} {ρ : Nat → Option Nat} {S : St} {H : AH} {F : Nat → Prop} {pbar bar : Nat}
def EnvP (ρ : Nat → Option Nat) (S : St) (H : AH) (F : Nat → Prop) (f : PF) (env : Env) : Prop := ∀ x p, opd f x = some p → ∃ v, env x = some v ∧ RV ρ S H F v p
theorem RV.inv_v {x y : Value} (h : RV ρ S H F x (.v y)) : x = y ∧ plain1 y = true := by
 cases h with
 | tree h => cases h with
  | v h => exact ⟨rfl, h⟩
theorem RV.inv_int {x : Value} {k : IntKind} {n : Int} (h : RV ρ S H F x (.v (.int k n))) : x = .int k n := (RV.inv_v h).1
theorem RV.inv_bool {x : Value} {b : Bool} (h : RV ρ S H F x (.v (.bool b))) : x = .bool b := (RV.inv_v h).1
theorem RV.of_v {x : Value} (h : plain1 x = true) : RV ρ S H F x (.v x) := .tree (.v h)
theorem ofC1_rel {x : Value} {p : PV} (h : ofC1 x = some p) : plain1 x = true ∧ RV ρ S H F x p ∧ p.sc = true := by
 unfold ofC1 at h;split at h
 ·cases h; exact ⟨rfl, .tree .nilN, rfl⟩
 ·split at h
  ·rename_i hp; cases h; exact ⟨hp, .of_v hp, rfl⟩
  ·cases h
theorem ofCs_rel : ∀ {xs : List Value} {ps : List PV}, ofCs xs = some ps → xs.all plain1 = true ∧ RVs ρ S H F xs ps ∧ ps.all PV.sc = true
 | [], ps, h => by cases h; exact ⟨rfl, .nil, rfl⟩
 | x :: xs, ps, h => by
  unfold ofCs at h;split at h
  ·rename_i p hp;split at h
   ·rename_i ps' hps;cases h;obtain ⟨a1, a2, a3⟩ := ofC1_rel (ρ := ρ) (S := S) (H := H) (F := F) hp;obtain ⟨b1, b2, b3⟩ := ofCs_rel hps;exact ⟨by simp [a1, b1], .cons a2 b2, by simp [a3, b3]⟩
   ·cases h
  ·cases h
theorem ofC_rel {x : Value} {p : PV} (h : ofC x = some p) : plain x = true ∧ RV ρ S H F x p ∧ p.cells.all PV.sc = true := by
 unfold ofC at h;split at h
 ·rename_i cs;rw [Option.map_eq_some_iff] at h;obtain ⟨ps, hps, rfl⟩ := h;obtain ⟨a1, a2, a3⟩ := ofCs_rel (ρ := ρ) (S := S) (H := H) (F := F) hps;exact ⟨a1, .agg a2, a3⟩
 ·rename_i hx;obtain ⟨a1, a2, a3⟩ := ofC1_rel (ρ := ρ) (S := S) (H := H) (F := F) h;refine ⟨?_, a2, ?_⟩
  ·cases x <;> first | exact a1 | (exfalso; exact hx _ rfl)
  ·cases p <;> first | (simp [PV.sc] at a3; done) | simp [PV.cells, PV.sc]
theorem cells_rel {v : Value} {p : PV} (h : RV ρ S H F v p) (hs : p.cells.all PV.sc = true) : RVs ρ S H F v.cells.toList p.cells := by
 cases p with
 | agg cs => cases h with
  | tree h => cases h
  | agg h => exact h
 | tup cs => simp [PV.cells, PV.sc] at hs
 | v x =>
  obtain ⟨rfl, hp⟩ := RV.inv_v h;have : v.cells = #[v] := by cases v <;> first | rfl | (simp [plain1] at hp)
  rw [this];exact .cons h .nil
 | fsl => simp [PV.cells, PV.sc] at hs
 | _ =>
  have : v.cells = #[v] := by
   cases h <;> first | rfl | (rename_i h; cases h <;> rfl)
  rw [this];exact .cons h .nil
theorem one_of_sc {v : Value} {p : PV} (h : RV ρ S H F v p) (hs : p.sc = true) : one v = true := by
 cases h with
 | tree h => cases h with
  | v h => cases v <;> first | rfl | (simp [plain1] at h)
  | _ => rfl
 | agg => cases hs
 | tup => cases hs
 | _ => rfl
theorem ones_of_sc : ∀ {vs : List Value} {ps : List PV}, RVs ρ S H F vs ps → ps.all PV.sc = true → vs.all one = true
 | _, _, .nil, _ => rfl
 | _, _, .cons h t, hs => by
  simp only [List.all_cons, Bool.and_eq_true] at hs ⊢;exact ⟨one_of_sc h hs.1, ones_of_sc t hs.2⟩
theorem one_of_tree {v : Value} {p : PV} (h : RT H F v p) : one v = true := by
 cases h with
 | v h => cases v <;> first | rfl | (simp [plain1] at h)
 | _ => rfl
theorem ones_of_trees : ∀ {vs : List Value} {ps : List PV}, RTs H F vs ps → vs.all one = true
 | _, _, .nil => rfl
 | _, _, .cons h t => by
  simp only [List.all_cons, Bool.and_eq_true];exact ⟨one_of_tree h, ones_of_trees t⟩
theorem ones_of_els : ∀ {z : Nat} {c : List Value} {els : List (List PV)}, REs H F z c els → (c.take (els.length * z)).all one = true
 | _, _, _, .nil => by simp
 | z, _, _, .cons (vs := vs) (rest := rest) (els := els) h hl t => by
  have h1 := h.length;have e : (vs ++ rest).take ((els.length + 1) * z) = vs ++ rest.take (els.length * z) := by
   rw [List.take_append, List.take_of_length_le (by rw [Nat.add_mul, Nat.one_mul]; omega)]
   congr 2
   rw [Nat.add_mul, Nat.one_mul]; omega
  rw [List.length_cons, e, List.all_append, Bool.and_eq_true];exact ⟨ones_of_trees h, ones_of_els t⟩
theorem part_agg {t : TypeId} {a : Array Value} {cs : List PV} {off : Nat} {q : PV} (h : part P t cs off = some q) (hr : RVs ρ S H F a.toList cs) : ∃ u, aPart P t a off = some u ∧ RV ρ S H F u q := by
 unfold part at h;unfold aPart;split at h
 ·rename_i ha;split at h
  ·rename_i n hn;split at h
   ·cases h;rw [ha];refine ⟨_, by rw [hn]; rfl, .agg ?_⟩;have : (a.extract off (off + n)).toList = (a.toList.drop off).take n := by simp [List.extract_eq_take_drop]
    rw [this];exact (hr.drop off).take n
   ·cases h
  ·cases h
 ·rename_i ha;rw [ha];obtain ⟨u, h1, h2⟩ := hr.get off q h;exact ⟨u, by simpa using h1, h2⟩
 ·cases h
theorem part_load {t t' : TypeId} {B k z' : Nat} {c W : List Value} {cs : List PV} {off : Nat} {q : PV} (hg : H.get B = some (.row c t' z')) (hW : (c.drop k).take cs.length = W) (hr : RVs ρ S H F W cs)
  (h : part P t cs off = some q) : ∃ u, aLoad P H t B (k + off) = some u ∧ RV ρ S H F u q := by
 have hlen := hr.length;unfold part at h;unfold aLoad rowCells;rw [hg];split at h
 ·rename_i ha;split at h
  ·rename_i n hn;split at h
   ·rename_i hle;cases h;rw [ha];have e : (W.drop off).take n = (c.drop (k + off)).take n := by
     rw [← hW, List.drop_take, List.drop_drop, List.take_take, Nat.min_eq_left (by omega)]
    have hl : ((W.drop off).take n).length = n := by rw [List.length_take, List.length_drop]; omega
    refine ⟨.agg ((W.drop off).take n).toArray, ?_, .agg ?_⟩
    ·simp only [hn, Option.bind_some];rw [cellsAt_eq, ← e, if_pos hl];rfl
    ·simpa using (hr.drop off).take n
   ·cases h
  ·cases h
 ·rename_i ha;rw [ha];obtain ⟨u, h1, h2⟩ := hr.get off q h;refine ⟨u, ?_, h2⟩;have e : (W.drop off).take 1 = (c.drop (k + off)).take 1 := by
   have := (List.getElem?_eq_some_iff.1 h1).1;rw [← hW, List.drop_take, List.drop_drop, List.take_take, Nat.min_eq_left (by omega)]
  have e2 : (W.drop off).take 1 = [u] := by
   rw [List.getElem?_eq_some_iff] at h1;obtain ⟨hlt, h1⟩ := h1;rw [List.drop_eq_getElem_cons hlt, List.take_succ_cons, List.take_zero, h1]
  simp only;rw [cellsAt_eq, ← e, e2];rfl
 ·cases h
theorem load_rel (hs : RS ρ S H F pbar bar) {t : TypeId} {p q : PV} {v : Value} (h : pLoad P S t p = some q) (hr : RV ρ S H F v p) : ∃ B x u, v = .pointer (some ⟨B, x, none⟩) ∧ aLoad P H t B x = some u ∧ RV ρ S H F u q := by
 unfold pLoad at h;split at h
 ·rename_i b i o;split at h
  ·rename_i e he;split at h
   ·rename_i cs hcs;cases hr with
    | tree h => cases h
    | goneP h1 => rw [h1] at he; cases he
    | @ptr _ _ _ B x c t' z hρ hg hx =>
     subst hx;refine ⟨B, i * z + o, ?_⟩;rcases hs.ent b e he with ⟨B', c', t'', z', a1, a2, a3⟩ | ⟨a1, _⟩
     ·rw [hρ] at a1; cases a1;rw [hg] at a2; cases a2;rcases a3 with ⟨_, cs', c1, c2, c3⟩ | ⟨_, _, _, _, c3⟩
      ·rw [c1] at hcs;cases i with
       | zero =>
        simp at hcs; subst hcs;obtain ⟨u, d1, d2⟩ := part_load (ρ := ρ) (S := S) (F := F) (k := 0) hg (W := c) (by rw [List.drop_zero, List.take_of_length_le (by have := c3.length; omega)]) c3 h;exact ⟨u, rfl, by simpa using d1, d2⟩
       | succ i => simp at hcs
      ·obtain ⟨d1, d2⟩ := c3.get i cs hcs;obtain ⟨u, d3, d4⟩ := part_load (ρ := ρ) (S := S) (F := F) hg (k := i * z) (cs := cs) (by rw [d1]) (RVs.tree d2) h;exact ⟨u, rfl, d3, d4⟩
     ·rw [hρ] at a1; cases a1
   ·cases h
  ·cases h
 ·rename_i els i o;split at h
  ·rename_i cs hcs;cases hr with
   | tree hr =>
    cases hr with
    | @slp b o' x _ _ c t' z _ hF hg hx he =>
     obtain ⟨d1, d2⟩ := he.get i cs hcs;subst hx;obtain ⟨u, d3, d4⟩ := part_load (ρ := ρ) (S := S) (F := F) hg (k := o' + i * z) (cs := cs) (by rw [← List.drop_drop, d1]) (RVs.tree d2) h;exact ⟨b, _, u, rfl, d3, d4⟩
  ·cases h
 ·cases h
theorem field_rel {t : TypeId} {i : Nat} {p q : PV} {v : Value} (h : pField P t p i = some q) (hr : RV ρ S H F v p) : ∃ u, aField P t v i = some u ∧ RV ρ S H F u q := by
 unfold pField at h;split at h
 ·rename_i fields hu;split at h
  ·rename_i cs;split at h
   ·rename_i f hf;cases hr with
    | tree h => cases h
    | @agg a _ hr =>
     obtain ⟨u, h1, h2⟩ := part_agg h hr;refine ⟨u, ?_, h2⟩;unfold aField;rw [hu];simp only [hf, Option.bind_some];exact h1
   ·cases h
  ·cases h
 ·cases h
theorem fieldAddr_rel {t : TypeId} {i : Nat} {p q : PV} {v : Value} (h : pFieldAddr P t p i = some q) (hr : RV ρ S H F v p) : ∃ u, aFieldAddr P t v i = some u ∧ RV ρ S H F u q := by
 unfold pFieldAddr at h;unfold aFieldAddr;split at h
 ·rename_i fields hu;rw [hu];split at h
  ·rename_i f hf;split at h
   ·rename_i k hk;split at h
    ·rename_i b j o;cases h;cases hr with
     | tree h => cases h
     | @ptr _ _ _ B x c t' z hρ hg hx => exact ⟨.pointer (some ⟨B, x + f.offset, none⟩), by simp only [hf, Option.bind_some, hk], .ptr hρ hg (by omega)⟩
     | @goneP _ _ _ B x h1 h2 => exact ⟨.pointer (some ⟨B, x + f.offset, none⟩), by simp only [hf, Option.bind_some, hk], .goneP h1 h2⟩
    ·rename_i els j o;cases h;cases hr with
     | tree hr => cases hr with
      | @slp B o' x _ _ c t' z _ hF hg hx he => exact ⟨.pointer (some ⟨B, x + f.offset, none⟩), by simp only [hf, Option.bind_some, hk], .tree (.slp hF hg (by omega) he)⟩
    ·cases h
   ·cases h
  ·cases h
 ·cases h
theorem extract_rel {i : Nat} {p q : PV} {v : Value} (h : pExtract p i = some q) (hr : RV ρ S H F v p) : ∃ u, aExtract v i = some u ∧ RV ρ S H F u q := by
 unfold pExtract at h;split at h
 ·cases hr with
  | tree h => cases h
  | tup hr =>
   obtain ⟨u, h1, h2⟩ := hr.get i q h;exact ⟨u, by unfold aExtract; simpa using h1, h2⟩
 ·cases h
theorem index_rel {t : TypeId} {p q x : PV} {v y : Value} (h : pIndex P t p x = some q) (hr : RV ρ S H F v p) (hx : RV ρ S H F y x) : ∃ u, aIndex P t v y = some u ∧ RV ρ S H F u q := by
 unfold pIndex at h;split at h
 ·rename_i k i;obtain rfl := RV.inv_int hx;unfold aIndex;split at h
  ·rename_i len elem hu;rw [hu];split at h
   ·rename_i cs;split at h
    ·rename_i hi;split at h
     ·rename_i n hn;cases hr with
      | tree h => cases h
      | agg hr =>
       obtain ⟨u, h1, h2⟩ := part_agg h hr;exact ⟨u, by simp only [if_pos hi, hn, Option.bind_some]; exact h1, h2⟩
     ·cases h
    ·cases h
   ·cases h
  ·rename_i hu;rw [hu];split at h
   ·rename_i s;obtain ⟨rfl, _⟩ := RV.inv_v hr;split at h
    ·rename_i hi;split at h
     ·rename_i b hb;cases h;exact ⟨_, by simp only [if_pos hi, hb, Option.map_some], .of_v rfl⟩
     ·cases h
    ·cases h
   ·cases h
  ·cases h
 ·cases h
theorem indexAddr_rel (hs : RS ρ S H F pbar bar) {t : TypeId} {p q x : PV} {v y : Value} (h : pIndexAddr P S t p x = some q) (hr : RV ρ S H F v p) (hx : RV ρ S H F y x) : ∃ u, aIndexAddr P t v y = some u ∧ RV ρ S H F u q := by
 unfold pIndexAddr at h;split at h
 ·rename_i k i;obtain rfl := RV.inv_int hx;unfold aIndexAddr;split at h
  ·rename_i elem hu;rw [hu];split at h
   ·rename_i b o n;split at h
    ·rename_i e he;split at h
     ·rename_i hc;obtain ⟨h1, h2, hz, hbx⟩ := hc;cases h;cases hr with
      | tree h => cases h
      | @lsl _ _ _ B x cap c t' z hρ hg hx hcap =>
       refine ⟨.pointer (some ⟨B, x + i.toNat * e.z, none⟩), ?_, ?_⟩
       ·simp only [hz, Option.map_some];rw [if_pos ⟨h1, h2⟩]
       ·rcases hs.ent b e he with ⟨B', c', t'', z', a1, a2, a3⟩ | ⟨a1, _⟩
        ·rw [hρ] at a1; cases a1;rw [hg] at a2; cases a2;rcases a3 with ⟨k, _⟩ | ⟨_, _, k, _, _⟩
         ·rw [hbx] at k; cases k
         ·subst k;exact .ptr hρ hg (by rw [hx, Nat.add_mul]; omega)
        ·rw [hρ] at a1; cases a1
      | lslN => omega
      | lslZ => omega
      | gone k => rw [he] at k; cases k
     ·cases h
    ·cases h
   ·rename_i els;split at h
    ·rename_i cs hcs;split at h
     ·rename_i hc;obtain ⟨h1, hz⟩ := hc;cases h;have hlt := (List.getElem?_eq_some_iff.1 hcs).1;cases hr with
      | tree hr =>
       cases hr with
       | slN => simp at hlt
       | slZ => simp at hlt
       | @sl B o n cap c t' z _ hF hg hz' hn hcap hel =>
        obtain ⟨d1, _⟩ := hel.get _ cs hcs;refine ⟨.pointer (some ⟨B, o + i.toNat * cs.length, none⟩), ?_, .tree (.slp hF hg (by rw [d1]; omega) hel)⟩;simp only [hz, Option.map_some];rw [if_pos ⟨h1, by omega⟩]
     ·cases h
    ·cases h
   ·cases h
  ·rename_i len elem hu;rw [hu];split at h
   ·rename_i z hz;split at h
    ·rename_i hi;split at h
     ·rename_i b j o;cases h;cases hr with
      | tree h => cases h
      | @ptr _ _ _ B x c t' z' hρ hg hx => exact ⟨.pointer (some ⟨B, x + i.toNat * z, none⟩), by simp only [if_pos hi, hz, Option.map_some], .ptr hρ hg (by omega)⟩
      | @goneP _ _ _ B x h1 h2 => exact ⟨.pointer (some ⟨B, x + i.toNat * z, none⟩), by simp only [if_pos hi, hz, Option.map_some], .goneP h1 h2⟩
     ·rename_i els j o;cases h;cases hr with
      | tree hr => cases hr with
       | @slp B o' x _ _ c t' z' _ hF hg hx he => exact ⟨.pointer (some ⟨B, x + i.toNat * z, none⟩), by simp only [if_pos hi, hz, Option.map_some], .tree (.slp hF hg (by omega) he)⟩
     ·cases h
    ·cases h
   ·cases h
  ·cases h
 ·cases h
end
end Go.Pev
namespace Go.Pev
open Go.Abu
section
variable {P : Program} {ρ : Nat → Option Nat} {S : St} {H : AH} {F : Nat → Prop} {pbar bar : Nat}
theorem toV_rel {v a : Value} {p : PV} (h : toV p = some a) (hr : RV ρ S H F v p) : v = a ∧ plain1 a = true := by
 unfold toV at h;split at h
 ·cases h; exact RV.inv_v hr
 ·cases h
theorem toVs_rel : ∀ {ps : List PV} {l vs : List Value}, toVs ps = some l → RVs ρ S H F vs ps → vs = l ∧ l.all plain1 = true
 | [], l, vs, h, hr => by cases h; cases hr; exact ⟨rfl, rfl⟩
 | p :: ps, l, vs, h, hr => by
  unfold toVs at h;split at h
  ·rename_i x hx;split at h
   ·rename_i xs hxs;cases h;cases hr with
    | cons h1 h2 =>
     obtain ⟨rfl, a1⟩ := toV_rel hx h1;obtain ⟨rfl, a2⟩ := toVs_rel hxs h2;exact ⟨rfl, by simp [a1, a2]⟩
   ·cases h
  ·cases h
theorem toVal_rel {v a : Value} {p : PV} (h : toVal p = some a) (hr : RV ρ S H F v p) : v = a ∧ plain a = true := by
 unfold toVal at h;split at h
 ·rename_i cs;rw [Option.map_eq_some_iff] at h;obtain ⟨l, hl, rfl⟩ := h;cases hr with
  | tree h => cases h
  | agg hr =>
   obtain ⟨h1, h2⟩ := toVs_rel hl hr;refine ⟨?_, by simpa [plain] using h2⟩
   rw [← h1]
 ·rename_i hp;obtain ⟨rfl, h2⟩ := toV_rel h hr;refine ⟨rfl, ?_⟩;cases v <;> first | exact h2 | (simp [plain1] at h2)
def EnvC (env : Env) : Prop := ∀ c v, env (.const c) = some v → v = c
theorem bin_rel {op : BinOp} {t : TypeId} {xo yo : Operand} {x y q : PV} {a b : Value} {env : Env} (he : EnvC env) (hy : env yo = some b) (h : pBin P op t xo yo x y = some q) (h1 : RV ρ S H F a x) (h2 : RV ρ S H F b y) :
  ∃ u, aBin P op t xo yo a b = some u ∧ RV ρ S H F u q := by
 unfold pBin at h;split at h
 ·rename_i a' ha;obtain ⟨rfl, _⟩ := toVal_rel ha h1;split at h
  ·rename_i b' hb;obtain ⟨rfl, _⟩ := toVal_rel hb h2;split at h
   ·rename_i r hr;split at h
    ·rename_i hp;cases h;exact ⟨r, hr, .of_v hp⟩
    ·cases h
   ·cases h
  ·cases h
 ·unfold pNil at h;split at h
  ·rename_i e hu;split at h
   ·have := he _ _ hy;subst this;split at h
    ·rename_i hn;have hs : ∃ p l c, a = .slice (some p) l c := by
      unfold notNilP at hn;split at hn
      ·cases h1 with
       | tree h1 => cases h1 with
        | sl => exact ⟨_, _, _, rfl⟩
      ·cases h1 with
       | tree h1 => cases h1
       | lsl => exact ⟨_, _, _, rfl⟩
       | gone => exact ⟨_, _, _, rfl⟩
      ·cases hn
     obtain ⟨p, l, c, rfl⟩ := hs;have hb : ∀ op, aBin P op t xo (.const (.slice none 0 0)) (.slice (some p) l c) (.slice none 0 0) = aBinS P op t xo (.const (.slice none 0 0)) (.slice (some p) l c) (.slice none 0 0) := fun op => by
      unfold aBin fBin; rfl
     have hnt : nilTest P t (.slice (some p) l c) (.slice none 0 0) = some false := by unfold nilTest; rw [hu]; rfl
     split at h
     ·cases h;refine ⟨.bool false, ?_, .of_v rfl⟩;rw [hb]; unfold aBinS; rw [if_neg (by simp [plain, plain1])]; simp only [hnt]; rfl
     ·cases h;refine ⟨.bool true, ?_, .of_v rfl⟩;rw [hb]; unfold aBinS; rw [if_neg (by simp [plain, plain1])]; simp only [hnt]; rfl
     ·cases h
    ·cases h
   ·cases h
  ·cases h
theorem len_rel {ts : Array TypeId} {t : TypeId} {x q : PV} {a : Value} (hs : RS ρ S H F pbar bar) (ht : ts.toList = [t]) (h : pLen P S t x = some q) (h1 : RV ρ S H F a x) : ∃ u, aLenB P H ts #[a] = some u ∧ RV ρ S H F u q := by
 have ht : ts[0]? = some t := by
  have : ts = #[t] := by apply Array.toList_inj.1; simpa using ht
  rw [this]; rfl
 unfold pLen at h;unfold aLenB;rw [ht];simp only [List.getElem?_toArray, List.getElem?_cons_zero];split at h
 ·rename_i hu;rw [hu];split at h
  ·cases h;obtain ⟨rfl, _⟩ := RV.inv_v h1;exact ⟨_, rfl, .of_v rfl⟩
  ·cases h
 ·rename_i n e hu;rw [hu];cases h;exact ⟨_, rfl, .of_v rfl⟩
 ·rename_i e hu;rw [hu];split at h
  ·cases h;cases h1 with
   | tree h1 => cases h1 <;> exact ⟨_, rfl, .of_v rfl⟩
  ·cases h;cases h1 with
   | tree h1 => cases h1 with
    | slN => exact ⟨_, rfl, .of_v rfl⟩
    | slZ => exact ⟨_, rfl, .of_v rfl⟩
    | sl _ _ _ hn => subst hn; exact ⟨_, rfl, .of_v rfl⟩
  ·cases h;cases h1 with
   | tree h1 => cases h1
   | _ => exact ⟨_, rfl, .of_v rfl⟩
  ·cases h
 ·rename_i k e hu;rw [hu];split at h
  ·rename_i b;split at h
   ·rename_i es hes;cases h;cases h1 with
    | tree h1 => cases h1
    | mp hρ =>
     obtain ⟨B, a1, a2⟩ := hs.emap b es hes;rw [hρ] at a1; cases a1;exact ⟨_, by simp only [a2]; rfl, .of_v rfl⟩
   ·cases h
  ·cases h
 ·cases h
theorem bnd_rel {y n : Nat} {p : PV} {v : Value} (h : bnd y p = some n) (hr : RV ρ S H F v p) : aBound v y = some n ∧ n ≤ y := by
 unfold bnd at h;split at h
 ·rename_i k i;obtain rfl := RV.inv_int hr;split at h
  ·rename_i hi;cases h;exact ⟨by simp only [aBound]; rw [if_pos hi], by omega⟩
  ·cases h
 ·cases h
def OptV (ρ : Nat → Option Nat) (S : St) (H : AH) (F : Nat → Prop) : Option Value → Option PV → Prop
 | none, none => True
 | some v, some p => RV ρ S H F v p
 | _, _ => False
def bd? (d y : Nat) : Option Value → Option Nat
 | none => some d
 | some v => aBound v y
theorem aBounds_eq (n cap : Nat) (lo hi : Option Value) : aBounds n cap lo hi none = (bd? n cap hi).bind fun h => (bd? 0 h lo).map fun l => (l, h, cap) := by
 cases hi <;> cases lo <;> rfl
theorem aBoundsU_eq (n lim : Nat) (lo hi : Option Value) : aBoundsU n lim lo hi none = (bd? n lim hi).bind fun h => (bd? 0 h lo).map fun l => (l, h, none) := by
 cases hi <;> cases lo <;> rfl
theorem bd_rel {d y k : Nat} {p : Option PV} {v : Option Value} (h : bnd? d y p = some k) (hr : OptV ρ S H F v p) (hd : d ≤ y) : bd? d y v = some k ∧ k ≤ y := by
 cases p with
 | none => cases v with
  | none => cases h; exact ⟨rfl, hd⟩
  | some => cases hr
 | some p => cases v with
  | none => cases hr
  | some v => exact bnd_rel (h := h) hr
theorem bd_up {d y y' k : Nat} {v : Option Value} (h : bd? d y v = some k) (hy : y ≤ y') : bd? d y' v = some k := by
 cases v with
 | none => exact h
 | some v =>
  simp only [bd?, aBound] at h ⊢;split at h
  ·split at h
   ·rename_i hi; cases h; rw [if_pos (by omega)]
   ·cases h
  ·cases h
theorem bounds_rel {n cap l h : Nat} {lo hi : Option PV} {lo' hi' : Option Value} (h1 : OptV ρ S H F lo' lo) (h2 : OptV ρ S H F hi' hi) (hh : bnd? n n hi = some h) (hl : bnd? 0 h lo = some l) (hn : n ≤ cap) :
  aBounds n cap lo' hi' none = some (l, h, cap) ∧ l ≤ h ∧ h ≤ n := by
 obtain ⟨a1, a2⟩ := bd_rel hh h2 (Nat.le_refl _);obtain ⟨b1, b2⟩ := bd_rel hl h1 (Nat.zero_le _);refine ⟨?_, b2, a2⟩;rw [aBounds_eq, bd_up a1 hn, Option.bind_some, b1];rfl
theorem boundsU_rel {n lim l h : Nat} {lo hi : Option PV} {lo' hi' : Option Value} (h1 : OptV ρ S H F lo' lo) (h2 : OptV ρ S H F hi' hi) (hh : bnd? n n hi = some h) (hl : bnd? 0 h lo = some l) (hn : n ≤ lim) :
  aBoundsU n lim lo' hi' none = some (l, h, none) ∧ l ≤ h ∧ h ≤ n := by
 obtain ⟨a1, a2⟩ := bd_rel hh h2 (Nat.le_refl _);obtain ⟨b1, b2⟩ := bd_rel hl h1 (Nat.zero_le _);refine ⟨?_, b2, a2⟩;rw [aBoundsU_eq, bd_up a1 hn, Option.bind_some, b1];rfl
theorem slice_known {t elem size : Nat} {B o n cap l h : Nat} {lo hi : Option PV} {lo' hi' : Option Value} (hu : P.underlying t = some (.slice elem)) (hz : szT P elem = some size)
  (h1 : OptV ρ S H F lo' lo) (h2 : OptV ρ S H F hi' hi) (hh : bnd? n n hi = some h) (hl : bnd? 0 h lo = some l) (hn : n ≤ cap) (hc : cap < capU) :
  aSlice P H t (.slice (some ⟨B, o, none⟩) n cap) lo' hi' none = some (.slice (some ⟨B, if cap = l then o else o + l * size, none⟩) (h - l) (cap - l)) ∧ l ≤ h ∧ h ≤ n := by
 obtain ⟨a1, a2, a3⟩ := bounds_rel h1 h2 hh hl hn;refine ⟨?_, a2, a3⟩;have hzz : aSliceZ P t (.slice (some ⟨B, o, none⟩) n cap) lo' hi' none = none := by
  unfold aSliceZ;rw [hu];simp only;split
  ·rename_i heq;split
   ·rename_i he; cases heq; omega
   ·rfl
  ·rfl
 unfold aSlice;rw [hzz];unfold aSlice0;rw [hu];simp only [hz, Option.bind_some];rw [if_neg (by omega), if_neg (by omega), a1];rfl
theorem slice_unknown {t elem size : Nat} {B o n l h : Nat} {c : List Value} {t' : TypeId} {z : Nat} {lo hi : Option PV} {lo' hi' : Option Value} (hu : P.underlying t = some (.slice elem)) (hz : szT P elem = some size)
  (h1 : OptV ρ S H F lo' lo) (h2 : OptV ρ S H F hi' hi) (hh : bnd? n n hi = some h) (hl : bnd? 0 h lo = some l) (hg : H.get B = some (.row c t' z)) (hzz : (z = size ∧ 0 < size) ∨ n = 0) (hc : c.length < capU) (hn : n < capU) :
  aSlice P H t (.slice (some ⟨B, o, none⟩) n capU) lo' hi' none = some (.slice (some ⟨B, o + l * size, none⟩) (h - l) capU) ∧ l ≤ h ∧ h ≤ n := by
 by_cases hn0 : n = 0
 ·subst hn0;obtain ⟨a1, a2, a3⟩ := bounds_rel h1 h2 hh hl (Nat.le_refl 0);refine ⟨?_, a2, a3⟩;have hl0 : l = 0 := by omega
  have hh0 : h = 0 := by omega
  subst hl0; subst hh0;unfold aSlice aSliceZ;rw [hu];simp only [if_true, hz, a1];simp
 ·have hzz := hzz.resolve_right hn0;obtain ⟨a1, a2, a3⟩ := boundsU_rel (lim := Nat.max n ((c.length - o) / size)) h1 h2 hh hl (Nat.le_max_left _ _);refine ⟨?_, a2, a3⟩;have hsz : aSliceZ P t (.slice (some ⟨B, o, none⟩) n capU) lo' hi' none = none := by
   unfold aSliceZ;rw [hu];simp only;split
   ·rename_i heq; cases heq; exact absurd rfl hn0
   ·rfl
  unfold aSlice;rw [hsz];unfold aSlice0;rw [hu];simp only [hz, Option.bind_some, if_true, hg];rw [if_pos ⟨hzz.1, hzz.2, Nat.max_lt.2 ⟨hn, Nat.lt_of_le_of_lt (Nat.le_trans (Nat.div_le_self _ _) (Nat.sub_le _ _)) hc⟩⟩, a1];rfl
theorem slice_rel (hs : RS ρ S H F pbar bar) {t : TypeId} {x q : PV} {a : Value} {lo hi : Option PV} {lo' hi' : Option Value} (h : pSlice P S t x lo hi = some q) (hr : RV ρ S H F a x) (h1 : OptV ρ S H F lo' lo) (h2 : OptV ρ S H F hi' hi) :
  ∃ u, aSlice P H t a lo' hi' none = some u ∧ RV ρ S H F u q := by
 unfold pSlice at h;split at h
 ·rename_i hu;split at h
  ·rename_i str;obtain ⟨rfl, _⟩ := RV.inv_v hr;split at h
   ·rename_i hh eh;split at h
    ·rename_i ll el;cases h;obtain ⟨a1, _, _⟩ := bounds_rel h1 h2 eh el (Nat.le_refl _);refine ⟨_, ?_, .of_v rfl⟩;unfold aSlice aSliceZ aSlice0;rw [hu];simp only [Option.isSome_none];rw [a1];rfl
    ·cases h
   ·cases h
  ·cases h
 ·rename_i elem hu;split at h
  ·split at h
   ·rename_i hh eh;split at h
    ·rename_i ll el;split at h
     ·rename_i z hz;cases h;cases hr with
      | tree hr => cases hr with
       | nilN =>
        obtain ⟨a1, _, _⟩ := bounds_rel h1 h2 eh el (Nat.le_refl _);refine ⟨.slice none 0 0, ?_, .tree .nilN⟩;unfold aSlice aSliceZ aSlice0;rw [hu];simp only [hz, Option.bind_some];rw [a1];rfl
       | @nilZ B o =>
        obtain ⟨a1, a2, a3⟩ := slice_known (B := B) (o := o) (H := H) hu hz h1 h2 eh el (Nat.le_refl 0) (by unfold capU; omega);have hl0 : ll = 0 := by omega
        have hh0 : hh = 0 := by omega
        subst hl0; subst hh0;exact ⟨_, a1, by simpa using .tree .nilZ⟩
     ·cases h
    ·cases h
   ·cases h
  ·rename_i els;split at h
   ·rename_i hh eh;split at h
    ·rename_i ll el;split at h
     ·rename_i hd;cases h;unfold headOk at hd;split at hd
      ·rename_i z hz;cases hr with
       | tree hr => cases hr with
        | slN =>
         obtain ⟨a1, a2, a3⟩ := bounds_rel h1 h2 eh el (Nat.le_refl _);refine ⟨.slice none 0 0, ?_, by simpa using .tree .slN⟩
         unfold aSlice aSliceZ aSlice0;rw [hu];simp only [hz, Option.bind_some];simp only [List.length_nil] at a1;rw [a1];rfl
        | @slZ B o =>
         obtain ⟨a1, a2, a3⟩ := slice_known (B := B) (o := o) (H := H) hu hz h1 h2 eh el (Nat.le_refl 0) (by unfold capU; omega);simp only [List.length_nil] at a1 a2 a3;have hl0 : ll = 0 := by omega
         have hh0 : hh = 0 := by omega
         subst hl0; subst hh0;exact ⟨_, a1, by simpa using .tree .slZ⟩
        | @sl B o n cap c t' z' _ hF hg hz' hn hcap he =>
         subst hn;have hzz : (z' = z ∧ 0 < z) ∨ els.length = 0 := by
          cases els with
          | nil => exact .inr rfl
          | cons cs r =>
           have := (he.get 0 cs rfl).1;have hd := of_decide_eq_true hd;exact .inl ⟨by omega, hd.2⟩
         have hsub : ∀ l h : Nat, l ≤ h → h ≤ els.length → ((els.drop l).take (h - l)).length = h - l := fun l h h1 h2 => by rw [List.length_take, List.length_drop]; omega
         rcases hcap with ⟨rfl, hcl⟩ | ⟨hle, hlt⟩
         ·have hlen := he.len;have : els.length < capU := by
           have h1 : els.length * 1 ≤ els.length * z' := Nat.mul_le_mul_left _ hz';rw [List.length_drop] at hlen;omega
          obtain ⟨a1, a2, a3⟩ := slice_unknown (o := o) hu hz h1 h2 eh el hg hzz hcl this;refine ⟨_, a1, .tree (.sl hF hg hz' (hsub _ _ a2 a3) (.inl ⟨rfl, hcl⟩) ?_)⟩;by_cases hl0 : ll = 0
          ·subst hl0;simpa using he.take hh
          ·have : z' = z := by
            rcases hzz with h | h
            ·exact h.1
            ·omega
           subst this;rw [← List.drop_drop];exact (he.drop ll (by omega)).take _
         ·obtain ⟨a1, a2, a3⟩ := slice_known (B := B) (o := o) (H := H) hu hz h1 h2 eh el hle hlt;refine ⟨_, a1, ?_⟩;by_cases hcl : cap = ll
          ·rw [if_pos hcl];have : hh = ll := by omega
           subst this;rw [Nat.sub_self, List.take_zero, hcl, Nat.sub_self];exact .tree .slZ
          ·rw [if_neg hcl];refine .tree (.sl hF hg hz' (hsub _ _ a2 a3) (.inr ⟨by omega, by omega⟩) ?_);by_cases hl0 : ll = 0
           ·subst hl0;simpa using he.take hh
           ·have : z' = z := by
             rcases hzz with h | h
             ·exact h.1
             ·omega
            subst this;rw [← List.drop_drop];exact (he.drop ll (by omega)).take _
      ·cases hd
     ·cases h
    ·cases h
   ·cases h
  ·rename_i b o n;split at h
   ·rename_i hh eh;split at h
    ·rename_i ll el;split at h
     ·rename_i e he;split at h
      ·rename_i hc;obtain ⟨hz, hbx, hz0, hle⟩ := hc;cases h;cases hr with
       | tree hr => cases hr
       | gone k => rw [k] at he; cases he
       | lslN =>
        obtain ⟨a1, a2, a3⟩ := bounds_rel h1 h2 eh el (Nat.le_refl _);have hl0 : ll = 0 := by omega
        have hh0 : hh = 0 := by omega
        subst hl0; subst hh0;refine ⟨.slice none 0 0, ?_, .lslN⟩;unfold aSlice aSliceZ aSlice0;rw [hu];simp only [hz, Option.bind_some];rw [a1];rfl
       | @lslZ _ _ B x =>
        obtain ⟨a1, a2, a3⟩ := slice_known (B := B) (o := x) (H := H) hu hz h1 h2 eh el (Nat.le_refl 0) (by unfold capU; omega);have hl0 : ll = 0 := by omega
        have hh0 : hh = 0 := by omega
        subst hl0; subst hh0;exact ⟨_, a1, by simpa using .lslZ⟩
       | @lsl _ _ _ B x cap c t' z hρ hg hx hcap =>
        have hze : z = e.z := by
         rcases hs.ent b e he with ⟨B', c', t'', z', a1, a2, a3⟩ | ⟨a1, _⟩
         ·rw [hρ] at a1; cases a1;rw [hg] at a2; cases a2;rcases a3 with ⟨k, _⟩ | ⟨_, _, k, _, _⟩
          ·rw [hbx] at k; cases k
          ·exact k
         ·rw [hρ] at a1; cases a1
        subst hze;rcases hcap with ⟨rfl, hcl⟩ | ⟨hle', hlt, hroom⟩
        ·have hn : n < capU := by
          rcases hs.ent b e he with ⟨B', c', t'', z', a1, a2, a3⟩ | ⟨a1, _⟩
          ·rw [hρ] at a1; cases a1;rw [hg] at a2; cases a2;rcases a3 with ⟨k, _⟩ | ⟨_, _, _, k, hel⟩
           ·rw [hbx] at k; cases k
           ·have h1 := hel.len;have h2 : e.els.length * 1 ≤ e.els.length * e.z := Nat.mul_le_mul_left _ k;omega
          ·rw [hρ] at a1; cases a1
         obtain ⟨a1, a2, a3⟩ := slice_unknown (o := x) hu hz h1 h2 eh el hg (.inl ⟨rfl, hz0⟩) hcl hn;exact ⟨_, a1, .lsl hρ hg (by rw [hx, Nat.add_mul]) (.inl ⟨rfl, hcl⟩)⟩
        ·obtain ⟨a1, a2, a3⟩ := slice_known (B := B) (o := x) (H := H) hu hz h1 h2 eh el hle' hlt;refine ⟨_, a1, ?_⟩;by_cases hcl : cap = ll
         ·rw [if_pos hcl];have : hh = ll := by omega
          subst this;rw [Nat.sub_self, hcl, Nat.sub_self];exact .lslZ
         ·rw [if_neg hcl];refine .lsl hρ hg (by rw [hx, Nat.add_mul]) (.inr ⟨by omega, by omega, ?_⟩);have : ll * e.z + (cap - ll) * e.z = cap * e.z := by rw [← Nat.add_mul]; congr 1; omega
          omega
      ·cases h
     ·cases h
    ·cases h
   ·cases h
  ·cases h
 ·cases h
theorem aBounds3 {n cap m h l : Nat} {lo : Option PV} {hi mx : PV} {lo' : Option Value} {vh vm : Value} (h1 : OptV ρ S H F lo' lo) (h2 : RV ρ S H F vh hi) (h3 : RV ρ S H F vm mx) (hm : bnd n mx = some m) (hh : bnd m hi = some h) (hl : bnd? 0 h lo = some l) (hn : n ≤ cap) :
  aBounds n cap lo' (some vh) (some vm) = some (l, h, m) ∧ aBoundsU n cap lo' (some vh) (some vm) = some (l, h, some m) ∧ l ≤ h ∧ h ≤ m ∧ m ≤ n := by
 obtain ⟨a1, a2⟩ := bnd_rel hm h3;obtain ⟨b1, b2⟩ := bnd_rel hh h2;obtain ⟨c1, c2⟩ := bd_rel hl h1 (Nat.zero_le _);have a1' : aBound vm cap = some m := bd_up (d := 0) (v := some vm) a1 hn;refine ⟨?_, ?_, c2, b2, a2⟩
 ·unfold aBounds;simp only [a1', b1, Option.bind_some];cases lo' with
  | none => simp only [Pev.bd?] at c1; cases c1; rfl
  | some v => simp only [Pev.bd?] at c1; simp only [c1]; rfl
 ·unfold aBoundsU;simp only [a1', Option.map_some, Option.bind_some, Option.getD_some, b1];cases lo' with
  | none => simp only [Pev.bd?] at c1; cases c1; rfl
  | some v => simp only [Pev.bd?] at c1; simp only [c1]; rfl
theorem slice3_rel {t : TypeId} {x q : PV} {a : Value} {lo : Option PV} {hi mx : PV} {lo' : Option Value} {vh vm : Value} (h : pSlice3 P t x lo hi mx = some q) (hr : RV ρ S H F a x) (h1 : OptV ρ S H F lo' lo) (h2 : RV ρ S H F vh hi) (h3 : RV ρ S H F vm mx) :
  ∃ u, aSlice P H t a lo' (some vh) (some vm) = some u ∧ RV ρ S H F u q := by
 have hZ : ∀ v, aSliceZ P t v lo' (some vh) (some vm) = none := fun v => by
  unfold aSliceZ;split
  ·split
   ·split <;> rfl
   ·rfl
  ·rfl
 unfold pSlice3 at h;unfold aSlice;rw [hZ];simp only;unfold aSlice0;split at h
 ·rename_i elem hu;split at h
  ·rename_i size hz;rw [hu];split at h
   ·rename_i els;split at h
    ·rename_i m em;split at h
     ·rename_i hh eh;split at h
      ·rename_i l el;split at h
       ·rename_i hd;cases h;obtain ⟨hne, hok, hz0⟩ := hd;cases hr with
        | tree hr => cases hr with
         | slN => cases hne
         | slZ => cases hne
         | @sl B o n cap c t' z' _ hF hg hz' hn hcap he =>
          subst hn;have hzz : z' = size := by
           cases els with
           | nil => cases hne
           | cons cs r =>
            have := (he.get 0 cs rfl).1;have := of_decide_eq_true hok;omega
          subst hzz;have hsub : ∀ l h : Nat, l ≤ h → h ≤ els.length → ((els.drop l).take (h - l)).length = h - l := fun l h h1 h2 => by rw [List.length_take, List.length_drop]; omega
          have fin : l ≤ hh → hh ≤ m → m ≤ els.length → m < capU → RV ρ S H F (.slice (some ⟨B, if m = l then o else o + l * z', none⟩) (hh - l) (m - l)) (.sl ((els.drop l).take (hh - l))) := fun c1 c2 c3 hmc => by
           by_cases hml : m = l
           ·rw [if_pos hml];have e1 : hh = l := by omega
            subst e1;rw [Nat.sub_self, List.take_zero, hml, Nat.sub_self];exact .tree .slZ
           ·rw [if_neg hml];refine .tree (.sl hF hg hz' (hsub _ _ c1 (by omega)) (.inr ⟨by omega, by omega⟩) ?_);rw [← List.drop_drop];exact (he.drop l (by omega)).take _
          rcases hcap with ⟨rfl, hcl⟩ | ⟨hle, hlt⟩
          ·have hlen := he.len;have hlU : els.length < capU := by
            have h1 : els.length * 1 ≤ els.length * z' := Nat.mul_le_mul_left _ hz';rw [List.length_drop] at hlen;omega
           obtain ⟨_, a1, c1, c2, c3⟩ := aBounds3 (cap := Nat.max els.length ((c.length - o) / z')) h1 h2 h3 em eh el (Nat.le_max_left _ _);refine ⟨_, ?_, fin c1 c2 c3 (by omega)⟩;simp only [hz, Option.bind_some, if_true, hg];rw [if_pos ⟨trivial, hz0, Nat.max_lt.2 ⟨hlU, Nat.lt_of_le_of_lt (Nat.le_trans (Nat.div_le_self _ _) (Nat.sub_le _ _)) hcl⟩⟩, a1];rfl
          ·obtain ⟨a1, _, c1, c2, c3⟩ := aBounds3 h1 h2 h3 em eh el hle;refine ⟨_, ?_, fin c1 c2 c3 (by omega)⟩;simp only [hz, Option.bind_some];rw [if_neg (by omega), if_neg (by omega), a1];rfl
       ·cases h
      ·cases h
     ·cases h
    ·cases h
   ·cases h
  ·cases h
 ·cases h
end
end Go.Pev
namespace Go.Pev
open Go.Abu
theorem fill_splice (off : Nat) : ∀ (l : List Value) (n : Nat) (as : Array Value), off + n + l.length ≤ as.size →
  ((l.zipIdx n).foldl (fun (cs : Array Value) (p : Value × Nat) => cs.setIfInBounds (off + p.2) p.1) as).toList = as.toList.take (off + n) ++ l ++ as.toList.drop (off + n + l.length)
 | [], n, as, h => by simp
 | x :: l, n, as, h => by
  simp only [List.length_cons] at h;rw [List.zipIdx_cons, List.foldl_cons, fill_splice off l (n + 1) _ (by simp; omega)];rw [Array.toList_setIfInBounds];have hlt : off + n < as.toList.length := by simp; omega
  have e1 : (as.toList.set (off + n) x).take (off + (n + 1)) = as.toList.take (off + n) ++ [x] := by
   rw [← Nat.add_assoc, List.take_succ_eq_append_getElem (by simpa using hlt), List.getElem_set_self, List.take_set_of_le (Nat.le_refl _)]
  have e2 : (as.toList.set (off + n) x).drop (off + (n + 1) + l.length) = as.toList.drop (off + n + (l.length + 1)) := by
   rw [List.drop_set_of_lt (by omega)]
   congr 1; omega
  rw [e1, e2, List.length_cons];simp
theorem wr_ok : ∀ (c : List Value) (i : Nat) (as : List Value), i + as.length ≤ c.length → wr c i as = some (c.take i ++ as ++ c.drop (i + as.length))
 | c, i, [], h => by rw [wr_nil]; simp
 | [], i, a :: as, h => by simp at h
 | x :: c, 0, a :: as, h => by
  simp only [List.length_cons] at h;rw [wr_zero, wr_ok c 0 as (by omega)];simp
 | x :: c, i + 1, a :: as, h => by
  simp only [List.length_cons] at h;rw [wr_succ, wr_ok c i (a :: as) (by simp only [List.length_cons]; omega)];simp only [List.take_succ_cons, List.cons_append, List.length_cons]
  congr 3
  rw [show i + 1 + (as.length + 1) = (i + (as.length + 1)) + 1 by omega, List.drop_succ_cons]
theorem el_splice (c vs : List Value) (k z o : Nat) (h1 : o + vs.length ≤ z) (h2 : k + z ≤ c.length) :
  c.take k ++ (((c.drop k).take z).take o ++ vs ++ ((c.drop k).take z).drop (o + vs.length)) ++ c.drop (k + z) = c.take (k + o) ++ vs ++ c.drop (k + o + vs.length) := by
 have e1 : c.take (k + o) = c.take k ++ ((c.drop k).take z).take o := by
  rw [List.take_take, Nat.min_eq_left (by omega), List.take_add]
 have e2 : c.drop (k + o + vs.length) = ((c.drop k).take z).drop (o + vs.length) ++ c.drop (k + z) := by
  have h := List.take_append_drop z (c.drop k);rw [List.drop_drop] at h;have : c.drop (k + o + vs.length) = (c.drop k).drop (o + vs.length) := by rw [List.drop_drop, Nat.add_assoc]
  rw [this, ← h, List.drop_append_of_le_length (by simp; omega)]
  congr 2
  rw [h]
 rw [e1, e2];simp
section
variable {P : Program} {ρ : Nat → Option Nat} {S : St} {H : AH} {F : Nat → Prop} {pbar bar : Nat}
theorem plain_cells {z : Value} (h : plain z = true) : z.cells.toList.all plain1 = true := by
 cases z <;> first | exact h | simpa [Value.cells, plain] using h
theorem zeroP_rel {t : TypeId} {p : PV} (h : zeroP P t = some p) : ∃ z, zeroT P t = some z ∧ z.cells.toList.all plain1 = true ∧ RVs ρ S H F z.cells.toList p.cells ∧ p.cells.all PV.sc = true := by
 unfold zeroP at h;split at h
 ·rename_i z hz;obtain ⟨a1, a2, a3⟩ := ofC_rel (ρ := ρ) (S := S) (H := H) (F := F) h;exact ⟨z, hz, plain_cells a1, cells_rel a2 a3, a3⟩
 ·cases h
structure Did (ρ : Nat → Option Nat) (S : St) (H : AH) (F : Nat → Prop) (pbar bar : Nat) (p : PV) (S' : St) (v : Value) (H' : AH) (ρ' : Nat → Option Nat) (F' : Nat → Prop) : Prop where
 rs : RS ρ' S' H' F' pbar bar
 out : Out ρ S H F ρ' S' H' F'
 rv : RV ρ' S' H' F' v p
theorem new_box (h : RS ρ S H F pbar bar) {c : List Value} {cs : List PV} {t : TypeId} {n : Nat} (hn : cs.length = n) (hr : RVs ρ S H F c cs) :
  ∃ H', aNewRow H c t n = some (H.next, H') ∧ Did ρ S H F pbar bar (.ptr S.next 0 0) (S.alloc ⟨[cs], t, n, true, false⟩) (.pointer (some ⟨H.next, 0, none⟩)) H' (up ρ S.next H.next) F := by
 obtain ⟨a1, a2⟩ := new_row (k := none) (e := ⟨[cs], t, n, true, false⟩) (H' := { next := H.next + 1, m := fun x => if x = H.next then some (.row c t n) else H.m x }) h (fun _ h => by cases h) rfl
  (by show (if H.next = H.next then _ else _) = _; rw [if_pos rfl]) (fun B hB _ => by show (if B = H.next then _ else _) = _; rw [if_neg (by omega)]; rfl)
  (.inl ⟨rfl, cs, rfl, hn, hr⟩) rfl (S.alloc ⟨[cs], t, n, true, false⟩) rfl (fun b => by rw [St.get_alloc]; simp) (fun _ => rfl)
 refine ⟨_, rfl, a1, a2, .ptr (up_self _ _) (c := c) (t := t) (z := n) ?_ (by omega)⟩;show (if H.next = H.next then _ else _) = _
 rw [if_pos rfl]
theorem box_rel (h : RS ρ S H F pbar bar) {t : TypeId} {x p : PV} {S' : St} {v : Value} (hb : pBox P S t x = some (p, S')) (hr : RV ρ S H F v x) :
  ∃ u H' ρ', aBox P H t v = some (.val u H') ∧ Did ρ S H F pbar bar p S' u H' ρ' F := by
 unfold pBox at hb;split at hb
 ·rename_i n hn;split at hb
  ·rename_i hc;cases hb;obtain ⟨H', e1, e2⟩ := new_box h (t := t) hc.1 (cells_rel hr hc.2);exact ⟨_, H', _, by unfold aBox; rw [hn, Option.bind_some, e1]; rfl, e2⟩
  ·cases hb
 ·cases hb
theorem alloc_rel (h : RS ρ S H F pbar bar) {t : TypeId} {p : PV} {S' : St} (hb : pAlloc P S t = some (p, S')) :
  ∃ u H' ρ', aAlloc P H t = some (.val u H') ∧ Did ρ S H F pbar bar p S' u H' ρ' F := by
 unfold pAlloc at hb;split at hb
 ·rename_i z hz;obtain ⟨zv, a1, a2, a3, a4⟩ := zeroP_rel (ρ := ρ) (S := S) (H := H) (F := F) hz;split at hb
  ·rename_i n hn;split at hb
   ·rename_i hc;cases hb;obtain ⟨H', e1, e2⟩ := new_box h (t := t) hc a3;exact ⟨_, H', _, by unfold aAlloc; rw [a1, Option.bind_some, hn, Option.bind_some, e1, Option.bind_some]; simp only; rw [if_pos a2], e2⟩
   ·cases hb
  ·cases hb
 ·cases hb
inductive PairsP (ρ : Nat → Option Nat) (S : St) (H : AH) (F : Nat → Prop) : List (Nat × Value) → List (Nat × PV) → Prop
 | nil : PairsP ρ S H F [] []
 | cons {i : Nat} {v : Value} {p : PV} {vs : List (Nat × Value)} {ps : List (Nat × PV)} (h : RV ρ S H F v p) (t : PairsP ρ S H F vs ps) : PairsP ρ S H F ((i, v) :: vs) ((i, p) :: ps)
theorem pairs_rel {f : PF} {env : Env} (he : EnvP ρ S H F f env) : ∀ {l : List (Nat × Operand)} {ps : List (Nat × PV)}, pairs f l = some ps → ∃ vs, pairEnv env l = some vs ∧ PairsP ρ S H F vs ps
 | [], ps, h => by cases h; exact ⟨[], rfl, .nil⟩
 | (i, x) :: l, ps, h => by
  unfold pairs at h;split at h
  ·rename_i p hp;split at h
   ·rename_i r hr;cases h;obtain ⟨v, a1, a2⟩ := he x p hp;obtain ⟨vs, b1, b2⟩ := pairs_rel he hr;exact ⟨(i, v) :: vs, by unfold pairEnv; rw [a1]; simp only [b1]; rfl, .cons a2 b2⟩
   ·cases h
  ·cases h
theorem fill_rel (pl : Nat → Option (Nat × Nat)) : ∀ {ps : List (Nat × PV)} {vs : List (Nat × Value)} {cs r : List PV} {as : Array Value}, PairsP ρ S H F vs ps → RVs ρ S H F as.toList cs → pFill pl cs ps = some r →
  ∃ a', Instr.fill pl as vs = some a' ∧ RVs ρ S H F a'.toList r
 | [], _, cs, r, as, .nil, h, e => by cases e; exact ⟨as, rfl, h⟩
 | (i, p) :: ps, (_, v) :: vs, cs, r, as, .cons hv t, h, e => by
  unfold pFill at e;split at e
  ·rename_i off n hpl;split at e
   ·rename_i hc;obtain ⟨c1, c2, c3⟩ := hc;have hcells := cells_rel hv c3;have hl := hcells.length;have hl' := h.length;have hsp : ((v.cells.zipIdx.foldl (fun cs (p : Value × Nat) => cs.setIfInBounds (off + p.2) p.1) as)).toList = as.toList.take off ++ v.cells.toList ++ as.toList.drop (off + v.cells.toList.length) := by
     have := fill_splice off v.cells.toList 0 as (by simp only [Array.length_toList] at hl hl' ⊢; omega);rw [← Array.foldl_toList, Array.toList_zipIdx];simpa using this
    obtain ⟨a', e1, e2⟩ := fill_rel pl t (as := v.cells.zipIdx.foldl (fun cs (p : Value × Nat) => cs.setIfInBounds (off + p.2) p.1) as) (by rw [hsp]; exact h.splice hcells off) e;refine ⟨a', ?_, e2⟩;unfold Instr.fill;rw [hpl];simp only [Array.length_toList] at hl hl';simp only;rw [if_neg (by simp; omega)];exact e1
   ·cases e
  ·cases e
theorem build_rel {t : TypeId} {ps : List (Nat × PV)} {vs : List (Nat × Value)} {q : PV} (h : pBuild P t ps = some q) (hr : PairsP ρ S H F vs ps) : ∃ u, aBuild P t vs = some u ∧ RV ρ S H F u q := by
 unfold pBuild at h;split at h
 ·rename_i z hz;obtain ⟨zv, a1, a2, a3, a4⟩ := zeroP_rel (ρ := ρ) (S := S) (H := H) (F := F) hz;split at h
  ·rename_i pl hpl;rw [Option.map_eq_some_iff] at h;obtain ⟨r, hf, rfl⟩ := h;obtain ⟨a', e1, e2⟩ := fill_rel pl hr a3 hf;exact ⟨.agg a', by unfold aBuild; rw [a1, Option.bind_some, if_pos a2, hpl, Option.bind_some, e1]; rfl, .agg e2⟩
  ·cases h
 ·cases h
theorem freeze_rel : ∀ (bs : List Nat) {S : St} {F : Nat → Prop}, RS ρ S H F pbar bar → ∃ F', RS ρ (freeze S bs) H F' pbar bar ∧ Out ρ S H F ρ (freeze S bs) H F' ∧ ∀ b e B, b ∈ bs → S.get b = some e → ρ b = some B → F' B
 | [], S, F, h => ⟨F, h, Out.refl, fun b e B hb => by simp at hb⟩
 | b :: bs, S, F, h => by
  unfold freeze;cases hg : S.get b with
  | none =>
   obtain ⟨F', a1, a2, a3⟩ := freeze_rel bs h;refine ⟨F', a1, a2, fun b' e B hb he hρ => ?_⟩;rcases List.mem_cons.1 hb with rfl | hb
   ·rw [hg] at he; cases he
   ·exact a3 b' e B hb he hρ
  | some e =>
   obtain ⟨r1, r2⟩ := freeze_row h hg;obtain ⟨F', a1, a2, a3⟩ := freeze_rel bs r1;refine ⟨F', a1, r2.trans a2, fun b' e' B hb he hρ => ?_⟩;rcases List.mem_cons.1 hb with rfl | hb
   ·exact a2.keep.sub B (.inr hρ)
   ·by_cases hbb : b' = b
    ·subst hbb; exact a2.keep.sub B (.inr hρ)
    ·exact a3 b' e' B hb (by rw [St.get_put, if_neg hbb]; exact he) hρ
theorem CapL.toT {c : List Value} {off n cap z : Nat} (h : CapL c off n cap z) : CapT c n cap := by
 rcases h with h | ⟨h1, h2, _⟩
 ·exact .inl h
 ·exact .inr ⟨h1, h2⟩
theorem deep0_rel (h : RS ρ S H F pbar bar) {F' : Nat → Prop} {p q : PV} {bs : List Nat} {v : Value} (hd : deep0 S p = some (q, bs)) (hr : RV ρ S H F v p) (hF : ∀ B, F B → F' B)
  (hb : ∀ b e B, b ∈ bs → S.get b = some e → ρ b = some B → F' B) : RT H F' v q := by
 have k : Keep H F H F' := ⟨hF, fun _ _ => rfl⟩;unfold deep0 at hd;split at hd
 ·cases hd; obtain ⟨rfl, h⟩ := RV.inv_v hr; exact .v h
 ·cases hd;cases hr with
  | tree hr => cases hr with
   | nilN => exact .slN
   | nilZ => exact .slZ
 ·cases hd;cases hr with
  | tree hr => exact hr.mono k
 ·rename_i b o n;split at hd
  ·rename_i e he;split at hd
   ·rename_i hc;cases hd;cases hr with
    | tree hr => cases hr
    | gone h' => rw [h'] at he; cases he
    | lslN => simpa using .slN
    | lslZ => simpa using .slZ
    | @lsl _ _ _ B x cap c t z hρ hg hx hcap =>
     rcases h.ent b e he with ⟨B', c', t'', z', a1, a2, a3⟩ | ⟨a1, _⟩
     ·rw [hρ] at a1; cases a1;rw [hg] at a2; cases a2;rcases a3 with ⟨k, _⟩ | ⟨_, _, _, hz, hel⟩
      ·rw [hc.2] at k; cases k
      ·subst hx;exact .sl (hb b e B (by simp) he hρ) hg hz (by rw [List.length_take, List.length_drop]; omega) hcap.toT ((((hel.mono k).drop o (by omega)).take n))
     ·rw [hρ] at a1; cases a1
   ·cases hd
  ·cases hd
 ·cases hd;cases hr with
  | tree hr => exact hr.mono k
 ·cases hd;cases hr with
  | tree hr => exact hr.mono k
  | fn h1 h2 =>
   refine .fn ?_ ?_
   ·rw [List.eq_nil_of_length_eq_zero h1.length]; exact .nil
   ·rw [List.eq_nil_of_length_eq_zero h2.length]; exact .nil
 ·cases hd
end
end Go.Pev
namespace Go.Pev
open Go.Abu
section
variable {P : Program} {ρ : Nat → Option Nat} {S : St} {H : AH} {F : Nat → Prop} {pbar bar : Nat}
def RA (H : AH) (F : Nat → Prop) (v : Value) (q : PV) : Prop := RT H F v q ∨ ∃ a cs, v = .agg a ∧ q = .agg cs ∧ RTs H F a.toList cs
theorem RA.rv {v : Value} {q : PV} (h : RA H F v q) : RV ρ S H F v q := by
 rcases h with h | ⟨a, cs, rfl, rfl, h⟩
 ·exact .tree h
 ·exact .agg (RVs.tree h)
theorem RA.cells {v : Value} {q : PV} (h : RA H F v q) : RTs H F v.cells.toList q.cells := by
 rcases h with h | ⟨a, cs, rfl, rfl, h⟩
 ·have h1 : v.cells = #[v] := by
   cases h with
   | v h => cases v <;> first | rfl | (simp [plain1] at h)
   | _ => rfl
  have h2 : q.cells = [q] := by cases h <;> rfl
  rw [h1, h2];exact .cons h .nil
 ·exact h
theorem RA.mono {H' : AH} {F' : Nat → Prop} (k : Keep H F H' F') {v : Value} {q : PV} (h : RA H F v q) : RA H' F' v q := by
 rcases h with h | ⟨a, cs, rfl, rfl, h⟩
 ·exact .inl (h.mono k)
 ·exact .inr ⟨a, cs, rfl, rfl, h.mono k⟩
theorem deep0L_rel (h : RS ρ S H F pbar bar) {F' : Nat → Prop} (hF : ∀ B, F B → F' B) : ∀ {ps qs : List PV} {bs : List Nat} {vs : List Value}, deep0L S ps = some (qs, bs) → RVs ρ S H F vs ps →
  (∀ b e B, b ∈ bs → S.get b = some e → ρ b = some B → F' B) → RTs H F' vs qs
 | [], qs, bs, vs, hd, hr, _ => by cases hd; cases hr; exact .nil
 | p :: ps, qs, bs, vs, hd, hr, hb => by
  unfold deep0L at hd;split at hd
  ·rename_i q b1 hq;split at hd
   ·rename_i qs' b2 hqs;cases hd;cases hr with
    | cons h1 h2 => exact .cons (deep0_rel h hq h1 hF fun b e B hm => hb b e B (List.mem_append_left _ hm)) (deep0L_rel h hF hqs h2 fun b e B hm => hb b e B (List.mem_append_right _ hm))
   ·cases hd
  ·cases hd
theorem deep1_rel (h : RS ρ S H F pbar bar) {F' : Nat → Prop} {p q : PV} {bs : List Nat} {v : Value} (hd : deep1 S p = some (q, bs)) (hr : RV ρ S H F v p) (hF : ∀ B, F B → F' B)
  (hb : ∀ b e B, b ∈ bs → S.get b = some e → ρ b = some B → F' B) : RT H F' v q := by
 unfold deep1 at hd;split at hd
 ·rename_i b i o;split at hd
  ·rename_i e he;split at hd
   ·rename_i hbox;split at hd
    ·rename_i cs hcs;split at hd
     ·rename_i qs b2 hqs;cases hd;cases hr with
      | tree hr => cases hr
      | goneP h' => rw [h'] at he; cases he
      | @ptr _ _ _ B x c t z hρ hg hx =>
       rcases h.ent b e he with ⟨B', c', t'', z', a1, a2, a3⟩ | ⟨a1, _⟩
       ·rw [hρ] at a1; cases a1;rw [hg] at a2; cases a2;rcases a3 with ⟨_, cs', k1, k2, k3⟩ | ⟨k, _⟩
        ·rw [hcs] at k1; cases k1;have ht := deep0L_rel h hF hqs k3 fun b e B hm => hb b e B (List.mem_cons_of_mem _ hm);have hl := ht.length;have hl' := k3.length;refine .slp (o := 0) (hb b e B (by simp) he hρ) hg (by omega) ?_;rw [List.drop_zero];have := REs.cons (H := H) (F := F') (rest := []) (els := []) ht (by omega : qs.length = z) .nil;simpa using this
        ·rw [hbox] at k; cases k
       ·rw [hρ] at a1; cases a1
     ·cases hd
    ·cases hd
   ·cases hd
  ·cases hd
 ·exact deep0_rel h hd hr hF hb
theorem deep1L_rel (h : RS ρ S H F pbar bar) {F' : Nat → Prop} (hF : ∀ B, F B → F' B) : ∀ {ps qs : List PV} {bs : List Nat} {vs : List Value}, deep1L S ps = some (qs, bs) → RVs ρ S H F vs ps →
  (∀ b e B, b ∈ bs → S.get b = some e → ρ b = some B → F' B) → RTs H F' vs qs
 | [], qs, bs, vs, hd, hr, _ => by cases hd; cases hr; exact .nil
 | p :: ps, qs, bs, vs, hd, hr, hb => by
  unfold deep1L at hd;split at hd
  ·rename_i q b1 hq;split at hd
   ·rename_i qs' b2 hqs;cases hd;cases hr with
    | cons h1 h2 => exact .cons (deep1_rel h hq h1 hF fun b e B hm => hb b e B (List.mem_append_left _ hm)) (deep1L_rel h hF hqs h2 fun b e B hm => hb b e B (List.mem_append_right _ hm))
   ·cases hd
  ·cases hd
theorem deep_rel (h : RS ρ S H F pbar bar) {F' : Nat → Prop} {p q : PV} {bs : List Nat} {v : Value} (hd : deep S p = some (q, bs)) (hr : RV ρ S H F v p) (hF : ∀ B, F B → F' B)
  (hb : ∀ b e B, b ∈ bs → S.get b = some e → ρ b = some B → F' B) : RA H F' v q := by
 unfold deep at hd;split at hd
 ·split at hd
  ·rename_i qs b1 hq;cases hd;cases hr with
   | tree hr => cases hr
   | agg hr => exact .inr ⟨_, _, rfl, rfl, deep0L_rel h hF hq hr hb⟩
  ·cases hd
 ·split at hd
  ·rename_i qa b1 hq;split at hd
   ·rename_i qc b2 hq2;cases hd;cases hr with
    | tree hr => cases hr with
     | fn h1 h2 => exact .inl (.fn (deep1L_rel h hF hq (RVs.tree h1) fun b e B hm => hb b e B (List.mem_append_left _ hm)) (deep1L_rel h hF hq2 (RVs.tree h2) fun b e B hm => hb b e B (List.mem_append_right _ hm)))
    | fn h1 h2 => exact .inl (.fn (deep1L_rel h hF hq h1 fun b e B hm => hb b e B (List.mem_append_left _ hm)) (deep1L_rel h hF hq2 h2 fun b e B hm => hb b e B (List.mem_append_right _ hm)))
   ·cases hd
  ·cases hd
 ·exact .inl (deep1_rel h hd hr hF hb)
theorem deeps_rel (h : RS ρ S H F pbar bar) {F' : Nat → Prop} (hF : ∀ B, F B → F' B) : ∀ {ps qs : List PV} {bs : List Nat} {vs : List Value}, deeps S ps = some (qs, bs) → RVs ρ S H F vs ps →
  (∀ b e B, b ∈ bs → S.get b = some e → ρ b = some B → F' B) → vs.length = qs.length ∧ ∀ (i : Nat) (q : PV), qs[i]? = some q → ∃ v, vs[i]? = some v ∧ RA H F' v q
 | [], qs, bs, vs, hd, hr, _ => by cases hd; cases hr; exact ⟨rfl, fun i q h => by simp at h⟩
 | p :: ps, qs, bs, vs, hd, hr, hb => by
  unfold deeps at hd;split at hd
  ·rename_i q b1 hq;split at hd
   ·rename_i qs' b2 hqs;cases hd;cases hr with
    | cons h1 h2 =>
     have k1 := deep_rel h hq h1 hF fun b e B hm => hb b e B (List.mem_append_left _ hm);obtain ⟨k2, k3⟩ := deeps_rel h hF hqs h2 fun b e B hm => hb b e B (List.mem_append_right _ hm);refine ⟨by simp [k2], fun i q' hi => ?_⟩;cases i with
     | zero => simp at hi; subst hi; exact ⟨_, by simp, k1⟩
     | succ i => simp at hi; obtain ⟨v, a1, a2⟩ := k3 i q' hi; exact ⟨v, by simpa using a1, a2⟩
   ·cases hd
  ·cases hd
theorem RS.empty (H : AH) : RS (fun _ => none) St.empty H (fun _ => False) 0 0 :=
 ⟨fun _ _ h => (by cases h), fun _ _ h => (by cases h), fun _ _ h => (by cases h), fun _ _ h => (by cases h), fun _ _ h => (by cases h), fun _ _ h => (by cases h), fun _ _ _ _ _ h => (by cases h), fun _ _ _ _ _ h => (by cases h), fun _ _ _ _ _ h => (by cases h),
  fun B _ h => h, fun _ h => h.elim, fun _ _ _ h => (by cases h), fun _ _ _ h => (by cases h), Nat.zero_le _, Nat.zero_le _, fun _ _ _ h => (by cases h)⟩
theorem zeroEl_rel {t : TypeId} {w : List PV} (h : zeroEl P t = some w) : ∃ z, zeroT P t = some z ∧ z.cells.toList.all plain1 = true ∧ RTs H F z.cells.toList w := by
 unfold zeroEl at h;split at h
 ·rename_i z hz;split at h
  ·rename_i q bs hq;cases h;unfold zeroP at hz;split at hz
   ·rename_i zv hzv;obtain ⟨a1, a2, _⟩ := ofC_rel (ρ := fun _ => none) (S := St.empty) (H := H) (F := fun _ => False) hz;have := (deep_rel (RS.empty H) (F' := F) hq a2 (fun _ h => h.elim) (fun b e B _ hg => by cases hg)).cells;exact ⟨zv, hzv, plain_cells a1, this⟩
   ·cases hz
  ·cases h
 ·cases h
theorem store_rel (h : RS ρ S H F pbar bar) {t : TypeId} {a x : PV} {S' : St} {va vx : Value} (hst : pStore P pbar S t a x = some S') (ha : RV ρ S H F va a) (hx : RV ρ S H F vx x) :
  ∃ B o H' F', va = .pointer (some ⟨B, o, none⟩) ∧ aStore P bar H t B o vx = some H' ∧ RS ρ S' H' F' pbar bar ∧ Out ρ S H F ρ S' H' F' := by
 unfold pStore at hst;split at hst
 ·rename_i b i o;split at hst
  ·rename_i e he;split at hst
   ·rename_i hc;obtain ⟨hf, hpb, hsz, hpos, hsc⟩ := hc;have hcells := cells_rel hx hsc;have hlen := hcells.length;have hones := ones_of_sc hcells hsc;split at hst
    ·rename_i cs hcs;split at hst
     ·rename_i hle;cases ha with
      | tree ha => cases ha
      | goneP h' => rw [h'] at he; cases he
      | @ptr _ _ _ B x' c t' z hρ hg hxx =>
       have hbar := h.bars b e B he hρ hpb;have hne : vx.cells.toList ≠ [] := by intro e; rw [e] at hlen; simp at hlen; omega
       have hst' : aStore P bar H t B x' vx = (wr c x' vx.cells.toList).map fun c' => H.put B (.row c' t' z) := by
        unfold aStore;rw [if_pos (by rw [hsz, ← hlen, Array.length_toList])];unfold aWrite;split
        ·rename_i e; exact absurd e hne
        ·rw [if_pos ⟨hbar, hones⟩, hg]
       have hput : ∀ c' : List Value, (H.put B (.row c' t' z)).get B = some (.row c' t' z) ∧ ∀ B', B' < H.next → B' ≠ B → (H.put B (.row c' t' z)).get B' = H.get B' := by
        intro c';refine ⟨?_, fun B' _ hne => ?_⟩
        ·show (if B = B then _ else _) = _; rw [if_pos rfl]
        ·show (if B' = B then _ else _) = _; rw [if_neg hne]; rfl
       split at hst
       ·rename_i hbox;cases hst;rcases h.ent b e he with ⟨B', c', t'', z', a1, a2, a3⟩ | ⟨a1, _⟩
        ·rw [hρ] at a1; cases a1;rw [hg] at a2; cases a2;rcases a3 with ⟨_, cs', k1, k2, k3⟩ | ⟨k, _⟩
         ·rw [k1] at hcs;cases i with
          | succ i => simp at hcs
          | zero =>
           simp at hcs; subst hcs;have hxo : x' = o := by omega
           subst hxo;have hcl := k3.length;have hw := wr_ok c x' vx.cells.toList (by omega);rw [hw] at hst';obtain ⟨p1, p2⟩ := hput (c.take x' ++ vx.cells.toList ++ c.drop (x' + vx.cells.toList.length));obtain ⟨r1, r2⟩ := put_row (e' := { e with els := e.els.set 0 (splice cs' x' x.cells) }) (H' := H.put B (.row (c.take x' ++ vx.cells.toList ++ c.drop (x' + vx.cells.toList.length)) t' z)) h he hf hρ hg rfl p1 (by simp only [List.length_append, List.length_take, List.length_drop]; omega) p2
            (.inl ⟨hbox, splice cs' x' x.cells, by rw [k1]; rfl, by unfold splice; simp only [List.length_append, List.length_take, List.length_drop]; omega, k3.splice hcells x'⟩) rfl rfl rfl hf
           exact ⟨B, x', _, F, rfl, hst', r1, r2⟩
         ·rw [hbox] at k; cases k
        ·rw [hρ] at a1; cases a1
       ·rename_i hbox;split at hst
        ·rename_i y bs hy;obtain ⟨F', r1, r2, r3⟩ := freeze_rel bs h;have hy' := (deep_rel h hy hx r2.keep.sub r3).cells;split at hst
         ·rename_i e' he';split at hst
          ·rename_i cs' hcs';split at hst
           ·rename_i hc';obtain ⟨f1, f2, f3, f4⟩ := hc';cases hst;have hyl := hy'.length;rcases r1.ent b e' he' with ⟨B', c', t'', z', a1, a2, a3⟩ | ⟨a1, _⟩
            ·rw [hρ] at a1; cases a1;rw [hg] at a2; cases a2;rcases a3 with ⟨k, _⟩ | ⟨_, k1, k2, k3, k4⟩
             ·rw [f2] at k; cases k
             ·obtain ⟨d1, d2⟩ := k4.get i cs' hcs';have hi := (List.getElem?_eq_some_iff.1 hcs').1;have hrow := k4.len;have hroom : i * z + z ≤ c.length := by
               have : (i + 1) * z ≤ e'.els.length * z := Nat.mul_le_mul_right _ hi;rw [Nat.add_mul, Nat.one_mul] at this;omega
              have hw := wr_ok c x' vx.cells.toList (by omega);rw [hw] at hst';obtain ⟨p1, p2⟩ := hput (c.take x' ++ vx.cells.toList ++ c.drop (x' + vx.cells.toList.length));have hset := k4.set i (splice cs' o y.cells) (((c.drop (i * z)).take z).take o ++ vx.cells.toList ++ ((c.drop (i * z)).take z).drop (o + vx.cells.toList.length)) hi
               (by unfold splice; simp only [List.length_append, List.length_take, List.length_drop]; omega)
               (by unfold splice; rw [hyl]; exact ((d2.take o).append hy').append (d2.drop _))
              rw [el_splice c vx.cells.toList (i * z) z o (by omega) hroom, ← hxx] at hset;obtain ⟨q1, q2⟩ := put_row (e' := { e' with els := e'.els.set i (splice cs' o y.cells) }) (H' := H.put B (.row (c.take x' ++ vx.cells.toList ++ c.drop (x' + vx.cells.toList.length)) t' z)) r1 he' f1 hρ hg rfl p1 (by simp only [List.length_append, List.length_take, List.length_drop]; omega) p2
               (.inr ⟨f2, k1, k2, k3, hset⟩) rfl rfl rfl f1
              exact ⟨B, x', _, F', rfl, hst', q1, r2.trans q2⟩
            ·rw [hρ] at a1; cases a1
           ·cases hst
          ·cases hst
         ·cases hst
        ·cases hst
     ·cases hst
    ·cases hst
   ·cases hst
  ·cases hst
 ·cases hst
end
end Go.Pev
namespace Go.Pev
open Go.Abu
section
variable {P : Program} {ρ : Nat → Option Nat} {S : St} {H : AH} {F : Nat → Prop} {pbar bar : Nat}
def kAlloc (S : St) (k : Option Nat) (e : Ent) : St := match k with
 | some b => (S.kill b).alloc e
 | none => S.alloc e
theorem new_list (h : RS ρ S H F pbar bar) {k : Option Nat} {els : List (List PV)} {ty : TypeId} {z : Nat} {H' : AH} {c : List Value} (hk : ∀ b, k = some b → ∃ e, S.get b = some e ∧ e.fz = false)
  (hn : H'.next = H.next + 1) (hg : H'.get H.next = some (.row c ty z)) (hs : ∀ B, B < H.next → (∀ b, k = some b → ρ b ≠ some B) → H'.get B = H.get B)
  (hz : 0 < z) (he : REs H F z c els) {cap : Nat} (hc : CapL c 0 els.length cap z) {S' : St} (hS : S' = kAlloc S k ⟨els, ty, z, false, false⟩) :
  Did ρ S H F pbar bar (.lsl S.next 0 els.length) S' (.slice (some ⟨H.next, 0, none⟩) els.length cap) H' (up ρ S.next H.next) F := by
 obtain ⟨a1, a2⟩ := new_row (e := ⟨els, ty, z, false, false⟩) h hk hn hg hs (.inr ⟨rfl, rfl, rfl, hz, he⟩) rfl S' (by subst hS; cases k <;> rfl)
  (fun b => by
   subst hS;cases k with
   | none => show (if b = S.next then _ else _) = _; simp; rfl
   | some b' =>
    show (if b = S.next then _ else if b = b' then _ else _) = _
    by_cases hb : b = b'
    ·subst hb; simp
    ·have : ¬ (some b' = some b) := fun e => hb (by cases e; rfl);rw [if_neg hb, if_neg this]; rfl)
  (fun b => by subst hS; cases k <;> rfl)
 exact ⟨a1, a2, .lsl (up_self _ _) hg (by omega) hc⟩
theorem new_empty (h : RS ρ S H F pbar bar) {k : Option Nat} {ty : TypeId} {z : Nat} {v : Value} (hv : v = .slice none 0 0 ∨ ∃ B o, v = .slice (some ⟨B, o, none⟩) 0 0) {S' : St}
  (hS : S' = kAlloc S k ⟨[], ty, z, false, false⟩) :
  Did ρ S H F pbar bar (.lsl S.next 0 0) S' v H ρ F := by
 have hrv : ∀ {S' : St}, RV ρ S' H F v (.lsl S.next 0 0) := by
  intro S';rcases hv with rfl | ⟨B, o, rfl⟩
  ·exact .lslN
  ·exact .lslZ
 cases k with
 | none =>
  subst hS;obtain ⟨a1, a2⟩ := new_ghost (e := ⟨[], ty, z, false, false⟩) h rfl rfl (S.alloc ⟨[], ty, z, false, false⟩) rfl (fun _ => rfl) (fun _ => rfl);exact ⟨a1, a2, hrv⟩
 | some b =>
  subst hS;obtain ⟨k1, k2⟩ := kill_row h b;obtain ⟨a1, a2⟩ := new_ghost (e := ⟨[], ty, z, false, false⟩) k1 rfl rfl ((S.kill b).alloc ⟨[], ty, z, false, false⟩) rfl (fun _ => rfl) (fun _ => rfl);exact ⟨a1, k2.trans a2, hrv⟩
theorem getM_alloc' {H : AH} {o : AObj} : (({ next := H.next + 1, m := fun x => if x = H.next then some o else H.m x } : AH)).get H.next = some o := by
 show (if H.next = H.next then _ else _) = _; rw [if_pos rfl]
theorem get_old {H : AH} {o : AObj} {B : Nat} (h : B < H.next) : (({ next := H.next + 1, m := fun x => if x = H.next then some o else H.m x } : AH)).get B = H.get B := by
 show (if B = H.next then _ else _) = _; rw [if_neg (by omega)]; rfl
theorem zerosOf_len (z : List Value) : ∀ n, (zerosOf z n).length = n * z.length
 | 0 => by simp [zerosOf]
 | n + 1 => by simp only [zerosOf, List.length_append, zerosOf_len z n, Nat.add_mul, Nat.one_mul]; omega
theorem zeros_rel {z : List Value} {w : List PV} (h : RTs H F z w) : ∀ n, REs H F w.length (zerosOf z n) (List.replicate n w)
 | 0 => .nil
 | n + 1 => by rw [List.replicate_succ]; exact .cons h rfl (zeros_rel h n)
theorem makeSlice_rel (h : RS ρ S H F pbar bar) {t : TypeId} {l c p : PV} {S' : St} {vl vc : Value} (hm : pMakeSlice P S t l c = some (p, S')) (hl : RV ρ S H F vl l) (hc : RV ρ S H F vc c) :
  ∃ u H' ρ', aMakeSlice P H t vl vc = some (.val u H') ∧ Did ρ S H F pbar bar p S' u H' ρ' F := by
 unfold pMakeSlice at hm;split at hm
 ·rename_i elem hel;have hu : P.underlying t = some (.slice elem) := by
   unfold elemOf at hel;split at hel
   ·rename_i hu; cases hel; exact hu
   ·cases hel
  split at hm
  ·rename_i info hi;split at hm
   ·rename_i z hz;split at hm
    ·rename_i k1 n;obtain rfl := RV.inv_int hl;split at hm
     ·rename_i k2 m;obtain rfl := RV.inv_int hc;split at hm
      ·rename_i hcond;obtain ⟨c1, c2, c3, c4, c5, c6, c7, c8⟩ := hcond;cases hm;obtain ⟨zv, z1, z2, z3⟩ := zeroEl_rel (H := H) (F := F) hz;have zl := z3.length;have hbm : (m.toNat : Int) = m := Int.toNat_of_nonneg (by omega);have hcap : m.toNat < capU := by unfold capU; omega
       have hrow := zeros_rel z3 m.toNat;rw [c5] at hrow;have hle : n.toNat ≤ m.toNat := by omega
       have hre : REs H F info.size (zerosOf zv.cells.toList m.toNat) (List.replicate n.toNat z) := by
        have := hrow.take n.toNat;rwa [List.take_replicate, Nat.min_eq_left hle] at this
       have hlen := zerosOf_len zv.cells.toList m.toNat;have did := new_list (k := none) (ty := elem) (cap := m.toNat) h (fun _ h => by cases h) rfl getM_alloc' (fun B hB _ => get_old hB) c6 hre
        (.inr ⟨by simpa using hle, hcap, by rw [hlen, zl, c5]; omega⟩) (S' := S.alloc ⟨List.replicate n.toNat z, elem, info.size, false, false⟩) rfl
       refine ⟨.slice (some ⟨H.next, 0, none⟩) n.toNat m.toNat, _, _, ?_, by simpa using did⟩
       unfold aMakeSlice;rw [hu];simp only [hi, Option.bind_some, z1];rw [if_pos ⟨c1, c2, c3, c4, by omega, z2⟩];rfl
      ·cases hm
     ·cases hm
    ·cases hm
   ·cases hm
  ·cases hm
 ·cases hm
theorem range_zeros (z : Array Value) (n : Nat) (hz : 0 < z.size) : ((Array.range (n * z.size)).map (z[· % z.size]!)).toList = zerosOf z.toList n := by
 rw [Array.toList_map, Array.toList_range];induction n with
 | zero => simp [zerosOf]
 | succ n ih =>
  rw [Nat.add_mul, Nat.one_mul, Nat.add_comm (n * z.size)];rw [List.range_eq_range', ← List.range'_append_1, List.map_append];unfold zerosOf
  congr 1
  ·apply List.ext_getElem
   ·simp
   ·intro i h1 h2;simp only [List.length_map, List.length_range'] at h1;simp only [List.getElem_map, List.getElem_range', Array.getElem_toList];rw [show (0 + 1 * i) % z.size = i by rw [Nat.mod_eq_of_lt (by omega)]; omega]
    exact getElem!_pos z i h1
  ·rw [← ih];apply List.ext_getElem
   ·simp
   ·intro i h1 h2;simp only [List.getElem_map, List.getElem_range', List.getElem_range]
    congr 1
    rw [show 0 + z.size + 1 * i = i + z.size by omega, Nat.add_mod_right]
end
end Go.Pev
namespace Go.Pev
open Go.Abu
section
variable {P : Program} {ρ : Nat → Option Nat} {S : St} {H : AH} {F : Nat → Prop} {pbar bar : Nat}
theorem ext_row (h : RS ρ S H F pbar bar) {H' : AH} {F' : Nat → Prop} (hn : H.next ≤ H'.next) (hk : Keep H F H' F') (hF : ∀ B, F' B → F B ∨ H.next ≤ B ∨ (B < H.next ∧ ¬ Own ρ S B)) (hlt : ∀ B, F' B → B < H'.next)
  (hs : ∀ B, Own ρ S B → H'.get B = H.get B) : RS ρ S H' F' pbar bar := by
 have rowk : ∀ b e B, S.get b = some e → ρ b = some B → H'.get B = H.get B := by
  intro b e B h1 h2;cases hz : e.fz with
  | false => exact hs B (.inl ⟨b, e, h1, hz, h2⟩)
  | true => exact hk.get B (h.froz b e B h1 hz h2)
 refine ⟨h.rdom, h.sdom, h.mdom, fun b B hb => Nat.lt_of_lt_of_le (h.lt b B hb) hn, fun b e hg => ?_, fun b es hg => ?_, h.inj, h.injM, h.injMM, fun B hO hB => ?_, hlt, h.bars, h.barsM, Nat.le_trans h.barn hn, h.pbarn, fun b e B h1 h2 h3 => hk.sub B (h.froz b e B h1 h2 h3)⟩
 ·rcases h.ent b e hg with ⟨B, c, t, z, a1, a2, a3⟩ | a
  ·refine .inl ⟨B, c, t, z, a1, by rw [rowk b e B hg a1]; exact a2, ?_⟩;rcases a3 with ⟨k1, cs, k2, k3, k4⟩ | ⟨k1, k2, k3, k4, k5⟩
   ·exact .inl ⟨k1, cs, k2, k3, k4.step ⟨fun _ _ h => h, Nat.le_refl _, fun _ _ h => h, fun b e B c t z _ h1 h2 h3 => ⟨c, by rw [rowk b e B h1 h2]; exact h3, rfl⟩, hk⟩ h.rdom⟩
   ·exact .inr ⟨k1, k2, k3, k4, k5.mono hk⟩
  ·exact .inr a
 ·obtain ⟨B, a1, a2⟩ := h.emap b es hg;exact ⟨B, a1, by rw [hs B (.inr ⟨b, es, hg, a1⟩)]; exact a2⟩
 ·rcases hF B hB with hB | hB | hB
  ·exact h.fix B hO hB
  ·rcases hO with ⟨b, e, a1, a2, a3⟩ | ⟨b, es, a1, a3⟩
   ·have := h.lt b B a3; omega
   ·have := h.lt b B a3; omega
  ·exact hB.2 hO
theorem grow_row (h : RS ρ S H F pbar bar) {H' : AH} (hn : H.next ≤ H'.next) (hg : ∀ B, B < H.next → H'.get B = H.get B) : RS ρ S H' F pbar bar ∧ Out ρ S H F ρ S H' F := by
 have hk : Keep H F H' F := ⟨fun _ h => h, fun B hb => hg B (h.flt B hb)⟩;refine ⟨ext_row h hn hk (fun B hb => .inl hb) (fun B hb => Nat.lt_of_lt_of_le (h.flt B hb) hn) (fun B hO => hg B ?_), ?_⟩
 ·rcases hO with ⟨b, e, _, _, a⟩ | ⟨b, e, _, a⟩ <;> exact h.lt b B a
 ·exact ⟨fun _ _ h => h, Nat.le_refl _, hn, fun _ _ h => h, fun b e' _ h => ⟨e', h, rfl, rfl, rfl, fun h => h⟩, fun b e' B c t z _ _ hρ hg' => ⟨c, by rw [hg B (h.lt b B hρ)]; exact hg', rfl⟩, hk, fun B hb => .inl hb, fun _ _ h => h, fun B hlt _ => hg B hlt, fun _ _ => rfl, fun _ _ h => h⟩
theorem elems_rel (h : RS ρ S H F pbar bar) {F' : Nat → Prop} (hF : ∀ B, F B → F' B) {n sz : Nat} : ∀ {ps : List (Nat × PV)} {vs : List (Nat × Value)} {els r : List (List PV)} {bs : List Nat} {as : Array Value},
  pElems S n els sz ps = some (r, bs) → PairsP ρ S H F vs ps → (∀ b e B, b ∈ bs → S.get b = some e → ρ b = some B → F' B) → REs H F' sz as.toList els → els.length = n → as.size = n * sz →
  ∃ a', Instr.fill (fun i => some (i * sz, sz)) as vs = some a' ∧ REs H F' sz a'.toList r ∧ r.length = n ∧ a'.size = n * sz
 | [], _, els, r, bs, as, hp, .nil, _, he, hn, ha => by cases hp; exact ⟨as, rfl, he, hn, ha⟩
 | (i, p) :: ps, (_, v) :: vs, els, r, bs, as, hp, .cons hv t, hb, he, hn, ha => by
  unfold pElems at hp;split at hp
  ·rename_i hi;split at hp
   ·rename_i w b1 hw;split at hp
    ·rename_i hl;split at hp
     ·rename_i l b2 hl2;cases hp;have hcell := (deep_rel h hw hv hF fun b e B hm => hb b e B (List.mem_append_left _ hm)).cells;have hcl := hcell.length;have hroom : i * sz + sz ≤ as.size := by
       have : (i + 1) * sz ≤ n * sz := Nat.mul_le_mul_right _ hi;rw [Nat.add_mul, Nat.one_mul] at this;omega
      have hvs : v.cells.toList.length = sz := by omega
      have hsp : ((v.cells.zipIdx.foldl (fun cs (p : Value × Nat) => cs.setIfInBounds (i * sz + p.2) p.1) as)).toList = as.toList.take (i * sz) ++ v.cells.toList ++ as.toList.drop (i * sz + sz) := by
       have := fill_splice (i * sz) v.cells.toList 0 as (by omega);rw [← Array.foldl_toList, Array.toList_zipIdx];rw [Nat.add_zero, hvs] at this;exact this
      have hset := he.set i w.cells v.cells.toList (by omega) hl hcell;rw [← hsp] at hset;obtain ⟨a', e1, e2, e3, e4⟩ := elems_rel h hF (as := v.cells.zipIdx.foldl (fun cs (p : Value × Nat) => cs.setIfInBounds (i * sz + p.2) p.1) as) hl2 t (fun b e B hm => hb b e B (List.mem_append_right _ hm)) hset
       (by simpa using hn) (by
        have := congrArg List.length hsp;simp only [Array.length_toList, List.length_append, List.length_take, List.length_drop] at this hvs;omega)
      refine ⟨a', ?_, e2, e3, e4⟩;unfold Instr.fill;simp only;rw [if_neg (by simp only [Array.length_toList] at hvs; simp; omega)];exact e1
     ·cases hp
    ·cases hp
   ·cases hp
  ·cases hp
theorem freeze_next : ∀ (bs : List Nat) (S : St), (freeze S bs).next = S.next
 | [], _ => rfl
 | b :: bs, S => by
  unfold freeze;split
  ·rw [freeze_next bs]; rfl
  ·exact freeze_next bs S
theorem buildSlice_rel (h : RS ρ S H F pbar bar) {t : TypeId} {n : Nat} {ps : List (Nat × PV)} {vs : List (Nat × Value)} {p : PV} {S' : St} (hb : pBuildSlice P S t n ps = some (p, S')) (hr : PairsP ρ S H F vs ps) :
  ∃ u H' ρ' F', aBuildSlice P H t n vs = some (.val u H') ∧ Did ρ S H F pbar bar p S' u H' ρ' F' := by
 unfold pBuildSlice at hb;split at hb
 ·rename_i elem hu;split at hb
  ·rename_i size hsz;split at hb
   ·rename_i hc;obtain ⟨c1, c2⟩ := hc;split at hb
    ·rename_i z hz;split at hb
     ·rename_i hzl;split at hb
      ·rename_i els bs hel;obtain ⟨F', r1, r2, r3⟩ := freeze_rel bs h;obtain ⟨zv, z1, z2, z3⟩ := zeroEl_rel (H := H) (F := F') hz;have zl := z3.length;have hzs : zv.cells.size = size := by simp only [Array.length_toList] at zl; omega
       have hstart : (if n * size = 0 then (#[] : Array Value) else (Array.range (n * size)).map (zv.cells[· % zv.cells.size]!)).toList = zerosOf zv.cells.toList n := by
        split
        ·rename_i h0;have : n = 0 := by
          rcases Nat.mul_eq_zero.1 h0 with h | h
          ·exact h
          ·omega
         subst this; rfl
        ·rw [← hzs]; exact range_zeros zv.cells n (by omega)
       have hrow := zeros_rel z3 n;rw [hzl, ← hstart] at hrow;obtain ⟨a', e1, e2, e3, e4⟩ := elems_rel h r2.keep.sub hel hr r3 hrow (by simp) (by
        have := congrArg List.length hstart;rw [Array.length_toList, zerosOf_len, zl, hzl] at this;exact this)
       have hn1 : n * 1 ≤ n * size := Nat.mul_le_mul_left _ c2;have did := new_list (k := none) (ty := elem) (cap := n) r1 (fun _ h => by cases h) rfl getM_alloc' (fun B hB _ => get_old hB) c2 e2
        (.inr ⟨by omega, by unfold capU; omega, by rw [Array.length_toList, e4]; omega⟩) (S' := (freeze S bs).alloc ⟨els, elem, size, false, false⟩) rfl
       rw [freeze_next, e3] at did;have hcall : aBuildSlice P H t n vs = some (.val (.slice (some ⟨H.next, 0, none⟩) n n) { next := H.next + 1, m := fun x => if x = H.next then some (.row a'.toList elem size) else H.m x }) := by
        unfold aBuildSlice;rw [hu];simp only [hsz, Option.bind_some];rw [if_neg (by omega)];simp only [z1, Option.bind_some];rw [if_pos (by simp [z2, hzs, c2])];rw [e1];rfl
       cases n with
       | zero =>
        cases hb;obtain ⟨g1, g2⟩ := grow_row h (H' := { next := H.next + 1, m := fun x => if x = H.next then some (.row a'.toList elem size) else H.m x }) (Nat.le_succ _) (fun B hB => get_old hB)
        exact ⟨_, _, ρ, F, hcall, ⟨g1, g2, .tree .nilZ⟩⟩
       | succ n =>
        cases hb;exact ⟨.slice (some ⟨H.next, 0, none⟩) (n + 1) (n + 1), _, _, F', hcall, ⟨did.rs, r2.trans did.out, did.rv⟩⟩
      ·cases hb
     ·cases hb
    ·cases hb
   ·cases hb
  ·cases hb
 ·cases hb
theorem bytes_rel {z : Nat} : ∀ {c : List Value} {els : List (List PV)} {l : List UInt8}, REs H F z c els → bytesP els = some l → bytesOf (c.take els.length) = some l
 | _, [], l, _, h => by cases h; rfl
 | _, cs :: els, l, .cons (vs := vs) (rest := rest) h1 hl t, h => by
  unfold bytesP at h;split at h
  ·rename_i heq; cases heq
  ·rename_i n r heq;cases heq;split at h
   ·rename_i l' hl';cases h;cases h1 with
    | cons a b =>
     cases b;cases a;rw [List.length_cons, List.cons_append, List.nil_append, List.take_succ_cons];unfold bytesOf;rw [bytes_rel t hl'];rfl
   ·cases h
  ·cases h
theorem bytes_one {z : Nat} {c : List Value} {els : List (List PV)} {l : List UInt8} (h : REs H F z c els) (hb : bytesP els = some l) : els.length ≤ c.length := by
 cases els with
 | nil => simp
 | cons cs els =>
  have hz : z = 1 := by
   have := (h.get 0 cs rfl).1;unfold bytesP at hb;split at hb
   ·rename_i heq; cases heq
   ·rename_i heq; cases heq; simpa using this.symm
   ·cases hb
  have := h.len;subst hz;omega
theorem byteEls_rel (s : ByteArray) : REs H F 1 (s.data.toList.map fun b => .int .u8 b.toNat) (byteEls s) := by
 unfold byteEls;induction s.data.toList with
 | nil => exact .nil
 | cons b r ih => exact .cons (vs := [.int .u8 b.toNat]) (.cons (.v rfl) .nil) rfl ih
theorem bytes_str {els : List (List PV)} {x : PV} {v : Value} (hs : RS ρ S H F pbar bar) (he : elsOf S x = some els) (hr : RV ρ S H F v x) {l : List UInt8} (hb : bytesP els = some l) :
  (v = .slice none 0 0 ∧ l = []) ∨ ∃ b o len cap, v = .slice (some ⟨b, o, none⟩) len cap ∧ (if len = 0 then some [] else rowCells H b o len).bind bytesOf = some l := by
 have key : ∀ {F' : Nat → Prop} {b o len cap : Nat} {c : List Value} {t : TypeId} {z : Nat}, H.get b = some (.row c t z) → REs H F' z (c.drop o) els → els.length = len →
   ∃ b' o' len' cap', (Value.slice (some ⟨b, o, none⟩) len cap) = .slice (some ⟨b', o', none⟩) len' cap' ∧ (if len' = 0 then some [] else rowCells H b' o' len').bind bytesOf = some l := by
  intro F' b o len cap c t z hg hel hlen;refine ⟨b, o, len, cap, rfl, ?_⟩;have h1 := bytes_rel hel hb;have h2 := bytes_one hel hb;rw [hlen] at h1 h2;split
  ·rename_i h0;subst h0;rw [List.take_zero] at h1;exact h1
  ·unfold rowCells;rw [hg];simp only;rw [cellsAt_eq, if_pos (by rw [List.length_take]; omega)];exact h1
 unfold elsOf at he;split at he
 ·cases he;cases hb;cases hr with
  | tree hr => cases hr with
   | nilN => exact .inl ⟨rfl, rfl⟩
   | @nilZ b o => exact .inr ⟨b, o, 0, 0, rfl, rfl⟩
 ·cases he;cases hr with
  | tree hr => cases hr with
   | slN => cases hb; exact .inl ⟨rfl, rfl⟩
   | @slZ b o => cases hb; exact .inr ⟨b, o, 0, 0, rfl, rfl⟩
   | sl hF hg hz hn hc hel => exact .inr (key hg hel hn)
 ·rename_i b o n;split at he
  ·rename_i e hge;split at he
   ·rename_i hle;cases he;cases hr with
    | tree hr => cases hr
    | gone h => rw [h] at hge; cases hge
    | lslN => rw [List.take_zero] at hb; cases hb; exact .inl ⟨rfl, rfl⟩
    | @lslZ _ _ B x => rw [List.take_zero] at hb; cases hb; exact .inr ⟨B, x, 0, 0, rfl, rfl⟩
    | @lsl _ _ _ B x cap c t z hρ hg hx hcap =>
     rcases hs.ent b e hge with ⟨B', c', t'', z', a1, a2, a3⟩ | ⟨a1, _⟩
     ·rw [hρ] at a1; cases a1;rw [hg] at a2; cases a2;rcases a3 with ⟨k, _⟩ | ⟨_, _, _, _, hel⟩
      ·rw [hle.2] at k; cases k
      ·subst hx;exact .inr (key hg ((hel.drop o (by omega)).take n) (by rw [List.length_take, List.length_drop]; omega))
     ·rw [hρ] at a1; cases a1
   ·cases he
  ·cases he
 ·cases he
end
end Go.Pev
namespace Go.Pev
open Go.Abu
section
variable {P : Program} {ρ : Nat → Option Nat} {S : St} {H : AH} {F : Nat → Prop} {pbar bar : Nat}
theorem Did.pure (hs : RS ρ S H F pbar bar) {v : Value} {p : PV} (h : RV ρ S H F v p) : Did ρ S H F pbar bar p S v H ρ F := ⟨hs, Out.refl, h⟩
theorem convert_rel (hs : RS ρ S H F pbar bar) {src dst : TypeId} {x p : PV} {S' : St} {v : Value} (h : pConvert P S src dst x = some (p, S')) (hr : RV ρ S H F v x) :
  ∃ u H' ρ', aConvert P H src dst v = some (.val u H') ∧ Did ρ S H F pbar bar p S' u H' ρ' F := by
 unfold pConvert at h;split at h
 ·rename_i ts hsrc;split at h
  ·rename_i k hdst;split at h
   ·rename_i k' n;cases h;obtain rfl := RV.inv_int hr;refine ⟨_, H, ρ, ?_, Did.pure hs (.of_v rfl)⟩;unfold aConvert;rw [hsrc, hdst]
   ·cases h
  ·rename_i e hdst;split at h
   ·rename_i str he;split at h
    ·rename_i hsz;cases h;obtain ⟨rfl, _⟩ := RV.inv_v hr;have hb := byteEls_rel (H := H) (F := F) str;have hl : (byteEls str).length = str.size := by unfold byteEls; simp
     have did := new_list (k := none) (ty := e) (cap := capU) hs (fun _ h => by cases h) rfl getM_alloc' (fun B hB _ => get_old hB) (by omega) hb
      (.inl ⟨rfl, by rw [List.length_map]; have : str.data.toList.length = str.size := by simp
                     unfold capU; omega⟩) (S' := S.alloc ⟨byteEls str, e, 1, false, false⟩) rfl
     rw [hl] at did;refine ⟨_, _, _, ?_, did⟩;unfold aConvert;rw [hsrc, hdst];simp only [he];rfl
    ·cases h
   ·cases h
  ·rename_i hdst;split at h
   ·rename_i str;cases h;obtain ⟨rfl, _⟩ := RV.inv_v hr;refine ⟨_, H, ρ, ?_, Did.pure hs (.of_v rfl)⟩;unfold aConvert;rw [hsrc, hdst]
   ·rename_i e x hne;split at h
    ·rename_i he;split at h
     ·rename_i els hel;split at h
      ·rename_i l hl;cases h;rcases bytes_str hs hel hr hl with ⟨rfl, rfl⟩ | ⟨b, o, len, cap, rfl, hb⟩
       ·refine ⟨_, H, ρ, ?_, Did.pure hs (.of_v rfl)⟩;unfold aConvert;rw [hsrc, hdst];simp only [he];rfl
       ·refine ⟨_, H, ρ, ?_, Did.pure hs (.of_v rfl)⟩;unfold aConvert;rw [hsrc, hdst];simp only [he];rw [hb];rfl
      ·cases h
     ·cases h
    ·cases h
   ·cases h
  ·cases h
 ·cases h
theorem first_rel (hs : RS ρ S H F pbar bar) {x : PV} {v : Value} {els : List (List PV)} {size : Nat} (hsz : 0 < size) (he : elsOf S x = some els) (hok : elsOk size els = true) (hr : RV ρ S H F v x) :
  ∃ l, aLen v = some els.length ∧ (∃ a b c, v = .slice a b c) ∧ aFirst H size els.length v = some l ∧ l.length = els.length * size ∧ REs H F size l els := by
 have key : ∀ {b o n cap : Nat} {c : List Value} {t : TypeId} {z : Nat}, H.get b = some (.row c t z) → REs H F z (c.drop o) els → els.length = n →
   ∃ l, aLen (.slice (some ⟨b, o, none⟩) n cap) = some els.length ∧ (∃ a b' c, (Value.slice (some ⟨b, o, none⟩) n cap) = .slice a b' c) ∧ aFirst H size els.length (.slice (some ⟨b, o, none⟩) n cap) = some l ∧ l.length = els.length * size ∧ REs H F size l els := by
  intro b o n cap c t z hg hel hn;cases els with
  | nil => exact ⟨[], by rw [← hn]; rfl, ⟨_, _, _, rfl⟩, by unfold aFirst; simp, by simp, .nil⟩
  | cons cs r =>
   have hz : z = size := by
    have := (hel.get 0 cs rfl).1;have := of_decide_eq_true (show decide (cs.length = size) = true from hok)
    omega
   subst hz;have hl := hel.len;have hlen : ((c.drop o).take ((cs :: r).length * z)).length = (cs :: r).length * z := by rw [List.length_take]; omega
   refine ⟨(c.drop o).take ((cs :: r).length * z), by rw [hn]; rfl, ⟨_, _, _, rfl⟩, ?_, hlen, hel.cut (by rw [List.take_take, Nat.min_self])⟩;unfold aFirst;have h0 : ¬ ((cs :: r).length * z = 0) := by
    intro h;rcases Nat.mul_eq_zero.1 h with h | h
    ·simp at h
    ·omega
   simp only;rw [if_neg h0];unfold rowCells;rw [hg];simp only;rw [cellsAt_eq, if_pos hlen]
 unfold elsOf at he;split at he
 ·cases he;cases hr with
  | tree hr => cases hr with
   | nilN => exact ⟨[], rfl, ⟨_, _, _, rfl⟩, rfl, by simp, .nil⟩
   | nilZ => exact ⟨[], rfl, ⟨_, _, _, rfl⟩, by unfold aFirst; simp, by simp, .nil⟩
 ·cases he;cases hr with
  | tree hr => cases hr with
   | slN => exact ⟨[], rfl, ⟨_, _, _, rfl⟩, rfl, by simp, .nil⟩
   | slZ => exact ⟨[], rfl, ⟨_, _, _, rfl⟩, by unfold aFirst; simp, by simp, .nil⟩
   | sl hF hg hz hn hc hel => exact key hg hel hn
 ·rename_i b o n;split at he
  ·rename_i e hge;split at he
   ·rename_i hle;cases he;cases hr with
    | tree hr => cases hr
    | gone h => rw [h] at hge; cases hge
    | lslN => rw [List.take_zero]; exact ⟨[], rfl, ⟨_, _, _, rfl⟩, rfl, by simp, .nil⟩
    | lslZ => rw [List.take_zero]; exact ⟨[], rfl, ⟨_, _, _, rfl⟩, by unfold aFirst; simp, by simp, .nil⟩
    | @lsl _ _ _ B x cap c t z hρ hg hx hcap =>
     rcases hs.ent b e hge with ⟨B', c', t'', z', a1, a2, a3⟩ | ⟨a1, _⟩
     ·rw [hρ] at a1; cases a1;rw [hg] at a2; cases a2;rcases a3 with ⟨k, _⟩ | ⟨_, _, _, _, hel⟩
      ·rw [hle.2] at k; cases k
      ·subst hx;exact key hg ((hel.drop o (by omega)).take n) (by rw [List.length_take, List.length_drop]; omega)
     ·rw [hρ] at a1; cases a1
   ·cases he
  ·cases he
 ·cases he
theorem appended_rel (hs : RS ρ S H F pbar bar) {xt : TypeId} {size bytes : Nat} {z : List PV} {zc : List Value} {y : PV} {v : Value} {new : List (List PV)} (hsz : 0 < size) (hz : RTs H F zc z) (hzl : z.length = size)
  (h : appEls P S xt size z bytes y = some new) (hr : RV ρ S H F v y) : ∃ l, aAppended P H xt size bytes zc v = some (new.length, l) ∧ l.length = new.length * size ∧ REs H F size l new := by
 unfold appEls at h;unfold aAppended;split at h
 ·rename_i e hu;rw [hu];split at h
  ·rename_i els hel;split at h
   ·rename_i hok;cases h;obtain ⟨l, a1, ⟨a, b, c, rfl⟩, a3, a4, a5⟩ := first_rel hs hsz hel hok hr;refine ⟨l, ?_, a4, a5⟩;simp only [a1, Option.bind_some, a3];rw [if_pos a4]
   ·cases h
  ·cases h
 ·rename_i hu;rw [hu];split at h
  ·rename_i str;split at h
   ·rename_i h1;cases h;obtain ⟨rfl, _⟩ := RV.inv_v hr;subst h1;have hl : (byteEls str).length = str.size := by unfold byteEls; simp
    have hl2 : str.data.toList.length = str.size := by simp
    refine ⟨str.data.toList.map fun b => .int .u8 b.toNat, ?_, by rw [hl]; simp, byteEls_rel str⟩;simp only [aLen, Option.bind_some, aFirst];rw [List.take_of_length_le (by omega), if_pos (by rw [List.length_map]; omega), hl]
   ·cases h
  ·cases h
 ·rename_i k hu;rw [hu];split at h
  ·rename_i n;split at h
   ·rename_i hc;cases h;obtain rfl := RV.inv_int hr;refine ⟨zerosOf zc n.toNat, ?_, ?_, ?_⟩
    ·simp only;rw [if_pos hc, List.length_replicate]
    ·rw [zerosOf_len, hz.length, hzl, List.length_replicate]
    ·have := zeros_rel hz n.toNat;rw [hzl] at this;exact this
   ·cases h
  ·cases h
 ·cases h
theorem append_rel (hs : RS ρ S H F pbar bar) {ts : Array TypeId} {st xt : TypeId} {x y p : PV} {S' : St} {vx vy : Value} (hts : ts.toList = [st, xt]) (h : pAppend P pbar S st xt x y = some (p, S')) (hx : RV ρ S H F vx x) (hy : RV ρ S H F vy y) :
  ∃ u H' ρ', aAppend P bar H ts #[vx, vy] = some (.val u H') ∧ Did ρ S H F pbar bar p S' u H' ρ' F := by
 unfold pAppend at h;split at h
 ·rename_i elem hu;split at h
  ·rename_i size hsz;split at h
   ·rename_i info hi;split at h
    ·rename_i z hz;split at h
     ·rename_i hc;obtain ⟨c1, c2, c3, c4⟩ := hc;obtain ⟨zv, z1, z2, z3⟩ := zeroEl_rel (H := H) (F := F) hz;have zl := z3.length;split at h
      ·rename_i new hnew;obtain ⟨l, e1, e2, e3⟩ := appended_rel hs c1 z3 c3 hnew hy;have hA : aAppend P bar H ts #[vx, vy] = aAppS bar H elem size info.bytes new.length l vx := by
        unfold aAppend;rw [hts];simp only;rw [hu];simp only [hsz, hi, z1, Option.bind_some];rw [if_neg (by simp only [not_or]; refine ⟨by omega, by omega, by simp [z2], by omega⟩), e1];rfl
       rw [hA];have hlones : l.all one = true := by
        have := ones_of_els e3;rwa [List.take_of_length_le (by omega)] at this
       have capB : ∀ {n : Nat} {c : List Value}, n * info.bytes ≤ 140737488355328 → c.length = n * size → c.length < capU := by
        intro n c hb hcl;have h1 : n * 1 ≤ n * info.bytes := Nat.mul_le_mul_left _ c4;have h2 : n * size ≤ 140737488355328 * size := Nat.mul_le_mul_right _ (by omega);have h3 : 140737488355328 * size ≤ 140737488355328 * 65535 := Nat.mul_le_mul_left _ (by omega);unfold capU; omega
       have grow : ∀ {k : Option Nat} {old : List Value} {oe : List (List PV)} {n : Nat}, (∀ b, k = some b → ∃ e, S.get b = some e ∧ e.fz = false) → REs H F size old oe → oe.length = n → old.length = n * size → (n + new.length) * info.bytes ≤ 140737488355328 →
         ∀ {S' : St}, S' = kAlloc S k ⟨oe ++ new, elem, size, false, false⟩ →
         ∃ u H' ρ', aGrow H elem size info.bytes n new.length old l = some (.val u H') ∧ Did ρ S H F pbar bar (.lsl S.next 0 (n + new.length)) S' u H' ρ' F := by
        intro k old oe n hk hoe hon hol hb S' hS;have hre : REs H F size (old ++ l) (oe ++ new) := by
         have := hoe.append e3;rwa [List.take_of_length_le (by rw [hon]; omega)] at this
        have hlen : (oe ++ new).length = n + new.length := by rw [List.length_append, hon]
        have did := new_list (k := k) (ty := elem) (cap := capU) hs hk rfl getM_alloc' (fun B hB _ => get_old hB) c1 hre
         (.inl ⟨rfl, capB hb (by rw [List.length_append, hol, e2, Nat.add_mul])⟩) hS
        rw [hlen] at did;refine ⟨_, _, _, ?_, did⟩;unfold aGrow;rw [if_pos hb];rfl
       split at h
       ·split at h
        ·rename_i hb;cases h;by_cases hm : new = []
         ·subst hm;cases hx with
          | tree hx => cases hx with
           | nilN => exact ⟨_, H, ρ, rfl, new_empty hs (k := none) (.inl rfl) rfl⟩
           | nilZ => exact ⟨_, H, ρ, rfl, new_empty hs (k := none) (.inr ⟨_, _, rfl⟩) rfl⟩
         ·have hm' : new.length ≠ 0 := fun e => hm (List.eq_nil_of_length_eq_zero e);obtain ⟨u, H', ρ', g1, g2⟩ := grow (k := none) (old := []) (oe := []) (n := 0) (fun _ h => by cases h) .nil rfl (by simp) (by simpa using hb) rfl
          rw [Nat.zero_add] at g2;refine ⟨u, H', ρ', ?_, g2⟩;cases hx with
          | tree hx => cases hx with
           | nilN =>
            unfold aAppS;simp only;rw [if_neg hm'];exact g1
           | nilZ =>
            unfold aAppS;simp only;rw [if_neg hm', if_neg (by unfold capU; omega)];unfold aAppX;rw [if_neg (by omega)];exact g1
        ·cases h
       ·rename_i b o n;split at h
        ·rename_i e he;split at h
         ·rename_i hcc;obtain ⟨ho, hf, hpb, hbox, ⟨hty, hez⟩, hle, hb⟩ := hcc;cases h;subst ho;have hk : ∀ b', some b = some b' → ∃ e, S.get b' = some e ∧ e.fz = false := fun b' hb' => by cases hb'; exact ⟨e, he, hf⟩
          have hzero : ∀ {B x : Nat}, n = 0 → vx = .slice none 0 0 ∨ vx = .slice (some ⟨B, x, none⟩) 0 0 → ∃ u H' ρ', aAppS bar H elem size info.bytes new.length l vx = some (.val u H') ∧ Did ρ S H F pbar bar (.lsl S.next 0 (n + new.length)) ((S.kill b).alloc ⟨e.els.take n ++ new, elem, size, false, false⟩) u H' ρ' F := by
           intro B x hn0 hv;subst hn0;by_cases hm : new = []
           ·subst hm;rw [show e.els.take 0 ++ ([] : List (List PV)) = [] by simp]
            rcases hv with rfl | rfl
            ·exact ⟨_, H, ρ, rfl, new_empty hs (k := some b) (.inl rfl) rfl⟩
            ·exact ⟨_, H, ρ, rfl, new_empty hs (k := some b) (.inr ⟨_, _, rfl⟩) rfl⟩
           ·have hm' : new.length ≠ 0 := fun e => hm (List.eq_nil_of_length_eq_zero e);obtain ⟨u, H', ρ', g1, g2⟩ := grow (k := some b) (old := []) (oe := e.els.take 0) (n := 0) hk (by simpa using .nil) (by simp) (by simp) hb rfl
            refine ⟨u, H', ρ', ?_, g2⟩;rcases hv with rfl | rfl
            ·unfold aAppS;simp only;rw [if_neg hm'];exact g1
            ·unfold aAppS;simp only;rw [if_neg hm', if_neg (by unfold capU; omega)];unfold aAppX;rw [if_neg (by omega)];exact g1
          cases hx with
          | tree hx => cases hx
          | gone h => rw [h] at he; cases he
          | lslN => exact hzero (B := 0) (x := 0) rfl (.inl rfl)
          | lslZ => exact hzero rfl (.inr rfl)
          | @lsl _ _ _ B x' cap c t z' hρ hg hxx hcap =>
           have hbar := hs.bars b e B he hρ hpb;have hx0 : x' = 0 := by rw [hxx, Nat.zero_mul]
           subst hx0;rcases hs.ent b e he with ⟨B', c', t'', z'', a1, a2, a3⟩ | ⟨a1, _⟩
           ·rw [hρ] at a1; cases a1;rw [hg] at a2; cases a2;rcases a3 with ⟨k, _⟩ | ⟨_, k1, k2, k3, k4⟩
            ·rw [hbox] at k; cases k
            ·have hzs : z' = size := k2.trans hez;have hts' : t = elem := k1.trans hty;subst hzs; subst hts';have hrow := k4.len;have hnr : n * z' ≤ e.els.length * z' := Nat.mul_le_mul_right _ hle;have hold : REs H F z' (c.take (n * z')) (e.els.take n) := (k4.take n).cut (by rw [List.length_take, Nat.min_eq_left hle, List.take_take, Nat.min_self]);have holdl : (c.take (n * z')).length = n * z' := by rw [List.length_take]; omega
             have htl : (e.els.take n).length = n := by rw [List.length_take]; omega
             have haold : aOld H z' B 0 n = some (c.take (n * z')) := by
              unfold aOld;split
              ·rename_i h0; subst h0; simp
              ·unfold rowCells;rw [hg];simp only;rw [cellsAt_eq, List.drop_zero, if_pos holdl]
             have place : ∀ {cap' : Nat}, CapL c 0 (n + new.length) cap' z' → (n + new.length) * z' ≤ c.length → (l = [] ∨ True) →
               ∃ H' ρ', aWrite bar H B (0 + n * z') l = some H' ∧ Did ρ S H F pbar bar (.lsl S.next 0 (n + new.length)) ((S.kill b).alloc ⟨e.els.take n ++ new, t, z', false, false⟩) (.slice (some ⟨B, 0, none⟩) (n + new.length) cap') H' ρ' F := by
              intro cap' hcap' hroom _;rw [Nat.add_mul] at hroom;have hw := wr_ok c (0 + n * z') l (by omega);have hre : REs H F z' (c.take (0 + n * z') ++ l ++ c.drop (0 + n * z' + l.length)) (e.els.take n ++ new) := by
               rw [Nat.zero_add];have := hold.append e3;rw [htl, List.take_of_length_le (l := c.take (n * z')) (by omega)] at this;exact this.more _
              have hwr : aWrite bar H B (0 + n * z') l = some (if l = [] then H else H.put B (.row (c.take (0 + n * z') ++ l ++ c.drop (0 + n * z' + l.length)) t z')) := by
               unfold aWrite;split
               ·rw [if_pos rfl]
               ·rename_i hne;rw [if_pos ⟨hbar, hlones⟩, hg];simp only;rw [hw, if_neg (fun e => hne e)];rfl
              have hcl : (c.take (0 + n * z') ++ l ++ c.drop (0 + n * z' + l.length)).length = c.length := by
               simp only [List.length_append, List.length_take, List.length_drop]; omega
              have hsame : ∀ (H' : AH), H' = (if l = [] then H else H.put B (.row (c.take (0 + n * z') ++ l ++ c.drop (0 + n * z' + l.length)) t z')) →
                H'.next = H.next ∧ H'.get B = some (.row (c.take (0 + n * z') ++ l ++ c.drop (0 + n * z' + l.length)) t z') ∧ ∀ B', B' < H.next → B' ≠ B → H'.get B' = H.get B' := by
               intro H' hH;split at hH
               ·rename_i hl0;subst hH; subst hl0;refine ⟨rfl, ?_, fun _ _ _ => rfl⟩;rw [hg];simp
               ·subst hH;refine ⟨rfl, ?_, fun B' _ hne => ?_⟩
                ·show (if B = B then _ else _) = _; rw [if_pos rfl]
                ·show (if B' = B then _ else _) = _; rw [if_neg hne]; rfl
              obtain ⟨s1, s2, s3⟩ := hsame _ rfl;obtain ⟨r1, r2⟩ := rekey_row (e' := ⟨e.els.take n ++ new, t, z', false, false⟩) hs he hf hρ hg hpb s1 s2 s3 (.inr ⟨rfl, rfl, rfl, k3, hre⟩) rfl;refine ⟨_, _, hwr, r1, r2, .lsl (up_self _ _) s2 (by omega) ?_⟩;unfold CapL at hcap' ⊢;rw [hcl];exact hcap'
             by_cases hm : new = []
             ·subst hm;have hl0 : l = [] := List.eq_nil_of_length_eq_zero (by rw [e2]; simp);subst hl0;obtain ⟨H', ρ', g1, g2⟩ := place (cap' := cap) (by simpa using hcap) (by simp; omega) (.inl rfl)
              have hH' : H' = H := by
               have : aWrite bar H B (0 + n * z') [] = some H := rfl;rw [this] at g1; cases g1; rfl
              subst hH';refine ⟨_, _, ρ', ?_, g2⟩;unfold aAppS;simp
             ·have hm' : new.length ≠ 0 := fun e => hm (List.eq_nil_of_length_eq_zero e);unfold aAppS;simp only;rw [if_neg hm'];by_cases hcu : cap = capU
              ·rw [if_pos hcu];subst hcu;unfold aAppV;rw [hg];simp only;by_cases hroom : 0 + (n + new.length) * z' ≤ c.length
               ·rw [if_pos (by simpa using hroom)]
                obtain ⟨H', ρ', g1, g2⟩ := place (cap' := capU) (.inl ⟨rfl, by
                 rcases hcap with ⟨_, h⟩ | ⟨_, h, _⟩
                 ·exact h
                 ·omega⟩) (by omega) (.inr trivial)
                exact ⟨_, _, ρ', by rw [g1]; rfl, g2⟩
               ·rw [if_neg (fun h => hroom h.2)];unfold aAppU;rw [if_pos ⟨hbar, hb, hlones⟩, hg];simp only;rw [if_pos (by simp), haold];have hre : REs H F z' (c.take (n * z') ++ l) (e.els.take n ++ new) := by
                 have := hold.append e3;rwa [htl, List.take_of_length_le (l := c.take (n * z')) (by omega)] at this
                have did := new_list (k := some b) (ty := t) (cap := capU) hs hk (H' := { next := H.next + 1, m := fun x => if x = H.next then some (.row (c.take (n * z') ++ l) t z') else (H.put B .dead).m x }) rfl
                 (by show (if H.next = H.next then _ else _) = _; rw [if_pos rfl])
                 (fun B' hB' hne => by
                  have hBB : B' ≠ B := fun e => hne b rfl (by rw [hρ, e]);show (if B' = H.next then _ else if B' = B then _ else H.m B') = _
                  rw [if_neg (by omega), if_neg hBB]; rfl) c1 hre
                 (.inl ⟨rfl, capB hb (by rw [List.length_append, holdl, e2, Nat.add_mul])⟩) rfl
                rw [List.length_append, htl] at did;exact ⟨_, _, _, rfl, did⟩
              ·rw [if_neg hcu];rcases hcap with ⟨h, _⟩ | ⟨h1, h2, h3⟩
               ·exact absurd h hcu
               ·unfold aAppX;by_cases hroom : n + new.length ≤ cap
                ·rw [if_pos hroom];have : (n + new.length) * z' ≤ cap * z' := Nat.mul_le_mul_right _ hroom;obtain ⟨H', ρ', g1, g2⟩ := place (cap' := cap) (.inr ⟨hroom, h2, h3⟩) (by omega) (.inr trivial);exact ⟨_, _, ρ', by rw [g1]; rfl, g2⟩
                ·rw [if_neg hroom, haold, Option.bind_some];exact grow hk hold htl holdl hb rfl
           ·rw [hρ] at a1; cases a1
         ·cases h
        ·cases h
       ·cases h
      ·cases h
     ·cases h
    ·cases h
   ·cases h
  ·cases h
 ·cases h
end
end Go.Pev
