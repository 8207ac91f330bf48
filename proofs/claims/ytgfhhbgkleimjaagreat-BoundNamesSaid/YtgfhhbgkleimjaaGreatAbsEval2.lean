/- A machine that carries out code on values that are known, and the proof that the model's runs agree with it: one part. -/
import Derived.Test.YtgfhhbgkleimjaaGreatAbsEval
noncomputable section
namespace Go.Abs

/-- The cells of what is appended or copied: the first n elements. -/
def aFirst (H : AH) (size n : Nat) : Value → Option (List Value)
  | .slice none 0 0 => if n = 0 then some [] else none
  | .slice (some ⟨b, o, none⟩) _ _ => if n * size = 0 then some [] else rowCells H b o (n * size)
  | .string s => some ((s.data.toList.take n).map fun b => .int .u8 b.toNat)
  | _ => none

def aLen : Value → Option Nat
  | .slice none 0 0 => some 0
  | .slice (some ⟨_, _, none⟩) n _ => some n
  | .string s => some s.size
  | _ => none

def isIntT (P : Program) (t : TypeId) : Bool :=
  match P.underlying t with
  | some (.int _) => true
  | _ => false

def zerosOf (z : List Value) : Nat → List Value
  | 0 => []
  | n + 1 => z ++ zerosOf z n

/-- What is appended: how many elements, and their cells. -/
def aAppended (P : Program) (H : AH) (xt : TypeId) (size bytes : Nat) (z : List Value) (x : Value) : Option (Nat × List Value) :=
  match P.underlying xt with
  | some (.int _) => match x with
    | .int .i64 n => if 0 ≤ n ∧ n * bytes ≤ 281474976710656 ∧ n < 9223372036854775808 then some (n.toNat, zerosOf z n.toNat) else none
    | _ => none
  | some (.slice _) => match x with
    | .slice _ _ _ => (aLen x).bind fun n => (aFirst H size n x).bind fun l => if l.length = n * size then some (n, l) else none
    | _ => none
  | some .string => match x with
    | .string _ => (aLen x).bind fun n => (aFirst H size n x).bind fun l => if l.length = n * size then some (n, l) else none
    | _ => none
  | _ => none

def aGrow (H : AH) (elem size bytes len n : Nat) (old new : List Value) : Option ARes :=
  if (len + n) * bytes ≤ 140737488355328 then
    (aNewRow H (old ++ new) elem size).map fun (b', H') => .val (.slice (some ⟨b', 0, none⟩) (len + n) capU) H'
  else none

def aOld (H : AH) (size b o len : Nat) : Option (List Value) := if len = 0 then some [] else rowCells H b o (len * size)

/-- Append to a slice whose capacity is not known: the old array is not used any more. -/
def aAppU (bar : Nat) (H : AH) (elem size bytes n : Nat) (new : List Value) (b o len : Nat) : Option ARes :=
  if bar ≤ b ∧ (len + n) * bytes ≤ 140737488355328 ∧ new.all one then
    match H.get b with
    | some (.row _ t zz) => if t = elem ∧ zz = size then
        (aOld H size b o len).bind fun old =>
        ((H.put b .dead).alloc (.row (old ++ new) elem size)).map fun H' => .val (.slice (some ⟨H.next, 0, none⟩) (len + n) capU) H'
      else none
    | _ => none
  else none

/-- Append to a slice whose capacity is not known, within what is known to be there. -/
def aAppV (bar : Nat) (H : AH) (elem size bytes n : Nat) (new : List Value) (b o len : Nat) : Option ARes :=
  match H.get b with
  | some (.row c _ zz) =>
    if zz = size ∧ o + (len + n) * size ≤ c.length then (aWrite bar H b (o + len * size) new).map fun H' => .val (.slice (some ⟨b, o, none⟩) (len + n) capU) H'
    else aAppU bar H elem size bytes n new b o len
  | _ => none

def aAppX (bar : Nat) (H : AH) (elem size bytes n : Nat) (new : List Value) (b o len cap : Nat) : Option ARes :=
  if len + n ≤ cap then (aWrite bar H b (o + len * size) new).map fun H' => .val (.slice (some ⟨b, o, none⟩) (len + n) cap) H'
  else (aOld H size b o len).bind fun old => aGrow H elem size bytes len n old new

def aAppS (bar : Nat) (H : AH) (elem size bytes n : Nat) (new : List Value) (s : Value) : Option ARes :=
  match s with
  | .slice none 0 0 => if n = 0 then some (.val (.slice none 0 0) H) else aGrow H elem size bytes 0 n [] new
  | .slice (some ⟨b, o, none⟩) len cap =>
    if n = 0 then some (.val (.slice (some ⟨b, o, none⟩) len cap) H)
    else if cap = capU then aAppV bar H elem size bytes n new b o len else aAppX bar H elem size bytes n new b o len cap
  | _ => none

def aAppend (P : Program) (bar : Nat) (H : AH) (ts : Array TypeId) (args : Array Value) : Option ARes :=
  match ts.toList, args.toList with
  | [st, xt], [s, x] =>
    match P.underlying st with
    | some (.slice elem) => (szT P elem).bind fun size => (P.info? elem).bind fun info => (zeroT P elem).bind fun zv =>
      if size = 0 ∨ zv.cells.toList.length ≠ size ∨ zv.cells.toList.all plain1 = false ∨ info.bytes = 0 then none else
      (aAppended P H xt size info.bytes zv.cells.toList x).bind fun p => aAppS bar H elem size info.bytes p.1 p.2 s
    | _ => none
  | _, _ => none

def aCopy (P : Program) (bar : Nat) (H : AH) (ts : Array TypeId) (args : Array Value) : Option ARes :=
  match ts[0]?, args[0]?, args[1]? with
  | some dt, some d, some s =>
    match P.underlying dt with
    | some (.slice elem) => (szT P elem).bind fun size => (aLen d).bind fun dl => (aLen s).bind fun sl =>
      let n := Nat.min sl dl
      (aFirst H size n s).bind fun cells =>
      match d with
      | .slice none 0 0 => some (.val (goInt n) H)
      | .slice (some ⟨b, o, none⟩) _ _ => (aWrite bar H b o cells).map fun H' => .val (goInt n) H'
      | _ => none
    | _ => none
  | _, _, _ => none

def aLenB (P : Program) (H : AH) (ts : Array TypeId) (args : Array Value) : Option Value :=
  match ts[0]?, args[0]? with
  | some t, some x =>
    match P.underlying t, x with
    | some .string, .string s => some (goInt s.size)
    | some (.array n _), _ => some (goInt n)
    | some (.slice _), .slice none 0 0 => some (goInt 0)
    | some (.slice _), .slice (some _) n _ => some (goInt n)
    | some (.map _ _), .map none => some (goInt 0)
    | some (.map _ _), .map (some r) => match H.get r with
      | some (.map es _) => some (goInt es.length)
      | _ => none
    | _, _ => none
  | _, _ => none

def aCapB (P : Program) (ts : Array TypeId) (args : Array Value) : Option Value :=
  match ts[0]?, args[0]? with
  | some t, some x =>
    match P.underlying t, x with
    | some (.array n _), _ => some (goInt n)
    | some (.slice _), .slice none 0 0 => some (goInt 0)
    | some (.slice _), .slice (some _) _ c => if c = capU then none else some (goInt c)
    | _, _ => none
  | _, _ => none

def aClear (P : Program) (bar : Nat) (H : AH) (ts : Array TypeId) (args : Array Value) : Option AH :=
  match ts[0]?, args[0]? with
  | some t, some x =>
    match P.underlying t, x with
    | some (.slice _), .slice none 0 0 => some H
    | some (.slice elem), .slice (some ⟨b, o, none⟩) n _ => if n = 0 then some H else
      (zeroT P elem).bind fun zv => if zv.cells.toList.all plain1 then aWrite bar H b o (zerosOf zv.cells.toList n) else none
    | _, _ => none
  | _, _ => none

def bytesOf : List Value → Option (List UInt8)
  | [] => some []
  | .int .u8 n :: r => (bytesOf r).map (UInt8.ofNat n.toNat :: ·)
  | _ => none

def aConvert (P : Program) (H : AH) (src dst : TypeId) (x : Value) : Option ARes :=
  match P.underlying src, P.underlying dst, x with
  | some _, some (.int k), .int _ n => some (.val (.int k (k.wrap n)) H)
  | some .string, some (.slice e), .string s => match P.underlying e with
    | some (.int .u8) => (aNewRow H (s.data.toList.map fun b => .int .u8 b.toNat) e 1).map fun (b, H') => .val (.slice (some ⟨b, 0, none⟩) s.size capU) H'
    | _ => none
  | some (.slice e), some .string, .slice none 0 0 => match P.underlying e with
    | some (.int .u8) => some (.val (.string .empty) H)
    | _ => none
  | some (.slice e), some .string, .slice (some ⟨b, o, none⟩) len _ => match P.underlying e with
    | some (.int .u8) => ((if len = 0 then some [] else rowCells H b o len).bind bytesOf).map fun l => .val (.string ⟨l.toArray⟩) H
    | _ => none
  | some .string, some .string, .string s => some (.val (.string s) H)
  | _, _, _ => none

def aMakeSlice (P : Program) (H : AH) (t : TypeId) (len cap : Value) : Option ARes :=
  match P.underlying t, len, cap with
  | some (.slice elem), .int _ l, .int _ c =>
    (P.info? elem).bind fun info => (zeroT P elem).bind fun zv =>
      let z := zv.cells.toList
      if 0 ≤ l ∧ l ≤ c ∧ c < 9223372036854775808 ∧ info.bytes * c ≤ 281474976710656 ∧ z.length = info.size ∧ z.all plain1 = true then
        (aNewRow H (zerosOf z c.toNat) elem info.size).map fun (b, H') => .val (.slice (some ⟨b, 0, none⟩) l.toNat c.toNat) H'
      else none
  | _, _, _ => none

def aMakeMap (P : Program) (H : AH) (t : TypeId) (reserve : Option Value) : Option ARes :=
  (match reserve with
   | none => some ()
   | some (.int _ _) => match P.underlying t with | some (.map _ _) => some () | _ => none
   | some _ => none).bind fun _ => (H.alloc (.map [] 0)).map fun H' => .val (.map (some H.next)) H'

/-- Where a key stands among some entries. -/
def aFind (P : Program) (kt : TypeId) (k : Value) (es : List MapEntry) : Option (Option (Nat × Value)) :=
  pureRun P (Instr.findKey kt k es)

def keysPlain (es : List MapEntry) : Bool := es.all fun e => plain e.key

def aLookup (P : Program) (H : AH) (t : TypeId) (x k : Value) (ok : Bool) : Option Value :=
  match P.underlying t with
  | some (.map kt et) => (zeroT P et).bind fun z => if plain k && plain z then
      (match x with
       | .map none => some []
       | .map (some r) => match H.get r with
         | some (.map es _) => some es
         | _ => none
       | _ => none).bind fun es =>
      (pureRun P (Instr.checkKey es.isEmpty 10000 kt k)).bind fun _ =>
      if keysPlain es then
        (aFind P kt k es).map fun (f : Option (Nat × Value)) => match f with
          | some p => if ok then .tuple #[p.2, .bool true] else p.2
          | none => if ok then .tuple #[z, .bool false] else z
      else none
    else none
  | _ => none

def aMapUpdate (P : Program) (bar : Nat) (H : AH) (t : TypeId) (m k v : Value) : Option AH :=
  match P.underlying t, m with
  | some (.map kt _), .map (some r) => if plain k && decide (bar ≤ r) then
      match H.get r with
      | some (.map es ck) => if keysPlain es then
          (pureRun P (Instr.checkKey false 10000 kt k)).bind fun _ =>
          (aFind P kt k es).bind fun f => match f with
          | some (i, _) => match es[i]? with
            | some e => if Instr.sameBits 10000 e.key k then some (H.put r (.map (es.modify i fun e => { e with key := k, val := v }) ck)) else none
            | none => none
          | none => some (H.put r (.map (es ++ [{ key := k, val := v, born := ck }]) (ck + 1)))
        else none
      | _ => none
    else none
  | _, _ => none

def aDelete (P : Program) (bar : Nat) (H : AH) (ts : Array TypeId) (args : Array Value) : Option AH :=
  match ts[0]?, args[0]?, args[1]? with
  | some t, some m, some k =>
    match P.underlying t, m with
    | some (.map kt _), .map (some r) => if plain k && decide (bar ≤ r) then
        match H.get r with
        | some (.map es ck) => if keysPlain es then
            (pureRun P (Instr.checkKey es.isEmpty 10000 kt k)).bind fun _ =>
            (aFind P kt k es).map fun f => match f with
            | some (i, _) => H.put r (.map (es.eraseIdx i) ck)
            | none => H.put r (.map es ck)
          else none
        | _ => none
      else none
    | _, _ => none
  | _, _, _ => none

def aExtract (x : Value) (i : Nat) : Option Value :=
  match x with
  | .tuple vs => vs[i]?
  | _ => none

def aMakeIface (P : Program) (t : TypeId) (x : Value) : Option Value :=
  match P.underlying t with
  | some (.interface _) => none
  | some _ => some (.iface t x)
  | none => none

def aTypeAssert (P : Program) (x : Value) (_xt asserted : TypeId) (ok : Bool) : Option Value :=
  match P.underlying asserted, x with
  | some (.interface _), _ => none
  | some _, .iface t v => if t = asserted then some (if ok then .tuple #[v, .bool true] else v)
      else if ok then (zeroT P asserted).bind fun z => if plain z then some (.tuple #[z, .bool false]) else none else none
  | some _, .nilIface => if ok then (zeroT P asserted).bind fun z => if plain z then some (.tuple #[z, .bool false]) else none else none
  | _, _ => none

/-- A value, or some of them, without addresses. -/
def plainT : Value → Bool
  | .tuple vs => vs.toList.all plain1
  | v => plain1 v

def aCallFunc (P : Program) (H : AH) (f : FuncId) (args : List Value) : Option ARes :=
  match P.funcs[f]? with
  | some fn => if fn.body.isNone then
      (if args.all plain1 then (pureRun P (callFunc f args.toArray)).bind fun nx => match nx with
        | .value v => if plainT v then some (.val v H) else none
        | _ => none
      else none)
    else if fn.name == "runtime.NumGoroutine" then none else some (.call f args.toArray H)
  | none => none

def aBuiltin (P : Program) (bar : Nat) (H : AH) (b : Builtin) (ts : Array TypeId) (args : Array Value) : Option ARes :=
  match b with
  | .append => aAppend P bar H ts args
  | .copy => aCopy P bar H ts args
  | .len => val H (aLenB P H ts args)
  | .cap => val H (aCapB P ts args)
  | .clear => (aClear P bar H ts args).map (.val (.tuple #[]) ·)
  | .delete => (aDelete P bar H ts args).map (.val (.tuple #[]) ·)
  | .max => if args.toList.all plain1 then val H ((pureRun P (Builtin.max_ ts 0 args)).bind fun r => if plain1 r then some r else none) else none
  | .min => if args.toList.all plain1 then val H ((pureRun P (Builtin.min_ ts 0 args)).bind fun r => if plain1 r then some r else none) else none
  | _ => none

def aCall (P : Program) (bar : Nat) (ρ : Env) (H : AH) (c : Call) : Option ARes :=
  (mapEnv ρ c.args.toList).bind fun args =>
  match c.callee with
  | .builtin b => aBuiltin P bar H b c.argTypes args.toArray
  | .value f => match ρ f with
    | some (.func (.func f) first captured) => aCallFunc P H f (first.toList ++ args ++ captured.toList)
    | _ => none
  | .invoke _ _ => none

def aop (P : Program) (bar : Nat) (ρ : Env) (H : AH) (op : Op) : Option ARes :=
  match op with
  | .move x | .assign x => val H (ρ x)
  | .pick c a b => val H (aPick ρ c a b)
  | .alloc t => aAlloc P H t
  | .box t x => (ρ x).bind fun v => aBox P H t v
  | .build t parts => (pairEnv ρ parts.toList).bind fun ps => val H (aBuild P t ps)
  | .buildSlice t n parts => (pairEnv ρ parts.toList).bind fun ps => aBuildSlice P H t n ps
  | .load t a => match ρ a with
    | some (.pointer (some ⟨b, o, none⟩)) => val H (aLoad P H t b o)
    | _ => none
  | .store t a x => match ρ a, ρ x with
    | some (.pointer (some ⟨b, o, none⟩)), some v => (aStore P bar H t b o v).map (.val undef ·)
    | _, _ => none
  | .nilCheck x => (ρ x).bind fun v => val H (aNilCheck v)
  | .binOp op t x y _ => match ρ x, ρ y with
    | some a, some b => val H (aBin P op t x y a b)
    | _, _ => none
  | .unOp op _ x => (ρ x).bind fun v => if plain1 v then val H ((pureRun P (Op.unary op v)).bind fun r => if plain1 r then some r else none) else none
  | .convert s d x => (ρ x).bind fun v => aConvert P H s d v
  | .makeInterface t x => (ρ x).bind fun v => val H (aMakeIface P t v)
  | .makeFunc (.func fn) first captured => (mapEnv ρ first.toList).bind fun a => (mapEnv ρ captured.toList).bind fun b => val H (some (.func (.func fn) a.toArray b.toArray))
  | .makeMap t r => (optEnv ρ r).bind fun r => aMakeMap P H t r
  | .makeSlice t l c => match ρ l, ρ c with
    | some a, some b => aMakeSlice P H t a b
    | _, _ => none
  | .slice t x lo hi mx => (ρ x).bind fun v => (optEnv ρ lo).bind fun lo => (optEnv ρ hi).bind fun hi => (optEnv ρ mx).bind fun mx => val H (aSlice P H t v lo hi mx)
  | .fieldAddr t x i => (ρ x).bind fun v => val H (aFieldAddr P t v i)
  | .field t x i => (ρ x).bind fun v => val H (aField P t v i)
  | .indexAddr t x i => match ρ x, ρ i with
    | some a, some b => val H (aIndexAddr P t a b)
    | _, _ => none
  | .index t x i => match ρ x, ρ i with
    | some a, some b => val H (aIndex P t a b)
    | _, _ => none
  | .lookup t x i ok => match ρ x, ρ i with
    | some a, some b => val H (aLookup P H t a b ok)
    | _, _ => none
  | .mapUpdate t m k x => match ρ m, ρ k, ρ x with
    | some a, some b, some c => (aMapUpdate P bar H t a b c).map (.val undef ·)
    | _, _, _ => none
  | .insert t m k x => match ρ m, ρ k, ρ x with
    | some a, some b, some c => (aMapUpdate P bar H t a b c).map (.val undef ·)
    | _, _, _ => none
  | .typeAssert x xt t ok => (ρ x).bind fun v => val H (aTypeAssert P v xt t ok)
  | .extract x i => (ρ x).bind fun v => val H (aExtract v i)
  | .call c => aCall P bar ρ H c
  | _ => none

end Go.Abs
