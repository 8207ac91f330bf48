/- A machine that carries out code on values that are known, and the proof that the model's runs agree with it: one part. -/
import Derived.Test.YtfmbgbicbpoolaaGreatAbsOp
noncomputable section
namespace Go.Abs

/-- A frame: how many temporaries, and those that are known. -/
structure Fr where
  n : Nat
  m : Tr Value 10

def Fr.get (f : Fr) (t : Nat) : Option Value := if t < 1024 then Tr.get 10 f.m t else none
def Fr.put (f : Fr) (dst : Option Tmp) (v : Value) : Option Fr :=
  match dst with
  | none => some f
  | some d => if d < f.n then some { f with m := Tr.set 10 f.m d v } else none

def aev (f : Fr) : Operand → Option Value
  | .tmp t => f.get t
  | .const v => if plain v then some v else none
  | .func g => some (.func (.func g) #[] #[])
  | .global _ => none

inductive AExit where
  | normal
  | exit (id : Nat)
  | ret

/-- What the machine does at some functions, known otherwise. -/
abbrev Known := FuncId → Array Value → AH → Option (Value × AH)

abbrev Rec := Nat → Code → Fr → AH → Option (AExit × Fr × AH)

def wantedA (ops : Array Oper) (f : Fr) (o : Oper) : Option Bool :=
  match o.guard with
  | none => some true
  | some (j, want) => match (ops[j]?).bind (·.dst) with
    | none => none
    | some t => match f.get t with
      | some (.bool b) => some (b == want)
      | some (.tuple _) => some false
      | _ => none

def frInit (n : Nat) : Nat → List Value → Tr Value 10 → Tr Value 10
  | _, [], m => m
  | i, v :: vs, m => frInit n (i + 1) vs (Tr.set 10 m i v)

def resultsA (P : Program) (H : AH) (f : Fr) : List ResultVar → Option (List Value)
  | [] => some []
  | .tmp t :: rs => match f.get t with
    | some v => (resultsA P H f rs).map (v :: ·)
    | none => none
  | .cell a t :: rs => match f.get a with
    | some (.pointer (some ⟨b, o, none⟩)) => (aLoad P H t b o).bind fun v => (resultsA P H f rs).map (v :: ·)
    | _ => none

def packA : List Value → Value
  | [v] => v
  | vs => .tuple vs.toArray

def callA (P : Program) (K : Known) (rec : Rec) (bar : Nat) (g : FuncId) (args : Array Value) (H : AH) : Option (Value × AH) :=
  match K g args H with
  | some r => some r
  | none =>
    match P.funcs[g]? with
    | none => none
    | some fn => match fn.body with
      | none => none
      | some c => if args.size ≤ fn.ntmps ∧ fn.ntmps ≤ 1024 then
          match rec bar c ⟨fn.ntmps, frInit fn.ntmps 0 args.toList (Tr.empty 10)⟩ H with
          | some (.normal, f, H') => (resultsA P H' f fn.results.toList).map fun vs => (packA vs, H')
          | some (.ret, f, H') => (resultsA P H' f fn.results.toList).map fun vs => (packA vs, H')
          | _ => none
        else none

def operA (P : Program) (K : Known) (rec : Rec) (bar : Nat) (ops : Array Oper) (o : Oper) (f : Fr) (H : AH) : Option (Fr × AH) :=
  match wantedA ops f o with
  | none => none
  | some false => (f.put o.dst undef).map fun f => (f, H)
  | some true => match aop P bar (aev f) H o.op with
    | none => none
    | some (.val v H') => (f.put o.dst v).map fun f => (f, H')
    | some (.call g args H') => match callA P K rec bar g args H' with
      | none => none
      | some (v, H'') => (f.put o.dst v).map fun f => (f, H'')

def opersA (P : Program) (K : Known) (rec : Rec) (bar : Nat) (ops : Array Oper) : List Oper → Fr → AH → Option (Fr × AH)
  | [], f, H => some (f, H)
  | o :: os, f, H => match operA P K rec bar ops o f H with
    | none => none
    | some (f', H') => opersA P K rec bar ops os f' H'

/-! ## Regions that draw their order -/

/-- The operations before number m may be carried out in any order, each writes to nothing that was there before it; those from m on come after all before, one after the other. -/
def drawnA (P : Program) (K : Known) (rec : Rec) (bar m : Nat) (ops : Array Oper) : Nat → List Oper → Fr → AH → Option (Fr × AH)
  | _, [], f, H => some (f, H)
  | i, o :: os, f, H => match operA P K rec (if i < m then H.next else bar) ops o f H with
    | none => none
    | some (f', H') => drawnA P K rec bar m ops (i + 1) os f' H'

/-- Does the operation write, by its form? -/
def writes (W : FuncId → Bool) : Op → Bool
  | .store .. | .mapUpdate .. | .insert .. | .assign _ => true
  | .call { callee := .builtin .copy, .. } | .call { callee := .builtin .clear, .. } | .call { callee := .builtin .delete, .. } => true
  | .call { callee := .value (.func f), .. } => W f
  | _ => false

def suffixFrom (W : FuncId → Bool) : List Oper → Nat → Nat
  | [], i => i
  | o :: os, i => if writes W o.op then i else suffixFrom W os (i + 1)

/-- One node of the code; what is inside by 'rec'. 'dr' carries out a region that draws its order. -/
def stepA (P : Program) (K : Known) (dr : Rec → Nat → Array Oper → Fr → AH → Option (Fr × AH)) (rec : Rec) (bar : Nat) (c : Code) (f : Fr) (H : AH) : Option (AExit × Fr × AH) :=
  match c with
  | .skip => some (.normal, f, H)
  | .label _ => some (.normal, f, H)
  | .region _ ops draw =>
    if draw then (dr rec bar ops f H).map fun p => (.normal, p.1, p.2)
    else (opersA P K rec bar ops ops.toList f H).map fun p => (.normal, p.1, p.2)
  | .seq a b => match rec bar a f H with
    | some (.normal, f', H') => rec bar b f' H'
    | r => r
  | .cond x t e => match aev f x with
    | some (.bool b) => rec bar (if b then t else e) f H
    | _ => none
  | .block id b => match rec bar b f H with
    | some (.exit id', f', H') => if id' = id then some (.normal, f', H') else some (.exit id', f', H')
    | r => r
  | .loop b => match rec bar b f H with
    | some (.normal, f', H') => rec bar (.loop b) f' H'
    | r => r
  | .exit id => some (.exit id, f, H)
  | .ret => some (.ret, f, H)
  | .scope b => rec bar b f H
  | _ => none

def evalA (P : Program) (K : Known) (dr : Rec → Nat → Array Oper → Fr → AH → Option (Fr × AH)) : Nat → Rec
  | 0 => fun _ _ _ _ => none
  | n + 1 => stepA P K dr (evalA P K dr n)

end Go.Abs
