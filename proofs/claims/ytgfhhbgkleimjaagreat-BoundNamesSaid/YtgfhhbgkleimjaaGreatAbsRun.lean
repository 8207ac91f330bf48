/- A machine that carries out code on values that are known, and the proof that the model's runs agree with it: one part. -/
import Derived.Test.YtgfhhbgkleimjaaGreatAbsOp
noncomputable section
namespace Go.Abs

/-- A frame: how many temporaries, and those that are known. -/
structure Fr where
  n : Nat
  m : Tr Value 10
  ds : List Nat
  rd : Option Nat

def Fr.get (f : Fr) (t : Nat) : Option Value := if t < 1024 then Tr.get 10 f.m t else none
def Fr.put (f : Fr) (dst : Option Tmp) (v : Value) : Option Fr :=
  match dst with
  | none => some f
  | some d => if d < f.n then some { f with m := Tr.set 10 f.m d v } else none

def aev (f : Fr) : Operand → Option Value
  | .tmp t => f.get t
  | .const v => if plain v then some v else none
  | .func g => some (.func (.func g) #[] #[])
  | .global _ => none

inductive AExit where
  | normal
  | exit (id : Nat)
  | ret

/-- What the machine does at some functions, known otherwise. -/
abbrev Known := FuncId → Array Value → AH → Option (Value × AH)

abbrev Rec := Nat → Code → Fr → AH → Option (AExit × Fr × AH)

def wantedA (ops : Array Oper) (f : Fr) (o : Oper) : Option Bool :=
  match o.guard with
  | none => some true
  | some (j, want) => match (ops[j]?).bind (·.dst) with
    | none => none
    | some t => match f.get t with
      | some (.bool b) => some (b == want)
      | some (.tuple _) => some false
      | _ => none

def frInit (n : Nat) : Nat → List Value → Tr Value 10 → Tr Value 10
  | _, [], m => m
  | i, v :: vs, m => frInit n (i + 1) vs (Tr.set 10 m i v)

def resultsA (P : Program) (H : AH) (f : Fr) : List ResultVar → Option (List Value)
  | [] => some []
  | .tmp t :: rs => match f.get t with
    | some v => (resultsA P H f rs).map (v :: ·)
    | none => none
  | .cell a t :: rs => match f.get a with
    | some (.pointer (some ⟨b, o, none⟩)) => (aLoad P H t b o).bind fun v => (resultsA P H f rs).map (v :: ·)
    | _ => none

def packA : List Value → Value
  | [v] => v
  | vs => .tuple vs.toArray

/-- The marks among the deferred calls are taken. -/
def takeA (bar : Nat) : List Nat → AH → Option AH
  | [], H => some H
  | b :: bs, H => match H.get b with
    | some .mark => match Nat.ble bar b with
      | true => takeA bar bs (H.put b .dead)
      | false => none
    | _ => none

/-- A function's end. -/
def finA (P : Program) (bar : Nat) (rs : List ResultVar) (f : Fr) (H : AH) : Option (Value × AH) :=
  match takeA bar f.ds H with
  | none => none
  | some H' => (resultsA P H' f rs).map fun vs => (packA vs, H')

def callA (P : Program) (K : Known) (rec : Rec) (bar : Nat) (g : FuncId) (args : Array Value) (H : AH) : Option (Value × AH) :=
  match K g args H with
  | some r => some r
  | none =>
    match P.funcs[g]? with
    | none => none
    | some fn => match fn.body with
      | none => none
      | some c => if args.size ≤ fn.ntmps ∧ fn.ntmps ≤ 1024 then
          match rec bar c ⟨fn.ntmps, frInit fn.ntmps 0 args.toList (Tr.empty 10), [], none⟩ H with
          | some (.normal, f, H') => finA P bar fn.results.toList f H'
          | some (.ret, f, H') => finA P bar fn.results.toList f H'
          | _ => none
        else none

def operA (P : Program) (K : Known) (rec : Rec) (bar : Nat) (ops : Array Oper) (o : Oper) (f : Fr) (H : AH) : Option (Fr × AH) :=
  match wantedA ops f o with
  | none => none
  | some false => (f.put o.dst undef).map fun f => (f, H)
  | some true => match aop P bar (aev f) H o.op with
    | none => none
    | some (.val v H') => (f.put o.dst v).map fun f => (f, H')
    | some (.call g args H') => match callA P K rec bar g args H' with
      | none => none
      | some (v, H'') => (f.put o.dst v).map fun f => (f, H'')

/-! ## Ranges over functions -/

def Fr.puts (f : Fr) : List Tmp → List Value → Option Fr
  | [], [] => some f
  | t :: ts, v :: vs => match f.put (some t) v with
    | some f' => f'.puts ts vs
    | none => none
  | _, _ => none

/-- Is the operation a call of the function that goes on with a loop? -/
def yieldA (ρ : Env) (op : Op) : Option (Nat × List Value) :=
  match op with
  | .call c => match c.callee with
    | .value x => match ρ x with
      | some (.func (.yield b) _ _) => (mapEnv ρ c.args.toList).map (b, ·)
      | _ => none
    | _ => none
  | _ => none

/-- How a round has ended. -/
def jumpA : AExit → Option Code
  | .normal => none
  | .ret => some .ret
  | .exit id => some (.exit id)

/-- A round of a loop over a function. -/
def roundA (rec : Rec) (bar b : Nat) (args : List Value) (H : AH) : Option (Value × AH) :=
  match Nat.ble bar b with
  | false => none
  | true => match H.get b with
    | some (.loop .ready _ n m ps assign body) => match Fr.puts ⟨n, m, [], some b⟩ ps.toList args with
      | none => none
      | some f => match rec bar assign f H with
        | some (.normal, f₁, H₁) => match H₁.get b with
          | some (.loop .ready pd n₁ m₁ ps₁ as₁ bd₁) => match rec bar body f₁ (H₁.put b (.loop .busy pd n₁ m₁ ps₁ as₁ bd₁)) with
            | some (e, _, H₂) => match H₂.get b with
              | some (.loop _ _ n₂ m₂ ps₂ as₂ bd₂) => match jumpA e with
                | none => some (.bool true, H₂.put b (.loop .ready none n₂ m₂ ps₂ as₂ bd₂))
                | some j => some (.bool false, H₂.put b (.loop .done (some j) n₂ m₂ ps₂ as₂ bd₂))
              | _ => none
            | none => none
          | _ => none
        | _ => none
    | _ => none

/-- An operation where operations are carried out in turn: it may be a round of a loop. -/
def operY (P : Program) (K : Known) (rec : Rec) (bar : Nat) (ops : Array Oper) (o : Oper) (f : Fr) (H : AH) : Option (Fr × AH) :=
  match yieldA (aev f) o.op with
  | none => operA P K rec bar ops o f H
  | some (b, args) => match o.guard with
    | some _ => none
    | none => match roundA rec bar b args H with
      | none => none
      | some (v, H') => (f.put o.dst v).map fun f => (f, H')

/-- The loop's record is laid: where no loop is around it, a mark first. -/
def enterA (f : Fr) (ps : Array Tmp) (assign body : Code) (H : AH) : Option (Fr × AH) :=
  match f.rd with
  | none => match H.alloc .mark with
    | none => none
    | some H₁ => (H₁.alloc (.loop .ready none f.n f.m ps assign body)).map fun H₂ => ({ f with ds := H.next :: f.ds }, H₂)
  | some b => match H.get b with
    | some (.loop ..) => (H.alloc (.loop .ready none f.n f.m ps assign body)).map fun H₂ => (f, H₂)
    | _ => none

/-- How a loop's statement is left. -/
def leaveA : Option Code → Option AExit
  | none => some .normal
  | some .ret => some .ret
  | some (.exit id) => some (.exit id)
  | _ => none

def rangeA (P : Program) (K : Known) (rec : Rec) (bar : Nat) (x : Operand) (ps : Array Tmp) (assign body : Code) (f : Fr) (H : AH) : Option (AExit × Fr × AH) :=
  match aev f x with
  | some (.func (.func g) first captured) => match enterA f ps assign body H with
    | none => none
    | some (f', H₁) => match (match aCallFunc P H₁ g (first.toList ++ [.func (.yield (Nat.pred H₁.next)) #[] #[]] ++ captured.toList) with
        | some (.call g' args H₁') => callA P K rec bar g' args H₁'
        | _ => none) with
      | none => none
      | some (_, H₂) => match H₂.get (Nat.pred H₁.next) with
        | some (.loop st pd ..) => match st with
          | .busy => none
          | _ => match leaveA pd with
            | some e => some (e, f', H₂.put (Nat.pred H₁.next) .dead)
            | none => none
        | _ => none
  | _ => none

def opersA (P : Program) (K : Known) (rec : Rec) (bar : Nat) (ops : Array Oper) : List Oper → Fr → AH → Option (Fr × AH)
  | [], f, H => some (f, H)
  | o :: os, f, H => match operY P K rec bar ops o f H with
    | none => none
    | some (f', H') => opersA P K rec bar ops os f' H'

/-! ## Regions that draw their order -/

/-- The operations before number m may be carried out in any order, each writes to nothing that was there before it; those from m on come after all before, one after the other. -/
def drawnA (P : Program) (K : Known) (rec : Rec) (bar m : Nat) (ops : Array Oper) : Nat → List Oper → Fr → AH → Option (Fr × AH)
  | _, [], f, H => some (f, H)
  | i, o :: os, f, H => match operA P K rec (if i < m then H.next else bar) ops o f H with
    | none => none
    | some (f', H') => drawnA P K rec bar m ops (i + 1) os f' H'

/-- Does the operation write, by its form? -/
def writes (W : FuncId → Bool) : Op → Bool
  | .store .. | .mapUpdate .. | .insert .. | .assign _ => true
  | .call { callee := .builtin .copy, .. } | .call { callee := .builtin .clear, .. } | .call { callee := .builtin .delete, .. } => true
  | .call { callee := .value (.func f), .. } => W f
  | _ => false

def suffixFrom (W : FuncId → Bool) : List Oper → Nat → Nat
  | [], i => i
  | o :: os, i => if writes W o.op then i else suffixFrom W os (i + 1)

/-- One node of the code; what is inside by 'rec'. 'dr' carries out a region that draws its order. -/
def stepA (P : Program) (K : Known) (dr : Rec → Nat → Array Oper → Fr → AH → Option (Fr × AH)) (rec : Rec) (bar : Nat) (c : Code) (f : Fr) (H : AH) : Option (AExit × Fr × AH) :=
  match c with
  | .skip => some (.normal, f, H)
  | .label _ => some (.normal, f, H)
  | .region _ ops draw =>
    if draw then (dr rec bar ops f H).map fun p => (.normal, p.1, p.2)
    else (opersA P K rec bar ops ops.toList f H).map fun p => (.normal, p.1, p.2)
  | .seq a b => match rec bar a f H with
    | some (.normal, f', H') => rec bar b f' H'
    | r => r
  | .cond x t e => match aev f x with
    | some (.bool b) => rec bar (if b then t else e) f H
    | _ => none
  | .block id b => match rec bar b f H with
    | some (.exit id', f', H') => if id' = id then some (.normal, f', H') else some (.exit id', f', H')
    | r => r
  | .loop b => match rec bar b f H with
    | some (.normal, f', H') => rec bar (.loop b) f' H'
    | r => r
  | .exit id => some (.exit id, f, H)
  | .ret => some (.ret, f, H)
  | .scope b => rec bar b f H
  | .rangeFunc x ps assign body => rangeA P K rec bar x ps assign body f H
  | _ => none

def evalA (P : Program) (K : Known) (dr : Rec → Nat → Array Oper → Fr → AH → Option (Fr × AH)) : Nat → Rec
  | 0 => fun _ _ _ _ => none
  | n + 1 => stepA P K dr (evalA P K dr n)

end Go.Abs
