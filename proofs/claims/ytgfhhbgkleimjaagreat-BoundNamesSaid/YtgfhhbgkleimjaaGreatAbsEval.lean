/- A machine that carries out code on values that are known, and the proof that the model's runs agree with it: one part. -/
import Derived.Test.YtgfhhbgkleimjaaGreatAbsRow
noncomputable section
namespace Go.Abs

/-- A computation that looks at no memory. -/
def pureRun {α : Type} (P : Program) : Sem α → Option α
  | .pure a => some a
  | .program k => pureRun P (k P)
  | .mark _ k => pureRun P k
  | _ => none

theorem pureRun_sound {α : Type} (P : Program) : ∀ (e : Sem α) (a : α), pureRun P e = some a → ∀ w, e.run P w = .ok a w := by
  intro e
  induction e with
  | pure b => intro a h w; simp only [pureRun] at h; cases h; rfl
  | program k ih => intro a h w; simp only [pureRun] at h; simp only [Sem.run]; exact ih P a h w
  | mark m k ih => intro a h w; simp only [pureRun] at h; simp only [Sem.run]; exact ih a h w
  | _ => intro a h w; simp [pureRun] at h

/-- A value without addresses. -/
def plain1 : Value → Bool
  | .bool _ | .int _ _ | .float _ _ | .string _ | .pointer none | .slice none 0 0 | .map none | .chan none | .nilFunc | .nilIface => true
  | .iface _ v => plain1 v
  | _ => false

def plain : Value → Bool
  | .agg cs => cs.toList.all plain1
  | v => plain1 v

theorem plain1_eq {φ : Ren} : ∀ {v a : Value}, VR φ v a → plain1 a = true → v = a
  | _, _, .bool b, _ => rfl
  | _, _, .int k n, _ => rfl
  | _, _, .float k n, _ => rfl
  | _, _, .string s, _ => rfl
  | _, _, .ptrNil, _ => rfl
  | _, _, .ptr h, hp => by simp [plain1] at hp
  | _, _, .sliceNil, _ => rfl
  | _, _, .slice h hl hc, hp => by simp [plain1] at hp
  | _, _, .sliceE h ha, hp => by simp [plain1] at hp
  | _, _, .mapNil, _ => rfl
  | _, _, .map h, hp => by simp [plain1] at hp
  | _, _, .chanNil, _ => rfl
  | _, _, .nilFunc, _ => rfl
  | _, _, .func hf hc, hp => by simp [plain1] at hp
  | _, _, .nilIface, _ => rfl
  | _, _, .iface h, hp => by
    simp only [plain1] at hp
    rw [plain1_eq h hp]
  | _, _, .agg h, hp => by simp [plain1] at hp
  | _, _, .tuple h, hp => by simp [plain1] at hp

theorem plains_eq {φ : Ren} : ∀ {vs as : List Value}, VRs φ vs as → as.all plain1 = true → vs = as
  | _, _, .nil, _ => rfl
  | _, _, .cons h t, hp => by
    simp only [List.all_cons, Bool.and_eq_true] at hp
    rw [plain1_eq h hp.1, plains_eq t hp.2]

theorem plain_eq {φ : Ren} {v a : Value} (h : VR φ v a) (hp : plain a = true) : v = a := by
  cases h with
  | agg h =>
    simp only [plain] at hp
    have := plains_eq h hp
    rw [Array.toList_inj] at this
    rw [this]
  | tuple h => simp [plain, plain1] at hp
  | _ => exact plain1_eq (φ := φ) (by constructor <;> assumption) hp

theorem plain1_refl (φ : Ren) : ∀ (a : Value), plain1 a = true → VR φ a a
  | .bool b, _ => .bool b
  | .int k n, _ => .int k n
  | .float k n, _ => .float k n
  | .string s, _ => .string s
  | .pointer none, _ => .ptrNil
  | .slice none 0 0, _ => .sliceNil
  | .map none, _ => .mapNil
  | .chan none, _ => .chanNil
  | .nilFunc, _ => .nilFunc
  | .nilIface, _ => .nilIface
  | .iface t v, h => .iface (plain1_refl φ v (by simpa [plain1] using h))
  | .complex .., h => by simp [plain1] at h
  | .pointer (some _), h => by simp [plain1] at h
  | .slice (some _) _ _, h => by simp [plain1] at h
  | .slice none (_ + 1) _, h => by simp [plain1] at h
  | .slice none 0 (_ + 1), h => by simp [plain1] at h
  | .map (some _), h => by simp [plain1] at h
  | .chan (some _), h => by simp [plain1] at h
  | .func .., h => by simp [plain1] at h
  | .agg _, h => by simp [plain1] at h
  | .tuple _, h => by simp [plain1] at h

theorem plains_refl (φ : Ren) : ∀ (as : List Value), as.all plain1 = true → VRs φ as as
  | [], _ => .nil
  | a :: as, h => by
    simp only [List.all_cons, Bool.and_eq_true] at h
    exact .cons (plain1_refl φ a h.1) (plains_refl φ as h.2)

theorem plain_refl (φ : Ren) (a : Value) (h : plain a = true) : VR φ a a := by
  cases a with
  | agg cs => exact .agg (plains_refl φ _ h)
  | _ => exact plain1_refl φ _ h

/-! ## Types -/
def aggD : TypeDesc → Bool
  | .struct _ | .array _ _ => true
  | _ => false
def isAggT (P : Program) (t : TypeId) : Option Bool := (P.underlying t).map aggD
def szT (P : Program) (t : TypeId) : Option Nat := (P.info? t).map (·.size)
def zeroT (P : Program) (t : TypeId) : Option Value := (P.info? t).bind (·.zero)

/-! ## Memory -/
def rowCells (H : AH) (b o n : Nat) : Option (List Value) :=
  match H.get b with
  | some (.row c _ _) => cellsAt c o n
  | _ => none

def aLoad (P : Program) (H : AH) (t : TypeId) (b o : Nat) : Option Value :=
  match isAggT P t with
  | some true => (szT P t).bind fun n => (rowCells H b o n).map fun l => .agg l.toArray
  | some false => match rowCells H b o 1 with
    | some [v] => some v
    | _ => none
  | none => none

def aWrite (bar : Nat) (H : AH) (b o : Nat) (vs : List Value) : Option AH :=
  match vs with
  | [] => some H
  | _ => if bar ≤ b ∧ vs.all one = true then
      match H.get b with
      | some (.row c t z) => (wr c o vs).map fun c' => H.put b (.row c' t z)
      | _ => none
    else none

def aStore (P : Program) (bar : Nat) (H : AH) (t : TypeId) (b o : Nat) (v : Value) : Option AH :=
  if szT P t = some v.cells.size then aWrite bar H b o v.cells.toList else none

def aNewRow (H : AH) (vs : List Value) (t : TypeId) (z : Nat) : Option (Nat × AH) := (H.alloc (.row vs t z)).map fun H' => (H.next, H')

def aPart (P : Program) (t : TypeId) (cs : Array Value) (off : Nat) : Option Value :=
  match isAggT P t with
  | some true => (szT P t).map fun n => .agg (cs.extract off (off + n))
  | some false => cs[off]?
  | none => none

inductive ARes where
  | val (v : Value) (H : AH)
  | call (f : FuncId) (args : Array Value) (H : AH)

abbrev Env := Operand → Option Value

def val (H : AH) (v : Option Value) : Option ARes := v.map fun v => .val v H

def mapEnv (ρ : Env) : List Operand → Option (List Value)
  | [] => some []
  | x :: xs => match ρ x with
    | some v => (mapEnv ρ xs).map (v :: ·)
    | none => none

/-! ## Operations -/
def aPick (ρ : Env) (c a b : Operand) : Option Value :=
  match ρ c with
  | some (.bool t) => ρ (if t then a else b)
  | _ => none

def aAlloc (P : Program) (H : AH) (t : TypeId) : Option ARes :=
  (zeroT P t).bind fun z => (szT P t).bind fun n => (aNewRow H z.cells.toList t n).bind fun (b, H') => if z.cells.toList.all plain1 then some (.val (.pointer (some ⟨b, 0, none⟩)) H') else none

def aBox (P : Program) (H : AH) (t : TypeId) (v : Value) : Option ARes :=
  (szT P t).bind fun n => (aNewRow H v.cells.toList t n).map fun (b, H') => .val (.pointer (some ⟨b, 0, none⟩)) H'

def pairEnv (ρ : Env) : List (Nat × Operand) → Option (List (Nat × Value))
  | [] => some []
  | (i, x) :: xs => match ρ x with
    | some v => (pairEnv ρ xs).map ((i, v) :: ·)
    | none => none

def aPlaces (P : Program) (t : TypeId) : Option (Nat → Option (Nat × Nat)) :=
  match P.underlying t with
  | some (.struct fields) =>
    if fields.toList.all (fun f => (szT P f.type).isSome) then
      some fun i => (fields[i]?).map fun f => (f.offset, (szT P f.type).getD 0)
    else none
  | some (.array _ elem) => (szT P elem).map fun size => fun i => some (i * size, size)
  | _ => none

def aBuild (P : Program) (t : TypeId) (parts : List (Nat × Value)) : Option Value :=
  (zeroT P t).bind fun z => if z.cells.toList.all plain1 then (aPlaces P t).bind fun pl => (Instr.fill pl z.cells parts).map .agg else none

def aBuildSlice (P : Program) (H : AH) (t : TypeId) (len : Nat) (parts : List (Nat × Value)) : Option ARes :=
  match P.underlying t with
  | some (.slice elem) => (szT P elem).bind fun size =>
    if len * size > 16777216 then none else
    (zeroT P elem).bind fun z =>
      if z.cells.toList.all plain1 && z.cells.size == size && decide (0 < size) then
        (Instr.fill (fun i => some (i * size, size)) (if len * size = 0 then #[] else (Array.range (len * size)).map (z.cells[· % z.cells.size]!)) parts).bind fun cells =>
          (aNewRow H cells.toList elem size).map fun (b, H') => .val (.slice (some ⟨b, 0, none⟩) len len) H'
      else none
  | _ => none

def aNilCheck : Value → Option Value
  | .pointer (some a) => some (.pointer (some a))
  | .func (.func f) a b => some (.func (.func f) a b)
  | .iface t v => some (.iface t v)
  | .slice a l c => some (.slice a l c)
  | _ => none

/-- What is never nil, and so is not equal to nil. -/
def notNil : Value → Bool
  | .slice (some _) _ _ | .map (some _) | .func _ _ _ | .pointer (some _) => true
  | _ => false
def isNil : Value → Bool
  | .slice none 0 0 | .map none | .nilFunc | .pointer none => true
  | _ => false

def nilTest (P : Program) (t : TypeId) (x y : Value) : Option Bool :=
  match P.underlying t, x, y with
  | some (.slice _), .slice (some _) _ _, .slice none 0 0 => some false
  | some (.slice _), .slice none 0 0, .slice (some _) _ _ => some false
  | some (.map _ _), .map (some _), .map none => some false
  | some (.map _ _), .map none, .map (some _) => some false
  | some (.func _ _ _), .func _ _ _, .nilFunc => some false
  | some (.func _ _ _), .nilFunc, .func _ _ _ => some false
  | some (.pointer _), .pointer (some _), .pointer none => some false
  | some (.pointer _), .pointer none, .pointer (some _) => some false
  | _, _, _ => none

def aBinS (P : Program) (op : BinOp) (t : TypeId) (xo yo : Operand) (x y : Value) : Option Value :=
  if plain x && plain y then (pureRun P (do eqGuard op t xo yo x y; binOp op t x y)).bind fun r => if plain1 r then some r else none
  else match op with
    | .eql => (nilTest P t x y).map .bool
    | .neq => (nilTest P t x y).map fun b => .bool (!b)
    | _ => none

/-- Whole numbers that are not negative, in short. -/
def fNat (op : BinOp) (a b : Nat) : Option Value :=
  match op with
  | .add => match Nat.ble (Nat.add a b) 9223372036854775807 with
    | true => some (.int .i64 (.ofNat (Nat.add a b)))
    | false => none
  | .sub => match Nat.ble b a && Nat.ble a 9223372036854775807 with
    | true => some (.int .i64 (.ofNat (Nat.sub a b)))
    | false => none
  | .mul => match Nat.ble (Nat.mul a b) 9223372036854775807 with
    | true => some (.int .i64 (.ofNat (Nat.mul a b)))
    | false => none
  | .eql => some (.bool (Nat.beq a b))
  | .neq => some (.bool (Nat.beq a b).not)
  | .lss => some (.bool (Nat.ble (Nat.succ a) b))
  | .leq => some (.bool (Nat.ble a b))
  | .gtr => some (.bool (Nat.ble (Nat.succ b) a))
  | .geq => some (.bool (Nat.ble b a))
  | _ => none

def fBin (op : BinOp) (x y : Value) : Option Value :=
  match x with
  | .int .i64 (.ofNat a) => match y with
    | .int .i64 (.ofNat b) => fNat op a b
    | _ => none
  | _ => none

def aBin (P : Program) (op : BinOp) (t : TypeId) (xo yo : Operand) (x y : Value) : Option Value :=
  match fBin op x y with
  | some r => some r
  | none => aBinS P op t xo yo x y

def aField (P : Program) (t : TypeId) (x : Value) (i : Nat) : Option Value :=
  match P.underlying t, x with
  | some (.struct fields), .agg cs => (fields[i]?).bind fun f => aPart P f.type cs f.offset
  | _, _ => none

def aIndex (P : Program) (t : TypeId) (x ix : Value) : Option Value :=
  match P.underlying t, x, ix with
  | some (.array len elem), .agg cs, .int _ i => if 0 ≤ i ∧ i < len then (szT P elem).bind fun n => aPart P elem cs (i.toNat * n) else none
  | some .string, .string s, .int _ i => if 0 ≤ i then (s[i.toNat]?).map fun b => .int .u8 b.toNat else none
  | _, _, _ => none

def aIndexAddr (P : Program) (t : TypeId) (x ix : Value) : Option Value :=
  match P.underlying t, x, ix with
  | some (.array len elem), .pointer (some ⟨b, o, none⟩), .int _ i => if 0 ≤ i ∧ i < len then (szT P elem).map fun n => .pointer (some ⟨b, o + i.toNat * n, none⟩) else none
  | some (.slice elem), .slice (some ⟨b, o, none⟩) len _, .int _ i => if 0 ≤ i ∧ i < len then (szT P elem).map fun n => .pointer (some ⟨b, o + i.toNat * n, none⟩) else none
  | _, _, _ => none

def aFieldAddr (P : Program) (t : TypeId) (x : Value) (i : Nat) : Option Value :=
  match P.underlying t, x with
  | some (.struct fields), .pointer (some ⟨b, o, none⟩) => (fields[i]?).bind fun f => match szT P f.type with
    | some (_ + 1) => some (.pointer (some ⟨b, o + f.offset, none⟩))
    | _ => none
  | _, _ => none

def aBound (x : Value) (y : Nat) : Option Nat :=
  match x with
  | .int _ i => if 0 ≤ i ∧ i ≤ y then some i.toNat else none
  | _ => none

def aBounds (len cap : Nat) (low high max : Option Value) : Option (Nat × Nat × Nat) :=
  (match max with | some v => aBound v cap | none => some cap).bind fun m =>
  (match high, max with
    | some v, some _ => aBound v m
    | some v, none => aBound v m
    | none, none => some len
    | none, some _ => none).bind fun h =>
  (match low with | some v => aBound v h | none => some 0).map fun l => (l, h, m)

/-- The bounds of a slice whose capacity is not known, but is at least lim. -/
def aBoundsU (len lim : Nat) (low high max : Option Value) : Option (Nat × Nat × Option Nat) :=
  (match max with | some v => (aBound v lim).map some | none => some none).bind fun m =>
  (match high with
    | some v => aBound v (m.getD lim)
    | none => if m.isSome then none else some len).bind fun h =>
  (match low with | some v => aBound v h | none => some 0).map fun l => (l, h, m)

def optEnv (ρ : Env) : Option Operand → Option (Option Value)
  | none => some none
  | some x => (ρ x).map some

def aSlice (P : Program) (H : AH) (t : TypeId) (x : Value) (low high max : Option Value) : Option Value :=
  match P.underlying t, x with
  | some .string, .string s => if max.isSome then none else (aBounds s.size s.size low high none).map fun (l, h, _) => .string (s.extract l h)
  | some (.slice elem), .slice none 0 0 => (szT P elem).bind fun _ => (aBounds 0 0 low high max).map fun _ => .slice none 0 0
  | some (.slice elem), .slice (some ⟨b, o, none⟩) len cap => (szT P elem).bind fun size =>
    if cap = capU then match H.get b with
      | some (.row c _ zz) => if zz = size ∧ 0 < size ∧ Nat.max len ((c.length - o) / size) < capU then (aBoundsU len (Nat.max len ((c.length - o) / size)) low high max).map fun (l, h, m) => match m with
          | none => .slice (some ⟨b, o + l * size, none⟩) (h - l) capU
          | some m => .slice (some ⟨b, if m = l then o else o + l * size, none⟩) (h - l) (m - l)
        else none
      | _ => none
    else if capU < cap then none else (aBounds len cap low high max).map fun (l, h, m) => .slice (some ⟨b, if m = l then o else o + l * size, none⟩) (h - l) (m - l)
  | some (.array n elem), .pointer (some ⟨b, o, none⟩) => (szT P elem).bind fun size =>
    if capU ≤ n then none else (aBounds n n low high max).map fun (l, h, m) => .slice (some ⟨b, if m = l then o else o + l * size, none⟩) (h - l) (m - l)
  | _, _ => none

end Go.Abs
