/- A machine that carries out code on values that are known, and the proof that the model's runs agree with it: one part. -/
import Derived.Tactics
import Derived.Orders
import Derived.Below
import Derived.Eval
noncomputable section
namespace Go.Abs

/-! A table with numbered places: place k lies at the path of k + 1. -/
inductive PT (α : Type) where
  | nil
  | node (l : PT α) (v : Option α) (r : PT α)

noncomputable def PT.get {α : Type} (t : PT α) : Nat → Option α :=
  PT.rec (motive := fun _ => Nat → Option α) (fun _ => none)
    (fun _ v _ gl gr m => Bool.rec (Bool.rec (gr (Nat.div m 2)) (gl (Nat.div m 2)) (Nat.beq (Nat.mod m 2) 0)) v (Nat.beq m 1)) t

noncomputable def PT.mk {α : Type} (v : α) : Nat → Nat → PT α :=
  Nat.rec (fun _ => .node .nil (some v) .nil)
   (fun _ ih m => Bool.rec (Bool.rec (.node .nil none (ih (Nat.div m 2))) (.node (ih (Nat.div m 2)) none .nil) (Nat.beq (Nat.mod m 2) 0)) (.node .nil (some v) .nil) (Nat.beq m 1))

noncomputable def PT.set {α : Type} (d : Nat) (x : α) (t : PT α) : Nat → PT α :=
  PT.rec (motive := fun _ => Nat → PT α) (fun m => PT.mk x d m)
    (fun l v r sl sr m => Bool.rec (Bool.rec (.node l v (sr (Nat.div m 2))) (.node (sl (Nat.div m 2)) v r) (Nat.beq (Nat.mod m 2) 0)) (.node l (some x) r) (Nat.beq m 1)) t

namespace PT
variable {α : Type}

theorem br {β : Type} (m : Nat) (a b c : β) : (Bool.rec (Bool.rec c b (Nat.beq (Nat.mod m 2) 0)) a (Nat.beq m 1) : β) = if m = 1 then a else if m % 2 = 0 then b else c := by
  cases h : Nat.beq m 1
  · have h1 : m ≠ 1 := fun e => by rw [e] at h; exact absurd h (by decide)
    rw [if_neg h1]
    cases h' : Nat.beq (Nat.mod m 2) 0
    · have h2 : m % 2 ≠ 0 := fun e => by
        have e : Nat.mod m 2 = 0 := e
        rw [e] at h'; exact absurd h' (by decide)
      rw [if_neg h2]
    · have h2 : m % 2 = 0 := Nat.eq_of_beq_eq_true h'
      rw [if_pos h2]
  · rw [if_pos (Nat.eq_of_beq_eq_true h)]

theorem get_nil (m : Nat) : get (nil : PT α) m = none := rfl
theorem get_node (l r : PT α) (v : Option α) (m : Nat) : get (node l v r) m = if m = 1 then v else if m % 2 = 0 then get l (m / 2) else get r (m / 2) := br m _ _ _
theorem mk_zero (x : α) (m : Nat) : mk x 0 m = node nil (some x) nil := rfl
theorem mk_succ (x : α) (d m : Nat) : mk x (d + 1) m = if m = 1 then node nil (some x) nil else if m % 2 = 0 then node (mk x d (m / 2)) none nil else node nil none (mk x d (m / 2)) := br m _ _ _
theorem set_nil (d : Nat) (x : α) (m : Nat) : set d x nil m = mk x d m := rfl
theorem set_node (d : Nat) (x : α) (l r : PT α) (v : Option α) (m : Nat) : set d x (node l v r) m = if m = 1 then node l (some x) r else if m % 2 = 0 then node (set d x l (m / 2)) v r else node l v (set d x r (m / 2)) := br m _ _ _

theorem get_mk (x : α) : ∀ (d m m' : Nat), 0 < m → m < 2 ^ (d + 1) → 0 < m' → get (mk x d m) m' = if m' = m then some x else none
  | 0, m, m', h0, h, h' => by
    have e : m = 1 := by rw [show (2 : Nat) ^ (0 + 1) = 2 from rfl] at h; omega
    subst e
    rw [mk_zero, get_node]
    by_cases h1 : m' = 1
    · rw [if_pos h1, if_pos h1]
    · rw [if_neg h1, if_neg h1, get_nil]
      split <;> rfl
  | d + 1, m, m', h0, h, h' => by
    rw [Nat.pow_succ] at h
    rw [mk_succ]
    by_cases h1 : m = 1
    · subst h1
      rw [if_pos rfl, get_node]
      by_cases h1 : m' = 1
      · rw [if_pos h1, if_pos h1]
      · rw [if_neg h1, if_neg h1, get_nil]
        split <;> rfl
    · rw [if_neg h1]
      by_cases h2 : m % 2 = 0
      · rw [if_pos h2, get_node]
        by_cases h3 : m' = 1
        · rw [if_pos h3, if_neg (by omega)]
        · rw [if_neg h3]
          by_cases h4 : m' % 2 = 0
          · rw [if_pos h4, get_mk x d (m / 2) (m' / 2) (by omega) (by omega) (by omega)]
            by_cases h5 : m' = m
            · rw [if_pos h5, if_pos (by omega)]
            · rw [if_neg h5, if_neg (by omega)]
          · rw [if_neg h4, if_neg (by omega), get_nil]
      · rw [if_neg h2, get_node]
        by_cases h3 : m' = 1
        · rw [if_pos h3, if_neg (by omega)]
        · rw [if_neg h3]
          by_cases h4 : m' % 2 = 0
          · rw [if_pos h4, if_neg (by omega), get_nil]
          · rw [if_neg h4, get_mk x d (m / 2) (m' / 2) (by omega) (by omega) (by omega)]
            by_cases h5 : m' = m
            · rw [if_pos h5, if_pos (by omega)]
            · rw [if_neg h5, if_neg (by omega)]

theorem get_set (d : Nat) (x : α) : ∀ (t : PT α) (m m' : Nat), 0 < m → m < 2 ^ (d + 1) → 0 < m' → get (set d x t m) m' = if m' = m then some x else get t m'
  | nil, m, m', h0, h, h' => by rw [set_nil, get_mk x d m m' h0 h h', get_nil]
  | node l v r, m, m', h0, h, h' => by
    have ihl := fun (a b : Nat) (ha : 0 < a) (hb : a < 2 ^ (d + 1)) (hc : 0 < b) => get_set d x l a b ha hb hc
    have ihr := fun (a b : Nat) (ha : 0 < a) (hb : a < 2 ^ (d + 1)) (hc : 0 < b) => get_set d x r a b ha hb hc
    rw [set_node]
    by_cases h1 : m = 1
    · subst h1
      rw [if_pos rfl, get_node, get_node]
      by_cases h1 : m' = 1
      · rw [if_pos h1, if_pos h1]
      · rw [if_neg h1, if_neg h1, if_neg h1]
    · rw [if_neg h1]
      by_cases h2 : m % 2 = 0
      · rw [if_pos h2, get_node, get_node]
        by_cases h3 : m' = 1
        · rw [if_pos h3, if_neg (by omega), if_pos h3]
        · rw [if_neg h3, if_neg h3]
          by_cases h4 : m' % 2 = 0
          · rw [if_pos h4, if_pos h4, ihl (m / 2) (m' / 2) (by omega) (by omega) (by omega)]
            by_cases h5 : m' = m
            · rw [if_pos h5, if_pos (by omega)]
            · rw [if_neg h5, if_neg (by omega)]
          · rw [if_neg h4, if_neg h4, if_neg (by omega)]
      · rw [if_neg h2, get_node, get_node]
        by_cases h3 : m' = 1
        · rw [if_pos h3, if_neg (by omega), if_pos h3]
        · rw [if_neg h3, if_neg h3]
          by_cases h4 : m' % 2 = 0
          · rw [if_pos h4, if_pos h4, if_neg (by omega)]
          · rw [if_neg h4, if_neg h4, ihr (m / 2) (m' / 2) (by omega) (by omega) (by omega)]
            by_cases h5 : m' = m
            · rw [if_pos h5, if_pos (by omega)]
            · rw [if_neg h5, if_neg (by omega)]

end PT

def Tr (α : Type) (_ : Nat) : Type := PT α

namespace Tr
variable {α : Type}

def empty (d : Nat) : Tr α d := (PT.nil : PT α)
def get (d : Nat) (t : Tr α d) (k : Nat) : Option α := PT.get (α := α) t (Nat.succ k)
def set (d : Nat) (t : Tr α d) (k : Nat) (v : α) : Tr α d := PT.set (α := α) d v t (Nat.succ k)

theorem get_empty (d : Nat) (k : Nat) : get d (empty d : Tr α d) k = none := rfl

theorem get_set (d : Nat) (t : Tr α d) (k k' : Nat) (v : α) (h : k < 2 ^ d) (_h' : k' < 2 ^ d) : get d (set d t k v) k' = if k' = k then some v else get d t k' := by
  show PT.get (PT.set (α := α) d v t (Nat.succ k)) (Nat.succ k') = _
  rw [PT.get_set d v t _ _ (by omega) (by rw [Nat.pow_succ]; omega) (by omega)]
  by_cases e : k' = k
  · rw [if_pos e, if_pos (by omega)]
  · rw [if_neg e, if_neg (by omega)]
    rfl

end Tr

/-- Where an abstract block lies: the concrete block, the shift, its length in cells, cells of an element, how many cells are known. -/
structure RB where
  c : Nat
  s : Nat
  lim : Nat
  z : Nat
  n : Nat

abbrev Ren := Nat → Option RB

def Ren.le (φ ψ : Ren) : Prop := ∀ b r, φ b = some r → ψ b = some r

theorem Ren.le_refl (φ : Ren) : φ.le φ := fun _ _ h => h
theorem Ren.le_trans {φ ψ χ : Ren} (h : φ.le ψ) (k : ψ.le χ) : φ.le χ := fun b r e => k b r (h b r e)

/-- A capacity that is not known. -/
def capU : Nat := 18446744073709551616

mutual
inductive VR (φ : Ren) : Value → Value → Prop
  | bool (b : Bool) : VR φ (.bool b) (.bool b)
  | int (k : IntKind) (n : Int) : VR φ (.int k n) (.int k n)
  | float (k : FloatKind) (n : Nat) : VR φ (.float k n) (.float k n)
  | string (s : ByteArray) : VR φ (.string s) (.string s)
  | ptrNil : VR φ (.pointer none) (.pointer none)
  | ptr {b o : Nat} {r : RB} (h : φ b = some r) : VR φ (.pointer (some ⟨r.c, r.s + o, none⟩)) (.pointer (some ⟨b, o, none⟩))
  | sliceNil : VR φ (.slice none 0 0) (.slice none 0 0)
  | slice {b o len cap acap : Nat} {r : RB} (h : φ b = some r) (hl : len ≤ cap) (hc : (acap = cap ∧ acap ≠ capU) ∨ (acap = capU ∧ r.s + o + cap * r.z ≤ r.lim ∧ r.n ≤ o + cap * r.z)) :
      VR φ (.slice (some ⟨r.c, r.s + o, none⟩) len cap) (.slice (some ⟨b, o, none⟩) len acap)
  | sliceE {b o x acap : Nat} {r : RB} (h : φ b = some r) (ha : acap = 0 ∨ (acap = capU ∧ r.n ≤ o)) : VR φ (.slice (some ⟨r.c, x, none⟩) 0 0) (.slice (some ⟨b, o, none⟩) 0 acap)
  | mapNil : VR φ (.map none) (.map none)
  | map {b : Nat} {r : RB} (h : φ b = some r) : VR φ (.map (some r.c)) (.map (some b))
  | chanNil : VR φ (.chan none) (.chan none)
  | nilFunc : VR φ .nilFunc .nilFunc
  | func {fn : FuncId} {f1 f2 c1 c2 : Array Value} (hf : VRs φ f1.toList f2.toList) (hc : VRs φ c1.toList c2.toList) : VR φ (.func (.func fn) f1 c1) (.func (.func fn) f2 c2)
  | yield {b : Nat} {r : RB} (h : φ b = some r) : VR φ (.func (.yield r.c) #[] #[]) (.func (.yield b) #[] #[])
  | nilIface : VR φ .nilIface .nilIface
  | iface {t : TypeId} {v a : Value} (h : VR φ v a) : VR φ (.iface t v) (.iface t a)
  | agg {cs as : Array Value} (h : VRs φ cs.toList as.toList) : VR φ (.agg cs) (.agg as)
  | tuple {cs as : Array Value} (h : VRs φ cs.toList as.toList) : VR φ (.tuple cs) (.tuple as)
inductive VRs (φ : Ren) : List Value → List Value → Prop
  | nil : VRs φ [] []
  | cons {v a : Value} {vs as : List Value} (h : VR φ v a) (t : VRs φ vs as) : VRs φ (v :: vs) (a :: as)
end

mutual
theorem VR.mono {φ ψ : Ren} (hle : φ.le ψ) : ∀ {v a : Value}, VR φ v a → VR ψ v a
  | _, _, .bool b => .bool b
  | _, _, .int k n => .int k n
  | _, _, .float k n => .float k n
  | _, _, .string s => .string s
  | _, _, .ptrNil => .ptrNil
  | _, _, .ptr h => .ptr (hle _ _ h)
  | _, _, .sliceNil => .sliceNil
  | _, _, .slice h hl hc => .slice (hle _ _ h) hl hc
  | _, _, .sliceE h ha => .sliceE (hle _ _ h) ha
  | _, _, .mapNil => .mapNil
  | _, _, .map h => .map (hle _ _ h)
  | _, _, .chanNil => .chanNil
  | _, _, .nilFunc => .nilFunc
  | _, _, .func hf hc => .func (VRs.mono hle hf) (VRs.mono hle hc)
  | _, _, .yield h => .yield (hle _ _ h)
  | _, _, .nilIface => .nilIface
  | _, _, .iface h => .iface (VR.mono hle h)
  | _, _, .agg h => .agg (VRs.mono hle h)
  | _, _, .tuple h => .tuple (VRs.mono hle h)
theorem VRs.mono {φ ψ : Ren} (hle : φ.le ψ) : ∀ {vs as : List Value}, VRs φ vs as → VRs ψ vs as
  | _, _, .nil => .nil
  | _, _, .cons h t => .cons (VR.mono hle h) (VRs.mono hle t)
end

end Go.Abs
