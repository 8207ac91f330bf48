/- A machine that carries out code on values that are known, and the proof that the model's runs agree with it: one part. -/
import Derived.Tactics
import Derived.Orders
import Derived.Below
import Derived.Eval
noncomputable section
namespace Go.Abs

/-! A table with numbered places: place k lies at the path of k + 1. -/
inductive PT (α : Type) where
  | nil
  | node (l : PT α) (v : Option α) (r : PT α)

noncomputable def PT.get {α : Type} (t : PT α) : Nat → Option α :=
  PT.rec (motive := fun _ => Nat → Option α) (fun _ => none)
    (fun _ v _ gl gr m => Bool.rec (Bool.rec (gr (Nat.div m 2)) (gl (Nat.div m 2)) (Nat.beq (Nat.mod m 2) 0)) v (Nat.beq m 1)) t

noncomputable def PT.mk {α : Type} (v : α) : Nat → Nat → PT α :=
  Nat.rec (fun _ => .node .nil (some v) .nil)
   (fun _ ih m => Bool.rec (Bool.rec (.node .nil none (ih (Nat.div m 2))) (.node (ih (Nat.div m 2)) none .nil) (Nat.beq (Nat.mod m 2) 0)) (.node .nil (some v) .nil) (Nat.beq m 1))

noncomputable def PT.set {α : Type} (d : Nat) (x : α) (t : PT α) : Nat → PT α :=
  PT.rec (motive := fun _ => Nat → PT α) (fun m => PT.mk x d m)
    (fun l v r sl sr m => Bool.rec (Bool.rec (.node l v (sr (Nat.div m 2))) (.node (sl (Nat.div m 2)) v r) (Nat.beq (Nat.mod m 2) 0)) (.node l (some x) r) (Nat.beq m 1)) t

namespace PT
variable {α : Type}

theorem br {β : Type} (m : Nat) (a b c : β) : (Bool.rec (Bool.rec c b (Nat.beq (Nat.mod m 2) 0)) a (Nat.beq m 1) : β) = if m = 1 then a else if m % 2 = 0 then b else c := by
  cases h : Nat.beq m 1
  · have h1 : m ≠ 1 := fun e => by rw [e] at h; exact absurd h (by decide)
    rw [if_neg h1]
    cases h' : Nat.beq (Nat.mod m 2) 0
    · have h2 : m % 2 ≠ 0 := fun e => by
        have e : Nat.mod m 2 = 0 := e
        rw [e] at h'; exact absurd h' (by decide)
      rw [if_neg h2]
    · have h2 : m % 2 = 0 := Nat.eq_of_beq_eq_true h'
      rw [if_pos h2]
  · rw [if_pos (Nat.eq_of_beq_eq_true h)]

theorem get_nil (m : Nat) : get (nil : PT α) m = none := rfl
theorem get_node (l r : PT α) (v : Option α) (m : Nat) : get (node l v r) m = if m = 1 then v else if m % 2 = 0 then get l (m / 2) else get r (m / 2) := br m _ _ _
theorem mk_zero (x : α) (m : Nat) : mk x 0 m = node nil (some x) nil := rfl
theorem mk_succ (x : α) (d m : Nat) : mk x (d + 1) m = if m = 1 then node nil (some x) nil else if m % 2 = 0 then node (mk x d (m / 2)) none nil else node nil none (mk x d (m / 2)) := br m _ _ _
theorem set_nil (d : Nat) (x : α) (m : Nat) : set d x nil m = mk x d m := rfl
theorem set_node (d : Nat) (x : α) (l r : PT α) (v : Option α) (m : Nat) : set d x (node l v r) m = if m = 1 then node l (some x) r else if m % 2 = 0 then node (set d x l (m / 2)) v r else node l v (set d x r (m / 2)) := br m _ _ _

theorem get_mk (x : α) : ∀ (d m m' : Nat), 0 < m → m < 2 ^ (d + 1) → 0 < m' → get (mk x d m) m' = if m' = m then some x else none
  | 0, m, m', h0, h, h' => by
    have e : m = 1 := by rw [show (2 : Nat) ^ (0 + 1) = 2 from rfl] at h; omega
    subst e
    rw [mk_zero, get_node]
    by_cases h1 : m' = 1
    · rw [if_pos h1, if_pos h1]
    · rw [if_neg h1, if_neg h1, get_nil]
      split <;> rfl
  | d + 1, m, m', h0, h, h' => by
    rw [Nat.pow_succ] at h
    rw [mk_succ]
    by_cases h1 : m = 1
    · subst h1
      rw [if_pos rfl, get_node]
      by_cases h1 : m' = 1
      · rw [if_pos h1, if_pos h1]
      · rw [if_neg h1, if_neg h1, get_nil]
        split <;> rfl
    · rw [if_neg h1]
      by_cases h2 : m % 2 = 0
      · rw [if_pos h2, get_node]
        by_cases h3 : m' = 1
        · rw [if_pos h3, if_neg (by omega)]
        · rw [if_neg h3]
          by_cases h4 : m' % 2 = 0
          · rw [if_pos h4, get_mk x d (m / 2) (m' / 2) (by omega) (by omega) (by omega)]
            by_cases h5 : m' = m
            · rw [if_pos h5, if_pos (by omega)]
            · rw [if_neg h5, if_neg (by omega)]
          · rw [if_neg h4, if_neg (by omega), get_nil]
      · rw [if_neg h2, get_node]
        by_cases h3 : m' = 1
        · rw [if_pos h3, if_neg (by omega)]
        · rw [if_neg h3]
          by_cases h4 : m' % 2 = 0
          · rw [if_pos h4, if_neg (by omega), get_nil]
          · rw [if_neg h4, get_mk x d (m / 2) (m' / 2) (by omega) (by omega) (by omega)]
            by_cases h5 : m' = m
            · rw [if_pos h5, if_pos (by omega)]
            · rw [if_neg h5, if_neg (by omega)]

theorem get_set (d : Nat) (x : α) : ∀ (t : PT α) (m m' : Nat), 0 < m → m < 2 ^ (d + 1) → 0 < m' → get (set d x t m) m' = if m' = m then some x else get t m'
  | nil, m, m', h0, h, h' => by rw [set_nil, get_mk x d m m' h0 h h', get_nil]
  | node l v r, m, m', h0, h, h' => by
    have ihl := fun (a b : Nat) (ha : 0 < a) (hb : a < 2 ^ (d + 1)) (hc : 0 < b) => get_set d x l a b ha hb hc
    have ihr := fun (a b : Nat) (ha : 0 < a) (hb : a < 2 ^ (d + 1)) (hc : 0 < b) => get_set d x r a b ha hb hc
    rw [set_node]
    by_cases h1 : m = 1
    · subst h1
      rw [if_pos rfl, get_node, get_node]
      by_cases h1 : m' = 1
      · rw [if_pos h1, if_pos h1]
      · rw [if_neg h1, if_neg h1, if_neg h1]
    · rw [if_neg h1]
      by_cases h2 : m % 2 = 0
      · rw [if_pos h2, get_node, get_node]
        by_cases h3 : m' = 1
        · rw [if_pos h3, if_neg (by omega), if_pos h3]
        · rw [if_neg h3, if_neg h3]
          by_cases h4 : m' % 2 = 0
          · rw [if_pos h4, if_pos h4, ihl (m / 2) (m' / 2) (by omega) (by omega) (by omega)]
            by_cases h5 : m' = m
            · rw [if_pos h5, if_pos (by omega)]
            · rw [if_neg h5, if_neg (by omega)]
          · rw [if_neg h4, if_neg h4, if_neg (by omega)]
      · rw [if_neg h2, get_node, get_node]
        by_cases h3 : m' = 1
        · rw [if_pos h3, if_neg (by omega), if_pos h3]
        · rw [if_neg h3, if_neg h3]
          by_cases h4 : m' % 2 = 0
          · rw [if_pos h4, if_pos h4, if_neg (by omega)]
          · rw [if_neg h4, if_neg h4, ihr (m / 2) (m' / 2) (by omega) (by omega) (by omega)]
            by_cases h5 : m' = m
            · rw [if_pos h5, if_pos (by omega)]
            · rw [if_neg h5, if_neg (by omega)]

end PT

def Tr (α : Type) (_ : Nat) : Type := PT α

namespace Tr
variable {α : Type}

def empty (d : Nat) : Tr α d := (PT.nil : PT α)
def get (d : Nat) (t : Tr α d) (k : Nat) : Option α := PT.get (α := α) t (Nat.succ k)
def set (d : Nat) (t : Tr α d) (k : Nat) (v : α) : Tr α d := PT.set (α := α) d v t (Nat.succ k)

theorem get_empty (d : Nat) (k : Nat) : get d (empty d : Tr α d) k = none := rfl

theorem get_set (d : Nat) (t : Tr α d) (k k' : Nat) (v : α) (h : k < 2 ^ d) (_h' : k' < 2 ^ d) : get d (set d t k v) k' = if k' = k then some v else get d t k' := by
  show PT.get (PT.set (α := α) d v t (Nat.succ k)) (Nat.succ k') = _
  rw [PT.get_set d v t _ _ (by omega) (by rw [Nat.pow_succ]; omega) (by omega)]
  by_cases e : k' = k
  · rw [if_pos e, if_pos (by omega)]
  · rw [if_neg e, if_neg (by omega)]
    rfl

end Tr

/-- Where an abstract block lies: the concrete block, the shift, its length in cells, cells of an element, how many cells are known. -/
structure RB where
  c : Nat
  s : Nat
  lim : Nat
  z : Nat
  n : Nat

abbrev Ren := Nat → Option RB

def Ren.le (φ ψ : Ren) : Prop := ∀ b r, φ b = some r → ψ b = some r

theorem Ren.le_refl (φ : Ren) : φ.le φ := fun _ _ h => h
theorem Ren.le_trans {φ ψ χ : Ren} (h : φ.le ψ) (k : ψ.le χ) : φ.le χ := fun b r e => k b r (h b r e)

/-- A capacity that is not known. -/
def capU : Nat := 18446744073709551616

mutual
inductive VR (φ : Ren) : Value → Value → Prop
  | bool (b : Bool) : VR φ (.bool b) (.bool b)
  | int (k : IntKind) (n : Int) : VR φ (.int k n) (.int k n)
  | float (k : FloatKind) (n : Nat) : VR φ (.float k n) (.float k n)
  | string (s : ByteArray) : VR φ (.string s) (.string s)
  | ptrNil : VR φ (.pointer none) (.pointer none)
  | ptr {b o : Nat} {r : RB} (h : φ b = some r) : VR φ (.pointer (some ⟨r.c, r.s + o, none⟩)) (.pointer (some ⟨b, o, none⟩))
  | sliceNil : VR φ (.slice none 0 0) (.slice none 0 0)
  | slice {b o len cap acap : Nat} {r : RB} (h : φ b = some r) (hl : len ≤ cap) (hc : (acap = cap ∧ acap ≠ capU) ∨ (acap = capU ∧ r.s + o + cap * r.z ≤ r.lim ∧ r.n ≤ o + cap * r.z)) :
      VR φ (.slice (some ⟨r.c, r.s + o, none⟩) len cap) (.slice (some ⟨b, o, none⟩) len acap)
  | sliceE {b o x acap : Nat} {r : RB} (h : φ b = some r) (ha : acap = 0 ∨ (acap = capU ∧ r.n ≤ o)) : VR φ (.slice (some ⟨r.c, x, none⟩) 0 0) (.slice (some ⟨b, o, none⟩) 0 acap)
  | mapNil : VR φ (.map none) (.map none)
  | map {b : Nat} {r : RB} (h : φ b = some r) : VR φ (.map (some r.c)) (.map (some b))
  | chanNil : VR φ (.chan none) (.chan none)
  | nilFunc : VR φ .nilFunc .nilFunc
  | func {fn : FuncId} {f1 f2 c1 c2 : Array Value} (hf : VRs φ f1.toList f2.toList) (hc : VRs φ c1.toList c2.toList) : VR φ (.func (.func fn) f1 c1) (.func (.func fn) f2 c2)
  | yield {b : Nat} {r : RB} (h : φ b = some r) : VR φ (.func (.yield r.c) #[] #[]) (.func (.yield b) #[] #[])
  | nilIface : VR φ .nilIface .nilIface
  | iface {t : TypeId} {v a : Value} (h : VR φ v a) : VR φ (.iface t v) (.iface t a)
  | agg {cs as : Array Value} (h : VRs φ cs.toList as.toList) : VR φ (.agg cs) (.agg as)
  | tuple {cs as : Array Value} (h : VRs φ cs.toList as.toList) : VR φ (.tuple cs) (.tuple as)
inductive VRs (φ : Ren) : List Value → List Value → Prop
  | nil : VRs φ [] []
  | cons {v a : Value} {vs as : List Value} (h : VR φ v a) (t : VRs φ vs as) : VRs φ (v :: vs) (a :: as)
end

mutual
theorem VR.mono {φ ψ : Ren} (hle : φ.le ψ) : ∀ {v a : Value}, VR φ v a → VR ψ v a
  | _, _, .bool b => .bool b
  | _, _, .int k n => .int k n
  | _, _, .float k n => .float k n
  | _, _, .string s => .string s
  | _, _, .ptrNil => .ptrNil
  | _, _, .ptr h => .ptr (hle _ _ h)
  | _, _, .sliceNil => .sliceNil
  | _, _, .slice h hl hc => .slice (hle _ _ h) hl hc
  | _, _, .sliceE h ha => .sliceE (hle _ _ h) ha
  | _, _, .mapNil => .mapNil
  | _, _, .map h => .map (hle _ _ h)
  | _, _, .chanNil => .chanNil
  | _, _, .nilFunc => .nilFunc
  | _, _, .func hf hc => .func (VRs.mono hle hf) (VRs.mono hle hc)
  | _, _, .yield h => .yield (hle _ _ h)
  | _, _, .nilIface => .nilIface
  | _, _, .iface h => .iface (VR.mono hle h)
  | _, _, .agg h => .agg (VRs.mono hle h)
  | _, _, .tuple h => .tuple (VRs.mono hle h)
theorem VRs.mono {φ ψ : Ren} (hle : φ.le ψ) : ∀ {vs as : List Value}, VRs φ vs as → VRs ψ vs as
  | _, _, .nil => .nil
  | _, _, .cons h t => .cons (VR.mono hle h) (VRs.mono hle t)
end

end Go.Abs

noncomputable section
namespace Go.Abs

inductive AObj where
  | row (c : List Value) (t : TypeId) (z : Nat)
  | map (es : List MapEntry) (clock : Nat)
  | loop (st : LoopState) (pd : Option Code) (n : Nat) (m : Tr Value 10) (ps : Array Tmp) (assign body : Code)
  | mark
  | dead
  deriving Inhabited

def heapDepth : Nat := 18

structure AH where
  next : Nat
  m : Tr AObj 18

namespace AH
def get (H : AH) (b : Nat) : Option AObj := Tr.get 18 H.m b
def put (H : AH) (b : Nat) (o : AObj) : AH := { H with m := Tr.set 18 H.m b o }
def alloc (H : AH) (o : AObj) : Option AH := if H.next < 262144 then some { next := H.next + 1, m := Tr.set 18 H.m H.next o } else none
def blank (n : Nat) : AH := { next := n, m := Tr.empty 18 }
theorem blank_get (n b : Nat) : (blank n).get b = none := Tr.get_empty 18 b
def live (H : AH) (b : Nat) : Prop := ∃ o, H.get b = some o ∧ o ≠ .dead

theorem get_put (H : AH) {b b' : Nat} (o : AObj) (h : b < 262144) (h' : b' < 262144) : (H.put b o).get b' = if b' = b then some o else H.get b' :=
  Tr.get_set 18 H.m b b' o h h'
theorem alloc_eq {H H' : AH} {o : AObj} (h : H.alloc o = some H') : H.next < 262144 ∧ H'.next = H.next + 1 ∧ ∀ b, b < 262144 → H'.get b = if b = H.next then some o else H.get b := by
  unfold alloc at h
  split at h
  · rename_i hlt
    cases h
    exact ⟨hlt, rfl, fun b hb => Tr.get_set 18 H.m H.next b o hlt hb⟩
  · cases h
theorem alloc_blank {H H' : AH} {o : AObj} (h : H.alloc o = some H') : ∃ Hd, (blank H.next).alloc o = some Hd ∧ Hd.next = H'.next ∧ H'.next = H.next + 1 ∧ Hd.get H.next = H'.get H.next := by
  obtain ⟨h1, h2, h3⟩ := alloc_eq h
  have h4 : (blank H.next).alloc o = some { next := H.next + 1, m := Tr.set 18 (blank H.next).m H.next o } := if_pos h1
  obtain ⟨_, _, k3⟩ := alloc_eq h4
  refine ⟨_, h4, h2.symm, h2, ?_⟩
  rw [h3 _ h1, k3 _ h1, if_pos rfl]
  exact if_pos rfl
end AH

def upd (φ : Ren) (b : Nat) (r : RB) : Ren := fun x => if x = b then some r else φ x

def Unfrozen (n : Nat) (fz : Nat × Nat) : Prop := ∀ i, i < n → ¬ (fz.1 ≤ i ∧ i < fz.2)

/-- The row of cells that an abstract row stands for. -/
def RowR (φ : Ren) (r : RB) (c : List Value) (t : TypeId) (z : Nat) (w : World) : Prop :=
  ∃ arr fz, w.heap[r.c]? = some (.cells arr t fz) ∧ arr.size = r.lim ∧ (r.z = z ∧ r.n = c.length) ∧ r.s + c.length ≤ r.lim ∧
    (∀ i a, c[i]? = some a → ∃ v, arr[r.s + i]? = some v ∧ VR φ v a) ∧ Unfrozen arr.size fz

inductive EntR (φ : Ren) : List MapEntry → List MapEntry → Prop
  | nil : EntR φ [] []
  | cons {e a : MapEntry} {es as : List MapEntry} (hk : VR φ e.key a.key) (hv : VR φ e.val a.val) (hb : e.born = a.born) (t : EntR φ es as) : EntR φ (e :: es) (a :: as)

theorem EntR.mono {φ ψ : Ren} (hle : φ.le ψ) {es as : List MapEntry} (h : EntR φ es as) : EntR ψ es as := by
  induction h with
  | nil => exact .nil
  | cons hk hv hb _ ih => exact .cons (hk.mono hle) (hv.mono hle) hb ih

/-- Temporaries, those that are known. -/
structure TmpsR (φ : Ren) (tmps : Array Value) (n : Nat) (m : Tr Value 10) : Prop where
  size : tmps.size = n
  small : n ≤ 1024
  get : ∀ t a, t < 1024 → Tr.get 10 m t = some a → ∃ v, tmps[t]? = some v ∧ VR φ v a

theorem TmpsR.mono {φ ψ : Ren} (hle : φ.le ψ) {tmps : Array Value} {n : Nat} {m : Tr Value 10} (h : TmpsR φ tmps n m) : TmpsR ψ tmps n m :=
  ⟨h.size, h.small, fun t a ht ha => let ⟨v, h1, h2⟩ := h.get t a ht ha; ⟨v, h1, h2.mono hle⟩⟩

def LoopR (φ : Ren) (st : LoopState) (pd : Option Code) (n : Nat) (m : Tr Value 10) (ps : Array Tmp) (assign body : Code) (x : Loop) : Prop :=
  x.state = st ∧ x.pending = pd ∧ TmpsR φ x.tmps n m ∧ x.params = ps ∧ x.assign = assign ∧ x.body = body

def ObjR (φ : Ren) (r : RB) (w : World) : AObj → Prop
  | .row c t z => RowR φ r c t z w
  | .map es ck => ∃ es', w.heap[r.c]? = some (.map es' ck) ∧ EntR φ es'.toList es
  | .loop st pd n m ps assign body => ∃ x, w.heap[r.c]? = some (.loop x) ∧ LoopR φ st pd n m ps assign body x
  | .mark => w.heap[r.c]? = some (.deferred (some []))
  | .dead => True

theorem ObjR.frame {φ ψ : Ren} {r : RB} {w w' : World} {o : AObj} (hle : φ.le ψ) (hw : w'.heap[r.c]? = w.heap[r.c]?) (h : ObjR φ r w o) : ObjR ψ r w' o := by
  cases o with
  | row c t z =>
    obtain ⟨arr, fz, h1, h2, h3, h4, h5, h6⟩ := h
    exact ⟨arr, fz, hw ▸ h1, h2, h3, h4, fun i a hi => let ⟨v, hv, hr⟩ := h5 i a hi; ⟨v, hv, hr.mono hle⟩, h6⟩
  | map es ck =>
    obtain ⟨es', h1, h2⟩ := h
    exact ⟨es', hw ▸ h1, h2.mono hle⟩
  | loop st pd n m ps assign body =>
    obtain ⟨x, h1, h2, h3, h4, h5⟩ := h
    exact ⟨x, hw ▸ h1, h2, h3, h4.mono hle, h5⟩
  | mark => exact (hw.trans h : w'.heap[r.c]? = _)
  | dead => trivial

structure Sim (φ : Ren) (H : AH) (bar base : Nat) (w : World) : Prop where
  bn : bar ≤ H.next
  small : H.next ≤ 262144
  lt : ∀ b r, φ b = some r → b < H.next
  obj : ∀ b r o, φ b = some r → H.get b = some o → ObjR φ r w o
  inj : ∀ b b' r r', φ b = some r → φ b' = some r' → H.live b → H.live b' → bar ≤ b → r.c = r'.c → b = b'
  own : ∀ b r, φ b = some r → bar ≤ b → base ≤ r.c
  hb : base ≤ w.heap.size
  cur : ∀ b r, φ b = some r → r.c < w.heap.size

/-- What a step of the abstract machine says of the concrete one. -/
structure Step (φ : Ren) (H : AH) (bar base : Nat) (w : World) (φ' : Ren) (H' : AH) (w' : World) : Prop where
  ext : φ.le φ'
  sim : Sim φ' H' bar base w'
  new : ∀ b r, φ' b = some r → φ b = some r ∨ H.next ≤ b
  below : RowKit.Below base w w'
  nx : H.next ≤ H'.next
  keep : ∀ b, b < bar → b < H.next → H'.get b = H.get b

theorem Step.refl {φ : Ren} {H : AH} {bar base : Nat} {w : World} (h : Sim φ H bar base w) : Step φ H bar base w φ H w :=
  ⟨Ren.le_refl _, h, fun _ _ h => .inl h, RowKit.Below.refl _ _, Nat.le_refl _, fun _ _ _ => rfl⟩

theorem Step.trans {φ φ₁ φ₂ : Ren} {H H₁ H₂ : AH} {bar base : Nat} {w w₁ w₂ : World} (h : Step φ H bar base w φ₁ H₁ w₁) (k : Step φ₁ H₁ bar base w₁ φ₂ H₂ w₂) :
    Step φ H bar base w φ₂ H₂ w₂ where
  ext := Ren.le_trans h.ext k.ext
  sim := k.sim
  new := fun b r e => by
    rcases k.new b r e with e | e
    · exact h.new b r e
    · exact .inr (Nat.le_trans h.nx e)
  below := h.below.trans k.below
  nx := Nat.le_trans h.nx k.nx
  keep := fun b hb hn => by rw [k.keep b hb (Nat.lt_of_lt_of_le hn h.nx), h.keep b hb hn]

theorem upd_le {φ : Ren} {H : AH} {bar base : Nat} {w : World} (hs : Sim φ H bar base w) (r : RB) : φ.le (upd φ H.next r) := by
  intro b r' h
  unfold upd
  have := hs.lt b r' h
  rw [if_neg (by omega)]
  exact h

/-- A new block. -/
theorem Sim.alloc {φ : Ren} {H H' : AH} {bar base : Nat} {w : World} (hs : Sim φ H bar base w) {o : Obj} {ao : AObj} (ha : H.alloc ao = some H') (r : RB)
    (hr : r.c = w.heap.size) (ho : ObjR (upd φ H.next r) r (w.alloc o) ao) : Step φ H bar base w (upd φ H.next r) H' (w.alloc o) := by
  obtain ⟨hlt, hnx, hget⟩ := AH.alloc_eq ha
  have hle := upd_le hs r
  have hsz : (w.alloc o).heap.size = w.heap.size + 1 := by show (w.heap.push o).size = _; simp
  have hheap : ∀ k, k < w.heap.size → (w.alloc o).heap[k]? = w.heap[k]? := fun k hk => RowKit.Below.heap_alloc w o k hk
  have part : ∀ b r', upd φ H.next r b = some r' → (b = H.next ∧ r' = r) ∨ (b ≠ H.next ∧ φ b = some r') := by
    intro b r' h
    unfold upd at h
    split at h
    · rename_i e; cases h; exact .inl ⟨e, rfl⟩
    · rename_i e; exact .inr ⟨e, h⟩
  have hlive : ∀ b, b ≠ H.next → b < 262144 → H'.live b → H.live b := by
    intro b hb h1 ⟨o', ho', hd⟩
    rw [hget b h1, if_neg hb] at ho'
    exact ⟨o', ho', hd⟩
  have hbn := hs.bn
  refine ⟨hle, ⟨?_, ?_, ?_, ?_, ?_, ?_, ?_, ?_⟩, ?_, ?_, ?_, ?_⟩
  · omega
  · omega
  · intro b r' h
    rcases part b r' h with ⟨rfl, _⟩ | ⟨_, h⟩
    · omega
    · have := hs.lt b r' h; omega
  · intro b r' o' h hg
    rcases part b r' h with ⟨rfl, rfl⟩ | ⟨hne, h⟩
    · rw [hget _ hlt, if_pos rfl] at hg
      cases hg
      exact ho
    · have hb := hs.lt b r' h
      rw [hget b (by omega), if_neg hne] at hg
      exact (hs.obj b r' o' h hg).frame hle (hheap _ (hs.cur b r' h))
  · intro b b' r₁ r₂ h1 h2 l1 l2 hbb hc
    rcases part b r₁ h1 with ⟨e1, e2⟩ | ⟨n1, h1⟩ <;> rcases part b' r₂ h2 with ⟨e3, e4⟩ | ⟨n2, h2⟩
    · rw [e1, e3]
    · exfalso; have := hs.cur b' r₂ h2; rw [← hc, e2, hr] at this; omega
    · exfalso; have := hs.cur b r₁ h1; rw [hc, e4, hr] at this; omega
    · have q1 := hs.lt b r₁ h1
      have q2 := hs.lt b' r₂ h2
      exact hs.inj b b' r₁ r₂ h1 h2 (hlive b n1 (by omega) l1) (hlive b' n2 (by omega) l2) hbb hc
  · intro b r' h hb
    rcases part b r' h with ⟨rfl, rfl⟩ | ⟨_, h⟩
    · rw [hr]; exact hs.hb
    · exact hs.own b r' h hb
  · rw [hsz]; have := hs.hb; omega
  · intro b r' h
    rw [hsz]
    rcases part b r' h with ⟨rfl, rfl⟩ | ⟨_, h⟩
    · omega
    · have := hs.cur b r' h; omega
  · intro b r' h
    rcases part b r' h with ⟨rfl, _⟩ | ⟨_, h⟩
    · exact .inr (Nat.le_refl _)
    · exact .inl h
  · exact (RowKit.Below.refl _ _).alloc hs.hb o
  · omega
  · intro b hb hn
    rw [hget b (by omega), if_neg (by omega)]

end Go.Abs

noncomputable section
namespace Go.Abs

/-- w' is w but for block c. -/
structure Only (c : Nat) (w w' : World) : Prop where
  os : w'.os = w.os
  tape : w'.tape = w.tape
  output : w'.output = w.output
  size : w'.heap.size = w.heap.size
  block : ∀ k, k ≠ c → w'.heap[k]? = w.heap[k]?

theorem Only.refl (c : Nat) (w : World) : Only c w w := ⟨rfl, rfl, rfl, rfl, fun _ _ => rfl⟩
theorem Only.trans {c : Nat} {u v w : World} (h : Only c u v) (k : Only c v w) : Only c u w :=
  ⟨k.os.trans h.os, k.tape.trans h.tape, k.output.trans h.output, k.size.trans h.size, fun i hi => (k.block i hi).trans (h.block i hi)⟩

theorem Only.setCell (w : World) (a : Addr) (v : Value) : Only a.block w (w.setCell a v) :=
  ⟨rfl, rfl, rfl, by simp [World.setCell], fun k hk => RowKit.Below.heap_setCell w a v k hk⟩

theorem Only.below {c base : Nat} {w w' : World} (h : Only c w w') (hc : base ≤ c) : RowKit.Below base w w' :=
  ⟨h.os, h.tape, h.output, Nat.le_of_eq h.size.symm, fun k hk => h.block k (by omega)⟩

/-- One block is written. -/
theorem Sim.update {φ : Ren} {H : AH} {bar base : Nat} {w w' : World} (hs : Sim φ H bar base w) {b : Nat} {r : RB} (hφ : φ b = some r) (hb : bar ≤ b) (hl : H.live b)
    (hw : Only r.c w w') {ao : AObj} (ho : ObjR φ r w' ao) : Step φ H bar base w φ (H.put b ao) w' := by
  have hsm := hs.small
  have hlt := hs.lt b r hφ
  have hget : ∀ b', b' < 262144 → (H.put b ao).get b' = if b' = b then some ao else H.get b' := fun b' h => AH.get_put H ao (by omega) h
  have hlive : ∀ b', b' < 262144 → (H.put b ao).live b' → H.live b' := by
    intro b' h ⟨o', h1, h2⟩
    rw [hget b' h] at h1
    split at h1
    · rename_i e; rw [e]; exact hl
    · exact ⟨o', h1, h2⟩
  refine ⟨Ren.le_refl _, ⟨hs.bn, hsm, hs.lt, ?_, ?_, hs.own, ?_, ?_⟩, fun _ _ h => .inl h, hw.below (hs.own b r hφ hb), Nat.le_refl _, ?_⟩
  · intro b' r' o' h hg
    have h' := hs.lt b' r' h
    rw [hget b' (by omega)] at hg
    split at hg
    · rename_i e; subst e
      rw [hφ] at h; cases h; cases hg
      exact ho
    · rename_i e
      by_cases hd : o' = .dead
      · subst hd; trivial
      · refine (hs.obj b' r' o' h hg).frame (Ren.le_refl _) (hw.block _ ?_)
        intro ec
        exact e (hs.inj b b' r r' hφ h hl ⟨o', hg, hd⟩ hb ec.symm).symm
  · intro b₁ b₂ r₁ r₂ h1 h2 l1 l2 hbb hc
    have q1 := hs.lt b₁ r₁ h1
    have q2 := hs.lt b₂ r₂ h2
    exact hs.inj b₁ b₂ r₁ r₂ h1 h2 (hlive _ (by omega) l1) (hlive _ (by omega) l2) hbb hc
  · rw [hw.size]; exact hs.hb
  · intro b' r' h; rw [hw.size]; exact hs.cur b' r' h
  · intro b' h h'
    rw [hget b' (by omega), if_neg (by omega)]

/-- One block is written, and has a new number from now on. -/
theorem Sim.rekey {φ : Ren} {H H' : AH} {bar base : Nat} {w w' : World} (hs : Sim φ H bar base w) {b : Nat} {r r' : RB} (hφ : φ b = some r) (hb : bar ≤ b) (hl : H.live b)
    (hw : Only r.c w w') (hc : r'.c = r.c) {ao : AObj} (ha : (H.put b .dead).alloc ao = some H') (ho : ObjR (upd φ H.next r') r' w' ao) : Step φ H bar base w (upd φ H.next r') H' w' := by
  have hsm := hs.small
  have hlt := hs.lt b r hφ
  obtain ⟨hlt', hnx, hget'⟩ := AH.alloc_eq ha
  have hn : (H.put b .dead).next = H.next := rfl
  rw [hn] at hlt' hnx hget'
  have hget : ∀ b', b' < 262144 → H'.get b' = if b' = H.next then some ao else if b' = b then some .dead else H.get b' := by
    intro b' h
    rw [hget' b' h, AH.get_put H .dead (by omega) h]
  have hle := upd_le hs r'
  have hbn := hs.bn
  have part : ∀ b₁ r₁, upd φ H.next r' b₁ = some r₁ → (b₁ = H.next ∧ r₁ = r') ∨ (b₁ ≠ H.next ∧ φ b₁ = some r₁) := by
    intro b₁ r₁ h
    unfold upd at h
    split at h
    · rename_i e; cases h; exact .inl ⟨e, rfl⟩
    · rename_i e; exact .inr ⟨e, h⟩
  have hlive : ∀ b', b' ≠ H.next → b' < 262144 → H'.live b' → H.live b' ∧ b' ≠ b := by
    intro b' h1 h ⟨o', h2, h3⟩
    rw [hget b' h, if_neg h1] at h2
    split at h2
    · cases h2; exact absurd rfl h3
    · rename_i e; exact ⟨⟨o', h2, h3⟩, e⟩
  refine ⟨hle, ⟨?_, ?_, ?_, ?_, ?_, ?_, ?_, ?_⟩, ?_, hw.below (hs.own b r hφ hb), ?_, ?_⟩
  · omega
  · omega
  · intro b₁ r₁ h
    rcases part b₁ r₁ h with ⟨rfl, _⟩ | ⟨_, h⟩
    · omega
    · have := hs.lt b₁ r₁ h; omega
  · intro b₁ r₁ o₁ h hg
    rcases part b₁ r₁ h with ⟨rfl, rfl⟩ | ⟨hne, h⟩
    · rw [hget _ hlt', if_pos rfl] at hg
      cases hg
      exact ho
    · have h' := hs.lt b₁ r₁ h
      rw [hget b₁ (by omega), if_neg hne] at hg
      split at hg
      · cases hg; trivial
      · rename_i e
        by_cases hd : o₁ = .dead
        · subst hd; trivial
        · refine (hs.obj b₁ r₁ o₁ h hg).frame hle (hw.block _ ?_)
          intro ec
          exact e (hs.inj b b₁ r r₁ hφ h hl ⟨o₁, hg, hd⟩ hb ec.symm).symm
  · intro b₁ b₂ r₁ r₂ h1 h2 l1 l2 hbb hcc
    rcases part b₁ r₁ h1 with ⟨e1, e2⟩ | ⟨n1, h1⟩ <;> rcases part b₂ r₂ h2 with ⟨e3, e4⟩ | ⟨n2, h2⟩
    · rw [e1, e3]
    · exfalso
      have q2 := hs.lt b₂ r₂ h2
      obtain ⟨l2, n2'⟩ := hlive b₂ n2 (by omega) l2
      exact n2' (hs.inj b b₂ r r₂ hφ h2 hl l2 hb (by rw [← hcc, e2, hc])).symm
    · exfalso
      have q1 := hs.lt b₁ r₁ h1
      obtain ⟨l1, n1'⟩ := hlive b₁ n1 (by omega) l1
      exact n1' (hs.inj b b₁ r r₁ hφ h1 hl l1 hb (by rw [hcc, e4, hc])).symm
    · have q1 := hs.lt b₁ r₁ h1
      have q2 := hs.lt b₂ r₂ h2
      exact hs.inj b₁ b₂ r₁ r₂ h1 h2 (hlive _ n1 (by omega) l1).1 (hlive _ n2 (by omega) l2).1 hbb hcc
  · intro b₁ r₁ h hb₁
    rcases part b₁ r₁ h with ⟨rfl, rfl⟩ | ⟨_, h⟩
    · rw [hc]; exact hs.own b r hφ hb
    · exact hs.own b₁ r₁ h hb₁
  · rw [hw.size]; exact hs.hb
  · intro b₁ r₁ h
    rw [hw.size]
    rcases part b₁ r₁ h with ⟨rfl, rfl⟩ | ⟨_, h⟩
    · rw [hc]; exact hs.cur b r hφ
    · exact hs.cur b₁ r₁ h
  · intro b₁ r₁ h
    rcases part b₁ r₁ h with ⟨rfl, _⟩ | ⟨_, h⟩
    · exact .inr (Nat.le_refl _)
    · exact .inl h
  · omega
  · intro b₁ h1 h2
    rw [hget b₁ (by omega), if_neg (by omega), if_neg (by omega)]

/-- The part of a list between two places is overwritten. -/
def wr (c : List Value) : Nat → List Value → Option (List Value) :=
  List.rec (motive := fun _ => Nat → List Value → Option (List Value))
    (fun _ vs => List.rec (some []) (fun _ _ _ => none) vs)
    (fun x t ih i vs => List.rec (some (x :: t)) (fun a as _ => Bool.rec (Option.rec none (fun l => some (x :: l)) (ih (Nat.pred i) (a :: as))) (Option.rec none (fun l => some (a :: l)) (ih 0 as)) (Nat.beq i 0)) vs) c

theorem wr_nil (c : List Value) (i : Nat) : wr c i [] = some c := by cases c <;> rfl
theorem wr_none (i : Nat) (a : Value) (as : List Value) : wr [] i (a :: as) = none := rfl
theorem wr_zero (x : Value) (c : List Value) (a : Value) (as : List Value) : wr (x :: c) 0 (a :: as) = match wr c 0 as with | some l => some (a :: l) | none => none := by
  have h : wr (x :: c) 0 (a :: as) = Option.rec none (fun l => some (a :: l)) (wr c 0 as) := rfl
  rw [h]
  cases wr c 0 as <;> rfl
theorem wr_succ (x : Value) (c : List Value) (i : Nat) (a : Value) (as : List Value) : wr (x :: c) (i + 1) (a :: as) = match wr c i (a :: as) with | some l => some (x :: l) | none => none := by
  have h : wr (x :: c) (i + 1) (a :: as) = Option.rec none (fun l => some (x :: l)) (wr c i (a :: as)) := rfl
  rw [h]
  cases wr c i (a :: as) <;> rfl

theorem wr_spec : ∀ (c : List Value) (i : Nat) (as c' : List Value), wr c i as = some c' →
    c'.length = c.length ∧ (as = [] ∨ i + as.length ≤ c.length) ∧ ∀ j, c'[j]? = if i ≤ j ∧ j < i + as.length then as[j - i]? else c[j]?
  | c, i, [], c', h => by
    rw [wr_nil] at h
    cases h
    refine ⟨rfl, .inl rfl, fun j => ?_⟩
    rw [if_neg (by simp <;> omega)]
  | [], i, a :: as, c', h => by simp [wr_none] at h
  | x :: c, 0, a :: as, c', h => by
    rw [wr_zero] at h
    split at h
    · rename_i l hl
      cases h
      obtain ⟨h1, h2, h3⟩ := wr_spec c 0 as l hl
      refine ⟨by simp [h1], .inr ?_, fun j => ?_⟩
      · rcases h2 with rfl | h2
        · simp
        · simp only [List.length_cons]; omega
      · cases j with
        | zero => simp
        | succ j =>
          simp only [List.getElem?_cons_succ, h3 j, List.length_cons]
          by_cases hj : j < 0 + as.length
          · rw [if_pos ⟨by omega, hj⟩, if_pos ⟨by omega, by omega⟩]
            simp
          · rw [if_neg (by omega), if_neg (by omega)]
    · cases h
  | x :: c, i + 1, a :: as, c', h => by
    rw [wr_succ] at h
    split at h
    · rename_i l hl
      cases h
      obtain ⟨h1, h2, h3⟩ := wr_spec c i (a :: as) l hl
      refine ⟨by simp [h1], .inr ?_, fun j => ?_⟩
      · rcases h2 with h2 | h2
        · cases h2
        · simp only [List.length_cons] at h2 ⊢; omega
      · cases j with
        | zero => simp
        | succ j =>
          simp only [List.getElem?_cons_succ, h3 j]
          by_cases hj : i ≤ j ∧ j < i + (a :: as).length
          · rw [if_pos hj, if_pos ⟨by omega, by omega⟩, Nat.add_sub_add_right]
          · rw [if_neg hj, if_neg (by omega)]
    · cases h

/-- A value of one cell. -/
def one : Value → Bool
  | .agg _ | .tuple _ => false
  | _ => true

theorem add_plain (g o i : Nat) : (⟨g, o, none⟩ : Addr).add i = ⟨g, o + i, none⟩ := by
  unfold Addr.add
  split
  · rename_i h; rw [h]; rfl
  · rfl

theorem run_storeCells (P : Program) (g o : Nat) (t : TypeId) (fz : Nat × Nat) : ∀ (vs : List Value) (i : Nat) (w : World) (arr : Array Value), w.heap[g]? = some (.cells arr t fz) → Unfrozen arr.size fz →
    o + i + vs.length ≤ arr.size → (∀ v ∈ vs, one v = true) → ∃ w' arr', (storeCells ⟨g, o, none⟩ vs i).run P w = .ok () w' ∧ Only g w w' ∧ w'.heap[g]? = some (.cells arr' t fz) ∧ arr'.size = arr.size ∧
      ∀ j, arr'[j]? = if o + i ≤ j ∧ j < o + i + vs.length then vs[j - (o + i)]? else arr[j]?
  | [], i, w, arr, h1, h2, h3, h4 => ⟨w, arr, by simp [storeCells], Only.refl _ _, h1, rfl, fun j => by rw [if_neg (by simp <;> omega)]⟩
  | v :: vs, i, w, arr, h1, h2, h3, h4 => by
    simp only [List.length_cons] at h3
    have hv : one v = true := h4 v (by simp)
    have hcell : w.cell? ⟨g, o + i, none⟩ = some arr[o + i] := by
      simp only [World.cell?, h1]
      simp
    have hfz : w.frozen? ⟨g, o + i, none⟩ = false := by
      simp only [World.frozen?, h1]
      have := h2 (o + i) (by omega)
      simp only [Bool.and_eq_false_iff, decide_eq_false_iff_not]
      by_cases hh : fz.1 ≤ o + i
      · right; intro hh'; exact this ⟨hh, hh'⟩
      · left; exact hh
    have hset : (w.setCell ⟨g, o + i, none⟩ v).heap[g]? = some (.cells (arr.setIfInBounds (o + i) v) t fz) := by
      simp only [World.setCell, Array.getElem?_modify, if_true, h1]
      simp
    obtain ⟨w', arr', e1, e2, e3, e4, e5⟩ := run_storeCells P g o t fz vs (i + 1) (w.setCell ⟨g, o + i, none⟩ v) _ hset (by simpa using h2) (by simp; omega) (fun u hu => h4 u (by simp [hu]))
    refine ⟨w', arr', ?_, (Only.setCell w ⟨g, o + i, none⟩ v).trans e2, e3, by simpa using e4, ?_⟩
    · simp only [storeCells, add_plain]
      have : (store ⟨g, o + i, none⟩ v).run P w = .ok () (w.setCell ⟨g, o + i, none⟩ v) := by
        unfold store
        cases v <;> first | (simp [one] at hv; done) | simp [Sem.run, hcell, hfz]
      rw [Sem.run_bind, this]
      exact e1
    · intro j
      rw [e5 j]
      by_cases hj : o + (i + 1) ≤ j ∧ j < o + (i + 1) + vs.length
      · rw [if_pos hj, if_pos (by simp only [List.length_cons]; omega)]
        have : j - (o + i) = (j - (o + (i + 1))) + 1 := by omega
        rw [this, List.getElem?_cons_succ]
      · rw [if_neg hj]
        by_cases hj' : j = o + i
        · subst hj'
          rw [if_pos (by simp only [List.length_cons]; omega)]
          simp
          rw [Array.getElem?_setIfInBounds_self_of_lt (by omega)]
        · rw [if_neg (by simp only [List.length_cons]; omega), Array.getElem?_setIfInBounds_ne (by omega)]

end Go.Abs
