import Derived.Tactics
import Derived.Orders
import Derived.Below
import Derived.Eval
import Derived.Laws.Rows
import Derived.Laws.Append
import Derived.Laws.BytesString
import Derived.Laws.EntriesVeiled
import Derived.LoopNIn
import Derived.OrdersIn
import Derived.TacticsIn
import Derived.RangeFuncLeaves
import Derived.RangeFuncRecord
import Derived.Scope
set_option linter.unusedVariables false
set_option linter.unusedSimpArgs false
set_option linter.defProp false
noncomputable section
namespace Go.Abu
inductive PT (α : Type) where
 | nil
 | node (l : PT α) (v : Option α) (r : PT α)
def PT.get {α : Type} (t : PT α) : Nat → Option α :=
 PT.rec (motive := fun _ => Nat → Option α) (fun _ => none)
  (fun _ v _ gl gr m => Bool.rec (Bool.rec (gr (Nat.div m 2)) (gl (Nat.div m 2)) (Nat.beq (Nat.mod m 2) 0)) v (Nat.beq m 1)) t
def PT.mk {α : Type} (v : α) : Nat → Nat → PT α :=
 Nat.rec (fun _ => .node .nil (some v) .nil)
  (fun _ ih m => Bool.rec (Bool.rec (.node .nil none (ih (Nat.div m 2))) (.node (ih (Nat.div m 2)) none .nil) (Nat.beq (Nat.mod m 2) 0)) (.node .nil (some v) .nil) (Nat.beq m 1))
def PT.set {α : Type} (d : Nat) (x : α) (t : PT α) : Nat → PT α :=
 PT.rec (motive := fun _ => Nat → PT α) (fun m => PT.mk x d m)
  (fun l v r sl sr m => Bool.rec (Bool.rec (.node l v (sr (Nat.div m 2))) (.node (sl (Nat.div m 2)) v r) (Nat.beq (Nat.mod m 2) 0)) (.node l (some x) r) (Nat.beq m 1)) t
namespace PT
variable {α : Type}
theorem br {β : Type} (m : Nat) (a b c : β) : (Bool.rec (Bool.rec c b (Nat.beq (Nat.mod m 2) 0)) a (Nat.beq m 1) : β) = if m = 1 then a else if m % 2 = 0 then b else c := by
 cases h : Nat.beq m 1
 ·have h1 : m ≠ 1 := fun e => by rw [e] at h; exact absurd h (by decide)
  rw [if_neg h1];cases h' : Nat.beq (Nat.mod m 2) 0
  ·have h2 : m % 2 ≠ 0 := fun e => by
    have e : Nat.mod m 2 = 0 := e;rw [e] at h'; exact absurd h' (by decide)
   rw [if_neg h2]
  ·have h2 : m % 2 = 0 := Nat.eq_of_beq_eq_true h';rw [if_pos h2]
 ·rw [if_pos (Nat.eq_of_beq_eq_true h)]
theorem get_nil (m : Nat) : get (nil : PT α) m = none := rfl
theorem get_node (l r : PT α) (v : Option α) (m : Nat) : get (node l v r) m = if m = 1 then v else if m % 2 = 0 then get l (m / 2) else get r (m / 2) := br m _ _ _
theorem mk_zero (x : α) (m : Nat) : mk x 0 m = node nil (some x) nil := rfl
theorem mk_succ (x : α) (d m : Nat) : mk x (d + 1) m = if m = 1 then node nil (some x) nil else if m % 2 = 0 then node (mk x d (m / 2)) none nil else node nil none (mk x d (m / 2)) := br m _ _ _
theorem set_nil (d : Nat) (x : α) (m : Nat) : set d x nil m = mk x d m := rfl
theorem set_node (d : Nat) (x : α) (l r : PT α) (v : Option α) (m : Nat) : set d x (node l v r) m = if m = 1 then node l (some x) r else if m % 2 = 0 then node (set d x l (m / 2)) v r else node l v (set d x r (m / 2)) := br m _ _ _
theorem get_mk (x : α) : ∀ (d m m' : Nat), 0 < m → m < 2 ^ (d + 1) → 0 < m' → get (mk x d m) m' = if m' = m then some x else none
 | 0, m, m', h0, h, h' => by
  have e : m = 1 := by rw [show (2 : Nat) ^ (0 + 1) = 2 from rfl] at h; omega
  subst e;rw [mk_zero, get_node];by_cases h1 : m' = 1
  ·rw [if_pos h1, if_pos h1]
  ·rw [if_neg h1, if_neg h1, get_nil];split <;> rfl
 | d + 1, m, m', h0, h, h' => by
  rw [Nat.pow_succ] at h;rw [mk_succ];by_cases h1 : m = 1
  ·subst h1;rw [if_pos rfl, get_node];by_cases h1 : m' = 1
   ·rw [if_pos h1, if_pos h1]
   ·rw [if_neg h1, if_neg h1, get_nil];split <;> rfl
  ·rw [if_neg h1];by_cases h2 : m % 2 = 0
   ·rw [if_pos h2, get_node];by_cases h3 : m' = 1
    ·rw [if_pos h3, if_neg (by omega)]
    ·rw [if_neg h3];by_cases h4 : m' % 2 = 0
     ·rw [if_pos h4, get_mk x d (m / 2) (m' / 2) (by omega) (by omega) (by omega)];by_cases h5 : m' = m
      ·rw [if_pos h5, if_pos (by omega)]
      ·rw [if_neg h5, if_neg (by omega)]
     ·rw [if_neg h4, if_neg (by omega), get_nil]
   ·rw [if_neg h2, get_node];by_cases h3 : m' = 1
    ·rw [if_pos h3, if_neg (by omega)]
    ·rw [if_neg h3];by_cases h4 : m' % 2 = 0
     ·rw [if_pos h4, if_neg (by omega), get_nil]
     ·rw [if_neg h4, get_mk x d (m / 2) (m' / 2) (by omega) (by omega) (by omega)];by_cases h5 : m' = m
      ·rw [if_pos h5, if_pos (by omega)]
      ·rw [if_neg h5, if_neg (by omega)]
theorem get_set (d : Nat) (x : α) : ∀ (t : PT α) (m m' : Nat), 0 < m → m < 2 ^ (d + 1) → 0 < m' → get (set d x t m) m' = if m' = m then some x else get t m'
 | nil, m, m', h0, h, h' => by rw [set_nil, get_mk x d m m' h0 h h', get_nil]
 | node l v r, m, m', h0, h, h' => by
  have ihl := fun (a b : Nat) (ha : 0 < a) (hb : a < 2 ^ (d + 1)) (hc : 0 < b) => get_set d x l a b ha hb hc;have ihr := fun (a b : Nat) (ha : 0 < a) (hb : a < 2 ^ (d + 1)) (hc : 0 < b) => get_set d x r a b ha hb hc;rw [set_node];by_cases h1 : m = 1
  ·subst h1;rw [if_pos rfl, get_node, get_node];by_cases h1 : m' = 1
   ·rw [if_pos h1, if_pos h1]
   ·rw [if_neg h1, if_neg h1, if_neg h1]
  ·rw [if_neg h1];by_cases h2 : m % 2 = 0
   ·rw [if_pos h2, get_node, get_node];by_cases h3 : m' = 1
    ·rw [if_pos h3, if_neg (by omega), if_pos h3]
    ·rw [if_neg h3, if_neg h3];by_cases h4 : m' % 2 = 0
     ·rw [if_pos h4, if_pos h4, ihl (m / 2) (m' / 2) (by omega) (by omega) (by omega)];by_cases h5 : m' = m
      ·rw [if_pos h5, if_pos (by omega)]
      ·rw [if_neg h5, if_neg (by omega)]
     ·rw [if_neg h4, if_neg h4, if_neg (by omega)]
   ·rw [if_neg h2, get_node, get_node];by_cases h3 : m' = 1
    ·rw [if_pos h3, if_neg (by omega), if_pos h3]
    ·rw [if_neg h3, if_neg h3];by_cases h4 : m' % 2 = 0
     ·rw [if_pos h4, if_pos h4, if_neg (by omega)]
     ·rw [if_neg h4, if_neg h4, ihr (m / 2) (m' / 2) (by omega) (by omega) (by omega)];by_cases h5 : m' = m
      ·rw [if_pos h5, if_pos (by omega)]
      ·rw [if_neg h5, if_neg (by omega)]
end PT
def Tr (α : Type) (_ : Nat) : Type := PT α
namespace Tr
variable {α : Type}
def empty (d : Nat) : Tr α d := (PT.nil : PT α)
def get (d : Nat) (t : Tr α d) (k : Nat) : Option α := PT.get (α := α) t (Nat.succ k)
def set (d : Nat) (t : Tr α d) (k : Nat) (v : α) : Tr α d := PT.set (α := α) d v t (Nat.succ k)
theorem get_empty (d : Nat) (k : Nat) : get d (empty d : Tr α d) k = none := rfl
theorem get_set (d : Nat) (t : Tr α d) (k k' : Nat) (v : α) (h : k < 2 ^ d) (_h' : k' < 2 ^ d) : get d (set d t k v) k' = if k' = k then some v else get d t k' := by
 show PT.get (PT.set (α := α) d v t (Nat.succ k)) (Nat.succ k') = _
 rw [PT.get_set d v t _ _ (by omega) (by rw [Nat.pow_succ]; omega) (by omega)];by_cases e : k' = k
 ·rw [if_pos e, if_pos (by omega)]
 ·rw [if_neg e, if_neg (by omega)];rfl
end Tr
structure RB where
 c : Nat
 s : Nat
 lim : Nat
 z : Nat
 n : Nat
abbrev Ren := Nat → Option RB
def Ren.le (φ ψ : Ren) : Prop := ∀ b r, φ b = some r → ψ b = some r
theorem Ren.le_refl (φ : Ren) : φ.le φ := fun _ _ h => h
theorem Ren.le_trans {φ ψ χ : Ren} (h : φ.le ψ) (k : ψ.le χ) : φ.le χ := fun b r e => k b r (h b r e)
def capU : Nat := 18446744073709551616
mutual
inductive VR (φ : Ren) : Value → Value → Prop
 | bool (b : Bool) : VR φ (.bool b) (.bool b)
 | int (k : IntKind) (n : Int) : VR φ (.int k n) (.int k n)
 | float (k : FloatKind) (n : Nat) : VR φ (.float k n) (.float k n)
 | string (s : ByteArray) : VR φ (.string s) (.string s)
 | ptrNil : VR φ (.pointer none) (.pointer none)
 | ptr {b o : Nat} {r : RB} (h : φ b = some r) : VR φ (.pointer (some ⟨r.c, r.s + o, none⟩)) (.pointer (some ⟨b, o, none⟩))
 | sliceNil : VR φ (.slice none 0 0) (.slice none 0 0)
 | slice {b o len cap acap : Nat} {r : RB} (h : φ b = some r) (hl : len ≤ cap) (hc : (acap = cap ∧ acap ≠ capU) ∨ (acap = capU ∧ r.s + o + cap * r.z ≤ r.lim ∧ r.n ≤ o + cap * r.z)) :
   VR φ (.slice (some ⟨r.c, r.s + o, none⟩) len cap) (.slice (some ⟨b, o, none⟩) len acap)
 | sliceE {b o x acap : Nat} {r : RB} (h : φ b = some r) (ha : acap = 0 ∨ (acap = capU ∧ r.n ≤ o)) : VR φ (.slice (some ⟨r.c, x, none⟩) 0 0) (.slice (some ⟨b, o, none⟩) 0 acap)
 | mapNil : VR φ (.map none) (.map none)
 | map {b : Nat} {r : RB} (h : φ b = some r) : VR φ (.map (some r.c)) (.map (some b))
 | chanNil : VR φ (.chan none) (.chan none)
 | nilFunc : VR φ .nilFunc .nilFunc
 | func {fn : FuncId} {f1 f2 c1 c2 : Array Value} (hf : VRs φ f1.toList f2.toList) (hc : VRs φ c1.toList c2.toList) : VR φ (.func (.func fn) f1 c1) (.func (.func fn) f2 c2)
 | yield {b : Nat} {r : RB} (h : φ b = some r) : VR φ (.func (.yield r.c) #[] #[]) (.func (.yield b) #[] #[])
 | nilIface : VR φ .nilIface .nilIface
 | iface {t : TypeId} {v a : Value} (h : VR φ v a) : VR φ (.iface t v) (.iface t a)
 | agg {cs as : Array Value} (h : VRs φ cs.toList as.toList) : VR φ (.agg cs) (.agg as)
 | tuple {cs as : Array Value} (h : VRs φ cs.toList as.toList) : VR φ (.tuple cs) (.tuple as)
inductive VRs (φ : Ren) : List Value → List Value → Prop
 | nil : VRs φ [] []
 | cons {v a : Value} {vs as : List Value} (h : VR φ v a) (t : VRs φ vs as) : VRs φ (v :: vs) (a :: as)
end
mutual
theorem VR.mono {φ ψ : Ren} (hle : φ.le ψ) : ∀ {v a : Value}, VR φ v a → VR ψ v a
 | _, _, .bool b => .bool b
 | _, _, .int k n => .int k n
 | _, _, .float k n => .float k n
 | _, _, .string s => .string s
 | _, _, .ptrNil => .ptrNil
 | _, _, .ptr h => .ptr (hle _ _ h)
 | _, _, .sliceNil => .sliceNil
 | _, _, .slice h hl hc => .slice (hle _ _ h) hl hc
 | _, _, .sliceE h ha => .sliceE (hle _ _ h) ha
 | _, _, .mapNil => .mapNil
 | _, _, .map h => .map (hle _ _ h)
 | _, _, .chanNil => .chanNil
 | _, _, .nilFunc => .nilFunc
 | _, _, .func hf hc => .func (VRs.mono hle hf) (VRs.mono hle hc)
 | _, _, .yield h => .yield (hle _ _ h)
 | _, _, .nilIface => .nilIface
 | _, _, .iface h => .iface (VR.mono hle h)
 | _, _, .agg h => .agg (VRs.mono hle h)
 | _, _, .tuple h => .tuple (VRs.mono hle h)
theorem VRs.mono {φ ψ : Ren} (hle : φ.le ψ) : ∀ {vs as : List Value}, VRs φ vs as → VRs ψ vs as
 | _, _, .nil => .nil
 | _, _, .cons h t => .cons (VR.mono hle h) (VRs.mono hle t)
end
end Go.Abu
namespace Go.Abu
inductive AObj where
 | row (c : List Value) (t : TypeId) (z : Nat)
 | map (es : List MapEntry) (clock : Nat)
 | loop (st : LoopState) (pd : Option Code) (n : Nat) (m : Tr Value 10) (ps : Array Tmp) (assign body : Code)
 | mark
 | dead
 deriving Inhabited
structure AH where
 next : Nat
 m : Nat → Option AObj
namespace AH
def get (H : AH) (b : Nat) : Option AObj := H.m b
def put (H : AH) (b : Nat) (o : AObj) : AH := { H with m := fun x => if x = b then some o else H.m x }
def alloc (H : AH) (o : AObj) : Option AH := some { next := H.next + 1, m := fun x => if x = H.next then some o else H.m x }
def live (H : AH) (b : Nat) : Prop := ∃ o, H.get b = some o ∧ o ≠ .dead
theorem get_put (H : AH) {b b' : Nat} (o : AObj) (_h : b ≤ b) (_h' : b' ≤ b') : (H.put b o).get b' = if b' = b then some o else H.get b' := rfl
theorem alloc_eq {H H' : AH} {o : AObj} (h : H.alloc o = some H') : H.next ≤ H.next ∧ H'.next = H.next + 1 ∧ ∀ b, b ≤ b → H'.get b = if b = H.next then some o else H.get b := by
 unfold alloc at h;cases h;exact ⟨Nat.le_refl _, rfl, fun b _ => rfl⟩
end AH
def upd (φ : Ren) (b : Nat) (r : RB) : Ren := fun x => if x = b then some r else φ x
def Unfrozen (n : Nat) (fz : Nat × Nat) : Prop := ∀ i, i < n → ¬ (fz.1 ≤ i ∧ i < fz.2)
def RowR (base : Nat) (φ : Ren) (r : RB) (c : List Value) (t : TypeId) (z : Nat) (w : World) : Prop :=
 ∃ arr fz, w.heap[r.c]? = some (.cells arr t fz) ∧ arr.size = r.lim ∧ (r.z = z ∧ r.n = c.length) ∧ r.s + c.length ≤ r.lim ∧
  (∀ i a, c[i]? = some a → ∃ v, arr[r.s + i]? = some v ∧ VR φ v a) ∧ (base ≤ r.c → Unfrozen arr.size fz)
inductive EntR (φ : Ren) : List MapEntry → List MapEntry → Prop
 | nil : EntR φ [] []
 | cons {e a : MapEntry} {es as : List MapEntry} (hk : VR φ e.key a.key) (hv : VR φ e.val a.val) (hb : e.born = a.born) (t : EntR φ es as) : EntR φ (e :: es) (a :: as)
theorem EntR.mono {φ ψ : Ren} (hle : φ.le ψ) {es as : List MapEntry} (h : EntR φ es as) : EntR ψ es as := by
 induction h with
 | nil => exact .nil
 | cons hk hv hb _ ih => exact .cons (hk.mono hle) (hv.mono hle) hb ih
structure TmpsR (φ : Ren) (tmps : Array Value) (n : Nat) (m : Tr Value 10) : Prop where
 size : tmps.size = n
 small : n ≤ 1024
 get : ∀ t a, t < 1024 → Tr.get 10 m t = some a → ∃ v, tmps[t]? = some v ∧ VR φ v a
theorem TmpsR.mono {φ ψ : Ren} (hle : φ.le ψ) {tmps : Array Value} {n : Nat} {m : Tr Value 10} (h : TmpsR φ tmps n m) : TmpsR ψ tmps n m :=
 ⟨h.size, h.small, fun t a ht ha => let ⟨v, h1, h2⟩ := h.get t a ht ha; ⟨v, h1, h2.mono hle⟩⟩
def LoopR (φ : Ren) (st : LoopState) (pd : Option Code) (n : Nat) (m : Tr Value 10) (ps : Array Tmp) (assign body : Code) (x : Loop) : Prop :=
 x.state = st ∧ x.pending = pd ∧ TmpsR φ x.tmps n m ∧ x.params = ps ∧ x.assign = assign ∧ x.body = body
def ObjR (base : Nat) (φ : Ren) (r : RB) (w : World) : AObj → Prop
 | .row c t z => RowR base φ r c t z w
 | .map es ck => ∃ es', w.heap[r.c]? = some (.map es' ck) ∧ EntR φ es'.toList es
 | .loop st pd n m ps assign body => ∃ x, w.heap[r.c]? = some (.loop x) ∧ LoopR φ st pd n m ps assign body x
 | .mark => w.heap[r.c]? = some (.deferred (some []))
 | .dead => True
theorem ObjR.frame {base : Nat} {φ ψ : Ren} {r : RB} {w w' : World} {o : AObj} (hle : φ.le ψ) (hw : w'.heap[r.c]? = w.heap[r.c]?) (h : ObjR base φ r w o) : ObjR base ψ r w' o := by
 cases o with
 | row c t z =>
  obtain ⟨arr, fz, h1, h2, h3, h4, h5, h6⟩ := h;exact ⟨arr, fz, hw ▸ h1, h2, h3, h4, fun i a hi => let ⟨v, hv, hr⟩ := h5 i a hi; ⟨v, hv, hr.mono hle⟩, h6⟩
 | map es ck =>
  obtain ⟨es', h1, h2⟩ := h;exact ⟨es', hw ▸ h1, h2.mono hle⟩
 | loop st pd n m ps assign body =>
  obtain ⟨x, h1, h2, h3, h4, h5⟩ := h;exact ⟨x, hw ▸ h1, h2, h3, h4.mono hle, h5⟩
 | mark => exact (hw.trans h : w'.heap[r.c]? = _)
 | dead => trivial
theorem ObjR.raise {base base' : Nat} {φ : Ren} {r : RB} {w : World} {o : AObj} (hb : base ≤ base') (h : ObjR base φ r w o) : ObjR base' φ r w o := by
 cases o with
 | row c t z =>
  obtain ⟨arr, fz, h1, h2, h3, h4, h5, h6⟩ := h;exact ⟨arr, fz, h1, h2, h3, h4, h5, fun h => h6 (Nat.le_trans hb h)⟩
 | _ => exact h
theorem ObjR.lower {base base' : Nat} {φ : Ren} {r : RB} {w : World} {o : AObj} (hb : base' ≤ r.c) (h : ObjR base' φ r w o) : ObjR base φ r w o := by
 cases o with
 | row c t z =>
  obtain ⟨arr, fz, h1, h2, h3, h4, h5, h6⟩ := h;exact ⟨arr, fz, h1, h2, h3, h4, h5, fun _ => h6 hb⟩
 | _ => exact h
structure Sim (φ : Ren) (H : AH) (bar base : Nat) (w : World) : Prop where
 bn : bar ≤ H.next
 small : H.next ≤ H.next
 lt : ∀ b r, φ b = some r → b < H.next
 obj : ∀ b r o, φ b = some r → H.get b = some o → ObjR base φ r w o
 inj : ∀ b b' r r', φ b = some r → φ b' = some r' → H.live b → H.live b' → bar ≤ b → r.c = r'.c → b = b'
 own : ∀ b r, φ b = some r → bar ≤ b → base ≤ r.c
 hb : base ≤ w.heap.size
 cur : ∀ b r, φ b = some r → r.c < w.heap.size
structure Step (φ : Ren) (H : AH) (bar base : Nat) (w : World) (φ' : Ren) (H' : AH) (w' : World) : Prop where
 ext : φ.le φ'
 sim : Sim φ' H' bar base w'
 new : ∀ b r, φ' b = some r → φ b = some r ∨ H.next ≤ b
 below : RowKit.Below base w w'
 nx : H.next ≤ H'.next
 keep : ∀ b, b < bar → b < H.next → H'.get b = H.get b
theorem Step.refl {φ : Ren} {H : AH} {bar base : Nat} {w : World} (h : Sim φ H bar base w) : Step φ H bar base w φ H w :=
 ⟨Ren.le_refl _, h, fun _ _ h => .inl h, RowKit.Below.refl _ _, Nat.le_refl _, fun _ _ _ => rfl⟩
theorem Step.trans {φ φ₁ φ₂ : Ren} {H H₁ H₂ : AH} {bar base : Nat} {w w₁ w₂ : World} (h : Step φ H bar base w φ₁ H₁ w₁) (k : Step φ₁ H₁ bar base w₁ φ₂ H₂ w₂) :
  Step φ H bar base w φ₂ H₂ w₂ where
 ext := Ren.le_trans h.ext k.ext
 sim := k.sim
 new := fun b r e => by
  rcases k.new b r e with e | e
  ·exact h.new b r e
  ·exact .inr (Nat.le_trans h.nx e)
 below := h.below.trans k.below
 nx := Nat.le_trans h.nx k.nx
 keep := fun b hb hn => by rw [k.keep b hb (Nat.lt_of_lt_of_le hn h.nx), h.keep b hb hn]
theorem upd_le {φ : Ren} {H : AH} {bar base : Nat} {w : World} (hs : Sim φ H bar base w) (r : RB) : φ.le (upd φ H.next r) := by
 intro b r' h;unfold upd;have := hs.lt b r' h;rw [if_neg (by omega)];exact h
theorem Sim.alloc {φ : Ren} {H H' : AH} {bar base : Nat} {w : World} (hs : Sim φ H bar base w) {o : Obj} {ao : AObj} (ha : H.alloc ao = some H') (r : RB)
  (hr : r.c = w.heap.size) (ho : ObjR base (upd φ H.next r) r (w.alloc o) ao) : Step φ H bar base w (upd φ H.next r) H' (w.alloc o) := by
 obtain ⟨hlt, hnx, hget⟩ := AH.alloc_eq ha;have hle := upd_le hs r;have hsz : (w.alloc o).heap.size = w.heap.size + 1 := by show (w.heap.push o).size = _; simp
 have hheap : ∀ k, k < w.heap.size → (w.alloc o).heap[k]? = w.heap[k]? := fun k hk => RowKit.Below.heap_alloc w o k hk;have part : ∀ b r', upd φ H.next r b = some r' → (b = H.next ∧ r' = r) ∨ (b ≠ H.next ∧ φ b = some r') := by
  intro b r' h;unfold upd at h;split at h
  ·rename_i e; cases h; exact .inl ⟨e, rfl⟩
  ·rename_i e; exact .inr ⟨e, h⟩
 have hlive : ∀ b, b ≠ H.next → b ≤ b → H'.live b → H.live b := by
  intro b hb h1 ⟨o', ho', hd⟩;rw [hget b h1, if_neg hb] at ho';exact ⟨o', ho', hd⟩
 have hbn := hs.bn;refine ⟨hle, ⟨?_, ?_, ?_, ?_, ?_, ?_, ?_, ?_⟩, ?_, ?_, ?_, ?_⟩
 ·omega
 ·omega
 ·intro b r' h;rcases part b r' h with ⟨rfl, _⟩ | ⟨_, h⟩
  ·omega
  ·have := hs.lt b r' h; omega
 ·intro b r' o' h hg;rcases part b r' h with ⟨rfl, rfl⟩ | ⟨hne, h⟩
  ·rw [hget _ hlt, if_pos rfl] at hg;cases hg;exact ho
  ·have hb := hs.lt b r' h;rw [hget b (by omega), if_neg hne] at hg;exact (hs.obj b r' o' h hg).frame hle (hheap _ (hs.cur b r' h))
 ·intro b b' r₁ r₂ h1 h2 l1 l2 hbb hc;rcases part b r₁ h1 with ⟨e1, e2⟩ | ⟨n1, h1⟩ <;> rcases part b' r₂ h2 with ⟨e3, e4⟩ | ⟨n2, h2⟩
  ·rw [e1, e3]
  ·exfalso; have := hs.cur b' r₂ h2; rw [← hc, e2, hr] at this; omega
  ·exfalso; have := hs.cur b r₁ h1; rw [hc, e4, hr] at this; omega
  ·have q1 := hs.lt b r₁ h1;have q2 := hs.lt b' r₂ h2;exact hs.inj b b' r₁ r₂ h1 h2 (hlive b n1 (by omega) l1) (hlive b' n2 (by omega) l2) hbb hc
 ·intro b r' h hb;rcases part b r' h with ⟨rfl, rfl⟩ | ⟨_, h⟩
  ·rw [hr]; exact hs.hb
  ·exact hs.own b r' h hb
 ·rw [hsz]; have := hs.hb; omega
 ·intro b r' h;rw [hsz];rcases part b r' h with ⟨rfl, rfl⟩ | ⟨_, h⟩
  ·omega
  ·have := hs.cur b r' h; omega
 ·intro b r' h;rcases part b r' h with ⟨rfl, _⟩ | ⟨_, h⟩
  ·exact .inr (Nat.le_refl _)
  ·exact .inl h
 ·exact (RowKit.Below.refl _ _).alloc hs.hb o
 ·omega
 ·intro b hb hn;rw [hget b (by omega), if_neg (by omega)]
end Go.Abu
namespace Go.Abu
structure Only (c : Nat) (w w' : World) : Prop where
 os : w'.os = w.os
 tape : w'.tape = w.tape
 output : w'.output = w.output
 size : w'.heap.size = w.heap.size
 block : ∀ k, k ≠ c → w'.heap[k]? = w.heap[k]?
theorem Only.refl (c : Nat) (w : World) : Only c w w := ⟨rfl, rfl, rfl, rfl, fun _ _ => rfl⟩
theorem Only.trans {c : Nat} {u v w : World} (h : Only c u v) (k : Only c v w) : Only c u w :=
 ⟨k.os.trans h.os, k.tape.trans h.tape, k.output.trans h.output, k.size.trans h.size, fun i hi => (k.block i hi).trans (h.block i hi)⟩
theorem Only.setCell (w : World) (a : Addr) (v : Value) : Only a.block w (w.setCell a v) :=
 ⟨rfl, rfl, rfl, by simp [World.setCell], fun k hk => RowKit.Below.heap_setCell w a v k hk⟩
theorem Only.below {c base : Nat} {w w' : World} (h : Only c w w') (hc : base ≤ c) : RowKit.Below base w w' :=
 ⟨h.os, h.tape, h.output, Nat.le_of_eq h.size.symm, fun k hk => h.block k (by omega)⟩
theorem Sim.update {φ : Ren} {H : AH} {bar base : Nat} {w w' : World} (hs : Sim φ H bar base w) {b : Nat} {r : RB} (hφ : φ b = some r) (hb : bar ≤ b) (hl : H.live b)
  (hw : Only r.c w w') {ao : AObj} (ho : ObjR base φ r w' ao) : Step φ H bar base w φ (H.put b ao) w' := by
 have hsm := hs.small;have hlt := hs.lt b r hφ;have hget : ∀ b', b' ≤ b' → (H.put b ao).get b' = if b' = b then some ao else H.get b' := fun b' h => AH.get_put H ao (by omega) h
 have hlive : ∀ b', b' ≤ b' → (H.put b ao).live b' → H.live b' := by
  intro b' h ⟨o', h1, h2⟩;rw [hget b' h] at h1;split at h1
  ·rename_i e; rw [e]; exact hl
  ·exact ⟨o', h1, h2⟩
 refine ⟨Ren.le_refl _, ⟨hs.bn, hsm, hs.lt, ?_, ?_, hs.own, ?_, ?_⟩, fun _ _ h => .inl h, hw.below (hs.own b r hφ hb), Nat.le_refl _, ?_⟩
 ·intro b' r' o' h hg;have h' := hs.lt b' r' h;rw [hget b' (by omega)] at hg;split at hg
  ·rename_i e; subst e;rw [hφ] at h; cases h; cases hg;exact ho
  ·rename_i e;by_cases hd : o' = .dead
   ·subst hd; trivial
   ·refine (hs.obj b' r' o' h hg).frame (Ren.le_refl _) (hw.block _ ?_);intro ec;exact e (hs.inj b b' r r' hφ h hl ⟨o', hg, hd⟩ hb ec.symm).symm
 ·intro b₁ b₂ r₁ r₂ h1 h2 l1 l2 hbb hc;have q1 := hs.lt b₁ r₁ h1;have q2 := hs.lt b₂ r₂ h2;exact hs.inj b₁ b₂ r₁ r₂ h1 h2 (hlive _ (by omega) l1) (hlive _ (by omega) l2) hbb hc
 ·rw [hw.size]; exact hs.hb
 ·intro b' r' h; rw [hw.size]; exact hs.cur b' r' h
 ·intro b' h h';rw [hget b' (by omega), if_neg (by omega)]
theorem Sim.rekey {φ : Ren} {H H' : AH} {bar base : Nat} {w w' : World} (hs : Sim φ H bar base w) {b : Nat} {r r' : RB} (hφ : φ b = some r) (hb : bar ≤ b) (hl : H.live b)
  (hw : Only r.c w w') (hc : r'.c = r.c) {ao : AObj} (ha : (H.put b .dead).alloc ao = some H') (ho : ObjR base (upd φ H.next r') r' w' ao) : Step φ H bar base w (upd φ H.next r') H' w' := by
 have hsm := hs.small;have hlt := hs.lt b r hφ;obtain ⟨hlt', hnx, hget'⟩ := AH.alloc_eq ha;have hn : (H.put b .dead).next = H.next := rfl;rw [hn] at hlt' hnx hget';have hget : ∀ b', b' ≤ b' → H'.get b' = if b' = H.next then some ao else if b' = b then some .dead else H.get b' := by
  intro b' h;rw [hget' b' h, AH.get_put H .dead (by omega) h]
 have hle := upd_le hs r';have hbn := hs.bn;have part : ∀ b₁ r₁, upd φ H.next r' b₁ = some r₁ → (b₁ = H.next ∧ r₁ = r') ∨ (b₁ ≠ H.next ∧ φ b₁ = some r₁) := by
  intro b₁ r₁ h;unfold upd at h;split at h
  ·rename_i e; cases h; exact .inl ⟨e, rfl⟩
  ·rename_i e; exact .inr ⟨e, h⟩
 have hlive : ∀ b', b' ≠ H.next → b' ≤ b' → H'.live b' → H.live b' ∧ b' ≠ b := by
  intro b' h1 h ⟨o', h2, h3⟩;rw [hget b' h, if_neg h1] at h2;split at h2
  ·cases h2; exact absurd rfl h3
  ·rename_i e; exact ⟨⟨o', h2, h3⟩, e⟩
 refine ⟨hle, ⟨?_, ?_, ?_, ?_, ?_, ?_, ?_, ?_⟩, ?_, hw.below (hs.own b r hφ hb), ?_, ?_⟩
 ·omega
 ·omega
 ·intro b₁ r₁ h;rcases part b₁ r₁ h with ⟨rfl, _⟩ | ⟨_, h⟩
  ·omega
  ·have := hs.lt b₁ r₁ h; omega
 ·intro b₁ r₁ o₁ h hg;rcases part b₁ r₁ h with ⟨rfl, rfl⟩ | ⟨hne, h⟩
  ·rw [hget _ hlt', if_pos rfl] at hg;cases hg;exact ho
  ·have h' := hs.lt b₁ r₁ h;rw [hget b₁ (by omega), if_neg hne] at hg;split at hg
   ·cases hg; trivial
   ·rename_i e;by_cases hd : o₁ = .dead
    ·subst hd; trivial
    ·refine (hs.obj b₁ r₁ o₁ h hg).frame hle (hw.block _ ?_);intro ec;exact e (hs.inj b b₁ r r₁ hφ h hl ⟨o₁, hg, hd⟩ hb ec.symm).symm
 ·intro b₁ b₂ r₁ r₂ h1 h2 l1 l2 hbb hcc;rcases part b₁ r₁ h1 with ⟨e1, e2⟩ | ⟨n1, h1⟩ <;> rcases part b₂ r₂ h2 with ⟨e3, e4⟩ | ⟨n2, h2⟩
  ·rw [e1, e3]
  ·exfalso;have q2 := hs.lt b₂ r₂ h2;obtain ⟨l2, n2'⟩ := hlive b₂ n2 (by omega) l2;exact n2' (hs.inj b b₂ r r₂ hφ h2 hl l2 hb (by rw [← hcc, e2, hc])).symm
  ·exfalso;have q1 := hs.lt b₁ r₁ h1;obtain ⟨l1, n1'⟩ := hlive b₁ n1 (by omega) l1;exact n1' (hs.inj b b₁ r r₁ hφ h1 hl l1 hb (by rw [hcc, e4, hc])).symm
  ·have q1 := hs.lt b₁ r₁ h1;have q2 := hs.lt b₂ r₂ h2;exact hs.inj b₁ b₂ r₁ r₂ h1 h2 (hlive _ n1 (by omega) l1).1 (hlive _ n2 (by omega) l2).1 hbb hcc
 ·intro b₁ r₁ h hb₁;rcases part b₁ r₁ h with ⟨rfl, rfl⟩ | ⟨_, h⟩
  ·rw [hc]; exact hs.own b r hφ hb
  ·exact hs.own b₁ r₁ h hb₁
 ·rw [hw.size]; exact hs.hb
 ·intro b₁ r₁ h;rw [hw.size];rcases part b₁ r₁ h with ⟨rfl, rfl⟩ | ⟨_, h⟩
  ·rw [hc]; exact hs.cur b r hφ
  ·exact hs.cur b₁ r₁ h
 ·intro b₁ r₁ h;rcases part b₁ r₁ h with ⟨rfl, _⟩ | ⟨_, h⟩
  ·exact .inr (Nat.le_refl _)
  ·exact .inl h
 ·omega
 ·intro b₁ h1 h2;rw [hget b₁ (by omega), if_neg (by omega), if_neg (by omega)]
def wr (c : List Value) : Nat → List Value → Option (List Value) :=
 List.rec (motive := fun _ => Nat → List Value → Option (List Value))
  (fun _ vs => List.rec (some []) (fun _ _ _ => none) vs)
  (fun x t ih i vs => List.rec (some (x :: t)) (fun a as _ => Bool.rec (Option.rec none (fun l => some (x :: l)) (ih (Nat.pred i) (a :: as))) (Option.rec none (fun l => some (a :: l)) (ih 0 as)) (Nat.beq i 0)) vs) c
theorem wr_nil (c : List Value) (i : Nat) : wr c i [] = some c := by cases c <;> rfl
theorem wr_none (i : Nat) (a : Value) (as : List Value) : wr [] i (a :: as) = none := rfl
theorem wr_zero (x : Value) (c : List Value) (a : Value) (as : List Value) : wr (x :: c) 0 (a :: as) = match wr c 0 as with | some l => some (a :: l) | none => none := by
 have h : wr (x :: c) 0 (a :: as) = Option.rec none (fun l => some (a :: l)) (wr c 0 as) := rfl;rw [h];cases wr c 0 as <;> rfl
theorem wr_succ (x : Value) (c : List Value) (i : Nat) (a : Value) (as : List Value) : wr (x :: c) (i + 1) (a :: as) = match wr c i (a :: as) with | some l => some (x :: l) | none => none := by
 have h : wr (x :: c) (i + 1) (a :: as) = Option.rec none (fun l => some (x :: l)) (wr c i (a :: as)) := rfl;rw [h];cases wr c i (a :: as) <;> rfl
theorem wr_spec : ∀ (c : List Value) (i : Nat) (as c' : List Value), wr c i as = some c' →
  c'.length = c.length ∧ (as = [] ∨ i + as.length ≤ c.length) ∧ ∀ j, c'[j]? = if i ≤ j ∧ j < i + as.length then as[j - i]? else c[j]?
 | c, i, [], c', h => by
  rw [wr_nil] at h;cases h;refine ⟨rfl, .inl rfl, fun j => ?_⟩;rw [if_neg (by simp <;> omega)]
 | [], i, a :: as, c', h => by simp [wr_none] at h
 | x :: c, 0, a :: as, c', h => by
  rw [wr_zero] at h;split at h
  ·rename_i l hl;cases h;obtain ⟨h1, h2, h3⟩ := wr_spec c 0 as l hl;refine ⟨by simp [h1], .inr ?_, fun j => ?_⟩
   ·rcases h2 with rfl | h2
    ·simp
    ·simp only [List.length_cons]; omega
   ·cases j with
    | zero => simp
    | succ j =>
     simp only [List.getElem?_cons_succ, h3 j, List.length_cons];by_cases hj : j < 0 + as.length
     ·rw [if_pos ⟨by omega, hj⟩, if_pos ⟨by omega, by omega⟩];simp
     ·rw [if_neg (by omega), if_neg (by omega)]
  ·cases h
 | x :: c, i + 1, a :: as, c', h => by
  rw [wr_succ] at h;split at h
  ·rename_i l hl;cases h;obtain ⟨h1, h2, h3⟩ := wr_spec c i (a :: as) l hl;refine ⟨by simp [h1], .inr ?_, fun j => ?_⟩
   ·rcases h2 with h2 | h2
    ·cases h2
    ·simp only [List.length_cons] at h2 ⊢; omega
   ·cases j with
    | zero => simp
    | succ j =>
     simp only [List.getElem?_cons_succ, h3 j];by_cases hj : i ≤ j ∧ j < i + (a :: as).length
     ·rw [if_pos hj, if_pos ⟨by omega, by omega⟩, Nat.add_sub_add_right]
     ·rw [if_neg hj, if_neg (by omega)]
  ·cases h
def one : Value → Bool
 | .agg _ | .tuple _ => false
 | _ => true
theorem add_plain (g o i : Nat) : (⟨g, o, none⟩ : Addr).add i = ⟨g, o + i, none⟩ := by
 unfold Addr.add;split
 ·rename_i h; rw [h]; rfl
 ·rfl
theorem run_storeCells (P : Program) (g o : Nat) (t : TypeId) (fz : Nat × Nat) : ∀ (vs : List Value) (i : Nat) (w : World) (arr : Array Value), w.heap[g]? = some (.cells arr t fz) → Unfrozen arr.size fz →
  o + i + vs.length ≤ arr.size → (∀ v ∈ vs, one v = true) → ∃ w' arr', (storeCells ⟨g, o, none⟩ vs i).run P w = .ok () w' ∧ Only g w w' ∧ w'.heap[g]? = some (.cells arr' t fz) ∧ arr'.size = arr.size ∧
   ∀ j, arr'[j]? = if o + i ≤ j ∧ j < o + i + vs.length then vs[j - (o + i)]? else arr[j]?
 | [], i, w, arr, h1, h2, h3, h4 => ⟨w, arr, by simp [storeCells], Only.refl _ _, h1, rfl, fun j => by rw [if_neg (by simp <;> omega)]⟩
 | v :: vs, i, w, arr, h1, h2, h3, h4 => by
  simp only [List.length_cons] at h3;have hv : one v = true := h4 v (by simp);have hcell : w.cell? ⟨g, o + i, none⟩ = some arr[o + i] := by
   simp only [World.cell?, h1];simp
  have hfz : w.frozen? ⟨g, o + i, none⟩ = false := by
   simp only [World.frozen?, h1];have := h2 (o + i) (by omega);simp only [Bool.and_eq_false_iff, decide_eq_false_iff_not];by_cases hh : fz.1 ≤ o + i
   ·right; intro hh'; exact this ⟨hh, hh'⟩
   ·left; exact hh
  have hset : (w.setCell ⟨g, o + i, none⟩ v).heap[g]? = some (.cells (arr.setIfInBounds (o + i) v) t fz) := by
   simp only [World.setCell, Array.getElem?_modify, if_true, h1];simp
  obtain ⟨w', arr', e1, e2, e3, e4, e5⟩ := run_storeCells P g o t fz vs (i + 1) (w.setCell ⟨g, o + i, none⟩ v) _ hset (by simpa using h2) (by simp; omega) (fun u hu => h4 u (by simp [hu]))
  refine ⟨w', arr', ?_, (Only.setCell w ⟨g, o + i, none⟩ v).trans e2, e3, by simpa using e4, ?_⟩
  ·simp only [storeCells, add_plain];have : (store ⟨g, o + i, none⟩ v).run P w = .ok () (w.setCell ⟨g, o + i, none⟩ v) := by
    unfold store;cases v <;> first | (simp [one] at hv; done) | simp [Sem.run, hcell, hfz]
   rw [Sem.run_bind, this];exact e1
  ·intro j;rw [e5 j];by_cases hj : o + (i + 1) ≤ j ∧ j < o + (i + 1) + vs.length
   ·rw [if_pos hj, if_pos (by simp only [List.length_cons]; omega)];have : j - (o + i) = (j - (o + (i + 1))) + 1 := by omega
    rw [this, List.getElem?_cons_succ]
   ·rw [if_neg hj];by_cases hj' : j = o + i
    ·subst hj';rw [if_pos (by simp only [List.length_cons]; omega)];simp;rw [Array.getElem?_setIfInBounds_self_of_lt (by omega)]
    ·rw [if_neg (by simp only [List.length_cons]; omega), Array.getElem?_setIfInBounds_ne (by omega)]
end Go.Abu
namespace Go.Abu
theorem VRs.length {φ : Ren} {vs as : List Value} : VRs φ vs as → vs.length = as.length
 | .nil => rfl
 | .cons _ t => by simp [t.length]
theorem VRs.get {φ : Ren} : ∀ {vs as : List Value}, VRs φ vs as → ∀ (i : Nat) (a : Value), as[i]? = some a → ∃ v, vs[i]? = some v ∧ VR φ v a
 | _, _, .nil, i, a, h => by simp at h
 | _, _, .cons hv t, i, a, h => by
  cases i with
  | zero => simp at h; subst h; exact ⟨_, by simp, hv⟩
  | succ i => simp at h; obtain ⟨v, h1, h2⟩ := t.get i a h; exact ⟨v, by simpa using h1, h2⟩
theorem VRs.of_get {φ : Ren} : ∀ {vs as : List Value}, vs.length = as.length → (∀ (i : Nat) (a : Value), as[i]? = some a → ∃ v, vs[i]? = some v ∧ VR φ v a) → VRs φ vs as
 | [], [], _, _ => .nil
 | [], _ :: _, h, _ => by simp at h
 | _ :: _, [], h, _ => by simp at h
 | v :: vs, a :: as, h, k => by
  refine .cons ?_ (VRs.of_get (by simpa using h) fun i b hb => ?_)
  ·obtain ⟨v', h1, h2⟩ := k 0 a (by simp);simp at h1; subst h1; exact h2
  ·obtain ⟨v', h1, h2⟩ := k (i + 1) b (by simpa using hb)
   exact ⟨v', by simpa using h1, h2⟩
theorem VRs.append {φ : Ren} {vs as us bs : List Value} (h : VRs φ vs as) (k : VRs φ us bs) : VRs φ (vs ++ us) (as ++ bs) := by
 cases h with
 | nil => exact k
 | cons hv t => exact .cons hv (VRs.append t k)
theorem VRs.take {φ : Ren} : ∀ {vs as : List Value} (n : Nat), VRs φ vs as → VRs φ (vs.take n) (as.take n)
 | _, _, 0, _ => by simpa using .nil
 | _, _, _ + 1, .nil => by simpa using .nil
 | _, _, n + 1, .cons h t => by simpa using .cons h (t.take n)
theorem VRs.drop {φ : Ren} : ∀ {vs as : List Value} (n : Nat), VRs φ vs as → VRs φ (vs.drop n) (as.drop n)
 | _, _, 0, h => by simpa using h
 | _, _, _ + 1, .nil => by simpa using .nil
 | _, _, n + 1, .cons h t => by simpa using t.drop n
theorem one_rel {φ : Ren} {v a : Value} (h : VR φ v a) : one v = one a := by cases h <;> rfl
theorem ones_rel {φ : Ren} : ∀ {vs as : List Value}, VRs φ vs as → as.all one = true → ∀ v ∈ vs, one v = true
 | _, _, .nil, _, v, hv => by simp at hv
 | _, _, .cons h t, hall, v, hv => by
  simp only [List.all_cons, Bool.and_eq_true] at hall;rcases List.mem_cons.1 hv with rfl | hv
  ·rw [one_rel h]; exact hall.1
  ·exact ones_rel t hall.2 v hv
def dropF (c : List Value) (o : Nat) : List Value := Nat.rec c (fun _ ih => List.rec [] (fun _ t _ => t) ih) o
def takeF (n : Nat) : List Value → Option (List Value) :=
 Nat.rec (fun _ => some []) (fun _ ih l => List.rec none (fun x t _ => Option.rec none (fun r => some (x :: r)) (ih t)) l) n
theorem dropF_eq (c : List Value) : ∀ o, dropF c o = c.drop o
 | 0 => rfl
 | o + 1 => by
  have h : dropF c (o + 1) = (dropF c o).tail := by
   show _ = List.tail (dropF c o)
   cases h : dropF c o
   ·have : dropF c (o + 1) = List.rec [] (fun _ t _ => t) (dropF c o) := rfl;rw [this, h];rfl
   ·have : dropF c (o + 1) = List.rec [] (fun _ t _ => t) (dropF c o) := rfl;rw [this, h];rfl
  rw [h, dropF_eq c o, List.tail_drop]
theorem takeF_eq : ∀ (n : Nat) (l : List Value), takeF n l = if (l.take n).length = n then some (l.take n) else none
 | 0, l => by simp; rfl
 | n + 1, [] => by simp; rfl
 | n + 1, x :: t => by
  have h : takeF (n + 1) (x :: t) = Option.rec none (fun r => some (x :: r)) (takeF n t) := rfl;rw [h, takeF_eq n t];by_cases e : (t.take n).length = n
  ·rw [if_pos e, if_pos (by simp only [List.take_succ_cons, List.length_cons]; omega)];rfl
  ·rw [if_neg e, if_neg (by simp only [List.take_succ_cons, List.length_cons]; omega)]
def cellsAt (c : List Value) (o n : Nat) : Option (List Value) := takeF n (dropF c o)
theorem cellsAt_eq (c : List Value) (o n : Nat) : cellsAt c o n = if ((c.drop o).take n).length = n then some ((c.drop o).take n) else none := by
 unfold cellsAt;rw [dropF_eq, takeF_eq]
theorem cellsAt_get {c l : List Value} {o n : Nat} (h : cellsAt c o n = some l) : l.length = n ∧ ∀ i, i < n → l[i]? = c[o + i]? := by
 rw [cellsAt_eq] at h;split at h
 ·rename_i hl;cases h;refine ⟨hl, fun i hi => ?_⟩;rw [List.getElem?_take, if_pos hi, List.getElem?_drop]
 ·cases h
theorem load_row (P : Program) {φ : Ren} {H : AH} {bar base : Nat} {w : World} (hs : Sim φ H bar base w) {b : Nat} {r : RB} (hφ : φ b = some r) {c : List Value} {t : TypeId} {z : Nat}
  (hg : H.get b = some (.row c t z)) {o n : Nat} {l : List Value} (hl : cellsAt c o n = some l) :
  ∃ vs, VRs φ vs l ∧ (loadCells ⟨r.c, r.s + o, none⟩ n).run P w = .ok vs.toArray w := by
 obtain ⟨arr, fz, h1, h2, h3, h4, h5, h6⟩ := hs.obj b r _ hφ hg;obtain ⟨hn, hget⟩ := cellsAt_get hl;have key : ∀ i, i < n → ∃ v, arr[r.s + (o + i)]? = some v ∧ ∀ a, l[i]? = some a → VR φ v a := by
  intro i hi;have hli : l[i]? = some (l[i]'(by omega)) := by simp
  obtain ⟨v, hv, hr⟩ := h5 (o + i) (l[i]'(by omega)) (by rw [← hget i hi]; exact hli);exact ⟨v, hv, fun a ha => by rw [hli] at ha; cases ha; exact hr⟩
 let vs := (List.range n).map fun i => arr[r.s + (o + i)]?.getD undef
 have hvl : vs.length = n := by simp [vs]
 have hvg : ∀ i, i < n → ∃ v, vs[i]? = some v ∧ arr[r.s + (o + i)]? = some v := by
  intro i hi;obtain ⟨v, hv, _⟩ := key i hi;exact ⟨v, by simp [vs, hi, hv], hv⟩
 refine ⟨vs, VRs.of_get (by omega) fun i a ha => ?_, ?_⟩
 ·have hi : i < n := by have := (List.getElem?_eq_some_iff.1 ha).1; omega
  obtain ⟨v, e1, e2⟩ := hvg i hi;obtain ⟨v', e3, e4⟩ := key i hi;rw [e2] at e3; cases e3;exact ⟨v, e1, e4 a ha⟩
 ·have := run_loadCells_list (P := P) w ⟨r.c, r.s + o, none⟩ vs (fun j v hv => by
   have hj : j < n := by have := (List.getElem?_eq_some_iff.1 hv).1; omega
   obtain ⟨v', e1, e2⟩ := hvg j hj;rw [hv] at e1; cases e1;rw [add_plain];simp only [World.cell?, h1];rw [← Nat.add_assoc] at e2;simpa using e2)
  rw [hvl] at this;exact this
theorem store_row (P : Program) {φ : Ren} {H : AH} {bar base : Nat} {w : World} (hs : Sim φ H bar base w) {b : Nat} {r : RB} (hφ : φ b = some r) (hb : bar ≤ b) {c : List Value} {t : TypeId} {z : Nat}
  (hg : H.get b = some (.row c t z)) {o : Nat} {vs as c' : List Value} (hw : wr c o as = some c') (hv : VRs φ vs as) (h1 : as.all one = true) (hn : as ≠ []) :
  ∃ w', (storeCells ⟨r.c, r.s + o, none⟩ vs).run P w = .ok () w' ∧ Step φ H bar base w φ (H.put b (.row c' t z)) w' := by
 obtain ⟨arr, fz, g1, g2, g3, g4, g5, g6⟩ := hs.obj b r _ hφ hg;obtain ⟨e1, e2, e3⟩ := wr_spec c o as c' hw;have e2 : o + as.length ≤ c.length := e2.resolve_left hn;have hlen := hv.length;obtain ⟨w', arr', f1, f2, f3, f4, f5⟩ := run_storeCells P r.c (r.s + o) t fz vs 0 w arr g1 (g6 (hs.own b r hφ hb)) (by omega) (ones_rel hv h1);refine ⟨w', f1, hs.update hφ hb ⟨_, hg, by simp⟩ f2 ⟨arr', fz, f3, by omega, ⟨g3.1, by rw [g3.2, e1]⟩, by omega, fun i a ha => ?_, by rw [f4]; exact g6⟩⟩;rw [e3 i] at ha;by_cases hi : o ≤ i ∧ i < o + as.length
 ·rw [if_pos hi] at ha;obtain ⟨v, k1, k2⟩ := hv.get _ a ha;refine ⟨v, ?_, k2⟩;rw [f5, if_pos (by omega)];have : r.s + i - (r.s + o + 0) = i - o := by omega
  rw [this]; exact k1
 ·rw [if_neg hi] at ha;obtain ⟨v, k1, k2⟩ := g5 i a ha;refine ⟨v, ?_, k2⟩;rw [f5, if_neg (by omega)];exact k1
theorem run_newRow (P : Program) (w : World) (t : TypeId) (arr : Array Value) : (newRow t arr).run P w = .ok ⟨w.heap.size, 0, none⟩ (w.alloc (.cells arr t)) := by
 unfold newRow newObj;rw [Sem.run_bind];rfl
theorem unfrozen00 (n : Nat) : Unfrozen n (0, 0) := fun i _ h => by simp at h
theorem new_row {φ : Ren} {H H' : AH} {bar base : Nat} {w : World} (hs : Sim φ H bar base w) {as : List Value} {t : TypeId} {z : Nat} (ha : H.alloc (.row as t z) = some H') {arr : Array Value}
  (hsz : as.length ≤ arr.size) (hv : ∀ (i : Nat) (a : Value), as[i]? = some a → ∃ v, arr[i]? = some v ∧ VR φ v a) :
  Step φ H bar base w (upd φ H.next ⟨w.heap.size, 0, arr.size, z, as.length⟩) H' (w.alloc (.cells arr t)) := by
 refine hs.alloc ha _ rfl ⟨arr, (0, 0), ?_, rfl, ⟨rfl, rfl⟩, by simpa using hsz, fun i a hi => ?_, fun _ => unfrozen00 _⟩
 ·show (w.heap.push _)[w.heap.size]? = _
  simp
 ·obtain ⟨v, h1, h2⟩ := hv i a hi;exact ⟨v, by simpa using h1, h2.mono (upd_le hs _)⟩
theorem upd_self (φ : Ren) (b : Nat) (r : RB) : upd φ b r b = some r := by simp [upd]
end Go.Abu
namespace Go.Abu
def pureRun {α : Type} (P : Program) : Sem α → Option α
 | .pure a => some a
 | .program k => pureRun P (k P)
 | .mark _ k => pureRun P k
 | _ => none
theorem pureRun_sound {α : Type} (P : Program) : ∀ (e : Sem α) (a : α), pureRun P e = some a → ∀ w, e.run P w = .ok a w := by
 intro e;induction e with
 | pure b => intro a h w; simp only [pureRun] at h; cases h; rfl
 | program k ih => intro a h w; simp only [pureRun] at h; simp only [Sem.run]; exact ih P a h w
 | mark m k ih => intro a h w; simp only [pureRun] at h; simp only [Sem.run]; exact ih a h w
 | _ => intro a h w; simp [pureRun] at h
def plain1 : Value → Bool
 | .bool _ | .int _ _ | .float _ _ | .string _ | .pointer none | .slice none 0 0 | .map none | .chan none | .nilFunc | .nilIface => true
 | .iface _ v => plain1 v
 | _ => false
def plain : Value → Bool
 | .agg cs => cs.toList.all plain1
 | v => plain1 v
theorem plain1_eq {φ : Ren} : ∀ {v a : Value}, VR φ v a → plain1 a = true → v = a
 | _, _, .bool b, _ => rfl
 | _, _, .int k n, _ => rfl
 | _, _, .float k n, _ => rfl
 | _, _, .string s, _ => rfl
 | _, _, .ptrNil, _ => rfl
 | _, _, .ptr h, hp => by simp [plain1] at hp
 | _, _, .sliceNil, _ => rfl
 | _, _, .slice h hl hc, hp => by simp [plain1] at hp
 | _, _, .sliceE h ha, hp => by simp [plain1] at hp
 | _, _, .mapNil, _ => rfl
 | _, _, .map h, hp => by simp [plain1] at hp
 | _, _, .chanNil, _ => rfl
 | _, _, .nilFunc, _ => rfl
 | _, _, .func hf hc, hp => by simp [plain1] at hp
 | _, _, .nilIface, _ => rfl
 | _, _, .iface h, hp => by
  simp only [plain1] at hp;rw [plain1_eq h hp]
 | _, _, .agg h, hp => by simp [plain1] at hp
 | _, _, .tuple h, hp => by simp [plain1] at hp
theorem plains_eq {φ : Ren} : ∀ {vs as : List Value}, VRs φ vs as → as.all plain1 = true → vs = as
 | _, _, .nil, _ => rfl
 | _, _, .cons h t, hp => by
  simp only [List.all_cons, Bool.and_eq_true] at hp;rw [plain1_eq h hp.1, plains_eq t hp.2]
theorem plain_eq {φ : Ren} {v a : Value} (h : VR φ v a) (hp : plain a = true) : v = a := by
 cases h with
 | agg h =>
  simp only [plain] at hp;have := plains_eq h hp;rw [Array.toList_inj] at this;rw [this]
 | tuple h => simp [plain, plain1] at hp
 | _ => exact plain1_eq (φ := φ) (by constructor <;> assumption) hp
theorem plain1_refl (φ : Ren) : ∀ (a : Value), plain1 a = true → VR φ a a
 | .bool b, _ => .bool b
 | .int k n, _ => .int k n
 | .float k n, _ => .float k n
 | .string s, _ => .string s
 | .pointer none, _ => .ptrNil
 | .slice none 0 0, _ => .sliceNil
 | .map none, _ => .mapNil
 | .chan none, _ => .chanNil
 | .nilFunc, _ => .nilFunc
 | .nilIface, _ => .nilIface
 | .iface t v, h => .iface (plain1_refl φ v (by simpa [plain1] using h))
 | .complex .., h => by simp [plain1] at h
 | .pointer (some _), h => by simp [plain1] at h
 | .slice (some _) _ _, h => by simp [plain1] at h
 | .slice none (_ + 1) _, h => by simp [plain1] at h
 | .slice none 0 (_ + 1), h => by simp [plain1] at h
 | .map (some _), h => by simp [plain1] at h
 | .chan (some _), h => by simp [plain1] at h
 | .func .., h => by simp [plain1] at h
 | .agg _, h => by simp [plain1] at h
 | .tuple _, h => by simp [plain1] at h
theorem plains_refl (φ : Ren) : ∀ (as : List Value), as.all plain1 = true → VRs φ as as
 | [], _ => .nil
 | a :: as, h => by
  simp only [List.all_cons, Bool.and_eq_true] at h;exact .cons (plain1_refl φ a h.1) (plains_refl φ as h.2)
theorem plain_refl (φ : Ren) (a : Value) (h : plain a = true) : VR φ a a := by
 cases a with
 | agg cs => exact .agg (plains_refl φ _ h)
 | _ => exact plain1_refl φ _ h
def aggD : TypeDesc → Bool
 | .struct _ | .array _ _ => true
 | _ => false
def isAggT (P : Program) (t : TypeId) : Option Bool := (P.underlying t).map aggD
def szT (P : Program) (t : TypeId) : Option Nat := (P.info? t).map (·.size)
def zeroT (P : Program) (t : TypeId) : Option Value := (P.info? t).bind (·.zero)
def rowCells (H : AH) (b o n : Nat) : Option (List Value) :=
 match H.get b with
 | some (.row c _ _) => cellsAt c o n
 | _ => none
def aLoad (P : Program) (H : AH) (t : TypeId) (b o : Nat) : Option Value :=
 match isAggT P t with
 | some true => (szT P t).bind fun n => (rowCells H b o n).map fun l => .agg l.toArray
 | some false => match rowCells H b o 1 with
  | some [v] => some v
  | _ => none
 | none => none
def aWrite (bar : Nat) (H : AH) (b o : Nat) (vs : List Value) : Option AH :=
 match vs with
 | [] => some H
 | _ => if bar ≤ b ∧ vs.all one = true then
   match H.get b with
   | some (.row c t z) => (wr c o vs).map fun c' => H.put b (.row c' t z)
   | _ => none
  else none
def aStore (P : Program) (bar : Nat) (H : AH) (t : TypeId) (b o : Nat) (v : Value) : Option AH :=
 if szT P t = some v.cells.size then aWrite bar H b o v.cells.toList else none
def aNewRow (H : AH) (vs : List Value) (t : TypeId) (z : Nat) : Option (Nat × AH) := (H.alloc (.row vs t z)).map fun H' => (H.next, H')
def aPart (P : Program) (t : TypeId) (cs : Array Value) (off : Nat) : Option Value :=
 match isAggT P t with
 | some true => (szT P t).map fun n => .agg (cs.extract off (off + n))
 | some false => cs[off]?
 | none => none
inductive ARes where
 | val (v : Value) (H : AH)
 | call (f : FuncId) (args : Array Value) (H : AH)
abbrev Env := Operand → Option Value
def val (H : AH) (v : Option Value) : Option ARes := v.map fun v => .val v H
def mapEnv (ρ : Env) : List Operand → Option (List Value)
 | [] => some []
 | x :: xs => match ρ x with
  | some v => (mapEnv ρ xs).map (v :: ·)
  | none => none
def aPick (ρ : Env) (c a b : Operand) : Option Value :=
 match ρ c with
 | some (.bool t) => ρ (if t then a else b)
 | _ => none
def aAlloc (P : Program) (H : AH) (t : TypeId) : Option ARes :=
 (zeroT P t).bind fun z => (szT P t).bind fun n => (aNewRow H z.cells.toList t n).bind fun (b, H') => if z.cells.toList.all plain1 then some (.val (.pointer (some ⟨b, 0, none⟩)) H') else none
def aBox (P : Program) (H : AH) (t : TypeId) (v : Value) : Option ARes :=
 (szT P t).bind fun n => (aNewRow H v.cells.toList t n).map fun (b, H') => .val (.pointer (some ⟨b, 0, none⟩)) H'
def pairEnv (ρ : Env) : List (Nat × Operand) → Option (List (Nat × Value))
 | [] => some []
 | (i, x) :: xs => match ρ x with
  | some v => (pairEnv ρ xs).map ((i, v) :: ·)
  | none => none
def aPlaces (P : Program) (t : TypeId) : Option (Nat → Option (Nat × Nat)) :=
 match P.underlying t with
 | some (.struct fields) =>
  if fields.toList.all (fun f => (szT P f.type).isSome) then
   some fun i => (fields[i]?).map fun f => (f.offset, (szT P f.type).getD 0)
  else none
 | some (.array _ elem) => (szT P elem).map fun size => fun i => some (i * size, size)
 | _ => none
def aBuild (P : Program) (t : TypeId) (parts : List (Nat × Value)) : Option Value :=
 (zeroT P t).bind fun z => if z.cells.toList.all plain1 then (aPlaces P t).bind fun pl => (Instr.fill pl z.cells parts).map .agg else none
def aBuildSlice (P : Program) (H : AH) (t : TypeId) (len : Nat) (parts : List (Nat × Value)) : Option ARes :=
 match P.underlying t with
 | some (.slice elem) => (szT P elem).bind fun size =>
  if len * size > 16777216 then none else
  (zeroT P elem).bind fun z =>
   if z.cells.toList.all plain1 && z.cells.size == size && decide (0 < size) then
    (Instr.fill (fun i => some (i * size, size)) (if len * size = 0 then #[] else (Array.range (len * size)).map (z.cells[· % z.cells.size]!)) parts).bind fun cells =>
     (aNewRow H cells.toList elem size).map fun (b, H') => .val (.slice (some ⟨b, 0, none⟩) len len) H'
   else none
 | _ => none
def aNilCheck : Value → Option Value
 | .pointer (some a) => some (.pointer (some a))
 | .func (.func f) a b => some (.func (.func f) a b)
 | .iface t v => some (.iface t v)
 | .slice a l c => some (.slice a l c)
 | _ => none
def nilTest (P : Program) (t : TypeId) (x y : Value) : Option Bool :=
 match P.underlying t, x, y with
 | some (.slice _), .slice (some _) _ _, .slice none 0 0 => some false
 | some (.slice _), .slice none 0 0, .slice (some _) _ _ => some false
 | some (.map _ _), .map (some _), .map none => some false
 | some (.map _ _), .map none, .map (some _) => some false
 | some (.func _ _ _), .func _ _ _, .nilFunc => some false
 | some (.func _ _ _), .nilFunc, .func _ _ _ => some false
 | some (.pointer _), .pointer (some _), .pointer none => some false
 | some (.pointer _), .pointer none, .pointer (some _) => some false
 | _, _, _ => none
def aBinS (P : Program) (op : BinOp) (t : TypeId) (xo yo : Operand) (x y : Value) : Option Value :=
 if plain x && plain y then (pureRun P (do eqGuard op t xo yo x y; binOp op t x y)).bind fun r => if plain1 r then some r else none
 else match op with
  | .eql => (nilTest P t x y).map .bool
  | .neq => (nilTest P t x y).map fun b => .bool (!b)
  | _ => none
def fNat (op : BinOp) (a b : Nat) : Option Value :=
 match op with
 | .add => match Nat.ble (Nat.add a b) 9223372036854775807 with
  | true => some (.int .i64 (.ofNat (Nat.add a b)))
  | false => none
 | .sub => match Nat.ble b a && Nat.ble a 9223372036854775807 with
  | true => some (.int .i64 (.ofNat (Nat.sub a b)))
  | false => none
 | .mul => match Nat.ble (Nat.mul a b) 9223372036854775807 with
  | true => some (.int .i64 (.ofNat (Nat.mul a b)))
  | false => none
 | .eql => some (.bool (Nat.beq a b))
 | .neq => some (.bool (Nat.beq a b).not)
 | .lss => some (.bool (Nat.ble (Nat.succ a) b))
 | .leq => some (.bool (Nat.ble a b))
 | .gtr => some (.bool (Nat.ble (Nat.succ b) a))
 | .geq => some (.bool (Nat.ble b a))
 | _ => none
def fBin (op : BinOp) (x y : Value) : Option Value :=
 match x with
 | .int .i64 (.ofNat a) => match y with
  | .int .i64 (.ofNat b) => fNat op a b
  | _ => none
 | _ => none
def aBin (P : Program) (op : BinOp) (t : TypeId) (xo yo : Operand) (x y : Value) : Option Value :=
 match fBin op x y with
 | some r => some r
 | none => aBinS P op t xo yo x y
def aField (P : Program) (t : TypeId) (x : Value) (i : Nat) : Option Value :=
 match P.underlying t, x with
 | some (.struct fields), .agg cs => (fields[i]?).bind fun f => aPart P f.type cs f.offset
 | _, _ => none
def aIndex (P : Program) (t : TypeId) (x ix : Value) : Option Value :=
 match P.underlying t, x, ix with
 | some (.array len elem), .agg cs, .int _ i => if 0 ≤ i ∧ i < len then (szT P elem).bind fun n => aPart P elem cs (i.toNat * n) else none
 | some .string, .string s, .int _ i => if 0 ≤ i then (s[i.toNat]?).map fun b => .int .u8 b.toNat else none
 | _, _, _ => none
def aIndexAddr (P : Program) (t : TypeId) (x ix : Value) : Option Value :=
 match P.underlying t, x, ix with
 | some (.array len elem), .pointer (some ⟨b, o, none⟩), .int _ i => if 0 ≤ i ∧ i < len then (szT P elem).map fun n => .pointer (some ⟨b, o + i.toNat * n, none⟩) else none
 | some (.slice elem), .slice (some ⟨b, o, none⟩) len _, .int _ i => if 0 ≤ i ∧ i < len then (szT P elem).map fun n => .pointer (some ⟨b, o + i.toNat * n, none⟩) else none
 | _, _, _ => none
def aFieldAddr (P : Program) (t : TypeId) (x : Value) (i : Nat) : Option Value :=
 match P.underlying t, x with
 | some (.struct fields), .pointer (some ⟨b, o, none⟩) => (fields[i]?).bind fun f => match szT P f.type with
  | some (_ + 1) => some (.pointer (some ⟨b, o + f.offset, none⟩))
  | _ => none
 | _, _ => none
def aBound (x : Value) (y : Nat) : Option Nat :=
 match x with
 | .int _ i => if 0 ≤ i ∧ i ≤ y then some i.toNat else none
 | _ => none
def aBounds (len cap : Nat) (low high max : Option Value) : Option (Nat × Nat × Nat) :=
 (match max with | some v => aBound v cap | none => some cap).bind fun m =>
 (match high, max with
  | some v, some _ => aBound v m
  | some v, none => aBound v m
  | none, none => some len
  | none, some _ => none).bind fun h =>
 (match low with | some v => aBound v h | none => some 0).map fun l => (l, h, m)
def aBoundsU (len lim : Nat) (low high max : Option Value) : Option (Nat × Nat × Option Nat) :=
 (match max with | some v => (aBound v lim).map some | none => some none).bind fun m =>
 (match high with
  | some v => aBound v (m.getD lim)
  | none => if m.isSome then none else some len).bind fun h =>
 (match low with | some v => aBound v h | none => some 0).map fun l => (l, h, m)
def optEnv (ρ : Env) : Option Operand → Option (Option Value)
 | none => some none
 | some x => (ρ x).map some
def aSlice0 (P : Program) (H : AH) (t : TypeId) (x : Value) (low high max : Option Value) : Option Value :=
 match P.underlying t, x with
 | some .string, .string s => if max.isSome then none else (aBounds s.size s.size low high none).map fun (l, h, _) => .string (s.extract l h)
 | some (.slice elem), .slice none 0 0 => (szT P elem).bind fun _ => (aBounds 0 0 low high max).map fun _ => .slice none 0 0
 | some (.slice elem), .slice (some ⟨b, o, none⟩) len cap => (szT P elem).bind fun size =>
  if cap = capU then match H.get b with
   | some (.row c _ zz) => if zz = size ∧ 0 < size ∧ Nat.max len ((c.length - o) / size) < capU then (aBoundsU len (Nat.max len ((c.length - o) / size)) low high max).map fun (l, h, m) => match m with
     | none => .slice (some ⟨b, o + l * size, none⟩) (h - l) capU
     | some m => .slice (some ⟨b, if m = l then o else o + l * size, none⟩) (h - l) (m - l)
    else none
   | _ => none
  else if capU < cap then none else (aBounds len cap low high max).map fun (l, h, m) => .slice (some ⟨b, if m = l then o else o + l * size, none⟩) (h - l) (m - l)
 | some (.array n elem), .pointer (some ⟨b, o, none⟩) => (szT P elem).bind fun size =>
  if capU ≤ n then none else (aBounds n n low high max).map fun (l, h, m) => .slice (some ⟨b, if m = l then o else o + l * size, none⟩) (h - l) (m - l)
 | _, _ => none
def aSliceZ (P : Program) (t : TypeId) (x : Value) (low high max : Option Value) : Option Value :=
 match P.underlying t with
 | some (.slice elem) => match x with
  | .slice (some ⟨b, o, none⟩) 0 cap => if cap = capU then match max with
    | none => match szT P elem with
     | some _ => match aBounds 0 0 low high none with
      | some _ => some (.slice (some ⟨b, o, none⟩) 0 capU)
      | none => none
     | none => none
    | some _ => none
   else none
  | _ => none
 | _ => none
def aSlice (P : Program) (H : AH) (t : TypeId) (x : Value) (low high max : Option Value) : Option Value :=
 match aSliceZ P t x low high max with
 | some r => some r
 | none => aSlice0 P H t x low high max
end Go.Abu
namespace Go.Abu
def aFirst (H : AH) (size n : Nat) : Value → Option (List Value)
 | .slice none 0 0 => if n = 0 then some [] else none
 | .slice (some ⟨b, o, none⟩) _ _ => if n * size = 0 then some [] else rowCells H b o (n * size)
 | .string s => some ((s.data.toList.take n).map fun b => .int .u8 b.toNat)
 | _ => none
def aLen : Value → Option Nat
 | .slice none 0 0 => some 0
 | .slice (some ⟨_, _, none⟩) n _ => some n
 | .string s => some s.size
 | _ => none
def isIntT (P : Program) (t : TypeId) : Bool :=
 match P.underlying t with
 | some (.int _) => true
 | _ => false
def zerosOf (z : List Value) : Nat → List Value
 | 0 => []
 | n + 1 => z ++ zerosOf z n
def aAppended (P : Program) (H : AH) (xt : TypeId) (size bytes : Nat) (z : List Value) (x : Value) : Option (Nat × List Value) :=
 match P.underlying xt with
 | some (.int _) => match x with
  | .int .i64 n => if 0 ≤ n ∧ n * bytes ≤ 281474976710656 ∧ n < 9223372036854775808 then some (n.toNat, zerosOf z n.toNat) else none
  | _ => none
 | some (.slice _) => match x with
  | .slice _ _ _ => (aLen x).bind fun n => (aFirst H size n x).bind fun l => if l.length = n * size then some (n, l) else none
  | _ => none
 | some .string => match x with
  | .string _ => (aLen x).bind fun n => (aFirst H size n x).bind fun l => if l.length = n * size then some (n, l) else none
  | _ => none
 | _ => none
def aGrow (H : AH) (elem size bytes len n : Nat) (old new : List Value) : Option ARes :=
 if (len + n) * bytes ≤ 140737488355328 then
  (aNewRow H (old ++ new) elem size).map fun (b', H') => .val (.slice (some ⟨b', 0, none⟩) (len + n) capU) H'
 else none
def aOld (H : AH) (size b o len : Nat) : Option (List Value) := if len = 0 then some [] else rowCells H b o (len * size)
def aAppU (bar : Nat) (H : AH) (elem size bytes n : Nat) (new : List Value) (b o len : Nat) : Option ARes :=
 if bar ≤ b ∧ (len + n) * bytes ≤ 140737488355328 ∧ new.all one then
  match H.get b with
  | some (.row _ t zz) => if t = elem ∧ zz = size then
    (aOld H size b o len).bind fun old =>
    ((H.put b .dead).alloc (.row (old ++ new) elem size)).map fun H' => .val (.slice (some ⟨H.next, 0, none⟩) (len + n) capU) H'
   else none
  | _ => none
 else none
def aAppV (bar : Nat) (H : AH) (elem size bytes n : Nat) (new : List Value) (b o len : Nat) : Option ARes :=
 match H.get b with
 | some (.row c _ zz) =>
  if zz = size ∧ o + (len + n) * size ≤ c.length then (aWrite bar H b (o + len * size) new).map fun H' => .val (.slice (some ⟨b, o, none⟩) (len + n) capU) H'
  else aAppU bar H elem size bytes n new b o len
 | _ => none
def aAppX (bar : Nat) (H : AH) (elem size bytes n : Nat) (new : List Value) (b o len cap : Nat) : Option ARes :=
 if len + n ≤ cap then (aWrite bar H b (o + len * size) new).map fun H' => .val (.slice (some ⟨b, o, none⟩) (len + n) cap) H'
 else (aOld H size b o len).bind fun old => aGrow H elem size bytes len n old new
def aAppS (bar : Nat) (H : AH) (elem size bytes n : Nat) (new : List Value) (s : Value) : Option ARes :=
 match s with
 | .slice none 0 0 => if n = 0 then some (.val (.slice none 0 0) H) else aGrow H elem size bytes 0 n [] new
 | .slice (some ⟨b, o, none⟩) len cap =>
  if n = 0 then some (.val (.slice (some ⟨b, o, none⟩) len cap) H)
  else if cap = capU then aAppV bar H elem size bytes n new b o len else aAppX bar H elem size bytes n new b o len cap
 | _ => none
def aAppend (P : Program) (bar : Nat) (H : AH) (ts : Array TypeId) (args : Array Value) : Option ARes :=
 match ts.toList, args.toList with
 | [st, xt], [s, x] =>
  match P.underlying st with
  | some (.slice elem) => (szT P elem).bind fun size => (P.info? elem).bind fun info => (zeroT P elem).bind fun zv =>
   if size = 0 ∨ zv.cells.toList.length ≠ size ∨ zv.cells.toList.all plain1 = false ∨ info.bytes = 0 then none else
   (aAppended P H xt size info.bytes zv.cells.toList x).bind fun p => aAppS bar H elem size info.bytes p.1 p.2 s
  | _ => none
 | _, _ => none
def aCopy (P : Program) (bar : Nat) (H : AH) (ts : Array TypeId) (args : Array Value) : Option ARes :=
 match ts[0]?, args[0]?, args[1]? with
 | some dt, some d, some s =>
  match P.underlying dt with
  | some (.slice elem) => (szT P elem).bind fun size => (aLen d).bind fun dl => (aLen s).bind fun sl =>
   let n := Nat.min sl dl
   (aFirst H size n s).bind fun cells =>
   match d with
   | .slice none 0 0 => some (.val (goInt n) H)
   | .slice (some ⟨b, o, none⟩) _ _ => (aWrite bar H b o cells).map fun H' => .val (goInt n) H'
   | _ => none
  | _ => none
 | _, _, _ => none
def aLenB (P : Program) (H : AH) (ts : Array TypeId) (args : Array Value) : Option Value :=
 match ts[0]?, args[0]? with
 | some t, some x =>
  match P.underlying t, x with
  | some .string, .string s => some (goInt s.size)
  | some (.array n _), _ => some (goInt n)
  | some (.slice _), .slice none 0 0 => some (goInt 0)
  | some (.slice _), .slice (some _) n _ => some (goInt n)
  | some (.map _ _), .map none => some (goInt 0)
  | some (.map _ _), .map (some r) => match H.get r with
   | some (.map es _) => some (goInt es.length)
   | _ => none
  | _, _ => none
 | _, _ => none
def aCapB (P : Program) (ts : Array TypeId) (args : Array Value) : Option Value :=
 match ts[0]?, args[0]? with
 | some t, some x =>
  match P.underlying t, x with
  | some (.array n _), _ => some (goInt n)
  | some (.slice _), .slice none 0 0 => some (goInt 0)
  | some (.slice _), .slice (some _) _ c => if c = capU then none else some (goInt c)
  | _, _ => none
 | _, _ => none
def aClear (P : Program) (bar : Nat) (H : AH) (ts : Array TypeId) (args : Array Value) : Option AH :=
 match ts[0]?, args[0]? with
 | some t, some x =>
  match P.underlying t, x with
  | some (.slice _), .slice none 0 0 => some H
  | some (.slice elem), .slice (some ⟨b, o, none⟩) n _ => if n = 0 then some H else
   (zeroT P elem).bind fun zv => if zv.cells.toList.all plain1 then aWrite bar H b o (zerosOf zv.cells.toList n) else none
  | _, _ => none
 | _, _ => none
def bytesOf : List Value → Option (List UInt8)
 | [] => some []
 | .int .u8 n :: r => (bytesOf r).map (UInt8.ofNat n.toNat :: ·)
 | _ => none
def aConvert (P : Program) (H : AH) (src dst : TypeId) (x : Value) : Option ARes :=
 match P.underlying src, P.underlying dst, x with
 | some _, some (.int k), .int _ n => some (.val (.int k (k.wrap n)) H)
 | some .string, some (.slice e), .string s => match P.underlying e with
  | some (.int .u8) => (aNewRow H (s.data.toList.map fun b => .int .u8 b.toNat) e 1).map fun (b, H') => .val (.slice (some ⟨b, 0, none⟩) s.size capU) H'
  | _ => none
 | some (.slice e), some .string, .slice none 0 0 => match P.underlying e with
  | some (.int .u8) => some (.val (.string .empty) H)
  | _ => none
 | some (.slice e), some .string, .slice (some ⟨b, o, none⟩) len _ => match P.underlying e with
  | some (.int .u8) => ((if len = 0 then some [] else rowCells H b o len).bind bytesOf).map fun l => .val (.string ⟨l.toArray⟩) H
  | _ => none
 | some .string, some .string, .string s => some (.val (.string s) H)
 | _, _, _ => none
def aMakeSlice (P : Program) (H : AH) (t : TypeId) (len cap : Value) : Option ARes :=
 match P.underlying t, len, cap with
 | some (.slice elem), .int _ l, .int _ c =>
  (P.info? elem).bind fun info => (zeroT P elem).bind fun zv =>
   let z := zv.cells.toList
   if 0 ≤ l ∧ l ≤ c ∧ c < 9223372036854775808 ∧ info.bytes * c ≤ 281474976710656 ∧ z.length = info.size ∧ z.all plain1 = true then
    (aNewRow H (zerosOf z c.toNat) elem info.size).map fun (b, H') => .val (.slice (some ⟨b, 0, none⟩) l.toNat c.toNat) H'
   else none
 | _, _, _ => none
def aMakeMap (P : Program) (H : AH) (t : TypeId) (reserve : Option Value) : Option ARes :=
 (match reserve with
  | none => some ()
  | some (.int _ _) => match P.underlying t with | some (.map _ _) => some () | _ => none
  | some _ => none).bind fun _ => (H.alloc (.map [] 0)).map fun H' => .val (.map (some H.next)) H'
def aFind (P : Program) (kt : TypeId) (k : Value) (es : List MapEntry) : Option (Option (Nat × Value)) :=
 pureRun P (Instr.findKey kt k es)
def keysPlain (es : List MapEntry) : Bool := es.all fun e => plain e.key
def aLookup (P : Program) (H : AH) (t : TypeId) (x k : Value) (ok : Bool) : Option Value :=
 match P.underlying t with
 | some (.map kt et) => (zeroT P et).bind fun z => if plain k && plain z then
   (match x with
    | .map none => some []
    | .map (some r) => match H.get r with
      | some (.map es _) => some es
      | _ => none
    | _ => none).bind fun es =>
   (pureRun P (Instr.checkKey es.isEmpty 10000 kt k)).bind fun _ =>
   if keysPlain es then
    (aFind P kt k es).map fun (f : Option (Nat × Value)) => match f with
     | some p => if ok then .tuple #[p.2, .bool true] else p.2
     | none => if ok then .tuple #[z, .bool false] else z
   else none
  else none
 | _ => none
def aMapUpdate (P : Program) (bar : Nat) (H : AH) (t : TypeId) (m k v : Value) : Option AH :=
 match P.underlying t, m with
 | some (.map kt _), .map (some r) => if plain k && decide (bar ≤ r) then
   match H.get r with
   | some (.map es ck) => if keysPlain es then
     (pureRun P (Instr.checkKey false 10000 kt k)).bind fun _ =>
     (aFind P kt k es).bind fun f => match f with
     | some (i, _) => match es[i]? with
      | some e => if Instr.sameBits 10000 e.key k then some (H.put r (.map (es.modify i fun e => { e with key := k, val := v }) ck)) else none
      | none => none
     | none => some (H.put r (.map (es ++ [{ key := k, val := v, born := ck }]) (ck + 1)))
    else none
   | _ => none
  else none
 | _, _ => none
def aDelete (P : Program) (bar : Nat) (H : AH) (ts : Array TypeId) (args : Array Value) : Option AH :=
 match ts[0]?, args[0]?, args[1]? with
 | some t, some m, some k =>
  match P.underlying t, m with
  | some (.map kt _), .map (some r) => if plain k && decide (bar ≤ r) then
    match H.get r with
    | some (.map es ck) => if keysPlain es then
      (pureRun P (Instr.checkKey es.isEmpty 10000 kt k)).bind fun _ =>
      (aFind P kt k es).map fun f => match f with
      | some (i, _) => H.put r (.map (es.eraseIdx i) ck)
      | none => H.put r (.map es ck)
     else none
    | _ => none
   else none
  | _, _ => none
 | _, _, _ => none
def aExtract (x : Value) (i : Nat) : Option Value :=
 match x with
 | .tuple vs => vs[i]?
 | _ => none
def aMakeIface (P : Program) (t : TypeId) (x : Value) : Option Value :=
 match P.underlying t with
 | some (.interface _) => none
 | some _ => some (.iface t x)
 | none => none
def aTypeAssert (P : Program) (x : Value) (_xt asserted : TypeId) (ok : Bool) : Option Value :=
 match P.underlying asserted, x with
 | some (.interface _), _ => none
 | some _, .iface t v => if t = asserted then some (if ok then .tuple #[v, .bool true] else v)
   else if ok then (zeroT P asserted).bind fun z => if plain z then some (.tuple #[z, .bool false]) else none else none
 | some _, .nilIface => if ok then (zeroT P asserted).bind fun z => if plain z then some (.tuple #[z, .bool false]) else none else none
 | _, _ => none
def plainT : Value → Bool
 | .tuple vs => vs.toList.all plain1
 | v => plain1 v
def aCallFunc (P : Program) (H : AH) (f : FuncId) (args : List Value) : Option ARes :=
 match P.funcs[f]? with
 | some fn => if fn.body.isNone then
   (if args.all plain1 then (pureRun P (callFunc f args.toArray)).bind fun nx => match nx with
    | .value v => if plainT v then some (.val v H) else none
    | _ => none
   else none)
  else if fn.name == "runtime.NumGoroutine" then none else some (.call f args.toArray H)
 | none => none
def aBuiltin (P : Program) (bar : Nat) (H : AH) (b : Builtin) (ts : Array TypeId) (args : Array Value) : Option ARes :=
 match b with
 | .append => aAppend P bar H ts args
 | .copy => aCopy P bar H ts args
 | .len => val H (aLenB P H ts args)
 | .cap => val H (aCapB P ts args)
 | .clear => (aClear P bar H ts args).map (.val (.tuple #[]) ·)
 | .delete => (aDelete P bar H ts args).map (.val (.tuple #[]) ·)
 | .max => if args.toList.all plain1 then val H ((pureRun P (Builtin.max_ ts 0 args)).bind fun r => if plain1 r then some r else none) else none
 | .min => if args.toList.all plain1 then val H ((pureRun P (Builtin.min_ ts 0 args)).bind fun r => if plain1 r then some r else none) else none
 | _ => none
def aCall (P : Program) (bar : Nat) (ρ : Env) (H : AH) (c : Call) : Option ARes :=
 (mapEnv ρ c.args.toList).bind fun args =>
 match c.callee with
 | .builtin b => aBuiltin P bar H b c.argTypes args.toArray
 | .value f => match ρ f with
  | some (.func (.func f) first captured) => aCallFunc P H f (first.toList ++ args ++ captured.toList)
  | _ => none
 | .invoke _ _ => none
def aop (P : Program) (bar : Nat) (ρ : Env) (H : AH) (op : Op) : Option ARes :=
 match op with
 | .move x | .assign x => val H (ρ x)
 | .pick c a b => val H (aPick ρ c a b)
 | .alloc t => aAlloc P H t
 | .box t x => (ρ x).bind fun v => aBox P H t v
 | .build t parts => (pairEnv ρ parts.toList).bind fun ps => val H (aBuild P t ps)
 | .buildSlice t n parts => (pairEnv ρ parts.toList).bind fun ps => aBuildSlice P H t n ps
 | .load t a => match ρ a with
  | some (.pointer (some ⟨b, o, none⟩)) => val H (aLoad P H t b o)
  | _ => none
 | .store t a x => match ρ a, ρ x with
  | some (.pointer (some ⟨b, o, none⟩)), some v => (aStore P bar H t b o v).map (.val undef ·)
  | _, _ => none
 | .nilCheck x => (ρ x).bind fun v => val H (aNilCheck v)
 | .binOp op t x y _ => match ρ x, ρ y with
  | some a, some b => val H (aBin P op t x y a b)
  | _, _ => none
 | .unOp op _ x => (ρ x).bind fun v => if plain1 v then val H ((pureRun P (Op.unary op v)).bind fun r => if plain1 r then some r else none) else none
 | .convert s d x => (ρ x).bind fun v => aConvert P H s d v
 | .makeInterface t x => (ρ x).bind fun v => val H (aMakeIface P t v)
 | .makeFunc (.func fn) first captured => (mapEnv ρ first.toList).bind fun a => (mapEnv ρ captured.toList).bind fun b => val H (some (.func (.func fn) a.toArray b.toArray))
 | .makeMap t r => (optEnv ρ r).bind fun r => aMakeMap P H t r
 | .makeSlice t l c => match ρ l, ρ c with
  | some a, some b => aMakeSlice P H t a b
  | _, _ => none
 | .slice t x lo hi mx => (ρ x).bind fun v => (optEnv ρ lo).bind fun lo => (optEnv ρ hi).bind fun hi => (optEnv ρ mx).bind fun mx => val H (aSlice P H t v lo hi mx)
 | .fieldAddr t x i => (ρ x).bind fun v => val H (aFieldAddr P t v i)
 | .field t x i => (ρ x).bind fun v => val H (aField P t v i)
 | .indexAddr t x i => match ρ x, ρ i with
  | some a, some b => val H (aIndexAddr P t a b)
  | _, _ => none
 | .index t x i => match ρ x, ρ i with
  | some a, some b => val H (aIndex P t a b)
  | _, _ => none
 | .lookup t x i ok => match ρ x, ρ i with
  | some a, some b => val H (aLookup P H t a b ok)
  | _, _ => none
 | .mapUpdate t m k x => match ρ m, ρ k, ρ x with
  | some a, some b, some c => (aMapUpdate P bar H t a b c).map (.val undef ·)
  | _, _, _ => none
 | .insert t m k x => match ρ m, ρ k, ρ x with
  | some a, some b, some c => (aMapUpdate P bar H t a b c).map (.val undef ·)
  | _, _, _ => none
 | .typeAssert x xt t ok => (ρ x).bind fun v => val H (aTypeAssert P v xt t ok)
 | .extract x i => (ρ x).bind fun v => val H (aExtract v i)
 | .call c => aCall P bar ρ H c
 | _ => none
end Go.Abu
namespace Go.Abu
def SemOk (P : Program) (φ : Ren) (H : AH) (bar base : Nat) (w : World) (s : Sem Value) (a : Value) (H' : AH) : Prop :=
 ∃ v w' φ', s.run P w = .ok v w' ∧ VR φ' v a ∧ Step φ H bar base w φ' H' w'
variable {P : Program} {φ : Ren} {H H' : AH} {bar base : Nat} {w : World}
theorem SemOk.same (hs : Sim φ H bar base w) {s : Sem Value} {v a : Value} (hr : s.run P w = .ok v w) (hv : VR φ v a) : SemOk P φ H bar base w s a H :=
 ⟨v, w, φ, hr, hv, Step.refl hs⟩
theorem info_of_sz {t n : Nat} (h : szT P t = some n) : ∃ i, P.info? t = some i ∧ i.size = n := by
 unfold szT at h;cases hi : P.info? t with
 | none => simp [hi] at h
 | some i => exact ⟨i, rfl, by simpa [hi] using h⟩
theorem run_sizeOf' {t n : Nat} (h : szT P t = some n) (w : World) : (sizeOf t).run P w = .ok n w := by
 obtain ⟨i, hi, hn⟩ := info_of_sz h;simp [Go.sizeOf, typeInfo, hi, hn]
theorem run_zeroValue' {t : Nat} {z : Value} (h : zeroT P t = some z) (w : World) : (zeroValue t).run P w = .ok z w := by
 unfold zeroT at h;cases hi : P.info? t with
 | none => simp [hi] at h
 | some i =>
  have hz : i.zero = some z := by simpa [hi] using h
  simp [zeroValue, typeInfo, hi, hz]
theorem run_isAgg' {t : Nat} {b : Bool} (h : isAggT P t = some b) (w : World) : (isAgg t).run P w = .ok b w := by
 unfold isAggT at h;cases hu : P.underlying t with
 | none => simp [hu] at h
 | some d =>
  have hd : aggD d = b := by simpa [hu] using h
  unfold isAgg;rw [Sem.run_bind, run_underlying hu w];subst hd;cases d <;> rfl
theorem run_part' {t : Nat} {cs as : Array Value} {off : Nat} {a : Value} (h : aPart P t as off = some a) (hv : VRs φ cs.toList as.toList) (w : World) :
  ∃ v, (part t cs off).run P w = .ok v w ∧ VR φ v a := by
 unfold aPart at h;split at h
 ·rename_i hagg;cases hz : szT P t with
  | none => simp [hz] at h
  | some n =>
   simp [hz] at h;subst h;refine ⟨.agg (cs.extract off (off + n)), by simp [part, run_isAgg' hagg, run_sizeOf' hz], .agg ?_⟩;simp only [Array.toList_extract, List.extract_eq_take_drop];exact (hv.drop _).take _
 ·rename_i hagg;have h' : as.toList[off]? = some a := by simpa using h
  obtain ⟨v, h1, h2⟩ := hv.get off a h';have h1' : cs[off]? = some v := by simpa using h1
  exact ⟨v, by simp [part, run_isAgg' hagg, h1'], h2⟩
 ·cases h
theorem run_loadVar' (hs : Sim φ H bar base w) {t b o : Nat} {a : Value} {r : RB} (hφ : φ b = some r) (h : aLoad P H t b o = some a) :
  ∃ v, (loadVar t ⟨r.c, r.s + o, none⟩).run P w = .ok v w ∧ VR φ v a := by
 unfold aLoad at h;split at h
 ·rename_i hagg;cases hz : szT P t with
  | none => simp [hz] at h
  | some n =>
   simp only [hz, Option.bind_some] at h;unfold rowCells at h;split at h
   ·rename_i c tt z hg;cases hl : cellsAt c o n with
    | none => simp [hl] at h
    | some l =>
     simp [hl] at h;subst h;obtain ⟨vs, h1, h2⟩ := load_row P hs hφ hg hl;exact ⟨.agg vs.toArray, by simp [loadVar, run_isAgg' hagg, run_sizeOf' hz, h2], .agg (by simpa using h1)⟩
   ·simp at h
 ·rename_i hagg;split at h
  ·rename_i v' hr;cases h;unfold rowCells at hr;split at hr
   ·rename_i c tt z hg;obtain ⟨vs, h1, h2⟩ := load_row P hs hφ hg hr;cases h1 with
    | cons hv ht =>
     cases ht with
     | nil =>
      rename_i v;refine ⟨v, ?_, hv⟩;have : (load ⟨r.c, r.s + o, none⟩).run P w = .ok v w := by
       obtain ⟨arr, fz, g1, g2, g3, g4, g5, g6⟩ := hs.obj b r _ hφ hg;obtain ⟨hn, hget⟩ := cellsAt_get hr;obtain ⟨v2, k1, k2⟩ := g5 o a (by have := hget 0 (by omega); simpa using this.symm)
       have hc : w.cell? ⟨r.c, r.s + o, none⟩ = some v2 := by simp only [World.cell?, g1]; simpa using k1
       have e : (loadCells ⟨r.c, r.s + o, none⟩ 1).run P w = .ok #[v2] w := by
        simp [loadCells, loadCellsFrom, Addr.add, hc]
       rw [h2] at e;injection e with e1 e2
       have : v = v2 := by simpa using e1
       simp [hc, this]
      unfold loadVar;rw [Sem.run_bind, run_isAgg' hagg];exact this
   ·cases hr
  ·cases h
 ·cases h
theorem run_aWrite (P : Program) (hs : Sim φ H bar base w) {b o : Nat} {r : RB} (hφ : φ b = some r) {vs as : List Value} (hv : VRs φ vs as) (h : aWrite bar H b o as = some H') :
  ∃ w', (storeCells ⟨r.c, r.s + o, none⟩ vs).run P w = .ok () w' ∧ Step φ H bar base w φ H' w' := by
 unfold aWrite at h;split at h
 ·cases h;cases hv;exact ⟨w, by simp [storeCells], Step.refl hs⟩
 ·rename_i hne;split at h
  ·rename_i hc;split at h
   ·rename_i c t z hg;cases hw : wr c o as with
    | none => simp [hw] at h
    | some c' =>
     simp [hw] at h;subst h;exact store_row P hs hφ hc.1 hg hw hv hc.2 (fun e => hne e)
   ·cases h
  ·cases h
theorem run_storeVar' (hs : Sim φ H bar base w) {t b o : Nat} {v a : Value} {r : RB} (hφ : φ b = some r) (hv : VR φ v a) (h : aStore P bar H t b o a = some H') :
  ∃ w', (storeVar t ⟨r.c, r.s + o, none⟩ v).run P w = .ok () w' ∧ Step φ H bar base w φ H' w' := by
 unfold aStore at h;split at h
 ·rename_i hz;have hcs : VRs φ v.cells.toList a.cells.toList := by
   cases hv with
   | agg h' => exact h'
   | _ => exact .cons (by first | (constructor <;> assumption) | constructor) .nil
  have hlen := hcs.length;simp only [Array.length_toList] at hlen;obtain ⟨w', h1, h2⟩ := run_aWrite P hs hφ hcs h;exact ⟨w', by simp [storeVar, run_sizeOf' hz, hlen, h1], h2⟩
 ·cases h
theorem aNewRow_eq {vs : List Value} {t z b : Nat} (h : aNewRow H vs t z = some (b, H')) : b = H.next ∧ H.alloc (.row vs t z) = some H' := by
 unfold aNewRow at h;cases ha : H.alloc (.row vs t z) with
 | none => simp [ha] at h
 | some H'' =>
  simp [ha] at h;exact ⟨h.1.symm, by rw [h.2]⟩
theorem run_newRow' (P : Program) (hs : Sim φ H bar base w) {vs as : List Value} (hv : VRs φ vs as) {t z b : Nat} (h : aNewRow H as t z = some (b, H')) :
  ∃ φ' w', (newRow t vs.toArray).run P w = .ok ⟨w.heap.size, 0, none⟩ w' ∧ Step φ H bar base w φ' H' w' ∧ φ' b = some ⟨w.heap.size, 0, vs.length, z, vs.length⟩ := by
 obtain ⟨rfl, ha⟩ := aNewRow_eq h;refine ⟨_, _, run_newRow P w t vs.toArray, new_row hs ha (by simp [hv.length]) (fun i a hi => ?_), by simp [upd_self, hv.length]⟩;obtain ⟨v, h1, h2⟩ := hv.get i a hi;exact ⟨v, by simpa using h1, h2⟩
theorem cells_rel {v a : Value} (hv : VR φ v a) : VRs φ v.cells.toList a.cells.toList := by
 cases hv with
 | agg h => exact h
 | _ => exact .cons (by first | (constructor <;> assumption) | constructor) .nil
theorem snd_alloc (hs : Sim φ H bar base w) {t : Nat} {a : Value} (h : aAlloc P H t = some (.val a H')) : SemOk P φ H bar base w (Instr.alloc t true (.tuple #[])) a H' := by
 unfold aAlloc at h;cases hz : zeroT P t with
 | none => simp [hz] at h
 | some z =>
  cases hn : szT P t with
  | none => simp [hz, hn] at h
  | some n =>
   simp only [hz, hn, Option.bind_some] at h;cases hr : aNewRow H z.cells.toList t n with
   | none => simp [hr] at h
   | some p =>
    obtain ⟨b, H₁⟩ := p;simp only [hr, Option.bind_some] at h;split at h
    ·rename_i hp;cases h;obtain ⟨φ', w', h1, h2, h3⟩ := run_newRow' P hs (plains_refl φ _ hp) hr;refine ⟨.pointer (some ⟨w.heap.size, 0, none⟩), w', φ', ?_, ?_, h2⟩
     ·have h1' : (newRow t z.cells).run P w = .ok ⟨w.heap.size, 0, none⟩ w' := by simpa using h1
      simp [Instr.alloc, run_zeroValue' hz, newVar, h1']
     ·have := VR.ptr (o := 0) h3;simpa using this
    ·cases h
theorem snd_box (hs : Sim φ H bar base w) {t : Nat} {v x a : Value} (hv : VR φ v x) (h : aBox P H t x = some (.val a H')) : SemOk P φ H bar base w (Instr.box t v) a H' := by
 unfold aBox at h;cases hn : szT P t with
 | none => simp [hn] at h
 | some n =>
  simp only [hn, Option.bind_some] at h;cases hr : aNewRow H x.cells.toList t n with
  | none => simp [hr] at h
  | some p =>
   obtain ⟨b, H₁⟩ := p;simp only [hr, Option.map_some] at h;cases h;obtain ⟨φ', w', h1, h2, h3⟩ := run_newRow' P hs (cells_rel hv) hr;refine ⟨.pointer (some ⟨w.heap.size, 0, none⟩), w', φ', ?_, ?_, h2⟩
   ·have h1' : (newRow t v.cells).run P w = .ok ⟨w.heap.size, 0, none⟩ w' := by simpa using h1
    simp [Instr.box, newVar, h1']
   ·have := VR.ptr (o := 0) h3;simpa using this
theorem snd_field {t i : Nat} {v x a : Value} (hv : VR φ v x) (h : aField P t x i = some a) (w : World) : ∃ u, (Instr.field t v i).run P w = .ok u w ∧ VR φ u a := by
 unfold aField at h;split at h
 ·rename_i fields cs hu;cases hv with
  | agg hcs =>
   cases hf : fields[i]? with
   | none => simp [hf] at h
   | some f =>
    simp only [hf, Option.bind_some] at h;obtain ⟨u, h1, h2⟩ := run_part' h hcs w;exact ⟨u, by simp [Instr.field, run_underlying hu, hf, asAgg, h1], h2⟩
 ·cases h
theorem snd_index {t : Nat} {v x j i a : Value} (hv : VR φ v x) (hi : VR φ j i) (h : aIndex P t x i = some a) (w : World) : ∃ u, (Instr.index t v j).run P w = .ok u w ∧ VR φ u a := by
 unfold aIndex at h;split at h
 ·rename_i len elem cs k n hu;cases hi with
  | int =>
   cases hv with
   | agg hcs =>
    split at h
    ·rename_i hb;cases hz : szT P elem with
     | none => simp [hz] at h
     | some m =>
      simp only [hz, Option.bind_some] at h;obtain ⟨u, h1, h2⟩ := run_part' h hcs w;refine ⟨u, ?_, h2⟩;simp [Instr.index, asIntOf, run_underlying hu, hb, run_sizeOf' hz, h1]
    ·cases h
 ·rename_i s k n hu;cases hi with
  | int =>
   cases hv with
   | string =>
    split at h
    ·rename_i hb;cases hs : s[n.toNat]? with
     | none => simp [hs] at h
     | some c =>
      simp [hs] at h;subst h;exact ⟨.int .u8 c.toNat, by simp [Instr.index, asIntOf, run_underlying hu, hb, hs], .int _ _⟩
    ·cases h
 ·cases h
theorem snd_indexAddr {t : Nat} {v x j i a : Value} (hv : VR φ v x) (hi : VR φ j i) (h : aIndexAddr P t x i = some a) (w : World) : ∃ u, (Instr.indexAt t v j).run P w = .ok u w ∧ VR φ u a := by
 unfold aIndexAddr at h;split at h
 ·rename_i len elem b o k n hu;cases hi with
  | int =>
   cases hv with
   | ptr hφ =>
    rename_i r;split at h
    ·rename_i hb;cases hz : szT P elem with
     | none => simp [hz] at h
     | some m =>
      simp [hz] at h;subst h;refine ⟨.pointer (some ⟨r.c, r.s + (o + n.toNat * m), none⟩), ?_, .ptr hφ⟩;simp [Instr.indexAt, asIntOf, run_underlying hu, hb, run_sizeOf' hz, Instr.sureAddr, add_plain, Nat.add_assoc]
    ·cases h
 ·rename_i elem b o len cap k n hu;cases hi with
  | int =>
   split at h
   ·rename_i hb;cases hz : szT P elem with
    | none => simp [hz] at h
    | some m =>
     simp [hz] at h;subst h;cases hv with
     | slice hφ hl hc =>
      rename_i cap' r;refine ⟨.pointer (some ⟨r.c, r.s + (o + n.toNat * m), none⟩), ?_, .ptr hφ⟩;simp [Instr.indexAt, asIntOf, run_underlying hu, hb, run_sizeOf' hz, add_plain, Nat.add_assoc]
     | sliceE hφ ha => simp at hb; omega
   ·cases h
 ·cases h
theorem snd_fieldAddr {t i : Nat} {v x a : Value} (hv : VR φ v x) (h : aFieldAddr P t x i = some a) (w : World) : ∃ u, (Instr.fieldAt t v i).run P w = .ok u w ∧ VR φ u a := by
 unfold aFieldAddr at h;split at h
 ·rename_i fields b o hu;cases hv with
  | ptr hφ =>
   rename_i r;cases hf : fields[i]? with
   | none => simp [hf] at h
   | some f =>
    simp only [hf, Option.bind_some] at h;split at h
    ·rename_i m hz;cases h;refine ⟨.pointer (some ⟨r.c, r.s + (o + f.offset), none⟩), ?_, .ptr hφ⟩;simp [Instr.fieldAt, run_underlying hu, hf, Instr.sureAddr, fieldPlace, run_sizeOf' hz, add_plain, Nat.add_assoc]
    ·cases h
 ·cases h
end Go.Abu
namespace Go.Abu
variable {P : Program} {φ : Ren} {H H' : AH} {bar base : Nat} {w : World}
theorem VRs.set {φ : Ren} : ∀ {vs as : List Value} (i : Nat) {v a : Value}, VRs φ vs as → VR φ v a → VRs φ (vs.set i v) (as.set i a)
 | _, _, _, _, _, .nil, _ => .nil
 | _, _, 0, _, _, .cons _ t, hv => .cons hv t
 | _, _, i + 1, _, _, .cons h t, hv => .cons h (t.set i hv)
theorem fill_step {off : Nat} : ∀ {l l' : List Value} (n : Nat) {cs as : Array Value}, VRs φ l l' → VRs φ cs.toList as.toList →
  VRs φ ((l.zipIdx n).foldl (fun cs (p : Value × Nat) => cs.setIfInBounds (off + p.2) p.1) cs).toList ((l'.zipIdx n).foldl (fun cs (p : Value × Nat) => cs.setIfInBounds (off + p.2) p.1) as).toList
 | _, _, _, _, _, .nil, h => h
 | _, _, n, cs, as, .cons hv t, h => by
  simp only [List.zipIdx_cons, List.foldl_cons];refine fill_step (n + 1) t ?_;simp only [Array.toList_setIfInBounds];exact h.set _ hv
inductive PairsR (φ : Ren) : List (Nat × Value) → List (Nat × Value) → Prop
 | nil : PairsR φ [] []
 | cons {i : Nat} {v a : Value} {ps qs : List (Nat × Value)} (h : VR φ v a) (t : PairsR φ ps qs) : PairsR φ ((i, v) :: ps) ((i, a) :: qs)
theorem fill_rel (pl : Nat → Option (Nat × Nat)) : ∀ {ps qs : List (Nat × Value)} {cs as r : Array Value}, PairsR φ ps qs → VRs φ cs.toList as.toList → Instr.fill pl as qs = some r →
  ∃ r', Instr.fill pl cs ps = some r' ∧ VRs φ r'.toList r.toList
 | _, _, cs, as, r, .nil, h, e => by
  simp only [Instr.fill] at e;cases e;exact ⟨cs, by simp [Instr.fill], h⟩
 | _, _, cs, as, r, .cons (i := i) (v := v) (a := a) hv t, h, e => by
  have hc := cells_rel hv;have hlen : v.cells.size = a.cells.size := by simpa using hc.length
  have hlen2 : cs.size = as.size := by simpa using h.length
  simp only [Instr.fill] at e ⊢;cases hp : pl i with
  | none => simp [hp] at e
  | some os =>
   obtain ⟨off, size⟩ := os;simp only [hp, hlen, hlen2] at e ⊢;split at e
   ·cases e
   ·rename_i hb;rw [if_neg hb];refine fill_rel pl t ?_ e;rw [← Array.foldl_toList, ← Array.foldl_toList, Array.toList_zipIdx, Array.toList_zipIdx];exact fill_step 0 hc h
theorem szT_mapM {fields : Array Field} (h : fields.toList.all (fun f => (szT P f.type).isSome) = true) (w : World) :
  (fields.mapM fun f => do pure (f.offset, ← sizeOf f.type) : Sem (Array (Nat × Nat))).run P w = .ok (fields.map fun f => (f.offset, (szT P f.type).getD 0)) w := by
 have key : ∀ (l : List Field), l.all (fun f => (szT P f.type).isSome) = true → (l.mapM fun f => do pure (f.offset, ← sizeOf f.type) : Sem (List (Nat × Nat))).run P w = .ok (l.map fun f => (f.offset, (szT P f.type).getD 0)) w := by
  intro l;induction l with
  | nil => intro _; simp
  | cons f l ih =>
   intro hl;simp only [List.all_cons, Bool.and_eq_true] at hl;obtain ⟨n, hn⟩ := Option.isSome_iff_exists.1 hl.1;simp only [List.mapM_cons, Sem.run_bind, run_sizeOf' hn, Result.andThen_ok, Sem.run_pure, ih hl.2, List.map_cons, hn, Option.getD_some]
 have e : fields.mapM (fun f => do pure (f.offset, ← sizeOf f.type) : Field → Sem (Nat × Nat)) = (do pure (← fields.toList.mapM fun f => do pure (f.offset, ← sizeOf f.type)).toArray) := by
  rw [Array.mapM_eq_mapM_toList];rfl
 rw [e, Sem.run_bind, key _ h];simp only [Result.andThen_ok, Sem.run_pure]
 congr 1
 apply Array.toList_inj.1;simp
theorem snd_build {t : Nat} {ps qs : List (Nat × Value)} {a : Value} (hps : PairsR φ ps qs) (h : aBuild P t qs = some a) (w : World) : ∃ v, (Instr.build t ps.toArray).run P w = .ok v w ∧ VR φ v a := by
 unfold aBuild at h;cases hz : zeroT P t with
 | none => simp [hz] at h
 | some z =>
  simp only [hz, Option.bind_some] at h;split at h
  ·rename_i hp;unfold aPlaces at h;split at h
   ·rename_i fields hu;split at h
    ·rename_i hall;simp only [Option.bind_some] at h;cases hf : Instr.fill (fun i => (fields[i]?).map fun f => (f.offset, (szT P f.type).getD 0)) z.cells qs with
     | none => simp [hf] at h
     | some r =>
      simp [hf] at h;subst h;obtain ⟨r', h1, h2⟩ := fill_rel _ hps (plains_refl φ _ hp) hf;refine ⟨.agg r', ?_, .agg h2⟩;have hm := szT_mapM hall w;have hfun : (fun (i : Nat) => (fields.map fun (f : Field) => (f.offset, (szT P f.type).getD 0))[i]?) = fun i => (fields[i]?).map fun f => (f.offset, (szT P f.type).getD 0) := by
       funext i; simp
      simp only [Instr.build, Sem.run_bind, run_zeroValue' hz, run_underlying hu, Result.andThen_ok, hm];simp only [hfun, h1];rfl
    ·simp at h
   ·rename_i n elem hu;cases hs : szT P elem with
    | none => simp [hs] at h
    | some size =>
     simp only [hs, Option.map_some, Option.bind_some] at h;cases hf : Instr.fill (fun i => some (i * size, size)) z.cells qs with
     | none => simp [hf] at h
     | some r =>
      simp [hf] at h;subst h;obtain ⟨r', h1, h2⟩ := fill_rel _ hps (plains_refl φ _ hp) hf;refine ⟨.agg r', ?_, .agg h2⟩;simp only [Instr.build, Sem.run_bind, run_zeroValue' hz, run_underlying hu, Result.andThen_ok, run_sizeOf' hs];simp only [h1];rfl
   ·simp at h
  ·cases h
theorem snd_buildSlice (hs : Sim φ H bar base w) {t n : Nat} {ps qs : List (Nat × Value)} {a : Value} (hps : PairsR φ ps qs) (h : aBuildSlice P H t n qs = some (.val a H')) : SemOk P φ H bar base w (Instr.buildSlice t n ps.toArray) a H' := by
 unfold aBuildSlice at h;split at h
 ·rename_i elem hu;cases hz : szT P elem with
  | none => simp [hz] at h
  | some size =>
   simp only [hz, Option.bind_some] at h;split at h
   ·cases h
   ·rename_i hbig;cases hzz : zeroT P elem with
    | none => simp [hzz] at h
    | some z =>
     simp only [hzz, Option.bind_some] at h;split at h
     ·rename_i hc;simp only [Bool.and_eq_true, beq_iff_eq, decide_eq_true_eq] at hc;obtain ⟨⟨hp, hsz⟩, hpos⟩ := hc;generalize hinit : (if n * size = 0 then #[] else (Array.range (n * size)).map (z.cells[· % z.cells.size]!)) = init at h
      have hinitp : init.toList.all plain1 = true := by
       subst hinit;split
       ·rfl
       ·rw [List.all_eq_true] at hp ⊢;intro x hx;simp only [Array.toList_map, List.mem_map] at hx;obtain ⟨j, _, rfl⟩ := hx;have hlt : j % z.cells.size < z.cells.size := Nat.mod_lt _ (by omega);rw [getElem!_pos z.cells _ hlt];exact hp _ (by simp)
      cases hf : Instr.fill (fun i => some (i * size, size)) init qs with
      | none => simp [hf] at h
      | some r =>
       simp only [hf, Option.bind_some] at h;cases hr : aNewRow H r.toList elem size with
       | none => simp [hr] at h
       | some p =>
        obtain ⟨b, H₁⟩ := p;simp [hr] at h;obtain ⟨ha, hH⟩ := h;subst ha; subst hH;obtain ⟨r', h1, h2⟩ := fill_rel _ hps (plains_refl φ _ hinitp) hf;obtain ⟨φ', w', k1, k2, k3⟩ := run_newRow' P hs h2 hr;refine ⟨.slice (some ⟨w.heap.size, 0, none⟩) n n, w', φ', ?_, ?_, k2⟩
        ·have k1' : (newRow elem r').run P w = .ok ⟨w.heap.size, 0, none⟩ w' := by simpa using k1
         have hbig' : ¬ n * size > 2 ^ 24 := by simpa using hbig
         by_cases h0 : n * size = 0
         ·have hi0 : init = #[] := by rw [← hinit, if_pos h0]
          subst hi0;simp only [Instr.buildSlice, Sem.run_bind, run_underlying hu, Result.andThen_ok, run_sizeOf' hz, if_neg hbig', Sem.run_pure, Sem.run_ite, if_pos h0];simp only [h0];have hr0 : (Array.range 0).map (fun x => (#[] : Array Value)[x % (#[] : Array Value).size]!) = #[] := by simp
          rw [hr0];simp only [h1, Sem.run_bind, k1', Result.andThen_ok, Sem.run_pure]
         ·rw [if_neg h0] at hinit;simp only [Instr.buildSlice, Sem.run_bind, run_underlying hu, Result.andThen_ok, run_sizeOf' hz, if_neg hbig', Sem.run_pure, Sem.run_ite, if_neg h0, run_zeroValue' hzz];simp only [hinit, h1, Sem.run_bind, k1', Result.andThen_ok, Sem.run_pure]
        ·have hr' : r'.size ≤ 16777216 := by
          have h3 := h2.length;have : r'.size = init.size := by
           have : ∀ (ps : List (Nat × Value)) (a b : Array Value), Instr.fill (fun i => some (i * size, size)) a ps = some b → b.size = a.size := by
            intro ps;induction ps with
            | nil => intro a b h; simp [Instr.fill] at h; rw [h]
            | cons p ps ih =>
             intro a b h;obtain ⟨i, v⟩ := p;simp only [Instr.fill] at h;split at h
             ·cases h
             ·rw [ih _ _ h, ← Array.foldl_toList];generalize v.cells.zipIdx.toList = l;rename_i hcond;clear h hcond;induction l generalizing a with
              | nil => rfl
              | cons x l ih2 => simp only [List.foldl_cons]; rw [ih2]; simp
           exact this _ _ _ h1
          rw [this, ← hinit];split
          ·simp
          ·simp; omega
         have hn16 : n ≤ 16777216 := by
          have : n * 1 ≤ n * size := Nat.mul_le_mul_left n hpos;omega
         have hv := VR.slice (φ := φ') (o := 0) (len := n) (cap := n) (acap := n) k3 (Nat.le_refl _) (.inl ⟨rfl, by unfold capU; omega⟩);simpa using hv
     ·cases h
 ·cases h
theorem snd_extract {v x a : Value} {i : Nat} (hv : VR φ v x) (h : aExtract x i = some a) (w : World) : ∃ u, (Instr.extract v i).run P w = .ok u w ∧ VR φ u a := by
 unfold aExtract at h;split at h
 ·rename_i vs;cases hv with
  | tuple hcs =>
   rename_i cs;obtain ⟨u, h1, h2⟩ := hcs.get i a (by simpa using h)
   have h1' : cs[i]? = some u := by simpa using h1
   exact ⟨u, by simp [Instr.extract, h1'], h2⟩
 ·cases h
theorem snd_makeIface {t : Nat} {v x a : Value} (hv : VR φ v x) (h : aMakeIface P t x = some a) (w : World) : ∃ u, (Instr.makeInterface t v).run P w = .ok u w ∧ VR φ u a := by
 unfold aMakeIface at h;split at h
 ·cases h
 ·rename_i d hd hu;cases h;refine ⟨.iface t v, ?_, .iface hv⟩;unfold Instr.makeInterface;rw [Sem.run_bind, run_underlying hu];cases d <;> first | rfl | exact absurd rfl (hd _)
 ·cases h
end Go.Abu
namespace Go.Abu
variable {P : Program} {φ : Ren} {H H' : AH} {bar base : Nat} {w : World}
inductive OptR (φ : Ren) : Option Value → Option Value → Prop
 | none : OptR φ none none
 | some {v a : Value} (h : VR φ v a) : OptR φ (some v) (some a)
theorem run_bound {v x : Value} {y l : Nat} {code : BoundsCode} (hv : VR φ v x) (h : aBound x y = some l) (w : World) : (Instr.sliceBound v y code).run P w = .ok l w ∧ l ≤ y := by
 unfold aBound at h;split at h
 ·rename_i k i;cases hv with
  | int =>
   split at h
   ·rename_i hb;cases h;exact ⟨by simp [Instr.sliceBound, asIntOf, hb], by omega⟩
   ·cases h
 ·cases h
theorem bound_le {x : Value} {y y' l : Nat} (h : aBound x y = some l) (hy : y ≤ y') : aBound x y' = some l := by
 unfold aBound at h ⊢;split at h
 ·split at h
  ·rw [if_pos (by omega)]; exact h
  ·cases h
 ·cases h
theorem run_bounds {isS : Bool} {len cap : Nat} {lo hi mx lo' hi' mx' : Option Value} {l h m : Nat} (h1 : OptR φ lo lo') (h2 : OptR φ hi hi') (h3 : OptR φ mx mx')
  (hb : aBounds len cap lo' hi' mx' = some (l, h, m)) (w : World) : (Instr.sliceBounds isS len cap lo hi mx).run P w = .ok (l, h, m) w := by
 unfold aBounds at hb;cases h3 with
 | none =>
  simp only [Option.bind_some] at hb;cases h2 with
  | none =>
   simp only [Option.bind_some] at hb;cases h1 with
   | none => simp at hb; obtain ⟨rfl, rfl, rfl⟩ := hb; simp [Instr.sliceBounds]
   | some hv =>
    rename_i v a;cases hq : aBound a len with
    | none => simp [hq] at hb
    | some l' =>
     simp [hq] at hb; obtain ⟨rfl, rfl, rfl⟩ := hb;simp [Instr.sliceBounds, (run_bound hv hq w).1]
  | some hvh =>
   rename_i v a;cases hqh : aBound a cap with
   | none => simp [hqh] at hb
   | some h' =>
    simp only [hqh, Option.bind_some] at hb;cases h1 with
    | none => simp at hb; obtain ⟨rfl, rfl, rfl⟩ := hb; simp [Instr.sliceBounds, (run_bound hvh hqh w).1]
    | some hv =>
     rename_i v a;cases hq : aBound a h' with
     | none => simp [hq] at hb
     | some l' =>
      simp [hq] at hb; obtain ⟨rfl, rfl, rfl⟩ := hb;simp [Instr.sliceBounds, (run_bound hvh hqh w).1, (run_bound hv hq w).1]
 | some hvm =>
  rename_i v a;cases hqm : aBound a cap with
  | none => simp [hqm] at hb
  | some m' =>
   simp only [hqm, Option.bind_some] at hb;cases h2 with
   | none => simp at hb
   | some hvh =>
    rename_i v a;cases hqh : aBound a m' with
    | none => simp [hqh] at hb
    | some h' =>
     simp only [hqh, Option.bind_some] at hb;cases h1 with
     | none => simp at hb; obtain ⟨rfl, rfl, rfl⟩ := hb; simp [Instr.sliceBounds, (run_bound hvm hqm w).1, (run_bound hvh hqh w).1]
     | some hv =>
      rename_i v a;cases hq : aBound a h' with
      | none => simp [hq] at hb
      | some l' =>
       simp [hq] at hb; obtain ⟨rfl, rfl, rfl⟩ := hb;simp [Instr.sliceBounds, (run_bound hvm hqm w).1, (run_bound hvh hqh w).1, (run_bound hv hq w).1]
theorem boundsU {len lim cap : Nat} (hl : len ≤ lim) (hlc : lim ≤ cap) {lo hi mx : Option Value} {l h : Nat} {m : Option Nat} (hb : aBoundsU len lim lo hi mx = some (l, h, m)) :
  aBounds len cap lo hi mx = some (l, h, m.getD cap) ∧ l ≤ h ∧ h ≤ lim ∧ (∀ k, m = some k → h ≤ k ∧ k ≤ lim) := by
 have le : ∀ {x : Value} {y l : Nat}, aBound x y = some l → l ≤ y := by
  intro x y l h;unfold aBound at h;split at h
  ·split at h
   ·cases h; omega
   ·cases h
  ·cases h
 unfold aBoundsU at hb;unfold aBounds;cases mx with
 | none =>
  simp only [Option.bind_some] at hb ⊢;cases hi with
  | none =>
   simp only [Option.isSome_none, Bool.false_eq_true, if_false, Option.bind_some] at hb ⊢;cases lo with
   | none => simp at hb; obtain ⟨rfl, rfl, rfl⟩ := hb; simp; omega
   | some v =>
    cases hq : aBound v len with
    | none => simp [hq] at hb
    | some l' =>
     simp [hq] at hb; obtain ⟨rfl, rfl, rfl⟩ := hb;have := le hq;simp [hq]; omega
  | some vh =>
   simp only [Option.getD_none] at hb ⊢;cases hqh : aBound vh lim with
   | none => simp [hqh] at hb
   | some h' =>
    have e := bound_le hqh hlc;have := le hqh;simp only [hqh, e, Option.bind_some] at hb ⊢;cases lo with
    | none => simp at hb; obtain ⟨rfl, rfl, rfl⟩ := hb; simp; omega
    | some v =>
     cases hq : aBound v h' with
     | none => simp [hq] at hb
     | some l' =>
      simp [hq] at hb; obtain ⟨rfl, rfl, rfl⟩ := hb;have := le hq;simp [hq]; omega
 | some vm =>
  cases hqm : aBound vm lim with
  | none => simp [hqm] at hb
  | some m' =>
   have em := bound_le hqm hlc;have hm := le hqm;simp only [hqm, em, Option.map_some, Option.bind_some, Option.getD_some] at hb ⊢;cases hi with
   | none => simp at hb
   | some vh =>
    simp only at hb ⊢;cases hqh : aBound vh m' with
    | none => simp [hqh] at hb
    | some h' =>
     have := le hqh;simp only [hqh, Option.bind_some] at hb ⊢;cases lo with
     | none => simp at hb; obtain ⟨rfl, rfl, rfl⟩ := hb; simp; omega
     | some v =>
      cases hq : aBound v h' with
      | none => simp [hq] at hb
      | some l' =>
       simp [hq] at hb; obtain ⟨rfl, rfl, rfl⟩ := hb;have := le hq;simp [hq]; omega
theorem bounds_le {len cap l h m : Nat} (hlc : len ≤ cap) {lo hi mx : Option Value} (hb : aBounds len cap lo hi mx = some (l, h, m)) : l ≤ h ∧ h ≤ m ∧ m ≤ cap := by
 have le : ∀ {x : Value} {y l : Nat}, aBound x y = some l → l ≤ y := by
  intro x y l h;unfold aBound at h;split at h
  ·split at h
   ·cases h; omega
   ·cases h
  ·cases h
 unfold aBounds at hb;obtain ⟨m', hm, hb⟩ := Option.bind_eq_some_iff.1 hb;obtain ⟨h', hh, hb⟩ := Option.bind_eq_some_iff.1 hb;obtain ⟨l', hl, hb⟩ := Option.map_eq_some_iff.1 hb;cases hb;have e1 : m ≤ cap := by
  cases mx with
  | none => cases hm; exact Nat.le_refl _
  | some v => exact le hm
 have e3 : l ≤ h := by
  cases lo with
  | none => cases hl; exact Nat.zero_le _
  | some v => exact le hl
 have e2 : h ≤ m := by
  cases hi with
  | none =>
   cases mx with
   | none => cases hh; cases hm; exact hlc
   | some v => cases hh
  | some v => cases mx <;> exact le hh
 exact ⟨e3, e2, e1⟩
theorem snd_slice0 (hs : Sim φ H bar base w) {t : Nat} {v x a : Value} {lo hi mx lo' hi' mx' : Option Value} (hv : VR φ v x) (h1 : OptR φ lo lo') (h2 : OptR φ hi hi') (h3 : OptR φ mx mx')
  (h : aSlice0 P H t x lo' hi' mx' = some a) : ∃ u, (Instr.sliceAt t v lo hi mx).run P w = .ok u w ∧ VR φ u a := by
 unfold aSlice0 at h;split at h
 ·rename_i s hu;cases hv with
  | string =>
   split at h
   ·cases h
   ·rename_i hm;cases h3 with
    | some => simp at hm
    | none =>
     cases hb : aBounds s.size s.size lo' hi' none with
     | none => simp [hb] at h
     | some p =>
      obtain ⟨l, hh, m⟩ := p;simp [hb] at h;subst h;refine ⟨.string (s.extract l hh), ?_, .string _⟩;have := run_bounds (P := P) (isS := false) h1 h2 .none hb w;simp [Instr.sliceAt, run_underlying hu, Instr.slice, this]
 ·rename_i e hu;cases hv with
  | sliceNil =>
   cases hz : szT P e with
   | none => simp [hz] at h
   | some size =>
    cases hb : aBounds 0 0 lo' hi' mx' with
    | none => simp [hz, hb] at h
    | some p =>
     obtain ⟨l, hh, m⟩ := p;simp [hz, hb] at h;subst h;have hle := bounds_le (Nat.le_refl 0) hb;have hr := run_bounds (P := P) (isS := true) h1 h2 h3 hb w;have hl0 : l = 0 := by omega
     have hh0 : hh = 0 := by omega
     have hm0 : m = 0 := by omega
     subst hl0; subst hh0; subst hm0;refine ⟨.slice none 0 0, ?_, .sliceNil⟩;simp [Instr.sliceAt, run_underlying hu, Instr.slice, hr, run_sizeOf' hz]
 ·rename_i e b o len cap hu;cases hz : szT P e with
  | none => simp [hz] at h
  | some size =>
   simp only [hz, Option.bind_some] at h;have key : ∀ (c x cap' l hh m : Nat), aBounds len cap' lo' hi' mx' = some (l, hh, m) → (Instr.sliceAt t (.slice (some ⟨c, x, none⟩) len cap') lo hi mx).run P w = .ok (.slice (some ⟨c, if m = l then x else x + l * size, none⟩) (hh - l) (m - l)) w := by
    intro c x cap' l hh m hb;have hr := run_bounds (P := P) (isS := true) h1 h2 h3 hb w;simp only [Instr.sliceAt, Sem.run_bind, run_underlying hu, Result.andThen_ok, Instr.slice, hr, run_sizeOf' hz];by_cases hml : m = l
    ·simp [hml]
    ·simp [hml, add_plain]
   split at h
   ·rename_i hcap;subst hcap;split at h
    ·rename_i cc tt zz hg;split at h
     ·rename_i hzz;obtain ⟨hzz, hpos, hlen⟩ := hzz;cases hb : aBoundsU len (Nat.max len ((cc.length - o) / size)) lo' hi' mx' with
      | none => simp [hb] at h
      | some p =>
       obtain ⟨l, hh, m⟩ := p;simp only [hb, Option.map_some] at h;cases hv with
       | slice hφ hl hc =>
        rename_i cap' r;have hc := hc.resolve_left (fun e => e.2 rfl);have hrz : r.z = size := by
         obtain ⟨_, _, _, _, e, _⟩ := hs.obj b r _ hφ hg;rw [e.1, hzz]
        have hknown : (cc.length - o) / size ≤ cap' := by
         obtain ⟨_, _, _, _, e, _⟩ := hs.obj b r _ hφ hg;have h3 := hc.2.2;rw [e.2, hrz] at h3;exact Nat.div_le_of_le_mul (by rw [Nat.mul_comm]; omega)
        obtain ⟨k1, k2, k3, k4⟩ := boundsU (Nat.le_max_left _ _) (Nat.max_le.2 ⟨hl, hknown⟩) hb;have hmx : Nat.max len ((cc.length - o) / size) ≤ cap' := Nat.max_le.2 ⟨hl, hknown⟩;have hrun := key r.c (r.s + o) cap' l hh _ k1;cases m with
        | none =>
         simp only [Option.getD_none, Option.some.injEq] at h hrun;subst h;by_cases hcl : cap' = l
         ·refine ⟨_, hrun, ?_⟩;rw [if_pos hcl];have e1 : hh - l = 0 := by omega
          have e2 : cap' - l = 0 := by omega
          rw [e1, e2];have h3 := hc.2.2;rw [hcl, hrz] at h3;exact .sliceE hφ (.inr ⟨rfl, h3⟩)
         ·refine ⟨_, hrun, ?_⟩;rw [if_neg hcl, Nat.add_assoc];have : l * size + (cap' - l) * r.z = cap' * r.z := by
           rw [hrz, ← Nat.add_mul]
           congr 1
           omega
          exact .slice hφ (by omega) (.inr ⟨rfl, by omega, by omega⟩)
        | some k =>
         simp only [Option.getD_some, Option.some.injEq] at h hrun;subst h;refine ⟨_, hrun, ?_⟩;have hk := k4 k rfl;have hkU : k < capU := Nat.lt_of_le_of_lt hk.2 hlen;by_cases hkl : k = l
         ·rw [if_pos hkl, if_pos hkl];exact .slice hφ (by omega) (.inl ⟨rfl, by omega⟩)
         ·rw [if_neg hkl, if_neg hkl, Nat.add_assoc];exact .slice hφ (by omega) (.inl ⟨rfl, by omega⟩)
       | sliceE hφ ha =>
        rename_i x r;have h3 := (ha.resolve_left (by unfold capU; omega)).2;have hk0' : (cc.length - o) / size = 0 := by
         obtain ⟨_, _, _, _, e, _⟩ := hs.obj b r _ hφ hg;rw [e.2] at h3;have : cc.length - o = 0 := by omega
         rw [this]; exact Nat.zero_div _
        rw [hk0'] at hb;obtain ⟨k1, k2, k3, k4⟩ := boundsU (Nat.le_refl 0) (Nat.le_refl 0) hb;have hrun := key r.c x 0 l hh _ k1;have hl0 : l = 0 := by omega
        have hh0 : hh = 0 := by omega
        subst hl0; subst hh0;cases m with
        | none =>
         simp only [Option.getD_none, Option.some.injEq] at h hrun;subst h;exact ⟨_, hrun, by simpa using .sliceE hφ (.inr ⟨rfl, h3⟩)⟩
        | some k =>
         have hk := k4 k rfl;have hk0 : k = 0 := by omega
         subst hk0;simp only [Option.getD_some, Option.some.injEq] at h hrun;subst h;exact ⟨_, hrun, by simpa using .sliceE hφ (.inl rfl)⟩
     ·cases h
    ·cases h
   ·rename_i hcap;split at h
    ·cases h
    ·rename_i hcap2;cases hb : aBounds len cap lo' hi' mx' with
     | none => simp [hb] at h
     | some p =>
      obtain ⟨l, hh, m⟩ := p;simp only [hb, Option.map_some, Option.some.injEq] at h;subst h;cases hv with
      | slice hφ hl hc =>
       rename_i cap' r;have hc : cap = cap' := by
        rcases hc with hc | hc
        ·exact hc.1
        ·exact absurd hc.1 hcap
       subst hc;have hle := bounds_le hl hb;have hrun := key r.c (r.s + o) cap l hh m hb;refine ⟨_, hrun, ?_⟩;by_cases hml : m = l
       ·rw [if_pos hml, if_pos hml];exact .slice hφ (by omega) (.inl ⟨rfl, by omega⟩)
       ·rw [if_neg hml, if_neg hml, Nat.add_assoc];exact .slice hφ (by omega) (.inl ⟨rfl, by omega⟩)
      | sliceE hφ ha =>
       rename_i x r;have hc : cap = 0 := ha.resolve_right (fun h => hcap h.1);subst hc;have hle := bounds_le (Nat.le_refl 0) hb;have hrun := key r.c x 0 l hh m hb;have hl0 : l = 0 := by omega
       have hh0 : hh = 0 := by omega
       have hm0 : m = 0 := by omega
       subst hl0; subst hh0; subst hm0;exact ⟨_, hrun, by simpa using .sliceE hφ (.inl rfl)⟩
 ·rename_i n e b o hu;cases hv with
  | ptr hφ =>
   rename_i r;cases hz : szT P e with
   | none => simp [hz] at h
   | some size =>
    simp only [hz, Option.bind_some] at h;split at h
    ·cases h
    ·rename_i hn;cases hb : aBounds n n lo' hi' mx' with
     | none => simp [hb] at h
     | some p =>
      obtain ⟨l, hh, m⟩ := p;simp only [hb, Option.map_some, Option.some.injEq] at h;subst h;have hle := bounds_le (Nat.le_refl n) hb;have hr := run_bounds (P := P) (isS := false) h1 h2 h3 hb w;refine ⟨.slice (some ⟨r.c, r.s + (if m = l then o else o + l * size), none⟩) (hh - l) (m - l), ?_, .slice hφ (by omega) (.inl ⟨rfl, by omega⟩)⟩
      simp only [Instr.sliceAt, Sem.run_bind, run_underlying hu, Result.andThen_ok, Instr.sureAddr, Sem.run_pure, hr, run_sizeOf' hz];by_cases hml : m = l
      ·simp [hml]
      ·simp [hml, add_plain, Nat.add_assoc]
 ·cases h
theorem snd_nilCheck {v x a : Value} (hv : VR φ v x) (h : aNilCheck x = some a) (o : Oper) (ρ : Operand → Value) (y : Operand) (hy : ρ y = v) (ho : o.op = .nilCheck y) (w : World) :
  ∃ u, (execOp ρ o).run P w = .ok (.value u) w ∧ VR φ u a := by
 obtain ⟨dst, op, ty, pos, after, guard⟩ := o
 dsimp only at ho
 subst ho;unfold aNilCheck at h;split at h
 ·cases h; cases hv with | ptr hφ => exact ⟨_, by simp only [execOp, hy]; rfl, .ptr hφ⟩
 ·cases h; cases hv with | func hf hc => exact ⟨_, by simp only [execOp, hy]; rfl, .func hf hc⟩
 ·cases h; cases hv with | iface hi => exact ⟨_, by simp only [execOp, hy]; rfl, .iface hi⟩
 ·cases h; cases hv with
  | sliceNil => exact ⟨_, by simp only [execOp, hy]; rfl, .sliceNil⟩
  | slice hφ hl hc => exact ⟨_, by simp only [execOp, hy]; rfl, .slice hφ hl hc⟩
  | sliceE hφ ha => exact ⟨_, by simp only [execOp, hy]; rfl, .sliceE hφ ha⟩
 ·cases h
theorem snd_typeAssert {v x a : Value} {xt t : Nat} {ok : Bool} (hv : VR φ v x) (h : aTypeAssert P x xt t ok = some a) (w : World) : ∃ u, (Instr.typeAssert v xt t ok).run P w = .ok u w ∧ VR φ u a := by
 unfold aTypeAssert at h;split at h
 ·cases h
 ·rename_i d tt y hd hu;cases hv with
  | iface hi =>
   rename_i u;split at h
   ·rename_i ht;cases h;refine ⟨if ok then .tuple #[u, .bool true] else u, ?_, ?_⟩
    ·simp only [Instr.typeAssert, Sem.run_bind, run_underlying hu, Result.andThen_ok];cases d <;> first | (simp [ht]; done) | exact absurd rfl (hd _)
    ·cases ok
     ·exact hi
     ·exact .tuple (.cons hi (.cons (.bool _) .nil))
   ·rename_i ht;split at h
    ·rename_i hok;cases hz : zeroT P t with
     | none => simp [hz] at h
     | some z =>
      simp only [hz, Option.bind_some] at h;split at h
      ·rename_i hp;cases h;refine ⟨.tuple #[z, .bool false], ?_, .tuple (.cons (plain_refl φ _ hp) (.cons (.bool _) .nil))⟩;simp only [Instr.typeAssert, Sem.run_bind, run_underlying hu, Result.andThen_ok];cases d <;> first | (simp [ht, hok, run_zeroValue' hz]; done) | exact absurd rfl (hd _)
      ·cases h
    ·cases h
 ·rename_i d hd hu;cases hv with
  | nilIface =>
   split at h
   ·rename_i hok;cases hz : zeroT P t with
    | none => simp [hz] at h
    | some z =>
     simp only [hz, Option.bind_some] at h;split at h
     ·rename_i hp;cases h;refine ⟨.tuple #[z, .bool false], ?_, .tuple (.cons (plain_refl φ _ hp) (.cons (.bool _) .nil))⟩;simp only [Instr.typeAssert, Sem.run_bind, run_underlying hu, Result.andThen_ok];cases d <;> first | (simp [hok, run_zeroValue' hz]; done) | exact absurd rfl (hd _)
     ·cases h
   ·cases h
 ·cases h
theorem nilTest_run {t : Nat} {x y v u : Value} {r : Bool} (hx : VR φ v x) (hy : VR φ u y) (h : nilTest P t x y = some r) (w : World) :
  (Op.equal t v u).run P w = .ok r w ∧ (∀ op xo yo, (eqGuard op t xo yo v u).run P w = .ok () w) ∧ (binOp .eql t v u).run P w = .ok (.bool r) w ∧ (binOp .neq t v u).run P w = .ok (.bool !r) w := by
 have fin : (Op.equal t v u).run P w = .ok r w → (∀ op xo yo, (eqGuard op t xo yo v u).run P w = .ok () w) → binOp .eql t v u = (do pure (.bool (← Op.equal t v u))) → binOp .neq t v u = (do pure (.bool (!(← Op.equal t v u)))) →
   (Op.equal t v u).run P w = .ok r w ∧ (∀ op xo yo, (eqGuard op t xo yo v u).run P w = .ok () w) ∧ (binOp .eql t v u).run P w = .ok (.bool r) w ∧ (binOp .neq t v u).run P w = .ok (.bool !r) w :=
  fun h1 h2 h3 h4 => ⟨h1, h2, by rw [h3]; simp [h1], by rw [h4]; simp [h1]⟩
 unfold nilTest at h;split at h
 all_goals first
  | (cases h; done)
  | (rename_i hu
     cases h;cases hx <;> cases hy <;>
       refine fin ?_ ?_ rfl rfl <;>
       first
       | (show (Op.equalIn (9999 + 1) t _ _).run P w = _; unfold Op.equalIn; rw [Sem.run_bind, run_underlying hu]; rfl)
       | (intro op xo yo; cases op <;> simp [eqGuard]))
theorem snd_binS {op : BinOp} {t : Nat} {xo yo : Operand} {v u x y a : Value} (hx : VR φ v x) (hy : VR φ u y) (h : aBinS P op t xo yo x y = some a) (w : World) :
  ∃ r, (do eqGuard op t xo yo v u; binOp op t v u : Sem Value).run P w = .ok r w ∧ VR φ r a := by
 unfold aBinS at h;split at h
 ·rename_i hp;simp only [Bool.and_eq_true] at hp;have e1 := plain_eq hx hp.1;have e2 := plain_eq hy hp.2;subst e1; subst e2;obtain ⟨r, h1, h2⟩ := Option.bind_eq_some_iff.1 h;have hrun := pureRun_sound P _ _ h1 w;split at h2
  ·rename_i hpr;cases h2;exact ⟨a, hrun, plain1_refl φ _ hpr⟩
  ·cases h2
 ·split at h
  ·cases hn : nilTest P t x y with
   | none => simp [hn] at h
   | some r =>
    simp [hn] at h;subst h;obtain ⟨_, h2, h3, _⟩ := nilTest_run hx hy hn w;exact ⟨.bool r, by simp [h2, h3], .bool _⟩
  ·cases hn : nilTest P t x y with
   | none => simp [hn] at h
   | some r =>
    simp [hn] at h;subst h;obtain ⟨_, h2, _, h4⟩ := nilTest_run hx hy hn w;exact ⟨.bool (!r), by simp [h2, h4], .bool _⟩
  ·cases h
theorem wrap_nat {n : Nat} (h : n ≤ 9223372036854775807) : IntKind.wrap .i64 (Int.ofNat n) = Int.ofNat n := by
 have h1 : ((n : Int) % 18446744073709551616) = (n : Int) := by omega
 show (if true && decide ((Int.ofNat n) % (2 ^ 64 : Int) ≥ (2 ^ 63 : Int)) then (Int.ofNat n) % (2 ^ 64 : Int) - (2 ^ 64 : Int) else (Int.ofNat n) % (2 ^ 64 : Int)) = _
 have e1 : (2 ^ 64 : Int) = 18446744073709551616 := by decide
 have e2 : (2 ^ 63 : Int) = 9223372036854775808 := by decide
 rw [e1, e2];have h2 : (Int.ofNat n) % 18446744073709551616 = Int.ofNat n := h1;rw [h2];have h3 : ¬ (Int.ofNat n ≥ 9223372036854775808) := by
  show ¬ ((n : Int) ≥ _)
  omega
 rw [decide_eq_false h3];rfl
theorem fNat_run {op : BinOp} {t : Nat} {xo yo : Operand} {a b : Nat} {r : Value} (h : fNat op a b = some r) (w : World) :
  (do eqGuard op t xo yo (.int .i64 (.ofNat a)) (.int .i64 (.ofNat b)); binOp op t (.int .i64 (.ofNat a)) (.int .i64 (.ofNat b)) : Sem Value).run P w = .ok r w ∧ plain1 r = true := by
 have blt : ∀ m n : Nat, Nat.ble m n = decide ((Int.ofNat m) ≤ Int.ofNat n) := by
  intro m n;rw [Bool.eq_iff_iff];simp [Nat.ble_eq]
 have beqn : (Int.ofNat a == Int.ofNat b) = Nat.beq a b := by
  rw [Bool.eq_iff_iff, beq_iff_eq];constructor
  ·intro e;have e : (a : Int) = (b : Int) := e;have e : a = b := by omega
   rw [e]; exact Nat.beq_refl b
  ·intro e;rw [Nat.eq_of_beq_eq_true e]
 unfold fNat at h;split at h
 ·split at h
  ·rename_i e;cases h;have e := Nat.le_of_ble_eq_true e;refine ⟨?_, rfl⟩;show (Sem.pure (Value.int .i64 (IntKind.wrap .i64 (Int.ofNat a + Int.ofNat b)))).run P w = _
   rw [show Int.ofNat a + Int.ofNat b = Int.ofNat (Nat.add a b) from rfl, wrap_nat e]
   rfl
  ·cases h
 ·split at h
  ·rename_i e;cases h;rw [Bool.and_eq_true] at e;have e1 := Nat.le_of_ble_eq_true e.1;have e2 := Nat.le_of_ble_eq_true e.2;refine ⟨?_, rfl⟩;show (Sem.pure (Value.int .i64 (IntKind.wrap .i64 (Int.ofNat a - Int.ofNat b)))).run P w = _
   have : Int.ofNat a - Int.ofNat b = Int.ofNat (Nat.sub a b) := by
    show (a : Int) - (b : Int) = ((a - b : Nat) : Int)
    omega
   rw [this, wrap_nat (by show a - b ≤ _; omega)]
   rfl
  ·cases h
 ·split at h
  ·rename_i e;cases h;have e := Nat.le_of_ble_eq_true e;refine ⟨?_, rfl⟩;show (Sem.pure (Value.int .i64 (IntKind.wrap .i64 (Int.ofNat a * Int.ofNat b)))).run P w = _
   rw [show Int.ofNat a * Int.ofNat b = Int.ofNat (Nat.mul a b) from rfl, wrap_nat e]
   rfl
  ·cases h
 all_goals first | (cases h; done) | skip
 all_goals
  cases h;refine ⟨?_, rfl⟩
 ·show (Sem.pure (Value.bool (Int.ofNat a == Int.ofNat b))).run P w = _
  rw [beqn]; rfl
 ·show (Sem.pure (Value.bool (!(Int.ofNat a == Int.ofNat b)))).run P w = _
  rw [beqn]; rfl
 ·show (Sem.pure (Value.bool (decide (Int.ofNat a < Int.ofNat b)))).run P w = _
  have : (decide (Int.ofNat a < Int.ofNat b)) = Nat.ble (Nat.succ a) b := by
   rw [Bool.eq_iff_iff]; simp [Nat.ble_eq]; omega
  rw [this]; rfl
 ·show (Sem.pure (Value.bool (decide (Int.ofNat a ≤ Int.ofNat b)))).run P w = _
  rw [← blt]; rfl
 ·show (Sem.pure (Value.bool (decide (Int.ofNat a > Int.ofNat b)))).run P w = _
  have : (decide (Int.ofNat a > Int.ofNat b)) = Nat.ble (Nat.succ b) a := by
   rw [Bool.eq_iff_iff]; simp [Nat.ble_eq]; omega
  rw [this]; rfl
 ·show (Sem.pure (Value.bool (decide (Int.ofNat a ≥ Int.ofNat b)))).run P w = _
  have : (decide (Int.ofNat a ≥ Int.ofNat b)) = Nat.ble b a := by
   rw [Bool.eq_iff_iff]; simp [Nat.ble_eq]
  rw [this]; rfl
theorem snd_bin {op : BinOp} {t : Nat} {xo yo : Operand} {v u x y a : Value} (hx : VR φ v x) (hy : VR φ u y) (h : aBin P op t xo yo x y = some a) (w : World) :
  ∃ r, (do eqGuard op t xo yo v u; binOp op t v u : Sem Value).run P w = .ok r w ∧ VR φ r a := by
 unfold aBin at h;split at h
 ·rename_i r hr;cases h;unfold fBin at hr;split at hr
  ·split at hr
   ·cases hx;cases hy;obtain ⟨h1, h2⟩ := fNat_run (P := P) (t := t) (xo := xo) (yo := yo) hr w;exact ⟨a, h1, plain1_refl φ _ h2⟩
   ·cases hr
  ·cases hr
 ·exact snd_binS hx hy h w
theorem bounds_zero {cap : Nat} {lo hi : Option Value} {p : Nat × Nat × Nat} (h : aBounds 0 0 lo hi none = some p) : aBounds 0 cap lo hi none = some (0, 0, cap) := by
 unfold aBounds at h ⊢;have aux : ∀ {v : Value} {y n : Nat}, aBound v 0 = some n → aBound v y = some 0 ∧ n = 0 := by
  intro v y n h;unfold aBound at h ⊢;split at h
  ·rename_i i;split at h
   ·rename_i hi;have : i = 0 := by omega
    subst this;cases h;exact ⟨by rw [if_pos ⟨Int.le_refl _, by omega⟩]; rfl, rfl⟩
   ·cases h
  ·cases h
 cases hi with
 | none =>
  cases lo with
  | none => rfl
  | some l =>
   simp only [Option.bind_some, Option.map_eq_some_iff] at h ⊢;obtain ⟨n, h1, _⟩ := h;exact ⟨0, (aux h1).1, rfl⟩
 | some hv =>
  simp only [Option.bind_some, Option.bind_eq_some_iff] at h ⊢;obtain ⟨n, h1, h2⟩ := h;obtain ⟨a1, a2⟩ := aux (y := cap) h1;subst a2;refine ⟨0, a1, ?_⟩;cases lo with
  | none => rfl
  | some l =>
   simp only [Option.map_eq_some_iff] at h2 ⊢;obtain ⟨n, h3, _⟩ := h2;exact ⟨0, (aux h3).1, rfl⟩
theorem snd_sliceZ {t : Nat} {v x a : Value} {lo hi mx lo' hi' mx' : Option Value} (hv : VR φ v x) (h1 : OptR φ lo lo') (h2 : OptR φ hi hi') (h3 : OptR φ mx mx')
  (h : aSliceZ P t x lo' hi' mx' = some a) (w : World) : ∃ u, (Instr.sliceAt t v lo hi mx).run P w = .ok u w ∧ VR φ u a := by
 unfold aSliceZ at h;split at h
 ·rename_i e hu;split at h
  ·rename_i b o cap;split at h
   ·rename_i hcap;subst hcap;split at h
    ·split at h
     ·rename_i size hz;split at h
      ·rename_i p hb;cases h;cases h3;have key : ∀ (c x cap' : Nat), (Instr.sliceAt t (.slice (some ⟨c, x, none⟩) 0 cap') lo hi none).run P w = .ok (.slice (some ⟨c, x, none⟩) 0 cap') w := by
        intro c x cap';have hr := run_bounds (P := P) (isS := true) h1 h2 .none (bounds_zero (cap := cap') hb) w;simp only [Instr.sliceAt, Sem.run_bind, run_underlying hu, Result.andThen_ok, Instr.slice, hr, run_sizeOf' hz];by_cases hml : cap' = 0
        ·simp [hml]
        ·simp [hml, add_plain]
       cases hv with
       | slice hφ hl hc => exact ⟨_, key _ _ _, .slice hφ hl hc⟩
       | sliceE hφ ha => exact ⟨_, key _ _ _, .sliceE hφ ha⟩
      ·cases h
     ·cases h
    ·cases h
   ·cases h
  ·cases h
 ·cases h
theorem snd_slice (hs : Sim φ H bar base w) {t : Nat} {v x a : Value} {lo hi mx lo' hi' mx' : Option Value} (hv : VR φ v x) (h1 : OptR φ lo lo') (h2 : OptR φ hi hi') (h3 : OptR φ mx mx')
  (h : aSlice P H t x lo' hi' mx' = some a) : ∃ u, (Instr.sliceAt t v lo hi mx).run P w = .ok u w ∧ VR φ u a := by
 unfold aSlice at h;split at h
 ·rename_i r hr;cases h;exact snd_sliceZ hv h1 h2 h3 hr w
 ·exact snd_slice0 hs hv h1 h2 h3 h
end Go.Abu
namespace Go.Abu
variable {P : Program} {φ : Ren} {H H' : AH} {bar base : Nat} {w : World}
theorem zerosOf_length (z : List Value) : ∀ n, (zerosOf z n).length = n * z.length
 | 0 => by simp [zerosOf]
 | n + 1 => by simp [zerosOf, zerosOf_length z n, Nat.add_mul]; omega
theorem zerosOf_all {z : List Value} {p : Value → Bool} (h : z.all p = true) : ∀ n, (zerosOf z n).all p = true
 | 0 => rfl
 | n + 1 => by simp only [zerosOf, List.all_append, h, zerosOf_all h n, Bool.and_self]
theorem zeroCells_eq (z : Array Value) : ∀ n, (Builtin.zeroCells z n).toList = zerosOf z.toList n
 | 0 => by simp [Builtin.zeroCells, zerosOf]
 | n + 1 => by
  have ih := zeroCells_eq z n;simp only [Builtin.zeroCells, Array.toList_map, Array.toList_range] at ih ⊢;rw [Nat.add_mul, Nat.one_mul, Nat.add_comm, List.range_add, List.map_append];simp only [zerosOf]
  congr 1
  ·apply List.ext_getElem
   ·simp
   ·intro i h1 h2;simp at h1;simp [Nat.mod_eq_of_lt h1, h1]
  ·rw [← ih];simp [Function.comp_def]
theorem lenOf_rel {v x : Value} {n : Nat} (hv : VR φ v x) (h : aLen x = some n) (w : World) : (Builtin.lenOf v).run P w = .ok n w := by
 unfold aLen at h;split at h
 ·cases h; cases hv with | sliceNil => rfl
 ·cases h;cases hv with
  | slice => rfl
  | sliceE => rfl
 ·cases h; cases hv with | string => rfl
 ·cases h
theorem Sim.drew (hs : Sim φ H bar base w) : Sim φ H bar base w.drew :=
 ⟨hs.bn, hs.small, hs.lt, fun b r o h hg => (hs.obj b r o h hg).frame (Ren.le_refl _) rfl, hs.inj, hs.own, hs.hb, hs.cur⟩
theorem Step.drew (hs : Sim φ H bar base w) : Step φ H bar base w φ H w.drew :=
 ⟨Ren.le_refl _, hs.drew, fun _ _ h => .inl h, (RowKit.Below.refl _ _).drew, Nat.le_refl _, fun _ _ _ => rfl⟩
theorem firstCells_rel (hs : Sim φ H bar base w) {size n : Nat} {v x : Value} {l : List Value} (hv : VR φ v x) (h : aFirst H size n x = some l) (hn : ∀ m, aLen x = some m → n ≤ m) :
  ∃ vs, VRs φ vs l ∧ ∀ w' : World, w'.heap = w.heap → (Builtin.firstCells size n v).run P w' = .ok vs.toArray w' := by
 unfold aFirst at h;split at h
 ·cases hv with
  | sliceNil =>
   split at h
   ·cases h; exact ⟨[], .nil, fun w' _ => by simp [Builtin.firstCells]⟩
   ·cases h
 ·rename_i b o len cap;split at h
  ·rename_i h0;cases h;refine ⟨[], .nil, fun w' _ => ?_⟩;cases hv with
   | slice hφ => simp [Builtin.firstCells, h0, loadCells, loadCellsFrom]
   | sliceE hφ => simp [Builtin.firstCells, h0, loadCells, loadCellsFrom]
  ·rename_i h0;cases hv with
   | slice hφ hl hc =>
    rename_i cap' r;unfold rowCells at h;split at h
    ·rename_i c t z hg;obtain ⟨arr, fz, g1, g2, g3, g4, g5, g6⟩ := hs.obj b r _ hφ hg;obtain ⟨vs, e1, e2⟩ := load_row P hs hφ hg h;refine ⟨vs, e1, fun w' hw' => ?_⟩;have hs' : Sim φ H bar base { w' with heap := w.heap } := by
      rw [← hw'];exact ⟨hs.bn, hs.small, hs.lt, fun b r o h hg => (hs.obj b r o h hg).frame (Ren.le_refl _) (by rw [hw']), hs.inj, hs.own, by rw [hw']; exact hs.hb, by rw [hw']; exact hs.cur⟩
     have he : ({ w' with heap := w.heap } : World) = w' := by rw [← hw']
     rw [he] at hs';obtain ⟨vs2, e3, e4⟩ := load_row P hs' hφ hg h;have : vs2 = vs := by
      have q1 := e1.length;have q2 := e3.length;obtain ⟨hll, _⟩ := cellsAt_get h;have hlist : ∀ (us : List Value) (x : World), x.heap = w.heap → us.length = n * size → (loadCells ⟨r.c, r.s + o, none⟩ (n * size)).run P x = .ok us.toArray x → us = (List.range (n * size)).map fun i => arr[r.s + o + i]?.getD undef := by
       intro us x hx hul hrun;have hb : ∀ i, i < n * size → r.s + o + i < arr.size := by
        intro i hi;have : o + (n * size) ≤ c.length := by
         have h2 := h;rw [cellsAt_eq] at h2;split at h2
         ·rename_i hq; simp at hq; omega
         ·cases h2
        omega
       have hr2 := run_loadCells_list (P := P) x ⟨r.c, r.s + o, none⟩ ((List.range (n * size)).map fun i => arr[r.s + o + i]?.getD undef) (fun j v hv => by
        simp only [List.getElem?_map, Option.map_eq_some_iff] at hv;obtain ⟨k, hk, rfl⟩ := hv;have hj : j < n * size := by have := (List.getElem?_eq_some_iff.1 hk).1; simpa using this
        have : k = j := by have := (List.getElem?_eq_some_iff.1 hk).2; simpa using this.symm
        subst this;rw [add_plain];simp only [World.cell?, hx, g1];simp [Array.getElem?_eq_getElem (hb k hj)])
       simp only [List.length_map, List.length_range] at hr2;rw [hr2] at hrun;injection hrun with e1 e2
       have := congrArg Array.toList e1;simpa using this.symm
      rw [hlist vs w rfl (by omega) e2, hlist vs2 w' hw' (by omega) e4]
     rw [← this];exact e4
    ·cases h
   | sliceE hφ ha =>
    have hn' := hn 0 rfl;have : n = 0 := by omega
    subst this;simp at h0
 ·rename_i s;cases h;cases hv with
  | string =>
   refine ⟨_, plains_refl φ _ (by rw [List.all_eq_true]; intro x hx; simp only [List.mem_map] at hx; obtain ⟨b, _, rfl⟩ := hx; rfl), fun w' _ => ?_⟩;simp only [Builtin.firstCells, Sem.run_pure]
   congr 1
   apply Array.ext';simp [List.map_take]
 ·cases h
theorem aLen_slice {a : Option Addr} {l c n : Nat} (h : aLen (.slice a l c) = some n) : l = n := by
 unfold aLen at h;split at h <;> simp_all
inductive App (P : Program) (xt size bytes : Nat) (z : Array Value) (n : Nat) (vs : List Value) (h : Array Obj) : Value → Prop
 | slice {e : Nat} {a : Option Addr} {l c : Nat} (ht : P.underlying xt = some (.slice e)) (hl : l = n) (hf : ∀ w' : World, w'.heap = h → (Builtin.firstCells size n (.slice a l c)).run P w' = .ok vs.toArray w') : App P xt size bytes z n vs h (.slice a l c)
 | string {s : ByteArray} (ht : P.underlying xt = some .string) (hl : s.size = n) (hf : ∀ w' : World, w'.heap = h → (Builtin.firstCells size n (.string s)).run P w' = .ok vs.toArray w') : App P xt size bytes z n vs h (.string s)
 | zeros {k : IntKind} (ht : P.underlying xt = some (.int k)) (h63 : n < 9223372036854775808) (hb : n * bytes ≤ 281474976710656) (hv : vs = zerosOf z.toList n) : App P xt size bytes z n vs h (.int .i64 n)
theorem appended_rel (hs : Sim φ H bar base w) {xt size bytes n : Nat} {z : Array Value} {v x : Value} {l : List Value} (hv : VR φ v x) (hzp : z.toList.all plain1 = true) (hzl : z.toList.length = size)
  (h : aAppended P H xt size bytes z.toList x = some (n, l)) : ∃ vs, VRs φ vs l ∧ l.length = n * size ∧ App P xt size bytes z n vs w.heap v := by
 unfold aAppended at h;split at h
 ·rename_i k ht;split at h
  ·rename_i m;split at h
   ·rename_i hb;cases h;cases hv with
    | int =>
     have hm : (m.toNat : Int) = m := by omega
     refine ⟨zerosOf z.toList m.toNat, plains_refl φ _ (zerosOf_all hzp _), by rw [zerosOf_length, hzl], ?_⟩;have := App.zeros (P := P) (xt := xt) (size := size) (bytes := bytes) (z := z) (n := m.toNat) (vs := zerosOf z.toList m.toNat) (h := w.heap) ht (by omega) (by
      have h2 := hb.2.1;rw [← hm, ← Int.natCast_mul] at h2;exact Int.ofNat_le.1 h2) rfl
     rw [hm] at this;exact this
   ·cases h
  ·cases h
 ·rename_i e ht;split at h
  ·rename_i a ln cp;obtain ⟨n', h1, h⟩ := Option.bind_eq_some_iff.1 h;obtain ⟨l', h2, h⟩ := Option.bind_eq_some_iff.1 h;split at h
   ·rename_i hl;cases h;obtain ⟨vs, e1, e2⟩ := firstCells_rel (P := P) hs hv h2 (fun m hm => by rw [h1] at hm; cases hm; exact Nat.le_refl _);refine ⟨vs, e1, hl, ?_⟩;have hlen : ln = n := aLen_slice h1;cases hv with
    | sliceNil => exact .slice ht hlen e2
    | slice => exact .slice ht hlen e2
    | sliceE => exact .slice ht hlen e2
   ·cases h
  ·cases h
 ·rename_i ht;split at h
  ·rename_i s;obtain ⟨n', h1, h⟩ := Option.bind_eq_some_iff.1 h;obtain ⟨l', h2, h⟩ := Option.bind_eq_some_iff.1 h;split at h
   ·rename_i hl;cases h;obtain ⟨vs, e1, e2⟩ := firstCells_rel (P := P) hs hv h2 (fun m hm => by rw [h1] at hm; cases hm; exact Nat.le_refl _);have hlen : s.size = n := by simpa [aLen] using h1
    cases hv with
    | string => exact ⟨vs, e1, hl, .string ht hlen e2⟩
   ·cases h
  ·cases h
 ·cases h
end Go.Abu
namespace Go.Abu
variable {P : Program} {φ : Ren} {H H' : AH} {bar base : Nat} {w : World}
theorem run_app_in {st xt ty elem : Nat} {i : TypeInfo} {zv : Value} (hu : P.underlying st = some (.slice elem)) (hi : P.info? elem = some i) (hz : i.zero = some zv) (hzs : zv.cells.size = i.size)
  {u : Value} {n : Nat} {vs : List Value} (ha : App P xt i.size i.bytes zv.cells n vs w.heap u) (g o len cap : Nat) (hroom : len + n ≤ cap) {w' : World}
  (hst : (storeCells ⟨g, o + len * i.size, none⟩ vs).run P w = .ok () w') :
  (Builtin.append_ #[st, xt] ty #[.slice (some ⟨g, o, none⟩) len cap, u]).run P w = .ok (.slice (some ⟨g, o, none⟩) (len + n) cap) w' := by
 cases ha with
 | slice ht hl hf =>
  subst hl;simp [Builtin.append_, run_underlying hu, run_underlying ht, Go.sizeOf, typeInfo, hi, Builtin.lenOf, hroom, hf w rfl, add_plain, hst]
 | string ht hl hf =>
  simp [Builtin.append_, run_underlying hu, run_underlying ht, Go.sizeOf, typeInfo, hi, Builtin.lenOf, hl, hroom, hf w rfl, add_plain, hst]
 | zeros ht h63 hb hv =>
  have hw : IntKind.i64.wrap (n : Int) = n := by simp [IntKind.wrap, IntKind.bits, IntKind.signed]; omega
  have h1 : ¬ ((n : Int) < 0) := by omega
  have h2 : ¬ (281474976710656 < (n : Int) * i.bytes) := by rw [← Int.natCast_mul]; omega
  by_cases h0 : n * i.size = 0
  ·have hvs : vs = [] := by
    apply List.eq_nil_of_length_eq_zero;rw [hv, zerosOf_length, Array.length_toList, hzs, h0]
   subst hvs;simp [Builtin.append_, run_underlying hu, run_underlying ht, Go.sizeOf, typeInfo, hi, asInt, asIntOf, hw, h1, h2, hroom, h0, add_plain, hst]
  ·have hzc : (Builtin.zeroCells zv.cells n).toList = vs := by rw [zeroCells_eq, hv]
   simp [Builtin.append_, run_underlying hu, run_underlying ht, Go.sizeOf, typeInfo, zeroValue, hi, hz, asInt, asIntOf, hw, h1, h2, hroom, h0, add_plain, hzc, hst]
theorem run_app_none {st xt ty elem : Nat} {i : TypeInfo} {zv : Value} (hu : P.underlying st = some (.slice elem)) (hi : P.info? elem = some i) (_hz : i.zero = some zv)
  {u : Value} {vs : List Value} (ha : App P xt i.size i.bytes zv.cells 0 vs w.heap u) :
  (Builtin.append_ #[st, xt] ty #[.slice none 0 0, u]).run P w = .ok (.slice none 0 0) w := by
 cases ha with
 | slice ht hl hf =>
  subst hl;simp [Builtin.append_, run_underlying hu, run_underlying ht, Go.sizeOf, typeInfo, hi, Builtin.lenOf, hf w rfl]
 | string ht hl hf =>
  simp [Builtin.append_, run_underlying hu, run_underlying ht, Go.sizeOf, typeInfo, hi, Builtin.lenOf, hl, hf w rfl]
 | zeros ht h63 hb hv =>
  have hw : IntKind.i64.wrap 0 = 0 := rfl;simp [Builtin.append_, run_underlying hu, run_underlying ht, Go.sizeOf, typeInfo, hi, asInt, asIntOf, hw]
theorem run_app_grow {st xt ty elem : Nat} {i : TypeInfo} {zv : Value} (hu : P.underlying st = some (.slice elem)) (hi : P.info? elem = some i) (hz : i.zero = some zv) (hzs : zv.cells.size = i.size)
  {u : Value} {n : Nat} {vs : List Value} (ha : App P xt i.size i.bytes zv.cells n vs w.heap u) (a : Option Addr) (len cap : Nat) (hroom : cap < len + n) (hb : (len + n) * i.bytes ≤ 140737488355328)
  (hbp : 0 < i.bytes) {olds : List Value} (hold : ∀ w' : World, w'.heap = w.heap → (Builtin.firstCells i.size len (.slice a len cap)).run P w' = .ok olds.toArray w') :
  (Builtin.append_ #[st, xt] ty #[.slice a len cap, u]).run P w =
   .ok (.slice (some ⟨w.heap.size, 0, none⟩) (len + n) (grownCap w (len + n) cap elem)) (w.drew.alloc (.cells (olds.toArray ++ vs.toArray ++ Builtin.zeroCells zv.cells (grownCap w (len + n) cap elem - (len + n))) elem)) := by
 have hfit := growslice_fits hroom hb;have hn : ¬ (len + n ≤ cap) := by omega
 have hle : (len + n) * 1 ≤ (len + n) * i.bytes := Nat.mul_le_mul_left _ hbp;have h63' : ¬ (9223372036854775807 < ((len : Int) + (n : Int))) := by omega
 have h48' : ¬ (281474976710656 < Builtin.nextslicecap (len + n) cap * i.bytes) := by omega
 have ho := hold w.drew rfl;cases ha with
 | slice ht hl hf =>
  subst hl;simp [Builtin.append_, run_underlying hu, run_underlying ht, Go.sizeOf, typeInfo, zeroValue, hi, hz, Builtin.lenOf, hn, h63', h48', Question.forced, hf w.drew rfl, ho, newRow, grownCap]
  congr 2
  apply Array.ext';simp [List.append_assoc]
 | string ht hl hf =>
  simp [Builtin.append_, run_underlying hu, run_underlying ht, Go.sizeOf, typeInfo, zeroValue, hi, hz, Builtin.lenOf, hl, hn, h63', h48', Question.forced, hf w.drew rfl, ho, newRow, grownCap]
  congr 2
  apply Array.ext';simp [List.append_assoc]
 | zeros ht h63 hb hv =>
  have hw : IntKind.i64.wrap (n : Int) = n := by simp [IntKind.wrap, IntKind.bits, IntKind.signed]; omega
  have h1 : ¬ ((n : Int) < 0) := by omega
  have h2 : ¬ (281474976710656 < (n : Int) * i.bytes) := by rw [← Int.natCast_mul]; omega
  by_cases h0 : n * i.size = 0
  ·have hvs : vs = [] := by
    apply List.eq_nil_of_length_eq_zero;rw [hv, zerosOf_length, Array.length_toList, hzs, h0]
   subst hvs;simp [Builtin.append_, run_underlying hu, run_underlying ht, Go.sizeOf, typeInfo, zeroValue, hi, hz, asInt, asIntOf, hw, h1, h2, hn, h63', h48', h0, Question.forced, ho, newRow, grownCap]
  ·have hzc : Builtin.zeroCells zv.cells n = vs.toArray := by
    apply Array.toList_inj.1;rw [zeroCells_eq, hv]
   simp [Builtin.append_, run_underlying hu, run_underlying ht, Go.sizeOf, typeInfo, zeroValue, hi, hz, asInt, asIntOf, hw, h1, h2, hn, h63', h48', h0, Question.forced, ho, newRow, grownCap, hzc]
   congr 2
   apply Array.ext';simp [List.append_assoc]
theorem grownCap_ge (w : World) (need old elem : Nat) : need ≤ grownCap w need old elem := by
 unfold grownCap;simp only [Question.cut];omega
end Go.Abu
namespace Go.Abu
variable {P : Program} {φ : Ren} {H H' : AH} {bar base : Nat} {w : World}
theorem arr_of_list {α : Type} {a : Array α} {l : List α} (h : a.toList = l) : a = l.toArray := by
 apply Array.toList_inj.1;rw [h]
theorem len_of_cells {c l : List Value} {o n : Nat} (h : cellsAt c o n = some l) : l.length = n := (cellsAt_get h).1
theorem snd_grow (hs : Sim φ H bar base w) {st xt ty elem : Nat} {i : TypeInfo} {zv : Value} (hu : P.underlying st = some (.slice elem)) (hi : P.info? elem = some i) (hz : i.zero = some zv) (hzs : zv.cells.size = i.size)
  {u : Value} {n : Nat} {vs new : List Value} (ha : App P xt i.size i.bytes zv.cells n vs w.heap u) (hv : VRs φ vs new) (hnl : new.length = n * i.size)
  {a : Option Addr} {len cap : Nat} (hroom : cap < len + n) (hb : (len + n) * i.bytes ≤ 140737488355328) (hbp : 0 < i.bytes)
  {olds old : List Value} (hold : ∀ w' : World, w'.heap = w.heap → (Builtin.firstCells i.size len (.slice a len cap)).run P w' = .ok olds.toArray w') (hov : VRs φ olds old) (hol : old.length = len * i.size)
  (hal : H.alloc (.row (old ++ new) elem i.size) = some H') :
  SemOk P φ H bar base w (Builtin.append_ #[st, xt] ty #[.slice a len cap, u]) (.slice (some ⟨H.next, 0, none⟩) (len + n) capU) H' := by
 have hrun := run_app_grow hu hi hz hzs ha a len cap hroom hb hbp hold (w := w) (ty := ty);have hge := grownCap_ge w (len + n) cap elem;have hsz : (olds.toArray ++ vs.toArray ++ Builtin.zeroCells zv.cells (grownCap w (len + n) cap elem - (len + n))).size = grownCap w (len + n) cap elem * i.size := by
  simp only [Array.size_append, List.size_toArray, size_zeroCells, hov.length, hv.length, hol, hnl, hzs];rw [← Nat.add_mul, ← Nat.add_mul]
  congr 1
  omega
 have hnew := new_row (hs.drew) hal (arr := olds.toArray ++ vs.toArray ++ Builtin.zeroCells zv.cells (grownCap w (len + n) cap elem - (len + n))) (t := elem) (z := i.size)
  (by simp only [Array.size_append, List.size_toArray, List.length_append, hov.length, hv.length]; omega)
  (fun j b hj => by
   obtain ⟨v, h1, h2⟩ := (hov.append hv).get j b hj;refine ⟨v, ?_, h2⟩;have hlt : j < (olds ++ vs).length := (List.getElem?_eq_some_iff.1 h1).1;have : (olds.toArray ++ vs.toArray) = (olds ++ vs).toArray := by simp
   rw [this, Array.getElem?_append_left (by simpa using hlt)]
   simpa using h1)
 refine ⟨_, _, _, hrun, ?_, (Step.drew hs).trans hnew⟩;have hφ := upd_self φ H.next ⟨w.drew.heap.size, 0, (olds.toArray ++ vs.toArray ++ Builtin.zeroCells zv.cells (grownCap w (len + n) cap elem - (len + n))).size, i.size, (old ++ new).length⟩;have := VR.slice (φ := upd φ H.next _) (o := 0) (len := len + n) (cap := grownCap w (len + n) cap elem) (acap := capU) hφ hge (.inr ⟨rfl, by simp only [hsz]; omega, by simp only [List.length_append, hol, hnl]; rw [← Nat.add_mul]; have := Nat.mul_le_mul_right i.size hge; omega⟩);simpa using this
theorem snd_aGrow (hs : Sim φ H bar base w) {st xt ty elem : Nat} {i : TypeInfo} {zv : Value} (hu : P.underlying st = some (.slice elem)) (hi : P.info? elem = some i) (hz : i.zero = some zv) (hzs : zv.cells.size = i.size)
  {u : Value} {n : Nat} {vs new : List Value} (ha : App P xt i.size i.bytes zv.cells n vs w.heap u) (hv : VRs φ vs new) (hnl : new.length = n * i.size)
  {a : Option Addr} {len cap : Nat} (hroom : cap < len + n) (hbp : 0 < i.bytes)
  {olds old : List Value} (hold : ∀ w' : World, w'.heap = w.heap → (Builtin.firstCells i.size len (.slice a len cap)).run P w' = .ok olds.toArray w') (hov : VRs φ olds old) (hol : old.length = len * i.size)
  {r : Value} (h : aGrow H elem i.size i.bytes len n old new = some (.val r H')) :
  SemOk P φ H bar base w (Builtin.append_ #[st, xt] ty #[.slice a len cap, u]) r H' := by
 unfold aGrow at h;split at h
 ·rename_i hb;obtain ⟨p, hr, h⟩ := Option.map_eq_some_iff.1 h;obtain ⟨b', H₁⟩ := p;obtain ⟨rfl, hal⟩ := aNewRow_eq hr;injection h with h1 h2
  subst h1; subst h2;exact snd_grow hs hu hi hz hzs ha hv hnl hroom hb hbp hold hov hol hal
 ·cases h
theorem old_rel (hs : Sim φ H bar base w) {size b o len cap : Nat} {s' : Value} {old : List Value} (hs' : VR φ s' (.slice (some ⟨b, o, none⟩) len cap)) (h : aOld H size b o len = some old) (c1 : size ≠ 0) :
  old.length = len * size ∧ ∃ olds, VRs φ olds old ∧ ∀ w' : World, w'.heap = w.heap → (Builtin.firstCells size len s').run P w' = .ok olds.toArray w' := by
 have hfc : aFirst H size len (.slice (some ⟨b, o, none⟩) len cap) = some old := by
  unfold aFirst;unfold aOld at h;by_cases hl0 : len = 0
  ·rw [if_pos hl0] at h;simp only [hl0, Nat.zero_mul, if_true];exact h
  ·rw [if_neg hl0] at h;have : ¬ (len * size = 0) := Nat.mul_ne_zero hl0 c1;simp only [if_neg this];exact h
 refine ⟨?_, ?_⟩
 ·unfold aOld at h;by_cases hl0 : len = 0
  ·rw [if_pos hl0] at h; cases h; simp [hl0]
  ·rw [if_neg hl0] at h;unfold rowCells at h;split at h
   ·exact len_of_cells h
   ·cases h
 ·exact firstCells_rel (P := P) hs hs' hfc (fun m hm => by rw [← aLen_slice hm]; exact Nat.le_refl _)
theorem slice_some {s' : Value} {b o len cap : Nat} (hs' : VR φ s' (.slice (some ⟨b, o, none⟩) len cap)) : ∃ r x cap', φ b = some r ∧ s' = .slice (some ⟨r.c, x, none⟩) len cap' ∧
  ((len ≤ cap' ∧ x = r.s + o ∧ ((cap = cap' ∧ cap ≠ capU) ∨ (cap = capU ∧ r.s + o + cap' * r.z ≤ r.lim ∧ r.n ≤ o + cap' * r.z))) ∨ (len = 0 ∧ cap' = 0 ∧ (cap = 0 ∨ (cap = capU ∧ r.n ≤ o)))) := by
 cases hs' with
 | slice hφ hl hc => exact ⟨_, _, _, hφ, rfl, .inl ⟨hl, rfl, hc⟩⟩
 | sliceE hφ ha => exact ⟨_, _, _, hφ, rfl, .inr ⟨rfl, rfl, ha⟩⟩
theorem snd_appX (hs : Sim φ H bar base w) {st xt ty elem : Nat} {i : TypeInfo} {zv : Value} (hu : P.underlying st = some (.slice elem)) (hi : P.info? elem = some i) (hz : i.zero = some zv) (hzs : zv.cells.size = i.size)
  {u : Value} {n : Nat} {vs new : List Value} (ha : App P xt i.size i.bytes zv.cells n vs w.heap u) (hv : VRs φ vs new) (hnl : new.length = n * i.size) (hbp : 0 < i.bytes) (c1 : i.size ≠ 0) (hn : n ≠ 0)
  {s' : Value} {b o len cap : Nat} (hs' : VR φ s' (.slice (some ⟨b, o, none⟩) len cap)) (hcap : cap ≠ capU) {r : Value} (h : aAppX bar H elem i.size i.bytes n new b o len cap = some (.val r H')) :
  SemOk P φ H bar base w (Builtin.append_ #[st, xt] ty #[s', u]) r H' := by
 have hso := slice_some hs';unfold aAppX at h;split at h
 ·rename_i hroom;obtain ⟨H₁, hw, h⟩ := Option.map_eq_some_iff.1 h;injection h with h1 h2
  subst h1; subst h2;obtain ⟨rb, x, cap', hφ, rfl, hcase⟩ := hso;rcases hcase with ⟨hl, rfl, hc⟩ | ⟨rfl, rfl, hc⟩
  ·have hc : cap = cap' := by
    rcases hc with hc | hc
    ·exact hc.1
    ·exact absurd hc.1 hcap
   subst hc;obtain ⟨w', f1, f2⟩ := run_aWrite P hs hφ hv hw;rw [← Nat.add_assoc] at f1;exact ⟨_, w', φ, run_app_in hu hi hz hzs ha _ _ len _ hroom f1, .slice hφ hroom (.inl ⟨rfl, hcap⟩), f2⟩
  ·have := hc.resolve_right (fun h => hcap h.1);omega
 ·rename_i hroom;obtain ⟨old, hold, h⟩ := Option.bind_eq_some_iff.1 h;obtain ⟨hol, olds, hov, q2⟩ := old_rel (P := P) hs hs' hold c1;obtain ⟨rb, x, cap', hφ, rfl, hcase⟩ := hso;have hrm : cap' < len + n := by
   rcases hcase with ⟨hl, rfl, hc⟩ | ⟨rfl, rfl, hc⟩
   ·have hc : cap = cap' := by
     rcases hc with hc | hc
     ·exact hc.1
     ·exact absurd hc.1 hcap
    omega
   ·omega
  exact snd_aGrow hs hu hi hz hzs ha hv hnl hrm hbp q2 hov hol h
theorem snd_appU (hs : Sim φ H bar base w) {st xt ty elem : Nat} {i : TypeInfo} {zv : Value} (hu : P.underlying st = some (.slice elem)) (hi : P.info? elem = some i) (hz : i.zero = some zv) (hzs : zv.cells.size = i.size)
  {u : Value} {n : Nat} {vs new : List Value} (ha : App P xt i.size i.bytes zv.cells n vs w.heap u) (hv : VRs φ vs new) (hnl : new.length = n * i.size) (hbp : 0 < i.bytes) (c1 : i.size ≠ 0) (hn : n ≠ 0)
  {s' : Value} {b o len : Nat} (hs' : VR φ s' (.slice (some ⟨b, o, none⟩) len capU)) {r : Value} (h : aAppU bar H elem i.size i.bytes n new b o len = some (.val r H')) :
  SemOk P φ H bar base w (Builtin.append_ #[st, xt] ty #[s', u]) r H' := by
 have hso := slice_some hs';unfold aAppU at h;split at h
 ·rename_i hcond;obtain ⟨hbar, hb, hone⟩ := hcond;split at h
  ·rename_i c t zz hg;split at h
   ·rename_i htz;obtain ⟨rfl, rfl⟩ := htz;obtain ⟨old, hold, h⟩ := Option.bind_eq_some_iff.1 h;obtain ⟨H₁, hal, h⟩ := Option.map_eq_some_iff.1 h;injection h with h1 h2
    subst h1; subst h2;obtain ⟨hol, olds, hov, q2⟩ := old_rel (P := P) hs hs' hold c1;have hlive : H.live b := ⟨_, hg, by simp⟩;obtain ⟨rb, x, cap', hφ, rfl, hcase⟩ := hso;have hgrow : cap' < len + n → SemOk P φ H bar base w (Builtin.append_ #[st, xt] ty #[.slice (some ⟨rb.c, x, none⟩) len cap', u]) (.slice (some ⟨H.next, 0, none⟩) (len + n) capU) H₁ := by
     intro hroom;have hk := hs.update hφ hbar hlive (Only.refl rb.c w) (ao := .dead) trivial;obtain ⟨v, w', φ', e1, e2, e3⟩ := snd_grow hk.sim hu hi hz hzs ha hv hnl hroom hb hbp q2 hov hol hal (ty := ty);exact ⟨v, w', φ', e1, e2, hk.trans e3⟩
    by_cases hroom : len + n ≤ cap'
    ·rcases hcase with ⟨hl, rfl, hc⟩ | ⟨rfl, rfl, hc⟩
     ·have hc := hc.resolve_left (fun e => e.2 rfl);obtain ⟨arr, fz, g1, g2, g3, g4, g5, g6⟩ := hs.obj b rb _ hφ hg;have hmul : (len + n) * i.size ≤ cap' * i.size := Nat.mul_le_mul_right _ hroom;rw [Nat.add_mul] at hmul;have hlim := hc.2.1;rw [g3.1] at hlim;obtain ⟨w', arr', f1, f2, f3, f4, f5⟩ := run_storeCells P rb.c (rb.s + o + len * i.size) t fz vs 0 w arr g1 (g6 (hs.own b rb hφ hbar)) (by rw [hv.length, hnl]; omega) (ones_rel hv hone);refine ⟨_, w', upd φ H.next ⟨rb.c, rb.s + o, rb.lim, rb.z, (old ++ new).length⟩, run_app_in hu hi hz hzs ha _ _ len _ hroom f1, ?_, ?_⟩
      ·have hφn := upd_self φ H.next ⟨rb.c, rb.s + o, rb.lim, rb.z, (old ++ new).length⟩;have := VR.slice (φ := upd φ H.next ⟨rb.c, rb.s + o, rb.lim, rb.z, (old ++ new).length⟩) (o := 0) (len := len + n) (cap := cap') (acap := capU) hφn hroom (.inr ⟨rfl, by simp only [Nat.add_zero]; rw [g3.1]; omega, by simp only [List.length_append, hol, hnl]; rw [g3.1]; omega⟩);simpa using this
      ·refine hs.rekey hφ hbar hlive f2 rfl hal ⟨arr', fz, f3, by rw [f4]; exact g2, ⟨g3.1, rfl⟩, ?_, fun j b' hj => ?_, by rw [f4]; exact g6⟩
       ·simp only [List.length_append, hol, hnl]; omega
       ·have hvl := hv.length;by_cases hjl : j < old.length
        ·rw [List.getElem?_append_left hjl] at hj;have hl0 : len ≠ 0 := by
          intro hl0;rw [hol, hl0] at hjl;omega
         unfold aOld at hold;rw [if_neg hl0] at hold;unfold rowCells at hold;rw [hg] at hold;obtain ⟨_, hget⟩ := cellsAt_get hold;rw [hol] at hjl;rw [hget j hjl] at hj;obtain ⟨v, k1, k2⟩ := g5 (o + j) b' hj;refine ⟨v, ?_, k2.mono (upd_le hs _)⟩;show arr'[rb.s + o + j]? = some v
         rw [f5, if_neg (by omega)];rw [← Nat.add_assoc] at k1;exact k1
        ·rw [List.getElem?_append_right (by omega)] at hj;obtain ⟨v, k1, k2⟩ := hv.get _ b' hj;refine ⟨v, ?_, k2.mono (upd_le hs _)⟩;have hlt := (List.getElem?_eq_some_iff.1 k1).1;show arr'[rb.s + o + j]? = some v
         rw [f5, if_pos (by omega)];have : rb.s + o + j - (rb.s + o + len * i.size + 0) = j - old.length := by omega
         rw [this]; exact k1
     ·omega
    ·exact hgrow (by omega)
   ·cases h
  ·cases h
 ·cases h
theorem snd_appV (hs : Sim φ H bar base w) {st xt ty elem : Nat} {i : TypeInfo} {zv : Value} (hu : P.underlying st = some (.slice elem)) (hi : P.info? elem = some i) (hz : i.zero = some zv) (hzs : zv.cells.size = i.size)
  {u : Value} {n : Nat} {vs new : List Value} (ha : App P xt i.size i.bytes zv.cells n vs w.heap u) (hv : VRs φ vs new) (hnl : new.length = n * i.size) (hbp : 0 < i.bytes) (c1 : i.size ≠ 0) (hn : n ≠ 0)
  {s' : Value} {b o len : Nat} (hs' : VR φ s' (.slice (some ⟨b, o, none⟩) len capU)) {r : Value} (h : aAppV bar H elem i.size i.bytes n new b o len = some (.val r H')) :
  SemOk P φ H bar base w (Builtin.append_ #[st, xt] ty #[s', u]) r H' := by
 unfold aAppV at h;split at h
 ·rename_i c t zz hg;split at h
  ·rename_i hin;obtain ⟨rfl, hin⟩ := hin;obtain ⟨H₁, hw, h⟩ := Option.map_eq_some_iff.1 h;injection h with h1 h2
   subst h1; subst h2;obtain ⟨rb, x, cap', hφ, rfl, hcase⟩ := slice_some hs';obtain ⟨arr, fz, g1, g2, g3, g4, g5, g6⟩ := hs.obj b rb _ hφ hg;have hpos : 0 < i.size := by omega
   rcases hcase with ⟨hl, rfl, hc⟩ | ⟨rfl, rfl, hc⟩
   ·have hc := hc.resolve_left (fun e => e.2 rfl);have hroom : len + n ≤ cap' := by
     have h3 := hc.2.2;rw [g3.1, g3.2] at h3;have : (len + n) * i.size ≤ cap' * i.size := by omega
     exact Nat.le_of_mul_le_mul_right this hpos
    obtain ⟨w', f1, f2⟩ := run_aWrite P hs hφ hv hw;rw [← Nat.add_assoc] at f1;exact ⟨_, w', φ, run_app_in hu hi hz hzs ha _ _ len _ hroom f1, .slice hφ hroom (.inr hc), f2⟩
   ·exfalso;have h3 := (hc.resolve_left (by unfold capU; omega)).2;rw [g3.2] at h3;have : 0 < (0 + n) * i.size := Nat.mul_pos (by omega) hpos;omega
  ·exact snd_appU hs hu hi hz hzs ha hv hnl hbp c1 hn hs' h
 ·cases h
theorem snd_appS (hs : Sim φ H bar base w) {st xt ty elem : Nat} {i : TypeInfo} {zv : Value} (hu : P.underlying st = some (.slice elem)) (hi : P.info? elem = some i) (hz : i.zero = some zv) (hzs : zv.cells.size = i.size)
  {u : Value} {n : Nat} {vs new : List Value} (ha : App P xt i.size i.bytes zv.cells n vs w.heap u) (hv : VRs φ vs new) (hnl : new.length = n * i.size) (hbp : 0 < i.bytes) (c1 : i.size ≠ 0)
  {s' s : Value} (hs' : VR φ s' s) {r : Value} (h : aAppS bar H elem i.size i.bytes n new s = some (.val r H')) :
  SemOk P φ H bar base w (Builtin.append_ #[st, xt] ty #[s', u]) r H' := by
 unfold aAppS at h;split at h
 ·cases hs' with
  | sliceNil =>
   split at h
   ·rename_i h0;subst h0;injection h with h
    injection h with h1 h2
    subst h1; subst h2;exact ⟨_, _, _, run_app_none hu hi hz ha, .sliceNil, Step.refl hs⟩
   ·rename_i h0;exact snd_aGrow hs hu hi hz hzs ha hv hnl (by omega) hbp (olds := []) (fun w' _ => by simp [Builtin.firstCells]) .nil (by simp) h
 ·rename_i b o len cap;split at h
  ·rename_i h0;subst h0;injection h with h
   injection h with h1 h2
   subst h1; subst h2;have hvs0 : vs = [] := List.eq_nil_of_length_eq_zero (by rw [hv.length, hnl]; omega);subst hvs0;have hso := slice_some hs';obtain ⟨rb, x, cap', hφ, rfl, hcase⟩ := hso;exact ⟨_, w, φ, run_app_in hu hi hz hzs ha _ _ len _ (by rcases hcase with hq | hq <;> omega) (by simp [storeCells]), by simpa using hs', Step.refl hs⟩
  ·rename_i h0;split at h
   ·rename_i hcap;subst hcap;exact snd_appV hs hu hi hz hzs ha hv hnl hbp c1 h0 hs' h
   ·rename_i hcap;exact snd_appX hs hu hi hz hzs ha hv hnl hbp c1 h0 hs' hcap h
 ·cases h
theorem snd_append (hs : Sim φ H bar base w) {ts : Array TypeId} {ty : TypeId} {args' args : Array Value} {a : Value} (hargs : VRs φ args'.toList args.toList)
  (h : aAppend P bar H ts args = some (.val a H')) : SemOk P φ H bar base w (Builtin.append_ ts ty args') a H' := by
 unfold aAppend at h;split at h
 ·rename_i st xt s x hts hag;have e1 := arr_of_list hts;subst e1;rw [hag] at hargs;obtain ⟨s', x', hs', hx', rfl⟩ : ∃ s' x', VR φ s' s ∧ VR φ x' x ∧ args' = #[s', x'] := by
   generalize hl : args'.toList = l at hargs;cases hargs with
   | cons h1 t =>
    cases t with
    | cons h2 t =>
     cases t with
     | nil => exact ⟨_, _, h1, h2, arr_of_list hl⟩
  split at h
  ·rename_i elem hu;obtain ⟨size, hz, h⟩ := Option.bind_eq_some_iff.1 h;obtain ⟨i, hi, h⟩ := Option.bind_eq_some_iff.1 h;obtain ⟨zv, hzv, h⟩ := Option.bind_eq_some_iff.1 h;have hsz : i.size = size := by
    unfold szT at hz;rw [hi] at hz;simpa using hz
   subst hsz;have hzero : i.zero = some zv := by
    unfold zeroT at hzv;rw [hi] at hzv;simpa using hzv
   split at h
   ·cases h
   ·rename_i hc;simp only [not_or] at hc;obtain ⟨c1, c2, c3, c4⟩ := hc;have c2 : zv.cells.toList.length = i.size := by simpa using c2
    have c2' : zv.cells.size = i.size := by simpa using c2
    have c3 : zv.cells.toList.all plain1 = true := by simpa using c3
    obtain ⟨p, happ, h⟩ := Option.bind_eq_some_iff.1 h;obtain ⟨n, new⟩ := p;obtain ⟨vs, hvs, hnl, hA⟩ := appended_rel hs hx' c3 c2 happ;have hbp : 0 < i.bytes := by omega
    exact snd_appS hs hu hi hzero c2' hA hvs hnl hbp c1 hs' h
  ·cases h
 ·cases h
end Go.Abu
namespace Go.Abu
variable {P : Program} {φ : Ren} {H H' : AH} {bar base : Nat} {w : World}
theorem VRs.arr_get {cs as : Array Value} (h : VRs φ cs.toList as.toList) {i : Nat} {a : Value} (ha : as[i]? = some a) : ∃ v, cs[i]? = some v ∧ VR φ v a := by
 obtain ⟨v, h1, h2⟩ := h.get i a (by simpa using ha)
 exact ⟨v, by simpa using h1, h2⟩
theorem snd_copy (hs : Sim φ H bar base w) {ts : Array TypeId} {ty : TypeId} {args' args : Array Value} {a : Value} (hargs : VRs φ args'.toList args.toList)
  (h : aCopy P bar H ts args = some (.val a H')) : SemOk P φ H bar base w (Builtin.copy_ ts ty args') a H' := by
 unfold aCopy at h;split at h
 ·rename_i dt d s hdt hd hsv;obtain ⟨d', hd', hdr⟩ := hargs.arr_get hd;obtain ⟨s', hs', hsr⟩ := hargs.arr_get hsv;split at h
  ·rename_i elem hu;rw [Option.bind_eq_some_iff] at h; obtain ⟨size, hz, h⟩ := h;rw [Option.bind_eq_some_iff] at h; obtain ⟨dl, hdl, h⟩ := h;rw [Option.bind_eq_some_iff] at h; obtain ⟨sl, hsl, h⟩ := h;rw [Option.bind_eq_some_iff] at h; obtain ⟨cells, hc, h⟩ := h;obtain ⟨vs, hvs, hrun⟩ := firstCells_rel (P := P) hs hsr hc (fun m hm => by rw [hsl] at hm; cases hm; exact Nat.min_le_left _ _);have hl := lenOf_rel (P := P) hsr hsl w;have hfr := hrun w rfl;split at h
   ·cases hdr with
    | sliceNil =>
     injection h with h; injection h with h1 h2
     subst h1; subst h2;have : dl = 0 := by simpa [aLen] using hdl.symm
     subst this;refine SemOk.same hs (v := goInt (Nat.min sl 0)) ?_ (.int _ _);simp [Builtin.copy_, hdt, hd', hs', run_underlying hu, hl, run_sizeOf' hz];simp at hfr;simp [hfr]
   ·rename_i b o len cap;rw [Option.map_eq_some_iff] at h; obtain ⟨H₁, hw, h⟩ := h;injection h with h1 h2
    subst h1; subst h2;have hdl' : len = dl := aLen_slice hdl;subst hdl';have hso := slice_some hdr;obtain ⟨rb, x, cap', hφ, rfl, hcase⟩ := hso;rcases hcase with ⟨hle, rfl, hcc⟩ | ⟨rfl, rfl, hcc⟩
    ·obtain ⟨w', f1, f2⟩ := run_aWrite P hs hφ hvs hw;refine ⟨goInt (Nat.min sl len), w', φ, ?_, .int _ _, f2⟩;simp only [Builtin.copy_, hdt, hd', hs', Sem.run_bind, run_underlying hu, Result.andThen_ok, hl, run_sizeOf' hz, hfr, f1, Sem.run_pure]
    ·have h0 : Nat.min sl 0 = 0 := by simp
     rw [h0] at hfr hc;have hcz : cells = [] := by
      unfold aFirst at hc;split at hc
      ·simpa using hc.symm
      ·simpa using hc.symm
      ·simpa using hc.symm
      ·cases hc
     subst hcz;have hvz : vs = [] := by cases hvs; rfl
     subst hvz;have hH : H = H₁ := by simpa [aWrite] using hw
     subst hH;refine SemOk.same hs (v := goInt (Nat.min sl 0)) ?_ (.int _ _);simp only [Builtin.copy_, hdt, hd', hs', Sem.run_bind, run_underlying hu, Result.andThen_ok, hl, run_sizeOf' hz, h0, hfr, Sem.run_pure, storeCells]
   ·cases h
  ·cases h
 ·cases h
theorem run_getObjM {r : Nat} {es : Array MapEntry} {ck : Nat} (h : w.heap[r]? = some (.map es ck)) : (getObj r).run P w = .ok (.map es ck) w := by
 simp [getObj, Sem.run, h]
theorem EntR.length {es as : List MapEntry} (h : EntR φ es as) : es.length = as.length := by
 induction h with
 | nil => rfl
 | cons _ _ _ _ ih => simp [ih]
theorem snd_lenB (hs : Sim φ H bar base w) {ts : Array TypeId} {ty : TypeId} {args' args : Array Value} {a : Value} (hargs : VRs φ args'.toList args.toList)
  (h : aLenB P H ts args = some a) : ∃ v, (Builtin.len_ ts ty args').run P w = .ok v w ∧ VR φ v a := by
 unfold aLenB at h;split at h
 ·rename_i t x ht hx;obtain ⟨x', hx', hxr⟩ := hargs.arr_get hx;split at h
  ·rename_i s hu;cases h; cases hxr with
   | string => exact ⟨_, by simp [Builtin.len_, ht, hx', run_underlying hu]; rfl, .int _ _⟩
  ·rename_i n e hu;cases h;exact ⟨_, by simp [Builtin.len_, ht, hx', run_underlying hu]; rfl, .int _ _⟩
  ·rename_i e hu;cases h; cases hxr with
   | sliceNil => exact ⟨_, by simp [Builtin.len_, ht, hx', run_underlying hu]; rfl, .int _ _⟩
  ·rename_i e p n c hu;cases h; cases hxr with
   | slice => exact ⟨_, by simp [Builtin.len_, ht, hx', run_underlying hu]; rfl, .int _ _⟩
   | sliceE => exact ⟨_, by simp [Builtin.len_, ht, hx', run_underlying hu]; rfl, .int _ _⟩
  ·rename_i k e hu;cases h; cases hxr with
   | mapNil => exact ⟨_, by simp [Builtin.len_, ht, hx', run_underlying hu]; rfl, .int _ _⟩
  ·rename_i k e r hu;split at h
   ·rename_i es ck hg;cases h; cases hxr with
    | map hφ =>
     obtain ⟨es', h1, h2⟩ := hs.obj _ _ _ hφ hg;have hl := h2.length;refine ⟨goInt es.length, ?_, .int _ _⟩;simp [Builtin.len_, ht, hx', run_underlying hu, run_getObjM h1, ← hl]
   ·cases h
  ·cases h
 ·cases h
theorem snd_capB {ts : Array TypeId} {ty : TypeId} {args' args : Array Value} {a : Value} (hargs : VRs φ args'.toList args.toList)
  (h : aCapB P ts args = some a) (w : World) : ∃ v, (Builtin.cap_ ts ty args').run P w = .ok v w ∧ VR φ v a := by
 unfold aCapB at h;split at h
 ·rename_i t x ht hx;obtain ⟨x', hx', hxr⟩ := hargs.arr_get hx;split at h
  ·rename_i n e hu;cases h;exact ⟨_, by simp [Builtin.cap_, ht, hx', run_underlying hu]; rfl, .int _ _⟩
  ·rename_i e hu;cases h; cases hxr with
   | sliceNil => exact ⟨_, by simp [Builtin.cap_, ht, hx', run_underlying hu]; rfl, .int _ _⟩
  ·rename_i e p n c hu;split at h
   ·cases h
   ·rename_i hc;cases h; cases hxr with
    | slice hφ hl hcc =>
     rcases hcc with hcc | hcc
     ·rw [hcc.1];exact ⟨_, by simp [Builtin.cap_, ht, hx', run_underlying hu]; rfl, .int _ _⟩
     ·exact absurd hcc.1 hc
    | sliceE hφ ha =>
     rw [ha.resolve_right (fun h => hc h.1)];exact ⟨_, by simp [Builtin.cap_, ht, hx', run_underlying hu]; rfl, .int _ _⟩
  ·cases h
 ·cases h
theorem snd_clear (hs : Sim φ H bar base w) {ts : Array TypeId} {ty : TypeId} {args' args : Array Value} (hargs : VRs φ args'.toList args.toList)
  (h : aClear P bar H ts args = some H') : SemOk P φ H bar base w (Builtin.clear_ ts ty args') (.tuple #[]) H' := by
 unfold aClear at h;split at h
 ·rename_i t x ht hx;obtain ⟨x', hx', hxr⟩ := hargs.arr_get hx;split at h
  ·rename_i e hu;cases h; cases hxr with
   | sliceNil => exact SemOk.same hs (v := .tuple #[]) (by simp [Builtin.clear_, ht, hx', run_underlying hu]) (.tuple .nil)
  ·rename_i elem b o n c hu;split at h
   ·rename_i h0;subst h0;cases h;obtain ⟨rb, x, cap', hφ, rfl, hcase⟩ := slice_some hxr;exact SemOk.same hs (v := .tuple #[]) (by simp [Builtin.clear_, ht, hx', run_underlying hu]) (.tuple .nil)
   ·rename_i h0;rw [Option.bind_eq_some_iff] at h; obtain ⟨zv, hz, h⟩ := h;split at h
    ·rename_i hp;obtain ⟨rb, x, cap', hφ, rfl, hcase⟩ := slice_some hxr;rcases hcase with ⟨hle, rfl, hcc⟩ | ⟨rfl, rfl, hcc⟩
     ·obtain ⟨w', f1, f2⟩ := run_aWrite P hs hφ (plains_refl φ _ (zerosOf_all hp n)) h;refine ⟨.tuple #[], w', φ, ?_, .tuple .nil, f2⟩;have hzc := zeroCells_eq zv.cells n;rw [← hzc] at f1;obtain ⟨m, rfl⟩ : ∃ m, n = m + 1 := ⟨n - 1, by omega⟩;simp [Builtin.clear_, ht, hx', run_underlying hu, run_zeroValue' hz, f1]
     ·exact absurd rfl h0
    ·cases h
  ·cases h
 ·cases h
theorem snd_makeSlice (hs : Sim φ H bar base w) {t : Nat} {v1 v2 x1 x2 a : Value} (h1 : VR φ v1 x1) (h2 : VR φ v2 x2) (h : aMakeSlice P H t x1 x2 = some (.val a H')) :
  SemOk P φ H bar base w (Instr.makeSlice t v1 v2) a H' := by
 unfold aMakeSlice at h;split at h
 ·rename_i elem k1 l k2 c hu;cases h1 with
  | int =>
   cases h2 with
   | int =>
    rw [Option.bind_eq_some_iff] at h; obtain ⟨i, hi, h⟩ := h;rw [Option.bind_eq_some_iff] at h; obtain ⟨zv, hzv, h⟩ := h
    dsimp only at h
    split at h
    ·rename_i hc;obtain ⟨c1, c2, c3, c4, c5, c6⟩ := hc;rw [Option.map_eq_some_iff] at h; obtain ⟨p, hr, h⟩ := h;obtain ⟨b, H₁⟩ := p;injection h with e1 e2
     subst e1; subst e2;have hzero : i.zero = some zv := by
      unfold zeroT at hzv;rw [hi] at hzv;simpa using hzv
     obtain ⟨φ', w', q1, q2, q3⟩ := run_newRow' P hs (plains_refl φ _ (zerosOf_all c6 c.toNat)) hr;have hwl : IntKind.i64.wrap l = l := by simp [IntKind.wrap, IntKind.bits, IntKind.signed]; omega
     have hwc : IntKind.i64.wrap c = c := by simp [IntKind.wrap, IntKind.bits, IntKind.signed]; omega
     have n1 : ¬ (c < 0) := by omega
     have n2 : ¬ (281474976710656 < (i.bytes : Int) * c) := by omega
     have n3 : ¬ (l < 0) := by omega
     have n4 : ¬ (c < l) := by omega
     have c5' : zv.cells.size = i.size := by simpa using c5
     refine ⟨.slice (some ⟨w.heap.size, 0, none⟩) l.toNat c.toNat, w', φ', ?_, ?_, q2⟩
     ·by_cases h0 : c.toNat * i.size = 0
      ·have hz0 : zerosOf zv.cells.toList c.toNat = [] := by
        apply List.eq_nil_of_length_eq_zero;rw [zerosOf_length, c5, h0]
       rw [hz0] at q1;simp [Instr.makeSlice, run_underlying hu, asInt, asIntOf, typeInfo, hi, Go.sizeOf, hwl, hwc, n1, n2, n3, n4, h0];rw [show (Array.map (fun (_ : Nat) => (default : Value)) (Array.range 0)) = #[] from by simp]
       have q1' : (newRow elem #[]).run P w = .ok ⟨w.heap.size, 0, none⟩ w' := by simpa using q1
       rw [q1'];rfl
      ·have hz1 : (Array.range (c.toNat * i.size)).map (fun j => zv.cells[j % zv.cells.size]!) = (zerosOf zv.cells.toList c.toNat).toArray := by
        apply Array.toList_inj.1;have := zeroCells_eq zv.cells c.toNat;simp only [Builtin.zeroCells, c5'] at this;rw [c5', this]
       simp [Instr.makeSlice, run_underlying hu, asInt, asIntOf, typeInfo, zeroValue, hi, hzero, Go.sizeOf, hwl, hwc, n1, n2, n3, n4, h0, hz1, q1]
     ·have hv := VR.slice (φ := φ') (o := 0) (len := l.toNat) (cap := c.toNat) (acap := c.toNat) q3 (by omega) (.inl ⟨rfl, by unfold capU; omega⟩);simpa using hv
    ·cases h
 ·cases h
theorem snd_makeMap (hs : Sim φ H bar base w) {t : Nat} {v x : Option Value} {a : Value} (h1 : OptR φ v x) (h : aMakeMap P H t x = some (.val a H')) :
  SemOk P φ H bar base w (Instr.makeMap t v) a H' := by
 have core : ∀ H₁, H.alloc (.map [] 0) = some H₁ → SemOk P φ H bar base w (do pure (.map (some (← newObj (.map #[] 0))))) (.map (some H.next)) H₁ := by
  intro H₁ ha;have hst := hs.alloc (o := .map #[] 0) ha ⟨w.heap.size, 0, 0, 0, 0⟩ rfl ⟨#[], by show (w.heap.push _)[w.heap.size]? = _; simp, .nil⟩
  refine ⟨.map (some w.heap.size), _, _, ?_, ?_, hst⟩
  ·rw [Sem.run_bind];rfl
  ·have := VR.map (upd_self φ H.next ⟨w.heap.size, 0, 0, 0, 0⟩);exact this
 unfold aMakeMap at h;rw [Option.bind_eq_some_iff] at h; obtain ⟨u, hu, h⟩ := h;rw [Option.map_eq_some_iff] at h; obtain ⟨H₁, ha, h⟩ := h;injection h with e1 e2
 subst e1; subst e2;have hc := core H₁ ha;cases h1 with
 | none => exact hc
 | some hv =>
  rename_i v x;split at hu
  ·rename_i hq; cases hq
  ·rename_i k n hq;cases hq;cases hv with
   | int =>
    split at hu
    ·rename_i kk ee hm;obtain ⟨v', w', φ', e1, e2, e3⟩ := hc;refine ⟨v', w', φ', ?_, e2, e3⟩;rw [← e1];simp [Instr.makeMap, run_underlying hm, asInt, asIntOf]
    ·cases hu
  ·cases hu
end Go.Abu
namespace Go.Abu
variable {P : Program} {φ : Ren} {H H' : AH} {bar base : Nat} {w : World}
theorem pureRun_bind {α β : Type} (x : Sem α) (f : α → Sem β) : pureRun P (x >>= f) = (pureRun P x).bind fun a => pureRun P (f a) := by
 show pureRun P (x.bind f) = _
 induction x with
 | pure a => rfl
 | program k ih => exact ih P
 | mark m k ih => exact ih
 | _ => rfl
def FR (φ : Ren) : Option (Nat × Value) → Option (Nat × Value) → Prop
 | none, none => True
 | some (i, v), some (j, a) => i = j ∧ VR φ v a
 | _, _ => False
theorem findNow_rel {d : TypeDesc} {k : Value} : ∀ {es es' : List MapEntry} (i : Nat), EntR φ es' es → keysPlain es = true →
  match Instr.findNow d k es i with
  | none => Instr.findNow d k es' i = none
  | some f => ∃ f', Instr.findNow d k es' i = some f' ∧ FR φ f' f
 | _, _, i, .nil, _ => ⟨none, rfl, trivial⟩
 | _, _, i, .cons (e := e) (a := a) (es := es') (as := es) hk hv hb t, hp => by
  unfold keysPlain at hp;simp only [List.all_cons, Bool.and_eq_true] at hp;have he := plain_eq hk hp.1;have ih := findNow_rel (d := d) (k := k) (i + 1) t hp.2;simp only [Instr.findNow, he];cases hsn : Instr.sameNow d k a.key with
  | none => rfl
  | some b =>
   cases b
   ·exact ih
   ·exact ⟨_, rfl, rfl, hv⟩
theorem findAsking_rel {kt : TypeId} {k : Value} : ∀ {es es' : List MapEntry} (i : Nat) {f : Option (Nat × Value)}, EntR φ es' es → keysPlain es = true → pureRun P (Instr.findAsking kt k es i) = some f →
  ∃ f', (Instr.findAsking kt k es' i).run P w = .ok f' w ∧ FR φ f' f
 | _, _, i, f, .nil, _, h => by
  simp only [Instr.findAsking] at h;have : f = none := by
   have : pureRun P (pure none : Sem (Option (Nat × Value))) = some none := rfl;rw [this] at h;cases h; rfl
  subst this;exact ⟨none, rfl, trivial⟩
 | _, _, i, f, .cons (e := e) (a := a) (es := es') (as := es) hk hv hb t, hp, h => by
  unfold keysPlain at hp;simp only [List.all_cons, Bool.and_eq_true] at hp;have he := plain_eq hk hp.1;simp only [Instr.findAsking] at h ⊢;rw [pureRun_bind, Option.bind_eq_some_iff] at h;obtain ⟨b, hb1, hb2⟩ := h;have hr := pureRun_sound P _ _ hb1 w;rw [Sem.run_bind, he, hr];cases b
  ·exact findAsking_rel (i + 1) t hp.2 hb2
  ·have : f = some (i, a.val) := by
    have e : pureRun P (pure (some (i, a.val)) : Sem (Option (Nat × Value))) = some (some (i, a.val)) := rfl;simp only [if_true] at hb2;rw [e] at hb2;cases hb2; rfl
   subst this;exact ⟨some (i, e.val), rfl, rfl, hv⟩
theorem find_rel {kt : TypeId} {k : Value} {es es' : List MapEntry} {f : Option (Nat × Value)} (he : EntR φ es' es) (hp : keysPlain es = true) (h : aFind P kt k es = some f) :
  ∃ f', (Instr.findKey kt k es').run P w = .ok f' w ∧ FR φ f' f := by
 unfold aFind Instr.findKey at h;rw [pureRun_bind, Option.bind_eq_some_iff] at h;obtain ⟨d, hd, h⟩ := h;have hu := pureRun_sound P _ _ hd w;unfold Instr.findKey;rw [Sem.run_bind, hu];simp only [Result.andThen_ok];have hn := findNow_rel (d := d) (k := k) 0 he hp;cases hf : Instr.findNow d k es 0 with
 | none =>
  rw [hf] at hn h;simp only at hn h;rw [hn];exact findAsking_rel 0 he hp h
 | some g =>
  rw [hf] at hn h;simp only at hn h;obtain ⟨f', e1, e2⟩ := hn;rw [e1];have : g = f := by
   have e : pureRun P (pure g : Sem (Option (Nat × Value))) = some g := rfl;rw [e] at h;cases h; rfl
  subst this;exact ⟨f', rfl, e2⟩
theorem EntR.get {es es' : List MapEntry} (h : EntR φ es' es) : ∀ (i : Nat) (e : MapEntry), es[i]? = some e → ∃ e', es'[i]? = some e' ∧ VR φ e'.key e.key ∧ VR φ e'.val e.val ∧ e'.born = e.born := by
 induction h with
 | nil => intro i e h; simp at h
 | cons hk hv hb _ ih =>
  intro i e h;cases i with
  | zero => simp at h; subst h; exact ⟨_, by simp, hk, hv, hb⟩
  | succ i => simp at h; obtain ⟨e', h1, h2⟩ := ih i e h; exact ⟨e', by simpa using h1, h2⟩
theorem EntR.append {es es' fs fs' : List MapEntry} (h : EntR φ es' es) (k : EntR φ fs' fs) : EntR φ (es' ++ fs') (es ++ fs) := by
 induction h with
 | nil => exact k
 | cons hk hv hb _ ih => exact .cons hk hv hb ih
theorem EntR.eraseIdx {es es' : List MapEntry} (h : EntR φ es' es) : ∀ i, EntR φ (es'.eraseIdx i) (es.eraseIdx i) := by
 induction h with
 | nil => intro i; simpa using .nil
 | cons hk hv hb t ih =>
  intro i;cases i with
  | zero => simpa using t
  | succ i => simpa using .cons hk hv hb (ih i)
theorem EntR.modify {es es' : List MapEntry} {k v a : Value} (hk : VR φ k k) (hv : VR φ v a) (h : EntR φ es' es) : ∀ i, EntR φ (es'.modify i fun e => { e with key := k, val := v }) (es.modify i fun e => { e with key := k, val := a }) := by
 induction h with
 | nil => intro i; simpa using .nil
 | cons hk' hv' hb t ih =>
  intro i;cases i with
  | zero => simpa using .cons hk hv hb t
  | succ i => simpa using .cons hk' hv' hb (ih i)
theorem run_setObjM {r : Nat} {es : Array MapEntry} {ck : Nat} (o : Obj) (h : w.heap[r]? = some (.map es ck)) :
  (setObj r o).run P w = .ok () { w with heap := w.heap.setIfInBounds r o } := by
 simp [setObj, Sem.run, h]
theorem Only.setObj (w : World) (r : Nat) (o : Obj) : Only r w { w with heap := w.heap.setIfInBounds r o } :=
 ⟨rfl, rfl, rfl, by simp, fun k hk => by simp only [Array.getElem?_setIfInBounds]; rw [if_neg (by omega)]⟩
theorem map_set (hs : Sim φ H bar base w) {r : Nat} {rb : RB} (hφ : φ r = some rb) (hb : bar ≤ r) {es : List MapEntry} {ck : Nat} (hg : H.get r = some (.map es ck))
  {es' : Array MapEntry} (_h1 : w.heap[rb.c]? = some (.map es' ck)) {fs : List MapEntry} {fs' : Array MapEntry} {ck' : Nat} (hf : EntR φ fs'.toList fs) :
  Step φ H bar base w φ (H.put r (.map fs ck')) { w with heap := w.heap.setIfInBounds rb.c (.map fs' ck') } := by
 refine hs.update hφ hb ⟨_, hg, by simp⟩ (Only.setObj w rb.c _) ⟨fs', ?_, hf⟩;have hlt : rb.c < w.heap.size := hs.cur _ _ hφ;show (w.heap.setIfInBounds rb.c _)[rb.c]? = _
 rw [Array.getElem?_setIfInBounds_self_of_lt hlt]
theorem snd_mapUpdate (hs : Sim φ H bar base w) {t : Nat} {m k v m' k' v' : Value} (hm : VR φ m' m) (hk : VR φ k' k) (hv : VR φ v' v) (h : aMapUpdate P bar H t m k v = some H') :
  ∃ w', (Instr.mapUpdate t m' k' v').run P w = .ok () w' ∧ Step φ H bar base w φ H' w' := by
 unfold aMapUpdate at h;split at h
 ·rename_i kt et r hu;cases hm with
  | map hφ =>
   rename_i rb;split at h
   ·rename_i hc;simp only [Bool.and_eq_true, decide_eq_true_eq] at hc;have hkk := plain_eq hk hc.1;subst hkk;split at h
    ·rename_i es ck hg;split at h
     ·rename_i hp;rw [Option.bind_eq_some_iff] at h; obtain ⟨u, hck, h⟩ := h;rw [Option.bind_eq_some_iff] at h; obtain ⟨f, hf, h⟩ := h;obtain ⟨es', g1, g2⟩ := hs.obj _ _ _ hφ hg;have hckr := pureRun_sound P _ _ hck w;obtain ⟨f', hfr, hFR⟩ := find_rel (P := P) (w := w) g2 hp hf;split at h
      ·rename_i i a;split at h
       ·rename_i e he;split at h
        ·rename_i hsb;cases h;cases f' with
         | none => exact hFR.elim
         | some q =>
          obtain ⟨j, v''⟩ := q;obtain ⟨rfl, _⟩ := hFR;obtain ⟨e', he', hke, _, _⟩ := g2.get j e he;have hpk : plain e.key = true := by
           unfold keysPlain at hp;exact (List.all_eq_true.1 hp) e (List.mem_of_getElem? he)
          have hkey := plain_eq hke hpk;have he'' : es'[j]? = some e' := by simpa using he'
          refine ⟨_, ?_, map_set hs hφ hc.2 hg g1 (fs' := es'.modify j fun e => { e with key := k', val := v' }) (by simpa using g2.modify hk hv j)⟩
          simp only [Instr.mapUpdate, Sem.run_bind, run_underlying hu, Result.andThen_ok, run_getObjM g1, hckr, hfr, he'', Option.map_some, Option.getD_some, hkey, Instr.keyThatStays, hsb, if_true, Sem.run_pure, run_setObjM _ g1]
        ·cases h
       ·cases h
      ·cases h;cases f' with
       | some q => exact hFR.elim
       | none =>
        refine ⟨_, ?_, map_set hs hφ hc.2 hg g1 (fs' := es'.push { key := k', val := v', born := ck }) (by simpa using g2.append (EntR.cons (e := { key := k', val := v', born := ck }) (a := { key := k', val := v, born := ck }) hk hv rfl .nil))⟩
        simp only [Instr.mapUpdate, Sem.run_bind, run_underlying hu, Result.andThen_ok, run_getObjM g1, hckr, hfr, run_setObjM _ g1]
     ·cases h
    ·cases h
   ·cases h
 ·cases h
theorem EntR.isEmpty {es' : Array MapEntry} {es : List MapEntry} (h : EntR φ es'.toList es) : es'.isEmpty = es.isEmpty := by
 have := h.length;cases es with
 | nil => simp at this; simp [this]
 | cons e es =>
  simp at this;have : es'.size ≠ 0 := by omega
  simp [Array.isEmpty, this]
theorem snd_delete (hs : Sim φ H bar base w) {ts : Array TypeId} {ty : TypeId} {args' args : Array Value} (hargs : VRs φ args'.toList args.toList)
  (h : aDelete P bar H ts args = some H') : SemOk P φ H bar base w (Builtin.delete_ ts ty args') (.tuple #[]) H' := by
 unfold aDelete at h;split at h
 ·rename_i t m k ht hm hk;obtain ⟨m', hm', hmr⟩ := hargs.arr_get hm;obtain ⟨k', hk', hkr⟩ := hargs.arr_get hk;split at h
  ·rename_i kt et r hu;cases hmr with
   | map hφ =>
    rename_i rb;split at h
    ·rename_i hc;simp only [Bool.and_eq_true, decide_eq_true_eq] at hc;have hkk := plain_eq hkr hc.1;subst hkk;split at h
     ·rename_i es ck hg;split at h
      ·rename_i hp;rw [Option.bind_eq_some_iff] at h; obtain ⟨u, hck, h⟩ := h;rw [Option.map_eq_some_iff] at h; obtain ⟨f, hf, h⟩ := h;obtain ⟨es', g1, g2⟩ := hs.obj _ _ _ hφ hg;rw [← g2.isEmpty] at hck;have hckr := pureRun_sound P _ _ hck w;obtain ⟨f', hfr, hFR⟩ := find_rel (P := P) (w := w) g2 hp hf;split at h
       ·rename_i i a;subst h;cases f' with
        | none => exact hFR.elim
        | some q =>
         obtain ⟨j, v''⟩ := q;obtain ⟨rfl, _⟩ := hFR;refine ⟨.tuple #[], _, _, ?_, .tuple .nil, map_set hs hφ hc.2 hg g1 (fs' := es'.eraseIdxIfInBounds j) (ck' := ck) ?_⟩
         ·simp only [Builtin.delete_, ht, hm', hk', Sem.run_bind, run_underlying hu, Result.andThen_ok, run_getObjM g1, hckr, hfr, run_setObjM _ g1, Sem.run_pure]
         ·have : (es'.eraseIdxIfInBounds j).toList = es'.toList.eraseIdx j := by simp
          rw [this];exact g2.eraseIdx j
       ·subst h;cases f' with
        | some q => exact hFR.elim
        | none =>
         refine ⟨.tuple #[], _, _, ?_, .tuple .nil, map_set hs hφ hc.2 hg g1 (fs' := es') (ck' := ck) g2⟩;simp only [Builtin.delete_, ht, hm', hk', Sem.run_bind, run_underlying hu, Result.andThen_ok, run_getObjM g1, hckr, hfr, run_setObjM _ g1, Sem.run_pure]
      ·cases h
     ·cases h
    ·cases h
  ·cases h
 ·cases h
theorem snd_lookup (hs : Sim φ H bar base w) {t : Nat} {m k m' k' a : Value} {ok : Bool} (hm : VR φ m' m) (hk : VR φ k' k) (h : aLookup P H t m k ok = some a) :
  ∃ v, (Instr.lookup t m' k' ok).run P w = .ok v w ∧ VR φ v a := by
 unfold aLookup at h;split at h
 ·rename_i kt et hu;rw [Option.bind_eq_some_iff] at h; obtain ⟨z, hz, h⟩ := h;split at h
  ·rename_i hc;simp only [Bool.and_eq_true] at hc;have hkk := plain_eq hk hc.1;subst hkk;rw [Option.bind_eq_some_iff] at h; obtain ⟨es, hes, h⟩ := h;rw [Option.bind_eq_some_iff] at h; obtain ⟨u, hck, h⟩ := h;split at h
   ·rename_i hp;rw [Option.map_eq_some_iff] at h; obtain ⟨f, hf, h⟩ := h;have fin : ∀ es' : Array MapEntry, EntR φ es'.toList es → (∀ f', (Instr.findKey kt k' es'.toList).run P w = .ok f' w → (Instr.checkKey es'.isEmpty 10000 kt k').run P w = .ok () w →
      (Instr.lookup t m' k' ok).run P w = (match f' with
       | some p => .ok (if ok then .tuple #[p.2, .bool true] else p.2) w
       | none => .ok (if ok then .tuple #[z, .bool false] else z) w)) → ∃ v, (Instr.lookup t m' k' ok).run P w = .ok v w ∧ VR φ v a := by
     intro es' g2 hl;rw [← g2.isEmpty] at hck;have hckr := pureRun_sound P _ _ hck w;obtain ⟨f', hfr, hFR⟩ := find_rel (P := P) (w := w) g2 hp hf;have e := hl f' hfr hckr;cases f' with
     | none =>
      cases f with
      | some q => exact hFR.elim
      | none =>
       refine ⟨_, e, ?_⟩;subst h;cases ok
       ·exact plain_refl φ _ hc.2
       ·exact .tuple (.cons (plain_refl φ _ hc.2) (.cons (.bool _) .nil))
     | some q' =>
      cases f with
      | none => exact hFR.elim
      | some q =>
       obtain ⟨j, v'⟩ := q';obtain ⟨j2, v⟩ := q;obtain ⟨rfl, hv⟩ := hFR;refine ⟨_, e, ?_⟩;subst h;cases ok
       ·exact hv
       ·exact .tuple (.cons hv (.cons (.bool _) .nil))
    cases hm with
    | mapNil =>
     cases hes;refine fin #[] .nil fun f' hfr hckr => ?_;have hfr : (Instr.findKey kt k' []).run P w = .ok f' w := hfr;have hckr : (Instr.checkKey true 10000 kt k').run P w = .ok () w := hckr;unfold Instr.lookup;cases f' with
     | none => cases ok <;> simp [run_underlying hu, hckr, hfr, run_zeroValue' hz]
     | some q => cases ok <;> simp [run_underlying hu, hckr, hfr]
    | map hφ =>
     simp only at hes;split at hes
     ·rename_i es2 ck hg;cases hes;obtain ⟨es', g1, g2⟩ := hs.obj _ _ _ hφ hg;refine fin es' g2 fun f' hfr hckr => ?_;unfold Instr.lookup;cases f' with
      | none => cases ok <;> simp [run_underlying hu, hckr, hfr, run_zeroValue' hz, run_getObjM g1]
      | some q => cases ok <;> simp [run_underlying hu, hckr, hfr, run_getObjM g1]
     ·cases hes
    | _ => cases hes
   ·cases h
  ·cases h
 ·cases h
end Go.Abu
namespace Go.Abu
variable {P : Program} {φ : Ren} {H H' : AH} {bar base : Nat} {w : World}
theorem bytesOf_ints : ∀ {l : List Value} {bs : List UInt8}, bytesOf l = some bs → ∃ ns : List Int, l = ns.map (Value.int .u8) ∧ bs = ns.map fun n => UInt8.ofNat n.toNat
 | [], bs, h => by cases h; exact ⟨[], rfl, rfl⟩
 | v :: l, bs, h => by
  unfold bytesOf at h;split at h
  ·rename_i hq; cases hq
  ·rename_i n r hq;cases hq;rw [Option.map_eq_some_iff] at h; obtain ⟨b, hb, h⟩ := h;obtain ⟨ns, h1, h2⟩ := bytesOf_ints hb;exact ⟨n :: ns, by simp [h1], by simp [← h, h2]⟩
  ·cases h
theorem foldl_push : ∀ (ns : List Int) (s : ByteArray), (ns.foldl (fun r n => r.push (UInt8.ofNat n.toNat)) s) = ⟨s.data ++ (ns.map fun n => UInt8.ofNat n.toNat).toArray⟩
 | [], s => by simp
 | n :: ns, s => by
  simp only [List.foldl_cons, foldl_push ns, List.map_cons]
  congr 1
  show (s.data.push _) ++ _ = _
  apply Array.ext';simp
theorem new_row' {φ : Ren} {H H' : AH} {bar base : Nat} {w : World} (hs : Sim φ H bar base w) {as : List Value} {t : TypeId} {z : Nat} (ha : H.alloc (.row as t z) = some H') {arr : Array Value} {fz : Nat × Nat}
  (hfz : Unfrozen arr.size fz) (hsz : as.length ≤ arr.size) (hv : ∀ (i : Nat) (a : Value), as[i]? = some a → ∃ v, arr[i]? = some v ∧ VR φ v a) :
  Step φ H bar base w (upd φ H.next ⟨w.heap.size, 0, arr.size, z, as.length⟩) H' (w.alloc (.cells arr t fz)) := by
 refine hs.alloc ha _ rfl ⟨arr, fz, ?_, rfl, ⟨rfl, rfl⟩, by simpa using hsz, fun i a hi => ?_, fun _ => hfz⟩
 ·show (w.heap.push _)[w.heap.size]? = _
  simp
 ·obtain ⟨v, h1, h2⟩ := hv i a hi;exact ⟨v, by simpa using h1, h2.mono (upd_le hs _)⟩
theorem freeze_alloc (w : World) (arr : Array Value) (t : TypeId) : (w.alloc (.cells arr t)).freeze ⟨w.heap.size, arr.size, none⟩ 1 = w.alloc (.cells arr t (arr.size, arr.size + 1)) := by
 unfold World.freeze;rw [if_neg (by omega)];show ({ w with heap := _ } : World) = { w with heap := _ }
 congr 1
 apply Array.ext';show ((w.heap.push _).modify w.heap.size _).toList = (w.heap.push _).toList
 apply List.ext_getElem?;intro i;simp only [Array.getElem?_toList, Array.getElem?_modify, Array.getElem?_push];by_cases hi : w.heap.size = i
 ·subst hi; simp
 ·rw [if_neg hi];rw [if_neg (fun e => hi e.symm), if_neg (fun e => hi e.symm)]
theorem run_markS (u : World) (arr : Array Value) (e : TypeId) : (markStringish ⟨u.heap.size, 0, none⟩).run P (u.alloc (.cells arr e)) = .ok () ((u.alloc (.cells arr e)).freeze ⟨u.heap.size, arr.size, none⟩ 1) := by
 have hg : (u.alloc (.cells arr e)).heap[u.heap.size]? = some (.cells arr e) := by
  show (u.heap.push _)[u.heap.size]? = _
  simp
 have hsh : (u.alloc (.cells arr e)).shape? u.heap.size = some (e, arr.size) := by
  unfold World.shape?;rw [hg]
 simp only [markStringish, Sem.run_bind, run_shape, hsh, Result.andThen_ok, run_freeze]
def strRow (s : ByteArray) (cap : Nat) : Array Value := s.data.map (fun (b : UInt8) => Value.int .u8 b.toNat) ++ Array.replicate (cap - s.size) (Value.int .u8 0)
theorem run_stringToBytes (e : TypeId) (s : ByteArray) : ∃ cap : Nat, s.size ≤ cap ∧ (Conv.stringToBytes e s).run P w = .ok (.slice (some ⟨w.heap.size, 0, none⟩) s.size cap)
  (w.drew.alloc (.cells (strRow s cap) e ((strRow s cap).size, (strRow s cap).size + 1))) := by
 refine ⟨grownCap w s.size 0 e, grownCap_ge _ _ _ _, ?_⟩;rw [← freeze_alloc];unfold Conv.stringToBytes;have h1 : (choose (.appendCap s.size 0 e)).run P w = .ok (grownCap w s.size 0 e) w.drew := by
  simp [Question.forced, grownCap]
 rw [Sem.run_bind, h1];simp only [Result.andThen_ok, Sem.run_bind, run_newRow];have h2 := fun arr => run_markS (P := P) w.drew arr e;unfold strRow;rw [h2];rfl
theorem snd_convert (hs : Sim φ H bar base w) {s d : Nat} {v x a : Value} (hv : VR φ v x) (h : aConvert P H s d x = some (.val a H')) :
  SemOk P φ H bar base w (convert s d v) a H' := by
 unfold aConvert at h;split at h
 ·rename_i ds k k' n hsrc hdst;injection h with h; injection h with h1 h2
  subst h1; subst h2;cases hv with
  | int => exact SemOk.same hs (by simp [convert, run_underlying hsrc, run_underlying hdst, Conv.intToInt]) (.int _ _)
 ·rename_i e st hsrc hdst;split at h
  ·rename_i he;rw [Option.map_eq_some_iff] at h; obtain ⟨p, hr, h⟩ := h;obtain ⟨b, H₁⟩ := p;injection h with h1 h2
   subst h1; subst h2;obtain ⟨rfl, hal⟩ := aNewRow_eq hr;cases hv with
   | string =>
    obtain ⟨cap, hcap, hrun⟩ := run_stringToBytes (P := P) (w := w) e st;generalize harr : strRow st cap = arr at hrun;unfold strRow at harr;have hssz : st.data.size = st.size := rfl;have hsize : arr.size = cap := by
     rw [← harr];simp only [Array.size_append, Array.size_map, Array.size_replicate, hssz];omega
    have hst := new_row' hs.drew hal (arr := arr) (fz := (arr.size, arr.size + 1)) (fun i h1 h2 => by simp at h2; omega) (by simp [hssz]; omega) (fun i a hi => by
     have hlt : i < st.size := by have := (List.getElem?_eq_some_iff.1 hi).1; simpa using this
     refine ⟨a, ?_, ?_⟩
     ·rw [← harr, Array.getElem?_append_left (by simpa [hssz] using hlt)]
      simpa using hi
     ·simp only [List.getElem?_map, Option.map_eq_some_iff] at hi;obtain ⟨b, _, rfl⟩ := hi;exact .int _ _)
    refine ⟨.slice (some ⟨w.heap.size, 0, none⟩) st.size cap, _, _, ?_, ?_, (Step.drew hs).trans hst⟩
    ·rw [← hrun];simp [convert, run_underlying hsrc, run_underlying hdst, run_underlying he]
    ·have hφ := upd_self φ H.next ⟨w.drew.heap.size, 0, arr.size, 1, (st.data.toList.map fun b => Value.int .u8 b.toNat).length⟩;have := VR.slice (φ := upd φ H.next _) (o := 0) (len := st.size) (cap := cap) (acap := capU) hφ hcap (.inr ⟨rfl, by simp only [hsize]; omega, by simp [hssz]; omega⟩);simpa using this
  ·cases h
 ·rename_i e hsrc hdst;split at h
  ·rename_i he;injection h with h; injection h with h1 h2
   subst h1; subst h2;cases hv with
   | sliceNil => exact SemOk.same hs (v := .string .empty) (by rw [run_convert_bytes_string w s d e _ _ _ hsrc he hdst]; rfl) (.string _)
  ·cases h
 ·rename_i e b o len cap hsrc hdst;split at h
  ·rename_i he;rw [Option.map_eq_some_iff] at h; obtain ⟨l, hl, h⟩ := h;injection h with h1 h2
   subst h1; subst h2;rw [Option.bind_eq_some_iff] at hl; obtain ⟨vs, hvs, hl⟩ := hl;obtain ⟨ns, e1, e2⟩ := bytesOf_ints hl;have hload : ∃ (r : RB) (x cap' : Nat), v = .slice (some ⟨r.c, x, none⟩) len cap' ∧ (loadCells ⟨r.c, x, none⟩ len).run P w = .ok (ns.map (Value.int .u8)).toArray w := by
    obtain ⟨rb, x, cap', hφ, rfl, hcase⟩ := slice_some hv;refine ⟨rb, x, cap', rfl, ?_⟩;by_cases h0 : len = 0
    ·rw [if_pos h0] at hvs;cases hvs;have : ns = [] := by simpa using e1.symm
     subst this;simp [h0, loadCells, loadCellsFrom]
    ·rw [if_neg h0] at hvs;rcases hcase with ⟨_, rfl, _⟩ | ⟨hz, _⟩
     ·unfold rowCells at hvs;split at hvs
      ·rename_i c t z hg;obtain ⟨us, f1, f2⟩ := load_row P hs hφ hg hvs;have hus : us = vs := by
        refine plains_eq f1 ?_;rw [e1, List.all_eq_true];intro q hq;simp only [List.mem_map] at hq;obtain ⟨n, _, rfl⟩ := hq;rfl
       rw [f2, hus, e1]
      ·cases hvs
     ·exact absurd hz h0
   obtain ⟨r, x, cap', rfl, hload⟩ := hload;have hr := run_bytesToString w ⟨r.c, x, none⟩ len cap' ns hload;refine SemOk.same hs (v := .string ⟨l.toArray⟩) ?_ (.string _);rw [run_convert_bytes_string w s d e _ _ _ hsrc he hdst, hr, foldl_push, e2]
   congr 2
   simp
  ·cases h
 ·rename_i st hsrc hdst;injection h with h; injection h with h1 h2
  subst h1; subst h2;cases hv with
  | string => exact SemOk.same hs (by simp [convert, run_underlying hsrc, run_underlying hdst]) (.string _)
 ·cases h
theorem snd_pure1 {s : Value → Sem Value} {v x a : Value} (hv : VR φ v x) (hp : plain1 x = true) (h : (pureRun P (s x)).bind (fun r => if plain1 r then some r else none) = some a) (w : World) :
  ∃ u, (s v).run P w = .ok u w ∧ VR φ u a := by
 have := plain1_eq hv hp;subst this;rw [Option.bind_eq_some_iff] at h;obtain ⟨r, h1, h2⟩ := h;split at h2
 ·rename_i hpr;cases h2;exact ⟨a, pureRun_sound P _ _ h1 w, plain1_refl φ _ hpr⟩
 ·cases h2
theorem snd_pures {s : Array Value → Sem Value} {vs xs : Array Value} {a : Value} (hv : VRs φ vs.toList xs.toList) (hp : xs.toList.all plain1 = true) (h : (pureRun P (s xs)).bind (fun r => if plain1 r then some r else none) = some a) (w : World) :
  ∃ u, (s vs).run P w = .ok u w ∧ VR φ u a := by
 have := plains_eq hv hp;have : vs = xs := Array.toList_inj.1 this;subst this;rw [Option.bind_eq_some_iff] at h;obtain ⟨r, h1, h2⟩ := h;split at h2
 ·rename_i hpr;cases h2;exact ⟨a, pureRun_sound P _ _ h1 w, plain1_refl φ _ hpr⟩
 ·cases h2
end Go.Abu
namespace Go.Abu
variable {P : Program} {φ : Ren} {H H' : AH} {bar base : Nat} {w : World}
def EnvR (φ : Ren) (ρc : Operand → Value) (ρ : Env) : Prop := ∀ x a, ρ x = some a → VR φ (ρc x) a
def OpOk (_P : Program) (φ : Ren) (H : AH) (bar base : Nat) (w : World) (r : Result Next) : ARes → Prop
 | .val a H' => ∃ v w' φ', (r = .ok (.value v) w' ∨ (r = .ok .skip w' ∧ v = undef)) ∧ VR φ' v a ∧ Step φ H bar base w φ' H' w'
 | .call f args H' => H' = H ∧ ∃ args' w', r = .ok (.enter f args') w' ∧ w' = w ∧ VRs φ args'.toList args.toList
theorem mapEnv_rel {ρc : Operand → Value} {ρ : Env} (hρ : EnvR φ ρc ρ) : ∀ {xs : List Operand} {l : List Value}, mapEnv ρ xs = some l → VRs φ (xs.map ρc) l
 | [], l, h => by cases h; exact .nil
 | x :: xs, l, h => by
  unfold mapEnv at h;split at h
  ·rename_i v hv;rw [Option.map_eq_some_iff] at h; obtain ⟨l', hl, h⟩ := h;subst h;exact .cons (hρ x v hv) (mapEnv_rel hρ hl)
  ·cases h
theorem pairEnv_rel {ρc : Operand → Value} {ρ : Env} (hρ : EnvR φ ρc ρ) : ∀ {xs : List (Nat × Operand)} {l : List (Nat × Value)}, pairEnv ρ xs = some l → PairsR φ (xs.map fun p => (p.1, ρc p.2)) l
 | [], l, h => by cases h; exact .nil
 | (i, x) :: xs, l, h => by
  unfold pairEnv at h;split at h
  ·rename_i v hv;rw [Option.map_eq_some_iff] at h; obtain ⟨l', hl, h⟩ := h;subst h;exact .cons (hρ x v hv) (pairEnv_rel hρ hl)
  ·cases h
theorem optEnv_rel {ρc : Operand → Value} {ρ : Env} (hρ : EnvR φ ρc ρ) {x : Option Operand} {r : Option Value} (h : optEnv ρ x = some r) : OptR φ (x.map ρc) r := by
 cases x with
 | none => cases h; exact .none
 | some x =>
  unfold optEnv at h;rw [Option.map_eq_some_iff] at h; obtain ⟨v, hv, h⟩ := h;subst h;exact .some (hρ x v hv)
theorem opOk_val (hs : Sim φ H bar base w) {s : Sem Next} {x : Option Value} {r : ARes} (h : val H x = some r) (hx : ∀ a, x = some a → ∃ v, s.run P w = .ok (.value v) w ∧ VR φ v a) : OpOk P φ H bar base w (s.run P w) r := by
 unfold val at h;rw [Option.map_eq_some_iff] at h; obtain ⟨a, ha, h⟩ := h;subst h;obtain ⟨v, h1, h2⟩ := hx a ha;exact ⟨v, w, φ, .inl h1, h2, Step.refl hs⟩
theorem opOk_v {s : Sem Value} {a : Value} {H' : AH} (h : SemOk P φ H bar base w s a H') : OpOk P φ H bar base w ((do pure (.value (← s)) : Sem Next).run P w) (.val a H') := by
 obtain ⟨v, w', φ', h1, h2, h3⟩ := h;exact ⟨v, w', φ', .inl (by simp [h1]), h2, h3⟩
theorem opOk_u (_hs : Sim φ H bar base w) {s : Sem Unit} (h : ∃ w', s.run P w = .ok () w' ∧ Step φ H bar base w φ H' w') : OpOk P φ H bar base w ((do s; pure .skip : Sem Next).run P w) (.val undef H') := by
 obtain ⟨w', h1, h2⟩ := h;exact ⟨undef, w', φ, .inr ⟨by simp [h1], rfl⟩, .tuple .nil, h2⟩
theorem opOk_same (hs : Sim φ H bar base w) {s : Sem Value} {x : Option Value} {r : ARes} (h : val H x = some r) (hx : ∀ a, x = some a → ∃ v, s.run P w = .ok v w ∧ VR φ v a) : OpOk P φ H bar base w ((do pure (.value (← s)) : Sem Next).run P w) r :=
 opOk_val hs h fun a ha => let ⟨v, h1, h2⟩ := hx a ha; ⟨v, by simp [h1], h2⟩
theorem res_is_val {f : Option ARes} {r : ARes} (h : f = some r) (hv : ∀ g args H'', f ≠ some (.call g args H'')) : ∃ a H', r = .val a H' := by
 cases r with
 | val a H' => exact ⟨a, H', rfl⟩
 | call g args H'' => exact absurd h (hv g args H'')
theorem aGrow_val {H : AH} {e s b l n : Nat} {o nw : List Value} {g : FuncId} {args : Array Value} {H'' : AH} : aGrow H e s b l n o nw ≠ some (.call g args H'') := by
 intro h;unfold aGrow at h;split at h
 ·rw [Option.map_eq_some_iff] at h; obtain ⟨_, _, h⟩ := h; cases h
 ·cases h
theorem aAppend_val {ts : Array TypeId} {as : Array Value} {g : FuncId} {args : Array Value} {H'' : AH} : aAppend P bar H ts as ≠ some (.call g args H'') := by
 intro h;unfold aAppend at h;split at h
 ·split at h
  ·simp only [Option.bind_eq_some_iff] at h;obtain ⟨_, _, _, _, _, _, h⟩ := h;split at h
   ·cases h
   ·rw [Option.bind_eq_some_iff] at h;obtain ⟨_, _, h⟩ := h;unfold aAppS at h;split at h
    ·split at h
     ·cases h
     ·exact aGrow_val h
    ·split at h
     ·cases h
     ·split at h
      ·unfold aAppV at h;split at h
       ·split at h
        ·rw [Option.map_eq_some_iff] at h; obtain ⟨_, _, h⟩ := h; cases h
        ·unfold aAppU at h;split at h
         ·split at h
          ·split at h
           ·simp only [Option.bind_eq_some_iff, Option.map_eq_some_iff] at h;obtain ⟨_, _, _, _, h⟩ := h; cases h
           ·cases h
          ·cases h
         ·cases h
       ·cases h
      ·unfold aAppX at h;split at h
       ·rw [Option.map_eq_some_iff] at h; obtain ⟨_, _, h⟩ := h; cases h
       ·rw [Option.bind_eq_some_iff] at h; obtain ⟨_, _, h⟩ := h;exact aGrow_val h
    ·cases h
  ·cases h
 ·cases h
theorem aCopy_val {ts : Array TypeId} {as : Array Value} {g : FuncId} {args : Array Value} {H'' : AH} : aCopy P bar H ts as ≠ some (.call g args H'') := by
 intro h;unfold aCopy at h;split at h
 ·split at h
  ·simp only [Option.bind_eq_some_iff] at h;obtain ⟨_, _, _, _, _, _, _, _, h⟩ := h;split at h
   ·cases h
   ·rw [Option.map_eq_some_iff] at h; obtain ⟨_, _, h⟩ := h; cases h
   ·cases h
  ·cases h
 ·cases h
theorem aConvert_val {s d : Nat} {x : Value} {g : FuncId} {args : Array Value} {H'' : AH} : aConvert P H s d x ≠ some (.call g args H'') := by
 intro h;unfold aConvert at h;split at h
 ·cases h
 ·split at h
  ·rw [Option.map_eq_some_iff] at h; obtain ⟨_, _, h⟩ := h; cases h
  ·cases h
 ·split at h <;> cases h
 ·split at h
  ·rw [Option.map_eq_some_iff] at h; obtain ⟨_, _, h⟩ := h; cases h
  ·cases h
 ·cases h
 ·cases h
theorem snd_builtin (hs : Sim φ H bar base w) {b : Builtin} {ts : Array TypeId} {ty : TypeId} {cs : Array Bool} {args' args : Array Value} {r : ARes} (hargs : VRs φ args'.toList args.toList)
  (h : aBuiltin P bar H b ts args = some r) : OpOk P φ H bar base w ((builtin b ts ty cs args').run P w) r := by
 unfold aBuiltin at h;split at h
 ·obtain ⟨a, H', rfl⟩ := res_is_val h fun _ _ _ => aAppend_val;exact opOk_v (snd_append hs hargs h)
 ·obtain ⟨a, H', rfl⟩ := res_is_val h fun _ _ _ => aCopy_val;exact opOk_v (snd_copy hs hargs h)
 ·exact opOk_same hs h fun a ha => snd_lenB hs hargs ha
 ·exact opOk_same hs h fun a ha => snd_capB hargs ha w
 ·rw [Option.map_eq_some_iff] at h; obtain ⟨H₁, hc, h⟩ := h;subst h;exact opOk_v (snd_clear hs hargs hc)
 ·rw [Option.map_eq_some_iff] at h; obtain ⟨H₁, hc, h⟩ := h;subst h;exact opOk_v (snd_delete hs hargs hc)
 ·split at h
  ·rename_i hp;exact opOk_same hs h fun a ha => snd_pures (s := fun xs => Builtin.max_ ts ty xs) hargs hp ha w
  ·cases h
 ·split at h
  ·rename_i hp;exact opOk_same hs h fun a ha => snd_pures (s := fun xs => Builtin.min_ ts ty xs) hargs hp ha w
  ·cases h
 ·cases h
theorem plainT_refl (φ : Ren) (v : Value) (h : plainT v = true) : VR φ v v := by
 cases v with
 | tuple vs => exact .tuple (plains_refl φ _ h)
 | _ => exact plain1_refl φ _ h
theorem snd_callFunc (hs : Sim φ H bar base w) {g : FuncId} {as' : Array Value} {as : List Value} {r : ARes} (hv : VRs φ as'.toList as) (h : aCallFunc P H g as = some r) : OpOk P φ H bar base w ((callFunc g as').run P w) r := by
 unfold aCallFunc at h;split at h
 ·rename_i fn hfn;split at h
  ·split at h
   ·rename_i hp;have he : as' = as.toArray := arr_of_list (plains_eq hv hp);subst he;rw [Option.bind_eq_some_iff] at h; obtain ⟨nx, hnx, h⟩ := h;have hrun := pureRun_sound P _ _ hnx w;split at h
    ·rename_i v;split at h
     ·rename_i hpt;cases h;exact ⟨v, w, φ, .inl hrun, plainT_refl φ v hpt, Step.refl hs⟩
     ·cases h
    ·cases h
   ·cases h
  ·rename_i hb;split at h
   ·cases h
   ·rename_i hname;cases h;refine ⟨rfl, as', w, ?_, rfl, by simpa using hv⟩
    have hb1 : ¬ fn.name = "runtime.NumGoroutine" := by simpa using hname
    have hb2 : ¬ fn.body = none := by intro e; rw [e] at hb; simp at hb
    simp [callFunc, hfn, hb1, hb2]
 ·cases h
theorem snd_call (hs : Sim φ H bar base w) {ρc : Operand → Value} {ρ : Env} (hρ : EnvR φ ρc ρ) {c : Call} {ty : TypeId} {r : ARes} (h : aCall P bar ρ H c = some r) :
  OpOk P φ H bar base w ((do let d ← resolve ρc c ty; invoke d.target d.args : Sem Next).run P w) r := by
 unfold aCall at h;rw [Option.bind_eq_some_iff] at h; obtain ⟨args, hargs, h⟩ := h;have hr := mapEnv_rel hρ hargs;have hr' : VRs φ (c.args.map ρc).toList args.toArray.toList := by simpa using hr
 split at h
 ·rename_i b hc;have e : (do let d ← resolve ρc c ty; invoke d.target d.args : Sem Next) = builtin b c.argTypes ty (c.args.map fun | .const _ => true | _ => false) (c.args.map ρc) := by
   unfold resolve;rw [hc];rfl
  rw [e];exact snd_builtin hs hr' h
 ·rename_i f hc;split at h
  ·rename_i g first captured hf
   have hfv := hρ f _ hf;generalize hval : ρc f = vf at hfv;cases hfv with
   | func h1 h2 =>
    rename_i f1 c1;have e : (do let d ← resolve ρc c ty; invoke d.target d.args : Sem Next) = callFunc g (f1 ++ c.args.map ρc ++ c1) := by
     unfold resolve;rw [hc];simp only [hval];rfl
    have hall : VRs φ (f1 ++ c.args.map ρc ++ c1).toList (first.toList ++ args ++ captured.toList) := by simpa using (h1.append hr).append h2
    rw [e];exact snd_callFunc hs hall h
  ·cases h
 ·cases h
theorem aop_sound (hs : Sim φ H bar base w) {ρc : Operand → Value} {ρ : Env} (hρ : EnvR φ ρc ρ) {o : Oper} {r : ARes} (h : aop P bar ρ H o.op = some r) :
  OpOk P φ H bar base w ((execOp ρc o).run P w) r := by
 obtain ⟨dst, op, ty, pos, after, guard⟩ := o
 dsimp only at h
 cases op with
 | move x =>
  exact opOk_val hs h fun a ha => ⟨ρc x, rfl, hρ x a ha⟩
 | assign x =>
  exact opOk_val hs h fun a ha => ⟨ρc x, rfl, hρ x a ha⟩
 | pick c a b =>
  refine opOk_val hs h fun u hu => ?_;unfold aPick at hu;split at hu
  ·rename_i t ht;have hc := hρ c _ ht;generalize hval : ρc c = vc at hc;cases hc with
   | bool =>
    cases t
    ·exact ⟨ρc b, by simp [execOp, hval, asBool], hρ b u hu⟩
    ·exact ⟨ρc a, by simp [execOp, hval, asBool], hρ a u hu⟩
  ·cases hu
 | alloc t =>
  have h' : aAlloc P H t = some r := h;obtain ⟨a, H', rfl⟩ := res_is_val h' fun _ _ _ hc => by
   unfold aAlloc at hc;simp only [Option.bind_eq_some_iff] at hc;obtain ⟨_, _, _, _, _, _, hc⟩ := hc;split at hc <;> cases hc
  exact opOk_v (snd_alloc hs h')
 | box t x =>
  have h' : ((ρ x).bind fun v => aBox P H t v) = some r := h;rw [Option.bind_eq_some_iff] at h'; obtain ⟨v, hv, h'⟩ := h';obtain ⟨a, H', rfl⟩ := res_is_val h' fun _ _ _ hc => by
   unfold aBox at hc;simp only [Option.bind_eq_some_iff, Option.map_eq_some_iff] at hc;obtain ⟨_, _, _, _, hc⟩ := hc;cases hc
  exact opOk_v (snd_box hs (hρ x v hv) h')
 | build t parts =>
  have h' : ((pairEnv ρ parts.toList).bind fun ps => val H (aBuild P t ps)) = some r := h;rw [Option.bind_eq_some_iff] at h'; obtain ⟨ps, hps, h'⟩ := h';refine opOk_same hs h' fun a ha => ?_;obtain ⟨v, h1, h2⟩ := snd_build (pairEnv_rel hρ hps) ha w;refine ⟨v, ?_, h2⟩;rw [← h1]
  congr 2
  apply Array.toList_inj.1;simp
 | buildSlice t n parts =>
  have h' : ((pairEnv ρ parts.toList).bind fun ps => aBuildSlice P H t n ps) = some r := h;rw [Option.bind_eq_some_iff] at h'; obtain ⟨ps, hps, h'⟩ := h';obtain ⟨a, H', rfl⟩ := res_is_val h' fun _ _ _ hc => by
   unfold aBuildSlice at hc;split at hc
   ·rw [Option.bind_eq_some_iff] at hc; obtain ⟨_, _, hc⟩ := hc;split at hc
    ·cases hc
    ·rw [Option.bind_eq_some_iff] at hc; obtain ⟨_, _, hc⟩ := hc;split at hc
     ·simp only [Option.bind_eq_some_iff, Option.map_eq_some_iff] at hc;obtain ⟨_, _, _, _, hc⟩ := hc;cases hc
     ·cases hc
   ·cases hc
  obtain ⟨v, w', φ', h1, h2, h3⟩ := snd_buildSlice hs (pairEnv_rel hρ hps) h';have e : (parts.toList.map fun p => (p.1, ρc p.2)).toArray = parts.map fun (i, x) => (i, ρc x) := by
   apply Array.toList_inj.1;simp
  rw [e] at h1;exact opOk_v ⟨v, w', φ', h1, h2, h3⟩
 | load t a =>
  have h' : (match ρ a with
   | some (.pointer (some ⟨b, o, none⟩)) => val H (aLoad P H t b o)
   | _ => none) = some r := h
  split at h'
  ·rename_i b o hp;have hv := hρ a _ hp;generalize hval : ρc a = vp at hv;cases hv with
   | ptr hφ =>
    refine opOk_same hs h' fun u hu => ?_;obtain ⟨v, h1, h2⟩ := run_loadVar' hs hφ hu;exact ⟨v, by rw [hval]; simp [Instr.loadAt, Instr.sureAddr, h1], h2⟩
  ·cases h'
 | store t a x =>
  have h' : (match ρ a, ρ x with
   | some (.pointer (some ⟨b, o, none⟩)), some v => (aStore P bar H t b o v).map (.val undef ·)
   | _, _ => none) = some r := h
  split at h'
  ·rename_i b o v hp hx;have hv := hρ a _ hp;generalize hval : ρc a = vp at hv;cases hv with
   | ptr hφ =>
    rw [Option.map_eq_some_iff] at h'; obtain ⟨H₁, hst, h'⟩ := h';subst h';obtain ⟨w', h1, h2⟩ := run_storeVar' hs hφ (hρ x v hx) hst;exact opOk_u hs ⟨w', by rw [hval]; simp [Instr.storeAt, Instr.sureAddr, h1], h2⟩
  ·cases h'
 | nilCheck x =>
  have h' : ((ρ x).bind fun v => val H (aNilCheck v)) = some r := h;rw [Option.bind_eq_some_iff] at h'; obtain ⟨v, hv, h'⟩ := h';exact opOk_val hs h' fun a ha => snd_nilCheck (hρ x v hv) ha _ ρc x rfl rfl w
 | binOp op t x y yt =>
  have h' : (match ρ x, ρ y with
   | some a, some b => val H (aBin P op t x y a b)
   | _, _ => none) = some r := h
  split at h'
  ·rename_i a b ha hb;exact opOk_same hs h' fun u hu => snd_bin (hρ x a ha) (hρ y b hb) hu w
  ·cases h'
 | unOp op t x =>
  have h' : ((ρ x).bind fun v => if plain1 v then val H ((pureRun P (Op.unary op v)).bind fun r => if plain1 r then some r else none) else none) = some r := h
  rw [Option.bind_eq_some_iff] at h'; obtain ⟨v, hv, h'⟩ := h';split at h'
  ·rename_i hp;exact opOk_same hs h' fun u hu => snd_pure1 (s := fun v => Op.unary op v) (hρ x v hv) hp hu w
  ·cases h'
 | convert s d x =>
  have h' : ((ρ x).bind fun v => aConvert P H s d v) = some r := h;rw [Option.bind_eq_some_iff] at h'; obtain ⟨v, hv, h'⟩ := h';obtain ⟨a, H', rfl⟩ := res_is_val h' fun _ _ _ => aConvert_val;exact opOk_v (snd_convert hs (hρ x v hv) h')
 | makeInterface t x =>
  have h' : ((ρ x).bind fun v => val H (aMakeIface P t v)) = some r := h;rw [Option.bind_eq_some_iff] at h'; obtain ⟨v, hv, h'⟩ := h';exact opOk_same hs h' fun u hu => snd_makeIface (hρ x v hv) hu w
 | makeFunc fn first captured =>
  cases fn with
  | func g =>
   have h' : ((mapEnv ρ first.toList).bind fun a => (mapEnv ρ captured.toList).bind fun b => val H (some (.func (.func g) a.toArray b.toArray))) = some r := h
   rw [Option.bind_eq_some_iff] at h'; obtain ⟨a, ha, h'⟩ := h';rw [Option.bind_eq_some_iff] at h'; obtain ⟨b, hb, h'⟩ := h';refine opOk_same hs h' fun u hu => ?_;cases hu;exact ⟨.func (.func g) (first.map ρc) (captured.map ρc), rfl, .func (by simpa using mapEnv_rel hρ ha) (by simpa using mapEnv_rel hρ hb)⟩
  | _ => cases h
 | makeMap t x =>
  have h' : ((optEnv ρ x).bind fun r => aMakeMap P H t r) = some r := h;rw [Option.bind_eq_some_iff] at h'; obtain ⟨v, hv, h'⟩ := h';obtain ⟨a, H', rfl⟩ := res_is_val h' fun _ _ _ hc => by
   unfold aMakeMap at hc;simp only [Option.bind_eq_some_iff, Option.map_eq_some_iff] at hc;obtain ⟨_, _, _, _, hc⟩ := hc;cases hc
  exact opOk_v (snd_makeMap hs (optEnv_rel hρ hv) h')
 | makeSlice t l c =>
  have h' : (match ρ l, ρ c with
   | some a, some b => aMakeSlice P H t a b
   | _, _ => none) = some r := h
  split at h'
  ·rename_i a b ha hb;obtain ⟨a, H', rfl⟩ := res_is_val h' fun _ _ _ hc => by
    unfold aMakeSlice at hc;split at hc
    ·simp only [Option.bind_eq_some_iff] at hc;obtain ⟨_, _, _, _, hc⟩ := hc;split at hc
     ·rw [Option.map_eq_some_iff] at hc; obtain ⟨_, _, hc⟩ := hc; cases hc
     ·cases hc
    ·cases hc
   exact opOk_v (snd_makeSlice hs (hρ l _ ha) (hρ c _ hb) h')
  ·cases h'
 | slice t x lo hi mx =>
  have h' : ((ρ x).bind fun v => (optEnv ρ lo).bind fun lo => (optEnv ρ hi).bind fun hi => (optEnv ρ mx).bind fun mx => val H (aSlice P H t v lo hi mx)) = some r := h;simp only [Option.bind_eq_some_iff] at h';obtain ⟨v, hv, l, hl, hh, hhh, m, hm, h'⟩ := h';exact opOk_same hs h' fun u hu => snd_slice hs (hρ x v hv) (optEnv_rel hρ hl) (optEnv_rel hρ hhh) (optEnv_rel hρ hm) hu
 | fieldAddr t x i =>
  have h' : ((ρ x).bind fun v => val H (aFieldAddr P t v i)) = some r := h;rw [Option.bind_eq_some_iff] at h'; obtain ⟨v, hv, h'⟩ := h';exact opOk_same hs h' fun u hu => snd_fieldAddr (hρ x v hv) hu w
 | field t x i =>
  have h' : ((ρ x).bind fun v => val H (aField P t v i)) = some r := h;rw [Option.bind_eq_some_iff] at h'; obtain ⟨v, hv, h'⟩ := h';exact opOk_same hs h' fun u hu => snd_field (hρ x v hv) hu w
 | indexAddr t x i =>
  have h' : (match ρ x, ρ i with
   | some a, some b => val H (aIndexAddr P t a b)
   | _, _ => none) = some r := h
  split at h'
  ·rename_i a b ha hb;exact opOk_same hs h' fun u hu => snd_indexAddr (hρ x a ha) (hρ i b hb) hu w
  ·cases h'
 | index t x i =>
  have h' : (match ρ x, ρ i with
   | some a, some b => val H (aIndex P t a b)
   | _, _ => none) = some r := h
  split at h'
  ·rename_i a b ha hb;exact opOk_same hs h' fun u hu => snd_index (hρ x a ha) (hρ i b hb) hu w
  ·cases h'
 | lookup t x i ok =>
  have h' : (match ρ x, ρ i with
   | some a, some b => val H (aLookup P H t a b ok)
   | _, _ => none) = some r := h
  split at h'
  ·rename_i a b ha hb;exact opOk_same hs h' fun u hu => snd_lookup hs (hρ x a ha) (hρ i b hb) hu
  ·cases h'
 | mapUpdate t m k x =>
  have h' : (match ρ m, ρ k, ρ x with
   | some a, some b, some c => (aMapUpdate P bar H t a b c).map (.val undef ·)
   | _, _, _ => none) = some r := h
  split at h'
  ·rename_i a b c ha hb hc;rw [Option.map_eq_some_iff] at h'; obtain ⟨H₁, hst, h'⟩ := h';subst h';exact opOk_u hs (snd_mapUpdate hs (hρ m a ha) (hρ k b hb) (hρ x c hc) hst)
  ·cases h'
 | insert t m k x =>
  have h' : (match ρ m, ρ k, ρ x with
   | some a, some b, some c => (aMapUpdate P bar H t a b c).map (.val undef ·)
   | _, _, _ => none) = some r := h
  split at h'
  ·rename_i a b c ha hb hc;rw [Option.map_eq_some_iff] at h'; obtain ⟨H₁, hst, h'⟩ := h';subst h';exact opOk_u hs (snd_mapUpdate hs (hρ m a ha) (hρ k b hb) (hρ x c hc) hst)
  ·cases h'
 | typeAssert x xt t ok =>
  have h' : ((ρ x).bind fun v => val H (aTypeAssert P v xt t ok)) = some r := h;rw [Option.bind_eq_some_iff] at h'; obtain ⟨v, hv, h'⟩ := h';exact opOk_same hs h' fun u hu => snd_typeAssert (hρ x v hv) hu w
 | extract x i =>
  have h' : ((ρ x).bind fun v => val H (aExtract v i)) = some r := h;rw [Option.bind_eq_some_iff] at h'; obtain ⟨v, hv, h'⟩ := h';exact opOk_same hs h' fun u hu => snd_extract (hρ x v hv) hu w
 | call c => exact snd_call hs hρ h
 | _ => cases h
end Go.Abu
namespace Go.Abu
structure Fr where
 n : Nat
 m : Tr Value 10
 ds : List Nat
 rd : Option Nat
def Fr.get (f : Fr) (t : Nat) : Option Value := if t < 1024 then Tr.get 10 f.m t else none
def Fr.put (f : Fr) (dst : Option Tmp) (v : Value) : Option Fr :=
 match dst with
 | none => some f
 | some d => if d < f.n then some { f with m := Tr.set 10 f.m d v } else none
def aev (f : Fr) : Operand → Option Value
 | .tmp t => f.get t
 | .const v => if plain v then some v else none
 | .func g => some (.func (.func g) #[] #[])
 | .global _ => none
inductive AExit where
 | normal
 | exit (id : Nat)
 | ret
abbrev Known := FuncId → Array Value → AH → Option (Value × AH)
abbrev Rec := Nat → Code → Fr → AH → Option (AExit × Fr × AH)
def wantedA (ops : Array Oper) (f : Fr) (o : Oper) : Option Bool :=
 match o.guard with
 | none => some true
 | some (j, want) => match (ops[j]?).bind (·.dst) with
  | none => none
  | some t => match f.get t with
   | some (.bool b) => some (b == want)
   | some (.tuple _) => some false
   | _ => none
def frInit (n : Nat) : Nat → List Value → Tr Value 10 → Tr Value 10
 | _, [], m => m
 | i, v :: vs, m => frInit n (i + 1) vs (Tr.set 10 m i v)
def resultsA (P : Program) (H : AH) (f : Fr) : List ResultVar → Option (List Value)
 | [] => some []
 | .tmp t :: rs => match f.get t with
  | some v => (resultsA P H f rs).map (v :: ·)
  | none => none
 | .cell a t :: rs => match f.get a with
  | some (.pointer (some ⟨b, o, none⟩)) => (aLoad P H t b o).bind fun v => (resultsA P H f rs).map (v :: ·)
  | _ => none
def packA : List Value → Value
 | [v] => v
 | vs => .tuple vs.toArray
def takeA (bar : Nat) : List Nat → AH → Option AH
 | [], H => some H
 | b :: bs, H => match H.get b with
  | some .mark => match Nat.ble bar b with
   | true => takeA bar bs (H.put b .dead)
   | false => none
  | _ => none
def finA (P : Program) (bar : Nat) (rs : List ResultVar) (f : Fr) (H : AH) : Option (Value × AH) :=
 match takeA bar f.ds H with
 | none => none
 | some H' => (resultsA P H' f rs).map fun vs => (packA vs, H')
def callA (P : Program) (K : Known) (rec : Rec) (bar : Nat) (g : FuncId) (args : Array Value) (H : AH) : Option (Value × AH) :=
 match K g args H with
 | some r => some r
 | none =>
  match P.funcs[g]? with
  | none => none
  | some fn => match fn.body with
   | none => none
   | some c => if args.size ≤ fn.ntmps ∧ fn.ntmps ≤ 1024 then
     match rec bar c ⟨fn.ntmps, frInit fn.ntmps 0 args.toList (Tr.empty 10), [], none⟩ H with
     | some (.normal, f, H') => finA P bar fn.results.toList f H'
     | some (.ret, f, H') => finA P bar fn.results.toList f H'
     | _ => none
    else none
def operA (P : Program) (K : Known) (rec : Rec) (bar : Nat) (ops : Array Oper) (o : Oper) (f : Fr) (H : AH) : Option (Fr × AH) :=
 match wantedA ops f o with
 | none => none
 | some false => (f.put o.dst undef).map fun f => (f, H)
 | some true => match aop P bar (aev f) H o.op with
  | none => none
  | some (.val v H') => (f.put o.dst v).map fun f => (f, H')
  | some (.call g args H') => match callA P K rec bar g args H' with
   | none => none
   | some (v, H'') => (f.put o.dst v).map fun f => (f, H'')
def Fr.puts (f : Fr) : List Tmp → List Value → Option Fr
 | [], [] => some f
 | t :: ts, v :: vs => match f.put (some t) v with
  | some f' => f'.puts ts vs
  | none => none
 | _, _ => none
def yieldA (ρ : Env) (op : Op) : Option (Nat × List Value) :=
 match op with
 | .call c => match c.callee with
  | .value x => match ρ x with
   | some (.func (.yield b) _ _) => (mapEnv ρ c.args.toList).map (b, ·)
   | _ => none
  | _ => none
 | _ => none
def jumpA : AExit → Option Code
 | .normal => none
 | .ret => some .ret
 | .exit id => some (.exit id)
def roundA (rec : Rec) (bar b : Nat) (args : List Value) (H : AH) : Option (Value × AH) :=
 match Nat.ble bar b with
 | false => none
 | true => match H.get b with
  | some (.loop .ready _ n m ps assign body) => match Fr.puts ⟨n, m, [], some b⟩ ps.toList args with
   | none => none
   | some f => match rec bar assign f H with
    | some (.normal, f₁, H₁) => match H₁.get b with
     | some (.loop .ready pd n₁ m₁ ps₁ as₁ bd₁) => match rec bar body f₁ (H₁.put b (.loop .busy pd n₁ m₁ ps₁ as₁ bd₁)) with
      | some (e, _, H₂) => match H₂.get b with
       | some (.loop _ _ n₂ m₂ ps₂ as₂ bd₂) => match jumpA e with
        | none => some (.bool true, H₂.put b (.loop .ready none n₂ m₂ ps₂ as₂ bd₂))
        | some j => some (.bool false, H₂.put b (.loop .done (some j) n₂ m₂ ps₂ as₂ bd₂))
       | _ => none
      | none => none
     | _ => none
    | _ => none
  | _ => none
def operY (P : Program) (K : Known) (rec : Rec) (bar : Nat) (ops : Array Oper) (o : Oper) (f : Fr) (H : AH) : Option (Fr × AH) :=
 match yieldA (aev f) o.op with
 | none => operA P K rec bar ops o f H
 | some (b, args) => match o.guard with
  | some _ => none
  | none => match roundA rec bar b args H with
   | none => none
   | some (v, H') => (f.put o.dst v).map fun f => (f, H')
def enterA (f : Fr) (ps : Array Tmp) (assign body : Code) (H : AH) : Option (Fr × AH) :=
 match f.rd with
 | none => match H.alloc .mark with
  | none => none
  | some H₁ => (H₁.alloc (.loop .ready none f.n f.m ps assign body)).map fun H₂ => ({ f with ds := H.next :: f.ds }, H₂)
 | some b => match H.get b with
  | some (.loop ..) => (H.alloc (.loop .ready none f.n f.m ps assign body)).map fun H₂ => (f, H₂)
  | _ => none
def leaveA : Option Code → Option AExit
 | none => some .normal
 | some .ret => some .ret
 | some (.exit id) => some (.exit id)
 | _ => none
def rangeA (P : Program) (K : Known) (rec : Rec) (bar : Nat) (x : Operand) (ps : Array Tmp) (assign body : Code) (f : Fr) (H : AH) : Option (AExit × Fr × AH) :=
 match aev f x with
 | some (.func (.func g) first captured) => match enterA f ps assign body H with
  | none => none
  | some (f', H₁) => match (match aCallFunc P H₁ g (first.toList ++ [.func (.yield (Nat.pred H₁.next)) #[] #[]] ++ captured.toList) with
    | some (.call g' args H₁') => callA P K rec bar g' args H₁'
    | _ => none) with
   | none => none
   | some (_, H₂) => match H₂.get (Nat.pred H₁.next) with
    | some (.loop st pd ..) => match st with
     | .busy => none
     | _ => match leaveA pd with
      | some e => some (e, f', H₂.put (Nat.pred H₁.next) .dead)
      | none => none
    | _ => none
 | _ => none
def opersA (P : Program) (K : Known) (rec : Rec) (bar : Nat) (ops : Array Oper) : List Oper → Fr → AH → Option (Fr × AH)
 | [], f, H => some (f, H)
 | o :: os, f, H => match operY P K rec bar ops o f H with
  | none => none
  | some (f', H') => opersA P K rec bar ops os f' H'
def stepA (P : Program) (K : Known) (dr : Rec → Nat → Array Oper → Fr → AH → Option (Fr × AH)) (rec : Rec) (bar : Nat) (c : Code) (f : Fr) (H : AH) : Option (AExit × Fr × AH) :=
 match c with
 | .skip => some (.normal, f, H)
 | .label _ => some (.normal, f, H)
 | .region _ ops draw =>
  if draw then (dr rec bar ops f H).map fun p => (.normal, p.1, p.2)
  else (opersA P K rec bar ops ops.toList f H).map fun p => (.normal, p.1, p.2)
 | .seq a b => match rec bar a f H with
  | some (.normal, f', H') => rec bar b f' H'
  | r => r
 | .cond x t e => match aev f x with
  | some (.bool b) => rec bar (if b then t else e) f H
  | _ => none
 | .block id b => match rec bar b f H with
  | some (.exit id', f', H') => if id' = id then some (.normal, f', H') else some (.exit id', f', H')
  | r => r
 | .loop b => match rec bar b f H with
  | some (.normal, f', H') => rec bar (.loop b) f' H'
  | r => r
 | .exit id => some (.exit id, f, H)
 | .ret => some (.ret, f, H)
 | .scope b => rec bar b f H
 | .rangeFunc x ps assign body => rangeA P K rec bar x ps assign body f H
 | _ => none
def evalA (P : Program) (K : Known) (dr : Rec → Nat → Array Oper → Fr → AH → Option (Fr × AH)) : Nat → Rec
 | 0 => fun _ _ _ _ => none
 | n + 1 => stepA P K dr (evalA P K dr n)
end Go.Abu
namespace Go.Abu
variable {P : Program} {φ : Ren} {H H' : AH} {bar base : Nat} {w : World}
structure FrR (φ : Ren) (tmps : Array Value) (f : Fr) : Prop where
 size : tmps.size = f.n
 small : f.n ≤ 1024
 get : ∀ t a, f.get t = some a → ∃ v, tmps[t]? = some v ∧ VR φ v a
theorem FrR.mono {φ ψ : Ren} (hle : φ.le ψ) {tmps : Array Value} {f : Fr} (h : FrR φ tmps f) : FrR ψ tmps f :=
 ⟨h.size, h.small, fun t a ha => let ⟨v, h1, h2⟩ := h.get t a ha; ⟨v, h1, h2.mono hle⟩⟩
theorem aev_rel {a : Act} {f : Fr} (h : FrR φ a.tmps f) : EnvR φ a.eval (aev f) := by
 intro x v hv;cases x with
 | tmp t =>
  obtain ⟨u, h1, h2⟩ := h.get t v hv;simp only [Act.eval];rw [Array.getD_eq_getD_getElem?, h1];exact h2
 | const c =>
  simp only [aev] at hv;split at hv
  ·rename_i hp;cases hv;exact plain_refl φ _ hp
  ·cases hv
 | global g => cases hv
 | func g => cases hv; exact .func .nil .nil
theorem FrR.put {a : Act} {f f' : Fr} {dst : Option Tmp} {v x : Value} (h : FrR φ a.tmps f) (hv : VR φ v x) (hp : f.put dst x = some f') : FrR φ (a.put dst v).tmps f' := by
 cases dst with
 | none => cases hp; exact h
 | some d =>
  by_cases hd : d < f.n
  ·have hp : (if d < f.n then some { f with m := Tr.set 10 f.m d x } else none) = some f' := hp
   rw [if_pos hd] at hp;have hd' : @LT.lt Nat _ d f.n := hd;cases hp;have hs := h.small;have hz := h.size;refine ⟨by simpa [Act.put] using h.size, hs, fun t u ht => ?_⟩
   unfold Fr.get at ht;split at ht
   ·rename_i hlt;simp only at ht;rw [Tr.get_set 10 f.m d t x (by omega) hlt] at ht;split at ht
    ·rename_i e;cases ht;subst e;refine ⟨v, ?_, hv⟩;simp only [Act.put];rw [Array.getElem?_setIfInBounds_self_of_lt (by omega)]
    ·rename_i e;obtain ⟨v', h1, h2⟩ := h.get t u (by unfold Fr.get; rw [if_pos hlt]; exact ht);refine ⟨v', ?_, h2⟩;simp only [Act.put];rw [Array.getElem?_setIfInBounds_ne (fun e' => e e'.symm)];exact h1
   ·cases ht
  ·have hp : (if d < f.n then some { f with m := Tr.set 10 f.m d x } else none) = some f' := hp
   rw [if_neg hd] at hp;cases hp
theorem put_defers' (a : Act) (dst : Option Tmp) (v : Value) : (a.put dst v).defers = a.defers := by cases dst <;> rfl
theorem wanted_rel {a : Act} {f : Fr} {ops : Array Oper} {o : Oper} {b : Bool} (h : FrR φ a.tmps f) (hw : wantedA ops f o = some b) : Region.wanted o (yielded ops a.tmps) = b := by
 unfold wantedA at hw;unfold Region.wanted;cases hg : o.guard with
 | none => rw [hg] at hw; cases hw; rfl
 | some gw =>
  obtain ⟨j, want⟩ := gw;rw [hg] at hw;simp only at hw ⊢;cases ht : (ops[j]?).bind (·.dst) with
  | none => rw [ht] at hw; cases hw
  | some t =>
   rw [ht] at hw;simp only at hw;unfold yielded;rw [ht];simp only [Option.bind_some];split at hw
   ·rename_i c hc;cases hw;obtain ⟨v, h1, h2⟩ := h.get t _ hc;cases h2;rw [h1];cases c <;> cases want <;> rfl
   ·rename_i c hc;cases hw;obtain ⟨v, h1, h2⟩ := h.get t _ hc;cases h2;rw [h1];rfl
   ·cases hw
def conc : AExit → Exit
 | .normal => .normal
 | .exit id => .exit id
 | .ret => .ret
abbrev Wd (o : Option Nat) : Fence := { Fence.wide with round := o }
def DsR (φ : Ren) : List Deferred → List Nat → Prop
 | [], [] => True
 | d :: ds, b :: bs => (∃ r, φ b = some r ∧ d = { target := .collected r.c, args := #[] }) ∧ DsR φ ds bs
 | _, _ => False
theorem DsR.mono {φ ψ : Ren} (hle : φ.le ψ) : ∀ {ds : List Deferred} {bs : List Nat}, DsR φ ds bs → DsR ψ ds bs
 | [], [], _ => trivial
 | _ :: _, _ :: _, ⟨⟨r, h1, h2⟩, t⟩ => ⟨⟨r, hle _ _ h1, h2⟩, DsR.mono hle t⟩
def RdR (φ : Ren) : Option Nat → Option Nat → Prop
 | none, none => True
 | some l, some b => ∃ r, φ b = some r ∧ r.c = l
 | _, _ => False
theorem RdR.mono {φ ψ : Ren} (hle : φ.le ψ) : ∀ {o p : Option Nat}, RdR φ o p → RdR ψ o p
 | none, none, _ => trivial
 | some _, some _, ⟨r, h1, h2⟩ => ⟨r, hle _ _ h1, h2⟩
structure ActR (φ : Ren) (o : Option Nat) (a : Act) (f : Fr) : Prop where
 fr : FrR φ a.tmps f
 ds : DsR φ a.defers f.ds
 rd : RdR φ o f.rd
theorem ActR.mono {φ ψ : Ren} (hle : φ.le ψ) {o : Option Nat} {a : Act} {f : Fr} (h : ActR φ o a f) : ActR ψ o a f := ⟨h.fr.mono hle, h.ds.mono hle, h.rd.mono hle⟩
theorem put_same {f f' : Fr} {dst : Option Tmp} {x : Value} (hp : f.put dst x = some f') : f'.ds = f.ds ∧ f'.rd = f.rd ∧ f'.n = f.n := by
 cases dst with
 | none => cases hp; exact ⟨rfl, rfl, rfl⟩
 | some d =>
  unfold Fr.put at hp;simp only at hp;split at hp
  ·cases hp; exact ⟨rfl, rfl, rfl⟩
  ·cases hp
theorem ActR.put {φ : Ren} {o : Option Nat} {a : Act} {f f' : Fr} {dst : Option Tmp} {v x : Value} (h : ActR φ o a f) (hv : VR φ v x) (hp : f.put dst x = some f') : ActR φ o (a.put dst v) f' := by
 obtain ⟨h1, h2, _⟩ := put_same hp;exact ⟨h.fr.put hv hp, by rw [put_defers', h1]; exact h.ds, by rw [h2]; exact h.rd⟩
def PostC (φ : Ren) (H : AH) (bar base : Nat) (w : World) (o : Option Nat) (e : AExit) (f' : Fr) (H' : AH) (ex : Exit) (a' : Act) (w' : World) : Prop :=
 ex = conc e ∧ ∃ φ', Step φ H bar base w φ' H' w' ∧ ActR φ' o a' f'
theorem PostC.trans {φ₁ : Ren} {H₁ : AH} {w₁ : World} {o : Option Nat} {e : AExit} {f' : Fr} {ex : Exit} {a' : Act} {w' : World} (h : Step φ H bar base w φ₁ H₁ w₁) (k : PostC φ₁ H₁ bar base w₁ o e f' H' ex a' w') :
  PostC φ H bar base w o e f' H' ex a' w' := by
 obtain ⟨h1, φ', h3, h4⟩ := k;exact ⟨h1, φ', h.trans h3, h4⟩
structure RecOk (P : Program) (rec : Rec) : Prop where
 code : ∀ {bar : Nat} {c : Code} {f : Fr} {H : AH} {e : AExit} {f' : Fr} {H' : AH}, rec bar c f H = some (e, f', H') → ∀ {φ : Ren} {base : Nat} {w : World} {a : Act} {o : Option Nat}, Sim φ H bar base w → ActR φ o a f →
  c.wpIn (Wd o) 0 P (PostC φ H bar base w o e f' H') a w
 loop : ∀ {bar : Nat} {c : Code} {f : Fr} {H : AH} {e : AExit} {f' : Fr} {H' : AH}, rec bar (.loop c) f H = some (e, f', H') → ∃ n, ∀ (φ : Ren) (base : Nat) (w : World) (a : Act) (o : Option Nat), Sim φ H bar base w → ActR φ o a f →
  Code.roundsIn (Wd o) 0 P c (PostC φ H bar base w o e f' H') n a w
def KnownOk (P : Program) (K : Known) : Prop := ∀ g args H v H', K g args H = some (v, H') → ∀ bar φ base w args', Sim φ H bar base w → VRs φ args'.toList args.toList →
 Calls P g args' w fun e w' => ∃ u φ', e = .returned u ∧ VR φ' u v ∧ Step φ H bar base w φ' H' w'
theorem frInit_get (n : Nat) : ∀ (vs : List Value) (i : Nat) (m : Tr Value 10), i + vs.length ≤ 1024 → ∀ t, t < 1024 → Tr.get 10 (frInit n i vs m) t = if i ≤ t ∧ t < i + vs.length then vs[t - i]? else Tr.get 10 m t
 | [], i, m, _, t, _ => by
  simp only [frInit];rw [if_neg (by simp <;> omega)]
 | v :: vs, i, m, h, t, ht => by
  simp only [List.length_cons] at h;simp only [frInit];rw [frInit_get n vs (i + 1) _ (by omega) t ht, Tr.get_set 10 m i t v (by omega) ht];by_cases h1 : t = i
  ·subst h1;rw [if_neg (by omega), if_pos rfl, if_pos (by simp)];simp
  ·rw [if_neg h1];by_cases h2 : i + 1 ≤ t ∧ t < i + 1 + vs.length
   ·rw [if_pos h2, if_pos (by simp only [List.length_cons]; omega)];have : t - i = (t - (i + 1)) + 1 := by omega
    rw [this, List.getElem?_cons_succ]
   ·rw [if_neg h2, if_neg (by simp only [List.length_cons]; omega)]
theorem frInit_rel {args' args : Array Value} (hv : VRs φ args'.toList args.toList) {n : Nat} (h1 : args.size ≤ n) (h2 : n ≤ 1024) :
  FrR φ (args' ++ Array.replicate (n - args'.size) undef) ⟨n, frInit n 0 args.toList (Tr.empty 10), [], none⟩ := by
 have hl : args'.size = args.size := by simpa using hv.length
 refine ⟨by simp; omega, h2, fun t a ht => ?_⟩;unfold Fr.get at ht;split at ht
 ·rename_i hlt;simp only at ht;rw [frInit_get n args.toList 0 _ (by simp; omega) t hlt] at ht;split at ht
  ·rename_i hb;simp only [Nat.sub_zero] at ht;obtain ⟨v, k1, k2⟩ := hv.get t a ht;refine ⟨v, ?_, k2⟩;have hlt' : t < args'.size := by have := (List.getElem?_eq_some_iff.1 k1).1; simpa using this
   rw [Array.getElem?_append_left hlt'];simpa using k1
  ·rw [Tr.get_empty] at ht;cases ht
 ·cases ht
def resF (tmps : Array Value) : ResultVar → Sem Value
 | .tmp t => pure (tmps.getD t undef)
 | .cell a t => do loadVar t (← asAddr (tmps.getD a undef))
theorem results_rel (hs : Sim φ H bar base w) {tmps : Array Value} {f : Fr} (hf : FrR φ tmps f) : ∀ {rs : List ResultVar} {vs : List Value}, resultsA P H f rs = some vs →
  ∃ us, (rs.mapM (resF tmps)).run P w = .ok us w ∧ VRs φ us vs
 | [], vs, h => by cases h; exact ⟨[], by simp, .nil⟩
 | .tmp t :: rs, vs, h => by
  unfold resultsA at h;split at h
  ·rename_i v hv;rw [Option.map_eq_some_iff] at h; obtain ⟨l, hl, h⟩ := h;subst h;obtain ⟨us, h1, h2⟩ := results_rel hs hf hl;obtain ⟨u, k1, k2⟩ := hf.get t v hv;refine ⟨u :: us, ?_, .cons k2 h2⟩;have e : (resF tmps (.tmp t)).run P w = .ok u w := by
    show (pure (tmps.getD t undef) : Sem Value).run P w = _
    rw [Array.getD_eq_getD_getElem?, k1];rfl
   simp only [List.mapM_cons, Sem.run_bind, e, Result.andThen_ok, h1, Sem.run_pure]
  ·cases h
 | .cell c t :: rs, vs, h => by
  unfold resultsA at h;split at h
  ·rename_i b o hv;rw [Option.bind_eq_some_iff] at h; obtain ⟨v, hl0, h⟩ := h;rw [Option.map_eq_some_iff] at h; obtain ⟨l, hl, h⟩ := h;subst h;obtain ⟨us, h1, h2⟩ := results_rel hs hf hl;obtain ⟨u, k1, k2⟩ := hf.get c _ hv;cases k2 with
   | ptr hφ =>
    rename_i r;obtain ⟨x, q1, q2⟩ := run_loadVar' hs hφ hl0;refine ⟨x :: us, ?_, .cons q2 h2⟩;have e : (resF tmps (.cell c t)).run P w = .ok x w := by
     show (do loadVar t (← asAddr (tmps.getD c undef)) : Sem Value).run P w = _
     rw [Array.getD_eq_getD_getElem?, k1];exact q1
    simp only [List.mapM_cons, Sem.run_bind, e, Result.andThen_ok, h1, Sem.run_pure]
  ·cases h
theorem pack_rel {us vs : List Value} (h : VRs φ us vs) : VR φ (if h : us.toArray.size = 1 then us.toArray[0] else .tuple us.toArray) (packA vs) := by
 cases h with
 | nil => simpa [packA] using .tuple .nil
 | cons h t =>
  cases t with
  | nil => simpa [packA] using h
  | cons h' t =>
   simp [packA];exact .tuple (.cons h (.cons h' t))
theorem run_results (hs : Sim φ H bar base w) {fn : Func} {tmps : Array Value} {f : Fr} (hf : FrR φ tmps f) {vs : List Value} (h : resultsA P H f fn.results.toList = some vs) :
  ∃ u, (results fn tmps).run P w = .ok u w ∧ VR φ u (packA vs) := by
 obtain ⟨us, h1, h2⟩ := results_rel hs hf h;refine ⟨_, ?_, pack_rel h2⟩;show (fn.results.mapM (resF tmps) >>= fun vs => pure (if h : vs.size = 1 then vs[0] else .tuple vs) : Sem Value).run P w = _
 rw [Array.mapM_eq_mapM_toList, Sem.run_bind, Sem.run_map, h1];rfl
theorem take_sound {fn : Func} {tmps : Array Value} {R : Ending → World → Prop} : ∀ {bs : List Nat} {ds : List Deferred} {φ : Ren} {H H' : AH} {w : World}, takeA bar bs H = some H' → Sim φ H bar base w → DsR φ ds bs →
  (∀ w', Step φ H bar base w φ H' w' → ∃ v, (results fn tmps).run P w' = .ok v w' ∧ R (.returned v) w') → LeavesInM Fence.wide 0 P fn tmps R ds .returning w
 | [], [], φ, H, H', w, h, hs, _, hq => by
  cases h;exact hq w (Step.refl hs)
 | b :: bs, d :: ds, φ, H, H', w, h, hs, ⟨⟨r, hφ, hd⟩, ht⟩, hq => by
  unfold takeA at h;split at h
  ·rename_i hb;split at h
   ·rename_i hle;have hle := Nat.le_of_ble_eq_true hle;have hm : w.heap[r.c]? = some (.deferred (some [])) := hs.obj b r _ hφ hb;have hlt := hs.cur b r hφ;have hon : Only r.c w (w.putObj r.c (.deferred none)) := ⟨rfl, rfl, rfl, by simp, fun k hk => World.putObj_heap_other hk⟩;have st : Step φ H bar base w φ (H.put b .dead) (w.putObj r.c (.deferred none)) :=
     hs.update hφ hle ⟨_, hb, by simp⟩ hon trivial
    subst hd;refine ⟨by simp, .inl ⟨r.c, _, rfl, run_takeDeferred hm, take_sound h st.sim ht fun w' st' => hq w' (st.trans st')⟩⟩
   ·cases h
  ·cases h
theorem call_sound {K : Known} (hK : KnownOk P K) {rec : Rec} (hrec : RecOk P rec) {g : FuncId} {args args' : Array Value} {v : Value} (h : callA P K rec bar g args H = some (v, H')) (hs : Sim φ H bar base w)
  (hv : VRs φ args'.toList args.toList) : Calls P g args' w fun e w' => ∃ u φ', e = .returned u ∧ VR φ' u v ∧ Step φ H bar base w φ' H' w' := by
 unfold callA at h;split at h
 ·rename_i r hk;cases h;exact hK g args H v H' hk bar φ base w args' hs hv
 ·split at h
  ·cases h
  ·rename_i fn hfn;split at h
   ·cases h
   ·rename_i c hc;split at h
    ·rename_i hb;have hl : args'.size = args.size := by simpa using hv.length
     have hfr := frInit_rel hv hb.1 hb.2;have hact : ActR φ none { tmps := args' ++ Array.replicate (fn.ntmps - args'.size) undef, defers := [] } ⟨fn.ntmps, frInit fn.ntmps 0 args.toList (Tr.empty 10), [], none⟩ := ⟨hfr, trivial, trivial⟩;have fin : ∀ e f' H₁, (e = AExit.normal ∨ e = AExit.ret) → rec bar c ⟨fn.ntmps, frInit fn.ntmps 0 args.toList (Tr.empty 10), [], none⟩ H = some (e, f', H₁) → finA P bar fn.results.toList f' H₁ = some (v, H') →
       c.wpIn Fence.wide 0 P (bodyPostM Fence.wide 0 P fn fun e w' => ∃ u φ', e = .returned u ∧ VR φ' u v ∧ Step φ H bar base w φ' H' w') { tmps := args' ++ Array.replicate (fn.ntmps - args'.size) undef, defers := [] } w := by
      intro e f' H₁ he hr hf;have hw : c.wpIn Fence.wide 0 P (PostC φ H bar base w none e f' H₁) { tmps := args' ++ Array.replicate (fn.ntmps - args'.size) undef, defers := [] } w := hrec.code hr hs hact;refine wpIn_mono hw ?_;rintro ex a' w' ⟨rfl, φ', hst, ha⟩;have key : LeavesInM Fence.wide 0 P fn a'.tmps (fun e w' => ∃ u φ', e = .returned u ∧ VR φ' u v ∧ Step φ H bar base w φ' H' w') a'.defers .returning w' := by
       unfold finA at hf;split at hf
       ·cases hf
       ·rename_i H₂ ht;rw [Option.map_eq_some_iff] at hf; obtain ⟨vs, hrs, hf⟩ := hf;cases hf;refine take_sound ht hst.sim ha.ds fun w'' st => ?_;obtain ⟨u, k1, k2⟩ := run_results st.sim ha.fr hrs;exact ⟨u, k1, u, φ', rfl, k2, hst.trans st⟩
      rcases he with rfl | rfl
      ·exact key
      ·exact key
     refine callsIn_wide.1 (callsIn_of_wp_marks (n := 0) hfn hc trivial ?_);split at h
     ·rename_i f' H₁ hr;exact fin _ _ _ (.inl rfl) hr h
     ·rename_i f' H₁ hr;exact fin _ _ _ (.inr rfl) hr h
     ·cases h
    ·cases h
theorem aop_defer {ρ : Env} {op : Op} {r : ARes} (h : aop P bar ρ H op = some r) : ∀ c, op ≠ .defer c := by
 rintro c rfl;cases h
theorem semAt_eq {ρ : Env} {ρc : Operand → Value} {o : Oper} {r : ARes} (h : aop P bar ρ H o.op = some r) (l : Option Nat) : Oper.semAt l ρc o = execOp ρc o := by
 cases l with
 | none => exact Oper.semAt_none _ _
 | some l => exact Oper.semAt_some l ρc o (aop_defer h)
theorem oper_sound {K : Known} (hK : KnownOk P K) {rec : Rec} (hrec : RecOk P rec) {ops : Array Oper} {o : Oper} {f f' : Fr} (h : operA P K rec bar ops o f H = some (f', H')) (hs : Sim φ H bar base w)
  {a : Act} {l : Option Nat} (hf : ActR φ l a f) {next : Act → World → Prop} {Q : Exit → Act → World → Prop} (hn : ∀ a' w' φ', Step φ H bar base w φ' H' w' → ActR φ' l a' f' → next a' w') :
  if Region.wanted o (yielded ops a.tmps) then o.wpIn (Wd l) 0 P a w next Q else (∀ f, o.about P w a.eval = some f → (Wd l).fn f) ∧ next (a.put o.dst undef) w := by
 unfold operA at h;split at h
 ·cases h
 ·rename_i hw;rw [wanted_rel hf.fr hw];rw [Option.map_eq_some_iff] at h; obtain ⟨f₁, hp, h⟩ := h;cases h;exact ⟨fun _ _ => trivial, hn _ _ φ (Step.refl hs) (hf.put (.tuple .nil) hp)⟩
 ·rename_i hw;rw [wanted_rel hf.fr hw];refine ⟨fun _ _ => trivial, ?_⟩;split at h
  ·cases h
  ·rename_i v H₁ hop;rw [Option.map_eq_some_iff] at h; obtain ⟨f₁, hp, h⟩ := h;cases h;obtain ⟨u, w', φ', h1, h2, h3⟩ := aop_sound hs (aev_rel hf.fr) hop;have hfin : next (a.put o.dst u) w' := hn _ _ φ' h3 ((hf.mono h3.ext).put h2 hp)
   rw [semAt_eq hop];rcases h1 with h1 | ⟨h1, rfl⟩
   ·rw [h1]; exact hfin
   ·rw [h1]; exact hfin
  ·rename_i g args H₁ hop;split at h
   ·cases h
   ·rename_i v H₂ hcall;rw [Option.map_eq_some_iff] at h; obtain ⟨f₁, hp, h⟩ := h;cases h;rw [semAt_eq hop];obtain ⟨rfl, args', w', h1, rfl, h2⟩ := aop_sound hs (aev_rel hf.fr) hop;rw [h1];refine ⟨(fun h => by cases h), ?_⟩;have hc := (callsIn_wide (n := 0)).2 (call_sound hK hrec hcall hs h2);refine CallsIn.mono (F := Wd l) (n := 0) hc ?_;rintro e w'' ⟨u, φ', rfl, k1, k2⟩;exact hn _ _ φ' k2 ((hf.mono k2.ext).put k1 hp)
end Go.Abu
namespace Go.Abu
variable {P : Program} {φ : Ren} {H H' : AH} {bar base : Nat} {w : World}
theorem puts_rel : ∀ {ts : List Tmp} {vs us : List Value} {f f' : Fr} {tmps : Array Value}, Fr.puts f ts vs = some f' → VRs φ us vs → FrR φ tmps f →
  FrR φ ((ts.zip us).foldl (fun t p => t.setIfInBounds p.1 p.2) tmps) f' ∧ f'.ds = f.ds ∧ f'.rd = f.rd ∧ ts.length = us.length
 | [], [], us, f, f', tmps, h, hv, hf => by
  cases h;cases hv;exact ⟨hf, rfl, rfl, rfl⟩
 | t :: ts, v :: vs, us, f, f', tmps, h, hv, hf => by
  unfold Fr.puts at h;split at h
  ·rename_i f₁ hp;cases hv with
   | cons h1 h2 =>
    rename_i u us';have e1 := FrR.put (a := { tmps := tmps, defers := [] }) hf h1 hp;obtain ⟨k1, k2, k3, k4⟩ := puts_rel h h2 e1;obtain ⟨q1, q2, _⟩ := put_same hp;exact ⟨k1, by rw [k2, q1], by rw [k3, q2], by simp [k4]⟩
  ·cases h
 | [], _ :: _, _, _, _, _, h, _, _ => by cases h
 | _ :: _, [], _, _, _, _, h, _, _ => by cases h
theorem zip_fold (ps : Array Tmp) (us : Array Value) (tmps : Array Value) :
  (ps.zip us).foldl (fun tmps (t, a) => tmps.setIfInBounds t a) tmps = (ps.toList.zip us.toList).foldl (fun t p => t.setIfInBounds p.1 p.2) tmps := by
 rw [← Array.foldl_toList, Array.toList_zip]
theorem tmps_fr {tmps : Array Value} {n : Nat} {m : Tr Value 10} {ds : List Nat} {rd : Option Nat} (h : TmpsR φ tmps n m) : FrR φ tmps ⟨n, m, ds, rd⟩ := by
 refine ⟨h.size, h.small, fun t a ha => ?_⟩;unfold Fr.get at ha;split at ha
 ·rename_i hlt;exact h.get t a hlt ha
 ·cases ha
theorem fr_tmps {tmps : Array Value} {f : Fr} (h : FrR φ tmps f) : TmpsR φ tmps f.n f.m :=
 ⟨h.size, h.small, fun t a ht ha => h.get t a (by unfold Fr.get; rw [if_pos ht]; exact ha)⟩
theorem loop_turn {b : Nat} {r : RB} {x : Loop} {st st' : LoopState} {pd pd' : Option Code} {n : Nat} {m : Tr Value 10} {ps : Array Tmp} {assign body : Code} (hs : Sim φ H bar base w) (hφ : φ b = some r) (hle : bar ≤ b)
  (hg : H.get b = some (.loop st pd n m ps assign body)) (hx : w.heap[r.c]? = some (.loop x)) :
  Step φ H bar base w φ (H.put b (.loop st' pd' n m ps assign body)) (w.putObj r.c (.loop { x with state := st', pending := pd' })) := by
 obtain ⟨y, h1, h2⟩ := hs.obj b r _ hφ hg;rw [hx] at h1;cases h1;have hlt := hs.cur b r hφ;have hon : Only r.c w (w.putObj r.c (.loop { x with state := st', pending := pd' })) := ⟨rfl, rfl, rfl, by simp, fun k hk => World.putObj_heap_other hk⟩
 obtain ⟨k1, k2, k3, k4, k5, k6⟩ := h2;exact hs.update hφ hle ⟨_, hg, by simp⟩ hon ⟨_, World.putObj_heap_same hlt, rfl, rfl, k3, k4, k5, k6⟩
theorem round_sound {rec : Rec} (hrec : RecOk P rec) {b : Nat} {r : RB} {args : List Value} {us : Array Value} {v : Value} (h : roundA rec bar b args H = some (v, H')) (hs : Sim φ H bar base w) (hφ : φ b = some r) (hv : VRs φ us.toList args) :
  ∃ x : Loop, w.heap[r.c]? = some (.loop x) ∧ us.size = x.params.size ∧
   RoundIn Fence.wide 0 P r.c x.fn ((x.params.zip us).foldl (fun tmps (t, a) => tmps.setIfInBounds t a) x.tmps) x.assign x.body w fun e w' => ∃ u φ', e = .returned u ∧ VR φ' u v ∧ Step φ H bar base w φ' H' w' := by
 unfold roundA at h;split at h
 ·cases h
 ·rename_i hle;have hle := Nat.le_of_ble_eq_true hle;split at h
  ·rename_i pd n m ps assign body hg;split at h
   ·cases h
   ·rename_i f hp;obtain ⟨x, hx, k1, k2, k3, k4, k5, k6⟩ := hs.obj b r _ hφ hg;obtain ⟨q1, q2, q3, q4⟩ := puts_rel hp hv (tmps_fr (ds := []) (rd := some b) k3);refine ⟨x, hx, by rw [k4]; simpa using q4.symm, ?_⟩
    rw [zip_fold, k4, k5, k6];have hact : ActR φ (some r.c) { tmps := (ps.toList.zip us.toList).foldl (fun t p => t.setIfInBounds p.1 p.2) x.tmps, defers := [] } f := ⟨q1, by rw [q2]; trivial, by rw [q3]; exact ⟨r, hφ, rfl⟩⟩;refine roundIn_of_wpIn trivial ?_;split at h
    ·rename_i f₁ H₁ ha;have hw1 := hrec.code ha hs hact;refine wpIn_mono hw1 ?_;rintro ex a₁ w₁ ⟨rfl, φ₁, st₁, hact₁⟩;have hφ₁ := st₁.ext b r hφ;split at h
     ·rename_i pd₁ n₁ m₁ ps₁ as₁ bd₁ hg₁;obtain ⟨x₁, hx₁, j1, j2, j3, j4, j5, j6⟩ := st₁.sim.obj b r _ hφ₁ hg₁;have hb := run_beginRound (P := P) hx₁ j1;have st₂ : Step φ₁ H₁ bar base w₁ φ₁ (H₁.put b (.loop .busy pd₁ n₁ m₁ ps₁ as₁ bd₁)) (w₁.putObj r.c (.loop { x₁ with state := .busy, pending := pd₁ })) := loop_turn st₁.sim hφ₁ hle hg₁ hx₁
      have ex₁ : ({ x₁ with state := .busy } : Loop) = { x₁ with state := .busy, pending := pd₁ } := by rw [← j2]
      rw [ex₁] at hb;refine ⟨_, hb, ?_⟩;split at h
      ·rename_i e f₂ H₂ hbd;have hw2 := hrec.code hbd st₂.sim hact₁;refine wpIn_mono hw2 ?_;rintro ex a₂ w₂ ⟨rfl, φ₂, st₃, hact₂⟩;have hφ₂ := st₃.ext b r hφ₁;split at h
       ·rename_i st pd₂ n₂ m₂ ps₂ as₂ bd₂ hg₂;obtain ⟨x₂, hx₂, i1, i2, i3, i4, i5, i6⟩ := st₃.sim.obj b r _ hφ₂ hg₂;have st := (st₁.trans st₂).trans st₃;cases e with
        | normal =>
         cases h;exact ⟨_, _, run_endRound none hx₂, _, φ₂, rfl, .bool true, st.trans (loop_turn st₃.sim hφ₂ hle hg₂ hx₂)⟩
        | ret =>
         cases h;exact ⟨_, _, run_endRound (some .ret) hx₂, _, φ₂, rfl, .bool false, st.trans (loop_turn st₃.sim hφ₂ hle hg₂ hx₂)⟩
        | exit id =>
         cases h;exact ⟨_, _, run_endRound (some (.exit id)) hx₂, _, φ₂, rfl, .bool false, st.trans (loop_turn st₃.sim hφ₂ hle hg₂ hx₂)⟩
       ·cases h
      ·cases h
     ·cases h
    ·cases h
  ·cases h
end Go.Abu
namespace Go.Abu
variable {P : Program} {φ : Ren} {H H' : AH} {bar base : Nat} {w : World}
theorem yield_call {ρ : Env} {op : Op} {b : Nat} {args : List Value} (h : yieldA ρ op = some (b, args)) : ∃ c x f1 c1, op = .call c ∧ c.callee = .value x ∧ ρ x = some (.func (.yield b) f1 c1) ∧ mapEnv ρ c.args.toList = some args := by
 unfold yieldA at h;split at h
 ·rename_i c;split at h
  ·rename_i x hc;split at h
   ·rename_i b' f1 c1 hx;rw [Option.map_eq_some_iff] at h; obtain ⟨l, hl, h⟩ := h;cases h;exact ⟨c, x, f1, c1, rfl, hc, hx, hl⟩
   ·cases h
  ·cases h
 ·cases h
theorem operY_sound {K : Known} (hK : KnownOk P K) {rec : Rec} (hrec : RecOk P rec) {ops : Array Oper} {o : Oper} {f f' : Fr} (h : operY P K rec bar ops o f H = some (f', H')) (hs : Sim φ H bar base w)
  {a : Act} {l : Option Nat} (hf : ActR φ l a f) {next : Act → World → Prop} {Q : Exit → Act → World → Prop} (hn : ∀ a' w' φ', Step φ H bar base w φ' H' w' → ActR φ' l a' f' → next a' w') :
  if Region.wanted o (yielded ops a.tmps) then o.wpIn (Wd l) 0 P a w next Q else (∀ f, o.about P w a.eval = some f → (Wd l).fn f) ∧ next (a.put o.dst undef) w := by
 unfold operY at h;split at h
 ·exact oper_sound hK hrec h hs hf hn
 ·rename_i b args hy;split at h
  ·cases h
  ·rename_i hg;split at h
   ·cases h
   ·rename_i v H₁ hr;rw [Option.map_eq_some_iff] at h; obtain ⟨f₁, hp, h⟩ := h;cases h;have hw : Region.wanted o (yielded ops a.tmps) = true := by unfold Region.wanted; rw [hg]
    rw [if_pos hw];refine ⟨fun _ _ => trivial, ?_⟩;obtain ⟨c, x, f1, c1, hop, hc, hx, hargs⟩ := yield_call hy;have hρ := aev_rel hf.fr;have hv := hρ x _ hx;have hrel := mapEnv_rel hρ hargs;generalize hval : a.eval x = vx at hv;cases hv with
    | yield hφ =>
     rename_i r;have hsem : Oper.semAt (Wd l).round a.eval o = Instr.yield r.c (#[] ++ c.args.map a.eval) := by
      have e1 : Oper.semAt (Wd l).round a.eval o = execOp a.eval o := by
       cases l with
       | none => exact Oper.semAt_none _ _
       | some l => exact Oper.semAt_some l _ o (fun c' e => by rw [hop] at e; cases e)
      rw [e1];unfold execOp;rw [hop];show (do let d ← resolve a.eval c o.type; invoke d.target d.args : Sem Next) = _
      unfold resolve;rw [hc];simp only [hval];rfl
     have hrel' : VRs φ (#[] ++ c.args.map a.eval).toList args := by simpa using hrel
     obtain ⟨y, hy1, hy2, hy3⟩ := round_sound hrec hr hs hφ hrel';rw [hsem, run_yield hy1 hy2];refine ⟨(fun h => by cases h), ?_⟩;refine RoundIn.mono (F := Wd l) (n := 0) hy3 ?_;rintro e w'' ⟨u, φ', rfl, k1, k2⟩;exact hn _ _ φ' k2 ((hf.mono k2.ext).put k1 hp)
theorem opers_sound {K : Known} (hK : KnownOk P K) {rec : Rec} (hrec : RecOk P rec) {ops : Array Oper} {l : Option Nat} {Q : Exit → Act → World → Prop} : ∀ {os : List Oper} {f f' : Fr} {H : AH} {φ : Ren} {w : World} {a : Act}, opersA P K rec bar ops os f H = some (f', H') →
  Sim φ H bar base w → ActR φ l a f → (∀ a' w' φ', Step φ H bar base w φ' H' w' → ActR φ' l a' f' → Q .normal a' w') → wpListIn (Wd l) 0 P ops Q os a w
 | [], f, f', H, φ, w, a, h, hs, hf, hq => by
  cases h;exact hq a w φ (Step.refl hs) hf
 | o :: os, f, f', H, φ, w, a, h, hs, hf, hq => by
  unfold opersA at h;split at h
  ·cases h
  ·rename_i f₁ H₁ ho;unfold wpListIn;refine operY_sound hK hrec ho hs hf fun a' w' φ' hst hf' => ?_;exact opers_sound hK hrec h hst.sim hf' fun a'' w'' φ'' hst' hf'' => hq a'' w'' φ'' (hst.trans hst') hf''
theorem enter_sound {f f' : Fr} {H₁ : AH} {ps : Array Tmp} {assign body : Code} (h : enterA f ps assign body H = some (f', H₁)) (hs : Sim φ H bar base w) {a : Act} {o : Option Nat} (ha : ActR φ o a f) (fn : FuncId) :
  ∃ l mark w₁ φ₁ r, (Instr.enterLoop fn a.tmps ps assign body o).run P w = .ok (l, mark) w₁ ∧ Step φ H bar base w φ₁ H₁ w₁ ∧ φ₁ (Nat.pred H₁.next) = some r ∧ r.c = l ∧ bar ≤ Nat.pred H₁.next ∧
   ActR φ₁ o { a with defers := mark ++ a.defers } f' := by
 unfold enterA at h;have hrd := ha.rd;split at h
 ·rename_i hr;rw [hr] at hrd;cases o with
  | some l => exact hrd.elim
  | none =>
   split at h
   ·cases h
   ·rename_i H₂ hal;rw [Option.map_eq_some_iff] at h; obtain ⟨H₃, hal2, h⟩ := h;cases h;have st1 : Step φ H bar base w (upd φ H.next ⟨w.heap.size, 0, 0, 0, 0⟩) H₂ (w.alloc (.deferred (some []))) :=
     hs.alloc hal _ rfl (World.alloc_heap_new w _)
    have hsz : (w.alloc (.deferred (some []))).heap.size = w.heap.size + 1 := by show (w.heap.push _).size = _; simp
    have ha1 := ha.mono st1.ext;have st2 : Step (upd φ H.next ⟨w.heap.size, 0, 0, 0, 0⟩) H₂ bar base (w.alloc (.deferred (some []))) (upd (upd φ H.next ⟨w.heap.size, 0, 0, 0, 0⟩) H₂.next ⟨w.heap.size + 1, 0, 0, 0, 0⟩) H₁
      ((w.alloc (.deferred (some []))).alloc (.loop { state := .ready, pending := none, fn, tmps := a.tmps, params := ps, assign, body, defers := w.heap.size })) :=
     st1.sim.alloc hal2 ⟨w.heap.size + 1, 0, 0, 0, 0⟩ hsz.symm
      ⟨_, by have := World.alloc_heap_new (w.alloc (.deferred (some []))) (.loop { state := .ready, pending := none, fn, tmps := a.tmps, params := ps, assign, body, defers := w.heap.size }); rw [hsz] at this; exact this,
       rfl, rfl, (fr_tmps ha1.fr).mono (upd_le st1.sim _), rfl, rfl, rfl⟩
    obtain ⟨n1, n2, _⟩ := AH.alloc_eq hal;obtain ⟨n3, n4, _⟩ := AH.alloc_eq hal2;have hpred : Nat.pred H₁.next = H₂.next := by rw [n4]; rfl
    have hbn := hs.bn;refine ⟨_, _, _, _, ⟨w.heap.size + 1, 0, 0, 0, 0⟩, run_enterLoop_outer fn a.tmps ps assign body, st1.trans st2, by rw [hpred]; exact upd_self _ _ _, rfl, by rw [hpred]; omega, ?_⟩;have ha2 := ha1.mono st2.ext;exact ⟨⟨ha2.fr.size, ha2.fr.small, ha2.fr.get⟩, ⟨⟨_, st2.ext _ _ (upd_self _ _ _), rfl⟩, ha2.ds⟩, ha2.rd⟩
 ·rename_i b hr;rw [hr] at hrd;cases o with
  | none => exact hrd.elim
  | some l =>
   obtain ⟨r₀, hφ₀, rfl⟩ := hrd;split at h
   ·rename_i hg;rw [Option.map_eq_some_iff] at h; obtain ⟨H₃, hal2, h⟩ := h;cases h;obtain ⟨x₀, hx₀, _⟩ := hs.obj b r₀ _ hφ₀ hg;have st2 : Step φ H bar base w (upd φ H.next ⟨w.heap.size, 0, 0, 0, 0⟩) H₁ (w.alloc (.loop { state := .ready, pending := none, fn, tmps := a.tmps, params := ps, assign, body, defers := x₀.defers })) :=
     hs.alloc hal2 ⟨w.heap.size, 0, 0, 0, 0⟩ rfl ⟨_, World.alloc_heap_new w _, rfl, rfl, (fr_tmps ha.fr).mono (upd_le hs _), rfl, rfl, rfl⟩
    obtain ⟨n3, n4, _⟩ := AH.alloc_eq hal2;have hpred : Nat.pred H₁.next = H.next := by rw [n4]; rfl
    have hbn := hs.bn;have hrun : (Instr.enterLoop fn a.tmps ps assign body (some r₀.c)).run P w = .ok (w.heap.size, []) (w.alloc (.loop { state := .ready, pending := none, fn, tmps := a.tmps, params := ps, assign, body, defers := x₀.defers })) := by
     unfold Instr.enterLoop;simp only [Sem.run_bind, run_getLoop hx₀, run_newObj_alloc, Result.andThen, Sem.run_pure]
    exact ⟨_, _, _, _, ⟨w.heap.size, 0, 0, 0, 0⟩, hrun, st2, by rw [hpred]; exact upd_self _ _ _, rfl, by rw [hpred]; omega, ha.mono st2.ext⟩
   ·cases h
end Go.Abu
namespace Go.Abu
variable {P : Program} {φ : Ren} {H H' : AH} {bar base : Nat} {w : World}
section
variable {F : Fence} {n : Nat} {Q : Exit → Act → World → Prop} {a : Act} {b : Frame} {k : List Item} {cs : List Frame}
theorem stepR_scope {c : Code} : step P (lone (b.atR a (.code (.scope c) :: k)) cs w) = .next (lone (b.atR a (.code c :: .inScope c :: k)) cs w) :=
 step_lone_go (by simp [stepG, stepG.exec, Frame.atR])
theorem stepR_inScope {c : Code} : step P (lone (b.atR a (.inScope c :: k)) cs w) = .next (lone (b.atR a k) cs w) :=
 step_lone_go (by simp [stepG, stepG.exec, Frame.atR])
theorem wpIn_scope_straight {c : Code} (h : c.wpIn F n P (Exit.noGoto Q) a w) : (Code.scope c).wpIn F n P Q a w := by
 intro b k cs hro hb hr;have h0 : (lone (b.atR a (.code (.scope c) :: k)) cs w).fenced P F := fenced_calm hb hr rfl;obtain ⟨e, a₁, w₁, hq, harr⟩ := h b (.inScope c :: k) cs hro hb hr;cases e with
 | normal => exact ⟨.normal, a₁, w₁, hq, .head h0 stepR_scope (StepsIn.trans harr (.one (fenced_calm hb hr rfl) stepR_inScope))⟩
 | exit id =>
  have hx : exitTo id (.inScope c :: k) = exitTo id k := by simp [exitTo]
  exact ⟨.exit id, a₁, w₁, hq, fun k' hk => .head h0 stepR_scope (harr.1 k' (by rw [hx]; exact hk)),
   fun hr' hk => let ⟨k₁, h1, h2⟩ := harr.2 hr' (by rw [hx]; exact hk); ⟨k₁, h1, .head h0 stepR_scope h2⟩⟩
 | goto l => exact hq.elim
 | ret => exact ⟨_, a₁, w₁, hq, .of_steps (.one h0 stepR_scope) harr⟩
 | panic ch => exact ⟨_, a₁, w₁, hq, .of_steps (.one h0 stepR_scope) harr⟩
 | outgrown => exact ⟨_, a₁, w₁, hq, .of_steps (.one h0 stepR_scope) harr⟩
end
theorem range_sound {K : Known} (hK : KnownOk P K) {rec : Rec} (hrec : RecOk P rec) {x : Operand} {ps : Array Tmp} {assign body : Code} {f f' : Fr} {e : AExit} (h : rangeA P K rec bar x ps assign body f H = some (e, f', H'))
  (hs : Sim φ H bar base w) {a : Act} {o : Option Nat} (ha : ActR φ o a f) : (Code.rangeFunc x ps assign body).wpIn (Wd o) 0 P (PostC φ H bar base w o e f' H') a w := by
 unfold rangeA at h;split at h
 ·rename_i g first captured hx
  split at h
  ·cases h
  ·rename_i f₁ H₁ hen;split at h
   ·cases h
   ·rename_i v H₂ hcall;split at hcall
    ·rename_i g' args H₁' hcf;split at h
     ·rename_i st pd n m ps' as' bd' hg;refine wpIn_rangeFunc (F := Wd o) fun fn _ => ?_;obtain ⟨l, mark, w₁, φ₁, r, h1, h2, h3, h4, h5, h6⟩ := enter_sound (P := P) hen hs ha fn;have hv := aev_rel ha.fr x _ hx;generalize hval : a.eval x = vx at hv;cases hv with
      | func hf hc =>
       rename_i f1 c1;have hres : (resolve a.eval (rangeCall x l) 0).run P w₁ = .ok { target := .fn (.func g) c1, args := f1 ++ #[Value.func (.yield l) #[] #[]] } w₁ := by
        unfold resolve rangeCall;simp only [hval];simp [Deferred.ofValue, Act.eval]
       have hargs : VRs φ₁ (f1 ++ #[Value.func (.yield l) #[] #[]] ++ c1).toList (first.toList ++ [Value.func (.yield (Nat.pred H₁.next)) #[] #[]] ++ captured.toList) := by
        have hy : VR φ₁ (.func (.yield l) #[] #[]) (.func (.yield (Nat.pred H₁.next)) #[] #[]) := by rw [← h4]; exact .yield h3
        simpa using ((VRs.mono h2.ext hf).append (.cons hy .nil)).append (VRs.mono h2.ext hc)
       obtain ⟨rfl, args', w₁', k1, rfl, k2⟩ := snd_callFunc h2.sim hargs hcf;have hcs := (callsIn_wide (n := 0)).2 (call_sound hK hrec hcall h2.sim k2);refine ⟨l, mark, _, _, _, _, _, _, h1, hres, fun _ _ => trivial, k1, fun h => (by cases h), ?_⟩;refine CallsIn.mono (F := Wd o) (n := 0) hcs ?_;rintro en w₃ ⟨u, φ₃, rfl, q1, q2⟩;have hφ₃ := q2.ext _ _ h3;obtain ⟨y, hy, y1, y2, y3⟩ := q2.sim.obj _ r _ hφ₃ hg;have hlt := q2.sim.cur _ r hφ₃;have key : ∀ (hb : st ≠ .busy) (e' : AExit), leaveA pd = some e' → (e', f₁, H₂.put (Nat.pred H₁'.next) .dead) = (e, f', H') →
         rangePost (Wd o) 0 P l (PostC φ H bar base w o e f' H') { a with defers := mark ++ a.defers } (.returned u) w₃ := by
        intro hb e' hl he;cases he;subst h4;refine ⟨_, _, run_endLoop hy (by rw [y1]; exact hb), ?_⟩;have hon : Only r.c w₃ (w₃.putObj r.c (.loop { y with state := .exhausted })) := ⟨rfl, rfl, rfl, by simp, fun k hk => World.putObj_heap_other hk⟩
        have st4 : Step φ₃ H₂ bar base w₃ φ₃ (H₂.put (Nat.pred H₁'.next) .dead) (w₃.putObj r.c (.loop { y with state := .exhausted })) :=
         q2.sim.update hφ₃ h5 ⟨_, hg, by simp⟩ hon trivial
        have hall := (h2.trans q2).trans st4;have hact := h6.mono (Ren.le_trans q2.ext st4.ext);generalize w₃.putObj r.c (.loop { y with state := .exhausted }) = W at hall ⊢
        rw [y2];unfold leaveA at hl;split at hl
        ·cases hl;exact ⟨rfl, φ₃, hall, hact⟩
        ·cases hl;exact wpIn_ret ⟨rfl, φ₃, hall, hact⟩
        ·cases hl;exact wpIn_exit ⟨rfl, φ₃, hall, hact⟩
        ·cases hl
       cases st with
       | busy => cases h
       | ready =>
        simp only at h;split at h
        ·rename_i e' hl;exact key (by simp) e' hl (Option.some.inj h)
        ·cases h
       | done =>
        simp only at h;split at h
        ·rename_i e' hl;exact key (by simp) e' hl (Option.some.inj h)
        ·cases h
       | exhausted =>
        simp only at h;split at h
        ·rename_i e' hl;exact key (by simp) e' hl (Option.some.inj h)
        ·cases h
     ·cases h
    ·cases hcall
 ·cases h
end Go.Abu
namespace Go.Abu
variable {P : Program}
def DrawOk (P : Program) (dr : Rec → Nat → Array Oper → Fr → AH → Option (Fr × AH)) : Prop :=
 ∀ rec, RecOk P rec → ∀ {bar : Nat} {id : Nat} {ops : Array Oper} {f f' : Fr} {H H' : AH}, dr rec bar ops f H = some (f', H') → ∀ {φ : Ren} {base : Nat} {w : World} {a : Act} {o : Option Nat}, Sim φ H bar base w → ActR φ o a f →
  (Code.region id ops true).wpIn (Wd o) 0 P (PostC φ H bar base w o .normal f' H') a w
theorem rounds_mono {F : Fence} {d : Nat} {c : Code} {Q Q' : Exit → Act → World → Prop} (hq : ∀ e a w, Q e a w → Q' e a w) : ∀ {n : Nat} {a : Act} {w : World}, Code.roundsIn F d P c Q n a w → Code.roundsIn F d P c Q' n a w
 | 0, _, _, h => h.elim
 | n + 1, a, w, h => by
  rw [roundsIn_succ] at h ⊢;refine wpIn_mono h fun e a w q => ?_;cases e <;> first | exact rounds_mono hq q | exact hq _ _ _ q
theorem eval_sound {K : Known} (hK : KnownOk P K) {dr : Rec → Nat → Array Oper → Fr → AH → Option (Fr × AH)} (hdr : DrawOk P dr) : ∀ n, RecOk P (evalA P K dr n)
 | 0 => { code := fun {_ _ _ _ _ _ _} h => (by cases h), loop := fun {_ _ _ _ _ _ _} h => (by cases h) }
 | n + 1 => by
  have ih := eval_sound hK hdr n;have loop : ∀ {bar : Nat} {c : Code} {f : Fr} {H : AH} {e : AExit} {f' : Fr} {H' : AH}, evalA P K dr (n + 1) bar (.loop c) f H = some (e, f', H') → ∃ n, ∀ (φ : Ren) (base : Nat) (w : World) (a : Act) (o : Option Nat), Sim φ H bar base w → ActR φ o a f →
    Code.roundsIn (Wd o) 0 P c (PostC φ H bar base w o e f' H') n a w := by
   intro bar c f H e f' H' h;have h : (match evalA P K dr n bar c f H with
    | some (.normal, f', H') => evalA P K dr n bar (.loop c) f' H'
    | r => r) = some (e, f', H') := h
   split at h
   ·rename_i f₁ H₁ hb;obtain ⟨m, hm⟩ := ih.loop h;refine ⟨m + 1, fun φ base w a o hs hf => ?_⟩;rw [roundsIn_succ];refine wpIn_mono (ih.code hb hs hf) ?_;rintro ex a' w' ⟨rfl, φ', hst, hf'⟩;exact rounds_mono (fun ex a'' w'' hp => hp.trans hst) (hm φ' base w' a' o hst.sim hf')
   ·rename_i r hne;refine ⟨1, fun φ base w a o hs hf => ?_⟩;rw [roundsIn_succ];refine wpIn_mono (ih.code h hs hf) ?_;rintro ex a' w' ⟨rfl, φ', hst, hf'⟩;cases e with
    | normal => exact absurd h (hne _ _)
    | exit id => exact ⟨rfl, φ', hst, hf'⟩
    | ret => exact ⟨rfl, φ', hst, hf'⟩
  refine { loop := loop, code := ?_ };intro bar c f H e f' H' h φ base w a o hs hf;cases c with
  | loop b =>
   obtain ⟨m, hm⟩ := loop h;exact wpIn_loop_rounds m (hm φ base w a o hs hf)
  | skip => cases h; exact wpIn_skip ⟨rfl, φ, Step.refl hs, hf⟩
  | label l => cases h; exact wpIn_label ⟨rfl, φ, Step.refl hs, hf⟩
  | exit id => cases h; exact wpIn_exit ⟨rfl, φ, Step.refl hs, hf⟩
  | ret => cases h; exact wpIn_ret ⟨rfl, φ, Step.refl hs, hf⟩
  | region id ops draw =>
   have h : (if draw then (dr (evalA P K dr n) bar ops f H).map fun p => (AExit.normal, p.1, p.2)
    else (opersA P K (evalA P K dr n) bar ops ops.toList f H).map fun p => (AExit.normal, p.1, p.2)) = some (e, f', H') := h
   cases draw with
   | true =>
    rw [if_pos rfl, Option.map_eq_some_iff] at h;obtain ⟨⟨f₁, H₁⟩, hr, h⟩ := h;cases h;exact hdr _ ih hr hs hf
   | false =>
    simp only [Bool.false_eq_true, if_false] at h;rw [Option.map_eq_some_iff] at h;obtain ⟨⟨f₁, H₁⟩, hr, h⟩ := h;cases h;refine wpIn_region_list (opers_sound hK ih hr hs hf ?_);intro a' w' φ' hst hf';exact ⟨rfl, φ', hst, hf'⟩
  | seq x y =>
   have h : (match evalA P K dr n bar x f H with
    | some (.normal, f', H') => evalA P K dr n bar y f' H'
    | r => r) = some (e, f', H') := h
   refine wpIn_seq ?_;split at h
   ·rename_i f₁ H₁ hb;refine wpIn_mono (ih.code hb hs hf) ?_;rintro ex a' w' ⟨rfl, φ', hst, hf'⟩;refine wpIn_mono (ih.code h hst.sim hf') ?_;intro ex a'' w'' hp;exact hp.trans hst
   ·rename_i r hne;refine wpIn_mono (ih.code h hs hf) ?_;rintro ex a' w' ⟨rfl, φ', hst, hf'⟩;cases e with
    | normal => exact absurd h (hne _ _)
    | exit id => exact ⟨rfl, φ', hst, hf'⟩
    | ret => exact ⟨rfl, φ', hst, hf'⟩
  | cond x t el =>
   have h : (match aev f x with
    | some (.bool b) => evalA P K dr n bar (if b then t else el) f H
    | _ => none) = some (e, f', H') := h
   split at h
   ·rename_i b hx;have hv := aev_rel hf.fr x _ hx;generalize hval : a.eval x = v at hv;cases hv;exact wpIn_cond hval (ih.code h hs hf)
   ·cases h
  | block id b =>
   have h : (match evalA P K dr n bar b f H with
    | some (.exit id', f', H') => if id' = id then some (AExit.normal, f', H') else some (.exit id', f', H')
    | r => r) = some (e, f', H') := h
   refine wpIn_block ?_;split at h
   ·rename_i id' f₁ H₁ hb;refine wpIn_mono (ih.code hb hs hf) ?_;rintro ex a' w' ⟨rfl, φ', hst, hf'⟩;split at h
    ·rename_i hid;cases h;simp only [conc, Exit.inBlock, hid, if_true];exact ⟨rfl, φ', hst, hf'⟩
    ·rename_i hid;cases h;simp only [conc, Exit.inBlock, hid, if_false];exact ⟨rfl, φ', hst, hf'⟩
   ·rename_i r hne;refine wpIn_mono (ih.code h hs hf) ?_;rintro ex a' w' ⟨rfl, φ', hst, hf'⟩;cases e with
    | normal => exact ⟨rfl, φ', hst, hf'⟩
    | exit id => exact absurd h (hne _ _ _)
    | ret => exact ⟨rfl, φ', hst, hf'⟩
  | scope b =>
   have h : evalA P K dr n bar b f H = some (e, f', H') := h;refine wpIn_scope_straight (wpIn_mono (ih.code h hs hf) ?_);rintro ex a' w' ⟨rfl, φ', hst, hf'⟩;cases e <;> exact ⟨rfl, φ', hst, hf'⟩
  | rangeFunc x ps assign body => exact range_sound hK ih h hs hf
  | _ => cases h
end Go.Abu
namespace Go.Abu
variable {P : Program} {φ : Ren} {H H' : AH} {bar base : Nat} {w : World}
inductive WS where
 | any
 | one (b : Nat)
 | ge (b : Nat)
def WS.free : WS → Nat → Bool
 | .any, _ => false
 | .one b, x => x != b
 | .ge b, x => decide (x < b)
def WS.lim : WS → Nat → Nat
 | .ge b, bar => max bar b
 | _, bar => bar
inductive Cls where
 | R
 | L (b : Option Nat)
 | Q
 | W (s : WS)
def regOp : Op → Bool
 | .move _ | .assign _ | .pick .. | .build .. | .nilCheck _ | .binOp .. | .unOp .. | .makeInterface .. | .makeFunc .. | .fieldAddr .. | .field .. | .indexAddr .. | .index .. | .typeAssert .. | .extract .. => true
 | _ => false
def argBlock (_ : Option Value) : WS := .any
def writesA (Wf : FuncId → Option Nat) (ρ : Env) : Op → Option WS
 | .store _ a _ => match ρ a with
  | some (.pointer (some p)) => some (.one p.block)
  | _ => some .any
 | .mapUpdate _ m _ _ => match ρ m with
  | some (.map (some r)) => some (.one r)
  | _ => some .any
 | .insert .. => some .any
 | .call c => match c.callee with
  | .builtin .append => match (c.args[0]?).bind ρ with
   | some (.slice (some p) len cap) => if cap = len then none else some (.one p.block)
   | _ => none
  | .builtin .copy | .builtin .clear | .builtin .delete => some .any
  | .value (.func f) => match Wf f with
   | some k => some (argBlock ((c.args[k]?).bind ρ))
   | none => none
  | .value x => match ρ x with
   | some (.func (.func f) first _) => match Wf f with
    | some k => some (argBlock (if k < first.size then first[k]? else (c.args[k - first.size]?).bind ρ))
    | none => none
   | _ => none
  | _ => none
 | _ => none
def loadsA (ρ : Env) : Op → Option (Option Nat)
 | .load _ a => match ρ a with
  | some (.pointer (some p)) => some (some p.block)
  | _ => none
 | .slice _ x _ _ _ => match ρ x with
  | some (.slice (some p) _ cap) => match Nat.beq cap capU with
   | true => some (some p.block)
   | false => some none
  | some (.slice none _ _) => some none
  | some (.string _) => some none
  | some (.pointer _) => some none
  | _ => none
 | .lookup _ x _ _ => match ρ x with
  | some (.map (some r)) => some (some r)
  | some (.map none) => some none
  | _ => none
 | .call c => match c.callee with
  | .builtin .len => match (c.args[0]?).bind ρ with
   | some (.map (some r)) => some (some r)
   | some (.slice _ _ _) => some none
   | some (.string _) => some none
   | some (.map none) => some none
   | _ => none
  | .builtin .cap => some none
  | .builtin .min => some none
  | .builtin .max => some none
  | _ => none
 | _ => none
def clsA (Wf : FuncId → Option Nat) (ρ : Env) (op : Op) : Cls :=
 if regOp op then .R else match loadsA ρ op with
  | some b => .L b
  | none => match writesA Wf ρ op with
   | some b => .W b
   | none => .Q
def drawW (P : Program) (K : Known) (rec : Rec) (bar : Nat) (ops : Array Oper) (o : Oper) (f : Fr) (H : AH) (s : WS) : Option (Cls × Fr × AH) :=
 if Nat.ble (s.lim bar) H.next = true then (operA P K rec (s.lim bar) ops o f H).map fun p => (Cls.W s, p) else none
def drawOne (P : Program) (K : Known) (rec : Rec) (Wf : FuncId → Option Nat) (bar : Nat) (ops : Array Oper) (o : Oper) (f : Fr) (H : AH) : Option (Cls × Fr × AH) :=
 match wantedA ops f o with
 | some true => match clsA Wf (aev f) o.op with
  | .W s => drawW P K rec bar ops o f H s
  | c => (operA P K rec H.next ops o f H).map fun p => (c, p)
 | some false => (operA P K rec H.next ops o f H).map fun p => (.R, p)
 | none => none
def drawAll (P : Program) (K : Known) (rec : Rec) (Wf : FuncId → Option Nat) (bar : Nat) (ops : Array Oper) : List Oper → Fr → AH → Option (List (Cls × AH × AH) × Fr × AH)
 | [], f, H => some ([], f, H)
 | o :: os, f, H => match drawOne P K rec Wf bar ops o f H with
  | none => none
  | some (c, f', H') => match drawAll P K rec Wf bar ops os f' H' with
   | none => none
   | some (l, r) => some ((c, H, H') :: l, r)
def bfr (B : Array Nat) (i j : Nat) : Bool := (B.getD j 0).testBit i
def namesOf (ops : Array Oper) (o : Oper) : List Tmp := o.dst.toList ++ Oper.looksAt ops o
def tmpsOk (ops : Array Oper) (B : Array Nat) : Bool :=
 let l := ops.toList.zipIdx
 l.all fun (o, j) => l.all fun (o', i) => i == j || (match o'.dst with
  | none => true
  | some d => !(namesOf ops o).contains d || bfr B (min i j) (max i j))
def edgesOk (ops : Array Oper) : Bool :=
 ops.toList.zipIdx.all fun (o, i) => o.after.all fun e => !Region.binds .any e || decide (e.on < i)
def clsFree (c : Cls) (s : WS) : Bool :=
 match c with
 | .R => true
 | .L none => true
 | .L (some x) => s.free x
 | _ => false
def sameAt (H H' : AH) (b : Nat) : Bool := @decide (H'.get b = H.get b) (Classical.propDecidable _)
theorem sameAt_eq {H H' : AH} {b : Nat} (h : sameAt H H' b = true) : H'.get b = H.get b := @of_decide_eq_true _ (Classical.propDecidable _) h
def freeAt (c : Cls) (s : WS) (H H' : AH) : Bool :=
 clsFree c s || (match c with
  | .L (some x) => sameAt H H' x
  | _ => false)
def clsOk (B : Array Nat) (cs : List (Cls × AH × AH)) : Bool :=
 let l := cs.zipIdx
 l.all fun (c, j) => match c.1 with
  | .W s => l.all fun (c', i) => i == j || bfr B (min i j) (max i j) || freeAt c'.1 s c.2.1 c.2.2
  | _ => true
def staticOk (ops : Array Oper) (B : Array Nat) : Bool := edgesOk ops && tmpsOk ops B && Region.noSelect ops
def drawA (P : Program) (K : Known) (Wf : FuncId → Option Nat) (rec : Rec) (bar : Nat) (ops : Array Oper) (f : Fr) (H : AH) : Option (Fr × AH) :=
 if staticOk ops (Region.before ops) then
  match drawAll P K rec Wf bar ops ops.toList f H with
  | some (cs, f', H') => if clsOk (Region.before ops) cs then some (f', H') else none
  | none => none
 else none
def step1 (acc : Array Nat) (o : Oper) : Nat := o.after.foldl (fun s e => if Region.binds .any e then s ||| 2 ^ e.on ||| acc.getD e.on 0 else s) 0
theorem before_eq (ops : Array Oper) : Region.before ops = ops.toList.foldl (fun acc o => acc.push (step1 acc o)) #[] := by
 unfold Region.before;rw [← Array.foldl_toList];rfl
theorem fold_before : ∀ (l : List Oper) (acc : Array Nat), (l.foldl (fun acc o => acc.push (step1 acc o)) acc).size = acc.size + l.length ∧
  (∀ j, j < acc.size → (l.foldl (fun acc o => acc.push (step1 acc o)) acc)[j]? = acc[j]?) ∧
  ∀ k o, l[k]? = some o → ∃ acc' : Array Nat, acc'.size = acc.size + k ∧ (∀ j, j < acc'.size → (l.foldl (fun acc o => acc.push (step1 acc o)) acc)[j]? = acc'[j]?) ∧ (l.foldl (fun acc o => acc.push (step1 acc o)) acc)[acc.size + k]? = some (step1 acc' o)
 | [], acc => ⟨by simp, fun _ _ => rfl, fun k o h => by simp at h⟩
 | o :: l, acc => by
  obtain ⟨h1, h2, h3⟩ := fold_before l (acc.push (step1 acc o));simp only [List.foldl_cons];refine ⟨by rw [h1]; simp; omega, fun j hj => ?_, fun k o' hk => ?_⟩
  ·rw [h2 j (by simp; omega), Array.getElem?_push_lt hj];simp [hj]
  ·cases k with
   | zero =>
    simp at hk;subst hk;refine ⟨acc, rfl, fun j hj => ?_, ?_⟩
    ·rw [h2 j (by simp; omega), Array.getElem?_push_lt hj];simp [hj]
    ·rw [Nat.add_zero, h2 acc.size (by simp)];simp
   | succ k =>
    simp at hk;obtain ⟨acc', e1, e2, e3⟩ := h3 k o' hk;refine ⟨acc', by rw [e1]; simp; omega, e2, ?_⟩;have : acc.size + (k + 1) = (acc.push (step1 acc o)).size + k := by simp; omega
    rw [this];exact e3
theorem step1_bit (acc : Array Nat) (o : Oper) (i : Nat) (h : (step1 acc o).testBit i = true) : ∃ e ∈ o.after, Region.binds .any e = true ∧ (i = e.on ∨ (acc.getD e.on 0).testBit i = true) := by
 unfold step1 at h;rw [← Array.foldl_toList] at h;have key : ∀ (l : List Edge) (s : Nat), (l.foldl (fun s e => if Region.binds .any e then s ||| 2 ^ e.on ||| acc.getD e.on 0 else s) s).testBit i = true → s.testBit i = true ∨ ∃ e ∈ l, Region.binds .any e = true ∧ (i = e.on ∨ (acc.getD e.on 0).testBit i = true) := by
  intro l;induction l with
  | nil => intro s h; exact .inl h
  | cons e l ih =>
   intro s h;rcases ih _ h with h | ⟨e', h1, h2⟩
   ·by_cases hb : Region.binds .any e = true
    ·dsimp only at h
     rw [if_pos hb] at h;simp only [Nat.testBit_or, Bool.or_eq_true] at h;rcases h with (h | h) | h
     ·exact .inl h
     ·rw [Nat.testBit_two_pow] at h;exact .inr ⟨e, by simp, hb, .inl (of_decide_eq_true h).symm⟩
     ·exact .inr ⟨e, by simp, hb, .inr h⟩
    ·dsimp only at h
     rw [if_neg hb] at h;exact .inl h
   ·exact .inr ⟨e', by simp [h1], h2⟩
 rcases key _ _ h with h | ⟨e, h1, h2⟩
 ·simp at h
 ·exact ⟨e, by simpa using h1, h2⟩
def Down (ops : Array Oper) (S : Nat → Prop) : Prop := ∀ j o, S j → ops[j]? = some o → ∀ e ∈ o.after, Region.binds .any e = true → S e.on
theorem down_before {ops : Array Oper} {S : Nat → Prop} (hd : Down ops S) : ∀ (j i : Nat), S j → bfr (Region.before ops) i j = true → S i := by
 intro j;induction j using Nat.strongRecOn with
 | _ j ih =>
  intro i hj hb;unfold bfr at hb;rw [before_eq] at hb;obtain ⟨h1, h2, h3⟩ := fold_before ops.toList #[];cases ho : ops[j]? with
  | none =>
   have hge : ops.size ≤ j := by simpa using ho
   rw [Array.getD_eq_getD_getElem?, Array.getElem?_eq_none (by rw [h1]; simpa using hge)] at hb
   simp at hb
  | some o =>
   obtain ⟨acc', e1, e2, e3⟩ := h3 j o (by simpa using ho)
   have e1' : acc'.size = j := by simpa using e1
   have e0 : (#[] : Array Nat).size + j = j := by simp
   rw [e0] at e3;have e3' : (ops.toList.foldl (fun acc o => acc.push (step1 acc o)) #[]).getD j 0 = step1 acc' o := by
    rw [Array.getD_eq_getD_getElem?, e3];rfl
   rw [e3'] at hb;obtain ⟨e, k1, k2, k3⟩ := step1_bit _ _ _ hb;have hse := hd j o hj ho e k1 k2;rcases k3 with rfl | k3
   ·exact hse
   ·by_cases hlt : e.on < j
    ·refine ih e.on hlt i hse ?_;unfold bfr;rw [before_eq, Array.getD_eq_getD_getElem?, e2 e.on (by omega), ← Array.getD_eq_getD_getElem?];exact k3
    ·rw [Array.getD_eq_getD_getElem?, Array.getElem?_eq_none (by omega)] at k3;simp at k3
end Go.Abu
