/- A machine that carries out code on values that are known, and the proof that the model's runs agree with it: one part. -/
import Derived.Test.YtgfhhbgkleimjaaGreatAbsBase
noncomputable section
namespace Go.Abs

inductive AObj where
  | row (c : List Value) (t : TypeId) (z : Nat)
  | map (es : List MapEntry) (clock : Nat)
  | loop (st : LoopState) (pd : Option Code) (n : Nat) (m : Tr Value 10) (ps : Array Tmp) (assign body : Code)
  | mark
  | dead
  deriving Inhabited

def heapDepth : Nat := 18

structure AH where
  next : Nat
  m : Tr AObj 18

namespace AH
def get (H : AH) (b : Nat) : Option AObj := Tr.get 18 H.m b
def put (H : AH) (b : Nat) (o : AObj) : AH := { H with m := Tr.set 18 H.m b o }
def alloc (H : AH) (o : AObj) : Option AH := if H.next < 262144 then some { next := H.next + 1, m := Tr.set 18 H.m H.next o } else none
def live (H : AH) (b : Nat) : Prop := ∃ o, H.get b = some o ∧ o ≠ .dead

theorem get_put (H : AH) {b b' : Nat} (o : AObj) (h : b < 262144) (h' : b' < 262144) : (H.put b o).get b' = if b' = b then some o else H.get b' :=
  Tr.get_set 18 H.m b b' o h h'
theorem alloc_eq {H H' : AH} {o : AObj} (h : H.alloc o = some H') : H.next < 262144 ∧ H'.next = H.next + 1 ∧ ∀ b, b < 262144 → H'.get b = if b = H.next then some o else H.get b := by
  unfold alloc at h
  split at h
  · rename_i hlt
    cases h
    exact ⟨hlt, rfl, fun b hb => Tr.get_set 18 H.m H.next b o hlt hb⟩
  · cases h
end AH

def upd (φ : Ren) (b : Nat) (r : RB) : Ren := fun x => if x = b then some r else φ x

def Unfrozen (n : Nat) (fz : Nat × Nat) : Prop := ∀ i, i < n → ¬ (fz.1 ≤ i ∧ i < fz.2)

/-- The row of cells that an abstract row stands for. -/
def RowR (φ : Ren) (r : RB) (c : List Value) (t : TypeId) (z : Nat) (w : World) : Prop :=
  ∃ arr fz, w.heap[r.c]? = some (.cells arr t fz) ∧ arr.size = r.lim ∧ (r.z = z ∧ r.n = c.length) ∧ r.s + c.length ≤ r.lim ∧
    (∀ i a, c[i]? = some a → ∃ v, arr[r.s + i]? = some v ∧ VR φ v a) ∧ Unfrozen arr.size fz

inductive EntR (φ : Ren) : List MapEntry → List MapEntry → Prop
  | nil : EntR φ [] []
  | cons {e a : MapEntry} {es as : List MapEntry} (hk : VR φ e.key a.key) (hv : VR φ e.val a.val) (hb : e.born = a.born) (t : EntR φ es as) : EntR φ (e :: es) (a :: as)

theorem EntR.mono {φ ψ : Ren} (hle : φ.le ψ) {es as : List MapEntry} (h : EntR φ es as) : EntR ψ es as := by
  induction h with
  | nil => exact .nil
  | cons hk hv hb _ ih => exact .cons (hk.mono hle) (hv.mono hle) hb ih

/-- Temporaries, those that are known. -/
structure TmpsR (φ : Ren) (tmps : Array Value) (n : Nat) (m : Tr Value 10) : Prop where
  size : tmps.size = n
  small : n ≤ 1024
  get : ∀ t a, t < 1024 → Tr.get 10 m t = some a → ∃ v, tmps[t]? = some v ∧ VR φ v a

theorem TmpsR.mono {φ ψ : Ren} (hle : φ.le ψ) {tmps : Array Value} {n : Nat} {m : Tr Value 10} (h : TmpsR φ tmps n m) : TmpsR ψ tmps n m :=
  ⟨h.size, h.small, fun t a ht ha => let ⟨v, h1, h2⟩ := h.get t a ht ha; ⟨v, h1, h2.mono hle⟩⟩

def LoopR (φ : Ren) (st : LoopState) (pd : Option Code) (n : Nat) (m : Tr Value 10) (ps : Array Tmp) (assign body : Code) (x : Loop) : Prop :=
  x.state = st ∧ x.pending = pd ∧ TmpsR φ x.tmps n m ∧ x.params = ps ∧ x.assign = assign ∧ x.body = body

def ObjR (φ : Ren) (r : RB) (w : World) : AObj → Prop
  | .row c t z => RowR φ r c t z w
  | .map es ck => ∃ es', w.heap[r.c]? = some (.map es' ck) ∧ EntR φ es'.toList es
  | .loop st pd n m ps assign body => ∃ x, w.heap[r.c]? = some (.loop x) ∧ LoopR φ st pd n m ps assign body x
  | .mark => w.heap[r.c]? = some (.deferred (some []))
  | .dead => True

theorem ObjR.frame {φ ψ : Ren} {r : RB} {w w' : World} {o : AObj} (hle : φ.le ψ) (hw : w'.heap[r.c]? = w.heap[r.c]?) (h : ObjR φ r w o) : ObjR ψ r w' o := by
  cases o with
  | row c t z =>
    obtain ⟨arr, fz, h1, h2, h3, h4, h5, h6⟩ := h
    exact ⟨arr, fz, hw ▸ h1, h2, h3, h4, fun i a hi => let ⟨v, hv, hr⟩ := h5 i a hi; ⟨v, hv, hr.mono hle⟩, h6⟩
  | map es ck =>
    obtain ⟨es', h1, h2⟩ := h
    exact ⟨es', hw ▸ h1, h2.mono hle⟩
  | loop st pd n m ps assign body =>
    obtain ⟨x, h1, h2, h3, h4, h5⟩ := h
    exact ⟨x, hw ▸ h1, h2, h3, h4.mono hle, h5⟩
  | mark => exact (hw.trans h : w'.heap[r.c]? = _)
  | dead => trivial

structure Sim (φ : Ren) (H : AH) (bar base : Nat) (w : World) : Prop where
  bn : bar ≤ H.next
  small : H.next ≤ 262144
  lt : ∀ b r, φ b = some r → b < H.next
  obj : ∀ b r o, φ b = some r → H.get b = some o → ObjR φ r w o
  inj : ∀ b b' r r', φ b = some r → φ b' = some r' → H.live b → H.live b' → bar ≤ b → r.c = r'.c → b = b'
  own : ∀ b r, φ b = some r → bar ≤ b → base ≤ r.c
  hb : base ≤ w.heap.size
  cur : ∀ b r, φ b = some r → r.c < w.heap.size

/-- What a step of the abstract machine says of the concrete one. -/
structure Step (φ : Ren) (H : AH) (bar base : Nat) (w : World) (φ' : Ren) (H' : AH) (w' : World) : Prop where
  ext : φ.le φ'
  sim : Sim φ' H' bar base w'
  new : ∀ b r, φ' b = some r → φ b = some r ∨ H.next ≤ b
  below : RowKit.Below base w w'
  nx : H.next ≤ H'.next
  keep : ∀ b, b < bar → b < H.next → H'.get b = H.get b

theorem Step.refl {φ : Ren} {H : AH} {bar base : Nat} {w : World} (h : Sim φ H bar base w) : Step φ H bar base w φ H w :=
  ⟨Ren.le_refl _, h, fun _ _ h => .inl h, RowKit.Below.refl _ _, Nat.le_refl _, fun _ _ _ => rfl⟩

theorem Step.trans {φ φ₁ φ₂ : Ren} {H H₁ H₂ : AH} {bar base : Nat} {w w₁ w₂ : World} (h : Step φ H bar base w φ₁ H₁ w₁) (k : Step φ₁ H₁ bar base w₁ φ₂ H₂ w₂) :
    Step φ H bar base w φ₂ H₂ w₂ where
  ext := Ren.le_trans h.ext k.ext
  sim := k.sim
  new := fun b r e => by
    rcases k.new b r e with e | e
    · exact h.new b r e
    · exact .inr (Nat.le_trans h.nx e)
  below := h.below.trans k.below
  nx := Nat.le_trans h.nx k.nx
  keep := fun b hb hn => by rw [k.keep b hb (Nat.lt_of_lt_of_le hn h.nx), h.keep b hb hn]

theorem upd_le {φ : Ren} {H : AH} {bar base : Nat} {w : World} (hs : Sim φ H bar base w) (r : RB) : φ.le (upd φ H.next r) := by
  intro b r' h
  unfold upd
  have := hs.lt b r' h
  rw [if_neg (by omega)]
  exact h

/-- A new block. -/
theorem Sim.alloc {φ : Ren} {H H' : AH} {bar base : Nat} {w : World} (hs : Sim φ H bar base w) {o : Obj} {ao : AObj} (ha : H.alloc ao = some H') (r : RB)
    (hr : r.c = w.heap.size) (ho : ObjR (upd φ H.next r) r (w.alloc o) ao) : Step φ H bar base w (upd φ H.next r) H' (w.alloc o) := by
  obtain ⟨hlt, hnx, hget⟩ := AH.alloc_eq ha
  have hle := upd_le hs r
  have hsz : (w.alloc o).heap.size = w.heap.size + 1 := by show (w.heap.push o).size = _; simp
  have hheap : ∀ k, k < w.heap.size → (w.alloc o).heap[k]? = w.heap[k]? := fun k hk => RowKit.Below.heap_alloc w o k hk
  have part : ∀ b r', upd φ H.next r b = some r' → (b = H.next ∧ r' = r) ∨ (b ≠ H.next ∧ φ b = some r') := by
    intro b r' h
    unfold upd at h
    split at h
    · rename_i e; cases h; exact .inl ⟨e, rfl⟩
    · rename_i e; exact .inr ⟨e, h⟩
  have hlive : ∀ b, b ≠ H.next → b < 262144 → H'.live b → H.live b := by
    intro b hb h1 ⟨o', ho', hd⟩
    rw [hget b h1, if_neg hb] at ho'
    exact ⟨o', ho', hd⟩
  have hbn := hs.bn
  refine ⟨hle, ⟨?_, ?_, ?_, ?_, ?_, ?_, ?_, ?_⟩, ?_, ?_, ?_, ?_⟩
  · omega
  · omega
  · intro b r' h
    rcases part b r' h with ⟨rfl, _⟩ | ⟨_, h⟩
    · omega
    · have := hs.lt b r' h; omega
  · intro b r' o' h hg
    rcases part b r' h with ⟨rfl, rfl⟩ | ⟨hne, h⟩
    · rw [hget _ hlt, if_pos rfl] at hg
      cases hg
      exact ho
    · have hb := hs.lt b r' h
      rw [hget b (by omega), if_neg hne] at hg
      exact (hs.obj b r' o' h hg).frame hle (hheap _ (hs.cur b r' h))
  · intro b b' r₁ r₂ h1 h2 l1 l2 hbb hc
    rcases part b r₁ h1 with ⟨e1, e2⟩ | ⟨n1, h1⟩ <;> rcases part b' r₂ h2 with ⟨e3, e4⟩ | ⟨n2, h2⟩
    · rw [e1, e3]
    · exfalso; have := hs.cur b' r₂ h2; rw [← hc, e2, hr] at this; omega
    · exfalso; have := hs.cur b r₁ h1; rw [hc, e4, hr] at this; omega
    · have q1 := hs.lt b r₁ h1
      have q2 := hs.lt b' r₂ h2
      exact hs.inj b b' r₁ r₂ h1 h2 (hlive b n1 (by omega) l1) (hlive b' n2 (by omega) l2) hbb hc
  · intro b r' h hb
    rcases part b r' h with ⟨rfl, rfl⟩ | ⟨_, h⟩
    · rw [hr]; exact hs.hb
    · exact hs.own b r' h hb
  · rw [hsz]; have := hs.hb; omega
  · intro b r' h
    rw [hsz]
    rcases part b r' h with ⟨rfl, rfl⟩ | ⟨_, h⟩
    · omega
    · have := hs.cur b r' h; omega
  · intro b r' h
    rcases part b r' h with ⟨rfl, _⟩ | ⟨_, h⟩
    · exact .inr (Nat.le_refl _)
    · exact .inl h
  · exact (RowKit.Below.refl _ _).alloc hs.hb o
  · omega
  · intro b hb hn
    rw [hget b (by omega), if_neg (by omega)]

end Go.Abs
