/- A machine that carries out code on values that are known, and the proof that the model's runs agree with it: one part. -/
import Derived.Test.YtghlchpignpibaaGreatAbsMem2
import Derived.Laws.Rows
noncomputable section
namespace Go.Abs

theorem VRs.length {φ : Ren} {vs as : List Value} : VRs φ vs as → vs.length = as.length
  | .nil => rfl
  | .cons _ t => by simp [t.length]

theorem VRs.get {φ : Ren} : ∀ {vs as : List Value}, VRs φ vs as → ∀ (i : Nat) (a : Value), as[i]? = some a → ∃ v, vs[i]? = some v ∧ VR φ v a
  | _, _, .nil, i, a, h => by simp at h
  | _, _, .cons hv t, i, a, h => by
    cases i with
    | zero => simp at h; subst h; exact ⟨_, by simp, hv⟩
    | succ i => simp at h; obtain ⟨v, h1, h2⟩ := t.get i a h; exact ⟨v, by simpa using h1, h2⟩

theorem VRs.of_get {φ : Ren} : ∀ {vs as : List Value}, vs.length = as.length → (∀ (i : Nat) (a : Value), as[i]? = some a → ∃ v, vs[i]? = some v ∧ VR φ v a) → VRs φ vs as
  | [], [], _, _ => .nil
  | [], _ :: _, h, _ => by simp at h
  | _ :: _, [], h, _ => by simp at h
  | v :: vs, a :: as, h, k => by
    refine .cons ?_ (VRs.of_get (by simpa using h) fun i b hb => ?_)
    · obtain ⟨v', h1, h2⟩ := k 0 a (by simp)
      simp at h1; subst h1; exact h2
    · obtain ⟨v', h1, h2⟩ := k (i + 1) b (by simpa using hb)
      exact ⟨v', by simpa using h1, h2⟩

theorem VRs.append {φ : Ren} {vs as us bs : List Value} (h : VRs φ vs as) (k : VRs φ us bs) : VRs φ (vs ++ us) (as ++ bs) := by
  cases h with
  | nil => exact k
  | cons hv t => exact .cons hv (VRs.append t k)

theorem VRs.take {φ : Ren} : ∀ {vs as : List Value} (n : Nat), VRs φ vs as → VRs φ (vs.take n) (as.take n)
  | _, _, 0, _ => by simpa using .nil
  | _, _, _ + 1, .nil => by simpa using .nil
  | _, _, n + 1, .cons h t => by simpa using .cons h (t.take n)

theorem VRs.drop {φ : Ren} : ∀ {vs as : List Value} (n : Nat), VRs φ vs as → VRs φ (vs.drop n) (as.drop n)
  | _, _, 0, h => by simpa using h
  | _, _, _ + 1, .nil => by simpa using .nil
  | _, _, n + 1, .cons h t => by simpa using t.drop n

theorem one_rel {φ : Ren} {v a : Value} (h : VR φ v a) : one v = one a := by cases h <;> rfl

theorem ones_rel {φ : Ren} : ∀ {vs as : List Value}, VRs φ vs as → as.all one = true → ∀ v ∈ vs, one v = true
  | _, _, .nil, _, v, hv => by simp at hv
  | _, _, .cons h t, hall, v, hv => by
    simp only [List.all_cons, Bool.and_eq_true] at hall
    rcases List.mem_cons.1 hv with rfl | hv
    · rw [one_rel h]; exact hall.1
    · exact ones_rel t hall.2 v hv

/-- What stands in a list from a place on: the place before it first, so that reading in turn costs little. -/
def dropF (c : List Value) (o : Nat) : List Value := Nat.rec c (fun _ ih => List.rec [] (fun _ t _ => t) ih) o
def takeF (n : Nat) : List Value → Option (List Value) :=
  Nat.rec (fun _ => some []) (fun _ ih l => List.rec none (fun x t _ => Option.rec none (fun r => some (x :: r)) (ih t)) l) n

theorem dropF_eq (c : List Value) : ∀ o, dropF c o = c.drop o
  | 0 => rfl
  | o + 1 => by
    have h : dropF c (o + 1) = (dropF c o).tail := by
      show _ = List.tail (dropF c o)
      cases h : dropF c o
      · have : dropF c (o + 1) = List.rec [] (fun _ t _ => t) (dropF c o) := rfl
        rw [this, h]
        rfl
      · have : dropF c (o + 1) = List.rec [] (fun _ t _ => t) (dropF c o) := rfl
        rw [this, h]
        rfl
    rw [h, dropF_eq c o, List.tail_drop]

theorem takeF_eq : ∀ (n : Nat) (l : List Value), takeF n l = if (l.take n).length = n then some (l.take n) else none
  | 0, l => by simp; rfl
  | n + 1, [] => by simp; rfl
  | n + 1, x :: t => by
    have h : takeF (n + 1) (x :: t) = Option.rec none (fun r => some (x :: r)) (takeF n t) := rfl
    rw [h, takeF_eq n t]
    by_cases e : (t.take n).length = n
    · rw [if_pos e, if_pos (by simp only [List.take_succ_cons, List.length_cons]; omega)]
      rfl
    · rw [if_neg e, if_neg (by simp only [List.take_succ_cons, List.length_cons]; omega)]

/-- n cells of a row, from place o on. -/
def cellsAt (c : List Value) (o n : Nat) : Option (List Value) := takeF n (dropF c o)

theorem cellsAt_eq (c : List Value) (o n : Nat) : cellsAt c o n = if ((c.drop o).take n).length = n then some ((c.drop o).take n) else none := by
  unfold cellsAt
  rw [dropF_eq, takeF_eq]

theorem cellsAt_get {c l : List Value} {o n : Nat} (h : cellsAt c o n = some l) : l.length = n ∧ ∀ i, i < n → l[i]? = c[o + i]? := by
  rw [cellsAt_eq] at h
  split at h
  · rename_i hl
    cases h
    refine ⟨hl, fun i hi => ?_⟩
    rw [List.getElem?_take, if_pos hi, List.getElem?_drop]
  · cases h

theorem load_row (P : Program) {φ : Ren} {H : AH} {bar base : Nat} {w : World} (hs : Sim φ H bar base w) {b : Nat} {r : RB} (hφ : φ b = some r) {c : List Value} {t : TypeId} {z : Nat}
    (hg : H.get b = some (.row c t z)) {o n : Nat} {l : List Value} (hl : cellsAt c o n = some l) :
    ∃ vs, VRs φ vs l ∧ (loadCells ⟨r.c, r.s + o, none⟩ n).run P w = .ok vs.toArray w := by
  obtain ⟨arr, fz, h1, h2, h3, h4, h5, h6⟩ := hs.obj b r _ hφ hg
  obtain ⟨hn, hget⟩ := cellsAt_get hl
  have key : ∀ i, i < n → ∃ v, arr[r.s + (o + i)]? = some v ∧ ∀ a, l[i]? = some a → VR φ v a := by
    intro i hi
    have hli : l[i]? = some (l[i]'(by omega)) := by simp
    obtain ⟨v, hv, hr⟩ := h5 (o + i) (l[i]'(by omega)) (by rw [← hget i hi]; exact hli)
    exact ⟨v, hv, fun a ha => by rw [hli] at ha; cases ha; exact hr⟩
  let vs := (List.range n).map fun i => arr[r.s + (o + i)]?.getD undef
  have hvl : vs.length = n := by simp [vs]
  have hvg : ∀ i, i < n → ∃ v, vs[i]? = some v ∧ arr[r.s + (o + i)]? = some v := by
    intro i hi
    obtain ⟨v, hv, _⟩ := key i hi
    exact ⟨v, by simp [vs, hi, hv], hv⟩
  refine ⟨vs, VRs.of_get (by omega) fun i a ha => ?_, ?_⟩
  · have hi : i < n := by have := (List.getElem?_eq_some_iff.1 ha).1; omega
    obtain ⟨v, e1, e2⟩ := hvg i hi
    obtain ⟨v', e3, e4⟩ := key i hi
    rw [e2] at e3; cases e3
    exact ⟨v, e1, e4 a ha⟩
  · have := run_loadCells_list (P := P) w ⟨r.c, r.s + o, none⟩ vs (fun j v hv => by
      have hj : j < n := by have := (List.getElem?_eq_some_iff.1 hv).1; omega
      obtain ⟨v', e1, e2⟩ := hvg j hj
      rw [hv] at e1; cases e1
      rw [add_plain]
      simp only [World.cell?, h1]
      rw [← Nat.add_assoc] at e2
      simpa using e2)
    rw [hvl] at this
    exact this

theorem store_row (P : Program) {φ : Ren} {H : AH} {bar base : Nat} {w : World} (hs : Sim φ H bar base w) {b : Nat} {r : RB} (hφ : φ b = some r) (hb : bar ≤ b) {c : List Value} {t : TypeId} {z : Nat}
    (hg : H.get b = some (.row c t z)) {o : Nat} {vs as c' : List Value} (hw : wr c o as = some c') (hv : VRs φ vs as) (h1 : as.all one = true) (hn : as ≠ []) :
    ∃ w', (storeCells ⟨r.c, r.s + o, none⟩ vs).run P w = .ok () w' ∧ Step φ H bar base w φ (H.put b (.row c' t z)) w' := by
  obtain ⟨arr, fz, g1, g2, g3, g4, g5, g6⟩ := hs.obj b r _ hφ hg
  obtain ⟨e1, e2, e3⟩ := wr_spec c o as c' hw
  have e2 : o + as.length ≤ c.length := e2.resolve_left hn
  have hlen := hv.length
  obtain ⟨w', arr', f1, f2, f3, f4, f5⟩ := run_storeCells P r.c (r.s + o) t fz vs 0 w arr g1 g6 (by omega) (ones_rel hv h1)
  refine ⟨w', f1, hs.update hφ hb ⟨_, hg, by simp⟩ f2 ⟨arr', fz, f3, by omega, ⟨g3.1, by rw [g3.2, e1]⟩, by omega, fun i a ha => ?_, by rw [f4]; exact g6⟩⟩
  rw [e3 i] at ha
  by_cases hi : o ≤ i ∧ i < o + as.length
  · rw [if_pos hi] at ha
    obtain ⟨v, k1, k2⟩ := hv.get _ a ha
    refine ⟨v, ?_, k2⟩
    rw [f5, if_pos (by omega)]
    have : r.s + i - (r.s + o + 0) = i - o := by omega
    rw [this]; exact k1
  · rw [if_neg hi] at ha
    obtain ⟨v, k1, k2⟩ := g5 i a ha
    refine ⟨v, ?_, k2⟩
    rw [f5, if_neg (by omega)]
    exact k1

theorem run_newRow (P : Program) (w : World) (t : TypeId) (arr : Array Value) : (newRow t arr).run P w = .ok ⟨w.heap.size, 0, none⟩ (w.alloc (.cells arr t)) := by
  unfold newRow newObj
  rw [Sem.run_bind]
  rfl

theorem unfrozen00 (n : Nat) : Unfrozen n (0, 0) := fun i _ h => by simp at h

/-- A new row; the concrete one may be longer. -/
theorem new_row {φ : Ren} {H H' : AH} {bar base : Nat} {w : World} (hs : Sim φ H bar base w) {as : List Value} {t : TypeId} {z : Nat} (ha : H.alloc (.row as t z) = some H') {arr : Array Value}
    (hsz : as.length ≤ arr.size) (hv : ∀ (i : Nat) (a : Value), as[i]? = some a → ∃ v, arr[i]? = some v ∧ VR φ v a) :
    Step φ H bar base w (upd φ H.next ⟨w.heap.size, 0, arr.size, z, as.length⟩) H' (w.alloc (.cells arr t)) := by
  refine hs.alloc ha _ rfl ⟨arr, (0, 0), ?_, rfl, ⟨rfl, rfl⟩, by simpa using hsz, fun i a hi => ?_, unfrozen00 _⟩
  · show (w.heap.push _)[w.heap.size]? = _
    simp
  · obtain ⟨v, h1, h2⟩ := hv i a hi
    exact ⟨v, by simpa using h1, h2.mono (upd_le hs _)⟩

theorem upd_self (φ : Ren) (b : Nat) (r : RB) : upd φ b r b = some r := by simp [upd]

end Go.Abs

noncomputable section
namespace Go.Abs

/-- A computation that looks at no memory. -/
def pureRun {α : Type} (P : Program) : Sem α → Option α
  | .pure a => some a
  | .program k => pureRun P (k P)
  | .mark _ k => pureRun P k
  | _ => none

theorem pureRun_sound {α : Type} (P : Program) : ∀ (e : Sem α) (a : α), pureRun P e = some a → ∀ w, e.run P w = .ok a w := by
  intro e
  induction e with
  | pure b => intro a h w; simp only [pureRun] at h; cases h; rfl
  | program k ih => intro a h w; simp only [pureRun] at h; simp only [Sem.run]; exact ih P a h w
  | mark m k ih => intro a h w; simp only [pureRun] at h; simp only [Sem.run]; exact ih a h w
  | _ => intro a h w; simp [pureRun] at h

/-- A value without addresses. -/
def plain1 : Value → Bool
  | .bool _ | .int _ _ | .float _ _ | .string _ | .pointer none | .slice none 0 0 | .map none | .chan none | .nilFunc | .nilIface => true
  | .iface _ v => plain1 v
  | _ => false

def plain : Value → Bool
  | .agg cs => cs.toList.all plain1
  | v => plain1 v

theorem plain1_eq {φ : Ren} : ∀ {v a : Value}, VR φ v a → plain1 a = true → v = a
  | _, _, .bool b, _ => rfl
  | _, _, .int k n, _ => rfl
  | _, _, .float k n, _ => rfl
  | _, _, .string s, _ => rfl
  | _, _, .ptrNil, _ => rfl
  | _, _, .ptr h, hp => by simp [plain1] at hp
  | _, _, .sliceNil, _ => rfl
  | _, _, .slice h hl hc, hp => by simp [plain1] at hp
  | _, _, .sliceE h ha, hp => by simp [plain1] at hp
  | _, _, .mapNil, _ => rfl
  | _, _, .map h, hp => by simp [plain1] at hp
  | _, _, .chanNil, _ => rfl
  | _, _, .nilFunc, _ => rfl
  | _, _, .func hf hc, hp => by simp [plain1] at hp
  | _, _, .nilIface, _ => rfl
  | _, _, .iface h, hp => by
    simp only [plain1] at hp
    rw [plain1_eq h hp]
  | _, _, .agg h, hp => by simp [plain1] at hp
  | _, _, .tuple h, hp => by simp [plain1] at hp

theorem plains_eq {φ : Ren} : ∀ {vs as : List Value}, VRs φ vs as → as.all plain1 = true → vs = as
  | _, _, .nil, _ => rfl
  | _, _, .cons h t, hp => by
    simp only [List.all_cons, Bool.and_eq_true] at hp
    rw [plain1_eq h hp.1, plains_eq t hp.2]

theorem plain_eq {φ : Ren} {v a : Value} (h : VR φ v a) (hp : plain a = true) : v = a := by
  cases h with
  | agg h =>
    simp only [plain] at hp
    have := plains_eq h hp
    rw [Array.toList_inj] at this
    rw [this]
  | tuple h => simp [plain, plain1] at hp
  | _ => exact plain1_eq (φ := φ) (by constructor <;> assumption) hp

theorem plain1_refl (φ : Ren) : ∀ (a : Value), plain1 a = true → VR φ a a
  | .bool b, _ => .bool b
  | .int k n, _ => .int k n
  | .float k n, _ => .float k n
  | .string s, _ => .string s
  | .pointer none, _ => .ptrNil
  | .slice none 0 0, _ => .sliceNil
  | .map none, _ => .mapNil
  | .chan none, _ => .chanNil
  | .nilFunc, _ => .nilFunc
  | .nilIface, _ => .nilIface
  | .iface t v, h => .iface (plain1_refl φ v (by simpa [plain1] using h))
  | .complex .., h => by simp [plain1] at h
  | .pointer (some _), h => by simp [plain1] at h
  | .slice (some _) _ _, h => by simp [plain1] at h
  | .slice none (_ + 1) _, h => by simp [plain1] at h
  | .slice none 0 (_ + 1), h => by simp [plain1] at h
  | .map (some _), h => by simp [plain1] at h
  | .chan (some _), h => by simp [plain1] at h
  | .func .., h => by simp [plain1] at h
  | .agg _, h => by simp [plain1] at h
  | .tuple _, h => by simp [plain1] at h

theorem plains_refl (φ : Ren) : ∀ (as : List Value), as.all plain1 = true → VRs φ as as
  | [], _ => .nil
  | a :: as, h => by
    simp only [List.all_cons, Bool.and_eq_true] at h
    exact .cons (plain1_refl φ a h.1) (plains_refl φ as h.2)

theorem plain_refl (φ : Ren) (a : Value) (h : plain a = true) : VR φ a a := by
  cases a with
  | agg cs => exact .agg (plains_refl φ _ h)
  | _ => exact plain1_refl φ _ h

/-! ## Types -/
def aggD : TypeDesc → Bool
  | .struct _ | .array _ _ => true
  | _ => false
def isAggT (P : Program) (t : TypeId) : Option Bool := (P.underlying t).map aggD
def szT (P : Program) (t : TypeId) : Option Nat := (P.info? t).map (·.size)
def zeroT (P : Program) (t : TypeId) : Option Value := (P.info? t).bind (·.zero)

/-! ## Memory -/
def rowCells (H : AH) (b o n : Nat) : Option (List Value) :=
  match H.get b with
  | some (.row c _ _) => cellsAt c o n
  | _ => none

def aLoad (P : Program) (H : AH) (t : TypeId) (b o : Nat) : Option Value :=
  match isAggT P t with
  | some true => (szT P t).bind fun n => (rowCells H b o n).map fun l => .agg l.toArray
  | some false => match rowCells H b o 1 with
    | some [v] => some v
    | _ => none
  | none => none

def aWrite (bar : Nat) (H : AH) (b o : Nat) (vs : List Value) : Option AH :=
  match vs with
  | [] => some H
  | _ => if bar ≤ b ∧ vs.all one = true then
      match H.get b with
      | some (.row c t z) => (wr c o vs).map fun c' => H.put b (.row c' t z)
      | _ => none
    else none

def aStore (P : Program) (bar : Nat) (H : AH) (t : TypeId) (b o : Nat) (v : Value) : Option AH :=
  if szT P t = some v.cells.size then aWrite bar H b o v.cells.toList else none

def aNewRow (H : AH) (vs : List Value) (t : TypeId) (z : Nat) : Option (Nat × AH) := (H.alloc (.row vs t z)).map fun H' => (H.next, H')

def aPart (P : Program) (t : TypeId) (cs : Array Value) (off : Nat) : Option Value :=
  match isAggT P t with
  | some true => (szT P t).map fun n => .agg (cs.extract off (off + n))
  | some false => cs[off]?
  | none => none

inductive ARes where
  | val (v : Value) (H : AH)
  | call (f : FuncId) (args : Array Value) (H : AH)

abbrev Env := Operand → Option Value

def val (H : AH) (v : Option Value) : Option ARes := v.map fun v => .val v H

def mapEnv (ρ : Env) : List Operand → Option (List Value)
  | [] => some []
  | x :: xs => match ρ x with
    | some v => (mapEnv ρ xs).map (v :: ·)
    | none => none

/-! ## Operations -/
def aPick (ρ : Env) (c a b : Operand) : Option Value :=
  match ρ c with
  | some (.bool t) => ρ (if t then a else b)
  | _ => none

def aAlloc (P : Program) (H : AH) (t : TypeId) : Option ARes :=
  (zeroT P t).bind fun z => (szT P t).bind fun n => (aNewRow H z.cells.toList t n).bind fun (b, H') => if z.cells.toList.all plain1 then some (.val (.pointer (some ⟨b, 0, none⟩)) H') else none

def aBox (P : Program) (H : AH) (t : TypeId) (v : Value) : Option ARes :=
  (szT P t).bind fun n => (aNewRow H v.cells.toList t n).map fun (b, H') => .val (.pointer (some ⟨b, 0, none⟩)) H'

def pairEnv (ρ : Env) : List (Nat × Operand) → Option (List (Nat × Value))
  | [] => some []
  | (i, x) :: xs => match ρ x with
    | some v => (pairEnv ρ xs).map ((i, v) :: ·)
    | none => none

def aPlaces (P : Program) (t : TypeId) : Option (Nat → Option (Nat × Nat)) :=
  match P.underlying t with
  | some (.struct fields) =>
    if fields.toList.all (fun f => (szT P f.type).isSome) then
      some fun i => (fields[i]?).map fun f => (f.offset, (szT P f.type).getD 0)
    else none
  | some (.array _ elem) => (szT P elem).map fun size => fun i => some (i * size, size)
  | _ => none

def aBuild (P : Program) (t : TypeId) (parts : List (Nat × Value)) : Option Value :=
  (zeroT P t).bind fun z => if z.cells.toList.all plain1 then (aPlaces P t).bind fun pl => (Instr.fill pl z.cells parts).map .agg else none

def aBuildSlice (P : Program) (H : AH) (t : TypeId) (len : Nat) (parts : List (Nat × Value)) : Option ARes :=
  match P.underlying t with
  | some (.slice elem) => (szT P elem).bind fun size =>
    if len * size > 16777216 then none else
    (zeroT P elem).bind fun z =>
      if z.cells.toList.all plain1 && z.cells.size == size && decide (0 < size) then
        (Instr.fill (fun i => some (i * size, size)) (if len * size = 0 then #[] else (Array.range (len * size)).map (z.cells[· % z.cells.size]!)) parts).bind fun cells =>
          (aNewRow H cells.toList elem size).map fun (b, H') => .val (.slice (some ⟨b, 0, none⟩) len len) H'
      else none
  | _ => none

def aNilCheck : Value → Option Value
  | .pointer (some a) => some (.pointer (some a))
  | .func (.func f) a b => some (.func (.func f) a b)
  | .iface t v => some (.iface t v)
  | .slice a l c => some (.slice a l c)
  | _ => none

/-- What is never nil, and so is not equal to nil. -/
def notNil : Value → Bool
  | .slice (some _) _ _ | .map (some _) | .func _ _ _ | .pointer (some _) => true
  | _ => false
def isNil : Value → Bool
  | .slice none 0 0 | .map none | .nilFunc | .pointer none => true
  | _ => false

def nilTest (P : Program) (t : TypeId) (x y : Value) : Option Bool :=
  match P.underlying t, x, y with
  | some (.slice _), .slice (some _) _ _, .slice none 0 0 => some false
  | some (.slice _), .slice none 0 0, .slice (some _) _ _ => some false
  | some (.map _ _), .map (some _), .map none => some false
  | some (.map _ _), .map none, .map (some _) => some false
  | some (.func _ _ _), .func _ _ _, .nilFunc => some false
  | some (.func _ _ _), .nilFunc, .func _ _ _ => some false
  | some (.pointer _), .pointer (some _), .pointer none => some false
  | some (.pointer _), .pointer none, .pointer (some _) => some false
  | _, _, _ => none

def aBinS (P : Program) (op : BinOp) (t : TypeId) (xo yo : Operand) (x y : Value) : Option Value :=
  if plain x && plain y then (pureRun P (do eqGuard op t xo yo x y; binOp op t x y)).bind fun r => if plain1 r then some r else none
  else match op with
    | .eql => (nilTest P t x y).map .bool
    | .neq => (nilTest P t x y).map fun b => .bool (!b)
    | _ => none

/-- Whole numbers that are not negative, in short. -/
def fNat (op : BinOp) (a b : Nat) : Option Value :=
  match op with
  | .add => match Nat.ble (Nat.add a b) 9223372036854775807 with
    | true => some (.int .i64 (.ofNat (Nat.add a b)))
    | false => none
  | .sub => match Nat.ble b a && Nat.ble a 9223372036854775807 with
    | true => some (.int .i64 (.ofNat (Nat.sub a b)))
    | false => none
  | .mul => match Nat.ble (Nat.mul a b) 9223372036854775807 with
    | true => some (.int .i64 (.ofNat (Nat.mul a b)))
    | false => none
  | .eql => some (.bool (Nat.beq a b))
  | .neq => some (.bool (Nat.beq a b).not)
  | .lss => some (.bool (Nat.ble (Nat.succ a) b))
  | .leq => some (.bool (Nat.ble a b))
  | .gtr => some (.bool (Nat.ble (Nat.succ b) a))
  | .geq => some (.bool (Nat.ble b a))
  | _ => none

def fBin (op : BinOp) (x y : Value) : Option Value :=
  match x with
  | .int .i64 (.ofNat a) => match y with
    | .int .i64 (.ofNat b) => fNat op a b
    | _ => none
  | _ => none

def aBin (P : Program) (op : BinOp) (t : TypeId) (xo yo : Operand) (x y : Value) : Option Value :=
  match fBin op x y with
  | some r => some r
  | none => aBinS P op t xo yo x y

def aField (P : Program) (t : TypeId) (x : Value) (i : Nat) : Option Value :=
  match P.underlying t, x with
  | some (.struct fields), .agg cs => (fields[i]?).bind fun f => aPart P f.type cs f.offset
  | _, _ => none

def aIndex (P : Program) (t : TypeId) (x ix : Value) : Option Value :=
  match P.underlying t, x, ix with
  | some (.array len elem), .agg cs, .int _ i => if 0 ≤ i ∧ i < len then (szT P elem).bind fun n => aPart P elem cs (i.toNat * n) else none
  | some .string, .string s, .int _ i => if 0 ≤ i then (s[i.toNat]?).map fun b => .int .u8 b.toNat else none
  | _, _, _ => none

def aIndexAddr (P : Program) (t : TypeId) (x ix : Value) : Option Value :=
  match P.underlying t, x, ix with
  | some (.array len elem), .pointer (some ⟨b, o, none⟩), .int _ i => if 0 ≤ i ∧ i < len then (szT P elem).map fun n => .pointer (some ⟨b, o + i.toNat * n, none⟩) else none
  | some (.slice elem), .slice (some ⟨b, o, none⟩) len _, .int _ i => if 0 ≤ i ∧ i < len then (szT P elem).map fun n => .pointer (some ⟨b, o + i.toNat * n, none⟩) else none
  | _, _, _ => none

def aFieldAddr (P : Program) (t : TypeId) (x : Value) (i : Nat) : Option Value :=
  match P.underlying t, x with
  | some (.struct fields), .pointer (some ⟨b, o, none⟩) => (fields[i]?).bind fun f => match szT P f.type with
    | some (_ + 1) => some (.pointer (some ⟨b, o + f.offset, none⟩))
    | _ => none
  | _, _ => none

def aBound (x : Value) (y : Nat) : Option Nat :=
  match x with
  | .int _ i => if 0 ≤ i ∧ i ≤ y then some i.toNat else none
  | _ => none

def aBounds (len cap : Nat) (low high max : Option Value) : Option (Nat × Nat × Nat) :=
  (match max with | some v => aBound v cap | none => some cap).bind fun m =>
  (match high, max with
    | some v, some _ => aBound v m
    | some v, none => aBound v m
    | none, none => some len
    | none, some _ => none).bind fun h =>
  (match low with | some v => aBound v h | none => some 0).map fun l => (l, h, m)

/-- The bounds of a slice whose capacity is not known, but is at least lim. -/
def aBoundsU (len lim : Nat) (low high max : Option Value) : Option (Nat × Nat × Option Nat) :=
  (match max with | some v => (aBound v lim).map some | none => some none).bind fun m =>
  (match high with
    | some v => aBound v (m.getD lim)
    | none => if m.isSome then none else some len).bind fun h =>
  (match low with | some v => aBound v h | none => some 0).map fun l => (l, h, m)

def optEnv (ρ : Env) : Option Operand → Option (Option Value)
  | none => some none
  | some x => (ρ x).map some

def aSlice (P : Program) (H : AH) (t : TypeId) (x : Value) (low high max : Option Value) : Option Value :=
  match P.underlying t, x with
  | some .string, .string s => if max.isSome then none else (aBounds s.size s.size low high none).map fun (l, h, _) => .string (s.extract l h)
  | some (.slice elem), .slice none 0 0 => (szT P elem).bind fun _ => (aBounds 0 0 low high max).map fun _ => .slice none 0 0
  | some (.slice elem), .slice (some ⟨b, o, none⟩) len cap => (szT P elem).bind fun size =>
    if cap = capU then match H.get b with
      | some (.row c _ zz) => if zz = size ∧ 0 < size ∧ Nat.max len ((c.length - o) / size) < capU then (aBoundsU len (Nat.max len ((c.length - o) / size)) low high max).map fun (l, h, m) => match m with
          | none => .slice (some ⟨b, o + l * size, none⟩) (h - l) capU
          | some m => .slice (some ⟨b, if m = l then o else o + l * size, none⟩) (h - l) (m - l)
        else none
      | _ => none
    else if capU < cap then none else (aBounds len cap low high max).map fun (l, h, m) => .slice (some ⟨b, if m = l then o else o + l * size, none⟩) (h - l) (m - l)
  | some (.array n elem), .pointer (some ⟨b, o, none⟩) => (szT P elem).bind fun size =>
    if capU ≤ n then none else (aBounds n n low high max).map fun (l, h, m) => .slice (some ⟨b, if m = l then o else o + l * size, none⟩) (h - l) (m - l)
  | _, _ => none

end Go.Abs

noncomputable section
namespace Go.Abs

/-- The cells of what is appended or copied: the first n elements. -/
def aFirst (H : AH) (size n : Nat) : Value → Option (List Value)
  | .slice none 0 0 => if n = 0 then some [] else none
  | .slice (some ⟨b, o, none⟩) _ _ => if n * size = 0 then some [] else rowCells H b o (n * size)
  | .string s => some ((s.data.toList.take n).map fun b => .int .u8 b.toNat)
  | _ => none

def aLen : Value → Option Nat
  | .slice none 0 0 => some 0
  | .slice (some ⟨_, _, none⟩) n _ => some n
  | .string s => some s.size
  | _ => none

def isIntT (P : Program) (t : TypeId) : Bool :=
  match P.underlying t with
  | some (.int _) => true
  | _ => false

def zerosOf (z : List Value) : Nat → List Value
  | 0 => []
  | n + 1 => z ++ zerosOf z n

/-- What is appended: how many elements, and their cells. -/
def aAppended (P : Program) (H : AH) (xt : TypeId) (size bytes : Nat) (z : List Value) (x : Value) : Option (Nat × List Value) :=
  match P.underlying xt with
  | some (.int _) => match x with
    | .int .i64 n => if 0 ≤ n ∧ n * bytes ≤ 281474976710656 ∧ n < 9223372036854775808 then some (n.toNat, zerosOf z n.toNat) else none
    | _ => none
  | some (.slice _) => match x with
    | .slice _ _ _ => (aLen x).bind fun n => (aFirst H size n x).bind fun l => if l.length = n * size then some (n, l) else none
    | _ => none
  | some .string => match x with
    | .string _ => (aLen x).bind fun n => (aFirst H size n x).bind fun l => if l.length = n * size then some (n, l) else none
    | _ => none
  | _ => none

def aGrow (H : AH) (elem size bytes len n : Nat) (old new : List Value) : Option ARes :=
  if (len + n) * bytes ≤ 140737488355328 then
    (aNewRow H (old ++ new) elem size).map fun (b', H') => .val (.slice (some ⟨b', 0, none⟩) (len + n) capU) H'
  else none

def aOld (H : AH) (size b o len : Nat) : Option (List Value) := if len = 0 then some [] else rowCells H b o (len * size)

/-- Append to a slice whose capacity is not known: the old array is not used any more. -/
def aAppU (bar : Nat) (H : AH) (elem size bytes n : Nat) (new : List Value) (b o len : Nat) : Option ARes :=
  if bar ≤ b ∧ (len + n) * bytes ≤ 140737488355328 ∧ new.all one then
    match H.get b with
    | some (.row _ t zz) => if t = elem ∧ zz = size then
        (aOld H size b o len).bind fun old =>
        ((H.put b .dead).alloc (.row (old ++ new) elem size)).map fun H' => .val (.slice (some ⟨H.next, 0, none⟩) (len + n) capU) H'
      else none
    | _ => none
  else none

/-- Append to a slice whose capacity is not known, within what is known to be there. -/
def aAppV (bar : Nat) (H : AH) (elem size bytes n : Nat) (new : List Value) (b o len : Nat) : Option ARes :=
  match H.get b with
  | some (.row c _ zz) =>
    if zz = size ∧ o + (len + n) * size ≤ c.length then (aWrite bar H b (o + len * size) new).map fun H' => .val (.slice (some ⟨b, o, none⟩) (len + n) capU) H'
    else aAppU bar H elem size bytes n new b o len
  | _ => none

def aAppX (bar : Nat) (H : AH) (elem size bytes n : Nat) (new : List Value) (b o len cap : Nat) : Option ARes :=
  if len + n ≤ cap then (aWrite bar H b (o + len * size) new).map fun H' => .val (.slice (some ⟨b, o, none⟩) (len + n) cap) H'
  else (aOld H size b o len).bind fun old => aGrow H elem size bytes len n old new

def aAppS (bar : Nat) (H : AH) (elem size bytes n : Nat) (new : List Value) (s : Value) : Option ARes :=
  match s with
  | .slice none 0 0 => if n = 0 then some (.val (.slice none 0 0) H) else aGrow H elem size bytes 0 n [] new
  | .slice (some ⟨b, o, none⟩) len cap =>
    if n = 0 then some (.val (.slice (some ⟨b, o, none⟩) len cap) H)
    else if cap = capU then aAppV bar H elem size bytes n new b o len else aAppX bar H elem size bytes n new b o len cap
  | _ => none

def aAppend (P : Program) (bar : Nat) (H : AH) (ts : Array TypeId) (args : Array Value) : Option ARes :=
  match ts.toList, args.toList with
  | [st, xt], [s, x] =>
    match P.underlying st with
    | some (.slice elem) => (szT P elem).bind fun size => (P.info? elem).bind fun info => (zeroT P elem).bind fun zv =>
      if size = 0 ∨ zv.cells.toList.length ≠ size ∨ zv.cells.toList.all plain1 = false ∨ info.bytes = 0 then none else
      (aAppended P H xt size info.bytes zv.cells.toList x).bind fun p => aAppS bar H elem size info.bytes p.1 p.2 s
    | _ => none
  | _, _ => none

def aCopy (P : Program) (bar : Nat) (H : AH) (ts : Array TypeId) (args : Array Value) : Option ARes :=
  match ts[0]?, args[0]?, args[1]? with
  | some dt, some d, some s =>
    match P.underlying dt with
    | some (.slice elem) => (szT P elem).bind fun size => (aLen d).bind fun dl => (aLen s).bind fun sl =>
      let n := Nat.min sl dl
      (aFirst H size n s).bind fun cells =>
      match d with
      | .slice none 0 0 => some (.val (goInt n) H)
      | .slice (some ⟨b, o, none⟩) _ _ => (aWrite bar H b o cells).map fun H' => .val (goInt n) H'
      | _ => none
    | _ => none
  | _, _, _ => none

def aLenB (P : Program) (H : AH) (ts : Array TypeId) (args : Array Value) : Option Value :=
  match ts[0]?, args[0]? with
  | some t, some x =>
    match P.underlying t, x with
    | some .string, .string s => some (goInt s.size)
    | some (.array n _), _ => some (goInt n)
    | some (.slice _), .slice none 0 0 => some (goInt 0)
    | some (.slice _), .slice (some _) n _ => some (goInt n)
    | some (.map _ _), .map none => some (goInt 0)
    | some (.map _ _), .map (some r) => match H.get r with
      | some (.map es _) => some (goInt es.length)
      | _ => none
    | _, _ => none
  | _, _ => none

def aCapB (P : Program) (ts : Array TypeId) (args : Array Value) : Option Value :=
  match ts[0]?, args[0]? with
  | some t, some x =>
    match P.underlying t, x with
    | some (.array n _), _ => some (goInt n)
    | some (.slice _), .slice none 0 0 => some (goInt 0)
    | some (.slice _), .slice (some _) _ c => if c = capU then none else some (goInt c)
    | _, _ => none
  | _, _ => none

def aClear (P : Program) (bar : Nat) (H : AH) (ts : Array TypeId) (args : Array Value) : Option AH :=
  match ts[0]?, args[0]? with
  | some t, some x =>
    match P.underlying t, x with
    | some (.slice _), .slice none 0 0 => some H
    | some (.slice elem), .slice (some ⟨b, o, none⟩) n _ => if n = 0 then some H else
      (zeroT P elem).bind fun zv => if zv.cells.toList.all plain1 then aWrite bar H b o (zerosOf zv.cells.toList n) else none
    | _, _ => none
  | _, _ => none

def bytesOf : List Value → Option (List UInt8)
  | [] => some []
  | .int .u8 n :: r => (bytesOf r).map (UInt8.ofNat n.toNat :: ·)
  | _ => none

def aConvert (P : Program) (H : AH) (src dst : TypeId) (x : Value) : Option ARes :=
  match P.underlying src, P.underlying dst, x with
  | some _, some (.int k), .int _ n => some (.val (.int k (k.wrap n)) H)
  | some .string, some (.slice e), .string s => match P.underlying e with
    | some (.int .u8) => (aNewRow H (s.data.toList.map fun b => .int .u8 b.toNat) e 1).map fun (b, H') => .val (.slice (some ⟨b, 0, none⟩) s.size capU) H'
    | _ => none
  | some (.slice e), some .string, .slice none 0 0 => match P.underlying e with
    | some (.int .u8) => some (.val (.string .empty) H)
    | _ => none
  | some (.slice e), some .string, .slice (some ⟨b, o, none⟩) len _ => match P.underlying e with
    | some (.int .u8) => ((if len = 0 then some [] else rowCells H b o len).bind bytesOf).map fun l => .val (.string ⟨l.toArray⟩) H
    | _ => none
  | some .string, some .string, .string s => some (.val (.string s) H)
  | _, _, _ => none

def aMakeSlice (P : Program) (H : AH) (t : TypeId) (len cap : Value) : Option ARes :=
  match P.underlying t, len, cap with
  | some (.slice elem), .int _ l, .int _ c =>
    (P.info? elem).bind fun info => (zeroT P elem).bind fun zv =>
      let z := zv.cells.toList
      if 0 ≤ l ∧ l ≤ c ∧ c < 9223372036854775808 ∧ info.bytes * c ≤ 281474976710656 ∧ z.length = info.size ∧ z.all plain1 = true then
        (aNewRow H (zerosOf z c.toNat) elem info.size).map fun (b, H') => .val (.slice (some ⟨b, 0, none⟩) l.toNat c.toNat) H'
      else none
  | _, _, _ => none

def aMakeMap (P : Program) (H : AH) (t : TypeId) (reserve : Option Value) : Option ARes :=
  (match reserve with
   | none => some ()
   | some (.int _ _) => match P.underlying t with | some (.map _ _) => some () | _ => none
   | some _ => none).bind fun _ => (H.alloc (.map [] 0)).map fun H' => .val (.map (some H.next)) H'

/-- Where a key stands among some entries. -/
def aFind (P : Program) (kt : TypeId) (k : Value) (es : List MapEntry) : Option (Option (Nat × Value)) :=
  pureRun P (Instr.findKey kt k es)

def keysPlain (es : List MapEntry) : Bool := es.all fun e => plain e.key

def aLookup (P : Program) (H : AH) (t : TypeId) (x k : Value) (ok : Bool) : Option Value :=
  match P.underlying t with
  | some (.map kt et) => (zeroT P et).bind fun z => if plain k && plain z then
      (match x with
       | .map none => some []
       | .map (some r) => match H.get r with
         | some (.map es _) => some es
         | _ => none
       | _ => none).bind fun es =>
      (pureRun P (Instr.checkKey es.isEmpty 10000 kt k)).bind fun _ =>
      if keysPlain es then
        (aFind P kt k es).map fun (f : Option (Nat × Value)) => match f with
          | some p => if ok then .tuple #[p.2, .bool true] else p.2
          | none => if ok then .tuple #[z, .bool false] else z
      else none
    else none
  | _ => none

def aMapUpdate (P : Program) (bar : Nat) (H : AH) (t : TypeId) (m k v : Value) : Option AH :=
  match P.underlying t, m with
  | some (.map kt _), .map (some r) => if plain k && decide (bar ≤ r) then
      match H.get r with
      | some (.map es ck) => if keysPlain es then
          (pureRun P (Instr.checkKey false 10000 kt k)).bind fun _ =>
          (aFind P kt k es).bind fun f => match f with
          | some (i, _) => match es[i]? with
            | some e => if Instr.sameBits 10000 e.key k then some (H.put r (.map (es.modify i fun e => { e with key := k, val := v }) ck)) else none
            | none => none
          | none => some (H.put r (.map (es ++ [{ key := k, val := v, born := ck }]) (ck + 1)))
        else none
      | _ => none
    else none
  | _, _ => none

def aDelete (P : Program) (bar : Nat) (H : AH) (ts : Array TypeId) (args : Array Value) : Option AH :=
  match ts[0]?, args[0]?, args[1]? with
  | some t, some m, some k =>
    match P.underlying t, m with
    | some (.map kt _), .map (some r) => if plain k && decide (bar ≤ r) then
        match H.get r with
        | some (.map es ck) => if keysPlain es then
            (pureRun P (Instr.checkKey es.isEmpty 10000 kt k)).bind fun _ =>
            (aFind P kt k es).map fun f => match f with
            | some (i, _) => H.put r (.map (es.eraseIdx i) ck)
            | none => H.put r (.map es ck)
          else none
        | _ => none
      else none
    | _, _ => none
  | _, _, _ => none

def aExtract (x : Value) (i : Nat) : Option Value :=
  match x with
  | .tuple vs => vs[i]?
  | _ => none

def aMakeIface (P : Program) (t : TypeId) (x : Value) : Option Value :=
  match P.underlying t with
  | some (.interface _) => none
  | some _ => some (.iface t x)
  | none => none

def aTypeAssert (P : Program) (x : Value) (_xt asserted : TypeId) (ok : Bool) : Option Value :=
  match P.underlying asserted, x with
  | some (.interface _), _ => none
  | some _, .iface t v => if t = asserted then some (if ok then .tuple #[v, .bool true] else v)
      else if ok then (zeroT P asserted).bind fun z => if plain z then some (.tuple #[z, .bool false]) else none else none
  | some _, .nilIface => if ok then (zeroT P asserted).bind fun z => if plain z then some (.tuple #[z, .bool false]) else none else none
  | _, _ => none

/-- A value, or some of them, without addresses. -/
def plainT : Value → Bool
  | .tuple vs => vs.toList.all plain1
  | v => plain1 v

def aCallFunc (P : Program) (H : AH) (f : FuncId) (args : List Value) : Option ARes :=
  match P.funcs[f]? with
  | some fn => if fn.body.isNone then
      (if args.all plain1 then (pureRun P (callFunc f args.toArray)).bind fun nx => match nx with
        | .value v => if plainT v then some (.val v H) else none
        | _ => none
      else none)
    else if fn.name == "runtime.NumGoroutine" then none else some (.call f args.toArray H)
  | none => none

def aBuiltin (P : Program) (bar : Nat) (H : AH) (b : Builtin) (ts : Array TypeId) (args : Array Value) : Option ARes :=
  match b with
  | .append => aAppend P bar H ts args
  | .copy => aCopy P bar H ts args
  | .len => val H (aLenB P H ts args)
  | .cap => val H (aCapB P ts args)
  | .clear => (aClear P bar H ts args).map (.val (.tuple #[]) ·)
  | .delete => (aDelete P bar H ts args).map (.val (.tuple #[]) ·)
  | .max => if args.toList.all plain1 then val H ((pureRun P (Builtin.max_ ts 0 args)).bind fun r => if plain1 r then some r else none) else none
  | .min => if args.toList.all plain1 then val H ((pureRun P (Builtin.min_ ts 0 args)).bind fun r => if plain1 r then some r else none) else none
  | _ => none

def aCall (P : Program) (bar : Nat) (ρ : Env) (H : AH) (c : Call) : Option ARes :=
  (mapEnv ρ c.args.toList).bind fun args =>
  match c.callee with
  | .builtin b => aBuiltin P bar H b c.argTypes args.toArray
  | .value f => match ρ f with
    | some (.func (.func f) first captured) => aCallFunc P H f (first.toList ++ args ++ captured.toList)
    | _ => none
  | .invoke _ _ => none

def aop (P : Program) (bar : Nat) (ρ : Env) (H : AH) (op : Op) : Option ARes :=
  match op with
  | .move x | .assign x => val H (ρ x)
  | .pick c a b => val H (aPick ρ c a b)
  | .alloc t => aAlloc P H t
  | .box t x => (ρ x).bind fun v => aBox P H t v
  | .build t parts => (pairEnv ρ parts.toList).bind fun ps => val H (aBuild P t ps)
  | .buildSlice t n parts => (pairEnv ρ parts.toList).bind fun ps => aBuildSlice P H t n ps
  | .load t a => match ρ a with
    | some (.pointer (some ⟨b, o, none⟩)) => val H (aLoad P H t b o)
    | _ => none
  | .store t a x => match ρ a, ρ x with
    | some (.pointer (some ⟨b, o, none⟩)), some v => (aStore P bar H t b o v).map (.val undef ·)
    | _, _ => none
  | .nilCheck x => (ρ x).bind fun v => val H (aNilCheck v)
  | .binOp op t x y _ => match ρ x, ρ y with
    | some a, some b => val H (aBin P op t x y a b)
    | _, _ => none
  | .unOp op _ x => (ρ x).bind fun v => if plain1 v then val H ((pureRun P (Op.unary op v)).bind fun r => if plain1 r then some r else none) else none
  | .convert s d x => (ρ x).bind fun v => aConvert P H s d v
  | .makeInterface t x => (ρ x).bind fun v => val H (aMakeIface P t v)
  | .makeFunc (.func fn) first captured => (mapEnv ρ first.toList).bind fun a => (mapEnv ρ captured.toList).bind fun b => val H (some (.func (.func fn) a.toArray b.toArray))
  | .makeMap t r => (optEnv ρ r).bind fun r => aMakeMap P H t r
  | .makeSlice t l c => match ρ l, ρ c with
    | some a, some b => aMakeSlice P H t a b
    | _, _ => none
  | .slice t x lo hi mx => (ρ x).bind fun v => (optEnv ρ lo).bind fun lo => (optEnv ρ hi).bind fun hi => (optEnv ρ mx).bind fun mx => val H (aSlice P H t v lo hi mx)
  | .fieldAddr t x i => (ρ x).bind fun v => val H (aFieldAddr P t v i)
  | .field t x i => (ρ x).bind fun v => val H (aField P t v i)
  | .indexAddr t x i => match ρ x, ρ i with
    | some a, some b => val H (aIndexAddr P t a b)
    | _, _ => none
  | .index t x i => match ρ x, ρ i with
    | some a, some b => val H (aIndex P t a b)
    | _, _ => none
  | .lookup t x i ok => match ρ x, ρ i with
    | some a, some b => val H (aLookup P H t a b ok)
    | _, _ => none
  | .mapUpdate t m k x => match ρ m, ρ k, ρ x with
    | some a, some b, some c => (aMapUpdate P bar H t a b c).map (.val undef ·)
    | _, _, _ => none
  | .insert t m k x => match ρ m, ρ k, ρ x with
    | some a, some b, some c => (aMapUpdate P bar H t a b c).map (.val undef ·)
    | _, _, _ => none
  | .typeAssert x xt t ok => (ρ x).bind fun v => val H (aTypeAssert P v xt t ok)
  | .extract x i => (ρ x).bind fun v => val H (aExtract v i)
  | .call c => aCall P bar ρ H c
  | _ => none

end Go.Abs
