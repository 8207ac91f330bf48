/- A machine that carries out code on values that are known, and the proof that the model's runs agree with it: one part. -/
import Derived.Test.YtgfhhbgkleimjaaGreatAbsMem2
import Derived.Laws.Rows
noncomputable section
namespace Go.Abs

theorem VRs.length {φ : Ren} {vs as : List Value} : VRs φ vs as → vs.length = as.length
  | .nil => rfl
  | .cons _ t => by simp [t.length]

theorem VRs.get {φ : Ren} : ∀ {vs as : List Value}, VRs φ vs as → ∀ (i : Nat) (a : Value), as[i]? = some a → ∃ v, vs[i]? = some v ∧ VR φ v a
  | _, _, .nil, i, a, h => by simp at h
  | _, _, .cons hv t, i, a, h => by
    cases i with
    | zero => simp at h; subst h; exact ⟨_, by simp, hv⟩
    | succ i => simp at h; obtain ⟨v, h1, h2⟩ := t.get i a h; exact ⟨v, by simpa using h1, h2⟩

theorem VRs.of_get {φ : Ren} : ∀ {vs as : List Value}, vs.length = as.length → (∀ (i : Nat) (a : Value), as[i]? = some a → ∃ v, vs[i]? = some v ∧ VR φ v a) → VRs φ vs as
  | [], [], _, _ => .nil
  | [], _ :: _, h, _ => by simp at h
  | _ :: _, [], h, _ => by simp at h
  | v :: vs, a :: as, h, k => by
    refine .cons ?_ (VRs.of_get (by simpa using h) fun i b hb => ?_)
    · obtain ⟨v', h1, h2⟩ := k 0 a (by simp)
      simp at h1; subst h1; exact h2
    · obtain ⟨v', h1, h2⟩ := k (i + 1) b (by simpa using hb)
      exact ⟨v', by simpa using h1, h2⟩

theorem VRs.append {φ : Ren} {vs as us bs : List Value} (h : VRs φ vs as) (k : VRs φ us bs) : VRs φ (vs ++ us) (as ++ bs) := by
  cases h with
  | nil => exact k
  | cons hv t => exact .cons hv (VRs.append t k)

theorem VRs.take {φ : Ren} : ∀ {vs as : List Value} (n : Nat), VRs φ vs as → VRs φ (vs.take n) (as.take n)
  | _, _, 0, _ => by simpa using .nil
  | _, _, _ + 1, .nil => by simpa using .nil
  | _, _, n + 1, .cons h t => by simpa using .cons h (t.take n)

theorem VRs.drop {φ : Ren} : ∀ {vs as : List Value} (n : Nat), VRs φ vs as → VRs φ (vs.drop n) (as.drop n)
  | _, _, 0, h => by simpa using h
  | _, _, _ + 1, .nil => by simpa using .nil
  | _, _, n + 1, .cons h t => by simpa using t.drop n

theorem one_rel {φ : Ren} {v a : Value} (h : VR φ v a) : one v = one a := by cases h <;> rfl

theorem ones_rel {φ : Ren} : ∀ {vs as : List Value}, VRs φ vs as → as.all one = true → ∀ v ∈ vs, one v = true
  | _, _, .nil, _, v, hv => by simp at hv
  | _, _, .cons h t, hall, v, hv => by
    simp only [List.all_cons, Bool.and_eq_true] at hall
    rcases List.mem_cons.1 hv with rfl | hv
    · rw [one_rel h]; exact hall.1
    · exact ones_rel t hall.2 v hv

/-- What stands in a list from a place on: the place before it first, so that reading in turn costs little. -/
def dropF (c : List Value) (o : Nat) : List Value := Nat.rec c (fun _ ih => List.rec [] (fun _ t _ => t) ih) o
def takeF (n : Nat) : List Value → Option (List Value) :=
  Nat.rec (fun _ => some []) (fun _ ih l => List.rec none (fun x t _ => Option.rec none (fun r => some (x :: r)) (ih t)) l) n

theorem dropF_eq (c : List Value) : ∀ o, dropF c o = c.drop o
  | 0 => rfl
  | o + 1 => by
    have h : dropF c (o + 1) = (dropF c o).tail := by
      show _ = List.tail (dropF c o)
      cases h : dropF c o
      · have : dropF c (o + 1) = List.rec [] (fun _ t _ => t) (dropF c o) := rfl
        rw [this, h]
        rfl
      · have : dropF c (o + 1) = List.rec [] (fun _ t _ => t) (dropF c o) := rfl
        rw [this, h]
        rfl
    rw [h, dropF_eq c o, List.tail_drop]

theorem takeF_eq : ∀ (n : Nat) (l : List Value), takeF n l = if (l.take n).length = n then some (l.take n) else none
  | 0, l => by simp; rfl
  | n + 1, [] => by simp; rfl
  | n + 1, x :: t => by
    have h : takeF (n + 1) (x :: t) = Option.rec none (fun r => some (x :: r)) (takeF n t) := rfl
    rw [h, takeF_eq n t]
    by_cases e : (t.take n).length = n
    · rw [if_pos e, if_pos (by simp only [List.take_succ_cons, List.length_cons]; omega)]
      rfl
    · rw [if_neg e, if_neg (by simp only [List.take_succ_cons, List.length_cons]; omega)]

/-- n cells of a row, from place o on. -/
def cellsAt (c : List Value) (o n : Nat) : Option (List Value) := takeF n (dropF c o)

theorem cellsAt_eq (c : List Value) (o n : Nat) : cellsAt c o n = if ((c.drop o).take n).length = n then some ((c.drop o).take n) else none := by
  unfold cellsAt
  rw [dropF_eq, takeF_eq]

theorem cellsAt_get {c l : List Value} {o n : Nat} (h : cellsAt c o n = some l) : l.length = n ∧ ∀ i, i < n → l[i]? = c[o + i]? := by
  rw [cellsAt_eq] at h
  split at h
  · rename_i hl
    cases h
    refine ⟨hl, fun i hi => ?_⟩
    rw [List.getElem?_take, if_pos hi, List.getElem?_drop]
  · cases h

theorem load_row (P : Program) {φ : Ren} {H : AH} {bar base : Nat} {w : World} (hs : Sim φ H bar base w) {b : Nat} {r : RB} (hφ : φ b = some r) {c : List Value} {t : TypeId} {z : Nat}
    (hg : H.get b = some (.row c t z)) {o n : Nat} {l : List Value} (hl : cellsAt c o n = some l) :
    ∃ vs, VRs φ vs l ∧ (loadCells ⟨r.c, r.s + o, none⟩ n).run P w = .ok vs.toArray w := by
  obtain ⟨arr, fz, h1, h2, h3, h4, h5, h6⟩ := hs.obj b r _ hφ hg
  obtain ⟨hn, hget⟩ := cellsAt_get hl
  have key : ∀ i, i < n → ∃ v, arr[r.s + (o + i)]? = some v ∧ ∀ a, l[i]? = some a → VR φ v a := by
    intro i hi
    have hli : l[i]? = some (l[i]'(by omega)) := by simp
    obtain ⟨v, hv, hr⟩ := h5 (o + i) (l[i]'(by omega)) (by rw [← hget i hi]; exact hli)
    exact ⟨v, hv, fun a ha => by rw [hli] at ha; cases ha; exact hr⟩
  let vs := (List.range n).map fun i => arr[r.s + (o + i)]?.getD undef
  have hvl : vs.length = n := by simp [vs]
  have hvg : ∀ i, i < n → ∃ v, vs[i]? = some v ∧ arr[r.s + (o + i)]? = some v := by
    intro i hi
    obtain ⟨v, hv, _⟩ := key i hi
    exact ⟨v, by simp [vs, hi, hv], hv⟩
  refine ⟨vs, VRs.of_get (by omega) fun i a ha => ?_, ?_⟩
  · have hi : i < n := by have := (List.getElem?_eq_some_iff.1 ha).1; omega
    obtain ⟨v, e1, e2⟩ := hvg i hi
    obtain ⟨v', e3, e4⟩ := key i hi
    rw [e2] at e3; cases e3
    exact ⟨v, e1, e4 a ha⟩
  · have := run_loadCells_list (P := P) w ⟨r.c, r.s + o, none⟩ vs (fun j v hv => by
      have hj : j < n := by have := (List.getElem?_eq_some_iff.1 hv).1; omega
      obtain ⟨v', e1, e2⟩ := hvg j hj
      rw [hv] at e1; cases e1
      rw [add_plain]
      simp only [World.cell?, h1]
      rw [← Nat.add_assoc] at e2
      simpa using e2)
    rw [hvl] at this
    exact this

theorem store_row (P : Program) {φ : Ren} {H : AH} {bar base : Nat} {w : World} (hs : Sim φ H bar base w) {b : Nat} {r : RB} (hφ : φ b = some r) (hb : bar ≤ b) {c : List Value} {t : TypeId} {z : Nat}
    (hg : H.get b = some (.row c t z)) {o : Nat} {vs as c' : List Value} (hw : wr c o as = some c') (hv : VRs φ vs as) (h1 : as.all one = true) (hn : as ≠ []) :
    ∃ w', (storeCells ⟨r.c, r.s + o, none⟩ vs).run P w = .ok () w' ∧ Step φ H bar base w φ (H.put b (.row c' t z)) w' := by
  obtain ⟨arr, fz, g1, g2, g3, g4, g5, g6⟩ := hs.obj b r _ hφ hg
  obtain ⟨e1, e2, e3⟩ := wr_spec c o as c' hw
  have e2 : o + as.length ≤ c.length := e2.resolve_left hn
  have hlen := hv.length
  obtain ⟨w', arr', f1, f2, f3, f4, f5⟩ := run_storeCells P r.c (r.s + o) t fz vs 0 w arr g1 g6 (by omega) (ones_rel hv h1)
  refine ⟨w', f1, hs.update hφ hb ⟨_, hg, by simp⟩ f2 ⟨arr', fz, f3, by omega, ⟨g3.1, by rw [g3.2, e1]⟩, by omega, fun i a ha => ?_, by rw [f4]; exact g6⟩⟩
  rw [e3 i] at ha
  by_cases hi : o ≤ i ∧ i < o + as.length
  · rw [if_pos hi] at ha
    obtain ⟨v, k1, k2⟩ := hv.get _ a ha
    refine ⟨v, ?_, k2⟩
    rw [f5, if_pos (by omega)]
    have : r.s + i - (r.s + o + 0) = i - o := by omega
    rw [this]; exact k1
  · rw [if_neg hi] at ha
    obtain ⟨v, k1, k2⟩ := g5 i a ha
    refine ⟨v, ?_, k2⟩
    rw [f5, if_neg (by omega)]
    exact k1

theorem run_newRow (P : Program) (w : World) (t : TypeId) (arr : Array Value) : (newRow t arr).run P w = .ok ⟨w.heap.size, 0, none⟩ (w.alloc (.cells arr t)) := by
  unfold newRow newObj
  rw [Sem.run_bind]
  rfl

theorem unfrozen00 (n : Nat) : Unfrozen n (0, 0) := fun i _ h => by simp at h

/-- A new row; the concrete one may be longer. -/
theorem new_row {φ : Ren} {H H' : AH} {bar base : Nat} {w : World} (hs : Sim φ H bar base w) {as : List Value} {t : TypeId} {z : Nat} (ha : H.alloc (.row as t z) = some H') {arr : Array Value}
    (hsz : as.length ≤ arr.size) (hv : ∀ (i : Nat) (a : Value), as[i]? = some a → ∃ v, arr[i]? = some v ∧ VR φ v a) :
    Step φ H bar base w (upd φ H.next ⟨w.heap.size, 0, arr.size, z, as.length⟩) H' (w.alloc (.cells arr t)) := by
  refine hs.alloc ha _ rfl ⟨arr, (0, 0), ?_, rfl, ⟨rfl, rfl⟩, by simpa using hsz, fun i a hi => ?_, unfrozen00 _⟩
  · show (w.heap.push _)[w.heap.size]? = _
    simp
  · obtain ⟨v, h1, h2⟩ := hv i a hi
    exact ⟨v, by simpa using h1, h2.mono (upd_le hs _)⟩

theorem upd_self (φ : Ren) (b : Nat) (r : RB) : upd φ b r b = some r := by simp [upd]

end Go.Abs
