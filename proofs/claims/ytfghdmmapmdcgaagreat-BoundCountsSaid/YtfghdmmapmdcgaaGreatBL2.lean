import Derived.Test.YtfghdmmapmdcgaaGreatBL
set_option linter.unusedVariables false
set_option linter.unusedSimpArgs false
set_option linter.defProp false
noncomputable section
namespace Go.Sym
open Go.Sym
section
variable {Φ : PhT} {N : Nat} {b : K} {J : List JT} {e : List PV} {α β : Type} {l : List α}
theorem dropC {i : Nat} {a : α} {k : List α} (h : l.drop i = a :: k) : l[i]? = some a ∧ l.drop (i + 1) = k := by
 have hi : i < l.length := by
  rcases Nat.lt_or_ge i l.length with g | g
  ·exact g
  ·rw [List.drop_eq_nil_of_le g] at h; cases h
 rw [List.drop_eq_getElem_cons hi] at h;cases h;exact ⟨List.getElem?_eq_getElem hi, rfl⟩
theorem drop_len {i : Nat} {k : List α} (h : l.drop i = k) (hi : i ≤ l.length) : i + k.length = l.length := by
 rw [← h, List.length_drop]; omega
theorem run_find {p : α → Bool} {st : Nat → List PV} {ret : Nat → Option (List PV)} {fin : Option (List PV)} (hs : ∀ i a self, l[i]? = some a → den Φ N b (J ++ [self]) (e ++ st i) = if p a = true then ret i else self (st (i + 1)))
  (hf : ∀ self, den Φ N b (J ++ [self]) (e ++ st l.length) = fin) {m : Nat} (hm : l.length < m) : denW Φ N b J e m (st 0) = (l.findIdx? p).elim fin ret := by
 have : ∀ (k : List α) i m, l.drop i = k → i ≤ l.length → k.length < m → denW Φ N b J e m (st i) = (k.findIdx? p).elim fin (fun j => ret (j + i)) := by
  intro k;induction k with
  | nil =>
   intro i m h hi hm;obtain ⟨m, rfl⟩ : ∃ m', m = m' + 1 := ⟨m - 1, by omega⟩;have := drop_len h hi;rw [denW_succ, show i = l.length by simpa using this]
   exact hf _
  | cons a k ih =>
   intro i m h hi hm;obtain ⟨m, rfl⟩ : ∃ m', m = m' + 1 := ⟨m - 1, by omega⟩;obtain ⟨h1, h2⟩ := dropC h;have := drop_len h hi;rw [denW_succ, hs i a _ h1, List.findIdx?_cons];simp only [List.length_cons] at hm this;cases hp : p a with
   | true => simp
   | false =>
    simp only [Bool.false_eq_true, if_false];rw [ih (i + 1) m h2 (by omega) (by omega)];cases k.findIdx? p <;> simp [Nat.add_assoc, Nat.add_comm 1 i]
 have := this l 0 m rfl (by omega) hm;rw [this];cases l.findIdx? p <;> rfl
theorem run_list {p : α → Bool} {st : Nat → List PV} {fin r : Option (List PV)} (hs : ∀ i a self, l[i]? = some a → (l.take i).all p = true → den Φ N b (J ++ [self]) (e ++ st i) = if p a = true then self (st (i + 1)) else r)
  (hf : l.all p = true → ∀ self, den Φ N b (J ++ [self]) (e ++ st l.length) = fin) {m : Nat} (hm : l.length < m) : denW Φ N b J e m (st 0) = if l.all p = true then fin else r := by
 have : ∀ (k : List α) i m, l.drop i = k → i ≤ l.length → k.length < m → (l.take i).all p = true → denW Φ N b J e m (st i) = if k.all p = true then fin else r := by
  intro k;induction k with
  | nil =>
   intro i m h hi hm ht;obtain ⟨m, rfl⟩ : ∃ m', m = m' + 1 := ⟨m - 1, by omega⟩;have := drop_len h hi;have hil : i = l.length := by simpa using this
   rw [hil, List.take_length] at ht;rw [denW_succ, hil];exact hf ht _
  | cons a k ih =>
   intro i m h hi hm ht;obtain ⟨m, rfl⟩ : ∃ m', m = m' + 1 := ⟨m - 1, by omega⟩;obtain ⟨h1, h2⟩ := dropC h;have := drop_len h hi;rw [denW_succ, hs i a _ h1 ht, List.all_cons];simp only [List.length_cons] at hm this;cases hp : p a with
   | false => simp
   | true =>
    simp only [if_true, Bool.true_and];refine ih (i + 1) m h2 (by omega) (by omega) ?_;rw [List.take_add_one, h1, List.all_append, ht];simp [hp]
 exact this l 0 m rfl (by omega) hm (by simp)
theorem run_fold {g : β → α → β} {I : Nat → β → Prop} {S : β → Nat → List PV} {fin : β → Option (List PV)} {x : β} (h0 : I 0 x) (hi : ∀ i a acc, l[i]? = some a → I i acc → I (i + 1) (g acc a)) (hs : ∀ i a acc self, l[i]? = some a → I i acc → den Φ N b (J ++ [self]) (e ++ S acc i) = self (S (g acc a) (i + 1)))
  (hf : ∀ acc self, I l.length acc → den Φ N b (J ++ [self]) (e ++ S acc l.length) = fin acc) {m : Nat} (hm : l.length < m) : denW Φ N b J e m (S x 0) = fin (l.foldl g x) ∧ I l.length (l.foldl g x) := by
 have : ∀ (k : List α) i m acc, l.drop i = k → i ≤ l.length → k.length < m → I i acc → denW Φ N b J e m (S acc i) = fin (k.foldl g acc) ∧ I l.length (k.foldl g acc) := by
  intro k;induction k with
  | nil =>
   intro i m acc h hi' hm hI;obtain ⟨m, rfl⟩ : ∃ m', m = m' + 1 := ⟨m - 1, by omega⟩;have := drop_len h hi';have hil : i = l.length := by simpa using this
   rw [hil] at hI;rw [denW_succ, hil];exact ⟨hf _ _ hI, hI⟩
  | cons a k ih =>
   intro i m acc h hi' hm hI;obtain ⟨m, rfl⟩ : ∃ m', m = m' + 1 := ⟨m - 1, by omega⟩;obtain ⟨h1, h2⟩ := dropC h;have := drop_len h hi';simp only [List.length_cons] at hm this;rw [denW_succ, hs i a acc _ h1 hI, List.foldl_cons];exact ih (i + 1) m _ h2 (by omega) (by omega) (hi i a acc h1 hI)
 exact this l 0 m x rfl (by omega) hm h0
end
section
variable {α : Type} {f : α → List PV} {l : List α}
theorem tixM {i z : Nat} {a : α} (h : l[i]? = some a) (hz : (f a).length = z) : RF.ev (.tix z) [.sl (l.map f), .v (.int .i64 (i : Int))] = some (.i64 (i : Int)) := by
 rw [f_tix, if_pos (by omega), Int.toNat_natCast, List.getElem?_map, h];simp only [Option.map_some, hz, if_true]
theorem eltM {i o n : Nat} {a : α} (h : l[i]? = some a) : RF.ev (.elt o n) [.sl (l.map f), .v (.int .i64 (i : Int))] = rowPart o n (f a) := by
 rw [f_elt, if_pos (by omega), Int.toNat_natCast, List.getElem?_map, h];rfl
theorem up1 {i : Nat} (h : i < 1000000000) : IntKind.i64.wrap ((i : Int) + 1) = ((i + 1 : Nat) : Int) := by rw [w_i64 (by omega) (by omega)]; rfl
theorem down1 {i : Nat} (h : i < 1000000000) : IntKind.i64.wrap (((i + 1 : Nat) : Int) - 1) = (i : Int) := by rw [w_i64 (by omega) (by omega)]; omega
theorem get_lt {i : Nat} {a : α} (h : l[i]? = some a) : i < l.length := (List.getElem?_eq_some_iff.1 h).1
theorem if_lt {i n : Nat} {γ : Type} {x y : γ} (h : i < n) : (if (i : Int) < (n : Int) then x else y) = x := if_pos (by omega)
theorem if_ge {n : Nat} {γ : Type} {x y : γ} : (if (n : Int) < (n : Int) then x else y) = y := if_neg (by omega)
theorem subM : RF.ev .sub [.sl (l.map f), .v (.int .i64 0), .v (.int .i64 (l.length : Int))] = some (.sl (l.map f)) := by
 rw [f_sub, if_pos ⟨by omega, by omega, by rw [List.length_map]; omega⟩, Int.toNat_natCast];simp only [Int.toNat_zero, List.drop_zero];rw [List.take_of_length_le (by simp)]
theorem appM {bytes z : Nat} {k : List α} (h : (l.length + k.length) * bytes ≤ 140737488355328) (hz : ∀ a, (f a).length = z) : RF.ev (.app bytes z) [.sl (l.map f), .v (.int .i64 (l.length : Int)), .sl (k.map f)] = some (.sl ((l ++ k).map f)) := by
 rw [f_app, if_pos]
 ·rw [Int.toNat_natCast, List.take_of_length_le (by simp)];simp
 ·rw [List.length_map, List.length_map, Int.toNat_natCast];refine ⟨by omega, by omega, h, ?_⟩;cases k with
  | nil => rfl
  | cons a k => simp [elsOk', hz]
end
def ixOf {α : Type} (p : α → Bool) (l : List α) : Int := (l.findIdx? p).elim (-1) fun i => (i : Int)
theorem ixOf_nonneg {α : Type} {p : α → Bool} {l : List α} : 0 ≤ ixOf p l ↔ l.any p = true := by
 unfold ixOf;cases h : l.findIdx? p with
 | none =>
  rw [List.findIdx?_eq_none_iff] at h;simp only [Option.elim_none, List.any_eq_true];constructor
  ·intro h; omega
  ·rintro ⟨x, h1, h2⟩; rw [h x h1] at h2; cases h2
 | some i =>
  simp only [Option.elim_some, List.any_eq_true];obtain ⟨h1, h2, _⟩ := List.findIdx?_eq_some_iff_getElem.1 h;exact ⟨fun _ => ⟨_, List.getElem_mem h1, h2⟩, fun _ => by omega⟩
theorem ixOf_dec {α : Type} {p : α → Bool} {l : List α} : decide (0 ≤ ixOf p l) = l.any p := by
 rw [Bool.eq_iff_iff, decide_eq_true_eq];exact ixOf_nonneg
end Go.Sym
