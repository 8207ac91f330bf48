import Derived.Test.YtfghdmmapmdcgaaGreatCK
set_option linter.unusedVariables false
set_option linter.unusedSimpArgs false
set_option linter.defProp false
noncomputable section
namespace Go.Sym
open Go.Sym
def foldO {α β : Type} (g : β → α → Option β) : β → List α → Option β
 | x, [] => some x
 | x, a :: l => match g x a with
  | some y => foldO g y l
  | none => none
section
variable {Φ : PhT} {N : Nat} {b : K} {J : List JT} {e : List PV} {α β : Type} {l : List α}
theorem run_step {g : β → α → Option β} {I : β → Prop} {S : β → Nat → List PV} {fin : β → Option (List PV)} {r : Option (List PV)} {x : β} (h0 : I x) (hi : ∀ a acc acc', I acc → g acc a = some acc' → I acc') (hs : ∀ i a acc self, l[i]? = some a → I acc → den Φ N b (J ++ [self]) (e ++ S acc i) = match g acc a with | some acc' => self (S acc' (i + 1)) | none => r)
  (hf : ∀ acc self, I acc → foldO g x l = some acc → den Φ N b (J ++ [self]) (e ++ S acc l.length) = fin acc) {m : Nat} (hm : l.length < m) : denW Φ N b J e m (S x 0) = match foldO g x l with | some acc => fin acc | none => r := by
 have : ∀ (k : List α) i m acc, l.drop i = k → i ≤ l.length → k.length < m → I acc → foldO g x l = foldO g acc k → denW Φ N b J e m (S acc i) = match foldO g acc k with | some acc => fin acc | none => r := by
  intro k;induction k with
  | nil =>
   intro i m acc h hi' hm hI hx;obtain ⟨m, rfl⟩ : ∃ m', m = m' + 1 := ⟨m - 1, by omega⟩;have := drop_len h hi';have hil : i = l.length := by simpa using this
   rw [denW_succ, hil];exact hf _ _ hI hx
  | cons a k ih =>
   intro i m acc h hi' hm hI hx;obtain ⟨m, rfl⟩ : ∃ m', m = m' + 1 := ⟨m - 1, by omega⟩;obtain ⟨h1, h2⟩ := dropC h;have := drop_len h hi';simp only [List.length_cons] at hm this;rw [denW_succ, hs i a acc _ h1 hI];have hu : foldO g acc (a :: k) = match g acc a with | some y => foldO g y k | none => none := rfl
   rw [hu] at hx ⊢;cases hg : g acc a with
   | none => rfl
   | some acc' =>
    rw [hg] at hx;exact ih (i + 1) m _ h2 (by omega) (by omega) (hi a acc acc' hI hg) hx
 exact this l 0 m x rfl (by omega) hm h0 rfl
end
end Go.Sym
namespace Go.Proofs.YtfghdmmapmdcgaaGreat
open Go.Sym Bnd
set_option maxRecDepth 100000
theorem markF_fold : ∀ (xs : List Int) (l : List Bool), markF l xs = foldO (fun l x => if 0 ≤ x ∧ x < l.length ∧ l[x.toNat]? = some false then some (l.set x.toNat true) else none) l xs
 | [], l => rfl
 | x :: xs, l => by
  unfold markF foldO;by_cases h : 0 ≤ x ∧ x < l.length ∧ l[x.toNat]? = some false
  ·rw [if_pos h, if_pos h]; exact markF_fold xs _
  ·rw [if_neg h, if_neg h]
theorem setB {l : List Bool} {i : Nat} (h : i < l.length) : RF.ev (.set 0) [sl B1 l, .v (.int .i64 (i : Int)), .v (.bool true)] = some (sl B1 (l.set i true)) := by
 rw [f_set, if_pos (by omega), Int.toNat_natCast, List.getElem?_map, List.getElem?_eq_getElem h];have e : (B1 l[i]).length = 1 := rfl;simp only [Option.map_some, e, show (PV.v (.bool true)).cells = [.v (.bool true)] from rfl, List.length_singleton, Nat.zero_add, Nat.le_refl, if_true]
 exact congrArg (fun x => some (PV.sl x)) (List.map_set (f := B1) (l := l) (i := i) (a := true)).symm
theorem ixM {i n : Nat} (h : i < n) : RF.ev .ix [.v (.int .i64 (i : Int)), .v (.int .i64 (n : Int))] = some (.i64 (i : Int)) := by
 rw [f_ix, if_pos (by omega)]
theorem natI {x : Int} (h : 0 ≤ x) : ∃ n : Nat, x = (n : Int) := ⟨x.toNat, by omega⟩
theorem bbE (a b : Bool) : RF.ev (.bbin .eql) [.v (.bool a), .v (.bool b)] = some (.v (.bool (a == b))) := rfl
open Classical in
theorem c345 (s : Slots) (hf : s.free.length ≤ 1000) : Ans D 345 [SL s] [.i64 (okE (decide s.okR))] := by
 refine ans_of k345_ok s345 rfl ⟨1001, ?_⟩;unfold k345;simp only [den_lt, shSL, cSL0, cSL1, cSL2, EV, List.length_map, decide_eq_true_eq, Bool.not_eq_true', decide_eq_false_iff_not];have no : ∀ h : ¬ s.okR, (some [PV.v (.int .i64 8)] : Option (List PV)) = some [.i64 (okE (decide s.okR))] := fun h => by rw [decide_eq_false h]; rfl
 by_cases h1 : s.uses.length < 1
 ·rw [if_pos (by omega)];exact no (fun h => by have := h.1; omega)
 ·rw [if_neg (by omega)];by_cases h2 : 200 < s.uses.length
  ·rw [if_pos (by omega)];exact no (fun h => by have := h.2.1; omega)
  ·rw [if_neg (by omega)];by_cases h3 : s.used.length = s.uses.length
   ·rw [if_neg (by omega)];by_cases h4 : s.uses.length < s.free.length
    ·rw [if_pos (by omega)];exact no (fun h => by have := h.2.2.2.1; omega)
    ·rw [if_neg (by omega)];have hrep : RF.ev (.rep [.v (.bool false)] 1) [.v (.int .i64 (s.uses.length : Int)), .v (.int .i64 (s.uses.length : Int))] = some (sl B1 (List.replicate s.uses.length false)) := by
      rw [f_rep, if_pos ⟨by omega, by omega, by omega, by omega⟩, Int.toNat_natCast];show _ = some (PV.sl ((List.replicate s.uses.length false).map B1))
      rw [List.map_replicate];rfl
     simp only [hrep, denF_some, l_cons, l_nil, den_lt, EV, List.length_map, List.length_replicate];refine (run_step (l := s.free) (g := fun l x => if 0 ≤ x ∧ x < l.length ∧ l[x.toNat]? = some false then some (l.set x.toNat true) else none) (I := fun l => l.length = s.uses.length) (S := fun l i => [sl B1 l, .i64 (i : Int)]) (r := some [.i64 8])
      (fin := fun _ => some [.i64 (okE (decide s.okR))]) (x := List.replicate s.uses.length false) (by simp) (fun a acc acc' hI hg => ?_) (fun i x acc self hx hI => ?_) (fun acc self hI hm => ?_) (by omega)).trans ?_
     ·split at hg
      ·cases hg; simpa using hI
      ·cases hg
     ·unfold k345_5;have hi := get_lt hx;simp only [den_lt, cSL2, tixM hx (lenI _), eltM hx, rowI, EV, List.length_map, decide_eq_true_eq, if_lt hi];by_cases c1 : x < 0
      ·rw [if_pos c1, if_neg (by omega)]
      ·rw [if_neg c1];by_cases c2 : (s.uses.length : Int) ≤ x
       ·rw [if_pos c2, if_neg (by rw [hI]; omega)]
       ·rw [if_neg c2];obtain ⟨n, rfl⟩ := natI (show 0 ≤ x by omega)
        obtain ⟨b, hb⟩ : ∃ b, acc[n]? = some b := ⟨acc[n]'(by omega), List.getElem?_eq_getElem _⟩;simp only [den_lt, cSL2, tixM hx (lenI _), eltM hx, rowI, ixM (show n < s.uses.length by omega), eltM hb, rowB, setB (show n < acc.length by omega), EV, up1 (show i < 1000000000 by omega)]
        cases b with
        | true => rw [if_pos rfl, if_neg (by rw [Int.toNat_natCast, hb]; simp)]
        | false => rw [if_neg (by simp), if_pos ⟨by omega, by omega, by rw [Int.toNat_natCast]; exact hb⟩, Int.toNat_natCast]
     ·unfold k345_5;simp only [den_lt, cSL2, EV, List.length_map, decide_eq_true_eq, if_ge, k345_4];rw [← markF_fold] at hm;have hlist : (List.range s.uses.length).length = s.uses.length := List.length_range;refine (run_if (n := s.uses.length) (P := fun i => ∀ (u : Int) (b c : Bool), s.uses[i]? = some u → s.used[i]? = some b → acc[i]? = some c → 0 ≤ u ∧ u ≤ 1000000 ∧ b ≠ c ∧ ¬ (b = true ∧ u < 1)) (st := fun i => [.i64 (i : Int)]) (r := some [.i64 8]) (fin := some [.i64 0]) (fun i self hi _ => ?_) (fun _ self => ?_) (by omega)).trans ?_
      ·obtain ⟨u, hu⟩ : ∃ u, s.uses[i]? = some u := ⟨s.uses[i], List.getElem?_eq_getElem _⟩;obtain ⟨b, hb⟩ : ∃ b, s.used[i]? = some b := ⟨s.used[i]'(by omega), List.getElem?_eq_getElem _⟩;obtain ⟨c, hc⟩ : ∃ c, acc[i]? = some c := ⟨acc[i]'(by omega), List.getElem?_eq_getElem _⟩;have hP : (∀ (u' : Int) (b' c' : Bool), s.uses[i]? = some u' → s.used[i]? = some b' → acc[i]? = some c' → 0 ≤ u' ∧ u' ≤ 1000000 ∧ b' ≠ c' ∧ ¬ (b' = true ∧ u' < 1)) ↔ (0 ≤ u ∧ u ≤ 1000000 ∧ b ≠ c ∧ ¬ (b = true ∧ u < 1)) :=
        ⟨fun h => h u b c hu hb hc, fun h u' b' c' h1 h2 h3 => by rw [hu] at h1; rw [hb] at h2; rw [hc] at h3; cases h1; cases h2; cases h3; exact h⟩
       unfold k345_3;simp only [hP, den_lt, cSL0, cSL1, tixM hu (lenI _), eltM hu, rowI, tixM hb (lenB _), eltM hb, rowB, ixM hi, eltM hc, bbE, EV, decide_eq_true_eq, if_lt hi, k345_2, up1 (show i < 1000000000 by omega)]
       by_cases c1 : u < 0
       ·simp only [if_pos c1, eq_self, if_true];rw [if_neg (fun h => by omega)]
       ·simp only [if_neg c1];by_cases c2 : 1000000 < u
        ·simp only [if_pos c2, eq_self, if_true];rw [if_neg (fun h => by omega)]
        ·simp only [if_neg c2];cases b <;> cases c <;> simp only [beq_self_eq_true, Bool.false_eq_true, if_true, if_false, eq_self, ne_eq, not_true_eq_false, not_false_eq_true, false_and, and_false, true_and, and_true, decide_eq_true_eq, show (true == false) = false from rfl, show (false == true) = false from rfl, reduceCtorEq]
         ·rw [if_pos (by omega)]
         ·by_cases c3 : u < 1
          ·rw [if_pos c3, if_neg (fun h => by omega)]
          ·rw [if_neg c3, if_pos (by omega)]
      ·unfold k345_3;simp only [EV, decide_eq_true_eq, if_ge, k345_1]
      ·have : (∀ i, i < s.uses.length → ∀ (u : Int) (b c : Bool), s.uses[i]? = some u → s.used[i]? = some b → acc[i]? = some c → 0 ≤ u ∧ u ≤ 1000000 ∧ b ≠ c ∧ ¬ (b = true ∧ u < 1)) ↔ s.okR := by
        unfold Slots.okR;constructor
        ·intro h;exact ⟨by omega, by omega, h3, by omega, acc, hm, fun i u b c hu hb hc => h i (get_lt hu) u b c hu hb hc⟩
        ·rintro ⟨_, _, _, _, l, hl, h⟩ i hi u b c hu hb hc;rw [hm] at hl; cases hl;exact h i u b c hu hb hc
       by_cases hr : s.okR
       ·rw [if_pos (this.2 hr), decide_eq_true hr]; rfl
       ·rw [if_neg (fun h => hr (this.1 h)), decide_eq_false hr]; rfl
     ·rw [← markF_fold];cases hm : markF (List.replicate s.uses.length false) s.free with
      | some l => rfl
      | none => exact no (fun h => by obtain ⟨_, _, _, _, l, hl, _⟩ := h; rw [hm] at hl; cases hl)
   ·rw [if_pos (by omega)];exact no (fun h => h3 h.2.2.1)
end Go.Proofs.YtfghdmmapmdcgaaGreat
