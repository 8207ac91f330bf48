import Derived.Test.YtfghdmmapmdcgaaGreatCU
set_option linter.unusedVariables false
set_option linter.unusedSimpArgs false
set_option linter.defProp false
noncomputable section
namespace Go.Proofs.YtfghdmmapmdcgaaGreat
open Go.Sym Bnd
set_option maxRecDepth 100000
def prow (x : Int × Int) : List PV := [.i64 x.1, .i64 x.2]
theorem lenP (x : Int × Int) : (prow x).length = 2 := rfl
theorem rowP1 (x : Int × Int) : rowPart 0 0 (prow x) = some (.i64 x.1) := rfl
theorem rowP2 (x : Int × Int) : rowPart 1 0 (prow x) = some (.i64 x.2) := rfl
theorem sides_len (l : List Int) (d : Nat) : (sideI l d 0).length + (sideI l d 1).length ≤ l.length := by
 unfold sideI;induction l with
 | nil => simp
 | cons x l ih =>
  rw [List.filter_cons, List.filter_cons, List.length_cons];by_cases h0 : bitI x d = 0
  ·simp only [h0, decide_true, if_true, List.length_cons, Int.reduceEq, decide_false, Bool.false_eq_true, if_false]; omega
  ·by_cases h1 : bitI x d = 1
   ·simp only [h1, decide_true, if_true, List.length_cons, Int.reduceEq, decide_false, Bool.false_eq_true, if_false]; omega
   ·simp only [h0, h1, decide_false, Bool.false_eq_true, if_false]; omega
theorem hangR_len : ∀ (n : Nat) (l : List Int) (f : Int) (d : Nat), l.length ≤ n → (hangR l f d).length ≤ l.length
 | 0, l, f, d, h => by
  have hl : l = [] := List.length_eq_zero_iff.1 (by omega);subst hl;unfold hangR;simp
 | n + 1, [], f, d, _ => by unfold hangR; simp
 | n + 1, o :: os, f, d, h => by
  unfold hangR;simp only [List.length_cons, List.length_append] at h ⊢;have h0 := sideI_le (l := os) (d := d) (b := 0);have h1 := sideI_le (l := os) (d := d) (b := 1);have a := hangR_len n (sideI os d 0) o (d + 1) (by omega);have b := hangR_len n (sideI os d 1) o (d + 1) (by omega);have := sides_len os d;omega
theorem fold_filter {α : Type} (p : α → Bool) : ∀ (l acc : List α), l.foldl (fun acc x => if p x = true then acc ++ [x] else acc) acc = acc ++ l.filter p
 | [], acc => by simp
 | a :: l, acc => by
  rw [List.foldl_cons, fold_filter p l, List.filter_cons];cases p a <;> simp
theorem bsI (x : Int) : RF.ev (.bs 1 [KP.z] [0]) [.i64 x] = some (sl I1 [x]) := rfl
theorem subI1 (x : Int) : RF.ev .sub [sl I1 [x], .v (.int .i64 0), .v (.int .i64 1)] = some (sl I1 [x]) := rfl
theorem bitD {x : Int} (h : 0 ≤ x) (d : Nat) : intB .shr .i64 x .i64 (d : Int) = some (.v (.int .i64 (x.fdiv (2 ^ (min d 64))))) ∧ intB .rem .i64 (x.fdiv (2 ^ (min d 64))) .i64 2 = some (.v (.int .i64 (bitI x d))) := by
 constructor
 ·rw [i_shr, if_neg (by omega), Int.toNat_natCast]; rfl
 ·rw [i_rem, if_neg (by decide)];unfold bitI;have : 0 ≤ x.fdiv (2 ^ (min d 64)) := by
   rw [Int.fdiv_eq_ediv_of_nonneg _ (Int.le_of_lt (Int.pow_pos (by decide)))];exact Int.ediv_nonneg h (Int.le_of_lt (Int.pow_pos (by decide)))
  rw [Int.tmod_eq_emod_of_nonneg this]
theorem c269 : ∀ (n : Nat) (os : List Int) (f : Int) (d : Nat), os.length ≤ n → n ≤ 1000 → d + n ≤ 10000 → (∀ x ∈ os, 0 ≤ x) → Ans D 269 [sl I1 os, .i64 f, .i64 (d : Int)] [sl prow (hangR os f d)] := by
 intro n;induction n with
 | zero =>
  intro os f d h _ _ _;have hl : os = [] := List.length_eq_zero_iff.1 (by omega);subst hl;refine ans_of k269_ok s269 rfl ⟨1001, ?_⟩;unfold k269 hangR;simp only [EV, List.length_map, List.length_nil, Int.natCast_zero, decide_true, if_true];rfl
 | succ n ih =>
  intro os f d h hn hd h0;cases os with
  | nil =>
   refine ans_of k269_ok s269 rfl ⟨1001, ?_⟩;unfold k269 hangR;simp only [EV, List.length_map, List.length_nil, Int.natCast_zero, decide_true, if_true];rfl
  | cons o os =>
   simp only [List.length_cons] at h;have hlen := sides_len os d;have hs : ∀ b, (sideI os d b).length ≤ n ∧ ∀ x ∈ sideI os d b, 0 ≤ x := fun b => ⟨by have := sideI_le (l := os) (d := d) (b := b); omega, fun x hx => h0 x (List.mem_cons_of_mem _ (List.mem_filter.1 hx).1)⟩;have hr := fun b => hangR_len n (sideI os d b) o (d + 1) (hs b).1;have hh := fun b => phi (ih (sideI os d b) o (d + 1) (hs b).1 (by omega) (by omega) (hs b).2);have o0 : (o :: os)[0]? = some o := rfl;have tx0 : RF.ev (.tix 1) [sl I1 (o :: os), .v (.int .i64 0)] = some (.i64 ((0 : Nat) : Int)) := tixM o0 (lenI _);have ag : RF.ev .agg [.i64 o, .i64 f] = some (.agg (prow (o, f))) := rfl;have bs : RF.ev (.bs 1 [KP.z, KP.z] [0]) [.agg (prow (o, f))] = some (sl prow [(o, f)]) := rfl
   let outs : Nat → List (Int × Int) := fun i => match i with | 0 => [(o, f)] | 1 => [(o, f)] ++ hangR (sideI os d 0) o (d + 1) | _ => [(o, f)] ++ hangR (sideI os d 0) o (d + 1) ++ hangR (sideI os d 1) o (d + 1)
   refine ans_of k269_ok s269 rfl ⟨1001, ?_⟩;unfold k269;have ne : decide (((o :: os).length : Int) = 0) = false := decide_eq_false (by simp; omega);simp only [tx0, eltM o0, rowI, ag, bs, EV, List.length_map, ne, Bool.false_eq_true, if_false];refine (run_up (m := 1001) (n := 2) (st := fun i => [sl prow (outs i), .i64 ((outs i).length : Int), .i64 (i : Int)]) (fin := some [sl prow (outs 2)]) (fun i self hi => ?_) (fun self => ?_) (by omega)).trans ?_
   ·unfold k269_5;have l2 : decide ((i : Int) < 2) = true := decide_eq_true (by omega);simp only [EV, l2, eq_self, if_true];have e0 : ([PV.sl [], .v (.int .i64 0), .v (.int .i64 1)] : List PV) = [sl I1 ([] : List Int), .i64 ((([] : List Int).length : Nat) : Int), .i64 ((0 + 1 : Nat) : Int)] := rfl;rw [e0];refine (run_fold (m := 1001) (l := os) (g := fun acc x => if decide (bitI x d = (i : Int)) = true then acc ++ [x] else acc) (I := fun i acc => acc.length ≤ i) (S := fun acc k => [sl I1 acc, .i64 (acc.length : Int), .i64 ((k + 1 : Nat) : Int)]) (fin := fun acc => den (PhiS D) 1001 k269_2 [denJ (PhiS D) 1001 k269_1 [] [sl I1 (o :: os), .i64 f, .i64 (d : Int), .v (.int .i64 ((o :: os).length : Int)), .v (.bool false), .i64 ((0 : Nat) : Int), .i64 o, .agg (prow (o, f)), sl prow [(o, f)]], self] [sl I1 (o :: os), .i64 f, .i64 (d : Int), .v (.int .i64 ((o :: os).length : Int)), .v (.bool false), .i64 ((0 : Nat) : Int), .i64 o, .agg (prow (o, f)), sl prow [(o, f)], sl prow (outs i), .i64 ((outs i).length : Int), .i64 (i : Int), .v (.bool true), .i64 ((os.length + 1 : Nat) : Int), sl I1 acc, .i64 (acc.length : Int), .v (.int .i64 ((o :: os).length : Int)), .v (.bool (decide (((os.length + 1 : Nat) : Int) < ((o :: os).length : Int))))]) (x := []) (by simp) (fun i a acc _ h => by
     split
     ·rw [List.length_append, List.length_singleton]; omega
     ·omega) (fun k x acc self' hx hI => ?_) (fun acc self' hI => ?_) (by omega)).1.trans ?_
    ·have hx' : (o :: os)[k + 1]? = some x := by simpa using hx
     have hk := get_lt hx;obtain ⟨b1, b2⟩ := bitD (h0 x (List.mem_cons_of_mem _ (List.mem_of_getElem? hx))) d;unfold k269_4;simp only [tixM hx' (lenI _), eltM hx', rowI, f_bin, b1, b2, EV, List.length_map, decide_eq_true_eq, if_lt (show k + 1 < (o :: os).length by simp; omega), k269_3]
     by_cases c1 : bitI x d = (i : Int)
     ·rw [if_pos c1, if_pos c1];simp only [tixM hx' (lenI _), eltM hx', rowI, bsI, subI1, appM (f := I1) (l := acc) (k := [x]) (bytes := 8) (z := 1) (by simp; omega) lenI, EV, List.length_map, k269_3, up1 (show k + 1 < 1000000000 by omega)]
     ·rw [if_neg c1, if_neg c1];simp only [EV, k269_3, up1 (show k + 1 < 1000000000 by omega)]
    ·unfold k269_4;simp only [EV, List.length_map, decide_eq_true_eq];rw [if_neg (by simp)]
    ·rw [fold_filter (fun x => decide (bitI x d = (i : Int))), List.nil_append];have hi2 := hh (i : Int);have he : (List.filter (fun x => decide (bitI x d = (i : Int))) os) = sideI os d (i : Int) := rfl;rw [he];unfold k269_2;have ho : (outs i).length ≤ 2000 := by
      have := hr 0
      match i, hi with
      | 0, _ => simp [outs]
      | 1, _ => simp [outs]; omega
     have hn1 : outs i ++ hangR (sideI os d (i : Int)) o (d + 1) = outs (i + 1) := by
      match i, hi with
      | 0, _ => rfl
      | 1, _ => rfl
     have hd1 : IntKind.i64.wrap ((d : Int) + 1) = ((d + 1 : Nat) : Int) := up1 (by omega);simp only [tx0, eltM o0, rowI, subM, EV, hd1, hi2, appM (f := prow) (l := outs i) (k := hangR (sideI os d (i : Int)) o (d + 1)) (bytes := 16) (z := 2) (by have := hr (i : Int); have := (hs (i : Int)).1; omega) lenP, List.length_map, hn1, up1 (show i < 1000000000 by omega)]
   ·unfold k269_5;simp only [EV, show decide (((2 : Nat) : Int) < 2) = false from rfl, Bool.false_eq_true, if_false, k269_1, subM]
   ·unfold hangR;simp only [outs, List.cons_append, List.nil_append]
end Go.Proofs.YtfghdmmapmdcgaaGreat
