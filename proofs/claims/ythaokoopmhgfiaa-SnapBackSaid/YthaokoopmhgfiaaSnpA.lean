import Derived.Test.YthaokoopmhgfiaaSnpT
import Derived.Test.YthaokoopmhgfiaaM5
import Derived.IntWalk
set_option linter.unusedVariables false
set_option linter.unusedSimpArgs false
set_option linter.defProp false
noncomputable section
namespace Go.Proofs.Ythaokoopmhgfiaa
open Go.Sym Go.Abu Go.Pev
set_option maxRecDepth 100000
def U (n : Nat) : PV := .v (.int .u64 (n : Int))
def I64 (n : Int) : Prop := -9223372036854775808 ≤ n ∧ n ≤ 9223372036854775807
theorem phi {g : FuncId} {vs rs : List PV} (h : Ans D g vs rs) : PhiS D g vs = some rs := phi_eq h
theorem c45 {n : Int} (h : I64 n) : Ans D 45 [.i64 n] [U n.natAbs] := by
 obtain ⟨h1, h2⟩ := h;refine ans_of k45_ok s45 rfl ⟨1, ?_⟩;unfold k45;simp only [EV, decide_eq_true_eq];by_cases hn : n < 0
 ·rw [if_pos hn, w_u64, w_u64];unfold U
  congr 4
  omega
 ·rw [if_neg hn, w_u64];unfold U
  congr 4
  omega
theorem c48 {n : Int} (h : I64 n) : Ans D 48 [.i64 n] [U n.natAbs] := by
 obtain ⟨h1, h2⟩ := h;refine ans_of k48_ok s48 rfl ⟨1, ?_⟩;unfold k48;simp only [EV, decide_eq_true_eq];by_cases hn : n < 0
 ·rw [if_pos hn, w_u64, w_u64, IntKind.wrap_i64, IntKind.wrap_i64];unfold U
  congr 4
  omega
 ·rw [if_neg hn, w_u64];unfold U
  congr 4
  omega
theorem gcd_loop {Φ : PhT} {V : FuncId → Bool} {N : Nat} {f : JT} {p q : PV} : ∀ (n a b : Nat), b < n → denW Φ V N k50_1 [f] [p, q] n [U b, U a] = f [U (Nat.gcd b a)]
 | 0, a, b, h => by omega
 | n + 1, a, b, h => by
  rw [denW_succ];unfold k50_1 U;simp only [EV, decide_eq_true_eq, i_rem];by_cases hb : 0 < b
  ·rw [if_pos (by omega), if_neg (by omega)];simp only [EV];have := gcd_loop (Φ := Φ) (V := V) (N := N) (f := f) (p := p) (q := q) n b (a % b) (by have := Nat.mod_lt a hb; omega);unfold k50_1 U at this;rw [← Nat.gcd_rec b a] at this;rw [← this];rfl
  ·rw [if_neg (by omega)];have : b = 0 := by omega
   subst this;rw [Nat.gcd_zero_left]
theorem c50 (a b : Nat) : Ans D 50 [U a, U b] [U (Nat.gcd b a)] := by
 refine ans_of k50_ok s50 rfl ⟨b + 1, ?_⟩;unfold k50;simp only [EV];rw [gcd_loop _ _ _ (Nat.lt_succ_self b)];unfold k50_2 U;simp only [EV]
theorem common_loop {Φ : PhT} {V : FuncId → Bool} {N : Nat} {f : JT} {p q : PV} : ∀ (n a b : Nat), b < n → denW Φ V N k47_1 [f] [p, q] n [U b, U a] = f [U (Nat.gcd b a)]
 | 0, a, b, h => by omega
 | n + 1, a, b, h => by
  rw [denW_succ];unfold k47_1 U;simp only [EV, i_rem, Bool.not_eq_true', decide_eq_false_iff_not];by_cases hb : 0 < b
  ·rw [if_pos (by omega), if_neg (by omega)];simp only [EV];have := common_loop (Φ := Φ) (V := V) (N := N) (f := f) (p := p) (q := q) n b (a % b) (by have := Nat.mod_lt a hb; omega);unfold k47_1 U at this;rw [← Nat.gcd_rec b a] at this;rw [← this];rfl
  ·rw [if_neg (by omega)];have : b = 0 := by omega
   subst this;rw [Nat.gcd_zero_left]
theorem c47 (a b : Nat) : Ans D 47 [U a, U b] [U (Nat.gcd b a)] := by
 refine ans_of k47_ok s47 rfl ⟨b + 1, ?_⟩;unfold k47;simp only [EV];rw [common_loop _ _ _ (Nat.lt_succ_self b)];unfold k47_2 U;simp only [EV]
structure Rat where
 num : Int
 den : Int
 deriving DecidableEq
def R (r : Rat) : PV := .agg [.i64 r.num, .i64 r.den]
def Rat.in64 (r : Rat) : Prop := I64 r.num ∧ I64 r.den
def Rat.ok (r : Rat) : Bool := decide (1 ≤ r.den) && !decide (r.num = -9223372036854775808) && decide (Nat.gcd r.num.natAbs r.den.natAbs = 1)
def okE (b : Bool) : Int := if b then 0 else 8
theorem u64_pos {d : Int} (h : 0 ≤ d) (k : d ≤ 9223372036854775807) : PV.v (.int .u64 (IntKind.u64.wrap d)) = U d.natAbs := by
 unfold U;rw [w_u64]
 congr 2
 omega
theorem c44 {r : Rat} (h : r.in64) : Ans D 44 [R r] [.i64 (okE r.ok)] := by
 obtain ⟨⟨n1, n2⟩, d1, d2⟩ := h;refine ans_of k44_ok s44 rfl ⟨1, ?_⟩;unfold k44 R;simp only [EV, decide_eq_true_eq, if_true, Nat.zero_add, Nat.reduceAdd, phi (c45 ⟨n1, n2⟩)];by_cases hd : r.den < 1
 ·rw [if_pos hd];unfold Rat.ok;rw [decide_eq_false (by omega)];rfl
 ·rw [if_neg hd];by_cases hn : r.num = -9223372036854775808
  ·rw [if_pos hn];unfold Rat.ok;rw [decide_eq_true hn];simp [okE]
  ·rw [if_neg hn, u64_pos (by omega) d2, phi (c50 _ _)];simp only [EV, U, decide_eq_true_eq];have hg : 0 < Nat.gcd r.num.natAbs r.den.natAbs := Nat.gcd_pos_of_pos_right _ (by omega);unfold Rat.ok;by_cases h1 : (Nat.gcd r.num.natAbs r.den.natAbs) = 1
   ·rw [if_neg (by omega), decide_eq_true h1, decide_eq_true (show 1 ≤ r.den by omega), decide_eq_false hn]
    rfl
   ·rw [if_pos (by omega), decide_eq_false h1, Bool.and_false];rfl
theorem c39 {r : Rat} (h : r.in64) : Ans D 39 [R r] [.i64 (okE r.ok)] := by
 obtain ⟨⟨n1, n2⟩, d1, d2⟩ := h;refine ans_of k39_ok s39 rfl ⟨1, ?_⟩;unfold k39 R;simp only [EV, decide_eq_true_eq, if_true, Nat.zero_add, Nat.reduceAdd, phi (c48 ⟨n1, n2⟩)];by_cases hd : r.den < 1
 ·rw [if_pos hd];unfold Rat.ok;rw [decide_eq_false (by omega)];rfl
 ·rw [if_neg hd];by_cases hn : r.num = -9223372036854775808
  ·rw [if_pos hn];unfold Rat.ok;rw [decide_eq_true hn];simp [okE]
  ·rw [if_neg hn, u64_pos (by omega) d2, phi (c47 _ _)];simp only [EV, U, Bool.not_eq_true', decide_eq_false_iff_not];unfold Rat.ok;rw [Nat.gcd_comm];by_cases h1 : (Nat.gcd r.num.natAbs r.den.natAbs) = 1
   ·rw [if_neg (by omega), decide_eq_true h1, decide_eq_true (show 1 ≤ r.den by omega), decide_eq_false hn]
    rfl
   ·rw [if_pos (by omega), decide_eq_false h1, Bool.and_false];rfl
def Rat.small (r : Rat) : Bool := decide (r.num.natAbs ≤ 1073741824) && decide (r.den ≤ 1024)
def Rat.asked (r : Rat) : Int := if r.ok then (if r.small then 0 else 2) else 8
theorem c37 {r : Rat} (h : r.in64) : Ans D 37 [R r] [.i64 r.asked] := by
 refine ans_of k37_ok s37 rfl ⟨1, ?_⟩;unfold k37;have h0 := phi (c44 h);unfold R at h0 ⊢;simp only [EV, if_true, Nat.zero_add, Nat.reduceAdd, h0, phi (c45 h.1), Bool.not_eq_true', decide_eq_false_iff_not, U, decide_eq_true_eq];unfold Rat.asked okE;cases r.ok with
 | false => rfl
 | true =>
  rw [if_neg (by simp)];unfold Rat.small;by_cases h1 : 1073741824 < (r.num.natAbs : Int)
  ·rw [if_pos h1, decide_eq_false (show ¬ r.num.natAbs ≤ 1073741824 by omega)]
   rfl
  ·rw [if_neg h1, decide_eq_true (show r.num.natAbs ≤ 1073741824 by omega)]
   by_cases h2 : 1024 < r.den
   ·rw [if_pos h2, decide_eq_false (by omega)]; rfl
   ·rw [if_neg h2, decide_eq_true (by omega)]; rfl
theorem c29 {r : Rat} (h : r.in64) : Ans D 29 [R r] [.i64 r.asked] := by
 refine ans_of k29_ok s29 rfl ⟨1, ?_⟩;unfold k29;have h0 := phi (c39 h);unfold R at h0 ⊢;simp only [EV, if_true, Nat.zero_add, Nat.reduceAdd, h0, Bool.not_eq_true', decide_eq_false_iff_not, decide_eq_true_eq];unfold Rat.asked okE;cases r.ok with
 | false => rfl
 | true =>
  rw [if_neg (by simp)];unfold Rat.small;by_cases h1 : 1073741824 < r.num
  ·rw [if_pos h1, decide_eq_false (show ¬ r.num.natAbs ≤ 1073741824 by omega)]
   rfl
  ·rw [if_neg h1];by_cases h3 : r.num < -1073741824
   ·rw [if_pos h3, decide_eq_false (show ¬ r.num.natAbs ≤ 1073741824 by omega)]
    rfl
   ·rw [if_neg h3, decide_eq_true (show r.num.natAbs ≤ 1073741824 by omega)]
    by_cases h2 : 1024 < r.den
    ·rw [if_pos h2, decide_eq_false (by omega)]; rfl
    ·rw [if_neg h2, decide_eq_true (by omega)]; rfl
structure Pt where
 id : Int
 a : Int
 b : Int
 deriving DecidableEq
def Pt.row (p : Pt) : List PV := [.i64 p.id, .i64 p.a, .i64 p.b]
def near (n : Int) : Bool := decide (-1048576 ≤ n) && decide (n ≤ 1048576)
def Pt.ok (p : Pt) : Bool := decide (0 ≤ p.id) && decide (p.id ≤ 65535) && near p.a && near p.b
theorem c51 (n : Int) : Ans D 51 [.i64 n] [.bool (!near n)] := by
 refine ans_of k51_ok s51 rfl ⟨1, ?_⟩;unfold k51;simp only [EV, decide_eq_true_eq];unfold k51_1 near;by_cases h1 : n < -1048576
 ·rw [if_pos h1, decide_eq_false (by omega)];simp only [EV];rfl
 ·rw [if_neg h1, decide_eq_true (show -1048576 ≤ n by omega)]
  simp only [EV];by_cases h2 : 1048576 < n
  ·rw [decide_eq_true h2, decide_eq_false (show ¬ n ≤ 1048576 by omega)]; rfl
  ·rw [decide_eq_false h2, decide_eq_true (show n ≤ 1048576 by omega)]; rfl
theorem c40 (p : Pt) : Ans D 40 [.agg p.row] [.i64 (okE p.ok)] := by
 refine ans_of k40_ok s40 rfl ⟨1, ?_⟩;unfold k40 Pt.row;simp only [EV, if_true, Nat.zero_add, Nat.reduceAdd, decide_eq_true_eq];unfold Pt.ok okE near
 repeat' split
 all_goals simp_all
 all_goals omega
theorem c46 (p : Pt) : Ans D 46 [.agg p.row] [.i64 (okE p.ok)] := by
 refine ans_of k46_ok s46 rfl ⟨1, ?_⟩;unfold k46 Pt.row;simp only [EV, if_true, Nat.zero_add, Nat.reduceAdd, decide_eq_true_eq, phi (c51 p.a), phi (c51 p.b)];unfold Pt.ok okE;by_cases h1 : p.id < 0
 ·rw [if_pos h1, decide_eq_false (by omega)]; rfl
 ·rw [if_neg h1, decide_eq_true (show 0 ≤ p.id by omega)]
  by_cases h2 : 65535 < p.id
  ·rw [if_pos h2, decide_eq_false (show ¬ p.id ≤ 65535 by omega)]; rfl
  ·rw [if_neg h2, decide_eq_true (show p.id ≤ 65535 by omega)]
   cases near p.a <;> cases near p.b <;> rfl
end Go.Proofs.Ythaokoopmhgfiaa
