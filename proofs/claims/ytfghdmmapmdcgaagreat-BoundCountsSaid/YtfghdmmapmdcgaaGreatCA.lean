import Derived.Test.YtfghdmmapmdcgaaGreatBcT
import Derived.Test.YtfghdmmapmdcgaaGreatBL
import Derived.IntWalk
set_option linter.unusedVariables false
set_option linter.unusedSimpArgs false
set_option linter.defProp false
noncomputable section
namespace Go.Proofs.YtfghdmmapmdcgaaGreat
open Go.Sym Bnd
set_option maxRecDepth 100000
def U (n : Nat) : PV := .v (.int .u64 (n : Int))
def I64 (n : Int) : Prop := -9223372036854775808 ≤ n ∧ n ≤ 9223372036854775807
theorem phi {g : FuncId} {vs rs : List PV} (h : Ans D g vs rs) : PhiS D g vs = some rs := phi_eq h
theorem ans_of {g : FuncId} {ss : List Sh} {m : Nat} {vs rs : List PV} {k : K} (hk : Kok D g k) (hs : shs D.toDcf g = some (ss, m)) (ha : shBs ss vs = true) (hd : ∃ N, den (PhiS D) N k [] vs = some rs) (hl : rs.length = m := by first | rfl | (split <;> rfl) | (split <;> split <;> rfl) | (split <;> first | rfl | (split <;> first | rfl | split <;> rfl))) : Ans D g vs rs := Go.Sym.ans_of hk hs ha hd hl
theorem c116 {n : Int} (h : I64 n) : Ans D 116 [.i64 n] [U n.natAbs] := by
 obtain ⟨h1, h2⟩ := h;refine ans_of k116_ok s116 rfl ⟨1, ?_⟩;unfold k116;simp only [EV, decide_eq_true_eq];by_cases hn : n < 0
 ·rw [if_pos hn, w_u64, w_u64];unfold U
  congr 4
  omega
 ·rw [if_neg hn, w_u64];unfold U
  congr 4
  omega
theorem c223 {n : Int} (h : I64 n) : Ans D 223 [.i64 n] [U n.natAbs] := by
 obtain ⟨h1, h2⟩ := h;refine ans_of k223_ok s223 rfl ⟨1, ?_⟩;unfold k223;simp only [EV, decide_eq_true_eq];by_cases hn : n < 0
 ·rw [if_pos hn, w_u64, w_u64, IntKind.wrap_i64, IntKind.wrap_i64];unfold U
  congr 4
  omega
 ·rw [if_neg hn, w_u64];unfold U
  congr 4
  omega
theorem gcd_loop {Φ : PhT} {N : Nat} {f : JT} {p q : PV} : ∀ (n a b : Nat), b < n → denW Φ N k115_2 [f] [p, q] n [U b, U a] = f [U (Nat.gcd b a)]
 | 0, a, b, h => by omega
 | n + 1, a, b, h => by
  rw [denW_succ];unfold k115_2 U;simp only [EV, decide_eq_true_eq, i_rem];by_cases hb : 0 < b
  ·rw [if_pos (by omega), if_neg (by omega)];simp only [EV];have := gcd_loop (Φ := Φ) (N := N) (f := f) (p := p) (q := q) n b (a % b) (by have := Nat.mod_lt a hb; omega);unfold k115_2 U at this;rw [← Nat.gcd_rec b a] at this;rw [← this];rfl
  ·rw [if_neg (by omega)];have : b = 0 := by omega
   subst this;rw [Nat.gcd_zero_left]
theorem c115 (a b : Nat) : Ans D 115 [U a, U b] [U (Nat.gcd b a)] := by
 refine ans_of k115_ok s115 rfl ⟨b + 1, ?_⟩;unfold k115;simp only [EV];rw [gcd_loop _ _ _ (Nat.lt_succ_self b)];unfold k115_1 U;simp only [EV]
theorem common_loop {Φ : PhT} {N : Nat} {f : JT} {p q : PV} : ∀ (n a b : Nat), b < n → denW Φ N k222_2 [f] [p, q] n [U b, U a] = f [U (Nat.gcd b a)]
 | 0, a, b, h => by omega
 | n + 1, a, b, h => by
  rw [denW_succ];unfold k222_2 U;simp only [EV, i_rem, Bool.not_eq_true', decide_eq_false_iff_not];by_cases hb : 0 < b
  ·rw [if_pos (by omega), if_neg (by omega)];simp only [EV];have := common_loop (Φ := Φ) (N := N) (f := f) (p := p) (q := q) n b (a % b) (by have := Nat.mod_lt a hb; omega);unfold k222_2 U at this;rw [← Nat.gcd_rec b a] at this;rw [← this];rfl
  ·rw [if_neg (by omega)];have : b = 0 := by omega
   subst this;rw [Nat.gcd_zero_left]
theorem c222 (a b : Nat) : Ans D 222 [U a, U b] [U (Nat.gcd b a)] := by
 refine ans_of k222_ok s222 rfl ⟨b + 1, ?_⟩;unfold k222;simp only [EV];rw [common_loop _ _ _ (Nat.lt_succ_self b)];unfold k222_1 U;simp only [EV]
def R (r : Rt) : PV := .agg [.i64 r.num, .i64 r.den]
def In64 (r : Rt) : Prop := I64 r.num ∧ I64 r.den
def rok (r : Rt) : Bool := decide (1 ≤ r.den) && !decide (r.num = -9223372036854775808) && decide (Nat.gcd r.num.natAbs r.den.natAbs = 1)
def okE (b : Bool) : Int := if b then 0 else 8
theorem u64_pos {d : Int} (h : 0 ≤ d) (k : d ≤ 9223372036854775807) : PV.v (.int .u64 (IntKind.u64.wrap d)) = U d.natAbs := by
 unfold U;rw [w_u64]
 congr 2
 omega
theorem c43 {r : Rt} (h : In64 r) : Ans D 43 [R r] [.i64 (okE (rok r))] := by
 obtain ⟨⟨n1, n2⟩, d1, d2⟩ := h;refine ans_of k43_ok s43 rfl ⟨1, ?_⟩;unfold k43 R;simp only [EV, decide_eq_true_eq, if_true, Nat.zero_add, Nat.reduceAdd, phi (c116 ⟨n1, n2⟩)];by_cases hd : r.den < 1
 ·rw [if_pos hd];unfold rok;rw [decide_eq_false (by omega)];rfl
 ·rw [if_neg hd];by_cases hn : r.num = -9223372036854775808
  ·rw [if_pos hn];unfold rok;rw [decide_eq_true hn];simp [okE]
  ·rw [if_neg hn, u64_pos (by omega) d2, phi (c115 _ _)];simp only [EV, U, decide_eq_true_eq];have hg : 0 < Nat.gcd r.num.natAbs r.den.natAbs := Nat.gcd_pos_of_pos_right _ (by omega);unfold rok;by_cases h1 : (Nat.gcd r.num.natAbs r.den.natAbs) = 1
   ·rw [if_neg (by omega), decide_eq_true h1, decide_eq_true (show 1 ≤ r.den by omega), decide_eq_false hn]
    rfl
   ·rw [if_pos (by omega), decide_eq_false h1, Bool.and_false];rfl
theorem c128 {r : Rt} (h : In64 r) : Ans D 128 [R r] [.i64 (okE (rok r))] := by
 obtain ⟨⟨n1, n2⟩, d1, d2⟩ := h;refine ans_of k128_ok s128 rfl ⟨1, ?_⟩;unfold k128 R;simp only [EV, decide_eq_true_eq, if_true, Nat.zero_add, Nat.reduceAdd, phi (c223 ⟨n1, n2⟩)];by_cases hd : r.den < 1
 ·rw [if_pos hd];unfold rok;rw [decide_eq_false (by omega)];rfl
 ·rw [if_neg hd];by_cases hn : r.num = -9223372036854775808
  ·rw [if_pos hn];unfold rok;rw [decide_eq_true hn];simp [okE]
  ·rw [if_neg hn, u64_pos (by omega) d2, phi (c222 _ _)];simp only [EV, U, Bool.not_eq_true', decide_eq_false_iff_not];unfold rok;rw [Nat.gcd_comm];by_cases h1 : (Nat.gcd r.num.natAbs r.den.natAbs) = 1
   ·rw [if_neg (by omega), decide_eq_true h1, decide_eq_true (show 1 ≤ r.den by omega), decide_eq_false hn]
    rfl
   ·rw [if_pos (by omega), decide_eq_false h1, Bool.and_false];rfl
def small (r : Rt) : Bool := decide (r.num.natAbs ≤ 1073741824) && decide (r.den ≤ 1024)
def asked (r : Rt) : Int := if rok r then (if small r then 0 else 2) else 8
theorem c44 {r : Rt} (h : In64 r) : Ans D 44 [R r] [.i64 (asked r)] := by
 refine ans_of k44_ok s44 rfl ⟨1, ?_⟩;unfold k44;have h0 := phi (c43 h);unfold R at h0 ⊢;simp only [EV, if_true, Nat.zero_add, Nat.reduceAdd, h0, phi (c116 h.1), Bool.not_eq_true', decide_eq_false_iff_not, U, decide_eq_true_eq];unfold asked okE;cases rok r with
 | false => rfl
 | true =>
  rw [if_neg (by simp)];unfold small;by_cases h1 : 1073741824 < (r.num.natAbs : Int)
  ·rw [if_pos h1, decide_eq_false (show ¬ r.num.natAbs ≤ 1073741824 by omega)]
   rfl
  ·rw [if_neg h1, decide_eq_true (show r.num.natAbs ≤ 1073741824 by omega)]
   by_cases h2 : 1024 < r.den
   ·rw [if_pos h2, decide_eq_false (by omega)]; rfl
   ·rw [if_neg h2, decide_eq_true (by omega)]; rfl
theorem c64 {r : Rt} (h : In64 r) : Ans D 64 [R r] [.i64 (asked r)] := by
 refine ans_of k64_ok s64 rfl ⟨1, ?_⟩;unfold k64;have h0 := phi (c128 h);unfold R at h0 ⊢;simp only [EV, if_true, Nat.zero_add, Nat.reduceAdd, h0, Bool.not_eq_true', decide_eq_false_iff_not, decide_eq_true_eq];unfold asked okE;cases rok r with
 | false => rfl
 | true =>
  rw [if_neg (by simp)];unfold small;by_cases h1 : 1073741824 < r.num
  ·rw [if_pos h1, decide_eq_false (show ¬ r.num.natAbs ≤ 1073741824 by omega)]
   rfl
  ·rw [if_neg h1];by_cases h3 : r.num < -1073741824
   ·rw [if_pos h3, decide_eq_false (show ¬ r.num.natAbs ≤ 1073741824 by omega)]
    rfl
   ·rw [if_neg h3, decide_eq_true (show r.num.natAbs ≤ 1073741824 by omega)]
    by_cases h2 : 1024 < r.den
    ·rw [if_pos h2, decide_eq_false (by omega)]; rfl
    ·rw [if_neg h2, decide_eq_true (by omega)]; rfl
def row (p : Pt) : List PV := [.i64 p.id, .i64 p.a, .i64 p.b]
def PP (p : Pt) : PV := .agg (row p)
theorem c239 (p : Pt) : Ans D 239 [PP p] [.i64 (okE p.ok)] := by
 refine ans_of k239_ok s239 rfl ⟨1, ?_⟩;unfold k239 PP row;simp only [EV, if_true, Nat.zero_add, Nat.reduceAdd, decide_eq_true_eq];unfold Pt.ok okE near
 repeat' split
 all_goals simp_all
 all_goals omega
theorem c270 (p : Pt) : Ans D 270 [PP p] [.i64 (okE p.ok)] := by
 refine ans_of k270_ok s270 rfl ⟨1, ?_⟩;unfold k270 PP row;simp only [EV, k270_1, k270_2, if_true, Nat.zero_add, Nat.reduceAdd, decide_eq_true_eq];unfold Pt.ok okE near
 repeat' split
 all_goals simp_all
 all_goals omega
end Go.Proofs.YtfghdmmapmdcgaaGreat
