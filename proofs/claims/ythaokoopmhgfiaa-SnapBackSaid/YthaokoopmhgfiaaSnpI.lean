import Derived.Test.YthaokoopmhgfiaaSnpF
set_option linter.unusedVariables false
set_option linter.unusedSimpArgs false
set_option linter.defProp false
noncomputable section
namespace Go.Proofs.Ythaokoopmhgfiaa
open Go.Sym Go.Abu Go.Pev
set_option maxRecDepth 100000
def sizeE (n : Int) : List PV := if 0 ≤ n ∧ n ≤ 64 then [.i64 (10 + 8 * n), .i64 0] else [.i64 0, .i64 2]
theorem size_ev (n : Int) {Φ : PhT} {V : FuncId → Bool} {N : Nat} : den Φ V N k15 [] [.i64 n] = some (sizeE n) := by
 unfold k15 sizeE;simp only [EV, decide_eq_true_eq];by_cases h1 : n < 0
 ·rw [if_pos h1, if_neg (by omega)]
 ·rw [if_neg h1];by_cases h2 : 64 < n
  ·rw [if_pos h2, if_neg (by omega)]
  ·rw [if_neg h2, if_pos (by omega), w_i64 (show -9223372036854775808 ≤ 8 * n by omega) (by omega), w_i64 (by omega) (by omega)]
theorem c15 (n : Int) : Ans D 15 [.i64 n] (sizeE n) := ans_of k15_ok s15 rfl ⟨1, size_ev n⟩
theorem c16 (n : Int) : Ans D 16 [.i64 n] (sizeE n) := ans_of k16_ok s16 rfl ⟨1, size_ev n⟩
def val : List Int → Int → Int
 | [], a => a
 | x :: l, a => val l (a * 256 + x)
theorem B_get (l : List Int) (i : Nat) : (B l)[i]? = (l[i]?).map fun x => [.v (.int .u8 x)] := by simp [B]
theorem btix {l : List Int} {i : Nat} {x : Int} (h : l[i]? = some x) : RF.ev (.tix 1) [.sl (B l), .v (.int .i64 (i : Int))] = some (.i64 (i : Int)) := by
 rw [f_tix, if_pos (by omega), Int.toNat_natCast, B_get, h];rfl
theorem belt {l : List Int} {i : Nat} {x : Int} (h : l[i]? = some x) : RF.ev (.elt 0 0) [.sl (B l), .v (.int .i64 (i : Int))] = some (.v (.int .u8 x)) := by
 rw [f_elt, if_pos (by omega), Int.toNat_natCast, B_get, h];rfl
theorem B_take (l : List Int) (n : Nat) : (B l).take n = B (l.take n) := by simp [B, List.map_take]
theorem B_drop (l : List Int) (n : Nat) : (B l).drop n = B (l.drop n) := by simp [B, List.map_drop]
theorem B_els (l : List Int) : elsOk' 1 (B l) = true := by cases l <;> rfl
theorem B_elsok (l : List Int) : Pev.elsOk 1 (B l) = true := by
 induction l with
 | nil => rfl
 | cons x l ih =>
  show Pev.elsOk 1 ([.v (.int .u8 x)] :: B l) = true
  simp only [Pev.elsOk] at ih ⊢;simp_all
theorem btsub {l : List Int} {a b : Nat} (h : a ≤ b) (k : b ≤ l.length) : RF.ev (.tsub 1) [.sl (B l), .v (.int .i64 (a : Int)), .v (.int .i64 (b : Int))] = some (.sl (B ((l.drop a).take (b - a)))) := by
 rw [f_tsub, if_pos ⟨by omega, by omega, by rw [B_len]; omega, B_els l, by decide⟩, Int.toNat_natCast, Int.toNat_natCast, B_drop, B_take]
theorem bnd_ok {a b : Nat} (h : a ≤ b) : RF.ev .bnd [.v (.int .i64 (a : Int)), .v (.int .i64 (b : Int))] = some (.i64 (a : Int)) := by
 rw [f_bnd, if_pos ⟨by omega, by omega⟩]
theorem pow_small : ∀ i : Nat, i ≤ 4 → (256 : Int) ^ i ≤ 4294967296
 | 0, _ => by decide
 | 1, _ => by decide
 | 2, _ => by decide
 | 3, _ => by decide
 | 4, _ => by decide
 | n + 5, h => by omega
theorem pow_mono (i j : Nat) (h : i ≤ j) : (256 : Int) ^ i ≤ 256 ^ j := by
 induction j with
 | zero => rw [show i = 0 by omega]; decide
 | succ j ih =>
  by_cases e : i = j + 1
  ·rw [e]; omega
  ·have := ih (by omega);have p : (0 : Int) < 256 ^ j := Int.pow_pos (by decide);rw [Int.pow_succ];omega
theorem or_byte {a c : Int} (ha : 0 ≤ a) (hb : a < 1099511627776) (hc : 0 ≤ c ∧ c < 256) : IntKind.i64.wrap (BitVec.ofInt IntKind.i64.bits (a * 256) ||| BitVec.ofInt IntKind.i64.bits c).toNat = a * 256 + c := by
 show IntKind.i64.wrap (BitVec.ofInt 64 (a * 256) ||| BitVec.ofInt 64 c).toNat = a * 256 + c
 obtain ⟨n, rfl⟩ := Int.eq_ofNat_of_zero_le ha;obtain ⟨m, rfl⟩ := Int.eq_ofNat_of_zero_le hc.1;have e1 : (BitVec.ofInt 64 ((n : Int) * 256)).toNat = n * 256 := by
  rw [BitVec.toNat_ofInt];omega
 have e2 : (BitVec.ofInt 64 (m : Int)).toNat = m := by
  rw [BitVec.toNat_ofInt];omega
 have e3 : n * 256 ||| m = n * 256 + m := by
  have := Nat.shiftLeft_add_eq_or_of_lt (i := 8) (b := m) (by omega) n;rw [Nat.shiftLeft_eq] at this;exact this.symm
 rw [BitVec.toNat_or, e1, e2, e3, w_i64 (by omega) (by omega)];omega
theorem val_bound : ∀ (l : List Int) (a : Int), Bytes l → 0 ≤ a → 0 ≤ val l a ∧ val l a < (a + 1) * 256 ^ l.length
 | [], a, _, h => by simp [val]; omega
 | x :: l, a, hb, h => by
  have hx := hb x (by simp);have ih := val_bound l (a * 256 + x) (fun d hd => hb d (by simp [hd])) (by omega);refine ⟨ih.1, Int.lt_of_lt_of_le ih.2 ?_⟩;rw [List.length_cons, Int.pow_succ, ← Int.mul_assoc, Int.mul_right_comm];exact Int.mul_le_mul_of_nonneg_right (by omega) (Int.le_of_lt (Int.pow_pos (by decide)))
theorem number_loop {V : FuncId → Bool} {N : Nat} {f : JT} {e0 e1 e2 e3 : PV} {l : List Int} (hl : l.length ≤ 5) (hb : Bytes l) : ∀ (m n i : Nat) (a : Int), i + m = l.length → m < n → 0 ≤ a → (a < 256 ^ i) →
  denW (PhiS D) V N k25_1 [f] [e0, e1, e2, e3, .sl (B l), .i64 (l.length : Int)] n [.i64 a, .i64 (i : Int)] = f [.i64 (val (l.drop i) a)]
 | m, 0, i, a, h, hn, _, _ => by omega
 | 0, n + 1, i, a, h, hn, _, _ => by
  rw [denW_succ];unfold k25_1;simp only [EV, decide_eq_true_eq];rw [if_neg (by omega), List.drop_eq_nil_of_le (by omega)];rfl
 | m + 1, n + 1, i, a, h, hn, h0, h1 => by
  obtain ⟨x, hx⟩ : ∃ x, l[i]? = some x := ⟨l[i]'(by omega), List.getElem?_eq_getElem _⟩;have hbx := hb x (List.mem_of_getElem? hx);have h2 : a < 4294967296 := by
   have := pow_small i (by omega);omega
  have h3 : a * 256 + x < 256 ^ (i + 1) := by rw [Int.pow_succ]; omega
  rw [denW_succ];have ih := number_loop (V := V) (N := N) (f := f) (e0 := e0) (e1 := e1) (e2 := e2) (e3 := e3) hl hb m n (i + 1) (a * 256 + x) (by omega) (by omega) (by omega) h3;generalize hk : k25_1 = kk at ih;subst hk;unfold k25_1;have hbits : IntKind.i64.bits = 64 := rfl;have e5 : min (8 : Int).toNat 64 = 8 := rfl;have e6 : IntKind.i64.wrap (a * 2 ^ 8) = a * 256 := by rw [w_i64 (by omega) (by omega)]; rfl
  have e7 : IntKind.i64.wrap x = x := w_i64 (by omega) (by omega);simp only [EV, decide_eq_true_eq, btix hx, belt hx, i_shl, if_neg (show ¬ (8 : Int) < 0 by decide), hbits, e5, e6, e7, or_byte h0 (by omega) hbx, up1 (show i < 1000000 by omega)]
  rw [if_pos (by omega), drop_get hx];exact ih
theorem c25 {l : List Int} {w : Nat} (hw : w ≤ 5) (hl : w ≤ l.length) (hb : Bytes l) : Ans D 25 [.sl (B l), .i64 (w : Int)] [.i64 (val (l.take w) 0), .sl (B (l.drop w))] := by
 refine ans_of k25_ok s25 rfl ⟨6, ?_⟩;unfold k25;have e0 : RF.ev (.tsub 1) [.sl (B l), .v (.int .i64 0), .v (.int .i64 (w : Int))] = some (.sl (B (l.take w))) := (btsub (a := 0) (Nat.zero_le w) hl).trans (by simp);have e1 : (l.take w).length = w := by rw [List.length_take]; omega
 have e2 : RF.ev (.tsub 1) [.sl (B l), .v (.int .i64 (w : Int)), .v (.int .i64 (l.length : Int))] = some (.sl (B (l.drop w))) := (btsub hl (Nat.le_refl _)).trans (by rw [List.take_of_length_le (by simp)]);simp only [EV, B_len, bnd_ok hl, e0];refine (number_loop (by omega) (fun d hd => hb d (List.mem_of_mem_take hd)) w 6 0 0 (by omega) (by omega) (by decide) (by decide)).trans ?_;rw [List.drop_zero];unfold k25_2;simp only [EV, B_len, bnd_ok hl, e2]
theorem value_loop {V : FuncId → Bool} {N : Nat} {f : JT} {l : List Int} {at' w : Nat} (hl : at' + w ≤ l.length) (hw : w ≤ 5) (hb : Bytes l) (hlen : l.length ≤ 1000) : ∀ (m n i : Nat) (a : Int), i + m = w → m < n → 0 ≤ a → (a < 256 ^ i) →
  denW (PhiS D) V N k49_2 [f] [.sl (B l), .i64 (at' : Int), .i64 (w : Int)] n [.v (.int .u64 a), .i64 ((at' + i : Nat) : Int)] = f [.v (.int .u64 (val ((l.drop (at' + i)).take (w - i)) a))]
 | m, 0, i, a, h, hn, _, _ => by omega
 | 0, n + 1, i, a, h, hn, _, _ => by
  rw [denW_succ];unfold k49_2;have e1 : IntKind.i64.wrap ((at' : Int) + (w : Int)) = ((at' + w : Nat) : Int) := by rw [w_i64 (by omega) (by omega)]; omega
  simp only [EV, decide_eq_true_eq, e1];rw [if_neg (by omega), show w - i = 0 by omega, List.take_zero]
  rfl
 | m + 1, n + 1, i, a, h, hn, h0, h1 => by
  obtain ⟨x, hx⟩ : ∃ x, l[at' + i]? = some x := ⟨l[at' + i]'(by omega), List.getElem?_eq_getElem _⟩;have hbx := hb x (List.mem_of_getElem? hx);have h2 : a < 4294967296 := by
   have := pow_small i (by omega);omega
  have h3 : a * 256 + x < 256 ^ (i + 1) := by rw [Int.pow_succ]; omega
  rw [denW_succ];have ih := value_loop (V := V) (N := N) (f := f) hl hw hb hlen m n (i + 1) (a * 256 + x) (by omega) (by omega) (by omega) h3;generalize hk : k49_2 = kk at ih;subst hk;unfold k49_2;have e1 : IntKind.i64.wrap ((at' : Int) + (w : Int)) = ((at' + w : Nat) : Int) := by rw [w_i64 (by omega) (by omega)]; omega
  have e6 : IntKind.u64.wrap (a * 256) = a * 256 := by rw [w_u64]; omega
  have e7 : IntKind.u64.wrap x = x := by rw [w_u64]; omega
  have e8 : IntKind.u64.wrap (a * 256 + x) = a * 256 + x := by rw [w_u64]; omega
  have e9 : IntKind.i64.wrap (((at' + i : Nat) : Int) + 1) = ((at' + (i + 1) : Nat) : Int) := by rw [w_i64 (by omega) (by omega)]; omega
  simp only [EV, decide_eq_true_eq, e1, e6, e7, B_len, btix hx, belt hx, if_pos (show ((at' + i : Nat) : Int) < ((at' + w : Nat) : Int) by omega), if_pos (show ((at' + i : Nat) : Int) < (l.length : Int) by omega)]
  unfold k49_1;simp only [EV, e8, e9];rw [drop_get hx, show w - i = (w - (i + 1)) + 1 by omega, List.take_succ_cons]
  exact ih
theorem c49 {l : List Int} {at' w : Nat} (hl : at' + w ≤ l.length) (hw : w ≤ 5) (hb : Bytes l) (hlen : l.length ≤ 1000) : Ans D 49 [.sl (B l), .i64 (at' : Int), .i64 (w : Int)] [.v (.int .u64 (val ((l.drop at').take w) 0))] := by
 refine ans_of k49_ok s49 rfl ⟨6, ?_⟩;unfold k49;simp only [EV];refine (value_loop hl hw hb hlen w 6 0 0 (by omega) (by omega) (by decide) (by decide)).trans ?_;unfold k49_3;simp only [EV];rfl
end Go.Proofs.Ythaokoopmhgfiaa
