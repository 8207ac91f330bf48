import Derived.Test.YthaokoopmhgfiaaSnpE
import Derived.Laws.Strings
set_option linter.unusedVariables false
set_option linter.unusedSimpArgs false
set_option linter.defProp false
noncomputable section
namespace Go.Proofs.Ythaokoopmhgfiaa
open Go.Sym Go.Abu Go.Pev
set_option maxRecDepth 100000
theorem digs_step (n : Int) (w : Nat) : digs n (w + 1) = n / 2 ^ (8 * w) % 256 :: digs n w := by
 show n.fdiv (2 ^ (8 * w)) % 256 :: digs n w = _
 rw [Int.fdiv_eq_ediv_of_nonneg _ (Int.le_of_lt (Int.pow_pos (by decide)))]
theorem digs2 {x y : Int} (hx : 0 ≤ x ∧ x < 65536) (hy : 0 ≤ y ∧ y < 65536) (h : digs x 2 = digs y 2) : x = y := by
 simp only [digs_step, List.cons.injEq, Nat.reduceMul] at h;omega
theorem digs3 {x y : Int} (hx : 0 ≤ x ∧ x < 16777216) (hy : 0 ≤ y ∧ y < 16777216) (h : digs x 3 = digs y 3) : x = y := by
 simp only [digs_step, List.cons.injEq, Nat.reduceMul] at h;omega
theorem digs4 {x y : Int} (hx : 0 ≤ x ∧ x < 4294967296) (hy : 0 ≤ y ∧ y < 4294967296) (h : digs x 4 = digs y 4) : x = y := by
 simp only [digs_step, List.cons.injEq, Nat.reduceMul] at h;omega
theorem digs_byte (x : Int) : ∀ w, ∀ d ∈ digs x w, 0 ≤ d ∧ d < 256
 | 0, d, h => by cases h
 | w + 1, d, h => by
  rw [digs_step] at h;rcases List.mem_cons.1 h with rfl | h
  ·exact ⟨Int.emod_nonneg _ (by decide), Int.emod_lt_of_pos _ (by decide)⟩
  ·exact digs_byte x w d h
theorem ptB_inj {p q : Pt} (hp : p.ok = true) (hq : q.ok = true) (h : ptB p = ptB q) : p = q := by
 obtain ⟨i1, a1, b1⟩ := Pt.ok_in hp;obtain ⟨i2, a2, b2⟩ := Pt.ok_in hq;unfold ptB at h;obtain ⟨h1, h⟩ := List.append_inj h (by rw [digs_len, digs_len]);obtain ⟨h2, h3⟩ := List.append_inj h (by rw [digs_len, digs_len]);have e1 := digs2 (by omega) (by omega) h1;have e2 := digs3 (by omega) (by omega) h2;have e3 := digs3 (by omega) (by omega) h3;cases p; cases q;simp only at e1 e2 e3;subst e1;rw [Pt.mk.injEq];exact ⟨rfl, by omega, by omega⟩
theorem flat_inj : ∀ {l k : List Pt}, goodAll l = true → goodAll k = true → l.flatMap ptB = k.flatMap ptB → l = k
 | [], [], _, _, _ => rfl
 | [], q :: k, _, _, h => by have := congrArg List.length h; rw [flat8, flat8] at this; simp at this
 | p :: l, [], _, _, h => by have := congrArg List.length h; rw [flat8, flat8] at this; simp at this
 | p :: l, q :: k, h1, h2, h => by
  unfold goodAll at h1 h2;simp only [List.all_cons, Bool.and_eq_true] at h1 h2;rw [List.flatMap_cons, List.flatMap_cons] at h;obtain ⟨e1, e2⟩ := List.append_inj h (by rw [ptB_len, ptB_len]);rw [ptB_inj h1.1 h2.1 e1, flat_inj h1.2 h2.2 e2]
theorem Rat.ok_den {r : Rat} (h : r.ok = true) : 1 ≤ r.den := by
 unfold Rat.ok at h;simp only [Bool.and_eq_true, decide_eq_true_eq] at h;exact h.1.1
theorem image_inj {s t : Snap} (hs : s.ok = true) (ht : t.ok = true) (h : imageB s = imageB t) : s = t := by
 obtain ⟨s1, s2, s3, s4, s5, _⟩ := Snap.ok_in hs;obtain ⟨t1, t2, t3, t4, t5, _⟩ := Snap.ok_in ht;have s2 := Rat.ok_den s2;have t2 := Rat.ok_den t2;unfold imageB at h;obtain ⟨h1, h2⟩ := List.append_inj h (by rw [headB_len, headB_len]);unfold headB at h1;obtain ⟨h3, h4⟩ := List.append_inj h1 rfl;obtain ⟨h5, h6⟩ := List.append_inj h4 (by rw [digs_len, digs_len]);obtain ⟨h7, _⟩ := List.append_inj h6 (by rw [digs_len, digs_len]);simp only [List.cons.injEq, and_true, true_and] at h3;have e5 := digs4 (by omega) (by omega) h5;have e7 := digs2 (by omega) (by omega) h7;have e2 := flat_inj s5 t5 h2;obtain ⟨g, ⟨n, d⟩, l⟩ := s;obtain ⟨g', ⟨n', d'⟩, l'⟩ := t;simp only at h3 e5 e7 e2;subst h3; subst e7; subst e2;rw [Snap.mk.injEq, Mod.mk.injEq, Rat.mk.injEq];exact ⟨rfl, ⟨by omega, rfl⟩, rfl⟩
def Bytes (l : List Int) : Prop := ∀ d ∈ l, 0 ≤ d ∧ d < 256
theorem ptB_bytes (p : Pt) : Bytes (ptB p) := fun d h => by
 unfold ptB at h;rcases List.mem_append.1 h with h | h
 ·exact digs_byte _ _ d h
 ·rcases List.mem_append.1 h with h | h
  ·exact digs_byte _ _ d h
  ·exact digs_byte _ _ d h
theorem image_bytes {s : Snap} (h : s.in64) : Bytes (imageB s) := fun d hd => by
 unfold imageB headB at hd;have ht := h.1;rcases List.mem_append.1 hd with hd | hd
 ·rcases List.mem_append.1 hd with hd | hd
  ·simp only [List.mem_cons, List.not_mem_nil, or_false] at hd;rcases hd with rfl | rfl | rfl
   ·decide
   ·decide
   ·omega
  ·rcases List.mem_append.1 hd with hd | hd
   ·exact digs_byte _ _ d hd
   ·rcases List.mem_append.1 hd with hd | hd
    ·exact digs_byte _ _ d hd
    ·simp only [List.mem_cons, List.not_mem_nil, or_false] at hd;subst hd;omega
 ·obtain ⟨p, _, hp⟩ := List.mem_flatMap.1 hd;exact ptB_bytes p d hp
def str (l : List Int) : ByteArray := ⟨(l.map fun x => UInt8.ofNat x.toNat).toArray⟩
theorem bytesP_B (l : List Int) : bytesP (B l) = some (l.map fun x => UInt8.ofNat x.toNat) := by
 induction l with
 | nil => rfl
 | cons x l ih =>
  show bytesP ([.v (.int .u8 x)] :: B l) = _
  simp only [bytesP, ih, List.map_cons]
theorem b2s_B (l : List Int) : RF.ev .b2s [.sl (B l)] = some (.v (.string (str l))) := by
 rw [f_b2s, bytesP_B];rfl
theorem byte_inj : ∀ {l k : List Int}, Bytes l → Bytes k → (l.map fun x => UInt8.ofNat x.toNat) = (k.map fun x => UInt8.ofNat x.toNat) → l = k
 | [], [], _, _, _ => rfl
 | [], _ :: _, _, _, h => by cases h
 | _ :: _, [], _, _, h => by cases h
 | x :: l, y :: k, h1, h2, h => by
  simp only [List.map_cons, List.cons.injEq] at h;have hx := h1 x (by simp);have hy := h2 y (by simp);have e := congrArg UInt8.toNat h.1;simp only [UInt8.toNat_ofNat'] at e;rw [byte_inj (fun d hd => h1 d (by simp [hd])) (fun d hd => h2 d (by simp [hd])) h.2]
  congr 1
  omega
theorem str_eq {l k : List Int} (hl : Bytes l) (hk : Bytes k) : strB .eql (str l) (str k) = some (.v (.bool (decide (l = k)))) := by
 rw [s_eql, ByteArray.toList_eq, ByteArray.toList_eq];have : ((str l).data.toList == (str k).data.toList) = decide (l = k) := by
  by_cases e : l = k
  ·subst e; simp
  ·rw [decide_eq_false e];simp only [beq_eq_false_iff_ne, ne_eq];intro h;exact e (byte_inj hl hk h)
 rw [this]
theorem alive_c : PhiC D tab (fun _ => false) 100 20 6 [] = some [.v (.bool true)] := by kernel_rfl
theorem alive_ok : Ans D 6 [] [.v (.bool true)] := ans_c tab_ok (fun _ h => by cases h) alive_c
theorem snapOne {s t : Snap} (hs : s.in64) (ht : t.in64) : Ans D 3 [.agg s.cells, .agg t.cells] [.v (.bool true)] := by
 refine ans_of k3_ok s3 rfl ⟨1, ?_⟩;unfold k3;have p0 : ∀ m : Snap, RF.ev (.shape 4) [.agg m.cells] = some (.agg m.cells) := fun _ => rfl;have p1 : ∀ m : Snap, RF.ev (.part 3 1) [.agg m.cells] = some (.agg [.sl (rows m.m.pts)]) := fun _ => rfl;simp only [p0, p1, EV, phi alive_ok, phi (c7 _)];cases hg : great s.m.pts with
 | true => rfl
 | false =>
  simp only [Bool.false_eq_true, if_false];cases hh : great t.m.pts with
  | true => rfl
  | false =>
   have hl : s.m.pts.length ≤ 1000 := by
    unfold great at hg;simp only [Bool.or_eq_false_iff, decide_eq_false_iff_not] at hg;omega
   have a1 := phi (c8 hs);have a2 := phi (c8 ht);have a3 := phi (c9 hs);have a4 := phi (c9 ht);have hk : denB (PhiS D) (VS D) 1 = denB (PhiS D) (VS D) 1 := rfl;cases h1 : s.ok <;> cases h2 : t.ok
   all_goals
    rw [h1] at a1 a3;rw [h2] at a2 a4;simp only [okE, if_true, Bool.false_eq_true, if_false] at a1 a2 a3 a4;simp only [Bool.not_true, Bool.false_eq_true, if_false, if_true, EV, a1, a2, a3, a4, Int.reduceEq, decide_true, decide_false, Bool.not_false, beq_self_eq_true, k3_1, k3_2, k3_3, b2s_B, phi (c10 hl), str_eq (image_bytes hs) (image_bytes ht)]
   ·rfl
   ·rfl
   ·rfl
   ·by_cases e : s = t
    ·subst e;simp
    ·rw [decide_eq_false e, decide_eq_false (fun h => e (image_inj h1 h2 h))];rfl
end Go.Proofs.Ythaokoopmhgfiaa
