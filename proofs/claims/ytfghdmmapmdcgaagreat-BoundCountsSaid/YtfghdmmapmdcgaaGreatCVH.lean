import Derived.Test.YtfghdmmapmdcgaaGreatCV
import Derived.Test.YtfghdmmapmdcgaaGreatCM
import Derived.Test.YtfghdmmapmdcgaaGreatP1
set_option linter.unusedVariables false
set_option linter.unusedSimpArgs false
set_option linter.defProp false
noncomputable section
namespace Go.Proofs.YtfghdmmapmdcgaaGreat
open Go.Sym Bnd
set_option maxRecDepth 100000
theorem hang_nodup {t : Rt} : ∀ (n : Nat) (l : List Pt) (f : Int) (d : Nat), l.length ≤ n → Ids l → ((hangP t l f d).map (·.1)).Nodup := by
 intro n;induction n with
 | zero =>
  intro l f d h _;have : l = [] := List.length_eq_zero_iff.1 (by omega);subst this;rw [hangP]; simp
 | succ n ih =>
  intro l f d h hi;cases l with
  | nil => rw [hangP]; simp
  | cons p l =>
   simp only [List.length_cons] at h;have hmem : ∀ (bt : Int) (x : Pt), x ∈ side (p :: l) (topP t l p).id d bt → x ∈ p :: l ∧ x.id ≠ (topP t l p).id ∧ bitI x.id d = bt := fun bt x hx => by
    unfold side at hx;obtain ⟨h1, h2⟩ := List.mem_filter.1 hx;simp only [Bool.and_eq_true, decide_eq_true_eq] at h2;exact ⟨h1, h2.1, h2.2⟩
   have hs : ∀ bt : Int, (side (p :: l) (topP t l p).id d bt).length ≤ n := fun bt => by
    have := side_lt (t := t) (p := p) (l := l) (d := d) (b := bt);omega
   have hid : ∀ bt : Int, Ids (side (p :: l) (topP t l p).id d bt) := fun bt => hi.filter _;have fac := fun bt : Int => hangP_facts (t := t) n (side (p :: l) (topP t l p).id d bt) (topP t l p).id (d + 1) (hs bt) (hid bt);rw [hangP, List.map_cons, List.map_append, List.nodup_cons, List.nodup_append];refine ⟨fun hm => ?_, ih _ _ _ (hs 0) (hid 0), ih _ _ _ (hs 1) (hid 1), fun a ha b hb e => ?_⟩
   ·rcases List.mem_append.1 hm with hm | hm
    ·obtain ⟨y, hy, e⟩ := List.mem_map.1 hm;obtain ⟨z, hz, hz1, _⟩ := fac 0 y hy;exact (hmem 0 z hz).2.1 (by rw [hz1, e])
    ·obtain ⟨y, hy, e⟩ := List.mem_map.1 hm;obtain ⟨z, hz, hz1, _⟩ := fac 1 y hy;exact (hmem 1 z hz).2.1 (by rw [hz1, e])
   ·obtain ⟨y, hy, e1⟩ := List.mem_map.1 ha;obtain ⟨w, hw, e2⟩ := List.mem_map.1 hb;obtain ⟨z, hz, hz1, _⟩ := fac 0 y hy;obtain ⟨u, hu, hu1, _⟩ := fac 1 w hw;have : z = u := hi.inj (hmem 0 z hz).1 (hmem 1 u hu).1 (by rw [hz1, hu1, e1, e2, e]);subst this;have := (hmem 0 z hz).2.2;rw [(hmem 1 z hu).2.2] at this;cases this
theorem luk_not {k v : Int} : ∀ {ps : List (Int × Int)}, (∀ x ∈ ps, x.1 ≠ k) → luk ps k v = v
 | [], _ => rfl
 | x :: ps, h => by
  show luk ps k (if x.1 = k then x.2 else v) = v
  rw [if_neg (h x (by simp))];exact luk_not fun y hy => h y (by simp [hy])
def Hm (ps : List (Int × Int)) : PV := .sl (ps.map fun x => [.i64 x.1, .i64 x.2])
theorem setH0 {k v : Int} : ∀ (ps : List (Int × Int)), (∀ x ∈ ps, x.1 ≠ k) → mapSet [.i] [.i64 k] [.i64 v] (ps.map fun x => [.i64 x.1, .i64 x.2]) = some ((ps ++ [(k, v)]).map fun x => [.i64 x.1, .i64 x.2])
 | [], _ => by simp [mapSet, eqN]
 | a :: l, h => by
  simp only [List.map_cons, List.cons_append, mapSet];rw [show ([PV.i64 a.1, .i64 a.2].take [Ck.i].length) = [.i64 a.1] from rfl, eqN, decide_eq_false (h a (by simp))]
  simp only;rw [setH0 l (fun x hx => h x (by simp [hx]))]
theorem setH {ps : List (Int × Int)} {k v : Int} (h : ∀ x ∈ ps, x.1 ≠ k) : RF.ev (.mset [.i] 1) [Hm ps, .v (.int .i64 k), .v (.int .i64 v)] = some (Hm (ps ++ [(k, v)])) := by
 unfold Hm;simp only [RF.ev, show (PV.v (.int .i64 k)).cells = [.i64 k] from rfl, show (PV.v (.int .i64 v)).cells = [.i64 v] from rfl, setH0 ps h]
 rfl
theorem getH0 {k : Int} : ∀ (ps : List (Int × Int)), (ps.map (·.1)).Nodup → ∀ v, ∃ r, mapGet [.i] [.i64 k] (ps.map fun x => [.i64 x.1, .i64 x.2]) = some r ∧ r.getD [.i64 v] = [.i64 (luk ps k v)]
 | [], _, v => ⟨none, by simp [mapGet, eqN], rfl⟩
 | a :: l, h, v => by
  rw [List.map_cons, List.nodup_cons] at h;simp only [List.map_cons, mapGet];rw [show ([PV.i64 a.1, .i64 a.2].take [Ck.i].length) = [.i64 a.1] from rfl, eqN]
  by_cases e : a.1 = k
  ·rw [decide_eq_true e];refine ⟨some [.i64 a.2], rfl, ?_⟩;show [PV.i64 a.2] = [.i64 (luk l k (if a.1 = k then a.2 else v))]
   rw [if_pos e, luk_not fun y hy e' => h.1 (by rw [e, ← e']; exact List.mem_map.2 ⟨y, hy, rfl⟩)]
  ·rw [decide_eq_false e];obtain ⟨r, h1, h2⟩ := getH0 l h.2 v;refine ⟨r, h1, ?_⟩;show _ = [PV.i64 (luk l k (if a.1 = k then a.2 else v))]
   rw [if_neg e, h2]
theorem getH {ps : List (Int × Int)} {k : Int} (h : (ps.map (·.1)).Nodup) : RF.ev (.mget [.i] [KP.z]) [Hm ps, .v (.int .i64 k)] = some (.i64 (luk ps k 0)) := by
 obtain ⟨r, h1, h2⟩ := getH0 ps h 0 (k := k);unfold Hm;simp only [RF.ev, show (PV.v (.int .i64 k)).cells = [.i64 k] from rfl, h1]
 exact congrArg (fun x => some (one? x)) h2
theorem and1 {a : Int} (h0 : 0 ≤ a) (h1 : a < 4611686018427387904) : intB .and .i64 a .i64 1 = some (.v (.int .i64 (a % 2))) := by
 rw [i_and]
 congr 3
 have e : (BitVec.ofInt IntKind.i64.bits a &&& BitVec.ofInt IntKind.i64.bits 1).toNat = a.toNat % 2 := by
  show (BitVec.ofInt 64 a &&& BitVec.ofInt 64 1).toNat = _
  rw [BitVec.toNat_and, BitVec.toNat_ofInt, show (BitVec.ofInt 64 1).toNat = 1 from by decide, Nat.and_one_is_mod]
  omega
 rw [e, w_i64 (by omega) (by omega)];omega
theorem bitP {x : Int} (h : 0 ≤ x) (h1 : x < 4611686018427387904) (d : Nat) : intB .shr .i64 x .i64 (d : Int) = some (.v (.int .i64 (x.fdiv (2 ^ (min d 64))))) ∧ intB .and .i64 (x.fdiv (2 ^ (min d 64))) .i64 1 = some (.v (.int .i64 (bitI x d))) := by
 refine ⟨(bitD h d).1, ?_⟩;have hp : (0 : Int) < 2 ^ (min d 64) := Int.pow_pos (by decide);rw [Int.fdiv_eq_ediv_of_nonneg _ (Int.le_of_lt hp)];have h2 : 0 ≤ x / 2 ^ (min d 64) := Int.ediv_nonneg h (Int.le_of_lt hp);have h3 : x / 2 ^ (min d 64) ≤ x := Int.ediv_le_self _ h;rw [and1 h2 (by omega)];unfold bitI;rw [Int.fdiv_eq_ediv_of_nonneg _ (Int.le_of_lt hp)]
theorem bit_two (x : Int) (d : Nat) : bitI x d = 0 ∨ bitI x d = 1 := by
 unfold bitI;omega
theorem fold_sides {α : Type} (p q : α → Bool) : ∀ (l a b : List α), l.foldl (fun (acc : List α × List α) x => if p x = true then (acc.1 ++ [x], acc.2) else if q x = true then (acc.1, acc.2 ++ [x]) else acc) (a, b) = (a ++ l.filter p, b ++ l.filter fun x => !p x && q x)
 | [], a, b => by simp
 | x :: l, a, b => by
  rw [List.foldl_cons, List.filter_cons, List.filter_cons];cases hp : p x with
  | true => simp only [if_true, Bool.not_true, Bool.false_and, Bool.false_eq_true, if_false, fold_sides p q l, List.append_assoc, List.singleton_append]
  | false =>
   cases hq : q x with
   | true => simp only [if_true, Bool.not_false, Bool.true_and, Bool.false_eq_true, if_false, fold_sides p q l, List.append_assoc, List.singleton_append]
   | false => simp only [Bool.not_false, Bool.true_and, Bool.false_eq_true, if_false, fold_sides p q l]
theorem topP_fold (t : Rt) : ∀ (l : List Pt) (b : Pt), l.foldl (fun b p => if leads t p b = true then p else b) b = topP t l b
 | [], _ => rfl
 | p :: l, b => by rw [List.foldl_cons, topP_fold t l]; rfl
theorem aggP (p : Pt) : RF.ev .agg [.v (.int .i64 p.id), .v (.int .i64 p.a), .v (.int .i64 p.b)] = some (PP p) := rfl
theorem bsP (p : Pt) : RF.ev (.bs 1 [KP.z, KP.z, KP.z] [0]) [PP p] = some (sl row [p]) := rfl
theorem subP1 (p : Pt) : RF.ev .sub [sl row [p], .v (.int .i64 0), .v (.int .i64 1)] = some (sl row [p]) := rfl
theorem c221 {t : Rt} (ht : In64 t) (hr : rok t = true) : ∀ (n : Nat) (l : List Pt) (f : Int) (d : Nat) (ps : List (Int × Int)), l.length ≤ n → n ≤ 1000 → d + n ≤ 10000 → (∀ p ∈ l, p.ok = true) → Ids l → (∀ x ∈ ps, ∀ p ∈ l, x.1 ≠ p.id) → Ans D 221 [sl row l, R t, .i64 f, .i64 (d : Int), .sl [], Hm ps] [Hm (ps ++ hangP t l f d)] := by
 intro n;induction n with
 | zero =>
  intro l f d ps h _ _ _ _ _;have hl : l = [] := List.length_eq_zero_iff.1 (by omega);subst hl;refine ans_of k221_ok s221 rfl ⟨1, ?_⟩;unfold k221;rw [hangP, List.append_nil];simp only [den_lt, shapeR, EV, List.length_map, List.length_nil, Int.natCast_zero, decide_true, if_true]
 | succ n ih =>
  intro l f d ps h hn hd hok hids hps;cases l with
  | nil =>
   refine ans_of k221_ok s221 rfl ⟨1, ?_⟩;unfold k221;rw [hangP, List.append_nil];simp only [den_lt, shapeR, EV, List.length_map, List.length_nil, Int.natCast_zero, decide_true, if_true]
  | cons p0 l =>
   simp only [List.length_cons] at h;have hbn : ∀ p ∈ p0 :: l, 0 ≤ p.id ∧ p.id ≤ 65535 := fun p hp => by have := Pt.bnd (hok p hp); omega
   have htop : topP t l p0 ∈ p0 :: l := by
    rcases topP_mem t l p0 with e | e
    ·rw [e]; simp
    ·simp [e]
   have o0 : (p0 :: l)[0]? = some p0 := rfl;have tx0 : RF.ev (.tix 3) [sl row (p0 :: l), .v (.int .i64 0)] = some (.i64 ((0 : Nat) : Int)) := tixM o0 (row_len _);have bn : RF.ev .bnd [.v (.int .i64 1), .v (.int .i64 (((p0 :: l).length : Nat) : Int))] = some (.i64 1) := by rw [f_bnd, if_pos ⟨by omega, by simp; omega⟩]
   have ts : RF.ev (.tsub 3) [sl row (p0 :: l), .v (.int .i64 1), .v (.int .i64 (((p0 :: l).length : Nat) : Int))] = some (sl row l) := by
    rw [f_tsub, if_pos ⟨by omega, by simp; omega, by simp, rfl, by decide⟩];simp [List.take_of_length_le]
   have ne : decide (((p0 :: l).length : Int) = 0) = false := decide_eq_false (by simp; omega);refine ans_of k221_ok s221 rfl ⟨1001, ?_⟩;unfold k221;simp only [den_lt, shapeR, tx0, eltM o0, rowP, bn, ts, cellP0, cellP1, cellP2, EV, List.length_map, ne, Bool.false_eq_true, if_false];refine (run_fold (m := 1001) (l := l) (g := fun b p => if leads t p b = true then p else b) (I := fun i b => b = p0 ∨ ∃ j, j < i ∧ l[j]? = some b) (S := fun b i => [.i64 b.id, .i64 b.a, .i64 b.b, .i64 (i : Int)]) (fin := fun b => den (PhiS D) 1001 k221_4 [] [sl row (p0 :: l), R t, .i64 f, .i64 (d : Int), .sl [], Hm ps, R t, .v (.int .i64 (((p0 :: l).length : Nat) : Int)), .v (.bool false), .i64 ((0 : Nat) : Int), PP p0, .v (.int .i64 (((p0 :: l).length : Nat) : Int)), .i64 1, sl row l, .v (.int .i64 ((l.length : Nat) : Int)), .i64 b.id, .i64 b.a, .i64 b.b]) (x := p0) (.inl rfl) (fun i a b ha hI => ?_) (fun i p b self hp hI => ?_) (fun b self hI => ?_) (by omega)).1.trans ?_
   ·split
    ·exact .inr ⟨i, Nat.lt_succ_self _, ha⟩
    ·exact hI.imp id fun ⟨j, h1, h2⟩ => ⟨j, Nat.lt_succ_of_lt h1, h2⟩
   ·have hlt := get_lt hp;have hpm : p ∈ p0 :: l := by simp [List.mem_of_getElem? hp]
    have hbm : b ∈ p0 :: l := by
     rcases hI with e | ⟨j, _, e⟩
     ·rw [e]; simp
     ·simp [List.mem_of_getElem? e]
    have hne : p.id ≠ b.id := fun e => by
     have e := hids.inj hpm hbm e;subst e;unfold Ids at hids;rcases hI with e | ⟨j, hj, e⟩
     ·subst e;exact (List.nodup_cons.1 hids).1 (List.mem_map.2 ⟨_, List.mem_of_getElem? hp, rfl⟩)
     ·have := nodup_get.1 (List.nodup_cons.1 hids).2 j i p.id (by rw [List.getElem?_map, e]; rfl) (by rw [List.getElem?_map, hp]; rfl);omega
    have hA := phi (c249 (p := p) (q := b) ht);rw [if_pos (twoE_zero (hok p hpm) (hok b hbm) hr hne)] at hA;unfold k221_6;simp only [den_lt, tixM hp (row_len _), eltM hp, rowP, aggP, hA, cellP0, cellP1, cellP2, EV, decide_eq_true_eq, if_lt hlt, k221_5, up1 (show i < 1000000000 by omega)]
    cases leads t p b <;> simp
   ·unfold k221_6;simp only [EV, decide_eq_true_eq, if_ge]
   ·rw [topP_fold];generalize htt : topP t l p0 = tp at htop;have hseen : ∀ x ∈ ps, x.1 ≠ tp.id := fun x hx => hps x hx tp htop;unfold k221_4;simp only [den_lt, setH hseen, EV, List.length_map];have e0 : ([PV.sl [], .v (.int .i64 0), .sl [], .v (.int .i64 0), .v (.int .i64 0)] : List PV) = [sl row ([] : List Pt), .i64 ((([] : List Pt).length : Nat) : Int), sl row ([] : List Pt), .i64 ((([] : List Pt).length : Nat) : Int), .i64 ((0 : Nat) : Int)] := rfl;rw [e0];refine (run_fold (m := 1001) (l := p0 :: l) (g := fun (acc : List Pt × List Pt) x => if (decide (x.id ≠ tp.id) && decide (bitI x.id d = 0)) = true then (acc.1 ++ [x], acc.2) else if (decide (x.id ≠ tp.id) && decide (bitI x.id d = 1)) = true then (acc.1, acc.2 ++ [x]) else acc) (I := fun i acc => acc.1.length ≤ i ∧ acc.2.length ≤ i) (S := fun acc i => [sl row acc.1, .i64 (acc.1.length : Int), sl row acc.2, .i64 (acc.2.length : Int), .i64 (i : Int)]) (fin := fun acc => den (PhiS D) 1001 k221_1 [] [sl row (p0 :: l), R t, .i64 f, .i64 (d : Int), .sl [], Hm ps, R t, .v (.int .i64 (((p0 :: l).length : Nat) : Int)), .v (.bool false), .i64 ((0 : Nat) : Int), PP p0, .v (.int .i64 (((p0 :: l).length : Nat) : Int)), .i64 1, sl row l, .v (.int .i64 ((l.length : Nat) : Int)), .i64 tp.id, .i64 tp.a, .i64 tp.b, Hm (ps ++ [(tp.id, f)]), .v (.int .i64 (((p0 :: l).length : Nat) : Int)), sl row acc.1, .i64 (acc.1.length : Int), sl row acc.2, .i64 (acc.2.length : Int)]) (x := (([], []) : List Pt × List Pt)) ⟨Nat.le_refl _, Nat.le_refl _⟩ (fun i a acc _ hI => ?_) (fun i x acc self hx hI => ?_) (fun acc self hI => ?_) (by simp; omega)).1.trans ?_
    ·split
     ·exact ⟨by simp; omega, by show acc.2.length ≤ _; have := hI.2; omega⟩
     ·split
      ·exact ⟨by show acc.1.length ≤ _; have := hI.1; omega, by simp; omega⟩
      ·exact ⟨by have := hI.1; omega, by have := hI.2; omega⟩
    ·have hlt := get_lt hx;have hl1 : (p0 :: l).length ≤ 1000 := by simp; omega
     have hxb := hbn x (List.mem_of_getElem? hx);obtain ⟨b1, b2⟩ := bitP hxb.1 (by omega) d;unfold k221_3;simp only [den_lt, tixM hx (row_len _), eltM hx, rowP, cellP0, f_bin, b1, b2, EV, List.length_map, decide_eq_true_eq, if_lt hlt, k221_2, up1 (show i < 1000000000 by omega), Bool.not_eq_true', decide_eq_false_iff_not]
     by_cases c1 : x.id = tp.id
     ·simp only [c1, not_true_eq_false, if_false, ne_eq, decide_false, Bool.false_and, Bool.false_eq_true]
     ·simp only [c1, not_false_eq_true, if_true, ne_eq, decide_true, Bool.true_and, decide_eq_true_eq];rcases bit_two x.id d with c2 | c2
      ·simp only [c2, if_true, den_lt, bsP, subP1, appM (f := row) (l := acc.1) (k := [x]) (bytes := 24) (z := 3) (by simp; omega) row_len, EV, List.length_map, k221_2, up1 (show i < 1000000000 by omega)]
      ·simp only [c2, show ¬ ((1 : Int) = 0) by decide, if_false, if_true, decide_true, den_lt, bsP, subP1, appM (f := row) (l := acc.2) (k := [x]) (bytes := 24) (z := 3) (by simp; omega) row_len, EV, List.length_map, k221_2, up1 (show i < 1000000000 by omega)]
    ·unfold k221_3;simp only [EV, decide_eq_true_eq, if_ge]
    ·rw [fold_sides];have s0 : (p0 :: l).filter (fun x => decide (x.id ≠ tp.id) && decide (bitI x.id d = 0)) = side (p0 :: l) tp.id d 0 := rfl;have s1 : (p0 :: l).filter (fun x => !(decide (x.id ≠ tp.id) && decide (bitI x.id d = 0)) && (decide (x.id ≠ tp.id) && decide (bitI x.id d = 1))) = side (p0 :: l) tp.id d 1 := by
      unfold side;refine List.filter_congr fun x _ => ?_;by_cases c1 : x.id = tp.id
      ·simp [c1]
      ·rcases bit_two x.id d with c2 | c2 <;> simp [c1, c2]
     rw [s0, s1, List.nil_append, List.nil_append];have hm : ∀ (b : Int) (x : Pt), x ∈ side (p0 :: l) tp.id d b → x ∈ p0 :: l ∧ x.id ≠ tp.id ∧ bitI x.id d = b := fun b x hx => by
      obtain ⟨h1, h2⟩ := List.mem_filter.1 hx;simp only [Bool.and_eq_true, decide_eq_true_eq] at h2;exact ⟨h1, h2.1, h2.2⟩
     have hsl : ∀ b : Int, (side (p0 :: l) tp.id d b).length ≤ n := fun b => by
      have := side_lt (t := t) (p := p0) (l := l) (d := d) (b := b);rw [htt] at this;omega
     have hsi : ∀ b : Int, Ids (side (p0 :: l) tp.id d b) := fun b => hids.filter _;have r0 := phi (ih (side (p0 :: l) tp.id d 0) tp.id (d + 1) (ps ++ [(tp.id, f)]) (hsl 0) (by omega) (by omega) (fun p hp => hok p (hm 0 p hp).1) (hsi 0) (fun x hx p hp => by
      rcases List.mem_append.1 hx with hx | hx
      ·exact hps x hx p (hm 0 p hp).1
      ·simp only [List.mem_singleton] at hx;subst hx;exact fun e => (hm 0 p hp).2.1 e.symm))
     have r1 := phi (ih (side (p0 :: l) tp.id d 1) tp.id (d + 1) (ps ++ [(tp.id, f)] ++ hangP t (side (p0 :: l) tp.id d 0) tp.id (d + 1)) (hsl 1) (by omega) (by omega) (fun p hp => hok p (hm 1 p hp).1) (hsi 1) (fun x hx p hp => by
      rcases List.mem_append.1 hx with hx | hx
      ·rcases List.mem_append.1 hx with hx | hx
       ·exact hps x hx p (hm 1 p hp).1
       ·simp only [List.mem_singleton] at hx;subst hx;exact fun e => (hm 1 p hp).2.1 e.symm
      ·obtain ⟨q, hq, e, _⟩ := hangP_facts (t := t) n _ tp.id (d + 1) (hsl 0) (hsi 0) x hx;intro e';have := hids.inj (hm 0 q hq).1 (hm 1 p hp).1 (e.trans e');subst this;have h1 := (hm 0 q hq).2.2;rw [(hm 1 q hp).2.2] at h1;cases h1))
     have hd1 : IntKind.i64.wrap ((d : Int) + 1) = ((d + 1 : Nat) : Int) := up1 (by omega);unfold k221_1;simp only [EV, hd1, subM, r0, r1];rw [hangP, htt];simp [List.append_assoc]
end Go.Proofs.YtfghdmmapmdcgaaGreat
