import Derived.Test.YtfghdmmapmdcgaaGreatDC
set_option linter.unusedVariables false
set_option linter.unusedSimpArgs false
set_option linter.defProp false
noncomputable section
namespace Go.Proofs.YtfghdmmapmdcgaaGreat
open Go.Sym Bnd
set_option maxRecDepth 100000
def sortI (l : List Int) : List Int := sortL l
theorem c160 {l : List Int} (hl : l.length ≤ 1000) : Ans D 160 [.sl [], sl I1 l] [sl I1 (sortI l)] := by
 have h0 : D.T 160 = none := by kernel_rfl
 refine ans_x h0 ?_;show sortX 160 160 [.sl [], .sl (rowsI l)] = some [.sl (rowsI (sortL l))]
 unfold sortX;simp only [Nat.beq_refl, intsOf_rows];rw [if_pos (by omega)]
def TournOk (k : KTourn) : Prop := ClkOk k.clock ∧ BrkP k.brk.wins k.brk.places ∧ szd k.brk.places.length = true ∧ (∀ x ∈ k.brk.places, valK k.clock.pts x) ∧ (k.brk.places.filter fun x => decide (0 ≤ x)).length = k.clock.pts.length ∧ FineW (wonI k.clock.now k.clock.pts) k.brk.wins k.brk.places ∧ JustR k.clock (edsB k.brk.wins k.brk.places k.brk.wins.length)
theorem gKt_cl {k : KTourn} (h : gKt k = false) : gCl k.clock = false ∧ k.brk.places.length ≤ 70 ∧ k.brk.wins.length ≤ 70 := by
 unfold gKt at h;simp only [Bool.or_eq_false_iff, decide_eq_false_iff_not] at h;exact ⟨h.1, by omega⟩
theorem brk_val {b : Brk} {l : List Pt} (hb : BrkP b.wins b.places) (hv : ∀ x ∈ b.places, valK l x) (j : Nat) : valK l (nodeV b.wins b.places j) :=
 match_P (P := valK l) (.inl rfl) hb.1.1.2.2 hv (fun i hi => (hb.2 i hi).1) _ j rfl
theorem mem_edsB {w p : List Int} {n : Nat} {e : Crt} (h : e ∈ edsB w p n) : ∃ i, i < n ∧ (0 ≤ nodeV w p (2 * i + 1) ∧ 0 ≤ nodeV w p (2 * i + 2)) ∧ e = ⟨nodeV w p (2 * i + 1) + nodeV w p (2 * i + 2) - nodeV w p i, nodeV w p i⟩ := by
 unfold edsB at h;obtain ⟨i, hi, he⟩ := List.mem_flatMap.1 h;rw [List.mem_range] at hi;unfold edB at he;split at he
 ·rename_i c;exact ⟨i, hi, c, List.mem_singleton.1 he⟩
 ·cases he
theorem edsB_facts {b : Brk} {l : List Pt} {t : Rt} (h : okF l) (hb : BrkP b.wins b.places) (hv : ∀ x ∈ b.places, valK l x) (hf : FineW (wonI t l) b.wins b.places) {e : Crt} (he : e ∈ edsB b.wins b.places b.wins.length) : inF l e.low = true ∧ inF l e.high = true ∧ leads t (ptOf l e.high) (ptOf l e.low) = true := by
 obtain ⟨i, hi, ⟨c1, c2⟩, rfl⟩ := mem_edsB he;have hF := hf i hi;have hd : nodeV b.wins b.places (2 * i + 1) ≠ nodeV b.wins b.places (2 * i + 2) := fun e => brothers (brk_match hb) c1 hi rfl e.symm;rcases valK_in h (brk_val hb hv (2 * i + 1)) with e | ⟨j1, p, p1, p2, p3, p4, p5⟩
 ·omega
 rcases valK_in h (brk_val hb hv (2 * i + 2)) with e | ⟨j2, q, q1, q2, q3, q4, q5⟩
 ·omega
 have ip : inF l (nodeV b.wins b.places (2 * i + 1)) = true := by rw [← p2]; exact in_ids.2 (List.mem_map.2 ⟨p, List.mem_of_getElem? p1, rfl⟩)
 have iq : inF l (nodeV b.wins b.places (2 * i + 2)) = true := by rw [← q2]; exact in_ids.2 (List.mem_map.2 ⟨q, List.mem_of_getElem? q1, rfl⟩)
 unfold wonI at hF;rw [if_neg (by omega), if_neg (by omega), p4, q4] at hF;simp only;cases hL : leads t p q with
 | true =>
  rw [hL, if_pos rfl] at hF;rw [hF, show nodeV b.wins b.places (2 * i + 1) + nodeV b.wins b.places (2 * i + 2) - nodeV b.wins b.places (2 * i + 1) = nodeV b.wins b.places (2 * i + 2) by omega, p4, q4]
  exact ⟨iq, ip, hL⟩
 | false =>
  rw [hL, if_neg (by simp)] at hF;rw [hF, Int.add_sub_cancel, p4, q4];refine ⟨ip, iq, ?_⟩;rcases leads_total (t := t) (p := p) (q := q) (by rw [p2, q2]; exact hd) with g | g
  ·rw [hL] at g; cases g
  ·exact g
theorem edsB_nodup {b : Brk} {l : List Pt} {t : Rt} (h : okF l) (hb : BrkP b.wins b.places) (hv : ∀ x ∈ b.places, valK l x) (hf : FineW (wonI t l) b.wins b.places) : ∀ n, n ≤ b.wins.length → (edsB b.wins b.places n).Nodup
 | 0, _ => by simp [edsB]
 | n + 1, hn => by
  rw [edsB_succ];have ih := edsB_nodup h hb hv hf n (by omega);have one : ∀ i, i < b.wins.length → (0 ≤ nodeV b.wins b.places (2 * i + 1) ∧ 0 ≤ nodeV b.wins b.places (2 * i + 2)) → ∃ c, (c = 2 * i + 1 ∨ c = 2 * i + 2) ∧ nodeV b.wins b.places c = nodeV b.wins b.places (2 * i + 1) + nodeV b.wins b.places (2 * i + 2) - nodeV b.wins b.places i ∧ nodeV b.wins b.places i ≠ nodeV b.wins b.places c ∧ 0 ≤ nodeV b.wins b.places c := fun i hi hc => by
   have hd : nodeV b.wins b.places (2 * i + 1) ≠ nodeV b.wins b.places (2 * i + 2) := fun e => brothers (brk_match hb) hc.1 hi rfl e.symm;rcases (hb.2 i hi).1 with g | g
   ·exact ⟨2 * i + 2, .inr rfl, by omega, by omega, hc.2⟩
   ·exact ⟨2 * i + 1, .inl rfl, by omega, by omega, hc.1⟩
  unfold edB;split
  ·rename_i c;rw [List.nodup_append];refine ⟨ih, by simp, fun a ha b' hb' e => ?_⟩;subst e;obtain ⟨i, hi, c', e⟩ := mem_edsB ha;rw [List.mem_singleton] at hb';rw [e] at hb';simp only [Crt.mk.injEq] at hb';obtain ⟨x, x1, x2, x3, x4⟩ := one i (by omega) c';obtain ⟨y, y1, y2, y3, y4⟩ := one n (by omega) c;have := lose_once (brk_match hb) (z := nodeV b.wins b.places x) x4 (i := i) (j := n) (by omega) (by omega) x1 y1 rfl (by omega) x3 (by omega);omega
  ·rw [List.append_nil]; exact ih
open Classical in
theorem c82 {k : KTourn} (h64 : Cl64 k.clock) (hg : gKt k = false) : Ans D 82 [KT k] [.i64 (okE (decide (TournOk k)))] := by
 obtain ⟨g1, g2, g3⟩ := gKt_cl hg;have no : ∀ h : ¬ TournOk k, (some [PV.v (.int .i64 8)] : Option (List PV)) = some [.i64 (okE (decide (TournOk k)))] := fun h => by rw [decide_eq_false h]; rfl
 have pKT2 : RF.ev (.part 2 1) [KT k] = some (F k.clock.pts) := rfl;have pKT0 : RF.ev (.part 0 2) [KT k] = some (R k.clock.now) := rfl;have cKT11 : RF.ev (.cell 11) [KT k] = some (sl I1 k.brk.places) := rfl;refine ans_of k82_ok s82 rfl ⟨1001, ?_⟩;unfold k82;simp only [den_lt, shKT, pKT, pKTb, pKT2, pKT0, cKT11, cellF, EV, List.length_map, phi (c167 h64 g1), phi (c171 g2 g3), phi (c172 (n := k.brk.places.length) (by omega)), okE_not, Bool.not_eq_true', decide_eq_false_iff_not, decide_eq_true_eq];by_cases h1 : ClkOk k.clock
 rotate_left
 ·rw [if_neg h1]; exact no (fun h => h1 h.1)
 rw [if_pos h1];by_cases h2 : BrkP k.brk.wins k.brk.places
 rotate_left
 ·rw [if_neg h2]; exact no (fun h => h2 h.2.1)
 rw [if_pos h2];cases h3 : szd k.brk.places.length with
 | false =>
  rw [if_pos rfl];exact no (fun h => by have := h.2.2.1; rw [h3] at this; cases this)
 | true =>
 rw [if_neg (by simp)];have hF := h1.2.1;have hl := hF.1;simp only [den_lt, pKT2, cKT11, cellF, EV, List.length_map, phi (c173 (l := k.clock.pts) (pl := k.brk.places) (by omega) (by omega)), phi (c174 (l := k.brk.places) (by omega)), Bool.not_eq_true', decide_eq_false_iff_not, decide_eq_true_eq];by_cases h4 : ∀ x ∈ k.brk.places, valK k.clock.pts x
 rotate_left
 ·rw [if_pos h4]; exact no (fun h => h4 h.2.2.2.1)
 rw [if_neg (fun g => g h4)];by_cases h5 : (k.brk.places.filter fun x => decide (0 ≤ x)).length = k.clock.pts.length
 rotate_left
 ·rw [if_pos (by omega)]; exact no (fun h => h5 h.2.2.2.2.1)
 rw [if_neg (by omega)];have hlen := h2.1.1.2.2;have hval := brk_val h2 h4;simp only [den_lt, pKTb, pKT0, EV, phi (c175 (b := k.brk) (l := k.clock.pts) (t := k.clock.now) hF h64.1 hlen (by omega) hval), Bool.not_eq_true', decide_eq_false_iff_not];by_cases h6 : FineW (wonI k.clock.now k.clock.pts) k.brk.wins k.brk.places
 rotate_left
 ·rw [if_pos h6]; exact no (fun h => h6 h.2.2.2.2.2.1)
 rw [if_neg (fun g => g h6)];have hel := edsB_len k.brk.wins k.brk.places k.brk.wins.length;simp only [den_lt, pKT, pKTb, EV, phi (c176 (b := k.brk) hlen (by omega) (fun i hi => (h2.2 i hi).1) (fun j => valK_bnd hF (hval j))), phi (c169 (c := k.clock) (edges := edsB k.brk.wins k.brk.places k.brk.wins.length) hF h64.1 (by omega) (by have := gCl_certs g1; omega) (fun e he => ⟨(edsB_facts hF h2 h4 h6 he).1, (edsB_facts hF h2 h4 h6 he).2.1⟩)), Bool.not_eq_true', decide_eq_false_iff_not];by_cases h7 : JustR k.clock (edsB k.brk.wins k.brk.places k.brk.wins.length)
 ·rw [if_neg (fun g => g h7), decide_eq_true (show TournOk k from ⟨h1, h2, h3, h4, h5, h6, h7⟩)]; rfl
 ·rw [if_pos h7]; exact no (fun h => h7 h.2.2.2.2.2.2)
theorem sort_ids {l : List Pt} {pl : List Int} (hF : okF l) (ho : onceP pl) (hb : ∀ x ∈ pl, -1 ≤ x) : sortI (pl.filter fun x => decide (0 ≤ x)) = l.map Pt.id ↔ (∀ x ∈ pl, valK l x) ∧ (pl.filter fun x => decide (0 ≤ x)).length = l.length := by
 have hperm : (sortI (pl.filter fun x => decide (0 ≤ x))).Perm (pl.filter fun x => decide (0 ≤ x)) := List.mergeSort_perm _ _;constructor
 ·intro h;rw [h] at hperm;refine ⟨fun x hx => ?_, by have := hperm.length_eq; rw [List.length_map] at this; exact this.symm⟩;by_cases c : 0 ≤ x
  ·exact .inr (in_ids.2 (hperm.mem_iff.2 (List.mem_filter.2 ⟨hx, by simpa using c⟩)))
  ·exact .inl (by have := hb x hx; omega)
 ·rintro ⟨h1, h2⟩;have hnd : (pl.filter fun x => decide (0 ≤ x)).Nodup := by
   have : ∀ (l : List Int), (∀ (i j : Nat) (x : Int), 0 ≤ x → l[i]? = some x → l[j]? = some x → i = j) → (l.filter fun x => decide (0 ≤ x)).Nodup := by
    intro l;induction l with
    | nil => intro _; simp
    | cons a l ih =>
     intro h;have ih := ih fun i j x hx hi hj => by have := h (i + 1) (j + 1) x hx (by simpa using hi) (by simpa using hj); omega
     rw [List.filter_cons];split
     ·rename_i c;refine List.nodup_cons.2 ⟨fun hm => ?_, ih⟩;obtain ⟨j, hj⟩ := List.mem_iff_getElem?.1 (List.mem_filter.1 hm).1;have := h 0 (j + 1) a (by simpa using c) (by simp) (by simpa using hj)
      omega
     ·exact ih
   exact this pl (onceP_iff.1 ho)
  have hp : (pl.filter fun x => decide (0 ≤ x)).Perm (l.map Pt.id) := sub_perm hnd (fun x hx => by
   obtain ⟨a, b⟩ := List.mem_filter.1 hx;rcases h1 x a with e | e
   ·simp at b; omega
   ·exact in_ids.1 e) (by rw [List.length_map]; omega)
  refine List.Perm.eq_of_pairwise (le := fun a b => a ≤ b) (fun a b _ _ h1 h2 => by omega) ?_ ?_ (hperm.trans hp)
  ·have := List.pairwise_mergeSort (le := fun a b : Int => decide (a ≤ b)) (fun a b c h1 h2 => by simp at h1 h2 ⊢; omega) (fun a b => by simp; omega) (pl.filter fun x => decide (0 ≤ x));exact this.imp fun h => by simpa using h
  ·rw [List.pairwise_iff_getElem];intro i j hi hj hij;rw [List.length_map] at hi hj;have := risen_lt' hF.2.2 hij (List.getElem?_eq_getElem hi) (List.getElem?_eq_getElem hj);rw [List.getElem_map, List.getElem_map];omega
theorem zip_all {S : List Int} {k : List Pt} (h : S.length = k.length) (ha : (S.zip k).all (fun x => decide (x.1 = x.2.id)) = true) : S = k.map Pt.id := by
 rw [List.all_eq_true] at ha;refine List.ext_getElem (by simpa using h) fun i h1 h2 => ?_
 have := ha (S[i], k[i]'(by omega)) (List.mem_iff_getElem.2 ⟨i, by rw [List.length_zip]; omega, by simp⟩);simpa using this
theorem zip_all' {S : List Int} {k : List Pt} (h : S = k.map Pt.id) : (S.zip k).all (fun x => decide (x.1 = x.2.id)) = true := by
 subst h;rw [List.all_eq_true];intro x hx;obtain ⟨i, hi⟩ := List.mem_iff_getElem?.1 hx;obtain ⟨h1, h2⟩ := zip_get hi;rw [List.getElem?_map, h2] at h1;simpa using h1.symm
def cpt (l : List Int) (i : Nat) : Nat → List Int × Nat
 | 0 => (l, i)
 | t + 1 => if 0 ≤ nthI l (i + 1 + t) then ((cpt l i t).1.set (cpt l i t).2 (nthI l (i + 1 + t)), (cpt l i t).2 + 1) else cpt l i t
theorem cpt_ok {l : List Int} {i : Nat} {a : Int} (ha : l[i]? = some a) (hn : a < 0) (hp : (l.take i).all (fun x => !decide (x < 0)) = true) : ∀ t, i + 1 + t ≤ l.length → (cpt l i t).1.length = l.length ∧ (cpt l i t).2 ≤ i + t ∧ (cpt l i t).1.take (cpt l i t).2 = (l.take (i + 1 + t)).filter (fun x => decide (0 ≤ x)) ∧ ∀ j, i + 1 + t ≤ j → (cpt l i t).1[j]? = l[j]?
 | 0, _ => by
  refine ⟨rfl, Nat.le_refl _, ?_, fun j _ => rfl⟩;rw [Nat.add_zero, List.take_add_one, ha, List.filter_append];have h1 : (l.take i).filter (fun x => decide (0 ≤ x)) = l.take i := List.filter_eq_self.2 fun x hx => by
   have := List.all_eq_true.1 hp x hx;simp at this ⊢; omega
  have h2 : (some a).toList.filter (fun x => decide (0 ≤ x)) = [] := by simp; omega
  rw [h1, h2, List.append_nil];rfl
 | t + 1, h => by
  obtain ⟨h1, h2, h3, h4⟩ := cpt_ok ha hn hp t (by omega);have hx := nthI_some (l := l) (i := i + 1 + t) (by omega);have e1 : (l.take (i + 1 + (t + 1))).filter (fun x => decide (0 ≤ x)) = (l.take (i + 1 + t)).filter (fun x => decide (0 ≤ x)) ++ if 0 ≤ nthI l (i + 1 + t) then [nthI l (i + 1 + t)] else [] := by
   rw [show i + 1 + (t + 1) = i + 1 + t + 1 by omega, List.take_add_one, hx, List.filter_append]
   congr 1
   simp [List.filter_cons]
  rw [e1];unfold cpt;by_cases c : 0 ≤ nthI l (i + 1 + t)
  ·rw [if_pos c, if_pos c];refine ⟨by rw [List.length_set]; exact h1, by simp only; omega, ?_, fun j hj => ?_⟩
   ·simp only;rw [List.take_add_one, List.getElem?_set_self (by omega), List.take_set, List.set_eq_of_length_le (by rw [List.length_take]; omega), h3];rfl
   ·simp only;rw [List.getElem?_set_ne (by omega)];exact h4 j (by omega)
  ·rw [if_neg c, if_neg c, List.append_nil];exact ⟨h1, by omega, h3, fun j hj => h4 j (by omega)⟩
theorem appS {L S : List Int} (h : S.length ≤ L.length) : RF.ev (.appK 0 1) [sl I1 L, .v (.int .i64 0), sl I1 S] = some (sl I1 (S ++ L.drop S.length)) := by
 show (if (0 : Int) ≤ 0 ∧ (0 : Int) ≤ ((L.map I1).length : Nat) ∧ ((0 : Int).toNat + (S.map I1).length) * 0 ≤ 140737488355328 ∧ elsOk' 1 (S.map I1) = true then some (PV.sl ((L.map I1).take (0 : Int).toNat ++ S.map I1 ++ (L.map I1).drop ((0 : Int).toNat + (S.map I1).length))) else none) = _
 have he : elsOk' 1 (S.map I1) = true := by
  cases S with
  | nil => rfl
  | cons a k => simp [elsOk', lenI]
 rw [if_pos ⟨by omega, by omega, by omega, he⟩];simp
theorem clrI {L : List Int} {a n : Nat} (h : a + n = L.length) : RF.ev (.clr [KP.z]) [sl I1 L, .v (.int .i64 (a : Int)), .v (.int .i64 (n : Int))] = some (sl I1 (L.take a ++ List.replicate n 0)) := by
 show (if (0 : Int) ≤ a ∧ (0 : Int) ≤ n ∧ (a : Int) + n ≤ ((L.map I1).length : Nat) then some (PV.sl ((L.map I1).take (a : Int).toNat ++ List.replicate (n : Int).toNat [KP.z] ++ (L.map I1).drop ((a : Int).toNat + (n : Int).toNat))) else none) = _
 rw [if_pos ⟨by omega, by omega, by rw [List.length_map]; omega⟩, List.drop_of_length_le (by simp; omega)];simp;exact .inr rfl
theorem subA {L Z : List Int} : RF.ev .sub [sl I1 (L ++ Z), .v (.int .i64 0), .v (.int .i64 (L.length : Int))] = some (sl I1 L) := by
 rw [f_sub, if_pos (by simp; omega)];simp
open Classical in
theorem c78 {k : KTourn} (h64 : Cl64 k.clock) (hg : gKt k = false) : Ans D 78 [KT k] [.i64 (okE (decide (TournOk k)))] := by
 obtain ⟨g1, g2, g3⟩ := gKt_cl hg;have no : ∀ h : ¬ TournOk k, (some [PV.v (.int .i64 8)] : Option (List PV)) = some [.i64 (okE (decide (TournOk k)))] := fun h => by rw [decide_eq_false h]; rfl
 have pKT2 : RF.ev (.part 2 1) [KT k] = some (F k.clock.pts) := rfl;have pKT0 : RF.ev (.part 0 2) [KT k] = some (R k.clock.now) := rfl;have cKT2 : RF.ev (.cell 2) [KT k] = some (sl row k.clock.pts) := rfl;have cKT11 : RF.ev (.cell 11) [KT k] = some (sl I1 k.brk.places) := rfl;have cKT12 : RF.ev (.cell 12) [KT k] = some (sl I1 k.brk.wins) := rfl;have wp : IntKind.i64.wrap ((k.brk.places.length : Int) - 1) = (k.brk.places.length : Int) - 1 := w_i64 (by omega) (by omega);refine ans_of k78_ok s78 rfl ⟨1001, ?_⟩;unfold k78;simp only [den_lt, shKT, pKT, pKTb, cKT11, EV, List.length_map, wp, phi (c153 h64 g1), phi (c157 g2 g3), okE_not, Bool.not_eq_true', decide_eq_false_iff_not, decide_eq_true_eq];by_cases h1 : ClkOk k.clock
 rotate_left
 ·rw [if_neg h1]; exact no (fun h => h1 h.1)
 rw [if_pos h1];by_cases h2 : BrkP k.brk.wins k.brk.places
 rotate_left
 ·rw [if_neg h2]; exact no (fun h => h2 h.2.1)
 rw [if_pos h2];have hF := h1.2.1;have hl := hF.1;have hpl := h2.1.1;have hand : IntKind.i64.wrap (((BitVec.ofInt IntKind.i64.bits (k.brk.places.length : Int) &&& BitVec.ofInt IntKind.i64.bits ((k.brk.places.length : Int) - 1)).toNat : Nat) : Int) = (((BitVec.ofInt 64 (k.brk.places.length : Int) &&& BitVec.ofInt 64 ((k.brk.places.length : Int) - 1)).toNat : Nat) : Int) := by
  show IntKind.i64.wrap (((BitVec.ofInt 64 (k.brk.places.length : Int) &&& BitVec.ofInt 64 ((k.brk.places.length : Int) - 1)).toNat : Nat) : Int) = _
  have : (BitVec.ofInt 64 (k.brk.places.length : Int) &&& BitVec.ofInt 64 ((k.brk.places.length : Int) - 1)).toNat ≤ k.brk.places.length := by
   rw [BitVec.toNat_and];refine Nat.le_trans Nat.and_le_left ?_;rw [BitVec.toNat_ofInt];omega
  exact w_i64 (by omega) (by omega)
 have hsz := szd_and k.brk.places.length (by omega) (by omega);rw [hand];generalize (BitVec.ofInt 64 (k.brk.places.length : Int) &&& BitVec.ofInt 64 ((k.brk.places.length : Int) - 1)).toNat = z at hsz;by_cases h3 : z = 0
 rotate_left
 ·rw [if_pos (by omega)];exact no (fun h => h3 (hsz.2 h.2.2.1))
 rw [if_neg (by omega)];have h3 := hsz.1 h3;have hfl := List.length_filter_le (fun x => decide (0 ≤ x)) k.brk.places;have hsl : (sortI (k.brk.places.filter fun x => decide (0 ≤ x))).length = (k.brk.places.filter fun x => decide (0 ≤ x)).length := List.length_mergeSort ..;have hsame := sort_ids (l := k.clock.pts) (pl := k.brk.places) hF h2.1.2.1 (fun x hx => (h2.1.2.2 x hx).1);generalize hS : sortI (k.brk.places.filter fun x => decide (0 ≤ x)) = S at hsl hsame;have hs160 := phi (c160 (l := k.brk.places.filter fun x => decide (0 ≤ x)) (by omega));rw [hS] at hs160;generalize hfe : (k.brk.places.filter fun x => decide (0 ≤ x)) = fl at hsl hsame hs160 hfl hS;have ho := h2.1.2.1;have hmm : k.brk.wins.length = k.brk.places.length - 1 := by have := h2.1.1.2.2; omega
 have hwl := playD_len (won := wonI k.clock.now k.clock.pts) (places := k.brk.places) (m := k.brk.places.length - 1) (k.brk.places.length - 1);have hfine := playD_iff (won := wonI k.clock.now k.clock.pts) (places := k.brk.places) (v := k.brk.wins) hmm;obtain ⟨w, hw⟩ : ∃ w, w = playD (wonI k.clock.now k.clock.pts) k.brk.places (k.brk.places.length - 1) (k.brk.places.length - 1) := ⟨_, rfl⟩;have t123 : (∀ x ∈ k.brk.places, valK k.clock.pts x) → PhiS D 123 [F k.clock.pts, R k.clock.now, sl I1 k.brk.places] = some [BR ⟨k.brk.places, w⟩, sl crow (edsB w k.brk.places w.length)] ∧ True := fun hv => ⟨phi (c123 hF h64.1 h1.1 hpl.1 hpl.2.1 hv ho hw), trivial⟩;rw [← hw] at hwl hfine;have cB1 : RF.ev (.cell 1) [BR ⟨k.brk.places, w⟩] = some (sl I1 w) := rfl;have tOk : (∀ x ∈ k.brk.places, valK k.clock.pts x) → fl.length = k.clock.pts.length → w = k.brk.wins → decide (TournOk k) = decide (JustP k.clock (edsB w k.brk.places w.length)) := fun hv hlen5 h6 => by
  have h6' := hfine.1 h6;have hJ := just_same (c := k.clock) h1.2.2.1 (edsB_nodup (b := k.brk) hF h2 hv h6' _ (Nat.le_refl _)) (fun e he => (edsB_facts (b := k.brk) hF h2 hv h6' he).2.2);rw [h6, Bool.eq_iff_iff, decide_eq_true_eq, decide_eq_true_eq];exact ⟨fun h => hJ.2 h.2.2.2.2.2.2, fun h => ⟨h1, h2, h3, hv, by rw [hfe]; exact hlen5, h6', hJ.1 h⟩⟩
 have cKT2' : RF.ev (.cell 0) [F k.clock.pts] = some (sl row k.clock.pts) := rfl;simp only [den_lt, cKT11, phi (c120 (l := k.brk.places) (by omega)), EV, List.length_map];refine (run_list (m := 1001) (l := k.brk.places) (p := fun x => !decide (x < 0)) (st := fun i => [.i64 (i : Int)]) (r := some [.i64 (okE (decide (TournOk k)))]) (fin := some [.i64 (okE (decide (TournOk k)))]) (fun i a self ha hp => ?_) (fun hall self => ?_) (by omega)).trans ?_
 ·have hi := get_lt ha;unfold k78_52;simp only [EV, decide_eq_true_eq, if_lt hi, ixM hi, eltM ha, rowI, up1 (show i < 1000000000 by omega)]
  by_cases c : a < 0
  rotate_left
  ·rw [if_neg c, if_pos (by simp; omega)]
  ·rw [if_pos c, if_neg (show ¬ (i : Int) = -1 by omega), if_neg (by simp [c])]
   have hend := cpt_ok ha c hp (k.brk.places.length - (i + 1)) (by omega);refine (run_up (m := 1001) (n := k.brk.places.length - (i + 1)) (st := fun t => [sl I1 (cpt k.brk.places i t).1, .i64 ((cpt k.brk.places i t).2 : Int), .i64 ((i + 1 + t : Nat) : Int)]) (fin := some [.i64 (okE (decide (TournOk k)))]) (fun t self ht => ?_) (fun self => ?_) (by omega))
   ·obtain ⟨q1, q2, _, q4⟩ := cpt_ok ha c hp t (by omega);have hx := nthI_some (l := k.brk.places) (i := i + 1 + t) (by omega);have hy := q4 (i + 1 + t) (Nat.le_refl _);rw [hx] at hy;have hz : cpt k.brk.places i (t + 1) = if 0 ≤ nthI k.brk.places (i + 1 + t) then ((cpt k.brk.places i t).1.set (cpt k.brk.places i t).2 (nthI k.brk.places (i + 1 + t)), (cpt k.brk.places i t).2 + 1) else cpt k.brk.places i t := rfl
    rw [hz];generalize cpt k.brk.places i t = s at q1 q2 hy;generalize nthI k.brk.places (i + 1 + t) = x at hy;unfold k78_51;simp only [EV, decide_eq_true_eq, if_lt (show i + 1 + t < k.brk.places.length by omega), ixM (show i + 1 + t < k.brk.places.length by omega), eltM hy, rowI, ixM (show s.2 < k.brk.places.length by omega), setI (l := s.1) (i := s.2) (by omega), up1 (show s.2 < 1000000000 by omega), k78_50, up1 (show i + 1 + t < 1000000000 by omega)]
    by_cases c0 : x < 0
    ·rw [if_neg (by simp [c0]), if_neg (by omega)];rfl
    ·rw [if_pos (by simp [c0]), if_pos (by omega)];rfl
   ·rw [show i + 1 + (k.brk.places.length - (i + 1)) = k.brk.places.length by omega, List.take_length, hfe] at hend
    rw [show i + 1 + (k.brk.places.length - (i + 1)) = k.brk.places.length by omega]
    generalize cpt k.brk.places i (k.brk.places.length - (i + 1)) = s at hend;obtain ⟨L, n⟩ := s;obtain ⟨q1, q2, q3, q4⟩ := hend;simp only at q1 q2 q3;have hn : n = fl.length := by rw [← q3, List.length_take]; omega
    subst hn;have cl := clrI (L := L) (a := fl.length) (n := k.brk.places.length - fl.length) (by omega);rw [q3] at cl;have bn : RF.ev .bnd [.v (.int .i64 (fl.length : Int)), .v (.int .i64 (k.brk.places.length : Int))] = some (.i64 (fl.length : Int)) := by rw [f_bnd, if_pos ⟨by omega, by omega⟩]
    have dd : (k.brk.places.length : Int) - (fl.length : Int) = ((k.brk.places.length - fl.length : Nat) : Int) := by omega
    have ap := appS (L := fl ++ List.replicate (k.brk.places.length - fl.length) 0) (S := S) (by rw [List.length_append]; omega);unfold k78_51;simp only [EV, decide_eq_true_eq, if_neg (show ¬ ((k.brk.places.length : Nat) : Int) < ((k.brk.places.length : Nat) : Int) by omega), k78_49, bn, Int.zero_add, dd, cl, subA, den_lt, hs160, ap, cKT2, List.length_map, Bool.not_eq_true', decide_eq_false_iff_not, Bool.not_false, if_true]
    by_cases h5 : fl.length = k.clock.pts.length
    rotate_left
    ·rw [if_pos (by omega)];exact no (fun h => h5 (by have := h.2.2.2.2.1; rw [hfe] at this; exact this))
    rw [if_neg (by omega)];have hzl : (S.zip k.clock.pts).length = fl.length := by rw [List.length_zip]; omega
    refine (run_list (m := 1001) (l := S.zip k.clock.pts) (p := fun x => decide (x.1 = x.2.id)) (st := fun i => [.i64 (i : Int)]) (r := some [.i64 8]) (fin := some [.i64 (okE (decide (TournOk k)))]) (fun i x self hx _ => ?_) (fun hall self => ?_) (by omega)).trans ?_
    ·obtain ⟨hp, hq⟩ := zip_get hx;have hp' : (S ++ (fl ++ List.replicate (k.brk.places.length - fl.length) 0).drop S.length)[i]? = some x.1 := by rw [List.getElem?_append_left (get_lt hp)]; exact hp
     have hi := get_lt hx;unfold k78_48;simp only [den_lt, cKT2, EV, List.length_map, decide_eq_true_eq, if_lt (show i < fl.length by omega), ixM (show i < fl.length by omega), eltM hp', tixM hq (row_len _), eltM hq, rowI, rowP, cellP0, up1 (show i < 1000000000 by omega), Bool.not_eq_true', decide_eq_false_iff_not]
     by_cases e : x.1 = x.2.id
     ·rw [if_neg (by simp [e]), if_pos e]
     ·rw [if_pos e, if_neg e];rfl
    ·rw [hzl];have h4 : S = k.clock.pts.map Pt.id := zip_all (by omega) hall;obtain ⟨hv, hlen5⟩ := hsame.1 h4;obtain ⟨e123, hmm⟩ := t123 hv;unfold k78_48;simp only [EV, decide_eq_true_eq, List.length_map, if_neg (show ¬ ((fl.length : Nat) : Int) < ((fl.length : Nat) : Int) by omega), if_neg (show ¬ ((fl.length : Nat) : Int) < ((fl.length : Nat) : Int) by omega), k78_44, Bool.not_true, Bool.false_eq_true, if_false, den_lt, pKT2, pKT0, cKT11, cKT12, e123, shBR, cB1, phi (c163 (l := w) (k := k.brk.wins) (by omega)), Bool.not_eq_true', decide_eq_false_iff_not]
     by_cases h6 : w = k.brk.wins
     rotate_left
     ·rw [if_pos h6];exact no (fun h => h6 (hfine.2 h.2.2.2.2.2.1))
     rw [if_neg (by simp [h6])];have hd := tOk hv hlen5 h6;rw [hd];have hEl : (edsB w k.brk.places w.length).length ≤ w.length := edsB_len ..;generalize edsB w k.brk.places w.length = E at hEl;have cc := gCl_certs g1;simp only [den_lt, pKT, cCL4, EV, List.length_map];by_cases c1 : E.length = k.clock.certs.list.length
     ·rw [if_pos (decide_eq_true (by omega))];refine (run_list (m := 1001) (l := k.clock.certs.list) (p := fun h => decide (h.cert ∈ E)) (st := fun i => [.i64 (i : Int)]) (r := some [.i64 8]) (fin := some [.i64 0]) (fun i a self ha _ => ?_) (fun _ self => ?_) (by omega)).trans ?_
      ·unfold k78_43;simp only [den_lt, cCL4, tixM ha (lenH _), eltM ha, rowH, pHP, phi (c155 (l := E) a.cert (by omega)), EV, List.length_map, decide_eq_true_eq, if_lt (get_lt ha), up1 (show i < 1000000000 by have := get_lt ha; omega), Bool.not_eq_true', decide_eq_false_iff_not]
       by_cases c2 : a.cert ∈ E
       ·rw [if_neg (by simp [c2]), if_pos c2]
       ·rw [if_pos c2, if_neg c2];unfold k78_41;simp only [EV];rfl
      ·unfold k78_43 k78_42 k78_41;simp only [EV, decide_eq_true_eq, if_ge];rfl
      ·have : (k.clock.certs.list.all fun h => decide (h.cert ∈ E)) = decide (JustP k.clock E) := by
        rw [Bool.eq_iff_iff, decide_eq_true_eq];unfold JustP;simp [c1]
       rw [this];cases decide (JustP k.clock E) <;> rfl
     ·rw [if_neg (by simp; omega), show decide (JustP k.clock E) = false from decide_eq_false (fun h => c1 h.1)]
      unfold k78_41;simp only [EV];rfl
    ·by_cases hT : TournOk k
     ·rw [if_pos (zip_all' (hsame.2 ⟨hT.2.2.2.1, by have := hT.2.2.2.2.1; rw [hfe] at this; exact this⟩))]
     ·split
      ·rfl
      ·exact no hT
 ·have hall' : fl = k.brk.places := by
   rw [← hfe];exact List.filter_eq_self.2 fun x hx => by
    have := List.all_eq_true.1 hall x hx;simp at this ⊢; omega
  have ap := appS (L := k.brk.places) (S := S) (by omega);have hsu : RF.ev .sub [sl I1 k.brk.places, .v (.int .i64 0), .v (.int .i64 (k.brk.places.length : Int))] = some (sl I1 fl) := by rw [hall']; exact subM
  unfold k78_52;simp only [EV, decide_eq_true_eq, if_ge, k78_26, eq_self, if_true, hsu, den_lt, hs160, ap, cKT2, List.length_map, Bool.not_eq_true', decide_eq_false_iff_not, Bool.not_false];have hpl' : k.brk.places.length = fl.length := by rw [hall']
  rw [hpl'];by_cases h5 : fl.length = k.clock.pts.length
  rotate_left
  ·rw [if_pos (by omega)];exact no (fun h => h5 (by have := h.2.2.2.2.1; rw [hfe] at this; exact this))
  rw [if_neg (by omega)];have hzl : (S.zip k.clock.pts).length = fl.length := by rw [List.length_zip]; omega
  refine (run_list (m := 1001) (l := S.zip k.clock.pts) (p := fun x => decide (x.1 = x.2.id)) (st := fun i => [.i64 (i : Int)]) (r := some [.i64 8]) (fin := some [.i64 (okE (decide (TournOk k)))]) (fun i x self hx _ => ?_) (fun hall self => ?_) (by omega)).trans ?_
  ·obtain ⟨hp, hq⟩ := zip_get hx;have hp' : (S ++ k.brk.places.drop S.length)[i]? = some x.1 := by rw [List.getElem?_append_left (get_lt hp)]; exact hp
   have hi := get_lt hx;unfold k78_11;simp only [den_lt, cKT2, EV, List.length_map, decide_eq_true_eq, if_lt (show i < fl.length by omega), ixM (show i < fl.length by omega), eltM hp', tixM hq (row_len _), eltM hq, rowI, rowP, cellP0, up1 (show i < 1000000000 by omega), Bool.not_eq_true', decide_eq_false_iff_not]
   by_cases e : x.1 = x.2.id
   ·rw [if_neg (by simp [e]), if_pos e]
   ·rw [if_pos e, if_neg e];rfl
  ·rw [hzl];have h4 : S = k.clock.pts.map Pt.id := zip_all (by omega) hall;obtain ⟨hv, hlen5⟩ := hsame.1 h4;obtain ⟨e123, hmm⟩ := t123 hv;unfold k78_11;simp only [EV, decide_eq_true_eq, List.length_map, if_neg (show ¬ ((fl.length : Nat) : Int) < ((fl.length : Nat) : Int) by omega), if_neg (show ¬ ((fl.length : Nat) : Int) < ((fl.length : Nat) : Int) by omega), k78_7, Bool.not_true, Bool.false_eq_true, if_false, den_lt, pKT2, pKT0, cKT11, cKT12, e123, shBR, cB1, phi (c163 (l := w) (k := k.brk.wins) (by omega)), Bool.not_eq_true', decide_eq_false_iff_not]
   by_cases h6 : w = k.brk.wins
   rotate_left
   ·rw [if_pos h6];exact no (fun h => h6 (hfine.2 h.2.2.2.2.2.1))
   rw [if_neg (by simp [h6])];have hd := tOk hv hlen5 h6;rw [hd];have hEl : (edsB w k.brk.places w.length).length ≤ w.length := edsB_len ..;generalize edsB w k.brk.places w.length = E at hEl;have cc := gCl_certs g1;simp only [den_lt, pKT, cCL4, EV, List.length_map];by_cases c1 : E.length = k.clock.certs.list.length
   ·rw [if_pos (decide_eq_true (by omega))];refine (run_list (m := 1001) (l := k.clock.certs.list) (p := fun h => decide (h.cert ∈ E)) (st := fun i => [.i64 (i : Int)]) (r := some [.i64 8]) (fin := some [.i64 0]) (fun i a self ha _ => ?_) (fun _ self => ?_) (by omega)).trans ?_
    ·unfold k78_6;simp only [den_lt, cCL4, tixM ha (lenH _), eltM ha, rowH, pHP, phi (c155 (l := E) a.cert (by omega)), EV, List.length_map, decide_eq_true_eq, if_lt (get_lt ha), up1 (show i < 1000000000 by have := get_lt ha; omega), Bool.not_eq_true', decide_eq_false_iff_not]
     by_cases c2 : a.cert ∈ E
     ·rw [if_neg (by simp [c2]), if_pos c2]
     ·rw [if_pos c2, if_neg c2];unfold k78_4;simp only [EV];rfl
    ·unfold k78_6 k78_5 k78_4;simp only [EV, decide_eq_true_eq, if_ge];rfl
    ·have : (k.clock.certs.list.all fun h => decide (h.cert ∈ E)) = decide (JustP k.clock E) := by
      rw [Bool.eq_iff_iff, decide_eq_true_eq];unfold JustP;simp [c1]
     rw [this];cases decide (JustP k.clock E) <;> rfl
   ·rw [if_neg (by simp; omega), show decide (JustP k.clock E) = false from decide_eq_false (fun h => c1 h.1)]
    unfold k78_4;simp only [EV];rfl
  ·by_cases hT : TournOk k
   ·rw [if_pos (zip_all' (hsame.2 ⟨hT.2.2.2.1, by have := hT.2.2.2.2.1; rw [hfe] at this; exact this⟩))]
   ·split
    ·rfl
    ·exact no hT
 ·split <;> rfl
end Go.Proofs.YtfghdmmapmdcgaaGreat
