import Derived.Test.YtfghdmmapmdcgaaGreatCS
set_option linter.unusedVariables false
set_option linter.unusedSimpArgs false
set_option linter.defProp false
noncomputable section
namespace Go.Proofs.YtfghdmmapmdcgaaGreat
open Go.Sym Bnd
set_option maxRecDepth 100000
theorem nth_mem {l : List Int} {i : Nat} (h : i < l.length) : nthI l i ∈ l := List.mem_of_getElem? (nthI_some h)
theorem mem_edges {l : List Int} {e : Crt} (h : e ∈ edgesH l) : e.low ∈ l ∧ e.high ∈ l := by
 unfold edgesH edgesTo at h;obtain ⟨i, hi, rfl⟩ := List.mem_map.1 h;rw [List.mem_range] at hi;exact ⟨nth_mem (by omega), nth_mem (by omega)⟩
theorem edges_nodup {l : List Int} (h : l.Nodup) : (edgesH l).Nodup := by
 rw [nodup_get];intro i j x hi hj;unfold edgesH edgesTo at hi hj;rw [List.getElem?_map, Option.map_eq_some_iff] at hi hj;obtain ⟨a, ha, rfl⟩ := hi;obtain ⟨b, hb, e⟩ := hj;have ha' := get_lt ha;have hb' := get_lt hb;rw [List.length_range] at ha' hb';rw [List.getElem?_range ha'] at ha;rw [List.getElem?_range hb'] at hb;cases ha; cases hb;simp only [Crt.mk.injEq] at e;have := nodup_get.1 h (i + 1) (j + 1) (nthI l (i + 1)) (nthI_some (by omega)) (by rw [← e.1]; exact nthI_some (by omega));omega
def HeapOk (k : KHeap) : Prop := ClkOk k.clock ∧ k.heap.length = k.clock.pts.length ∧ (∀ x ∈ k.heap, inF k.clock.pts x = true) ∧ k.heap.Nodup ∧ JustR k.clock (edgesH k.heap)
theorem in_ids {l : List Pt} {x : Int} : inF l x = true ↔ x ∈ l.map Pt.id := by
 constructor
 ·intro h;unfold inF at h;have h := of_decide_eq_true h;rcases pos_cases l x with ⟨e, _⟩ | ⟨i, p, h1, h2, h3⟩
  ·omega
  ·exact List.mem_map.2 ⟨p, List.mem_of_getElem? h1, h2⟩
 ·intro h;obtain ⟨p, hp, rfl⟩ := List.mem_map.1 h;cases e : inF l p.id with
  | true => rfl
  | false => exact absurd rfl (inF_not e p hp)
theorem gKh_cl {k : KHeap} (h : gKh k = false) : gCl k.clock = false ∧ k.heap.length ≤ 70 := by
 unfold gKh at h;simp only [Bool.or_eq_false_iff, decide_eq_false_iff_not] at h;exact ⟨h.1, by omega⟩
theorem gCl_certs {c : Clock} (h : gCl c = false) : c.certs.list.length ≤ 40 := by
 unfold gCl at h;simp only [Bool.or_eq_false_iff, decide_eq_false_iff_not] at h;omega
open Classical in
theorem c81 {k : KHeap} (h64 : Cl64 k.clock) (hg : gKh k = false) : Ans D 81 [KH k] [.i64 (okE (decide (HeapOk k)))] := by
 obtain ⟨g1, g2⟩ := gKh_cl hg;have no : ∀ h : ¬ HeapOk k, (some [PV.v (.int .i64 8)] : Option (List PV)) = some [.i64 (okE (decide (HeapOk k)))] := fun h => by rw [decide_eq_false h]; rfl
 have cKH2 : RF.ev (.cell 2) [KH k] = some (sl row k.clock.pts) := rfl;have pKH2 : RF.ev (.part 2 1) [KH k] = some (F k.clock.pts) := rfl;refine ans_of k81_ok s81 rfl ⟨1001, ?_⟩;unfold k81;simp only [den_lt, shKH, pKH, cKH, cKH2, EV, List.length_map, phi (c167 h64 g1), okE_not, Bool.not_eq_true', decide_eq_false_iff_not, decide_eq_true_eq];by_cases h1 : ClkOk k.clock
 ·rw [if_pos h1];by_cases h2 : k.heap.length = k.clock.pts.length
  ·rw [if_neg (by omega)];have hF := h1.2.1;refine (run_if (m := 1001) (n := k.heap.length) (P := fun i => ∀ x, k.heap[i]? = some x → inF k.clock.pts x = true ∧ ∀ j, j < i → ∀ y, k.heap[j]? = some y → y ≠ x) (st := fun i => [.i64 (i : Int)]) (r := some [.i64 8]) (fin := some [.i64 (okE (decide (HeapOk k)))]) (fun i self hi _ => ?_) (fun hall self => ?_) (by omega)).trans ?_
   ·have hx := nthI_some hi;generalize nthI k.heap i = x at hx;have hP : (∀ x', k.heap[i]? = some x' → inF k.clock.pts x' = true ∧ ∀ j, j < i → ∀ y, k.heap[j]? = some y → y ≠ x') ↔ (inF k.clock.pts x = true ∧ ∀ j, j < i → ∀ y, k.heap[j]? = some y → y ≠ x) :=
     ⟨fun h => h x hx, fun h x' e => by rw [hx] at e; cases e; exact h⟩
    unfold k81_4;simp only [hP, den_lt, cKH, pKH2, tixM hx (lenI _), eltM hx, rowI, phi (c168 (l := k.clock.pts) (by have := hF.1; omega) x), EV, List.length_map, decide_eq_true_eq, if_lt hi];by_cases c1 : pos k.clock.pts x < 0
    ·rw [if_pos c1, if_neg (fun y => by have := of_decide_eq_true y.1; omega)]
    ·rw [if_neg c1];have c1' : inF k.clock.pts x = true := decide_eq_true (by omega);refine (run_if (m := 1001) (n := i) (P := fun j => ∀ y, k.heap[j]? = some y → y ≠ x) (st := fun i => [.i64 (i : Int)]) (r := some [.i64 8]) (fin := self [.i64 ((i + 1 : Nat) : Int)]) (fun j self' hj _ => ?_) (fun _ self' => ?_) (by omega)).trans ?_
     ·have hy := nthI_some (l := k.heap) (i := j) (by omega);generalize nthI k.heap j = y at hy;have hQ : (∀ y', k.heap[j]? = some y' → y' ≠ x) ↔ y ≠ x := ⟨fun h => h y hy, fun h y' e => by rw [hy] at e; cases e; exact h⟩;unfold k81_3;simp only [hQ, den_lt, cKH, tixM hx (lenI _), eltM hx, tixM hy (lenI _), eltM hy, rowI, EV, decide_eq_true_eq, if_lt hj, up1 (show j < 1000000000 by omega)]
      by_cases c4 : y = x
      ·rw [if_pos c4, if_neg (by simp [c4])]
      ·rw [if_neg c4, if_pos c4]
     ·unfold k81_3;simp only [EV, decide_eq_true_eq, if_ge, k81_2, up1 (show i < 1000000000 by omega)]
     ·by_cases hq : ∀ j, j < i → ∀ y, k.heap[j]? = some y → y ≠ x
      ·rw [if_pos hq, if_pos ⟨c1', hq⟩]
      ·rw [if_neg hq, if_neg (fun y => hq y.2)]
   ·have hin : ∀ x ∈ k.heap, inF k.clock.pts x = true := fun x hx => by
     obtain ⟨i, hi⟩ := List.mem_iff_getElem?.1 hx;exact (hall i (get_lt hi) x hi).1
    have hnd : k.heap.Nodup := nodup_lt.2 fun i j x hj hi e => (hall i (get_lt hi) x hi).2 j hj x e rfl;unfold k81_4;simp only [den_lt, cKH, EV, List.length_map, decide_eq_true_eq, if_ge, k81_1, pKH, phi (c170 (l := k.heap) (by omega)), phi (c169 (c := k.clock) (edges := edgesH k.heap) hF h64.1 (by unfold edgesH; rw [edgesTo_len]; omega) (by have := gCl_certs g1; omega) (fun e he => ⟨hin _ (mem_edges he).1, hin _ (mem_edges he).2⟩)), Bool.not_eq_true', decide_eq_false_iff_not];by_cases hj : JustR k.clock (edgesH k.heap)
    ·rw [if_neg (by simp [hj]), decide_eq_true (show HeapOk k from ⟨h1, h2, hin, hnd, hj⟩)]; rfl
    ·rw [if_pos hj];exact no (fun h => hj h.2.2.2.2)
   ·by_cases hq : ∀ i, i < k.heap.length → ∀ x, k.heap[i]? = some x → inF k.clock.pts x = true ∧ ∀ j, j < i → ∀ y, k.heap[j]? = some y → y ≠ x
    ·rw [if_pos hq]
    ·rw [if_neg hq];refine no (fun h => hq fun i hi x hx => ⟨h.2.2.1 x (List.mem_of_getElem? hx), fun j hj y hy e => ?_⟩);subst e;exact nodup_lt.1 h.2.2.2.1 i j y hj hx hy
  ·rw [if_pos (by omega)];exact no (fun h => h2 h.2.1)
 ·rw [if_neg h1];exact no (fun h => h1 h.1)
theorem ids_heap {l : List Pt} {h : List Int} (hs : risen l) (hl : h.length = l.length) : (∀ p ∈ l, p.id ∈ h) ↔ ((∀ x ∈ h, inF l x = true) ∧ h.Nodup) := by
 constructor
 ·intro a;have hp := sub_perm (l := l.map Pt.id) (k := h) (risen_ids hs) (fun x hx => by obtain ⟨p, hp, rfl⟩ := List.mem_map.1 hx; exact a p hp) (by rw [List.length_map]; omega);exact ⟨fun x hx => in_ids.2 (hp.mem_iff.2 hx), hp.nodup_iff.1 (risen_ids hs)⟩
 ·rintro ⟨a, b⟩ p hp;have hp' := sub_perm (l := h) (k := l.map Pt.id) b (fun x hx => in_ids.1 (a x hx)) (by rw [List.length_map]; omega);exact hp'.mem_iff.2 (List.mem_map.2 ⟨p, hp, rfl⟩)
open Classical in
theorem c77 {k : KHeap} (h64 : Cl64 k.clock) (hg : gKh k = false) : Ans D 77 [KH k] [.i64 (okE (decide (HeapOk k)))] := by
 obtain ⟨g1, g2⟩ := gKh_cl hg;have no : ∀ h : ¬ HeapOk k, (some [PV.v (.int .i64 8)] : Option (List PV)) = some [.i64 (okE (decide (HeapOk k)))] := fun h => by rw [decide_eq_false h]; rfl
 have cKH2 : RF.ev (.cell 2) [KH k] = some (sl row k.clock.pts) := rfl;have cKH4 : RF.ev (.cell 4) [KH k] = some (sl hrow k.clock.certs.list) := rfl;have pKH2 : RF.ev (.part 2 1) [KH k] = some (F k.clock.pts) := rfl;have pKH0 : RF.ev (.part 0 2) [KH k] = some (R k.clock.now) := rfl;have el : (edgesH k.heap).length = k.heap.length - 1 := by unfold edgesH; rw [edgesTo_len]
 refine ans_of k77_ok s77 rfl ⟨1001, ?_⟩;unfold k77;simp only [den_lt, shKH, pKH, cKH, cKH2, EV, List.length_map, phi (c153 h64 g1), okE_not, Bool.not_eq_true', decide_eq_false_iff_not, decide_eq_true_eq];by_cases h1 : ClkOk k.clock
 ·rw [if_pos h1];by_cases h2 : k.heap.length = k.clock.pts.length
  ·rw [if_neg (by omega)];have hF := h1.2.1;refine (run_list (m := 1001) (l := k.clock.pts) (p := fun p => decide (p.id ∈ k.heap)) (st := fun i => [.i64 (i : Int)]) (r := some [.i64 8]) (fin := some [.i64 (okE (decide (HeapOk k)))]) (fun i p self hp _ => ?_) (fun hall self => ?_) (by omega)).trans ?_
   ·unfold k77_4;simp only [den_lt, cKH, cKH2, cellP0, tixM hp (row_len _), eltM hp, rowP, phi (c154 (l := k.heap) p.id (by omega)), EV, decide_eq_true_eq, if_lt (get_lt hp), up1 (show i < 1000000000 by have := get_lt hp; omega)]
    by_cases c1 : p.id ∈ k.heap <;> simp [c1]
   ·have hall : ∀ p ∈ k.clock.pts, p.id ∈ k.heap := fun p hp => of_decide_eq_true (List.all_eq_true.1 hall p hp);obtain ⟨hin, hnd⟩ := (ids_heap hF.2.2 h2).1 hall;unfold k77_4;simp only [den_lt, cKH, cKH4, EV, List.length_map, decide_eq_true_eq, if_ge, k77_3, phi (c141 (l := k.heap) (by omega)), Bool.not_eq_true', decide_eq_false_iff_not];by_cases h3 : (edgesH k.heap).length = k.clock.certs.list.length
    ·rw [if_neg (by omega)];have hJ := just_iff (c := k.clock) h1.2.2.1 (edges_nodup hnd) (fun e => leads k.clock.now (ptOf k.clock.pts e.high) (ptOf k.clock.pts e.low) = true);refine (run_list (m := 1001) (l := k.clock.certs.list) (p := fun h => decide (h.cert ∈ edgesH k.heap) && leads k.clock.now (ptOf k.clock.pts h.cert.high) (ptOf k.clock.pts h.cert.low)) (st := fun i => [.i64 (i : Int)]) (r := some [.i64 8]) (fin := some [.i64 0]) (fun i h self hh _ => ?_) (fun _ self => ?_) (by have := gCl_certs g1; omega)).trans ?_
     ·unfold k77_2;simp only [den_lt, cKH4, pKH0, pKH2, cHP1, cHP2, pHP, tixM hh (lenH _), eltM hh, rowH, phi (c155 (l := edgesH k.heap) h.cert (by omega)), EV, decide_eq_true_eq, if_lt (get_lt hh), up1 (show i < 1000000000 by have := get_lt hh; have := gCl_certs g1; omega)]
      by_cases c1 : h.cert ∈ edgesH k.heap
      ·obtain ⟨m1, m2⟩ := mem_edges c1;obtain ⟨i1, p, a1, a2, a3, a4⟩ := inF_ok hF (hin _ m1);obtain ⟨j1, q, b1, b2, b3, b4⟩ := inF_ok hF (hin _ m2);have hne : q.id ≠ p.id := by rw [a2, b2]; exact fun e => (h1.2.2.1.2.2.2 i h hh).1.2.2.2.2 e.symm
       have hA := phi (c156 hF h64.1 h1.1 b1 a1 hne);rw [a2, b2] at hA;simp only [c1, decide_true, Bool.not_true, Bool.false_eq_true, if_false, Bool.true_and, den_lt, cHP1, cHP2, pKH0, pKH2, hA, a4, b4, EV, up1 (show i < 1000000000 by have := get_lt hh; have := gCl_certs g1; omega)]
       cases leads k.clock.now q p <;> simp
      ·simp [c1]
     ·unfold k77_2;simp only [EV, decide_eq_true_eq, if_ge, k77_1]
     ·have : (k.clock.certs.list.all fun h => decide (h.cert ∈ edgesH k.heap) && leads k.clock.now (ptOf k.clock.pts h.cert.high) (ptOf k.clock.pts h.cert.low)) = true ↔ HeapOk k := by
       rw [List.all_eq_true];simp only [Bool.and_eq_true, decide_eq_true_eq];constructor
       ·intro h;exact ⟨h1, h2, hin, hnd, hJ.1 ⟨h3, h⟩⟩
       ·intro h;exact (hJ.2 h.2.2.2.2).2
      by_cases hr : HeapOk k
      ·rw [if_pos (this.2 hr), decide_eq_true hr]; rfl
      ·rw [if_neg (fun h => hr (this.1 h)), decide_eq_false hr]; rfl
    ·rw [if_pos (by omega)];exact no (fun h => h3 h.2.2.2.2.1.symm)
   ·by_cases hq : (k.clock.pts.all fun p => decide (p.id ∈ k.heap)) = true
    ·rw [if_pos hq]
    ·rw [if_neg hq];refine no (fun h => hq (List.all_eq_true.2 fun p hp => decide_eq_true ((ids_heap hF.2.2 h2).2 ⟨h.2.2.1, h.2.2.2.1⟩ p hp)))
  ·rw [if_pos (by omega)];exact no (fun h => h2 h.2.1)
 ·rw [if_neg h1];exact no (fun h => h1 h.1)
end Go.Proofs.YtfghdmmapmdcgaaGreat
