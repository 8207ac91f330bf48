import Derived.Test.YtfghdmmapmdcgaaGreatCVH
set_option linter.unusedVariables false
set_option linter.unusedSimpArgs false
set_option linter.defProp false
noncomputable section
namespace Go.Proofs.YtfghdmmapmdcgaaGreat
open Go.Sym Bnd
set_option maxRecDepth 100000
def hangs (t : Rt) (l : List Pt) : List (Int × Int) := hangP t l (-1) 0
def upsO (t : Rt) (l : List Pt) : List Int := l.map fun p => luk (hangs t l) p.id 0
theorem sets_get {l : List Pt} (hs : risen l) : ∀ (ps : List (Int × Int)) (out : List Int), out.length = l.length → (∀ x ∈ ps, ∃ p ∈ l, p.id = x.1) → ∀ (i : Nat) (p : Pt) (v : Int), l[i]? = some p → out[i]? = some v → (ps.foldl (fun out x => out.set (pos l x.1).toNat x.2) out)[i]? = some (luk ps p.id v)
 | [], out, _, _, i, p, v, _, hv => hv
 | x :: ps, out, ho, hm, i, p, v, hp, hv => by
  rw [List.foldl_cons];unfold luk;rw [List.foldl_cons];obtain ⟨q, hq, hqx⟩ := hm x (by simp);obtain ⟨j, hj⟩ := List.mem_iff_getElem?.1 hq;have hpos : pos l x.1 = j := by rw [← hqx]; exact pos_some hs hj
  refine sets_get hs ps _ (by simpa using ho) (fun y hy => hm y (List.mem_cons_of_mem _ hy)) i p _ hp ?_
  rw [hpos, Int.toNat_natCast];by_cases e : i = j
  ·subst e;rw [hp] at hj; cases hj;rw [if_pos hqx.symm, List.getElem?_set_self (by have := get_lt hp; omega)]
  ·rw [List.getElem?_set_ne (by omega), if_neg (fun h => e ?_)]
   ·exact hv
   ·exact nodup_get.1 (risen_ids hs) i j p.id (by rw [List.getElem?_map, hp]; rfl) (by rw [List.getElem?_map, hj, Option.map_some, hqx, h])
theorem sets_len (l : List Pt) : ∀ (ps : List (Int × Int)) (out : List Int), (ps.foldl (fun out x => out.set (pos l x.1).toNat x.2) out).length = out.length
 | [], out => rfl
 | x :: ps, out => by rw [List.foldl_cons, sets_len l ps, List.length_set]
theorem ids_nonneg {l : List Pt} (h : okF l) : ∀ p ∈ l, 0 ≤ p.id ∧ p.id ≤ 65535 := fun p hp => by
 obtain ⟨i, hi⟩ := List.mem_iff_getElem?.1 hp;have := Pt.bnd (okF_pt h hi);omega
theorem c179 {l : List Pt} {t : Rt} (h : okF l) (ht : In64 t) : Ans D 179 [F l, R t] [sl I1 (upsO t l)] := by
 have hl := h.1;have hh := phi (c269 64 ((sortP t l).map Pt.id) (-1) 0 (by rw [List.length_map, (sortP_perm t l).length_eq]; omega) (by omega) (by omega) (fun x hx => by
  obtain ⟨p, hp, rfl⟩ := List.mem_map.1 hx;exact (ids_nonneg h p ((sortP_perm t l).mem_iff.1 hp)).1))
 rw [hang_eq 64 l (sortP t l) (-1) 0 hl (sortP_perm t l) (sortP_ord (risen_ids h.2.2)) (risen_ids h.2.2)] at hh;have hlen : (hangs t l).length ≤ 64 := by
  have := hangR_len 64 ((sortP t l).map Pt.id) (-1) 0 (by rw [List.length_map, (sortP_perm t l).length_eq]; omega);rw [hang_eq 64 l (sortP t l) (-1) 0 hl (sortP_perm t l) (sortP_ord (risen_ids h.2.2)) (risen_ids h.2.2), List.length_map, (sortP_perm t l).length_eq] at this;unfold hangs;omega
 have hkey : ∀ x ∈ hangs t l, ∃ p ∈ l, p.id = x.1 := fun x hx => by
  obtain ⟨p, hp, e, _⟩ := hangP_facts 64 l (-1) 0 hl (risen_ids h.2.2) x hx;exact ⟨p, hp, e⟩
 refine ans_of k179_ok s179 rfl ⟨1001, ?_⟩;unfold k179;have z0 : PV.v (.int .i64 0) = .i64 ((0 : Nat) : Int) := rfl;have hh' : PhiS D 269 [sl I1 ((sortP t l).map Pt.id), .v (.int .i64 (-1)), .v (.int .i64 0)] = some [sl prow (hangs t l)] := hh;simp only [den_lt, shapeF, shapeR, cellF, phi (c152 h ht), hh', repI (show l.length ≤ 1000 by omega), EV, List.length_map, List.length_replicate]
 refine (run_fold (m := 1001) (l := hangs t l) (g := fun out x => out.set (pos l x.1).toNat x.2) (I := fun _ out => out.length = l.length) (S := fun out i => [sl I1 out, .i64 (i : Int)]) (fin := fun out => some [sl I1 out]) (x := List.replicate l.length 0) (by simp) (fun i a acc _ h => by simpa using h) (fun i x acc self hx hI => ?_) (fun acc self hI => ?_) (by omega)).1.trans ?_
 ·obtain ⟨p, hp, e⟩ := hkey x (List.mem_of_getElem? hx);obtain ⟨j, hj⟩ := List.mem_iff_getElem?.1 hp;have hpos : pos l x.1 = j := by rw [← e]; exact pos_some h.2.2 hj
  have hAt := phi (c168 (l := l) (by omega) x.1);rw [hpos] at hAt;unfold k179_2;simp only [den_lt, tixM hx (lenP _), eltM hx, rowP1, rowP2, hAt, ixM (get_lt hj), setI (show j < acc.length by rw [hI]; exact get_lt hj), EV, List.length_map, decide_eq_true_eq, if_lt (get_lt hx), up1 (show i < 1000000000 by have := get_lt hx; omega)]
  rw [hpos, Int.toNat_natCast]
 ·unfold k179_2;have := subM (f := I1) (l := acc);rw [hI] at this;simp only [EV, List.length_map, decide_eq_true_eq, if_ge, k179_1, this]
 ·congr 4
  refine List.ext_getElem? fun i => ?_;by_cases hi : i < l.length
  ·have hp := List.getElem?_eq_getElem hi;rw [sets_get h.2.2 (hangs t l) _ (by simp) hkey i _ 0 hp (by rw [List.getElem?_replicate, if_pos hi])];unfold upsO;rw [List.getElem?_map, hp];rfl
  ·rw [List.getElem?_eq_none (by rw [sets_len]; simp; omega), List.getElem?_eq_none (by unfold upsO; simp; omega)]
def edgesU (l : List Pt) (up : List Int) : List Crt := (l.zip up).filterMap fun x => if 0 ≤ x.2 then some ⟨x.1.id, x.2⟩ else none
theorem fold_fm {α β : Type} (f : α → Option β) : ∀ (l : List α) (acc : List β), l.foldl (fun acc x => acc ++ (f x).toList) acc = acc ++ l.filterMap f
 | [], acc => by simp
 | a :: l, acc => by
  rw [List.foldl_cons, fold_fm f l, List.filterMap_cons];cases f a <;> simp
theorem c180 {l : List Pt} {up : List Int} (hl : l.length = up.length) (hb : l.length ≤ 1000) : Ans D 180 [F l, sl I1 up] [sl crow (edgesU l up)] := by
 refine ans_of k180_ok s180 rfl ⟨1001, ?_⟩;unfold k180;simp only [den_lt, shapeF, EV];have e0 : ([PV.sl [], .v (.int .i64 0), .v (.int .i64 0)] : List PV) = [sl crow ([] : List Crt), .i64 ((([] : List Crt).length : Nat) : Int), .i64 ((0 : Nat) : Int)] := rfl;rw [e0];refine (run_fold (m := 1001) (l := l.zip up) (g := fun acc x => acc ++ (if 0 ≤ x.2 then some (Crt.mk x.1.id x.2) else none).toList) (I := fun i acc => acc.length ≤ i) (S := fun acc i => [sl crow acc, .i64 (acc.length : Int), .i64 (i : Int)]) (fin := fun acc => some [sl crow acc]) (x := []) (by simp) (fun i a acc _ h => ?_) (fun i x acc self hx hI => ?_) (fun acc self hI => ?_) (by rw [zip_len hl]; omega)).1.trans ?_
 ·by_cases c : 0 ≤ a.2
  ·simp only [c, if_true, Option.toList, List.length_append, List.length_singleton]; omega
  ·simp only [c, if_false, Option.toList, List.append_nil]; omega
 ·obtain ⟨hp, hq⟩ := zip_get hx;have hi := get_lt hp;unfold k180_3;simp only [den_lt, cellF, tixM hp (row_len _), eltM hp, rowP0, tixM hq (lenI _), eltM hq, rowI, EV, List.length_map, decide_eq_true_eq, if_lt (get_lt hq), ge_iff_le, k180_2];by_cases c : 0 ≤ x.2
  ·rw [if_pos c];simp only [den_lt, cellF, tixM hp (row_len _), eltM hp, rowP0, tixM hq (lenI _), eltM hq, rowI, aggC, bsC, subC1, appM (f := crow) (l := acc) (k := [⟨x.1.id, x.2⟩]) (bytes := 16) (z := 2) (by simp; omega) lenC, EV, List.length_map, k180_2, up1 (show i < 1000000000 by omega), c, if_true, Option.toList]
  ·rw [if_neg c];simp only [EV, k180_2, up1 (show i < 1000000000 by omega), c, if_false, Option.toList, List.append_nil]
 ·rw [zip_len hl, hl];unfold k180_3;simp only [EV, List.length_map, decide_eq_true_eq, if_ge, k180_1, subM]
 ·rw [fold_fm (fun x : Pt × Int => if 0 ≤ x.2 then some (Crt.mk x.1.id x.2) else none)]
  rfl
theorem mem_edgesU {l : List Pt} {up : List Int} {e : Crt} : e ∈ edgesU l up ↔ ∃ (i : Nat) (p : Pt) (u : Int), l[i]? = some p ∧ up[i]? = some u ∧ 0 ≤ u ∧ e = ⟨p.id, u⟩ := by
 unfold edgesU;rw [List.mem_filterMap];constructor
 ·rintro ⟨x, hx, h⟩;obtain ⟨i, hi⟩ := List.mem_iff_getElem?.1 hx;obtain ⟨h1, h2⟩ := zip_get hi;split at h
  ·cases h; exact ⟨i, _, _, h1, h2, by assumption, rfl⟩
  ·cases h
 ·rintro ⟨i, p, u, h1, h2, h3, rfl⟩;refine ⟨(p, u), List.mem_of_getElem? (i := i) ?_, if_pos h3⟩;rw [List.getElem?_zip_eq_some];exact ⟨h1, h2⟩
theorem edgesU_nodup : ∀ {l : List Pt} {up : List Int}, Ids l → (edgesU l up).Nodup
 | [], _, _ => by simp [edgesU]
 | p :: l, [], _ => by simp [edgesU]
 | p :: l, u :: us, h => by
  have ih := edgesU_nodup (l := l) (up := us) h.tail;unfold edgesU at ih ⊢;rw [List.zip_cons_cons, List.filterMap_cons];by_cases c : 0 ≤ u
  ·simp only [c, if_true];rw [List.nodup_cons];refine ⟨fun hm => ?_, ih⟩;obtain ⟨i, q, v, h1, h2, h3, h4⟩ := mem_edgesU.1 (show (⟨p.id, u⟩ : Crt) ∈ edgesU l us from hm)
   simp only [Crt.mk.injEq] at h4;refine (List.nodup_cons.1 h).1 ?_;show p.id ∈ l.map Pt.id
   rw [h4.1];exact List.mem_map.2 ⟨q, List.mem_of_getElem? h1, rfl⟩
  ·simp only [c, if_false];exact ih
def HangOk (k : KHeap) : Prop := ClkOk k.clock ∧ upsO k.clock.now k.clock.pts = k.heap ∧ JustR k.clock (edgesU k.clock.pts (upsO k.clock.now k.clock.pts))
theorem ups_len (t : Rt) (l : List Pt) : (upsO t l).length = l.length := by simp [upsO]
theorem edgesU_facts {l : List Pt} {t : Rt} (h : okF l) {e : Crt} (he : e ∈ edgesU l (upsO t l)) : inF l e.low = true ∧ inF l e.high = true ∧ leads t (ptOf l e.high) (ptOf l e.low) = true := by
 obtain ⟨i, p, u, h1, h2, h3, rfl⟩ := mem_edgesU.1 he;unfold upsO at h2;rw [List.getElem?_map, h1, Option.map_some, Option.some.injEq] at h2;have hpm := List.mem_of_getElem? h1;obtain ⟨f, hf⟩ := hangP_keys 64 l (-1) 0 h.1 (risen_ids h.2.2) (fun p hp => (ids_nonneg h p hp).1) p hpm;have hmem : (p.id, u) ∈ hangs t l := by
  rcases luk_mem (ps := hangs t l) (k := p.id) (v := 0) with e | e
  ·rw [h2] at e;have := luk_has (ps := hangs t l) (k := p.id) (v := 0) ⟨f, hf⟩;rw [h2] at this;exact this
  ·rw [h2] at e; exact e
 obtain ⟨p', hp', e1, e2⟩ := hangP_facts 64 l (-1) 0 h.1 (risen_ids h.2.2) (p.id, u) hmem;simp only at e1 e2;have : p' = p := (risen_ids h.2.2).inj hp' hpm e1;subst this;rcases e2 with e2 | ⟨q, hq, e3, e4⟩
 ·omega
 ·refine ⟨in_ids.2 (List.mem_map.2 ⟨p', hpm, rfl⟩), in_ids.2 (List.mem_map.2 ⟨q, hq, e3⟩), ?_⟩;obtain ⟨j, hj⟩ := List.mem_iff_getElem?.1 hq;simp only;rw [← e3, ptOf_some h hj, ptOf_some h h1];exact e4
open Classical in
theorem c84 {k : KHeap} (h64 : Cl64 k.clock) (hg : gKh k = false) : Ans D 84 [KH k] [.i64 (okE (decide (HangOk k)))] := by
 obtain ⟨g1, g2⟩ := gKh_cl hg;have no : ∀ h : ¬ HangOk k, (some [PV.v (.int .i64 8)] : Option (List PV)) = some [.i64 (okE (decide (HangOk k)))] := fun h => by rw [decide_eq_false h]; rfl
 have pKH2 : RF.ev (.part 2 1) [KH k] = some (F k.clock.pts) := rfl;have pKH0 : RF.ev (.part 0 2) [KH k] = some (R k.clock.now) := rfl;refine ans_of k84_ok s84 rfl ⟨1001, ?_⟩;unfold k84;simp only [den_lt, shKH, pKH, EV, phi (c167 h64 g1), okE_not, Bool.not_eq_true', decide_eq_false_iff_not];by_cases h1 : ClkOk k.clock
 ·have hF := h1.2.1;have hl := hF.1;rw [decide_eq_true h1, if_pos rfl];simp only [den_lt, pKH, pKH2, pKH0, cKH, phi (c179 hF h64.1), phi (c135 (l := upsO k.clock.now k.clock.pts) (k := k.heap) (by rw [ups_len]; omega)), phi (c180 (l := k.clock.pts) (up := upsO k.clock.now k.clock.pts) (ups_len _ _).symm (by omega)), EV, Bool.not_eq_true', decide_eq_false_iff_not];by_cases h2 : upsO k.clock.now k.clock.pts = k.heap
  ·rw [if_neg (by simp [h2])];have hel : (edgesU k.clock.pts (upsO k.clock.now k.clock.pts)).length ≤ 1000 := by
    unfold edgesU;have := List.length_filterMap_le (fun x : Pt × Int => if 0 ≤ x.2 then some (Crt.mk x.1.id x.2) else none) (k.clock.pts.zip (upsO k.clock.now k.clock.pts))
    rw [zip_len (ups_len _ _).symm] at this;omega
   simp only [den_lt, EV, phi (c169 (c := k.clock) (edges := edgesU k.clock.pts (upsO k.clock.now k.clock.pts)) hF h64.1 hel (by have := gCl_certs g1; omega) (fun e he => ⟨(edgesU_facts hF he).1, (edgesU_facts hF he).2.1⟩)), Bool.not_eq_true', decide_eq_false_iff_not];by_cases h3 : JustR k.clock (edgesU k.clock.pts (upsO k.clock.now k.clock.pts))
   ·rw [if_neg (by simp [h3]), decide_eq_true (show HangOk k from ⟨h1, h2, h3⟩)]; rfl
   ·rw [if_pos h3];exact no (fun h => h3 h.2.2)
  ·rw [if_pos h2];exact no (fun h => h2 h.2.1)
 ·rw [decide_eq_false h1, if_neg (by simp)];exact no (fun h => h1 h.1)
theorem hangs_nodup {t : Rt} {l : List Pt} (h : okF l) : ((hangs t l).map (·.1)).Nodup := hang_nodup l.length l (-1) 0 (Nat.le_refl _) (risen_ids h.2.2)
def edgF (g : Pt → Int) (k : List Pt) : List Crt := k.filterMap fun p => if 0 ≤ g p then some ⟨p.id, g p⟩ else none
theorem edgesU_map (g : Pt → Int) : ∀ k : List Pt, edgesU k (k.map g) = edgF g k
 | [] => rfl
 | x :: k => by
  have := edgesU_map g k;unfold edgesU edgF at this ⊢;rw [List.map_cons, List.zip_cons_cons, List.filterMap_cons, List.filterMap_cons, this]
theorem edgF_len (g : Pt → Int) (k : List Pt) : (edgF g k).length ≤ k.length := List.length_filterMap_le ..
theorem c127 {l : List Pt} {t : Rt} (h : okF l) (ht : In64 t) (hr : rok t = true) : Ans D 127 [F l, R t] [sl I1 (upsO t l), sl crow (edgesU l (upsO t l))] := by
 have hl := h.1;have h0 := phi (c221 ht hr l.length l (-1) 0 [] (Nat.le_refl _) (by omega) (by omega) (fun p hp => List.all_eq_true.1 h.2.1 p hp) (risen_ids h.2.2) (fun x hx => by cases hx));rw [List.nil_append] at h0;have e0 : Hm [] = .sl [] := rfl;rw [e0] at h0;have hgt : ∀ k : Int, RF.ev (.mget [.i] [KP.z]) [Hm (hangs t l), .v (.int .i64 k)] = some (.i64 (luk (hangs t l) k 0)) := fun k => getH (hangs_nodup h);have hh : PhiS D 221 [sl row l, R t, .v (.int .i64 (-1)), .v (.int .i64 0), .sl [], .sl []] = some [Hm (hangs t l)] := h0;unfold upsO;rw [edgesU_map];generalize hg : (fun p : Pt => luk (hangs t l) p.id 0) = g;have hgp : ∀ p : Pt, luk (hangs t l) p.id 0 = g p := fun p => by rw [← hg]
 refine ans_of k127_ok s127 rfl ⟨1001, ?_⟩;unfold k127;simp only [den_lt, shapeF, shapeR, cellF, hh, EV, List.length_map];have st0 : ([PV.sl [], .v (.int .i64 0), .sl [], .v (.int .i64 0), .v (.int .i64 0)] : List PV) = [sl I1 (([] : List Pt).map g), .i64 ((([] : List Pt).length : Nat) : Int), sl crow (edgF g []), .i64 (((edgF g []).length : Nat) : Int), .i64 ((0 : Nat) : Int)] := rfl;rw [st0];refine (run_fold (m := 1001) (l := l) (g := fun acc x => acc ++ [x]) (I := fun i acc => acc.length ≤ i) (S := fun acc i => [sl I1 (acc.map g), .i64 (acc.length : Int), sl crow (edgF g acc), .i64 ((edgF g acc).length : Int), .i64 (i : Int)]) (fin := fun acc => some [sl I1 (acc.map g), sl crow (edgF g acc)]) (x := []) (Nat.le_refl _) (fun i a acc _ hI => by simp; omega) (fun i p acc self hp hI => ?_) (fun acc self hI => ?_) (by omega)).1.trans ?_
 ·have hlt := get_lt hp;have hel := edgF_len g acc;have a1 := appM (f := I1) (l := acc.map g) (k := [g p]) (bytes := 8) (z := 1) (by simp; omega) lenI;rw [List.length_map] at a1;have hs : acc.map g ++ [g p] = (acc ++ [p]).map g := by simp
  have nxt := up1 (show i < 1000000000 by omega)
  unfold k127_3;simp only [den_lt, cellF, tixM hp (row_len _), eltM hp, rowP, cellP0, hgt, hgp, bsI, subI1, a1, hs, EV, List.length_map, List.length_append, List.length_singleton, decide_eq_true_eq, if_lt hlt, ge_iff_le];by_cases c1 : 0 ≤ g p
  ·have he : edgF g (acc ++ [p]) = edgF g acc ++ [⟨p.id, g p⟩] := by
    unfold edgF;rw [List.filterMap_append];simp [c1]
   rw [if_pos c1];simp only [den_lt, cellP0, hgt, hgp, aggC, bsC, subC1, he, appM (f := crow) (l := edgF g acc) (k := [⟨p.id, g p⟩]) (bytes := 16) (z := 2) (by simp; omega) lenC, EV, List.length_map, List.length_append, List.length_singleton, k127_2, nxt]
  ·have he : edgF g (acc ++ [p]) = edgF g acc := by
    unfold edgF;rw [List.filterMap_append];simp [c1]
   rw [if_neg c1];simp only [EV, k127_2, nxt, he]
 ·unfold k127_3;have a1 : RF.ev .sub [sl I1 (acc.map g), .v (.int .i64 0), .v (.int .i64 (acc.length : Int))] = some (sl I1 (acc.map g)) := by
   have := subM (f := I1) (l := acc.map g);rwa [List.length_map] at this
  simp only [EV, decide_eq_true_eq, if_ge, k127_1, a1, subM]
 ·have : ∀ (k a : List Pt), k.foldl (fun acc x => acc ++ [x]) a = a ++ k := by
   intro k;induction k with
   | nil => intro a; simp
   | cons x k ih => intro a; rw [List.foldl_cons, ih]; simp
  rw [this, List.nil_append]
open Classical in
theorem c80 {k : KHeap} (h64 : Cl64 k.clock) (hg : gKh k = false) : Ans D 80 [KH k] [.i64 (okE (decide (HangOk k)))] := by
 obtain ⟨g1, g2⟩ := gKh_cl hg;have no : ∀ h : ¬ HangOk k, (some [PV.v (.int .i64 8)] : Option (List PV)) = some [.i64 (okE (decide (HangOk k)))] := fun h => by rw [decide_eq_false h]; rfl
 have pKH2 : RF.ev (.part 2 1) [KH k] = some (F k.clock.pts) := rfl;have pKH0 : RF.ev (.part 0 2) [KH k] = some (R k.clock.now) := rfl;have cKH4 : RF.ev (.cell 4) [KH k] = some (sl hrow k.clock.certs.list) := rfl;have cc := gCl_certs g1;refine ans_of k80_ok s80 rfl ⟨1001, ?_⟩;unfold k80;simp only [den_lt, shKH, pKH, EV, phi (c153 h64 g1), okE_not, Bool.not_eq_true', decide_eq_false_iff_not];by_cases h1 : ClkOk k.clock
 ·have hF := h1.2.1;have hl := hF.1;rw [decide_eq_true h1, if_pos rfl];simp only [den_lt, pKH, pKH2, pKH0, cKH, cKH4, phi (c127 hF h64.1 h1.1), phi (c163 (l := upsO k.clock.now k.clock.pts) (k := k.heap) (by rw [ups_len]; omega)), EV, List.length_map, Bool.not_eq_true', decide_eq_false_iff_not];by_cases h2 : upsO k.clock.now k.clock.pts = k.heap
  ·rw [if_neg (by simp [h2])];have hel : (edgesU k.clock.pts (upsO k.clock.now k.clock.pts)).length ≤ 1000 := by
    unfold edgesU;have := List.length_filterMap_le (fun x : Pt × Int => if 0 ≤ x.2 then some (Crt.mk x.1.id x.2) else none) (k.clock.pts.zip (upsO k.clock.now k.clock.pts))
    rw [zip_len (ups_len _ _).symm] at this;omega
   have hJ := just_same (c := k.clock) h1.2.2.1 (edgesU_nodup (up := upsO k.clock.now k.clock.pts) (risen_ids hF.2.2)) (fun e he => (edgesU_facts hF he).2.2);by_cases h3 : (edgesU k.clock.pts (upsO k.clock.now k.clock.pts)).length = k.clock.certs.list.length
   ·rw [if_neg (by omega)];refine (run_list (m := 1001) (l := k.clock.certs.list) (p := fun h => decide (h.cert ∈ edgesU k.clock.pts (upsO k.clock.now k.clock.pts))) (st := fun i => [.i64 (i : Int)]) (r := some [.i64 8]) (fin := some [.i64 0]) (fun i h self hh _ => ?_) (fun _ self => ?_) (by omega)).trans ?_
    ·unfold k80_2;simp only [den_lt, cKH4, pHP, tixM hh (lenH _), eltM hh, rowH, phi (c155 h.cert hel), EV, decide_eq_true_eq, if_lt (get_lt hh), up1 (show i < 1000000000 by have := get_lt hh; omega)]
     by_cases c1 : h.cert ∈ edgesU k.clock.pts (upsO k.clock.now k.clock.pts) <;> simp [c1]
    ·unfold k80_2;simp only [EV, decide_eq_true_eq, if_ge, k80_1]
    ·have : (k.clock.certs.list.all fun h => decide (h.cert ∈ edgesU k.clock.pts (upsO k.clock.now k.clock.pts))) = true ↔ HangOk k := by
      rw [List.all_eq_true];simp only [decide_eq_true_eq];exact ⟨fun h => ⟨h1, h2, hJ.1 ⟨h3, h⟩⟩, fun h => (hJ.2 h.2.2).2⟩
     by_cases hr : HangOk k
     ·rw [if_pos (this.2 hr), decide_eq_true hr]; rfl
     ·rw [if_neg (fun h => hr (this.1 h)), decide_eq_false hr]; rfl
   ·rw [if_pos (by omega)];exact no (fun h => h3 h.2.2.1.symm)
  ·rw [if_pos h2];exact no (fun h => h2 h.2.1)
 ·rw [decide_eq_false h1, if_neg (by simp)];exact no (fun h => h1 h.1)
end Go.Proofs.YtfghdmmapmdcgaaGreat
