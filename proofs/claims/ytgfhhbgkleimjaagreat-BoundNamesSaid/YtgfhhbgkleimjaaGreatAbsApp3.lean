/- A machine that carries out code on values that are known, and the proof that the model's runs agree with it: one part. -/
import Derived.Test.YtgfhhbgkleimjaaGreatAbsApp2
noncomputable section
namespace Go.Abs
variable {P : Program} {φ : Ren} {H H' : AH} {bar base : Nat} {w : World}

theorem arr_of_list {α : Type} {a : Array α} {l : List α} (h : a.toList = l) : a = l.toArray := by
  apply Array.toList_inj.1
  rw [h]

theorem len_of_cells {c l : List Value} {o n : Nat} (h : cellsAt c o n = some l) : l.length = n := (cellsAt_get h).1

theorem cellsAt_len {c l : List Value} {o n : Nat} (h : cellsAt c o n = some l) (hn : n ≠ 0) : o + n ≤ c.length := by
  rw [cellsAt_eq] at h
  split at h
  · rename_i hq; simp at hq; omega
  · cases h

/-- The grown row, however long it is. -/
theorem snd_grow (hs : Sim φ H bar base w) {st xt ty elem : Nat} {i : TypeInfo} {zv : Value} (hu : P.underlying st = some (.slice elem)) (hi : P.info? elem = some i) (hz : i.zero = some zv) (hzs : zv.cells.size = i.size)
    {u : Value} {n : Nat} {vs new : List Value} (ha : App P xt i.size i.bytes zv.cells n vs w.heap u) (hv : VRs φ vs new) (hnl : new.length = n * i.size)
    {a : Option Addr} {len cap : Nat} (hroom : cap < len + n) (hb : (len + n) * i.bytes ≤ 140737488355328) (hbp : 0 < i.bytes)
    {olds old : List Value} (hold : ∀ w' : World, w'.heap = w.heap → (Builtin.firstCells i.size len (.slice a len cap)).run P w' = .ok olds.toArray w') (hov : VRs φ olds old) (hol : old.length = len * i.size)
    (hal : H.alloc (.row (old ++ new) elem i.size) = some H') :
    SemOk P φ H bar base w (Builtin.append_ #[st, xt] ty #[.slice a len cap, u]) (.slice (some ⟨H.next, 0, none⟩) (len + n) capU) H' := by
  have hrun := run_app_grow hu hi hz hzs ha a len cap hroom hb hbp hold (w := w) (ty := ty)
  have hge := grownCap_ge w (len + n) cap elem
  have hsz : (olds.toArray ++ vs.toArray ++ Builtin.zeroCells zv.cells (grownCap w (len + n) cap elem - (len + n))).size = grownCap w (len + n) cap elem * i.size := by
    simp only [Array.size_append, List.size_toArray, size_zeroCells, hov.length, hv.length, hol, hnl, hzs]
    rw [← Nat.add_mul, ← Nat.add_mul]
    congr 1
    omega
  have hnew := new_row (hs.drew) hal (arr := olds.toArray ++ vs.toArray ++ Builtin.zeroCells zv.cells (grownCap w (len + n) cap elem - (len + n))) (t := elem) (z := i.size)
    (by simp only [Array.size_append, List.size_toArray, List.length_append, hov.length, hv.length]; omega)
    (fun j b hj => by
      obtain ⟨v, h1, h2⟩ := (hov.append hv).get j b hj
      refine ⟨v, ?_, h2⟩
      have hlt : j < (olds ++ vs).length := (List.getElem?_eq_some_iff.1 h1).1
      have : (olds.toArray ++ vs.toArray) = (olds ++ vs).toArray := by simp
      rw [this, Array.getElem?_append_left (by simpa using hlt)]
      simpa using h1)
  refine ⟨_, _, _, hrun, ?_, (Step.drew hs).trans hnew⟩
  have hφ := upd_self φ H.next ⟨w.drew.heap.size, 0, (olds.toArray ++ vs.toArray ++ Builtin.zeroCells zv.cells (grownCap w (len + n) cap elem - (len + n))).size, i.size, (old ++ new).length⟩
  have := VR.slice (φ := upd φ H.next _) (o := 0) (len := len + n) (cap := grownCap w (len + n) cap elem) (acap := capU) hφ hge (.inr ⟨rfl, by simp only [hsz]; omega, by simp only [List.length_append, hol, hnl]; rw [← Nat.add_mul]; have := Nat.mul_le_mul_right i.size hge; omega⟩)
  simpa using this

theorem snd_aGrow (hs : Sim φ H bar base w) {st xt ty elem : Nat} {i : TypeInfo} {zv : Value} (hu : P.underlying st = some (.slice elem)) (hi : P.info? elem = some i) (hz : i.zero = some zv) (hzs : zv.cells.size = i.size)
    {u : Value} {n : Nat} {vs new : List Value} (ha : App P xt i.size i.bytes zv.cells n vs w.heap u) (hv : VRs φ vs new) (hnl : new.length = n * i.size)
    {a : Option Addr} {len cap : Nat} (hroom : cap < len + n) (hbp : 0 < i.bytes)
    {olds old : List Value} (hold : ∀ w' : World, w'.heap = w.heap → (Builtin.firstCells i.size len (.slice a len cap)).run P w' = .ok olds.toArray w') (hov : VRs φ olds old) (hol : old.length = len * i.size)
    {r : Value} (h : aGrow H elem i.size i.bytes len n old new = some (.val r H')) :
    SemOk P φ H bar base w (Builtin.append_ #[st, xt] ty #[.slice a len cap, u]) r H' := by
  unfold aGrow at h
  split at h
  · rename_i hb
    obtain ⟨p, hr, h⟩ := Option.map_eq_some_iff.1 h
    obtain ⟨b', H₁⟩ := p
    obtain ⟨rfl, hal⟩ := aNewRow_eq hr
    injection h with h1 h2
    subst h1; subst h2
    exact snd_grow hs hu hi hz hzs ha hv hnl hroom hb hbp hold hov hol hal
  · cases h

/-- The old cells. -/
theorem old_rel (hs : Sim φ H bar base w) {size b o len cap : Nat} {s' : Value} {old : List Value} (hs' : VR φ s' (.slice (some ⟨b, o, none⟩) len cap)) (h : aOld H size b o len = some old) (c1 : size ≠ 0) :
    old.length = len * size ∧ ∃ olds, VRs φ olds old ∧ ∀ w' : World, w'.heap = w.heap → (Builtin.firstCells size len s').run P w' = .ok olds.toArray w' := by
  have hfc : aFirst H size len (.slice (some ⟨b, o, none⟩) len cap) = some old := by
    unfold aFirst
    unfold aOld at h
    by_cases hl0 : len = 0
    · rw [if_pos hl0] at h
      simp only [hl0, Nat.zero_mul, if_true]
      exact h
    · rw [if_neg hl0] at h
      have : ¬ (len * size = 0) := Nat.mul_ne_zero hl0 c1
      simp only [if_neg this]
      exact h
  refine ⟨?_, ?_⟩
  · unfold aOld at h
    by_cases hl0 : len = 0
    · rw [if_pos hl0] at h; cases h; simp [hl0]
    · rw [if_neg hl0] at h
      unfold rowCells at h
      split at h
      · exact len_of_cells h
      · cases h
  · exact firstCells_rel (P := P) hs hs' hfc (fun m hm => by rw [← aLen_slice hm]; exact Nat.le_refl _)

theorem slice_some {s' : Value} {b o len cap : Nat} (hs' : VR φ s' (.slice (some ⟨b, o, none⟩) len cap)) : ∃ r x cap', φ b = some r ∧ s' = .slice (some ⟨r.c, x, none⟩) len cap' ∧
    ((len ≤ cap' ∧ x = r.s + o ∧ ((cap = cap' ∧ cap ≠ capU) ∨ (cap = capU ∧ r.s + o + cap' * r.z ≤ r.lim ∧ r.n ≤ o + cap' * r.z))) ∨ (len = 0 ∧ cap' = 0 ∧ (cap = 0 ∨ (cap = capU ∧ r.n ≤ o)))) := by
  cases hs' with
  | slice hφ hl hc => exact ⟨_, _, _, hφ, rfl, .inl ⟨hl, rfl, hc⟩⟩
  | sliceE hφ ha => exact ⟨_, _, _, hφ, rfl, .inr ⟨rfl, rfl, ha⟩⟩

theorem snd_appX (hs : Sim φ H bar base w) {st xt ty elem : Nat} {i : TypeInfo} {zv : Value} (hu : P.underlying st = some (.slice elem)) (hi : P.info? elem = some i) (hz : i.zero = some zv) (hzs : zv.cells.size = i.size)
    {u : Value} {n : Nat} {vs new : List Value} (ha : App P xt i.size i.bytes zv.cells n vs w.heap u) (hv : VRs φ vs new) (hnl : new.length = n * i.size) (hbp : 0 < i.bytes) (c1 : i.size ≠ 0) (hn : n ≠ 0)
    {s' : Value} {b o len cap : Nat} (hs' : VR φ s' (.slice (some ⟨b, o, none⟩) len cap)) (hcap : cap ≠ capU) {r : Value} (h : aAppX bar H elem i.size i.bytes n new b o len cap = some (.val r H')) :
    SemOk P φ H bar base w (Builtin.append_ #[st, xt] ty #[s', u]) r H' := by
  have hso := slice_some hs'
  unfold aAppX at h
  split at h
  · rename_i hroom
    obtain ⟨H₁, hw, h⟩ := Option.map_eq_some_iff.1 h
    injection h with h1 h2
    subst h1; subst h2
    obtain ⟨rb, x, cap', hφ, rfl, hcase⟩ := hso
    rcases hcase with ⟨hl, rfl, hc⟩ | ⟨rfl, rfl, hc⟩
    · have hc : cap = cap' := by
        rcases hc with hc | hc
        · exact hc.1
        · exact absurd hc.1 hcap
      subst hc
      obtain ⟨w', f1, f2⟩ := run_aWrite P hs hφ hv hw
      rw [← Nat.add_assoc] at f1
      exact ⟨_, w', φ, run_app_in hu hi hz hzs ha _ _ len _ hroom f1, .slice hφ hroom (.inl ⟨rfl, hcap⟩), f2⟩
    · have := hc.resolve_right (fun h => hcap h.1)
      omega
  · rename_i hroom
    obtain ⟨old, hold, h⟩ := Option.bind_eq_some_iff.1 h
    obtain ⟨hol, olds, hov, q2⟩ := old_rel (P := P) hs hs' hold c1
    obtain ⟨rb, x, cap', hφ, rfl, hcase⟩ := hso
    have hrm : cap' < len + n := by
      rcases hcase with ⟨hl, rfl, hc⟩ | ⟨rfl, rfl, hc⟩
      · have hc : cap = cap' := by
          rcases hc with hc | hc
          · exact hc.1
          · exact absurd hc.1 hcap
        omega
      · omega
    exact snd_aGrow hs hu hi hz hzs ha hv hnl hrm hbp q2 hov hol h

theorem snd_appU (hs : Sim φ H bar base w) {st xt ty elem : Nat} {i : TypeInfo} {zv : Value} (hu : P.underlying st = some (.slice elem)) (hi : P.info? elem = some i) (hz : i.zero = some zv) (hzs : zv.cells.size = i.size)
    {u : Value} {n : Nat} {vs new : List Value} (ha : App P xt i.size i.bytes zv.cells n vs w.heap u) (hv : VRs φ vs new) (hnl : new.length = n * i.size) (hbp : 0 < i.bytes) (c1 : i.size ≠ 0) (hn : n ≠ 0)
    {s' : Value} {b o len : Nat} (hs' : VR φ s' (.slice (some ⟨b, o, none⟩) len capU)) {r : Value} (h : aAppU bar H elem i.size i.bytes n new b o len = some (.val r H')) :
    SemOk P φ H bar base w (Builtin.append_ #[st, xt] ty #[s', u]) r H' := by
  have hso := slice_some hs'
  unfold aAppU at h
  split at h
  · rename_i hcond
    obtain ⟨hbar, hb, hone⟩ := hcond
    split at h
    · rename_i c t zz hg
      split at h
      · rename_i htz
        obtain ⟨rfl, rfl⟩ := htz
        obtain ⟨old, hold, h⟩ := Option.bind_eq_some_iff.1 h
        obtain ⟨H₁, hal, h⟩ := Option.map_eq_some_iff.1 h
        injection h with h1 h2
        subst h1; subst h2
        obtain ⟨hol, olds, hov, q2⟩ := old_rel (P := P) hs hs' hold c1
        have hlive : H.live b := ⟨_, hg, by simp⟩
        obtain ⟨rb, x, cap', hφ, rfl, hcase⟩ := hso
        have hgrow : cap' < len + n → SemOk P φ H bar base w (Builtin.append_ #[st, xt] ty #[.slice (some ⟨rb.c, x, none⟩) len cap', u]) (.slice (some ⟨H.next, 0, none⟩) (len + n) capU) H₁ := by
          intro hroom
          have hk := hs.update hφ hbar hlive (Only.refl rb.c w) (ao := .dead) trivial
          obtain ⟨v, w', φ', e1, e2, e3⟩ := snd_grow hk.sim hu hi hz hzs ha hv hnl hroom hb hbp q2 hov hol hal (ty := ty)
          exact ⟨v, w', φ', e1, e2, hk.trans e3⟩
        by_cases hroom : len + n ≤ cap'
        · rcases hcase with ⟨hl, rfl, hc⟩ | ⟨rfl, rfl, hc⟩
          · have hc := hc.resolve_left (fun e => e.2 rfl)
            obtain ⟨arr, fz, g1, g2, g3, g4, g5, g6⟩ := hs.obj b rb _ hφ hg
            have hmul : (len + n) * i.size ≤ cap' * i.size := Nat.mul_le_mul_right _ hroom
            rw [Nat.add_mul] at hmul
            have hlim := hc.2.1
            rw [g3.1] at hlim
            obtain ⟨w', arr', f1, f2, f3, f4, f5⟩ := run_storeCells P rb.c (rb.s + o + len * i.size) t fz vs 0 w arr g1 g6 (by rw [hv.length, hnl]; omega) (ones_rel hv hone)
            refine ⟨_, w', upd φ H.next ⟨rb.c, rb.s + o, rb.lim, rb.z, (old ++ new).length⟩, run_app_in hu hi hz hzs ha _ _ len _ hroom f1, ?_, ?_⟩
            · have hφn := upd_self φ H.next ⟨rb.c, rb.s + o, rb.lim, rb.z, (old ++ new).length⟩
              have := VR.slice (φ := upd φ H.next ⟨rb.c, rb.s + o, rb.lim, rb.z, (old ++ new).length⟩) (o := 0) (len := len + n) (cap := cap') (acap := capU) hφn hroom (.inr ⟨rfl, by simp only [Nat.add_zero]; rw [g3.1]; omega, by simp only [List.length_append, hol, hnl]; rw [g3.1]; omega⟩)
              simpa using this
            · refine hs.rekey hφ hbar hlive f2 rfl hal ⟨arr', fz, f3, by rw [f4]; exact g2, ⟨g3.1, rfl⟩, ?_, fun j b' hj => ?_, by rw [f4]; exact g6⟩
              · simp only [List.length_append, hol, hnl]; omega
              · have hvl := hv.length
                by_cases hjl : j < old.length
                · rw [List.getElem?_append_left hjl] at hj
                  have hl0 : len ≠ 0 := by
                    intro hl0
                    rw [hol, hl0] at hjl
                    omega
                  unfold aOld at hold
                  rw [if_neg hl0] at hold
                  unfold rowCells at hold
                  rw [hg] at hold
                  obtain ⟨_, hget⟩ := cellsAt_get hold
                  rw [hol] at hjl
                  rw [hget j hjl] at hj
                  obtain ⟨v, k1, k2⟩ := g5 (o + j) b' hj
                  refine ⟨v, ?_, k2.mono (upd_le hs _)⟩
                  show arr'[rb.s + o + j]? = some v
                  rw [f5, if_neg (by omega)]
                  rw [← Nat.add_assoc] at k1
                  exact k1
                · rw [List.getElem?_append_right (by omega)] at hj
                  obtain ⟨v, k1, k2⟩ := hv.get _ b' hj
                  refine ⟨v, ?_, k2.mono (upd_le hs _)⟩
                  have hlt := (List.getElem?_eq_some_iff.1 k1).1
                  show arr'[rb.s + o + j]? = some v
                  rw [f5, if_pos (by omega)]
                  have : rb.s + o + j - (rb.s + o + len * i.size + 0) = j - old.length := by omega
                  rw [this]; exact k1
          · omega
        · exact hgrow (by omega)
      · cases h
    · cases h
  · cases h

theorem snd_appV (hs : Sim φ H bar base w) {st xt ty elem : Nat} {i : TypeInfo} {zv : Value} (hu : P.underlying st = some (.slice elem)) (hi : P.info? elem = some i) (hz : i.zero = some zv) (hzs : zv.cells.size = i.size)
    {u : Value} {n : Nat} {vs new : List Value} (ha : App P xt i.size i.bytes zv.cells n vs w.heap u) (hv : VRs φ vs new) (hnl : new.length = n * i.size) (hbp : 0 < i.bytes) (c1 : i.size ≠ 0) (hn : n ≠ 0)
    {s' : Value} {b o len : Nat} (hs' : VR φ s' (.slice (some ⟨b, o, none⟩) len capU)) {r : Value} (h : aAppV bar H elem i.size i.bytes n new b o len = some (.val r H')) :
    SemOk P φ H bar base w (Builtin.append_ #[st, xt] ty #[s', u]) r H' := by
  unfold aAppV at h
  split at h
  · rename_i c t zz hg
    split at h
    · rename_i hin
      obtain ⟨rfl, hin⟩ := hin
      obtain ⟨H₁, hw, h⟩ := Option.map_eq_some_iff.1 h
      injection h with h1 h2
      subst h1; subst h2
      obtain ⟨rb, x, cap', hφ, rfl, hcase⟩ := slice_some hs'
      obtain ⟨arr, fz, g1, g2, g3, g4, g5, g6⟩ := hs.obj b rb _ hφ hg
      have hpos : 0 < i.size := by omega
      rcases hcase with ⟨hl, rfl, hc⟩ | ⟨rfl, rfl, hc⟩
      · have hc := hc.resolve_left (fun e => e.2 rfl)
        have hroom : len + n ≤ cap' := by
          have h3 := hc.2.2
          rw [g3.1, g3.2] at h3
          have : (len + n) * i.size ≤ cap' * i.size := by omega
          exact Nat.le_of_mul_le_mul_right this hpos
        obtain ⟨w', f1, f2⟩ := run_aWrite P hs hφ hv hw
        rw [← Nat.add_assoc] at f1
        exact ⟨_, w', φ, run_app_in hu hi hz hzs ha _ _ len _ hroom f1, .slice hφ hroom (.inr hc), f2⟩
      · exfalso
        have h3 := (hc.resolve_left (by unfold capU; omega)).2
        rw [g3.2] at h3
        have : 0 < (0 + n) * i.size := Nat.mul_pos (by omega) hpos
        omega
    · exact snd_appU hs hu hi hz hzs ha hv hnl hbp c1 hn hs' h
  · cases h

theorem snd_appS (hs : Sim φ H bar base w) {st xt ty elem : Nat} {i : TypeInfo} {zv : Value} (hu : P.underlying st = some (.slice elem)) (hi : P.info? elem = some i) (hz : i.zero = some zv) (hzs : zv.cells.size = i.size)
    {u : Value} {n : Nat} {vs new : List Value} (ha : App P xt i.size i.bytes zv.cells n vs w.heap u) (hv : VRs φ vs new) (hnl : new.length = n * i.size) (hbp : 0 < i.bytes) (c1 : i.size ≠ 0)
    {s' s : Value} (hs' : VR φ s' s) {r : Value} (h : aAppS bar H elem i.size i.bytes n new s = some (.val r H')) :
    SemOk P φ H bar base w (Builtin.append_ #[st, xt] ty #[s', u]) r H' := by
  unfold aAppS at h
  split at h
  · cases hs' with
    | sliceNil =>
      split at h
      · rename_i h0
        subst h0
        injection h with h
        injection h with h1 h2
        subst h1; subst h2
        exact ⟨_, _, _, run_app_none hu hi hz ha, .sliceNil, Step.refl hs⟩
      · rename_i h0
        exact snd_aGrow hs hu hi hz hzs ha hv hnl (by omega) hbp (olds := []) (fun w' _ => by simp [Builtin.firstCells]) .nil (by simp) h
  · rename_i b o len cap
    split at h
    · rename_i h0
      subst h0
      injection h with h
      injection h with h1 h2
      subst h1; subst h2
      have hvs0 : vs = [] := List.eq_nil_of_length_eq_zero (by rw [hv.length, hnl]; omega)
      subst hvs0
      have hso := slice_some hs'
      obtain ⟨rb, x, cap', hφ, rfl, hcase⟩ := hso
      exact ⟨_, w, φ, run_app_in hu hi hz hzs ha _ _ len _ (by rcases hcase with hq | hq <;> omega) (by simp [storeCells]), by simpa using hs', Step.refl hs⟩
    · rename_i h0
      split at h
      · rename_i hcap
        subst hcap
        exact snd_appV hs hu hi hz hzs ha hv hnl hbp c1 h0 hs' h
      · rename_i hcap
        exact snd_appX hs hu hi hz hzs ha hv hnl hbp c1 h0 hs' hcap h
  · cases h

theorem snd_append (hs : Sim φ H bar base w) {ts : Array TypeId} {ty : TypeId} {args' args : Array Value} {a : Value} (hargs : VRs φ args'.toList args.toList)
    (h : aAppend P bar H ts args = some (.val a H')) : SemOk P φ H bar base w (Builtin.append_ ts ty args') a H' := by
  unfold aAppend at h
  split at h
  · rename_i st xt s x hts hag
    have e1 := arr_of_list hts
    subst e1
    rw [hag] at hargs
    obtain ⟨s', x', hs', hx', rfl⟩ : ∃ s' x', VR φ s' s ∧ VR φ x' x ∧ args' = #[s', x'] := by
      generalize hl : args'.toList = l at hargs
      cases hargs with
      | cons h1 t =>
        cases t with
        | cons h2 t =>
          cases t with
          | nil => exact ⟨_, _, h1, h2, arr_of_list hl⟩
    split at h
    · rename_i elem hu
      obtain ⟨size, hz, h⟩ := Option.bind_eq_some_iff.1 h
      obtain ⟨i, hi, h⟩ := Option.bind_eq_some_iff.1 h
      obtain ⟨zv, hzv, h⟩ := Option.bind_eq_some_iff.1 h
      have hsz : i.size = size := by
        unfold szT at hz
        rw [hi] at hz
        simpa using hz
      subst hsz
      have hzero : i.zero = some zv := by
        unfold zeroT at hzv
        rw [hi] at hzv
        simpa using hzv
      split at h
      · cases h
      · rename_i hc
        simp only [not_or] at hc
        obtain ⟨c1, c2, c3, c4⟩ := hc
        have c2 : zv.cells.toList.length = i.size := by simpa using c2
        have c2' : zv.cells.size = i.size := by simpa using c2
        have c3 : zv.cells.toList.all plain1 = true := by simpa using c3
        obtain ⟨p, happ, h⟩ := Option.bind_eq_some_iff.1 h
        obtain ⟨n, new⟩ := p
        obtain ⟨vs, hvs, hnl, hA⟩ := appended_rel hs hx' c3 c2 happ
        have hbp : 0 < i.bytes := by omega
        exact snd_appS hs hu hi hzero c2' hA hvs hnl hbp c1 hs' h
    · cases h
  · cases h

end Go.Abs
