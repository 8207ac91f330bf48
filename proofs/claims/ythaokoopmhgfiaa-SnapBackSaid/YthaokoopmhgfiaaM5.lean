import Derived.Test.YthaokoopmhgfiaaM4
import Derived.ChangeArms
import Derived.DataReads
import Derived.ProofKit
set_option linter.unusedVariables false
set_option linter.unusedSimpArgs false
set_option linter.defProp false
noncomputable section
namespace Go.Sym
open Go.Abu Go.Pev
section
variable {P : Program} {I : FuncId → Bool} {env : List PV} {ρ : Nat → Option Nat} {σ : SS} {s : St} {f : PF}
theorem Rb.leCons (h : Rb I env ρ σ s) {k b : Nat} (h1 : ρ b = some k) (h2 : b < σ.nb) : Rb I env ρ { σ with le := (k, b) :: σ.le } s :=
 ⟨h.bl, h.inj, h.dom, h.fc, h.sz, fun p hp => by
  rcases List.mem_cons.1 hp with rfl | hp
  ·exact ⟨h1, h2⟩
  ·exact h.le p hp, h.ld, h.nn⟩
theorem Nx.leCons {ρ' : Nat → Option Nat} {σ' : SS} {s' : St} (h : Nx I env ρ σ ρ' σ' s') {k b : Nat} (h1 : ρ' b = some k) (h2 : b < σ'.nb) : Nx I env ρ σ ρ' { σ' with le := (k, b) :: σ'.le } s' :=
 ⟨h.rb.leCons h1 h2, h.sx, h.n, h.tm, h.fc, h.sz⟩
theorem lentL (hb : Rb I env ρ σ s) (hs : s.next = σ.nb) {l n : A} {els : List (List PV)} {ty z : Nat} (hl : l.ev env = some (.sl els)) (hn : n.ev env = some (.i64 els.length)) :
  Nx I env ρ σ (up ρ σ.nb s.next) { σ.new (.lst l ty z false) with le := (σ.nb, σ.nb) :: σ.le } (s.alloc ⟨els, ty, z, false, false⟩) ∧ DCσ env (up ρ σ.nb s.next) { σ.new (.lst l ty z false) with le := (σ.nb, σ.nb) :: σ.le } (.lsl σ.nb (.c (.i64 0)) n) (.lsl s.next 0 els.length) := by
 obtain ⟨k1, k2⟩ := newL' hb (ty := ty) (z := z) hl hn;exact ⟨k1.leCons (by unfold up; rw [if_pos rfl, hs]) (by show σ.nb < σ.nb + 1; omega), k2⟩
theorem entryCs_ok {y : A} {vs0 : List PV} (hy : y.ev env = some (.agg vs0)) (ht : vs0.all t0 = true) : ∀ {ts : List Slot} {i : Nat} {vs : List PV} {ρ : Nat → Option Nat} {σ : SS} {s : St}, Rb I env ρ σ s → s.next = σ.nb → vs0.drop i = vs → vs.length = ts.length →
  Sp env (entryCs y σ i ts) (fun r => ∃ ρ', Nx I env ρ σ ρ' r.2 (instL s (markL ts vs)).1 ∧ (instL s (markL ts vs)).1.next = r.2.nb ∧ F2 (DCσ env ρ' r.2) r.1 (instL s (markL ts vs)).2)
 | [], i, vs, ρ, σ, s, hb, hs, hd, hl => by
  cases vs with
  | nil => unfold entryCs; exact .ret ⟨ρ, Nx.refl hb, hs, .nil⟩
  | cons p ps => simp at hl
 | none :: ts, i, vs, ρ, σ, s, hb, hs, hd, hl => by
  cases vs with
  | nil => simp at hl
  | cons v vs =>
  unfold entryCs;obtain ⟨d1, d2⟩ := drop_cons hd;have hv := all_get ht d1;refine Sp.bind (entryCs_ok hy ht hb hs d2 (by simpa using hl)) fun r ⟨ρ', k1, k2, k3⟩ => .ret ⟨ρ', ?_, ?_, ?_⟩
  all_goals simp only [markL, List.headD_cons, List.tail_cons, mark_none, instL, inst1_t0 hv]
  ·exact k1
  ·exact k2
  ·exact .cons (.pc hy d1 ht (.inl rfl)) k3
 | some ty :: ts, i, vs, ρ, σ, s, hb, hs, hd, hl => by
  cases vs with
  | nil => simp at hl
  | cons v vs =>
  unfold entryCs;obtain ⟨d1, d2⟩ := drop_cons hd;refine Sp.bind Sp.emit fun c hc => Sp.bind Sp.emit fun n hn => ?_;obtain ⟨u0, m1, m2⟩ := letIs1 hc hy;simp only [RF.ev] at m1;rw [d1] at m1; cases m1;obtain ⟨u, h1, h2⟩ := letIs1 hn m2;obtain ⟨els, rfl, rfl⟩ := len_spec h1;obtain ⟨k1, k2⟩ := lentL hb hs (ty := ty.1) (z := ty.2) m2 h2;refine Sp.bind (entryCs_ok hy ht k1.rb (by show s.next + 1 = σ.nb + 1; omega) d2 (by simpa using hl)) fun r ⟨ρ', j1, j2, j3⟩ => .ret ⟨ρ', Nx.trans k1 j1, j2, .cons (k2.step j1.sx) j3⟩
def ShA (P : Program) (t : TypeId) (v : PV) : Prop :=
 match isAggT P t with
 | some true => ∃ cs, v = .agg cs ∧ cs.all t0 = true
 | _ => if isFn P t = true then ∃ g a c, v = .fn g a c ∧ a.all t0 = true ∧ c.all t0 = true else t0 v = true
theorem parW_ok {t : TypeId} {i : Nat} {v : PV} (hi : env[i]? = some v) (h : ShA P t v) : DWσ env ρ σ (parW P t i) v ∧ inst2 s v = (s, v) := by
 unfold ShA at h;split at h
 ·rename_i ha;obtain ⟨cs, rfl, hc⟩ := h;unfold parW;rw [ha];exact ⟨.av hi hc (smc_refl cs), by simp only [inst2, instL_t0 hc]⟩
 ·rename_i ha;have e : parW P t i = SW.c (if isFn P t then .fv (.x i) else .a (.x i)) := by
   unfold parW;split
   ·rename_i h'; exact absurd h' ha
   ·rfl
  rw [e];split at h
  ·rename_i hf;obtain ⟨g, a, c, rfl, h1, h2⟩ := h;rw [if_pos hf];exact ⟨.fv hi h1 h2, rfl⟩
  ·rename_i hf;rw [if_neg hf];exact ⟨.c (.a hi h (.inl rfl)), by rw [inst2_cell (fun cs e => by subst e; simp [t0] at h), inst1_t0 h]⟩
theorem entryW_ok (hb : Rb I env ρ σ s) (hs : s.next = σ.nb) {t : TypeId} {ts : List Slot} {i : Nat} {v : PV} (hi : env[i]? = some v) (h : isAggT P t = some true → ∃ cs, v = .agg cs ∧ cs.all t0 = true) :
  Sp env (entryW P σ t ts i) (fun r => ∃ ρ', Nx I env ρ σ ρ' r.2 (inst2 s (mark ts v)).1 ∧ (inst2 s (mark ts v)).1.next = r.2.nb ∧ DWσ env ρ' r.2 r.1 (inst2 s (mark ts v)).2) := by
 unfold entryW;split
 ·rename_i ha;obtain ⟨cs, rfl, hc⟩ := h ha;refine Sp.bind (shaped_ok (env := env) (x := .x i) hi) fun y ⟨s1, s2⟩ => ?_;refine Sp.bind (entryCs_ok (I := I) s1 hc (ts := ts) (i := 0) hb hs rfl s2) fun r ⟨ρ', k1, k2, k3⟩ => .ret ⟨ρ', k1, k2, .agg k3⟩
 ·split
  ·rename_i ty;refine Sp.bind Sp.emit fun n hn => ?_;obtain ⟨u, h1, h2⟩ := letIs1 hn (a := .x i) hi;obtain ⟨els, rfl, rfl⟩ := len_spec h1;obtain ⟨k1, k2⟩ := lentL hb hs (ty := ty.1) (z := ty.2) (l := .x i) hi h2;exact .ret ⟨_, k1, by show s.next + 1 = σ.nb + 1; omega, .c k2⟩
  ·exact .fail
 ·exact .fail
def argInL (l : Option (Nat × List Slot)) : Nat → List PV → List PV
 | _, [] => []
 | i, v :: vs => (match (match l with | some (k, ts) => if k = i then some ts else none | none => none) with
  | some ts => mark ts v
  | none => v) :: argInL l (i + 1) vs
theorem entryWs_ok (D : Dcf) (l : Option (Nat × List Slot)) : ∀ {tys : List TypeId} {i : Nat} {vs : List PV} {ρ : Nat → Option Nat} {σ : SS} {s : St}, Rb I env ρ σ s → s.next = σ.nb → From env i vs → F2 (ShA D.P) tys vs →
  Sp env (entryWs D σ l tys i) (fun r => ∃ ρ', Nx I env ρ σ ρ' r.2 (inst2L s (argInL l i vs)).1 ∧ (inst2L s (argInL l i vs)).1.next = r.2.nb ∧ F2 (DWσ env ρ' r.2) r.1 (inst2L s (argInL l i vs)).2)
 | [], i, vs, ρ, σ, s, hb, hs, hf, hsh => by cases hsh; unfold entryWs; exact .ret ⟨ρ, Nx.refl hb, hs, .nil⟩
 | t :: tys, i, vs0, ρ, σ, s, hb, hs, hf, hsh => by
  cases hsh with
  | @cons _ v _ vs h tl =>
  unfold entryWs;split
  ·rename_i ts hts;have e : argInL l i (v :: vs) = mark ts v :: argInL l (i + 1) vs := by
    cases l with
    | none => cases hts
    | some p =>
     obtain ⟨k, ts'⟩ := p;simp only at hts;split at hts
     ·rename_i hk; cases hts; simp only [argInL, if_pos hk]
     ·cases hts
   rw [e];refine Sp.bind (entryW_ok (P := D.P) hb hs (ts := ts) hf.head fun ha => ?_) fun p ⟨ρ', k1, k2, k3⟩ => Sp.bind (entryWs_ok D l k1.rb k2 hf.tail tl) fun q ⟨ρ'', j1, j2, j3⟩ => .ret ⟨ρ'', ?_, ?_, ?_⟩
   ·unfold ShA at h; rw [ha] at h; exact h
   all_goals simp only [inst2L]
   ·exact Nx.trans k1 j1
   ·exact j2
   ·exact .cons (k3.step j1.sx) j3
  ·rename_i hts;have e : argInL l i (v :: vs) = v :: argInL l (i + 1) vs := by
    cases l with
    | none => rfl
    | some p =>
     obtain ⟨k, ts'⟩ := p;simp only at hts;split at hts
     ·cases hts
     ·rename_i hk; simp only [argInL, if_neg hk]
   rw [e];obtain ⟨m1, m2⟩ := parW_ok (P := D.P) (ρ := ρ) (σ := σ) (s := s) hf.head h;refine Sp.bind (entryWs_ok D l hb hs hf.tail tl) fun q ⟨ρ'', j1, j2, j3⟩ => .ret ⟨ρ'', ?_, ?_, ?_⟩
   all_goals simp only [inst2L, m2]
   ·exact j1
   ·exact j2
   ·exact .cons (m1.step j1.sx) j3
theorem argInL_none : ∀ (i : Nat) (vs : List PV), argInL none i vs = vs
 | _, [] => rfl
 | i, v :: vs => by simp only [argInL, argInL_none (i + 1) vs]
theorem argInL_gt {k : Nat} {ts : List Slot} : ∀ (i : Nat) (vs : List PV), k < i → argInL (some (k, ts)) i vs = vs
 | _, [], _ => rfl
 | i, v :: vs, h => by
  have hne : k ≠ i := by omega
  simp only [argInL, argInL_gt (k := k) (ts := ts) (i + 1) vs (by omega), if_neg hne]
theorem argInL_set {k : Nat} {ts : List Slot} : ∀ (i : Nat) (vs : List PV), i ≤ k → argInL (some (k, ts)) i vs = (match vs[k - i]? with | some v => vs.set (k - i) (mark ts v) | none => vs)
 | i, [], h => by simp [argInL]
 | i, v :: vs, h => by
  simp only [argInL];by_cases e : k = i
  ·subst e;rw [if_pos rfl, argInL_gt (k + 1) vs (by omega)];simp
  ·rw [if_neg e, argInL_set (i + 1) vs (by omega)];have e2 : k - i = (k - (i + 1)) + 1 := by omega
   rw [e2];simp only [List.getElem?_cons_succ];cases vs[k - (i + 1)]? with
   | none => rfl
   | some w => rfl
theorem argIn_eq (D : Dcf) (g : FuncId) (vs : List PV) : argInL (D.lent g) 0 vs = argIn D g vs := by
 unfold argIn;cases h : D.lent g with
 | none => exact argInL_none 0 vs
 | some p => exact argInL_set 0 vs (Nat.zero_le _)
end
end Go.Sym
namespace Go.Sym
open Go.Abu Go.Pev
section
variable {P : Program} {I : FuncId → Bool} {env : List PV} {ρ : Nat → Option Nat} {σ : SS} {s : St} {f : PF}
theorem cEq_eq {p q : PV} (h : cEq p q = true) : p = q := by
 unfold cEq at h;split at h
 ·simp only [Bool.and_eq_true, decide_eq_true_eq] at h;rw [h.1, h.2]
 ·simp only [beq_iff_eq] at h; rw [h]
 ·rfl
 ·rw [Nat.eq_of_beq_eq_true h]
 ·cases h
theorem A.eq_eq {a b : A} (h : A.eq a b = true) : a = b := by
 cases a <;> cases b <;> simp only [A.eq] at h
 ·rw [Nat.eq_of_beq_eq_true h]
 ·cases h
 ·cases h
 ·rw [cEq_eq h]
theorem oEq_eq {a b : Option Nat} (h : oEq a b = true) : a = b := by
 cases a with
 | none => cases b with
  | none => rfl
  | some b => cases h
 | some a => cases b with
  | none => cases h
  | some b => rw [Nat.eq_of_beq_eq_true h]
structure Ex (s s' : Mt) : Prop where
 as : ∀ i a, look s.as i = some a → look s'.as i = some a
 rn : ∀ t b, look s.rn t = some b → look s'.rn t = some b
theorem Ex.refl (s : Mt) : Ex s s := ⟨fun _ _ h => h, fun _ _ h => h⟩
theorem Ex.trans {s s' s'' : Mt} (h : Ex s s') (k : Ex s' s'') : Ex s s'' := ⟨fun i a e => k.as i a (h.as i a e), fun t b e => k.rn t b (h.rn t b e)⟩
structure In (env env' : List PV) (ρ ρ' : Nat → Option Nat) (m : Nat) (s : Mt) : Prop where
 low : ∀ i, i < m → env'[i]? = env[i]?
 as : ∀ i a, look s.as i = some a → m ≤ i → env'[i]? = a.ev env
 rn : ∀ t b, look s.rn t = some b → ρ' t = b.bind ρ
theorem mA_ok {env' : List PV} {ρ' : Nat → Option Nat} {m : Nat} {s s' : Mt} {t a : A} (h : mA m s t a = some s') : Ex s s' ∧ ∀ S, Ex s' S → In env env' ρ ρ' m S → ∀ v, a.ev env = some v → t.ev env' = some v := by
 unfold mA at h;cases t with
 | x i =>
  simp only at h;split at h
  ·rename_i hm;rw [Nat.ble_eq] at hm;split at h
   ·rename_i hl;cases h;refine ⟨⟨fun j b hj => ?_, fun _ _ h => h⟩, fun S hS hI v hv => ?_⟩
    ·rw [look_cons];split
     ·rename_i e; subst e; rw [hl] at hj; cases hj
     ·exact hj
    ·have := hI.as i a (hS.as i a (by rw [look_cons, if_pos rfl])) hm;show env'[i]? = _
     rw [this]; exact hv
   ·rename_i b hl;split at h
    ·rename_i he;cases h;have := A.eq_eq he;subst this;refine ⟨Ex.refl _, fun S hS hI v hv => ?_⟩;have := hI.as i a (hS.as i a hl) hm;show env'[i]? = _
     rw [this]; exact hv
    ·cases h
  ·rename_i hm;have hm : i < m := by
    cases hb : Nat.ble m i with
    | true => rw [hb] at hm; cases hm
    | false => exact Nat.lt_of_not_le fun e => by rw [Nat.ble_eq_true_of_le e] at hb; cases hb
   split at h
   ·rename_i he;cases h;have := A.eq_eq he;subst this;refine ⟨Ex.refl _, fun S hS hI v hv => ?_⟩;show env'[i]? = _
    rw [hI.low i hm]; exact hv
   ·cases h
 | c p =>
  simp only at h;split at h
  ·rename_i he;cases h;have := A.eq_eq he;subst this;exact ⟨Ex.refl _, fun S hS hI v hv => hv⟩
  ·cases h
theorem mB_ok {env' : List PV} {ρ' : Nat → Option Nat} {m : Nat} {s s' : Mt} {t : Nat} {b : Option Nat} (h : mB s t b = some s') : Ex s s' ∧ look s'.rn t = some b ∧ ∀ S, Ex s' S → In env env' ρ ρ' m S → ρ' t = b.bind ρ := by
 unfold mB at h;have fin : ∀ {s' : Mt}, look s'.rn t = some b → ∀ S, Ex s' S → In env env' ρ ρ' m S → ρ' t = b.bind ρ := fun hl S hS hI => hI.rn t b (hS.rn t b hl);split at h
 ·rename_i c hl;split at h
  ·rename_i he;cases h;have := oEq_eq he;subst this;exact ⟨Ex.refl _, hl, fin hl⟩
  ·cases h
 ·rename_i hl;cases h;have : look ((t, b) :: s.rn) t = some b := by rw [look_cons, if_pos rfl]
  refine ⟨⟨fun _ _ h => h, fun j c hj => ?_⟩, this, fin this⟩;show look ((t, b) :: s.rn) j = some c
  rw [look_cons];split
  ·rename_i e; subst e; rw [hl] at hj; cases hj
  ·exact hj
structure InL (env env' : List PV) (ρ ρ' L L' : Nat → Option Nat) (nb' m : Nat) (s : Mt) : Prop where
 i : In env env' ρ ρ' m s
 nb : ∀ t b, look s.rn t = some b → t < nb'
 len : ∀ t b n, look s.rn t = some (some b) → L' t = some n → L b = some n
variable {env' : List PV} {ρ' L L' : Nat → Option Nat} {nb nb' m : Nat}
theorem mCap_ok {s s' : Mt} {t c : Cap} {p : PV} (h : mCap m s t c = some s') (k : DCap env ρ nb c p) : Ex s s' ∧ ∀ S, Ex s' S → InL env env' ρ ρ' L L' nb' m S → DCap env' ρ' nb' t p := by
 unfold mCap at h;split at h
 ·split at h
  ·rename_i hb;have := Nat.eq_of_beq_eq_true hb;subst this;obtain ⟨e1, e2, e3⟩ := mB_ok (env := env) (env' := env') (ρ := ρ) (ρ' := ρ') (m := m) h;cases k with
   | ptr hρ hlt => exact ⟨e1, fun S hS hI => .ptr ((e3 S hS hI.i).trans hρ) (hI.nb _ _ (hS.rn _ _ e2))⟩
  ·cases h
 ·obtain ⟨e1, e2⟩ := mA_ok (env := env) (env' := env') (ρ := ρ) (ρ' := ρ') h;cases k with
  | a hx ht hs => exact ⟨e1, fun S hS hI => .a (e2 S hS hI.i _ hx) ht hs⟩
 ·cases h
theorem mCaps_ok : ∀ {ts cs : List Cap} {s s' : Mt} {ps : List PV}, mCaps m s ts cs = some s' → F2 (DCap env ρ nb) cs ps → Ex s s' ∧ ∀ S, Ex s' S → InL env env' ρ ρ' L L' nb' m S → F2 (DCap env' ρ' nb') ts ps
 | [], [], s, s', ps, h, k => by cases h; cases k; exact ⟨Ex.refl _, fun _ _ _ => .nil⟩
 | t :: ts, c :: cs, s, s', ps, h, k => by
  unfold mCaps at h;split at h
  ·rename_i s1 h1;cases k with
   | cons k1 k2 =>
    obtain ⟨e1, e2⟩ := mCap_ok (env' := env') (ρ' := ρ') (L := L) (L' := L') (nb' := nb') h1 k1;obtain ⟨e3, e4⟩ := mCaps_ok h k2;exact ⟨e1.trans e3, fun S hS hI => .cons (e2 S (e3.trans hS) hI) (e4 S hS hI)⟩
  ·cases h
 | [], _ :: _, _, _, _, h, _ => by cases h
 | _ :: _, [], _, _, _, h, _ => by cases h
end
end Go.Sym
namespace Go.Sym
open Go.Abu Go.Pev
section
variable {P : Program} {I : FuncId → Bool} {env env' : List PV} {ρ ρ' L L' : Nat → Option Nat} {nb nb' m : Nat}
theorem mC_ok {s : Mt} {t c : SC} {p : PV} (k : DC env ρ L nb c p) : Sp env (mC m s t c) (fun s' => Ex s s' ∧ ∀ S, Ex s' S → InL env env' ρ ρ' L L' nb' m S → DC env' ρ' L' nb' t p) := by
 unfold mC;cases t with
 | a ta =>
  refine Sp.bind (cellA_ok k) fun a ⟨v, h1, h2, h3⟩ => Sp.ofO fun s' h => ?_;obtain ⟨e1, e2⟩ := mA_ok (env := env) (env' := env') (ρ := ρ) (ρ' := ρ') h;exact ⟨e1, fun S hS hI => .a (e2 S hS hI.i _ h1) h2 h3⟩
 | pc tx i =>
  simp only;split
  ·split
   ·rename_i hc;simp only [Bool.and_eq_true] at hc;obtain ⟨⟨c1, c2⟩, c3⟩ := hc;have c1 := Nat.eq_of_beq_eq_true c1;have c2 := A.same_eq c2;subst c1; subst c2;split at c3
    ·rename_i j;rw [Nat.ble_eq] at c3;cases k with
     | pc hx hi ha hs =>
      refine .ret ⟨Ex.refl _, fun S hS hI => .pc ?_ hi ha hs⟩;show env'[j]? = _
      rw [hI.i.low j (by omega)]; exact hx
    ·cases c3
   ·exact .fail
  ·exact .fail
 | nil =>
  simp only;split
  ·cases k; exact .ret ⟨Ex.refl _, fun S hS hI => .nil⟩
  ·exact .fail
 | ptr t o =>
  simp only;split
  ·split
   ·rename_i ho;have ho := Nat.eq_of_beq_eq_true ho;subst ho;refine Sp.ofO fun s' h => ?_;obtain ⟨e1, e2, e3⟩ := mB_ok (env := env) (env' := env') (ρ := ρ) (ρ' := ρ') (m := m) h;cases k with
    | ptr hρ hlt => exact ⟨e1, fun S hS hI => .ptr ((e3 S hS hI.i).trans hρ) (hI.nb _ _ (hS.rn _ _ e2))⟩
   ·exact .fail
  ·exact .fail
 | ep t i o =>
  simp only;split
  ·split
   ·rename_i ho;have ho := Nat.eq_of_beq_eq_true ho;subst ho;split
    ·rename_i s1 h1;refine Sp.ofO fun s' h => ?_;obtain ⟨e1, e2, e3⟩ := mB_ok (env := env) (env' := env') (ρ := ρ) (ρ' := ρ') (m := m) h1;obtain ⟨f1, f2⟩ := mA_ok (env := env) (env' := env') (ρ := ρ) (ρ' := ρ') h;cases k with
     | ep hρ hlt hi hn => exact ⟨e1.trans f1, fun S hS hI => .ep ((e3 S (f1.trans hS) hI.i).trans hρ) (hI.nb _ _ ((f1.trans hS).rn _ _ e2)) (f2 S hS hI.i _ hi) hn⟩
    ·exact .fail
   ·exact .fail
  ·exact .fail
 | tp l i o =>
  simp only;split
  ·split
   ·rename_i ho;have ho := Nat.eq_of_beq_eq_true ho;subst ho;split
    ·rename_i s1 h1;refine Sp.ofO fun s' h => ?_;obtain ⟨e1, e2⟩ := mA_ok (env := env) (env' := env') (ρ := ρ) (ρ' := ρ') h1;obtain ⟨f1, f2⟩ := mA_ok (env := env) (env' := env') (ρ := ρ) (ρ' := ρ') h;cases k with
     | tp hl hi hn => exact ⟨e1.trans f1, fun S hS hI => .tp (e2 S (f1.trans hS) hI.i _ hl) (f2 S hS hI.i _ hi) hn⟩
    ·exact .fail
   ·exact .fail
  ·exact .fail
 | lsl t o n =>
  simp only;split
  ·split
   ·rename_i s1 h1;split
    ·rename_i s2 h2;refine Sp.ofO fun s' h => ?_;obtain ⟨e1, e2, e3⟩ := mB_ok (env := env) (env' := env') (ρ := ρ) (ρ' := ρ') (m := m) h1;obtain ⟨f1, f2⟩ := mA_ok (env := env) (env' := env') (ρ := ρ) (ρ' := ρ') h2;obtain ⟨g1, g2⟩ := mA_ok (env := env) (env' := env') (ρ := ρ) (ρ' := ρ') h;refine ⟨e1.trans (f1.trans g1), fun S hS hI => ?_⟩;have hr := (f1.trans (g1.trans hS)).rn _ _ e2;have hρ' := e3 S (f1.trans (g1.trans hS)) hI.i;cases k with
     | lsl hρ hlt ho hn hlen => exact .lsl (hρ'.trans hρ) (hI.nb _ _ hr) (f2 S (g1.trans hS) hI.i _ ho) (g2 S hS hI.i _ hn) fun len hl => hlen len (hI.len _ _ _ hr hl)
     | gh hρ hlt ho hn => exact .gh (hρ'.trans hρ) (hI.nb _ _ hr) (f2 S (g1.trans hS) hI.i _ ho) (g2 S hS hI.i _ hn)
    ·exact .fail
   ·exact .fail
  ·split
   ·rename_i s1 h1;split
    ·rename_i s2 h2;refine Sp.ofO fun s' h => ?_;obtain ⟨e1, e2, e3⟩ := mB_ok (env := env) (env' := env') (ρ := ρ) (ρ' := ρ') (m := m) h1;obtain ⟨f1, f2⟩ := mA_ok (env := env) (env' := env') (ρ := ρ) (ρ' := ρ') h2;obtain ⟨g1, g2⟩ := mA_ok (env := env) (env' := env') (ρ := ρ) (ρ' := ρ') h;refine ⟨e1.trans (f1.trans g1), fun S hS hI => ?_⟩;have hr := (f1.trans (g1.trans hS)).rn _ _ e2;have hρ' := e3 S (f1.trans (g1.trans hS)) hI.i;cases k;exact .gh hρ' (hI.nb _ _ hr) (f2 S (g1.trans hS) hI.i _ rfl) (g2 S hS hI.i _ rfl)
    ·exact .fail
   ·exact .fail
  ·exact .fail
 | mp b => exact .fail
 | yl t =>
  simp only;split
  ·refine Sp.ofO fun s' h => ?_;obtain ⟨e1, e2, e3⟩ := mB_ok (env := env) (env' := env') (ρ := ρ) (ρ' := ρ') (m := m) h;cases k with
   | yl hρ hlt => exact ⟨e1, fun S hS hI => .yl ((e3 S hS hI.i).trans hρ) (hI.nb _ _ (hS.rn _ _ e2))⟩
  ·exact .fail
 | fv x =>
  simp only;split
  ·cases k
  ·exact .fail
 | fn g fs cs =>
  simp only;split
  ·split
   ·rename_i hg;have hg := Nat.eq_of_beq_eq_true hg;subst hg;split
    ·rename_i s1 h1;refine Sp.ofO fun s' h => ?_;cases k with
     | fn k1 k2 =>
      obtain ⟨e1, e2⟩ := mCaps_ok (env' := env') (ρ' := ρ') (L := L) (L' := L') (nb' := nb') h1 k1;obtain ⟨f1, f2⟩ := mCaps_ok (env' := env') (ρ' := ρ') (L := L) (L' := L') (nb' := nb') h k2;exact ⟨e1.trans f1, fun S hS hI => .fn (e2 S (f1.trans hS) hI) (f2 S hS hI)⟩
    ·exact .fail
   ·exact .fail
  ·exact .fail
end
end Go.Sym
namespace Go.Sym
open Go.Abu Go.Pev
section
variable {P : Program} {I : FuncId → Bool} {env env' : List PV} {ρ ρ' L' : Nat → Option Nat} {nb' m : Nat} {σ : SS} {st : St}
theorem mCs_ok {L : Nat → Option Nat} {nb : Nat} : ∀ {ts cs : List SC} {s : Mt} {ps : List PV}, F2 (DC env ρ L nb) cs ps → Sp env (mCs m s ts cs) (fun s' => Ex s s' ∧ ∀ S, Ex s' S → InL env env' ρ ρ' L L' nb' m S → F2 (DC env' ρ' L' nb') ts ps)
 | [], [], s, ps, k => by cases k; unfold mCs; exact .ret ⟨Ex.refl _, fun _ _ _ => .nil⟩
 | t :: ts, c :: cs, s, ps, k => by
  unfold mCs;cases k with
  | cons k1 k2 => exact Sp.bind (mC_ok k1) fun s1 ⟨e1, e2⟩ => (mCs_ok k2).mono fun s2 ⟨e3, e4⟩ => ⟨e1.trans e3, fun S hS hI => .cons (e2 S (e3.trans hS) hI) (e4 S hS hI)⟩
 | [], _ :: _, _, _, _ => by unfold mCs; exact .fail
 | _ :: _, [], _, _, _ => by unfold mCs; exact .fail
theorem deep0_same {p q : PV} (h : deep0 st p = some (q, [])) (ht : t0 q = true) : Smc q p := by
 cases p <;> simp only [deep0] at h <;> try (first | (cases h; done) | (cases h; exact .inl rfl) | (cases h; exact .inr ⟨rfl, rfl⟩))
 ·(repeat' split at h) <;> cases h
 ·(repeat' split at h) <;> first | (cases h; done) | (cases h; simp [t0] at ht; done) | (cases ‹PV.fn _ _ _ = _›; done)
theorem deep0L_same : ∀ {ps qs : List PV}, deep0L st ps = some (qs, []) → qs.all t0 = true → F2 Smc qs ps
 | [], qs, h, ht => by cases h; exact .nil
 | p :: ps, qs, h, ht => by
  unfold deep0L at h;split at h
  ·rename_i q b1 hq;split at h
   ·rename_i qs' b2 hqs;simp only [Option.some.injEq, Prod.mk.injEq, List.append_eq_nil_iff] at h;obtain ⟨rfl, rfl, rfl⟩ := h;simp only [List.all_cons, Bool.and_eq_true] at ht;exact .cons (deep0_same hq ht.1) (deep0L_same hqs ht.2)
   ·cases h
  ·cases h
theorem mW_ok (hb : Rb I env ρ σ st) {s : Mt} {t w : SW} {p : PV} (k : DWσ env ρ σ w p) : Sp env (mW m σ s t w) (fun s' => Ex s s' ∧ ∀ S, Ex s' S → InL env env' ρ ρ' (lenOf env σ) L' nb' m S → DW env' ρ' L' nb' t p) := by
 unfold mW;cases t with
 | av ta =>
  simp only;split
  ·cases k with
   | agg hcs =>
    refine Sp.bind (deep0Ls_ok hb _ hcs) fun r hr => ?_;obtain ⟨vs, e1, e2, e3⟩ := hr.h;split
    ·rename_i he;rw [he] at e2;refine Sp.bind Sp.emit fun a ha => Sp.ofO fun s' h => ?_;obtain ⟨us, v, h1, h2, h3⟩ := ha;rw [e1] at h1; cases h1;simp only [RF.ev] at h2;rw [if_pos e3] at h2; cases h2;obtain ⟨f1, f2⟩ := mA_ok (env := env) (env' := env') (ρ := ρ) (ρ' := ρ') h;exact ⟨f1, fun S hS hI => .av (f2 S hS hI.i _ h3) e3 (deep0L_same e2 e3)⟩
    ·exact .fail
  ·refine Sp.ofO fun s' h => ?_;obtain ⟨f1, f2⟩ := mA_ok (env := env) (env' := env') (ρ := ρ) (ρ' := ρ') h;cases k with
   | av hx ht hs => exact ⟨f1, fun S hS hI => .av (f2 S hS hI.i _ hx) ht hs⟩
  ·exact .fail
 | c t =>
  simp only;split
  ·rcases k.cell with k | ⟨x, g, a, e, rfl, rfl, h1, h2, h3⟩
   ·exact (mC_ok k).mono fun s' ⟨e1, e2⟩ => ⟨e1, fun S hS hI => .c (e2 S hS hI)⟩
   ·unfold mC;cases t with
    | fv y =>
     refine Sp.ofO fun s' h => ?_;obtain ⟨f1, f2⟩ := mA_ok (env := env) (env' := env') (ρ := ρ) (ρ' := ρ') h;exact ⟨f1, fun S hS hI => .fv (f2 S hS hI.i _ h1) h2 h3⟩
    | a ta => exact Sp.bind (P := fun _ => False) Sp.fail fun _ h => h.elim
    | _ => exact .fail
  ·exact .fail
 | agg ts =>
  simp only;split
  ·cases k with
   | agg hcs => exact (mCs_ok hcs).mono fun s' ⟨e1, e2⟩ => ⟨e1, fun S hS hI => .agg (e2 S hS hI)⟩
  ·cases k with
   | @av _ cs ps hx ht hs =>
    refine Sp.bind (shaped_ok hx) fun y ⟨s1, s2⟩ => ?_;exact (mCs_ok (nb := σ.nb) (pcs_ok s1 ht ts.length 0 rfl s2 hs)).mono fun s' ⟨e1, e2⟩ => ⟨e1, fun S hS hI => .agg (e2 S hS hI)⟩
  ·exact .fail
end
end Go.Sym
namespace Go.Sym
open Go.Abu Go.Pev
section
variable {P : Program} {I : FuncId → Bool} {env env' : List PV} {ρ ρ' L' : Nat → Option Nat} {nb' m : Nat} {σ : SS} {st : St} {f : PF}
theorem mWs_ok (hb : Rb I env ρ σ st) : ∀ {ts ws : List SW} {s : Mt} {ps : List PV}, F2 (DWσ env ρ σ) ws ps → Sp env (mWs m σ s ts ws) (fun s' => Ex s s' ∧ ∀ S, Ex s' S → InL env env' ρ ρ' (lenOf env σ) L' nb' m S → F2 (DW env' ρ' L' nb') ts ps)
 | [], [], s, ps, k => by cases k; unfold mWs; exact .ret ⟨Ex.refl _, fun _ _ _ => .nil⟩
 | t :: ts, c :: cs, s, ps, k => by
  unfold mWs;cases k with
  | cons k1 k2 => exact Sp.bind (mW_ok hb k1) fun s1 ⟨e1, e2⟩ => (mWs_ok hb k2).mono fun s2 ⟨e3, e4⟩ => ⟨e1.trans e3, fun S hS hI => .cons (e2 S (e3.trans hS) hI) (e4 S hS hI)⟩
 | [], _ :: _, _, _, _ => by unfold mWs; exact .fail
 | _ :: _, [], _, _, _ => by unfold mWs; exact .fail
theorem mV_ok (hb : Rb I env ρ σ st) {s : Mt} {t v : SV} {p : PV} (k : DVσ env ρ σ v p) : Sp env (mV m σ s t v) (fun s' => Ex s s' ∧ ∀ S, Ex s' S → InL env env' ρ ρ' (lenOf env σ) L' nb' m S → DV env' ρ' L' nb' t p) := by
 unfold mV;cases t with
 | w t =>
  simp only;split
  ·cases k with
   | w k => exact (mW_ok hb k).mono fun s' ⟨e1, e2⟩ => ⟨e1, fun S hS hI => .w (e2 S hS hI)⟩
  ·exact .fail
 | tup ts =>
  simp only;split
  ·cases k with
   | tup k => exact (mWs_ok hb k).mono fun s' ⟨e1, e2⟩ => ⟨e1, fun S hS hI => .tup (e2 S hS hI)⟩
  ·exact .fail
theorem mTm_ok (hb : Rb I env ρ σ st) (ht : Rtσ env ρ σ f) : ∀ {tm : List (Nat × SV)} {s : Mt}, Sp env (mTm m σ s tm) (fun s' => Ex s s' ∧ ∀ S, Ex s' S → InL env env' ρ ρ' (lenOf env σ) L' nb' m S → ∀ q ∈ tm, ∃ p, f.m q.1 = some p ∧ DV env' ρ' L' nb' q.2 p)
 | [], s => .ret ⟨Ex.refl _, fun S hS hI q hq => by cases hq⟩
 | (t, v) :: r, s => by
  unfold mTm;split
  ·rename_i u hu;obtain ⟨p, p1, p2⟩ := ht.tm t u hu;refine Sp.bind (mV_ok (env' := env') (ρ' := ρ') (L' := L') (nb' := nb') hb p2) fun s1 ⟨e1, e2⟩ => (mTm_ok hb ht).mono fun s2 ⟨e3, e4⟩ => ⟨e1.trans e3, fun S hS hI q hq => ?_⟩;rcases List.mem_cons.1 hq with rfl | hq
   ·exact ⟨p, p1, e2 S (e3.trans hS) hI⟩
   ·exact e4 S hS hI q hq
  ·exact .fail
end
end Go.Sym
namespace Go.Sym
open Go.Abu Go.Pev
section
variable {P : Program} {I : FuncId → Bool} {env env' : List PV} {ρ ρ' L' : Nat → Option Nat} {nb' m : Nat} {σ : SS} {st : St} {f : PF}
theorem bEq_eq {a b : Bool} (h : bEq a b = true) : a = b := by cases a <;> cases b <;> first | rfl | cases h
structure Bk (env env' : List PV) (ρ ρ' L' : Nat → Option Nat) (nb' m : Nat) (σ : SS) (st : St) (S : Mt) (t : Nat) (tb : SB) : Prop where
 len : In env env' ρ ρ' m S → ∀ b n, look S.rn t = some (some b) → lenSB env' tb = some n → lenOf env σ b = some n
 db : InL env env' ρ ρ' (lenOf env σ) L' nb' m S → DB env' ρ' L' nb' st t tb
 live : (∃ b, look S.rn t = some (some b) ∧ (look σ.bl b).isSome = true) ∨ look S.rn t = some none
theorem mBl_ok (hb : Rb I env ρ σ st) : ∀ {bl : List (Nat × SB)} {s : Mt}, Sp env (mBl m σ s bl) (fun s' => Ex s s' ∧ ∀ S, Ex s' S → ∀ q ∈ bl, Bk env env' ρ ρ' L' nb' m σ st S q.1 q.2)
 | [], s => .ret ⟨Ex.refl _, fun S hS q hq => by cases hq⟩
 | (t, tb) :: r, s => by
  unfold mBl;split
  ·rename_i b hrn;split
   ·rename_i ts z fz;split
    ·rename_i cs z' fz' hlk;split
     ·rename_i hc;simp only [Bool.and_eq_true] at hc;have e1 := Nat.eq_of_beq_eq_true hc.1;have e2 := bEq_eq hc.2;subst e1; subst e2;obtain ⟨_, hdb⟩ := hb.bl b _ hlk;cases hdb with
      | box hρ hg hbx hf he hcs =>
       refine Sp.bind (mCs_ok (env' := env') (ρ' := ρ') (L' := L') (nb' := nb') hcs) fun s1 ⟨x1, x2⟩ => (mBl_ok hb).mono fun s2 ⟨x3, x4⟩ => ⟨x1.trans x3, fun S hS q hq => ?_⟩;rcases List.mem_cons.1 hq with rfl | hq
       ·have hr := (x1.trans (x3.trans hS)).rn _ _ hrn;refine ⟨fun hI b' n _ hn => (by cases hn), fun hI => ?_, .inl ⟨b, hr, by rw [hlk]; rfl⟩⟩;exact .box ((hI.i.rn _ _ hr).trans hρ) hg hbx hf he (x2 S (x3.trans hS) hI)
       ·exact x4 S hS q hq
     ·exact .fail
    ·exact .fail
   ·rename_i tl ty z fz;split
    ·rename_i l ty' z' fz' hlk;split
     ·rename_i hc;simp only [Bool.and_eq_true] at hc;have e1 := Nat.eq_of_beq_eq_true hc.1.1;have e2 := Nat.eq_of_beq_eq_true hc.1.2;have e3 := bEq_eq hc.2;subst e1; subst e2; subst e3;split
      ·rename_i s1 h1;obtain ⟨x1, x2⟩ := mA_ok (env := env) (env' := env') (ρ := ρ) (ρ' := ρ') h1;obtain ⟨_, hdb⟩ := hb.bl b _ hlk;refine (mBl_ok hb).mono fun s2 ⟨x3, x4⟩ => ⟨x1.trans x3, fun S hS q hq => ?_⟩;rcases List.mem_cons.1 hq with rfl | hq
       ·have hr := (x1.trans (x3.trans hS)).rn _ _ hrn;obtain ⟨els, hlv⟩ : ∃ els, l.ev env = some (.sl els) := by
         cases hdb with
         | lst _ h _ => exact ⟨_, h⟩
         | gh _ h => exact ⟨_, h⟩
        refine ⟨fun hI b' n hb' hn => ?_, fun hI => ?_, .inl ⟨b, hr, by rw [hlk]; rfl⟩⟩
        ·rw [hr] at hb'; cases hb';simp only [lenSB, x2 S (x3.trans hS) hI _ hlv] at hn;unfold lenOf;rw [hlk];simp only [hlv];exact hn
        ·have hρ' := hI.i.rn _ _ hr;have htl := fun v hv => x2 S (x3.trans hS) hI.i v hv;cases hdb with
         | lst hρ h hg => exact .lst (hρ'.trans hρ) (htl _ h) hg
         | gh hρ h => exact .gh (hρ'.trans hρ) (htl _ h)
       ·exact x4 S hS q hq
      ·exact .fail
     ·exact .fail
    ·exact .fail
  ·rename_i hrn;split
   ·rename_i tl _ _;split
    ·rename_i s1 h1;obtain ⟨x1, x2⟩ := mA_ok (env := env) (env' := env') (ρ := ρ) (ρ' := ρ') h1;refine (mBl_ok hb).mono fun s2 ⟨x3, x4⟩ => ⟨x1.trans x3, fun S hS q hq => ?_⟩;rcases List.mem_cons.1 hq with rfl | hq
     ·have hr := (x1.trans (x3.trans hS)).rn _ _ hrn;refine ⟨fun hI b' n hb' hn => (by rw [hr] at hb'; cases hb'), fun hI => ?_, .inr hr⟩;exact .gh (hI.i.rn _ _ hr) (x2 S (x3.trans hS) hI.i _ rfl)
     ·exact x4 S hS q hq
    ·exact .fail
   ·exact .fail
  ·exact .fail
end
end Go.Sym
namespace Go.Sym
open Go.Abu Go.Pev
section
variable {P : Program} {I : FuncId → Bool} {env env' : List PV} {ρ ρ' L' : Nat → Option Nat} {nb' m : Nat} {σ : SS} {st : St} {f : PF}
theorem bind_inv {α β : Type} {x : EM α} {g : α → EM β} {m : Nat} {z z' : Szs} {b : β} {l : Lets} (h : EM.bind x g m z = some (b, l, z')) : ∃ a l1 z1 l2 z2, x m z = some (a, l1, z1) ∧ g a (m + l1.length) (z1 ++ z) = some (b, l2, z2) ∧ l = l1 ++ l2 ∧ z' = z2 ++ z1 := by
 unfold EM.bind at h;split at h
 ·rename_i a l1 z1 h1;split at h
  ·rename_i b' l2 z2 h2;cases h;exact ⟨a, l1, z1, l2, z2, h1, h2, rfl, rfl⟩
  ·cases h
 ·cases h
theorem chk_inv {α : Type} {c : Bool} {x : EM α} {m : Nat} {z : Szs} {r : α × Lets × Szs} (h : (match c with | true => x | false => fail) m z = some r) : c = true ∧ x m z = some r := by
 cases c with
 | true => exact ⟨rfl, h⟩
 | false => cases h
theorem mVals_ok {s : Mt} {m : Nat} : ∀ {n : Nat} {vs : List A}, mVals s m n = some vs → vs.length = n ∧ ∀ i, i < n → ∃ a, look s.as (m + i) = some a ∧ vs[i]? = some a
 | 0, vs, h => by cases h; exact ⟨rfl, fun i hi => by omega⟩
 | n + 1, vs, h => by
  unfold mVals at h;split at h
  ·rename_i l hl;split at h
   ·rename_i a ha;cases h;obtain ⟨h1, h2⟩ := mVals_ok hl;refine ⟨by simp [h1], fun i hi => ?_⟩;by_cases e : i = n
    ·subst e;exact ⟨a, ha, by rw [← h1]; simp⟩
    ·obtain ⟨b, b1, b2⟩ := h2 i (by omega);refine ⟨b, b1, ?_⟩;rw [List.getElem?_append_left (by omega)]; exact b2
   ·cases h
  ·cases h
theorem evs_get : ∀ {as : List A} {vs : List PV}, evs env as = some vs → ∀ (i : Nat) (a : A), as[i]? = some a → vs[i]? = a.ev env
 | [], vs, h, i, a, hi => by simp at hi
 | b :: as, vs, h, i, a, hi => by
  unfold evs at h;split at h
  ·rename_i v hv;split at h
   ·rename_i ws hws;cases h;cases i with
    | zero => simp at hi; subst hi; simp [hv]
    | succ i => simp at hi; simpa using evs_get hws i a hi
   ·cases h
  ·cases h
theorem evs_len : ∀ {as : List A} {vs : List PV}, evs env as = some vs → vs.length = as.length
 | [], vs, h => by cases h; rfl
 | b :: as, vs, h => by
  unfold evs at h;split at h
  ·split at h
   ·rename_i ws hws; cases h; simp [evs_len hws]
   ·cases h
  ·cases h
theorem rnInj_ok : ∀ {r : List (Nat × Option Nat)}, rnInj r = true → ∀ t t' b, look r t = some (some b) → look r t' = some (some b) → t = t'
 | [], h, t, t', b, h1, h2 => by cases h1
 | (k, c) :: r, h, t, t', b, h1, h2 => by
  rw [look_cons] at h1 h2;cases c with
  | none =>
   unfold rnInj at h;split at h1
   ·cases h1
   ·split at h2
    ·cases h2
    ·exact rnInj_ok h t t' b h1 h2
  | some c =>
   unfold rnInj at h;simp only [Bool.and_eq_true, Bool.not_eq_true', List.any_eq_false] at h;obtain ⟨hc, hr⟩ := h;have no : ∀ t, look r t = some (some c) → False := fun t ht => by
    have := hc _ (look_mem ht);simp [oEq, Nat.beq_refl] at this
   split at h1
   ·rename_i e1;cases h1;split at h2
    ·rename_i e2; rw [← e1, ← e2]
    ·exact (no _ h2).elim
   ·split at h2
    ·cases h2; exact (no _ h1).elim
    ·exact rnInj_ok hr t t' b h1 h2
theorem mLe_ok {s : Mt} : ∀ {l : List (Nat × Nat)}, mLe s σ l = true → ∀ q ∈ l, ∃ b, look s.rn q.2 = some (some b) ∧ (q.1, b) ∈ σ.le
 | [], h, q, hq => by cases hq
 | (k, t) :: r, h, q, hq => by
  unfold mLe at h;simp only [Bool.and_eq_true] at h;rcases List.mem_cons.1 hq with rfl | hq
  ·have h1 := h.1;split at h1
   ·rename_i b hb;obtain ⟨p, p1, p2⟩ := List.any_eq_true.1 h1;simp only [Bool.and_eq_true] at p2;have e1 := Nat.eq_of_beq_eq_true p2.1;have e2 := Nat.eq_of_beq_eq_true p2.2;refine ⟨b, hb, ?_⟩;subst e1; subst e2; exact p1
   ·cases h1
  ·exact mLe_ok h.2 q hq
theorem mIn_ok {s : Mt} {ts bs : List Nat} (h : mIn s ts bs = true) {b : Nat} (hb : b ∈ bs) : ∃ t ∈ ts, look s.rn t = some (some b) := by
 have := List.all_eq_true.1 h b hb;obtain ⟨t, t1, t2⟩ := List.any_eq_true.1 this;split at t2
 ·rename_i c hc;have := Nat.eq_of_beq_eq_true t2;subst this;exact ⟨t, t1, hc⟩
 ·cases t2
theorem mLd_ok {s : Mt} : ∀ {l : List (Nat × List Nat)}, mLd s σ l = true → ∀ q ∈ l, (∃ b t, (q.1, b) ∈ σ.le ∧ (look σ.bl b).isSome = true ∧ t ∈ q.2 ∧ look s.rn t = some (some b)) ∨ ∃ bs, (q.1, bs) ∈ σ.ld ∧ ∀ b ∈ bs, ∃ t ∈ q.2, look s.rn t = some (some b)
 | [], h, q, hq => by cases hq
 | (k, ts) :: r, h, q, hq => by
  unfold mLd at h;simp only [Bool.and_eq_true] at h;rcases List.mem_cons.1 hq with rfl | hq
  ·have h1 := h.1;simp only [Bool.or_eq_true] at h1;rcases h1 with h1 | h1
   ·obtain ⟨p, p1, p2⟩ := List.any_eq_true.1 h1;simp only [Bool.and_eq_true] at p2;have e1 := Nat.eq_of_beq_eq_true p2.1.1;obtain ⟨t, t1, t2⟩ := mIn_ok p2.1.2 (b := p.2) (by simp);subst e1;exact .inl ⟨p.2, t, p1, p2.2, t1, t2⟩
   ·obtain ⟨p, p1, p2⟩ := List.any_eq_true.1 h1;simp only [Bool.and_eq_true] at p2;have e1 := Nat.eq_of_beq_eq_true p2.1;subst e1;exact .inr ⟨p.2, p1, fun b hb => mIn_ok p2.2 hb⟩
  ·exact mLd_ok h.2 q hq
theorem mNn_ok {s : Mt} {ts : List Nat} (h : mNn s σ ts = true) {t : Nat} (ht : t ∈ ts) : ∃ b, look s.rn t = some (some b) ∧ b ∈ σ.nn := by
 have := List.all_eq_true.1 h t ht;split at this
 ·rename_i b hb;exact ⟨b, hb, List.elem_iff.1 this⟩
 ·cases this
structure Sl (lo : Nat) (env : List PV) (ρ : Nat → Option Nat) (L : Nat → Option Nat) (env' : List PV) (ρ' : Nat → Option Nat) (L' : Nat → Option Nat) (nb' : Nat) : Prop where
 env : ∃ e, env' = env ++ e
 rho : ∀ b, b < lo → ρ' b = ρ b
 len : ∀ b n, b < lo → L' b = some n → L b = some n
 nb : lo ≤ nb'
def rhoT (lo : Nat) (ρ : Nat → Option Nat) (s : Mt) (t : Nat) : Option Nat :=
 match look s.rn t with
 | some b => b.bind ρ
 | none => if t < lo then ρ t else none
theorem matchT_ok (hb : Rb I env ρ σ st) (ht : Rtσ env ρ σ f) {lo : Nat} {T : Tm} {σ0 : SS} (hm : m ≤ env.length) (hfc : ∀ p ∈ σ0.fc, (env.take m)[p.1]? = some (.v (.bool p.2))) (hsz : SzOk (env.take m) σ0.sz) (hn : σ.n = σ0.n) (hlo : lo ≤ σ.nb) :
  Sp env (matchT m lo T σ) (fun vs => ∀ xs, evs env vs = some xs → ∃ ρ', Rb I (env.take m ++ xs) ρ' (T.st σ0) st ∧ Rtσ (env.take m ++ xs) ρ' (T.st σ0) f ∧ (∀ b, b < lo → ρ' b = ρ b) ∧ (∀ b n, b < lo → lenOf (env.take m ++ xs) (T.st σ0) b = some n → lenOf env σ b = some n) ∧ lo ≤ T.nb ∧ xs.length = T.p) := by
 unfold matchT;intro mm z vs l z' hmt hl hz;obtain ⟨s1, l1, z1, l23, z23, h1, h23, rfl, rfl⟩ := bind_inv hmt;obtain ⟨s2, l3, z3, l4, z4, h3, h4, rfl, rfl⟩ := bind_inv h23;obtain ⟨hc, h4⟩ := chk_inv h4
 ·simp only [Bool.and_eq_true] at hc;obtain ⟨⟨⟨⟨⟨⟨c1, c2⟩, c3⟩, c4⟩, c5⟩, c6⟩, c7⟩ := hc;have hv : mVals s2 m T.p = some vs ∧ l4 = [] ∧ z4 = [] := by
   cases hv : mVals s2 m T.p with
   | none => rw [hv] at h4; cases h4
   | some w => rw [hv] at h4; cases h4; exact ⟨rfl, rfl, rfl⟩
  obtain ⟨hv, rfl, rfl⟩ := hv;have hz1 := (mTm_ok (env' := env) (ρ' := ρ) (L' := fun _ => none) (nb' := 0) (m := m) hb ht _ _ _ _ _ h1 hl.left hz).1;have hz2 := (mBl_ok (env' := env) (ρ' := ρ) (L' := fun _ => none) (nb' := 0) (m := m) hb _ _ _ _ _ h3 hl.right.left (hz1.append hz)).1;refine ⟨hz2.append hz1, fun xs hxs => ?_⟩;obtain ⟨v1, v2⟩ := mVals_ok hv;have hlen : xs.length = T.p := by rw [evs_len hxs, v1]
  have htl : (env.take m).length = m := by rw [List.length_take]; omega
  have hext : ∀ i, i < m → (env.take m ++ xs)[i]? = env[i]? := fun i hi => by
   rw [List.getElem?_append_left (by omega), List.getElem?_take_of_lt hi]
  have hfcx : ∀ i v, (env.take m)[i]? = some v → (env.take m ++ xs)[i]? = some v := fun i v h => by
   rw [List.getElem?_append_left (List.getElem?_eq_some_iff.1 h).1]; exact h
  have hIn : In env (env.take m ++ xs) ρ (rhoT lo ρ s2) m s2 := by
   refine ⟨hext, fun i a ha him => ?_, fun t b htb => by unfold rhoT; rw [htb]⟩;have hlt : i < m + T.p := by
    have := List.all_eq_true.1 c7 _ (look_mem ha);rw [Nat.ble_eq] at this;omega
   obtain ⟨b, b1, b2⟩ := v2 (i - m) (by omega);rw [show m + (i - m) = i by omega, ha] at b1; cases b1
   rw [List.getElem?_append_right (by omega), htl];exact evs_get hxs _ _ b2
  have hrn : lo ≤ T.nb ∧ ∀ t b, look s2.rn t = some b → t < T.nb ∧ (t < lo → b = some t) := by
   unfold rnOk at c5;simp only [Bool.and_eq_true, Nat.ble_eq] at c5;refine ⟨c5.1, fun t b htb => ?_⟩;have := List.all_eq_true.1 c5.2 _ (look_mem htb);simp only [Bool.and_eq_true, Nat.ble_eq, Bool.or_eq_true] at this;refine ⟨by omega, fun hlt => ?_⟩;rcases this.2 with h | h
   ·omega
   ·exact oEq_eq h
  have hBk : ∀ {L' : Nat → Option Nat} {nb' : Nat}, ∀ q ∈ T.bl, Bk env (env.take m ++ xs) ρ (rhoT lo ρ s2) L' nb' m σ st s2 q.1 q.2 := fun {L'} {nb'} q hq =>
   (mBl_ok (env' := env.take m ++ xs) (ρ' := rhoT lo ρ s2) (L' := L') (nb' := nb') (m := m) hb _ _ _ _ _ h3 hl.right.left (hz1.append hz)).2.2 s2 (Ex.refl _) q hq
  have hlenT : ∀ t b n, look s2.rn t = some (some b) → lenOf (env.take m ++ xs) (T.st σ0) t = some n → lenOf env σ b = some n := fun t b n htb hn => by
   rw [lenOf_eq] at hn;cases hlk : look (T.st σ0).bl t with
   | none => rw [hlk] at hn; cases hn
   | some tb =>
    rw [hlk] at hn;exact (hBk (L' := fun _ => none) (nb' := 0) _ (look_mem hlk)).len hIn b n htb hn
  have hInL : InL env (env.take m ++ xs) ρ (rhoT lo ρ s2) (lenOf env σ) (lenOf (env.take m ++ xs) (T.st σ0)) T.nb m s2 :=
   ⟨hIn, fun t b h => (hrn.2 t b h).1, hlenT⟩
  have hex : Ex s1 s2 := (mBl_ok (env' := env) (ρ' := ρ) (L' := fun _ => none) (nb' := 0) (m := m) hb _ _ _ _ _ h3 hl.right.left (hz1.append hz)).2.1;have htm := (mTm_ok (env' := env.take m ++ xs) (ρ' := rhoT lo ρ s2) (L' := lenOf (env.take m ++ xs) (T.st σ0)) (nb' := T.nb) (m := m) hb ht _ _ _ _ _ h1 hl.left hz).2.2 s2 hex hInL;have hρlo : ∀ b, b < lo → rhoT lo ρ s2 b = ρ b := fun b hb' => by
   unfold rhoT;cases h : look s2.rn b with
   | none => simp [hb']
   | some c => rw [(hrn.2 b c h).2 hb']; rfl
  have hlive : ∀ t, (look T.bl t).isSome = true → (∃ b, look s2.rn t = some (some b) ∧ (look σ.bl b).isSome = true) ∨ look s2.rn t = some none := fun t hs => by
   obtain ⟨tb, htb⟩ := Option.isSome_iff_exists.1 hs;exact (hBk (L' := fun _ => none) (nb' := 0) _ (look_mem htb)).live
  have hρ' : ∀ t k, (look T.bl t).isSome = true → rhoT lo ρ s2 t = some k → ∃ b, look s2.rn t = some (some b) ∧ (look σ.bl b).isSome = true ∧ ρ b = some k := fun t k hs hk => by
   rcases hlive t hs with ⟨b, b1, b2⟩ | h
   ·exact ⟨b, b1, b2, by unfold rhoT at hk; rw [b1] at hk; exact hk⟩
   ·unfold rhoT at hk; rw [h] at hk; cases hk
  refine ⟨rhoT lo ρ s2, ⟨fun t sb hsb => ?_, fun t t' k h1 h2 h3 h4 => ?_, fun t k h1 h2 => ?_, fun p hp => hfcx _ _ (hfc p hp), fun p hp => ?_, fun p hp => ?_, fun p hp => ?_, fun t ht' => ?_⟩, ⟨ht.n.trans hn, fun t v hv => ?_⟩, hρlo, fun b n hb' hn' => ?_, hrn.1, hlen⟩
  ·refine ⟨?_, (hBk _ (look_mem hsb)).db hInL⟩;have := List.all_eq_true.1 c4 _ (look_mem hsb);rw [Nat.ble_eq] at this;exact this
  ·obtain ⟨b, b1, b2, b3⟩ := hρ' t k h1 h3;obtain ⟨b', b1', b2', b3'⟩ := hρ' t' k h2 h4;have := hb.inj b b' k b2 b2' b3 b3';subst this;exact rnInj_ok c6 t t' b b1 b1'
  ·obtain ⟨b, b1, b2, b3⟩ := hρ' t k h1 h2;exact hb.dom b k b2 b3
  ·obtain ⟨cs, e1, e2⟩ := hsz p hp;exact ⟨cs, hfcx _ _ e1, e2⟩
  ·obtain ⟨b, b1, b2⟩ := mLe_ok c1 p hp;exact ⟨(hIn.rn _ _ b1).trans (hb.le _ b2).1, (hrn.2 _ _ b1).1⟩
  ·rcases mLd_ok c2 p hp with ⟨b, t, b1, b2, b3, b4⟩ | ⟨bs, b1, b2⟩
   ·have h1 := (hb.le _ b1).1;exact ⟨hb.dom b _ b2 h1, .inr ⟨t, b3, (hIn.rn _ _ b4).trans h1, (hrn.2 _ _ b4).1⟩⟩
   ·obtain ⟨d1, d2⟩ := hb.ld _ b1;refine ⟨d1, ?_⟩;rcases d2 with d2 | ⟨b, e1, e2, e3⟩
    ·exact .inl d2
    ·obtain ⟨t, t1, t2⟩ := b2 b e1;exact .inr ⟨t, t1, (hIn.rn _ _ t2).trans e2, (hrn.2 _ _ t2).1⟩
  ·obtain ⟨b, b1, b2⟩ := mNn_ok c3 ht';obtain ⟨_, k, hk⟩ := hb.nn b b2;exact ⟨(hrn.2 _ _ b1).1, k, (hIn.rn _ _ b1).trans hk⟩
  ·exact htm (t, v) (look_mem hv)
  ·rw [lenOf_eq] at hn';cases hlk : look (T.st σ0).bl b with
   | none => rw [hlk] at hn'; cases hn'
   | some tb =>
    rw [hlk] at hn';have hB := hBk (L' := fun _ => none) (nb' := 0) _ (look_mem hlk);rcases hB.live with ⟨c, c1', c2'⟩ | h
    ·have := (hrn.2 _ _ c1').2 hb';cases this;exact hB.len hIn _ n c1' hn'
    ·have := (hrn.2 _ _ h).2 hb';cases this
end
end Go.Sym
namespace Go.Sym
open Go.Abu Go.Pev
section
variable {P : Program} {I : FuncId → Bool} {env env' : List PV} {ρ ρ' L L' : Nat → Option Nat} {nb nb' m : Nat} {σ : SS} {s : St} {f : PF}
theorem evs_mono {e' : List PV} : ∀ {as : List A} {vs : List PV}, evs env as = some vs → evs (env ++ e') as = some vs
 | [], vs, h => h
 | a :: as, vs, h => by
  unfold evs at h ⊢;split at h
  ·rename_i v hv;split at h
   ·rename_i ws hws;cases h;rw [ev_mono hv];simp only;rw [evs_mono hws]
   ·cases h
  ·cases h
variable {Φ : FuncId → List PV → Option (List PV)} {V : FuncId → Bool} {N : Nat}
theorem den_lets : ∀ {l : List (RF × List A)} {k : K} {J : List (List PV → Option (List PV))} {e rs : List PV}, den Φ V N (lets l k) J e = some rs → ∃ xs, xs.length = l.length ∧ LetsOk (e ++ xs) e.length l ∧ den Φ V N k J (e ++ xs) = some rs
 | [], k, J, e, rs, h => ⟨[], rfl, fun i f as hi => by simp at hi, by simpa [lets] using h⟩
 | (g, as) :: r, k, J, e, rs, h => by
  simp only [lets, den] at h;split at h
  ·rename_i vs hvs;split at h
   ·rename_i v hv;obtain ⟨xs, h1, h2, h3⟩ := den_lets h;refine ⟨v :: xs, by simp [h1], fun i f' as' hi => ?_, by simpa using h3⟩
    cases i with
    | zero =>
     simp at hi;obtain ⟨rfl, rfl⟩ := hi;exact ⟨vs, v, evs_mono hvs, hv, by simp⟩
    | succ i =>
     simp at hi;obtain ⟨us, u, k1, k2, k3⟩ := h2 i f' as' hi;simp only [List.length_append, List.length_cons, List.length_nil, Nat.zero_add, List.append_assoc, List.singleton_append] at k1 k3;exact ⟨us, u, k1, k2, by rw [show e.length + (i + 1) = e.length + 1 + i by omega]; exact k3⟩
   ·cases h
  ·cases h
theorem lenOf_ext (hb : Rb I env ρ σ s) {e : List PV} (b : Nat) : lenOf (env ++ e) σ b = lenOf env σ b := by
 unfold lenOf;split
 ·rename_i l ty z fz hl;obtain ⟨_, hd⟩ := hb.bl b _ hl;have : ∃ els, l.ev env = some (.sl els) := by
   cases hd with
   | lst _ h _ => exact ⟨_, h⟩
   | gh _ h => exact ⟨_, h⟩
  obtain ⟨els, h⟩ := this;rw [ev_mono h, h]
 ·rfl
theorem Rb.sxE (hb : Rb I env ρ σ s) (e : List PV) : Sx env ρ (lenOf env σ) σ.nb (env ++ e) ρ (lenOf (env ++ e) σ) σ.nb :=
 ⟨⟨e, rfl⟩, fun _ _ => rfl, fun b n _ h => by rw [lenOf_ext hb] at h; exact h, Nat.le_refl _⟩
theorem SzOk.ext {z : Szs} (h : SzOk env z) (e : List PV) : SzOk (env ++ e) z := fun p hp => by
 obtain ⟨cs, h1, h2⟩ := h p hp;exact ⟨cs, by rw [List.getElem?_append_left (List.getElem?_eq_some_iff.1 h1).1]; exact h1, h2⟩
theorem Rb.ext (hb : Rb I env ρ σ s) (e : List PV) : Rb I (env ++ e) ρ σ s :=
 ⟨fun b sb h => ⟨(hb.bl b sb h).1, (hb.bl b sb h).2.step (hb.sxE e) (hb.bl b sb h).1 fun _ _ => rfl⟩, hb.inj, hb.dom, fun p hp => by
  have h1 := hb.fc p hp;rw [List.getElem?_append_left (List.getElem?_eq_some_iff.1 h1).1]; exact h1, hb.sz.ext e, hb.le, hb.ld, hb.nn⟩
theorem Rb.wz (hb : Rb I env ρ σ s) {z : Szs} (hz : SzOk env z) : Rb I env ρ (σ.wz z) s :=
 ⟨hb.bl, hb.inj, hb.dom, hb.fc, hz, hb.le, hb.ld, hb.nn⟩
theorem Rb.setF (hb : Rb I env ρ σ s) {i : Nat} {b : Bool} (h : env[i]? = some (.v (.bool b))) : Rb I env ρ (setF σ i b) s :=
 ⟨hb.bl, hb.inj, hb.dom, fun p hp => by
  rcases List.mem_cons.1 hp with rfl | hp
  ·exact h
  ·exact hb.fc p hp, hb.sz, hb.le, hb.ld, hb.nn⟩
theorem Rt.step {n : Nat} {tm : List (Nat × SV)} (h : Rt env ρ L nb n tm f) (k : Sx env ρ L nb env' ρ' L' nb') : Rt env' ρ' L' nb' n tm f :=
 ⟨h.n, fun t v hv => let ⟨p, h1, h2⟩ := h.tm t v hv; ⟨p, h1, h2.step k⟩⟩
theorem Rb.setT {σ' : SS} {dst : Option Tmp} {v : SV} (hb : Rb I env ρ σ s) (h : σ.setT dst v = some σ') : Rb I env ρ σ' s := by
 unfold SS.setT at h;split at h
 ·cases h; exact hb
 ·split at h
  ·cases h; exact ⟨hb.bl, hb.inj, hb.dom, hb.fc, hb.sz, hb.le, hb.ld, hb.nn⟩
  ·cases h
theorem setT_eq {σ' : SS} {dst : Option Tmp} {v : SV} (h : σ.setT dst v = some σ') : σ'.bl = σ.bl ∧ σ'.nb = σ.nb ∧ σ'.n = σ.n := by
 unfold SS.setT at h;split at h
 ·cases h; exact ⟨rfl, rfl, rfl⟩
 ·split at h
  ·cases h; exact ⟨rfl, rfl, rfl⟩
  ·cases h
theorem lenOf_bl {σ' : SS} (h : σ'.bl = σ.bl) : lenOf env σ' = lenOf env σ := by
 funext b
 unfold lenOf;rw [h]
theorem Rt.setT {σ' : SS} {dst : Option Tmp} {v : SV} {p : PV} (ht : Rtσ env ρ σ f) (hv : DVσ env ρ σ v p) (h : σ.setT dst v = some σ') : ∃ f', f.put dst p = some f' ∧ Rtσ env ρ σ' f' := by
 unfold SS.setT at h;split at h
 ·cases h; exact ⟨f, rfl, ht⟩
 ·rename_i t;split at h
  ·rename_i hc;cases h;rw [Nat.ble_eq] at hc;refine ⟨f.set t p, by unfold PF.put; simp only; rw [if_pos (show t < f.n by rw [ht.n]; exact hc)], ht.n, fun t' v' hv' => ?_⟩
   replace hv' : look (put σ.tm t v) t' = some v' := hv'
   rw [look_put] at hv';show ∃ p', (if t' = t then some p else f.m t') = some p' ∧ _
   by_cases e : t' = t
   ·rw [if_pos e] at hv' ⊢;cases hv';exact ⟨p, rfl, hv⟩
   ·rw [if_neg e] at hv' ⊢;exact ht.tm t' v' hv'
  ·cases h
theorem Sx.sl {lo : Nat} (h : Sx env ρ L nb env' ρ' L' nb') (hlo : lo ≤ nb) : Sl lo env ρ L env' ρ' L' nb' :=
 ⟨h.env, fun b hb => h.rho b (by omega), fun b n hb => h.len b n (by omega), Nat.le_trans hlo h.nb⟩
theorem Sl.trans {lo : Nat} {env₂ : List PV} {ρ₂ L₂ : Nat → Option Nat} {nb₂ : Nat} (h : Sl lo env ρ L env' ρ' L' nb') (k : Sl lo env' ρ' L' env₂ ρ₂ L₂ nb₂) : Sl lo env ρ L env₂ ρ₂ L₂ nb₂ := by
 obtain ⟨e1, rfl⟩ := h.env;obtain ⟨e2, rfl⟩ := k.env;exact ⟨⟨e1 ++ e2, by rw [List.append_assoc]⟩, fun b hb => (k.rho b hb).trans (h.rho b hb), fun b n hb hl => h.len b n hb (k.len b n hb hl), k.nb⟩
theorem Sl.mono {lo lo' : Nat} (h : Sl lo env ρ L env' ρ' L' nb') (k : lo' ≤ lo) : Sl lo' env ρ L env' ρ' L' nb' :=
 ⟨h.env, fun b hb => h.rho b (by omega), fun b n hb => h.len b n (by omega), Nat.le_trans k h.nb⟩
theorem Sl.sx (h : Sl nb env ρ L env' ρ' L' nb') : Sx env ρ L nb env' ρ' L' nb' := ⟨h.env, h.rho, h.len, h.nb⟩
theorem Sx.transSl {env₂ : List PV} {ρ₂ L₂ : Nat → Option Nat} {nb₂ : Nat} (h : Sx env ρ L nb env' ρ' L' nb') (k : Sl nb env' ρ' L' env₂ ρ₂ L₂ nb₂) : Sx env ρ L nb env₂ ρ₂ L₂ nb₂ :=
 ((h.sl (Nat.le_refl _)).trans k).sx
def SLR.er (r : SLR) : SLR := { r with pd := none }
theorem er_none {r : SLR} (h : r.pd = none) : r.er = r := by
 cases r; simp only at h; subst h; rfl
def LRec_er (r : LRec) : LRec := { r with pd := none }
theorem lrec_none {r : LRec} (h : r.pd = none) : LRec_er r = r := by
 cases r; simp only at h; subst h; rfl
structure RecS (env : List PV) (ρ L : Nat → Option Nat) (nb : Nat) (a : SLR) (r : LRec) : Prop where
 n : r.n = a.n
 ps : r.ps = a.ps
 assign : r.assign = a.assign
 body : r.body = a.body
 pd : r.pd = a.pd
 rho : ρ a.b = some r.b
 b : a.b < a.nb
 tm : ∃ env0 ρ0 L0, (∀ t v, look a.tm t = some v → ∃ p, r.m t = some p ∧ DV env0 ρ0 L0 a.nb v p) ∧ Sx env0 ρ0 L0 a.nb env ρ L nb
abbrev UpS (env : List PV) (ρ L : Nat → Option Nat) (nb : Nat) : List SLR → List LRec → Prop := F2 (RecS env ρ L nb)
def UpLo (lo : Nat) (up : List SLR) : Prop := ∀ r ∈ up, r.nb ≤ lo
theorem RecS.step {a : SLR} {r : LRec} {lo : Nat} (h : RecS env ρ L nb a r) (k : Sl lo env ρ L env' ρ' L' nb') (hlo : a.nb ≤ lo) : RecS env' ρ' L' nb' a r := by
 obtain ⟨env0, ρ0, L0, h1, h2⟩ := h.tm;exact ⟨h.n, h.ps, h.assign, h.body, h.pd, (k.rho _ (Nat.lt_of_lt_of_le h.b hlo)).trans h.rho, h.b, env0, ρ0, L0, h1, h2.transSl (k.mono hlo)⟩
theorem UpS.step {lo : Nat} : ∀ {up : List SLR} {ru : List LRec}, UpS env ρ L nb up ru → UpLo lo up → Sl lo env ρ L env' ρ' L' nb' → UpS env' ρ' L' nb' up ru
 | _, _, .nil, _, _ => .nil
 | _, _, .cons h t, hl, k => .cons (h.step k (hl _ (List.mem_cons_self ..))) (UpS.step t (fun r hr => hl r (List.mem_cons_of_mem _ hr)) k)
theorem UpLo.mono {lo lo' : Nat} {up : List SLR} (h : UpLo lo up) (k : lo ≤ lo') : UpLo lo' up := fun r hr => Nat.le_trans (h r hr) k
theorem UpLo.er {lo : Nat} {up : List SLR} : UpLo lo (up.map SLR.er) ↔ UpLo lo up := by
 constructor
 ·intro h r hr;exact h r.er (List.mem_map.2 ⟨r, hr, rfl⟩)
 ·intro h r hr;obtain ⟨q, h1, rfl⟩ := List.mem_map.1 hr;exact h q h1
inductive CF where
 | seq (c : Code)
 | block (id : Nat)
 | mark
 | loop (b : Code)
 | inl (f0 : PF) (dst : Option Tmp) (ops : Array Oper) (rest : List Oper) (res : List ResultVar)
 | rf (f0 : PF)
 | yl (f0 : PF) (dst : Option Tmp) (ops : Array Oper) (rest : List Oper) (r : LRec)
 | asn (b : Code)
 | du (up : List LRec)
abbrev Out := AExit × PF × St
def Fin (C : Cfg) : List CF → AExit → PF → St → Out → Prop
 | [], e, f, s, R => R = (e, f, s)
 | .seq c :: κ, e, f, s, R => match e with
  | .normal => ∃ N e' f' s', runP C N 0 c f s = some (e', f', s') ∧ Fin C κ e' f' s' R
  | e => Fin C κ e f s R
 | .block id :: κ, e, f, s, R => match e with
  | .exit id' => if id' = id then Fin C κ .normal f s R else Fin C κ (.exit id') f s R
  | e => Fin C κ e f s R
 | .mark :: κ, e, f, s, R => Fin C κ e f s R
 | .loop b :: κ, e, f, s, R => match e with
  | .normal => ∃ N e' f' s', runP C N 0 (.loop b) f s = some (e', f', s') ∧ Fin C κ e' f' s' R
  | e => Fin C κ e f s R
 | .inl f0 dst ops rest res :: κ, e, f, s, R => match e with
  | .exit _ => False
  | _ => ∃ l f1, resP C.P s f res = some l ∧ (PF.mk f0.n f0.m f.up).put dst (packP l) = some f1 ∧ ∃ N f2 s2, opers C (runP C N) 0 ops rest f1 s = some (f2, s2) ∧ Fin C κ .normal f2 s2 R
 | .rf f0 :: κ, e, f, s, R => match e with
  | .exit _ => False
  | _ => ∃ r up, f.up = r :: up ∧ Fin C κ (exitOf r.pd) ⟨f0.n, f0.m, up⟩ s R
 | .yl f0 dst ops rest r :: κ, e, f, s, R => ∃ f1, (PF.mk f0.n f0.m ({ r with pd := pdOf e } :: f.up)).put dst (.v (.bool (isNormal e))) = some f1 ∧ ∃ N f2 s2, opers C (runP C N) 0 ops rest f1 s = some (f2, s2) ∧ Fin C κ .normal f2 s2 R
 | .asn b :: κ, e, f, s, R => match e with
  | .normal => ∃ N e' f' s', runP C N 0 b f s = some (e', f', s') ∧ Fin C κ e' f' s' R
  | _ => False
 | .du up :: κ, e, f, s, R => match e with
  | .normal => Fin C κ .normal ⟨f.n, f.m, up⟩ s R
  | _ => False
def QR (D : Dcf) (F : Fn) (R : Out) (rs : List PV) : Prop :=
 (R.1 = .normal ∨ R.1 = .ret) ∧ ∃ ps qs l us bs, resP D.P R.2.2 R.2.1 F.res = some ps ∧ shut R.2.2 F.slots F.bk.length (packP ps) = some (packP qs, l) ∧ OutWs D.P F.tys F.slots qs us ∧ OutB F.bk l bs ∧ rs = us ++ bs ∧ (F.flat = true → ∀ v ∈ us, flat v.cells = true)
def JOk (D : Dcf) (F : Fn) (I : FuncId → Bool) (J : List (List PV → Option (List PV))) (env : List PV) (ρ L : Nat → Option Nat) (nb n : Nat) (ru : List LRec) (κ : List SF) (κc : List CF) (j m : Nat) (T : Tm) : Prop :=
 ∃ φ env0 ρ0 L0 σ0, J[j]? = some φ ∧ env0.length = m ∧ Sl (loK κ) env0 ρ0 L0 env ρ L nb ∧ σ0.n = n ∧ (∀ p ∈ σ0.fc, env0[p.1]? = some (.v (.bool p.2))) ∧ SzOk env0 σ0.sz ∧
  ∀ xs rs ρ' f' s', φ xs = some rs → xs.length = T.p → Rb I (env0 ++ xs) ρ' (T.st σ0) s' → Rtσ (env0 ++ xs) ρ' (T.st σ0) f' → f'.up = ru → Sl (loK κ) env0 ρ0 L0 (env0 ++ xs) ρ' (lenOf (env0 ++ xs) (T.st σ0)) T.nb → ∃ R, Fin D.C κc .normal f' s' R ∧ QR D F R rs
inductive KOk (D : Dcf) (F : Fn) (I : FuncId → Bool) (J : List (List PV → Option (List PV))) (env : List PV) (ρ L : Nat → Option Nat) (nb : Nat) : Nat → List SLR → List LRec → List SF → List CF → Prop
 | nil {n : Nat} {u : List SLR} {ru : List LRec} : KOk D F I J env ρ L nb n u ru [] []
 | seq {n : Nat} {u : List SLR} {ru : List LRec} {c : Code} {κ : List SF} {κc : List CF} (h : KOk D F I J env ρ L nb n u ru κ κc) : KOk D F I J env ρ L nb n u ru (.seq c :: κ) (.seq c :: κc)
 | block {n id : Nat} {u : List SLR} {ru : List LRec} {κ : List SF} {κc : List CF} (h : KOk D F I J env ρ L nb n u ru κ κc) : KOk D F I J env ρ L nb n u ru (.block id :: κ) (.block id :: κc)
 | mark {n j m : Nat} {u : List SLR} {ru : List LRec} {T : Tm} {κ : List SF} {κc : List CF} (hj : JOk D F I J env ρ L nb n ru κ (.mark :: κc) j m T) (h : KOk D F I J env ρ L nb n u ru κ κc) : KOk D F I J env ρ L nb n u ru (.J j m T :: κ) (.mark :: κc)
 | loop {n j m : Nat} {u : List SLR} {ru : List LRec} {T : Tm} {b : Code} {κ : List SF} {κc : List CF} (hj : JOk D F I J env ρ L nb n ru κ (.loop b :: κc) j m T) (h : KOk D F I J env ρ L nb n u ru κ κc) : KOk D F I J env ρ L nb n u ru (.LJ j m T b :: κ) (.loop b :: κc)
 | inl {n n' nb0 : Nat} {u : List SLR} {ru : List LRec} {tm : List (Nat × SV)} {dst : Option Tmp} {ops : Array Oper} {rest : List Oper} {res : List ResultVar} {κ : List SF} {κc : List CF} {f0 : PF} {env0 : List PV} {ρ0 L0 : Nat → Option Nat}
   (ht : Rt env0 ρ0 L0 nb0 n' tm f0) (hs : Sx env0 ρ0 L0 nb0 env ρ L nb) (hlo : loK κ ≤ nb0) (hu : UpLo (loK κ) u) (h : KOk D F I J env ρ L nb n' u ru κ κc) : KOk D F I J env ρ L nb n u ru (.inl nb0 n' tm dst ops rest res :: κ) (.inl f0 dst ops rest res :: κc)
 | rf {n n' nb0 : Nat} {r : SLR} {rr : LRec} {u : List SLR} {ru : List LRec} {tm : List (Nat × SV)} {κ : List SF} {κc : List CF} {f0 : PF} {env0 : List PV} {ρ0 L0 : Nat → Option Nat}
   (ht : Rt env0 ρ0 L0 nb0 n' tm f0) (hs : Sx env0 ρ0 L0 nb0 env ρ L nb) (hlo : loK κ ≤ nb0) (hu : UpLo (loK κ) u) (h : KOk D F I J env ρ L nb n' u ru κ κc) : KOk D F I J env ρ L nb n (r :: u) (rr :: ru) (.rf nb0 n' tm :: κ) (.rf f0 :: κc)
 | yl {n n' nb0 : Nat} {r : SLR} {rc : LRec} {u : List SLR} {ru : List LRec} {tm : List (Nat × SV)} {dst : Option Tmp} {ops : Array Oper} {rest : List Oper} {κ : List SF} {κc : List CF} {f0 : PF} {env0 : List PV} {ρ0 L0 : Nat → Option Nat}
   (ht : Rt env0 ρ0 L0 nb0 n' tm f0) (hs : Sx env0 ρ0 L0 nb0 env ρ L nb) (hlo : loK κ ≤ nb0) (hr : RecS env ρ L nb r rc) (hrn : r.nb ≤ nb0) (hpd : r.pd = none) (hu : UpLo (loK κ) (r :: u)) (h : KOk D F I J env ρ L nb n' (r :: u) (rc :: ru) κ κc) : KOk D F I J env ρ L nb n u ru (.yl nb0 n' tm dst ops rest r :: κ) (.yl f0 dst ops rest rc :: κc)
 | asn {n : Nat} {u : List SLR} {ru : List LRec} {b : Code} {κ : List SF} {κc : List CF} (h : KOk D F I J env ρ L nb n u ru κ κc) : KOk D F I J env ρ L nb n u ru (.asn b :: κ) (.asn b :: κc)
 | du {n : Nat} {up : List SLR} {ru : List LRec} {κ : List SF} {κc : List CF} (hu : UpS env ρ L nb up ru) (hl : UpLo (loK κ) up) (h : KOk D F I J env ρ L nb n (up.map SLR.er) (ru.map LRec_er) κ κc) : KOk D F I J env ρ L nb n [] [] (.du up :: κ) (.du ru :: κc)
variable {D : Dcf} {F : Fn} {J J' : List (List PV → Option (List PV))} {κ : List SF} {κc : List CF} {n : Nat} {u : List SLR} {ru : List LRec}
theorem KOk.lo (h : KOk D F I J env ρ L nb n u ru κ κc) : loK κ ≤ nb := by
 induction h with
 | nil => exact Nat.zero_le _
 | seq _ ih => exact ih
 | block _ ih => exact ih
 | mark _ _ ih => exact ih
 | loop _ _ ih => exact ih
 | inl _ hs _ _ _ _ => exact hs.nb
 | rf _ hs _ _ _ _ => exact hs.nb
 | yl _ hs _ _ _ _ _ _ _ => exact hs.nb
 | asn _ ih => exact ih
 | du _ _ _ ih => exact ih
theorem JOk.step {j : Nat} {T : Tm} (h : JOk D F I J env ρ L nb n ru κ κc j m T) (k : Sl (loK κ) env ρ L env' ρ' L' nb') (hJ : ∃ e, J' = J ++ e) : JOk D F I J' env' ρ' L' nb' n ru κ κc j m T := by
 obtain ⟨φ, env0, ρ0, L0, σ0, h1, h2, h3, h4, h5, h6, h7⟩ := h;obtain ⟨e, rfl⟩ := hJ;exact ⟨φ, env0, ρ0, L0, σ0, by rw [List.getElem?_append_left (List.getElem?_eq_some_iff.1 h1).1]; exact h1, h2, h3.trans k, h4, h5, h6, h7⟩
theorem KOk.step (h : KOk D F I J env ρ L nb n u ru κ κc) (k : Sl (loK κ) env ρ L env' ρ' L' nb') (hJ : ∃ e, J' = J ++ e) : KOk D F I J' env' ρ' L' nb' n u ru κ κc := by
 induction h with
 | nil => exact .nil
 | seq _ ih => exact .seq (ih k)
 | block _ ih => exact .block (ih k)
 | mark hj _ ih => exact .mark (hj.step k hJ) (ih k)
 | loop hj _ ih => exact .loop (hj.step k hJ) (ih k)
 | inl ht hs hlo hu _ ih => exact .inl ht (hs.transSl k) hlo hu (ih (k.mono hlo))
 | rf ht hs hlo hu _ ih => exact .rf ht (hs.transSl k) hlo hu (ih (k.mono hlo))
 | yl ht hs hlo hr hrn hpd hu _ ih => exact .yl ht (hs.transSl k) hlo (hr.step k hrn) hrn hpd hu (ih (k.mono hlo))
 | asn _ ih => exact .asn (ih k)
 | du hu hl _ ih => exact .du (hu.step hl k) hl (ih k)
end
end Go.Sym
namespace Go.Sym
open Go.Abu Go.Pev
section
variable {P : Program} {I : FuncId → Bool} {env env' : List PV} {ρ ρ' L L' : Nat → Option Nat} {nb nb' m : Nat} {σ : SS} {s : St} {f : PF}
theorem DW.bool {b : Bool} {p : PV} (h : DVσ env ρ σ (.w (.c (.a (.c (.v (.bool b)))))) p) : p = .v (.bool b) := by
 cases h with
 | w h => cases h with
  | c h => cases h with
   | a hx ht hs =>
    cases hx;rcases hs with rfl | ⟨e, _⟩
    ·rfl
    ·cases e
theorem guard_ok (hb : Rb I env ρ σ s) (ht : Rtσ env ρ σ f) {ops : Array Oper} {o : Oper} {b : Bool} (h : guardS ops σ o = some (.go b)) : wantedP ops f o = some b := by
 unfold guardS at h;unfold wantedP;cases hg : o.guard with
 | none => rw [hg] at h; cases h; rfl
 | some x =>
  obtain ⟨j, want⟩ := x;rw [hg] at h;simp only at h ⊢;cases hd : (ops[j]?).bind (·.dst) with
  | none => rw [hd] at h; cases h
  | some t =>
   rw [hd] at h;simp only at h ⊢;split at h
   ·rename_i v hv;obtain ⟨p, p1, p2⟩ := ht.tm t v hv;have p3 := known_ok hb p2;have hf : f.get t = some p := p1;simp only [hf];split at h
    ·rename_i b' hk;rw [hk] at p3;have := DW.bool p3;subst this;cases h; rfl
    ·cases h
    ·rename_i ws hk;rw [hk] at p3;cases p3;cases h; rfl
    ·cases h
   ·cases h
inductive ClsR (ρ : Nat → Option Nat) (nb : Nat) : SPC → PC → Prop
 | R : ClsR ρ nb .R .R
 | N : ClsR ρ nb .N .N
 | T : ClsR ρ nb .T .T
 | L {b k : Nat} (h : ρ b = some k) (hb : b < nb) : ClsR ρ nb (.L b) (.L k)
 | S {b k : Nat} (h : ρ b = some k) (hb : b < nb) : ClsR ρ nb (.S b) (.L k)
 | Sn {b : Nat} : ClsR ρ nb (.S b) .T
 | Q : ClsR ρ nb .Q .Q
 | W {bs : List Nat} (hb : ∀ b ∈ bs, b < nb) : ClsR ρ nb (.W bs) (.W (blocks ρ bs))
 | WQ {bs : List Nat} : ClsR ρ nb (.W bs) .Q
structure Rec (ρ : Nat → Option Nat) (nb : Nat) (a : SPC × List Nat) (c : PC × St) : Prop where
 cls : ClsR ρ nb a.1 c.1
 lt : ∀ x ∈ a.2, x < nb
 alive : ∀ x ∈ a.2, ∀ k, ρ x = some k → (c.2.get k).isSome = true
 inj : ∀ x ∈ a.2, ∀ y ∈ a.2, ∀ k, ρ x = some k → ρ y = some k → x = y
theorem blocks_congr : ∀ {bs : List Nat}, (∀ b ∈ bs, ρ' b = ρ b) → blocks ρ' bs = blocks ρ bs
 | [], _ => rfl
 | b :: bs, h => by
  have ih := blocks_congr (bs := bs) fun b hb => h b (List.mem_cons_of_mem _ hb);unfold blocks at ih ⊢;rw [List.filterMap_cons, List.filterMap_cons, h b (by simp), ih]
theorem ClsR.step (hρ : ∀ b, b < nb → ρ' b = ρ b) (hn : nb ≤ nb') {a : SPC} {c : PC} (h : ClsR ρ nb a c) : ClsR ρ' nb' a c := by
 cases h with
 | L h hb => exact .L ((hρ _ hb).trans h) (by omega)
 | S h hb => exact .S ((hρ _ hb).trans h) (by omega)
 | W hb =>
  rename_i bs;rw [← blocks_congr (ρ' := ρ') (ρ := ρ) (bs := bs) fun b hb' => hρ b (hb b hb')];exact .W fun b hb' => Nat.lt_of_lt_of_le (hb b hb') hn
 | R => exact .R
 | N => exact .N
 | T => exact .T
 | Sn => exact .Sn
 | Q => exact .Q
 | WQ => exact .WQ
theorem Rec.step (hρ : ∀ b, b < nb → ρ' b = ρ b) (hn : nb ≤ nb') {a : SPC × List Nat} {c : PC × St} (h : Rec ρ nb a c) : Rec ρ' nb' a c :=
 ⟨h.cls.step hρ hn, fun x hx => Nat.lt_of_lt_of_le (h.lt x hx) hn, fun x hx k hk => h.alive x hx k (by rw [← hρ x (h.lt x hx)]; exact hk), fun x hx y hy k h1 h2 => h.inj x hx y hy k (by rw [← hρ x (h.lt x hx)]; exact h1) (by rw [← hρ y (h.lt y hy)]; exact h2)⟩
theorem alive_mem {x : Nat} (h : x ∈ σ.alive) : (look σ.bl x).isSome = true := by
 unfold SS.alive at h;obtain ⟨p, p1, p2⟩ := List.mem_map.1 h;subst p2;exact look_some_of_mem p1
theorem Rec.mk' (hb : Rb I env ρ σ s) {a : SPC} {c : PC} (h : ClsR ρ σ.nb a c) : Rec ρ σ.nb (a, σ.alive) (c, s) :=
 by
 refine ⟨h, fun x hx => ?_, fun x hx k hk => ?_, fun x hx y hy k h1 h2 => hb.inj x y k (alive_mem hx) (alive_mem hy) h1 h2⟩
 ·obtain ⟨sb, hs⟩ := Option.isSome_iff_exists.1 (alive_mem hx);exact (hb.bl x sb hs).1
 ·obtain ⟨sb, hs⟩ := Option.isSome_iff_exists.1 (alive_mem hx);obtain ⟨_, hd⟩ := hb.bl x sb hs;show (s.get k).isSome = true
  cases hd with
  | box hρ hg _ _ _ _ => rw [hk] at hρ; cases hρ; rw [hg]; rfl
  | lst hρ _ hg => rw [hk] at hρ; cases hρ; rw [hg]; rfl
  | gh hρ => rw [hk] at hρ; cases hρ
theorem free_ok {a b : SPC × List Nat} {c d : PC × St} {bs bs' : List Nat} {i j : Nat} (h1 : Rec ρ nb a c) (h2 : Rec ρ nb b d) (e : ∀ y ∈ bs, y ∈ b.2) (e' : bs' = blocks ρ bs) (h : freeS a.1 i bs b.2 j = true) : freeP c.1 i bs' d.2 j = true := by
 have key : ∀ {x k : Nat}, ρ x = some k → (!bs.elem x && b.2.elem x) = true → (!bs'.elem k && aliveP d.2 k) = true := fun {x k} hk hx => by
  simp only [Bool.and_eq_true, Bool.not_eq_true', List.elem_eq_mem, decide_eq_true_eq, decide_eq_false_iff_not] at hx;simp only [Bool.and_eq_true, Bool.not_eq_true', List.elem_eq_mem, decide_eq_false_iff_not];refine ⟨fun hm => ?_, ?_⟩
  ·subst e';obtain ⟨y, y1, y2⟩ := List.mem_filterMap.1 hm;have := h2.inj x hx.2 y (e y y1) k hk y2;subst this;exact hx.1 y1
  ·unfold aliveP;rw [h2.alive x hx.2 k hk]; rfl
 have hc := h1.cls
 revert h hc
 obtain ⟨a1, a2⟩ := a;obtain ⟨c1, c2⟩ := c;intro h hc;cases hc with
 | R => rfl
 | N => rfl
 | T => exact h
 | L hk hb => exact key hk h
 | S hk hb =>
  simp only [freeS, Bool.and_eq_true] at h;exact key hk (by simp only [Bool.and_eq_true]; exact h.1)
 | Sn =>
  simp only [freeS, Bool.and_eq_true] at h;exact h.2
 | Q => cases h
 | W => cases h
 | WQ => cases h
theorem F2.zip {α β : Type} {R : α → β → Prop} {as : List α} {bs : List β} (h : F2 R as bs) : ∀ (n : Nat), ∀ q ∈ bs.zipIdx n, ∃ a, (a, q.2) ∈ as.zipIdx n ∧ R a q.1 := by
 induction h with
 | nil => intro n q hq; cases hq
 | cons h t ih =>
  intro n q hq;rw [List.zipIdx_cons] at hq ⊢;rcases List.mem_cons.1 hq with rfl | hq
  ·exact ⟨_, List.mem_cons_self .., h⟩
  ·obtain ⟨a, h1, h2⟩ := ih (n + 1) q hq;exact ⟨a, List.mem_cons_of_mem _ h1, h2⟩
theorem okS_ok {B : Array Nat} {cs : List (SPC × List Nat)} {ds : List (PC × St)} (h : F2 (Rec ρ nb) cs ds) (hk : okS B cs = true) : okP B ds = true := by
 unfold okS at hk;unfold okP;simp only at hk ⊢;rw [List.all_eq_true] at hk ⊢;intro q hq;obtain ⟨a, h1, h2⟩ := h.zip 0 q hq;have := hk _ h1;simp only at this;obtain ⟨⟨q1, qs⟩, j⟩ := q;obtain ⟨a1, a2⟩ := a;have hcls := h2.cls;simp only at this hcls ⊢;have w : ∀ bs, a1 = .W bs → ∀ bs', bs' = blocks ρ bs → ((ds.zipIdx).all fun (c', i) => i == j || bfr B (min i j) (max i j) || freeP c'.1 i bs' qs j) = true := fun bs e bs' e' => by
  rw [e] at this;simp only [Bool.and_eq_true] at this;have hmem : ∀ y ∈ bs, y ∈ a2 := fun y hy => by simpa using List.all_eq_true.1 this.1 y hy
  replace this := this.2
  simp only [List.all_eq_true] at this;rw [List.all_eq_true];intro p hp;obtain ⟨b, b1, b2⟩ := h.zip 0 p hp;have hb := this _ b1;simp only [Bool.or_eq_true] at hb ⊢;rcases hb with hb | hb
  ·exact .inl hb
  ·exact .inr (free_ok b2 h2 hmem e' hb)
 cases hcls with
 | W _ => exact w _ rfl _ rfl
 | _ => rfl
end
end Go.Sym
namespace Go.Sym
open Go.Abu Go.Pev
section
variable {I : FuncId → Bool} {env env' : List PV} {ρ ρ' L L' : Nat → Option Nat} {nb nb' m : Nat} {σ : SS} {s : St} {f : PF}
def ClsOk (D : Dcf) (ρ : Nat → Option Nat) (σ : SS) (f : PF) (s : St) (op : Op) : Prop :=
 clsS D σ op ≠ .X → ClsR ρ σ.nb (clsS D σ op) (clsP D.C f s op) ∧ ((∃ bs, clsP D.C f s op = .W bs) ∨ noBar f op = true)
theorem dc_t0 {p v : PV} (hs : Smc v p) (ht : t0 v = true) : (∃ x, p = .v x) ∨ (∃ els, p = .sl els) ∨ p = .nil ∨ ∃ els i o, p = .slp els i o := by
 rcases hs with rfl | ⟨_, rfl⟩
 ·cases p <;> simp [t0] at ht
  ·exact .inl ⟨_, rfl⟩
  ·exact .inr (.inl ⟨_, rfl⟩)
  ·exact .inr (.inr (.inr ⟨_, _, _, rfl⟩))
 ·exact .inr (.inr (.inl rfl))
theorem cls_load (D : Dcf) (hb : Rb I env ρ σ s) (ht : Rtσ env ρ σ f) {t : TypeId} {a : Operand} {r : PRes} (hp : pOp D.P 0 f s (.load t a) = some r) : ClsOk D ρ σ f s (.load t a) := by
 intro hx;refine ⟨?_, .inr rfl⟩
 revert hx
 simp only [clsS, clsP, regOp];simp only [pOp] at hp;split
 ·rename_i b o hc;obtain ⟨p, h1, h2⟩ := opC_ok hb ht hc;intro _;rw [h1];rcases h2.cell with h | ⟨_, _, _, _, e, _⟩
  ·cases h with
   | ptr hρ hlt => exact .L hρ hlt
  ·cases e
 ·rename_i b i o hc;obtain ⟨p, h1, h2⟩ := opC_ok hb ht hc;intro _;rw [h1];rcases h2.cell with h | ⟨_, _, _, _, e, _⟩
  ·cases h with
   | ep hρ hlt => exact .L hρ hlt
  ·cases e
 ·rename_i l i o hc;obtain ⟨p, h1, h2⟩ := opC_ok hb ht hc;intro _;rw [h1];rcases h2.cell with h | ⟨_, _, _, _, e, _⟩
  ·cases h with
   | tp => exact .T
  ·cases e
 ·rename_i x hc;obtain ⟨p, h1, h2⟩ := opC_ok hb ht hc;intro _;rw [h1] at hp ⊢;rcases h2.cell with h | ⟨_, _, _, _, e, _⟩
  ·cases h with
   | a hx ht hs => rcases dc_t0 hs ht with ⟨_, rfl⟩ | ⟨_, rfl⟩ | rfl | ⟨_, _, _, rfl⟩ <;> first | exact .T | (simp [pLoad] at hp)
  ·cases e
 ·rename_i x i hc;obtain ⟨p, h1, h2⟩ := opC_ok hb ht hc;intro _;rw [h1] at hp ⊢;rcases h2.cell with h | ⟨_, _, _, _, e, _⟩
  ·cases h with
   | pc hx hi ha hs => rcases dc_t0 hs (all_get ha hi) with ⟨_, rfl⟩ | ⟨_, rfl⟩ | rfl | ⟨_, _, _, rfl⟩ <;> first | exact .T | (simp [pLoad] at hp)
  ·cases e
 ·intro h; exact absurd rfl h
theorem cls_store (D : Dcf) (hb : Rb I env ρ σ s) (ht : Rtσ env ρ σ f) {t : TypeId} {a x : Operand} : ClsOk D ρ σ f s (.store t a x) := by
 intro hx
 revert hx
 simp only [clsS, clsP, regOp];split
 ·rename_i b o hc;obtain ⟨p, h1, h2⟩ := opC_ok hb ht hc;intro _;rw [h1];rcases h2.cell with h | ⟨_, _, _, _, e, _⟩
  ·cases h with
   | ptr hρ hlt =>
    refine ⟨?_, .inl ⟨_, rfl⟩⟩;have := ClsR.W (ρ := ρ) (nb := σ.nb) (bs := [b]) (fun c hc => by simp at hc; subst hc; exact hlt);simpa [blocks, hρ] using this
  ·cases e
 ·rename_i b i o hc;obtain ⟨p, h1, h2⟩ := opC_ok hb ht hc;intro _;rw [h1];rcases h2.cell with h | ⟨_, _, _, _, e, _⟩
  ·cases h with
   | ep hρ hlt =>
    refine ⟨?_, .inl ⟨_, rfl⟩⟩;have := ClsR.W (ρ := ρ) (nb := σ.nb) (bs := [b]) (fun c hc => by simp at hc; subst hc; exact hlt);simpa [blocks, hρ] using this
  ·cases e
 ·intro h; exact absurd rfl h
theorem cls_slice (D : Dcf) (hb : Rb I env ρ σ s) (ht : Rtσ env ρ σ f) {t : TypeId} {x : Operand} {lo hi mx : Option Operand} {r : PRes} (hp : pOp D.P 0 f s (.slice t x lo hi mx) = some r) : ClsOk D ρ σ f s (.slice t x lo hi mx) := by
 intro hx;refine ⟨?_, .inr rfl⟩
 revert hx
 cases mx with
 | some m => cases hi with
  | none => simp only [pOp] at hp; cases hp
  | some hi =>
  simp only [clsS, clsP, regOp];simp only [pOp] at hp;cases ho : opd f x with
  | none => rw [ho] at hp; cases hp
  | some p =>
  rw [ho] at hp;simp only at hp ⊢;have hsl : ∃ l h m r, pSlice3 D.P t p l h m = some r := by
   split at hp
   ·split at hp
    ·split at hp
     ·split at hp
      ·rename_i hr; exact ⟨_, _, _, _, hr⟩
      ·cases hp
     ·cases hp
    ·cases hp
   ·cases hp
  obtain ⟨l, h, m, r', hr⟩ := hsl;unfold pSlice3 at hr;split at hr
  ·rename_i elem hu;have hp' : ∃ els, p = .sl els := by
    split at hr
    ·split at hr
     ·exact ⟨_, rfl⟩
     ·cases hr
    ·cases hr
   obtain ⟨els, rfl⟩ := hp';rw [hu];simp only;intro hx;split at hx
   ·rename_i b o n hc;exfalso;obtain ⟨p', h1, h2⟩ := opC_ok hb ht hc;rw [ho] at h1; cases h1;rcases h2.cell with h | ⟨_, _, _, _, e, _⟩
    ·cases h
    ·cases e
   ·exact .T
   ·exact .T
   ·exact .T
   ·exact absurd rfl hx
  ·cases hr
 | none =>
 simp only [clsS, clsP, regOp];simp only [pOp] at hp;cases ho : opd f x with
 | none => rw [ho] at hp; cases hp
 | some p =>
 rw [ho] at hp;simp only at hp ⊢;have hsl : ∃ l h r, pSlice D.P s t p l h = some r := by
  split at hp
  ·split at hp
   ·split at hp
    ·rename_i hr; exact ⟨_, _, _, hr⟩
    ·cases hp
   ·cases hp
  ·cases hp
 obtain ⟨l, h, r', hr⟩ := hsl;unfold pSlice at hr;split
 ·rename_i hu;intro _;rw [hu] at hr;simp only at hr;split at hr
  ·exact .N
  ·cases hr
 ·rename_i hu;have tree : ∀ {v : PV}, Smc v p → t0 v = true → ClsR ρ σ.nb .T (match some p with | some (.lsl b _ _) => .L b | some (.v (.string _)) => .N | some .nil => .T | some (.sl _) => .T | _ => .X) := fun hs ht => by
   rcases dc_t0 hs ht with ⟨x, rfl⟩ | ⟨_, rfl⟩ | rfl | ⟨_, _, _, rfl⟩
   ·exfalso;split at hr
    ·rename_i hu'; exact hu hu'
    ·simp only at hr; cases hr
    ·cases hr
   ·exact .T
   ·exact .T
   ·exfalso;split at hr
    ·rename_i hu'; exact hu hu'
    ·simp only at hr; cases hr
    ·cases hr
  split
  ·rename_i b o n hc;obtain ⟨p', h1, h2⟩ := opC_ok hb ht hc;rw [ho] at h1; cases h1;intro _;rcases h2.cell with h | ⟨_, _, _, _, e, _⟩
   ·cases h with
    | lsl hρ hlt => exact .S hρ hlt
    | gh => exact .Sn
   ·cases e
  ·rename_i hc;obtain ⟨p', h1, h2⟩ := opC_ok hb ht hc;rw [ho] at h1; cases h1;intro _;rcases h2.cell with h | ⟨_, _, _, _, e, _⟩
   ·cases h; exact .T
   ·cases e
  ·rename_i y hc;obtain ⟨p', h1, h2⟩ := opC_ok hb ht hc;rw [ho] at h1; cases h1;intro _;rcases h2.cell with h | ⟨_, _, _, _, e, _⟩
   ·cases h with
    | a hx ht hs => exact tree hs ht
   ·cases e
  ·rename_i y i hc;obtain ⟨p', h1, h2⟩ := opC_ok hb ht hc;rw [ho] at h1; cases h1;intro _;rcases h2.cell with h | ⟨_, _, _, _, e, _⟩
   ·cases h with
    | pc hx hi ha hs => exact tree hs (all_get ha hi)
   ·cases e
  ·intro h; exact absurd rfl h
theorem dw_mp {w : SW} {b : Nat} (h : DWσ env ρ σ w (.mp b)) : False := by
 cases h with
 | c h => cases h with
  | a hx ht hs => rcases dc_t0 hs ht with ⟨_, e⟩ | ⟨_, e⟩ | e | ⟨_, _, _, e⟩ <;> cases e
  | pc hx hi ha hs => rcases dc_t0 hs (all_get ha hi) with ⟨_, e⟩ | ⟨_, e⟩ | e | ⟨_, _, _, e⟩ <;> cases e
theorem opds_0 {xs : Array Operand} {ps : List PV} (h : opds f xs.toList = some ps) : (xs[0]?).bind (opd f) = ps.head? := by
 rw [opds_head h];have e0 : xs[0]? = xs.toList.head? := by rw [← Array.getElem?_toList]; cases xs.toList <;> rfl
 rw [e0]
theorem opWs_0 {xs : Array Operand} {ws : List SW} (h : opWs σ xs.toList = some ws) : (xs[0]?).bind (opW σ) = ws.head? := by
 have e0 : xs[0]? = xs.toList.head? := by rw [← Array.getElem?_toList]; cases xs.toList <;> rfl
 rw [e0]
 revert h
 generalize xs.toList = l;intro h;cases l with
 | nil => cases h; rfl
 | cons x l =>
  unfold opWs at h;split at h
  ·rename_i w hw;split at h
   ·cases h; simp [hw]
   ·cases h
  ·cases h
theorem opC_of_0 {xs : Array Operand} {ws : List SW} {c : SC} (h : opWs σ xs.toList = some ws) (hc : (xs[0]?).bind (opC σ) = some c) : ws.head? = some (.c c) := by
 rw [← opWs_0 h];cases hx : xs[0]? with
 | none => rw [hx] at hc; cases hc
 | some x =>
  rw [hx] at hc;simp only [Option.bind_some] at hc ⊢;unfold opC at hc;split at hc
  ·rename_i c' hw; cases hc; exact hw
  ·cases hc
theorem cls_builtin (D : Dcf) (hb : Rb I env ρ σ s) (ht : Rtσ env ρ σ f) {c : Call} {b : Builtin} {r : PRes} {ws : List SW} (hc : c.callee = .builtin b) (hw : opWs σ c.args.toList = some ws) (hp : pOp D.P 0 f s (.call c) = some r) : ClsOk D ρ σ f s (.call c) := by
 obtain ⟨ps, h1, h2⟩ := opWs_ok hb ht hw;intro hx
 revert hx
 simp only [clsS, clsP, regOp, hc];simp only [pOp, h1, hc] at hp;cases b with
 | len =>
  simp only;split
  ·rename_i t hts;split
   ·intro h; exact absurd rfl h
   ·rename_i hna;intro _;refine ⟨?_, .inr (by simp only [noBar, hc])⟩;rw [opds_0 h1];simp only [pBuiltin, hts] at hp;cases ps with
    | nil => simp only at hp; cases hp
    | cons p ps =>
     cases ps with
     | cons _ _ => simp only at hp; cases hp
     | nil =>
      simp only [List.head?_cons] at hp ⊢;have hl : ∃ v, pLen D.P s t p = some v := by
       cases hl : pLen D.P s t p with
       | none => rw [hl] at hp; cases hp
       | some v => exact ⟨v, rfl⟩
      obtain ⟨v, hl⟩ := hl;cases h2 with
      | cons hw _ =>
      unfold pLen at hl;split at hl
      ·split at hl
       ·exact .N
       ·cases hl
      ·rename_i hu; exact absurd hu (hna _ _)
      ·split at hl
       ·exact .N
       ·exact .N
       ·exact .N
       ·cases hl
      ·split at hl
       ·exact (dw_mp hw).elim
       ·cases hl
      ·cases hl
  ·intro h; exact absurd rfl h
 | append =>
  simp only;rw [opds_0 h1];split
  ·rename_i b o n hcc;have hh := opC_of_0 hw hcc;cases h2 with
   | nil => cases hh
   | cons h3 _ =>
    simp only [List.head?_cons, Option.some.injEq] at hh ⊢;subst hh;intro _;rcases h3.cell with h | ⟨_, _, _, _, e, _⟩
    ·cases h with
     | lsl hρ hlt =>
      refine ⟨?_, .inl ⟨_, rfl⟩⟩;have := ClsR.W (ρ := ρ) (nb := σ.nb) (bs := [b]) (fun c hc => by simp at hc; subst hc; exact hlt);simpa [blocks, hρ] using this
     | gh => exact ⟨.WQ, .inr (by simp only [noBar, hc]; rw [opds_0 h1]; rfl)⟩
    ·cases e
  ·rename_i hcc;have hh := opC_of_0 hw hcc;cases h2 with
   | nil => cases hh
   | cons h3 _ =>
    simp only [List.head?_cons, Option.some.injEq] at hh ⊢;subst hh;intro _;rcases h3.cell with h | ⟨_, _, _, _, e, _⟩
    ·cases h;exact ⟨.Q, .inr (by simp only [noBar, hc]; rw [opds_0 h1]; rfl)⟩
    ·cases e
  ·intro h; exact absurd rfl h
 | max => intro _; exact ⟨.N, .inr (by simp only [noBar, hc])⟩
 | min => intro _; exact ⟨.N, .inr (by simp only [noBar, hc])⟩
 | _ => intro h; exact absurd rfl h
theorem cls_val (D : Dcf) (hb : Rb I env ρ σ s) (ht : Rtσ env ρ σ f) {op : Op} {p : PV} {s' : St} (hw : ∀ c, op = .call c → ∃ ws, opWs σ c.args.toList = some ws) (hp : pOp D.P 0 f s op = some (.val p s')) : ClsOk D ρ σ f s op := by
 cases op with
 | load t a => exact cls_load D hb ht hp
 | store t a x => exact cls_store D hb ht
 | slice t x lo hi mx => exact cls_slice D hb ht hp
 | call c =>
  obtain ⟨ws, hw⟩ := hw c rfl;cases hc : c.callee with
  | builtin b => exact cls_builtin D hb ht hc hw hp
  | value x =>
   exfalso;simp only [pOp, hc] at hp;split at hp
   ·split at hp <;> cases hp
   ·cases hp
  | _ =>
   exfalso;simp only [pOp, hc] at hp;split at hp <;> cases hp
 | alloc _ => intro _; exact ⟨.Q, .inr rfl⟩
 | box _ _ => intro _; exact ⟨.Q, .inr rfl⟩
 | buildSlice _ _ _ => intro _; exact ⟨.Q, .inr rfl⟩
 | convert _ _ _ => intro _; exact ⟨.Q, .inr rfl⟩
 | makeMap _ _ => intro _; exact ⟨.Q, .inr rfl⟩
 | makeSlice _ _ _ => intro _; exact ⟨.Q, .inr rfl⟩
 | _ => first | (intro _; exact ⟨.R, .inr rfl⟩) | (intro h; exact absurd rfl h)
end
end Go.Sym
namespace Go.Sym
open Go.Abu Go.Pev
section
variable {P : Program} {I : FuncId → Bool} {env env' : List PV} {ρ ρ' L L' : Nat → Option Nat} {nb nb' m : Nat} {σ : SS} {s : St} {f : PF}
def IsVal (x : EM SR) : Prop := ∀ m z r l z', x m z = some (r, l, z') → ∃ v σ', r = .val v σ'
theorem IsVal.bind {α : Type} {x : EM α} {g : α → EM SR} (h : ∀ a, IsVal (g a)) : IsVal (EM.bind x g) := fun m z r l z' e => by
 obtain ⟨a, l1, z1, l2, z2, _, h2, _, _⟩ := bind_inv e;exact h a _ _ _ _ _ h2
theorem IsVal.ret {v : SV} {σ' : SS} : IsVal (EM.ret (.val v σ')) := fun m z r l z' e => by cases e; exact ⟨_, _, rfl⟩
theorem IsVal.fail : IsVal fail := fun m z r l z' e => by cases e
theorem IsVal.ret1 {x : EM SW} : IsVal (ret1 σ x) := .bind fun _ => .ret
theorem IsVal.retC {x : EM SC} : IsVal (retC σ x) := .bind fun _ => .ret
theorem IsVal.retV {x : EM (SV × SS)} : IsVal (retV x) := .bind fun _ => .ret
theorem opE_isVal {op : Op} (h : ∀ c, op ≠ .call c) : IsVal (opE P σ op) := by
 have nope : opE P σ op = Sym.fail → IsVal (opE P σ op) := fun h => by rw [h]; exact .fail
 cases op with
 | move x => exact .bind fun _ => .ret
 | assign x => exact .bind fun _ => .ret
 | pick c a b =>
  refine .bind fun v => ?_;split
  ·exact .bind fun _ => .ret
  ·exact .fail
 | alloc t => exact .bind fun _ => .retV
 | box t x => exact .bind fun _ => .bind fun _ => .retV
 | build t ps => exact .bind fun _ => .bind fun _ => .bind fun _ => .bind fun _ => .ret1
 | buildSlice t n ps => exact .bind fun _ => .retV
 | load t a => exact .bind fun _ => .ret1
 | store t a x => exact .bind fun _ => .bind fun _ => .bind fun _ => .ret
 | nilCheck x =>
  refine .bind fun v => ?_;split
  ·exact .ret
  ·exact .ret
  ·exact .fail
 | binOp op t x y t' => exact .bind fun _ => .bind fun _ => .bind fun _ => .ret
 | unOp op t x => exact .bind fun _ => .bind fun _ => .bind fun _ => .ret
 | convert s d x => exact .bind fun _ => .retV
 | makeSlice t l c => exact .bind fun _ => .bind fun _ => .retV
 | fieldAddr t x i => exact .bind fun _ => .retC
 | field t x i => exact .bind fun _ => .ret1
 | indexAddr t x i => exact .bind fun _ => .bind fun _ => .retC
 | index t x i => exact .bind fun _ => .bind fun _ => .ret1
 | extract x i =>
  refine .bind fun v => ?_;split
  ·exact .bind fun _ => .ret
  ·exact .fail
 | call c => exact absurd rfl (h c)
 | makeFunc g a c => cases g with
  | func g => exact .bind fun _ => .bind fun _ => .ret
  | _ => exact nope rfl
 | slice t x lo hi mx => cases mx with
  | none => exact .bind fun _ => .bind fun _ => .bind fun _ => .retC
  | some m => cases hi with
   | none => exact nope rfl
   | some hi => exact .bind fun _ => .bind fun _ => .bind fun _ => .bind fun _ => .retC
 | _ => exact nope rfl
theorem ofO_inv {α : Type} {o : Option α} {m : Nat} {z z' : Szs} {a : α} {l : Lets} (h : ofO o m z = some (a, l, z')) : o = some a ∧ l = [] ∧ z' = [] := by
 cases o with
 | none => cases h
 | some b => cases h; exact ⟨rfl, rfl, rfl⟩
theorem opE_call_inv {c : Call} {m : Nat} {z z' : Szs} {r : SR} {l : Lets} (h : opE P σ (.call c) m z = some (r, l, z')) : ∃ ws, opWs σ c.args.toList = some ws ∧
  ((∃ v σ' b, c.callee = .builtin b ∧ r = .val v σ') ∨ (∃ x g a cs, c.callee = .value x ∧ opC σ x = some (.fn g a cs) ∧ r = .call g (a.map Cap.w ++ ws ++ cs.map Cap.w)) ∨ ∃ x y, c.callee = .value x ∧ opC σ x = some (.fv y) ∧ r = .callv y ws) := by
 cases hc : c.callee with
 | builtin b =>
  simp only [opE, hc] at h;obtain ⟨ws, l1, z1, l2, z2, h1, h2, _, _⟩ := bind_inv h;obtain ⟨h1, _, _⟩ := ofO_inv h1;obtain ⟨v, σ', e⟩ := IsVal.retV _ _ _ _ _ h2;exact ⟨ws, h1, .inl ⟨v, σ', b, rfl, e⟩⟩
 | value x =>
  simp only [opE, hc] at h;obtain ⟨ws, l1, z1, l2, z2, h1, h2, _, _⟩ := bind_inv h;obtain ⟨h1, _, _⟩ := ofO_inv h1;obtain ⟨fv, l3, z3, l4, z4, h3, h4, _, _⟩ := bind_inv h2;obtain ⟨h3, _, _⟩ := ofO_inv h3;refine ⟨ws, h1, .inr ?_⟩;cases fv with
  | fn g a cs => cases h4; exact .inl ⟨x, g, a, cs, rfl, h3, rfl⟩
  | fv y => cases h4; exact .inr ⟨x, y, rfl, h3, rfl⟩
  | _ => cases h4
 | _ =>
  simp only [opE, hc] at h;obtain ⟨ws, l1, z1, l2, z2, h1, h2, _, _⟩ := bind_inv h;cases h2
theorem opE_inv_call {op : Op} {m : Nat} {z z' : Szs} {g : FuncId} {ws : List SW} {l : Lets} (h : opE P σ op m z = some (.call g ws, l, z')) : ∃ c x a cs ws0, op = .call c ∧ c.callee = .value x ∧ opWs σ c.args.toList = some ws0 ∧ opC σ x = some (.fn g a cs) ∧ ws = a.map Cap.w ++ ws0 ++ cs.map Cap.w := by
 cases op with
 | call c =>
  obtain ⟨ws0, h1, h2⟩ := opE_call_inv h;rcases h2 with ⟨_, _, _, _, e⟩ | ⟨x, g', a, cs, k1, k2, e⟩ | ⟨_, _, _, _, e⟩
  ·cases e
  ·cases e; exact ⟨c, x, a, cs, ws0, rfl, k1, h1, k2, rfl⟩
  ·cases e
 | _ =>
  obtain ⟨_, _, e⟩ := opE_isVal (P := P) (σ := σ) (fun c e => by cases e) _ _ _ _ _ h;cases e
theorem opE_inv_callv {op : Op} {m : Nat} {z z' : Szs} {y : A} {ws : List SW} {l : Lets} (h : opE P σ op m z = some (.callv y ws, l, z')) : ∃ c x, op = .call c ∧ c.callee = .value x ∧ opWs σ c.args.toList = some ws ∧ opC σ x = some (.fv y) := by
 cases op with
 | call c =>
  obtain ⟨ws0, h1, h2⟩ := opE_call_inv h;rcases h2 with ⟨_, _, _, _, e⟩ | ⟨_, _, _, _, _, _, e⟩ | ⟨x, y', k1, k2, e⟩
  ·cases e
  ·cases e
  ·cases e; exact ⟨c, x, rfl, k1, h1, k2⟩
 | _ =>
  obtain ⟨_, _, e⟩ := opE_isVal (P := P) (σ := σ) (fun c e => by cases e) _ _ _ _ _ h;cases e
theorem deeps_get : ∀ {ps qs : List PV} {bs : List Nat}, deeps s ps = some (qs, bs) → ∀ (i : Nat) (p : PV), ps[i]? = some p → ∃ q bs', qs[i]? = some q ∧ deep s p = some (q, bs')
 | [], qs, bs, h, i, p, hi => by simp at hi
 | p :: ps, qs, bs, h, i, p', hi => by
  unfold deeps at h;split at h
  ·rename_i q b hq;split at h
   ·rename_i qs' cs hqs;cases h;cases i with
    | zero => simp at hi; subst hi; exact ⟨q, b, rfl, hq⟩
    | succ i => simp at hi; obtain ⟨q', b', h1, h2⟩ := deeps_get hqs i p' hi; exact ⟨q', b', by simpa using h1, h2⟩
   ·cases h
  ·cases h
theorem deep_fn' {h : FuncId} {a c : List PV} {q : PV} {bs : List Nat} (e : deep s (.fn h a c) = some (q, bs)) : ∃ a' c', q = .fn h a' c' := by
 unfold deep at e;split at e
 ·cases ‹PV.fn _ _ _ = _›
 ·rename_i hh;cases hh;split at e
  ·split at e
   ·cases e; exact ⟨_, _, rfl⟩
   ·cases e
  ·cases e
 ·rename_i h2; exact absurd rfl (h2 _ _ _)
theorem mark_fn {ts : List Slot} {v : PV} {h : FuncId} {a c : List PV} (e : mark ts v = .fn h a c) : v = .fn h a c := by
 cases v with
 | agg cs => cases e
 | sl els =>
  simp only [mark] at e;cases hd : ts.headD none with
  | none => rw [hd] at e; cases e
  | some ty => rw [hd] at e; cases e
 | _ =>
  simp only [mark] at e;cases hd : ts.headD none with
  | none => rw [hd] at e; exact e
  | some ty => rw [hd] at e; exact e
theorem lend_fn {fs : List Bool} {h : FuncId} {a c : List PV} {q : PV} {ls bs : List Nat} (e : lend s fs (.fn h a c) = some (q, ls, bs)) : ∃ a' c', q = .fn h a' c' := by
 simp only [lend] at e;unfold lend0 at e;split at e
 ·cases e
 ·split at e
  ·rename_i q' b' hq;cases e;unfold deep0 at hq;split at hq <;> first | (cases hq; done) | skip
   all_goals first | (cases ‹PV.fn _ _ _ = _›; done) | skip
   rename_i hh;cases hh;cases hq;exact ⟨_, _, rfl⟩
  ·cases e
theorem args_fn (D : Dcf) {g : FuncId} {ps vs : List PV} {bs ls : List Nat} (h : argsT s (D.C.lent g) ps = some (argIn D g vs, bs, ls)) {h' : FuncId} {a c : List PV} (hm : PV.fn h' a c ∈ ps) : ∃ a' c', PV.fn h' a' c' ∈ vs := by
 obtain ⟨i, hi⟩ := List.mem_iff_getElem?.1 hm;cases hl : D.lent g with
 | none =>
  have : D.C.lent g = none := by show (D.lent g).map _ = none; rw [hl]; rfl
  rw [this] at h;simp only [argsT] at h;split at h
  ·rename_i ts bs' hd;simp only [Option.some.injEq, Prod.mk.injEq] at h;obtain ⟨e, _, _⟩ := h;have e2 : argIn D g vs = vs := by unfold argIn; rw [hl]
   rw [e2] at e; subst e;obtain ⟨q, b', h1, h2⟩ := deeps_get hd i _ hi;obtain ⟨a', c', rfl⟩ := deep_fn' h2;exact ⟨a', c', List.mem_iff_getElem?.2 ⟨i, h1⟩⟩
  ·cases h
 | some p =>
  obtain ⟨k, ts⟩ := p;have : D.C.lent g = some (k, ts.map (·.isSome)) := by show (D.lent g).map _ = _; rw [hl]; rfl
  rw [this] at h;simp only [argsT] at h;split at h
  ·cases h
  ·rename_i p hp;split at h
   ·cases h
   ·rename_i t ls' bs' hlend;split at h
    ·cases h
    ·rename_i us cs hd;split at h
     ·simp only [Option.some.injEq, Prod.mk.injEq] at h;obtain ⟨e, _, _⟩ := h;have e2 : argIn D g vs = (match vs[k]? with | some v => vs.set k (mark ts v) | none => vs) := by
       unfold argIn; rw [hl];show (match vs[k]? with | some v => vs.set k (mark ts v) | none => vs) = _
       cases vs[k]? <;> rfl
      have hlen : ∀ {ps qs : List PV} {bs : List Nat}, deeps s ps = some (qs, bs) → qs.length = ps.length := by
       intro ps;induction ps with
       | nil => intro qs bs h; cases h; rfl
       | cons p ps ih =>
        intro qs bs h;unfold deeps at h;split at h
        ·split at h
         ·rename_i hq; cases h; simp [ih hq]
         ·cases h
        ·cases h
      have hul := hlen hd;rw [List.length_set] at hul;have hkl : k < ps.length := (List.getElem?_eq_some_iff.1 hp).1;by_cases hik : i = k
      ·subst hik;rw [hi] at hp; cases hp;obtain ⟨a', c', rfl⟩ := lend_fn hlend;have h1 : (us.set i (PV.fn h' a' c'))[i]? = some (.fn h' a' c') := by rw [List.getElem?_set_self (by omega)]
       rw [e, e2] at h1;cases hv : vs[i]? with
       | none => rw [hv] at h1; simp only at h1; rw [hv] at h1; cases h1
       | some v =>
        rw [hv] at h1;simp only at h1;rw [List.getElem?_set_self (List.getElem?_eq_some_iff.1 hv).1] at h1;have h1 : mark ts v = .fn h' a' c' := by simpa using h1
        have := mark_fn h1;subst this;exact ⟨a', c', List.mem_iff_getElem?.2 ⟨i, hv⟩⟩
      ·obtain ⟨q, b', h1, h2⟩ := deeps_get hd i (.fn h' a c) (by rw [List.getElem?_set_ne (fun e => hik e.symm)]; exact hi);obtain ⟨a', c', rfl⟩ := deep_fn' h2;have h3 : (us.set k t)[i]? = some (.fn h' a' c') := by rw [List.getElem?_set_ne (fun e => hik e.symm)]; exact h1
       rw [e, e2] at h3;cases hv : vs[k]? with
       | none => rw [hv] at h3; exact ⟨a', c', List.mem_iff_getElem?.2 ⟨i, h3⟩⟩
       | some v =>
        rw [hv] at h3;simp only at h3;rw [List.getElem?_set_ne (fun e => hik e.symm)] at h3;exact ⟨a', c', List.mem_iff_getElem?.2 ⟨i, h3⟩⟩
     ·cases h
end
end Go.Sym
namespace Go.Sym
open Go.Abu Go.Pev
section
variable {I : FuncId → Bool} {env env' : List PV} {ρ ρ' L L' : Nat → Option Nat} {nb nb' m : Nat} {σ : SS} {s : St} {f : PF}
variable {D : Dcf} {Φ : FuncId → List PV → Option (List PV)} {V : FuncId → Bool} {N : Nat}
structure HypOk (D : Dcf) (Φ : FuncId → List PV → Option (List PV)) (V : FuncId → Bool) : Prop where
 phi : ∀ g vs rs, Φ g vs = some rs → Ans D g vs rs
 v : ∀ g, V g = true → D.lent g = none ∧ D.ptrs g = false ∧ D.bk g = [] ∧ ∃ fn t, D.P.funcs[g]? = some fn ∧ fn.resultTypes.toList = [t] ∧ isAggT D.P t = some false
def StepA (D : Dcf) (bar : Nat) (f : PF) (s : St) (op : Op) (p : PV) (s' : St) : Prop :=
 pOp D.P bar f s op = some (.val p s') ∨ ∃ g args, pOp D.P bar f s op = some (.call g args) ∧ ∃ N, callP D.C (runP D.C N) bar g args f.up s = some (p, f.up, s')
theorem callP_bar {C : Cfg} {r : PRec} {bar : Nat} {g : FuncId} {args : List PV} {up : List LRec} {x : PV × List LRec × St} (hi : inlP C g args = false) (hl : C.lent g = none) (h : callP C r 0 g args up s = some x) : callP C r bar g args up s = some x := by
 unfold callP at h ⊢;rw [hi] at h ⊢;simp only at h ⊢;rw [hl] at h ⊢;cases hd : argsT s none args with
 | none => rw [hd] at h; cases h
 | some q =>
  obtain ⟨ts, bs, ls⟩ := q;have : ls = [] := by
   simp only [argsT] at hd;split at hd
   ·cases hd; rfl
   ·cases hd
  subst this;rw [hd] at h;exact h
theorem callP_ans {g : FuncId} {ps vs rs : List PV} {bs ls : List Nat} {up : List LRec} (hi : inlP D.C g ps = false) (ha : Ans D g vs rs) (h : argsT s (D.C.lent g) ps = some (argIn D g vs, bs, ls)) :
  ∃ N fn qs l us vs', D.P.funcs[g]? = some fn ∧ OutWs D.P fn.resultTypes.toList (D.slots g) qs us ∧ OutB (D.bk g) l vs' ∧ rs = us ++ vs' ∧ (D.ptrs g = false → D.lent g = none → flatR (packP qs) = true) ∧
   callP D.C (runP D.C N) 0 g ps up s = (if D.C.ptrs g || !ls.isEmpty then (match inst (giveBack (Pev.freeze s bs) ls l) (packP qs) with
      | (s1, q) => some (q, up, s1))
     else if flatR (packP qs) then some (packP qs, up, s) else none) := by
 obtain ⟨_, _, n, fn, qs, l, us, vs', h1, h2, h3, h4, h5, h6⟩ := ha;refine ⟨n, fn, qs, l, us, vs', h1, h3, h4, h5, h6, ?_⟩;unfold callP;rw [hi];simp only;rw [h];simp only;rw [if_pos (by rw [List.all_eq_true]; intro b _; simp), h2]
theorem lendW_blocks {ts : List Slot} {w : SW} {m : Nat} {z z' : Szs} {r : A × List Nat × List Nat} {l : Lets} (h : lendW σ ts w m z = some (r, l, z')) : r.2.1 = lendBs ts w := by
 have h1 : ∀ {sl : Slot} {c : SC} {m : Nat} {z z' : Szs} {r : A × List Nat × List Nat} {l : Lets}, lendC σ sl c m z = some (r, l, z') → r.2.1 = lendB1 sl c := by
  intro sl c m z z' r l h;cases sl with
  | none =>
   simp only [lendC] at h;obtain ⟨_, _, _, _, _, _, h2, _, _⟩ := bind_inv h;cases h2; rfl
  | some ty =>
   cases c with
   | lsl b o n =>
    simp only [lendC] at h;cases hl : look σ.bl b with
    | none => rw [hl] at h; cases h
    | some sb =>
     rw [hl] at h;cases sb with
     | box cs z fz => cases h
     | lst l0 t z0 fz => cases fz with
      | true => cases h
      | false =>
       simp only at h;obtain ⟨_, h⟩ := chk_inv h;obtain ⟨_, _, _, _, _, _, h2, _, _⟩ := bind_inv h;cases h2; rfl
   | _ => cases h
 have h2 : ∀ {cs : List SC} {ts : List Slot} {m : Nat} {z z' : Szs} {r : List A × List Nat × List Nat} {l : Lets}, lendCs σ ts cs m z = some (r, l, z') → r.2.1 = lendBL ts cs := by
  intro cs;induction cs with
  | nil => intro ts m z z' r l h; unfold lendCs at h; cases h; cases ts <;> rfl
  | cons c cs ih =>
   intro ts m z z' r l h;unfold lendCs at h;obtain ⟨_, _, _, _, _, k1, k2, _, _⟩ := bind_inv h;obtain ⟨_, _, _, _, _, k3, k4, _, _⟩ := bind_inv k2;cases k4;simp only [lendBL, h1 k1, ih k3]
 cases w with
 | agg cs =>
  simp only [lendW] at h;obtain ⟨_, _, _, _, _, k1, k2, _, _⟩ := bind_inv h;obtain ⟨_, _, _, _, _, _, k4, _, _⟩ := bind_inv k2;cases k4;exact h2 k1
 | c c => exact h1 h
 | av x => cases h
theorem argsS_blocks {g : FuncId} {ws : List SW} {m : Nat} {z z' : Szs} {r : List A × List Nat × List Nat} {l : Lets} (h : argsS D σ g ws m z = some (r, l, z')) : (D.lent g = none ∧ r.2.2 = []) ∨ ∃ k ts w, D.lent g = some (k, ts) ∧ ws[k]? = some w ∧ r.2.2 = lendBs ts w := by
 unfold argsS at h;cases hl : D.lent g with
 | none =>
  rw [hl] at h;simp only at h;obtain ⟨_, _, _, _, _, _, k2, _, _⟩ := bind_inv h;cases k2; exact .inl ⟨rfl, rfl⟩
 | some p =>
  obtain ⟨k, ts⟩ := p;rw [hl] at h;simp only at h;cases hw : ws[k]? with
  | none => rw [hw] at h; cases h
  | some w =>
   rw [hw] at h;simp only at h;obtain ⟨_, _, _, _, _, k1, k2, _, _⟩ := bind_inv h;obtain ⟨_, _, _, _, _, _, k4, _, _⟩ := bind_inv k2;obtain ⟨_, k4⟩ := chk_inv k4;cases k4;exact .inr ⟨k, ts, w, rfl, hw, lendW_blocks k1⟩
theorem cls_call (D : Dcf) (hb : Rb I env ρ σ s) {c : Call} {x : Operand} {g : FuncId} {a cs : List Cap} {ws0 : List SW} {ps : List PV} {r : List A × List Nat × List Nat} {m : Nat} {z z' : Szs} {l : Lets} {ts : List PV}
  (hc : c.callee = .value x) (h0 : opWs σ c.args.toList = some ws0) (hx : opC σ x = some (.fn g a cs)) (hs : inlS D g (a.map Cap.w ++ ws0 ++ cs.map Cap.w) = false) (hp : pOp D.P 0 f s (.call c) = some (.call g ps)) (hi : inlP D.C g ps = false)
  (ha : argsS D σ g (a.map Cap.w ++ ws0 ++ cs.map Cap.w) m z = some (r, l, z')) (hl : Lst ρ σ r.2.2) (hT : argsT s (D.C.lent g) ps = some (ts, blocks ρ r.2.1, blocks ρ r.2.2)) : ClsOk D ρ σ f s (.call c) := by
 intro _;have hnb : noBar f (.call c) = true := by simp only [noBar, hc]
 have hcp : clsP D.C f s (.call c) = clsCall D.C s g ps := by
  simp only [pOp, hc] at hp;simp only [clsP, regOp, hc];split at hp
  ·rename_i args ha;split at hp
   ·rename_i g' a' b' hf;cases hp
    first | rfl | (rw [hf]; simp only; rw [ha])
   ·cases hp
  ·cases hp
 have hcs : clsS D σ (.call c) = clsCallS D σ g (a.map Cap.w ++ ws0 ++ cs.map Cap.w) := by
  simp only [clsS, regOp, hc, hx, h0]
 refine ⟨?_, .inr hnb⟩;rw [hcp, hcs];unfold clsCall clsCallS;rw [hi, hs];simp only;rcases argsS_blocks ha with ⟨h1, h2⟩ | ⟨k, tss, w, h1, h2, h3⟩
 ·have : D.C.lent g = none := by show (D.lent g).map _ = none; rw [h1]; rfl
  rw [h1, this];exact .Q
 ·have hC : D.C.lent g = some (k, tss.map (·.isSome)) := by show (D.lent g).map _ = _; rw [h1]; rfl
  rw [hC] at hT ⊢;rw [h1];simp only;rw [h2];simp only;rw [hT];simp only;rw [← h3];exact .W fun b hb' => by
   obtain ⟨⟨l0, ty, z0, e⟩, _⟩ := hl b hb';exact (hb.bl b _ e).1
theorem cls_callv (D : Dcf) {c : Call} {x : Operand} {y : A} {ws0 : List SW} {g : FuncId} {ps : List PV} (hc : c.callee = .value x) (hx : opC σ x = some (.fv y)) (hp : pOp D.P 0 f s (.call c) = some (.call g ps)) (hi : inlP D.C g ps = false) (hl : D.C.lent g = none) : ClsOk D ρ σ f s (.call c) := by
 intro _;have hnb : noBar f (.call c) = true := by simp only [noBar, hc]
 have hcp : clsP D.C f s (.call c) = clsCall D.C s g ps := by
  simp only [pOp, hc] at hp;simp only [clsP, regOp, hc];split at hp
  ·rename_i args ha;split at hp
   ·rename_i g' a' b' hf;cases hp
    first | rfl | (rw [hf]; simp only; rw [ha])
   ·cases hp
  ·cases hp
 have hcs : clsS D σ (.call c) = .Q := by
  simp only [clsS, regOp, hc, hx]
 refine ⟨?_, .inr hnb⟩;rw [hcp, hcs];unfold clsCall;rw [hi, hl];exact .Q
theorem deep_tree {p : PV} (h : t0 p = true) : deep s p = some (p, []) := by cases p <;> simp [t0] at h <;> rfl
theorem deeps_app : ∀ {ps qs us vs : List PV} {bs cs : List Nat}, deeps s ps = some (us, bs) → deeps s qs = some (vs, cs) → deeps s (ps ++ qs) = some (us ++ vs, bs ++ cs)
 | [], qs, us, vs, bs, cs, h, k => by cases h; exact k
 | p :: ps, qs, us, vs, bs, cs, h, k => by
  unfold deeps at h;split at h
  ·rename_i q b hq;split at h
   ·rename_i qs' cs' hqs;cases h;simp only [List.cons_append, deeps, hq, deeps_app hqs k, List.append_assoc]
   ·cases h
  ·cases h
theorem deeps_t0 : ∀ {ps : List PV}, ps.all t0 = true → deeps s ps = some (ps, [])
 | [], _ => rfl
 | p :: ps, h => by
  simp only [List.all_cons, Bool.and_eq_true] at h;simp only [deeps, deep_tree h.1, deeps_t0 h.2, List.append_nil]
theorem deeps_fns {ps qs : List PV} {bs : List Nat} (h : deeps s ps = some (qs, bs)) {g : FuncId} {a c : List PV} (hm : PV.fn g a c ∈ ps) : ∃ a' c', PV.fn g a' c' ∈ qs := by
 obtain ⟨i, hi⟩ := List.mem_iff_getElem?.1 hm;obtain ⟨q, b', h1, h2⟩ := deeps_get h i _ hi;obtain ⟨a', c', rfl⟩ := deep_fn' h2;exact ⟨a', c', List.mem_iff_getElem?.2 ⟨i, h1⟩⟩
end
end Go.Sym
namespace Go.Sym
open Go.Abu Go.Pev
section
variable {I : FuncId → Bool} {env env' : List PV} {ρ ρ' L L' : Nat → Option Nat} {nb nb' m : Nat} {σ : SS} {s : St} {f : PF}
variable {D : Dcf} {Φ : FuncId → List PV → Option (List PV)} {V : FuncId → Bool} {N : Nat} {J : List (List PV → Option (List PV))}
structure OpA (D : Dcf) (Φ : FuncId → List PV → Option (List PV)) (V : FuncId → Bool) (N : Nat) (I : FuncId → Bool) (J : List (List PV → Option (List PV))) (env : List PV) (ρ : Nat → Option Nat) (σ : SS) (s : St) (f : PF) (o : Oper) (go : SS → Nat → Option (K × List Hint)) (rs : List PV) : Prop where
 h : ∃ env' ρ' σ'' s' f' p k hs1, f'.up = f.up ∧ go σ'' env'.length = some (k, hs1) ∧ den Φ V N k J env' = some rs ∧ Rb I env' ρ' σ'' s' ∧ Rtσ env' ρ' σ'' f' ∧ Sx env ρ (lenOf env σ) σ.nb env' ρ' (lenOf env' σ'') σ''.nb ∧ σ''.n = σ.n ∧ StepA D 0 f s o.op p s' ∧ f.put o.dst p = some f' ∧
  (clsS D σ o.op ≠ .X → ClsR ρ σ.nb (clsS D σ o.op) (clsP D.C f s o.op) ∧ StepA D (barP (clsP D.C f s o.op) 0 s) f s o.op p s')
structure OpB (D : Dcf) (Φ : FuncId → List PV → Option (List PV)) (V : FuncId → Bool) (N : Nat) (I : FuncId → Bool) (J : List (List PV → Option (List PV))) (env : List PV) (ρ : Nat → Option Nat) (σ : SS) (s : St) (f : PF) (o : Oper) (inl : FuncId → Func → Code → List SW → Nat → Szs → Option (K × List Hint)) (rs : List PV) : Prop where
 h : ∃ g fn c args ps z env' k hs1, inl g fn c args env'.length z = some (k, hs1) ∧ den Φ V N k J env' = some rs ∧ Rb I env' ρ (σ.wz z) s ∧ F2 (DWσ env' ρ σ) args ps ∧ Sx env ρ (lenOf env σ) σ.nb env' ρ (lenOf env' σ) σ.nb ∧
  pOp D.P 0 f s o.op = some (.call g ps) ∧ inlP D.C g ps = true ∧ D.kn g = false ∧ D.P.funcs[g]? = some fn ∧ fn.body = some c ∧ ps.length ≤ fn.ntmps ∧ fn.ntmps ≤ 1024 ∧ (fn.name == "runtime.NumGoroutine") = false
theorem rt_of {n : Nat} {tm : List (Nat × SV)} {σ' : SS} (h : Rt env ρ (lenOf env σ') σ'.nb n tm f) (hn : σ'.n = n) (htm : σ'.tm = tm) : Rtσ env ρ σ' f := by
 subst hn; subst htm; exact h
theorem put_up {f f' : PF} {dst : Option Tmp} {p : PV} (h : f.put dst p = some f') : f'.up = f.up := by
 unfold PF.put at h;split at h
 ·cases h; rfl
 ·split at h
  ·cases h; rfl
  ·cases h
theorem opA_fin {o : Oper} {go : SS → Nat → Option (K × List Hint)} {rs : List PV} {σ' σ'' : SS} {s' : St} {p : PV} {v : SV} {k : K} {hs1 : List Hint} {z : Szs} (hgo : go σ'' env'.length = some (k, hs1)) (hd : den Φ V N k J env' = some rs) (hx : Sx env ρ (lenOf env σ) σ.nb env' ρ' (lenOf env' σ') σ'.nb) (hn : σ'.n = σ.n) (hb : Rb I env' ρ' σ' s') (ht : Rtσ env' ρ' σ' f) (hz : SzOk env' z) (hv : DVσ env' ρ' σ' v p) (hset : (σ'.wz z).setT o.dst v = some σ'')
  (hs : StepA D 0 f s o.op p s') (hc : clsS D σ o.op ≠ .X → ClsR ρ σ.nb (clsS D σ o.op) (clsP D.C f s o.op) ∧ StepA D (barP (clsP D.C f s o.op) 0 s) f s o.op p s') : OpA D Φ V N I J env ρ σ s f o go rs := by
 obtain ⟨f', h1, h2⟩ := Rt.setT (σ := σ'.wz z) ht hv hset;obtain ⟨e1, e2, e3⟩ := setT_eq hset;refine ⟨env', ρ', σ'', s', f', p, k, hs1, put_up h1, hgo, hd, (hb.wz hz).setT hset, h2, ?_, e3.trans hn, hs, h1, hc⟩;rw [lenOf_bl e1, e2];exact hx
theorem bar_of {op : Op} {p : PV} {s' : St} (h : StepA D 0 f s op p s') (hc : ClsOk D ρ σ f s op) (hcall : ∀ g args, pOp D.P 0 f s op = some (.call g args) → (∃ bs, clsP D.C f s op = .W bs) ∨ ∀ N bar, callP D.C (runP D.C N) 0 g args f.up s = some (p, f.up, s') → callP D.C (runP D.C N) bar g args f.up s = some (p, f.up, s')) : clsS D σ op ≠ .X → ClsR ρ σ.nb (clsS D σ op) (clsP D.C f s op) ∧ StepA D (barP (clsP D.C f s op) 0 s) f s op p s' := by
 intro hx;obtain ⟨h1, h2⟩ := hc hx;refine ⟨h1, ?_⟩;rcases h2 with ⟨bs, e⟩ | e
 ·rw [e]; exact h
 ·rcases h with h | ⟨g, args, h, n, hn⟩
  ·exact .inl (by rw [pOp_bar e]; exact h)
  ·rcases hcall g args h with ⟨bs, e'⟩ | hcall
   ·rw [e']; exact .inr ⟨g, args, h, n, hn⟩
   ·exact .inr ⟨g, args, by rw [pOp_bar e]; exact h, n, hcall n _ hn⟩
theorem with_up {c d : Bool} {x : St × PV} {p q : PV} {s s' : St} {up : List LRec} (h : (if c then (match x with | (s1, q) => some (q, s1)) else if d then some (p, s) else none) = some (q, s')) : (if c then (match x with | (s1, q) => some (q, up, s1)) else if d then some (p, up, s) else none) = some (q, up, s') := by
 obtain ⟨x1, x2⟩ := x;cases c with
 | true => simp only [if_true] at h ⊢; cases h; rfl
 | false => cases d with
  | true => simp only [Bool.false_eq_true, if_false, if_true] at h ⊢; cases h; rfl
  | false => simp at h
theorem opK_ok (H : HypOk D Φ V) (hb : Rb I env ρ σ s) (ht : Rtσ env ρ σ f) {o : Oper} {hs hs' : List Hint} {inl : FuncId → Func → Code → List SW → Nat → Szs → Option (K × List Hint)} {go : SS → Nat → Option (K × List Hint)} {k : K} {rs : List PV} (hk : opK D σ env.length o hs inl go = some (k, hs')) (hd : den Φ V N k J env = some rs) :
  OpA D Φ V N I J env ρ σ s f o go rs ∨ OpB D Φ V N I J env ρ σ s f o inl rs := by
 unfold opK at hk;split at hk
 ·cases hk; simp [den] at hd
 ·rename_i v σ' l z he;split at hk
  ·rename_i σ'' hset;split at hk
   ·rename_i k1 hs1 hgo;cases hk;obtain ⟨xs, x1, x2, x3⟩ := den_lets hd;have hb1 := hb.ext xs;have ht1 := ht.step (hb.sxE xs);obtain ⟨hz, p, s', ρ', hp, hn, hv⟩ := opE_ok (P := D.P) hb1 ht1 o.op _ _ _ _ _ he x2 hb1.sz;refine .inl (opA_fin (σ' := σ') (env' := env ++ xs) (by rw [List.length_append, x1]; exact hgo) x3 ((hb.sxE xs).trans hn.sx) hn.n hn.rb (rt_of (ht1.step hn.sx) hn.n hn.tm) (hz.append hb1.sz) hv hset (.inl hp) (bar_of (.inl hp) (cls_val D hb1 ht1 (fun c hc => ?_) hp) fun g args h => by rw [hp] at h; cases h));rw [hc] at he;obtain ⟨ws, h1, _⟩ := opE_call_inv he;exact ⟨ws, h1⟩
   ·cases hk
  ·cases hk
 ·rename_i g args l z he;split at hk
  ·rename_i hi;split at hk
   ·cases hk
   ·rename_i hkn;split at hk
    ·rename_i fn hfn;split at hk
     ·rename_i c hc;split at hk
      ·rename_i hdec;have hdec := of_decide_eq_true hdec;split at hk
       ·rename_i k1 hs1 hinl;cases hk;obtain ⟨xs, x1, x2, x3⟩ := den_lets hd;have hb1 := hb.ext xs;have ht1 := ht.step (hb.sxE xs);obtain ⟨hz, ps, hp, hw⟩ := opE_ok (P := D.P) hb1 ht1 o.op _ _ _ _ _ he x2 hb1.sz;refine .inr ⟨g, fn, c, args, ps, _, env ++ xs, k1, _, by rw [List.length_append, x1]; exact hinl, x3, hb1.wz (hz.append hb1.sz), hw, hb.sxE xs, hp, inlS_true hw hi, hkn, hfn, hc, ?_, hdec.2.1, hdec.2.2⟩;rw [← hw.len]; exact hdec.1
       ·cases hk
      ·cases hk
     ·cases hk
    ·cases hk
  ·rename_i hi;split at hk
   ·cases hk
   ·rename_i as bs ls l2 z2 ha;split at hk
    ·cases hk
    ·rename_i v σ' l3 z3 haf;split at hk
     ·rename_i σ'' hset;split at hk
      ·rename_i k1 hs1 hgo;cases hk;obtain ⟨xs, x1, x2, x3⟩ := den_lets hd;have hb1 := hb.ext xs;have ht1 := ht.step (hb.sxE xs);obtain ⟨hz, ps, hp, hw⟩ := opE_ok (P := D.P) hb1 ht1 o.op _ _ _ _ _ he x2 hb1.sz;obtain ⟨ys, y1, y2, y3⟩ := den_lets x3;have hb2 := hb1.ext ys;have hw2 : F2 (DWσ ((env ++ xs) ++ ys) ρ σ) args ps := hw.mono fun _ _ h => h.step (hb1.sxE ys);have hm1 : (env ++ xs).length = env.length + l.length := by rw [List.length_append, x1]
       have hm2 : ((env ++ xs) ++ ys).length = env.length + l.length + l2.length := by rw [List.length_append, y1, hm1]
       obtain ⟨hz2, hargs⟩ := argsS_ok D hb2 hw2 _ _ _ _ _ ha (by rw [hm1] at y2; exact y2) ((hz.append hb1.sz).ext ys);obtain ⟨vs, e1, e2, e3, e4⟩ := hargs.h;simp only [den] at y3;rw [e1] at y3;simp only at y3;split at y3
       ·rename_i rs' hΦ;have hA := H.phi g vs rs' hΦ;have hiP : inlP D.C g ps = false := inlP_false hA.2.1 fun h a c hm => by
         obtain ⟨a', c', hm'⟩ := args_fn D e2 hm;exact hA.1 _ hm' _ _ _ rfl
        obtain ⟨n, fn, qs, ll, us, vs', c1, c2, c3, c4, c5, c6⟩ := callP_ans hiP hA e2;obtain ⟨ws, w1, w2, w3⟩ := den_lets y3;have hlen := ans_len hA;have hm3 : (((env ++ xs) ++ ys) ++ rs').length = env.length + l.length + l2.length + resN D g := by rw [List.length_append, hm2, hlen]
        have hb4 := (hb2.ext rs').ext ws;have hfrom : From ((((env ++ xs) ++ ys) ++ rs') ++ ws) (env.length + l.length + l2.length) (us ++ vs') := fun i v hi => by
         rw [← c4] at hi;have hlt := (List.getElem?_eq_some_iff.1 hi).1;rw [List.getElem?_append_left (by rw [hm3, ← hlen]; omega), List.getElem?_append_right (by omega), hm2, Nat.add_sub_cancel_left];exact hi
        obtain ⟨hz3, q, s', ρ', g1, g2, g3⟩ := afterS_ok D hb4 c1 hargs.live hargs.lst hargs.nd hargs.ap c2 c3 hfrom c5 _ _ _ _ _ haf (by rw [hm3] at w2; exact w2) (((hz2.append ((hz.append hb1.sz).ext ys)).ext rs').ext ws);have hstep : StepA D 0 f s o.op q s' := .inr ⟨g, ps, hp, n, by rw [c6]; exact with_up g1⟩;have hx4 := (((hb.sxE xs).trans (hb1.sxE ys)).trans (hb2.sxE rs')).trans ((hb2.ext rs').sxE ws);refine .inl (opA_fin (σ' := σ') (env' := (((env ++ xs) ++ ys) ++ rs') ++ ws) (by rw [List.length_append, w1, hm3]; exact hgo) w3 (hx4.trans g2.sx) g2.n g2.rb (rt_of ((ht.step hx4).step g2.sx) g2.n g2.tm) (hz3.append (((hz2.append ((hz.append hb1.sz).ext ys)).ext rs').ext ws)) g3 hset hstep ?_);obtain ⟨c, x, a, cs, ws0, o1, o2, o3, o4, o5⟩ := opE_inv_call he;subst o5;have hi' : inlS D g (a.map Cap.w ++ ws0 ++ cs.map Cap.w) = false := by simpa using hi
        rw [o1] at hp hstep ⊢;refine bar_of hstep (cls_call D hb2 o2 o3 o4 hi' hp hiP ha hargs.lst e2) fun g' args' h => ?_;rw [hp] at h; cases h;cases hl : D.C.lent g with
        | none => exact .inr fun N bar h => callP_bar hiP hl h
        | some kk =>
         refine .inl ?_;have hcp : clsP D.C f s (.call c) = clsCall D.C s g ps := by
          simp only [pOp, o2] at hp;simp only [clsP, regOp, o2];split at hp
          ·rename_i args ha;split at hp
           ·rename_i g' a' b' hf;cases hp
            first | rfl | (rw [hf]; simp only; rw [ha])
           ·cases hp
          ·cases hp
         rw [hcp];unfold clsCall;rw [hiP, hl];rw [hl] at e2;simp only [e2];exact ⟨_, rfl⟩
       ·cases y3
      ·cases hk
     ·cases hk
 ·rename_i x args l z he;split at hk
  ·cases hk
  ·rename_i as bs l2 z2 ha;split at hk
   ·rename_i σ'' hset;split at hk
    ·rename_i k1 hs1 hgo;cases hk;obtain ⟨xs, x1, x2, x3⟩ := den_lets hd;have hb1 := hb.ext xs;have ht1 := ht.step (hb.sxE xs);obtain ⟨hz, g, a, cc, ps, v1, v2, v3, hp, hw⟩ := opE_ok (P := D.P) hb1 ht1 o.op _ _ _ _ _ he x2 hb1.sz;obtain ⟨ys, y1, y2, y3⟩ := den_lets x3;have hb2 := hb1.ext ys;have hw2 : F2 (DWσ ((env ++ xs) ++ ys) ρ σ) args ps := hw.mono fun _ _ h => h.step (hb1.sxE ys);have hm1 : (env ++ xs).length = env.length + l.length := by rw [List.length_append, x1]
     have hm2 : ((env ++ xs) ++ ys).length = env.length + l.length + l2.length := by rw [List.length_append, y1, hm1]
     obtain ⟨hz2, ⟨qs, e1, e2, e3⟩, hlive⟩ := deepsS_ok hb2 hw2 _ _ _ _ _ ha (by rw [hm1] at y2; exact y2) ((hz.append hb1.sz).ext ys);simp only [den] at y3;rw [ev_mono v1] at y3;simp only at y3;cases hV : V g with
     | false => rw [hV] at y3; cases y3
     | true =>
      rw [hV, e1] at y3;simp only at y3;split at y3
      ·rename_i r hΦ;have hA := H.phi g _ _ hΦ;obtain ⟨l1, l2', l3, fn, t, l4, l5, l6⟩ := H.v g hV;have hdT : deeps s (a ++ ps ++ cc) = some (a ++ qs ++ cc, blocks ρ bs) := by
        have := deeps_app (deeps_app (deeps_t0 (s := s) v2) e2) (deeps_t0 v3);simpa using this
       have hiP : inlP D.C g (a ++ ps ++ cc) = false := inlP_false hA.2.1 fun h a' c' hm => by
        obtain ⟨a'', c'', hm'⟩ := deeps_fns hdT hm;exact hA.1 _ hm' _ _ _ rfl
       have hlC : D.C.lent g = none := by show (D.lent g).map _ = none; rw [l1]; rfl
       have hT : argsT s (D.C.lent g) (a ++ ps ++ cc) = some (argIn D g (a ++ qs ++ cc), blocks ρ bs, []) := by
        rw [hlC];simp only [argsT, hdT, argIn, l1]
       obtain ⟨n, fn', rs', ll, us, vs', c1, c2, c3, c4, c5, c6⟩ := callP_ans hiP hA hT;rw [l4] at c1; cases c1;rw [l3] at c3;cases c3;have hfl := c5 l2' l1;have c2' := flat_outWs c2 (flat_pack c2 hfl);rw [l5] at c2';cases c2' with
       | @cons _ _ _ p0 v0 ps0 vs0 hq hnil =>
        cases hnil;rw [List.append_nil] at c4;cases c4;cases hq with
        | agg h' _ => rw [l6] at h'; cases h'
        | one _ hq =>
         cases hq with
         | tree htr =>
         have hpl : D.C.ptrs g = false := l2';have hcall : callP D.C (runP D.C n) 0 g (a ++ ps ++ cc) f.up s = some (r, f.up, s) := by
          rw [c6, hpl];simp only [List.isEmpty_nil, Bool.not_true, Bool.or_self];rw [if_neg (by simp), if_pos hfl];rfl
         have hstep : StepA D 0 f s o.op r s := .inr ⟨g, _, hp, n, hcall⟩;have hx3 := ((hb.sxE xs).trans (hb1.sxE ys)).trans (hb2.sxE [r]);refine .inl (opA_fin (σ' := σ) (env' := ((env ++ xs) ++ ys) ++ [r]) (by rw [List.length_append, hm2]; exact hgo) y3 hx3 rfl (hb2.ext [r]) (ht.step hx3) ((hz2.append ((hz.append hb1.sz).ext ys)).ext [r]) (.w (.c (.a ?_ htr (.inl rfl)))) hset hstep ?_)
         ·show (((env ++ xs) ++ ys) ++ [r])[_]? = _
          rw [List.getElem?_append_right (by omega), hm2];simp
         ·obtain ⟨c, x', o1, o2, o3, o4⟩ := opE_inv_callv he;rw [o1] at hp hstep ⊢;refine bar_of hstep (cls_callv (ws0 := args) D o2 o4 hp hiP hlC) fun g' args' h => ?_;rw [hp] at h; cases h;exact .inr fun N bar h => callP_bar hiP hlC h
      ·cases y3
    ·cases hk
   ·cases hk
end
end Go.Sym
namespace Go.Sym
open Go.Abu Go.Pev
section
variable {I : FuncId → Bool} {env env' : List PV} {ρ ρ' L L' : Nat → Option Nat} {nb nb' m : Nat} {σ : SS} {s : St} {f : PF}
variable {D : Dcf} {F : Fn} {Φ : FuncId → List PV → Option (List PV)} {V : FuncId → Bool} {N : Nat} {J : List (List PV → Option (List PV))} {κ : List SF} {κc : List CF}
def TkFin (C : Cfg) (acc : List (PC × St)) (κc : List CF) (f : PF) (s : St) (R : Out) : Tk → Prop
 | .code c => ∃ N e f' s', runP C N 0 c f s = some (e, f', s') ∧ Fin C κc e f' s' R
 | .pop e => Fin C κc e f s R
 | .ops ops rest => ∃ N f' s', opers C (runP C N) 0 ops rest f s = some (f', s') ∧ Fin C κc .normal f' s' R
 | .dops ops rest _ => ∃ N ds f' s', drawnP C (runP C N) 0 ops rest f s = some (ds, f', s') ∧ okP (Region.before ops) (acc ++ ds) = true ∧ Fin C κc .normal f' s' R
def SymOk (D : Dcf) (F : Fn) (Φ : FuncId → List PV → Option (List PV)) (V : FuncId → Bool) (N : Nat) (I : FuncId → Bool) (n : Nat) : Prop :=
 ∀ (tk : Tk) (σ : SS) (up : List SLR) (m : Nat) (κ : List SF) (jc : Nat) (hs : List Hint) (k : K) (hs' : List Hint), sym D F n tk σ up m κ jc hs = some (k, hs') →
  ∀ (J : List (List PV → Option (List PV))) (env : List PV) (ρ : Nat → Option Nat) (f : PF) (s : St) (κc : List CF) (rs : List PV) (acc : List (PC × St)), env.length = m → J.length = jc → Rb I env ρ σ s → Rtσ env ρ σ f →
   KOk D F I J env ρ (lenOf env σ) σ.nb σ.n (up.map SLR.er) (f.up.map LRec_er) κ κc → UpS env ρ (lenOf env σ) σ.nb up f.up → UpLo (loK κ) up → (∀ ops rest cs, tk = .dops ops rest cs → F2 (Rec ρ σ.nb) cs acc) → den Φ V N k J env = some rs → ∃ R, TkFin D.C acc κc f s R tk ∧ QR D F R rs
theorem upS_none : ∀ {up : List SLR} {ru : List LRec} {env : List PV} {ρ L : Nat → Option Nat} {nb : Nat}, UpS env ρ L nb up ru → upOk up = true → ru.map LRec_er = ru
 | _, _, _, _, _, _, .nil, _ => rfl
 | _, _, _, _, _, _, .cons h t, ho => by
  unfold upOk at ho;simp only [List.all_cons, Bool.and_eq_true] at ho;rw [List.map_cons, upS_none t ho.2, lrec_none (h.pd.trans (Option.isNone_iff_eq_none.1 ho.1))]
theorem Sl.refl {lo : Nat} (h : lo ≤ nb) : Sl lo env ρ L env ρ L nb := ⟨⟨[], by simp⟩, fun _ _ => rfl, fun _ _ _ h => h, h⟩
theorem both_ok {i : Nat} {x y : List Hint → Option (K × List Hint)} {hs hs' : List Hint} {k : K} {rs : List PV} (h : both i x y hs = some (k, hs')) (hd : den Φ V N k J env = some rs) :
  (∃ k1 hs1, x hs = some (k1, hs1) ∧ env[i]? = some (.v (.bool true)) ∧ den Φ V N k1 J env = some rs) ∨ ∃ k1 hs0 hs1, y hs0 = some (k1, hs1) ∧ env[i]? = some (.v (.bool false)) ∧ den Φ V N k1 J env = some rs := by
 unfold both at h;split at h
 ·rename_i k1 hs1 h1;split at h
  ·rename_i k2 hs2 h2;cases h;simp only [den] at hd;split at hd
   ·rename_i he; exact .inl ⟨k1, _, h1, he, hd⟩
   ·rename_i he; exact .inr ⟨k2, _, _, h2, he, hd⟩
   ·cases hd
  ·cases h
 ·cases h
theorem withJ_ok {n : Nat} (ih : SymOk D F Φ V N I n) {h : Hint} {jc : Nat} {up : List SLR} {hs hs' : List Hint} {body : List SF → Nat → List Hint → Option (K × List Hint)} {k : K} {rs : List PV}
  (hw : withJ h env.length jc up κ hs body (fun T hs => sym D F n (.pop .normal) (T.st σ) up (env.length + T.p) κ jc hs) = some (k, hs')) (hJ : J.length = jc) (hb : Rb I env ρ σ s) (hk : KOk D F I J env ρ (lenOf env σ) σ.nb σ.n (up.map SLR.er) (f.up.map LRec_er) κ κc) (hus : UpS env ρ (lenOf env σ) σ.nb up f.up) (hul : UpLo (loK κ) up) (hd : den Φ V N k J env = some rs) :
  ∃ κ' jc' J' κc' k' hs1 hs2, body κ' jc' hs1 = some (k', hs2) ∧ den Φ V N k' J' env = some rs ∧ J'.length = jc' ∧ KOk D F I J' env ρ (lenOf env σ) σ.nb σ.n (up.map SLR.er) (f.up.map LRec_er) κ' κc' ∧ (UpLo (loK κ') up) ∧ ∀ e f s R, Fin D.C κc' e f s R → Fin D.C κc e f s R := by
 unfold withJ at hw;split at hw
 ·exact ⟨κ, jc, J, κc, k, hs, hs', hw, hd, hJ, hk, hul, fun _ _ _ _ h => h⟩
 ·rename_i T;split at hw
  ·rename_i hok;split at hw
   ·rename_i k1 hs1 h1;split at hw
    ·rename_i d hs2 h2;cases hw;simp only [den] at hd;refine ⟨.J jc env.length T :: κ, jc + 1, _, .mark :: κc, k1, hs, hs1, h1, hd, by simp [hJ], .mark ⟨fun vs => den Φ V N d J (env ++ vs), env, ρ, lenOf env σ, σ, ?_, rfl, Sl.refl hk.lo, rfl, hb.fc, hb.sz, fun xs rs' ρ' f' s' hφ hxl hb' ht' hup hsl => ?_⟩ (hk.step (Sl.refl hk.lo) ⟨_, rfl⟩), hul, fun _ _ _ _ h => h⟩
     ·rw [List.getElem?_append_right (by omega), hJ]; simp
     ·have hup' : f'.up = f.up := by rw [hup, upS_none hus hok]
      have hk' := hk.step hsl (J' := J) ⟨[], by simp⟩;rw [← hup'] at hk' hus;obtain ⟨R, r1, r2⟩ := ih _ _ _ _ _ _ _ _ _ h2 J (env ++ xs) ρ' f' s' κc rs' [] (by rw [List.length_append, hxl]) hJ hb' ht' hk' (hus.step hul hsl) hul (fun _ _ _ e => by cases e) hφ;exact ⟨R, r1, r2⟩
    ·cases hw
   ·cases hw
  ·cases hw
theorem jump_ok {j m' n : Nat} {T : Tm} {up : List SLR} {k : K} {rs : List PV} (hj : JOk D F I J env ρ (lenOf env σ) σ.nb σ.n (f.up.map LRec_er) κ κc j m' T) (hlo : loK κ ≤ σ.nb) (hus : UpS env ρ (lenOf env σ) σ.nb up f.up) (h : jumpK j m' (loK κ) T σ up env.length = some k) (hb : Rb I env ρ σ s) (ht : Rtσ env ρ σ f) (hd : den Φ V N k J env = some rs) : ∃ R, Fin D.C κc .normal f s R ∧ QR D F R rs := by
 unfold jumpK at h;split at h
 ·rename_i hok;split at h
  ·rename_i vs l z hm;cases h;obtain ⟨xs, x1, x2, x3⟩ := den_lets hd;have hb1 := hb.ext xs;have ht1 := ht.step (hb.sxE xs);obtain ⟨φ, env0, ρ0, L0, σ0, h1, h2, h3, h4, h5, h6, h7⟩ := hj;obtain ⟨e, he⟩ := h3.env;have htake : (env ++ xs).take m' = env0 := by rw [he, List.append_assoc, List.take_left' h2]
   simp only [den] at x3;rw [h1] at x3;simp only at x3;split at x3
   ·rename_i ys hys;obtain ⟨_, hres⟩ := matchT_ok (σ0 := σ0) hb1 ht1 (by rw [List.length_append, he, List.length_append]; omega) (by rw [htake]; exact h5) (by rw [htake]; exact h6) h4.symm hlo _ _ _ _ _ hm x2 hb1.sz;obtain ⟨ρ', g1, g2, g3, g4, g5, g6⟩ := hres ys hys;rw [htake] at g1 g2 g4;refine h7 ys rs ρ' f s x3 g6 g1 g2 (upS_none hus hok).symm ⟨⟨ys, rfl⟩, fun b hb' => (g3 b hb').trans (h3.rho b hb'), fun b n hb' hn => h3.len b n hb' ?_, g5⟩;have := g4 b n hb' hn;rw [lenOf_ext hb] at this;exact this
   ·cases x3
  ·cases h
 ·cases h
theorem Rb.bump (h : Rb I env ρ σ s) : Rb I env (Sym.up ρ σ.nb s.next) σ.bump s.bump ∧ Sx env ρ (lenOf env σ) σ.nb env (Sym.up ρ σ.nb s.next) (lenOf env σ.bump) (σ.nb + 1) := by
 have hρ : ∀ c, c < σ.nb → Sym.up ρ σ.nb s.next c = ρ c := fun c hc => by unfold Sym.up; rw [if_neg (by omega)]
 have hx : Sx env ρ (lenOf env σ) σ.nb env (Sym.up ρ σ.nb s.next) (lenOf env σ.bump) (σ.nb + 1) := ⟨⟨[], by simp⟩, hρ, fun c n hc hl => hl, by omega⟩;have hlt : ∀ c, (look σ.bl c).isSome = true → c < σ.nb := fun c hc => by
  obtain ⟨sb, hs⟩ := Option.isSome_iff_exists.1 hc;exact (h.bl c sb hs).1
 refine ⟨⟨fun c sc hc => ?_, fun c c' k h1 h2 h3 h4 => ?_, fun c k h1 h2 => ?_, h.fc, h.sz, fun p hp => ?_, fun p hp => ?_, fun b hb => ?_⟩, hx⟩
 ·obtain ⟨h1, h2⟩ := h.bl c sc hc;exact ⟨by show c < σ.nb + 1; omega, DB.step (s := s) (s' := s.bump) hx h1 (fun m hm => rfl) h2⟩
 ·rw [hρ c (hlt c h1)] at h3;rw [hρ c' (hlt c' h2)] at h4;exact h.inj c c' k h1 h2 h3 h4
 ·rw [hρ c (hlt c h1)] at h2;have := h.dom c k h1 h2;show k < s.next + 1
  omega
 ·obtain ⟨h1, h2⟩ := h.le p hp;exact ⟨(hρ _ h2).trans h1, by show _ < σ.nb + 1; omega⟩
 ·obtain ⟨h1, h2⟩ := h.ld p hp;refine ⟨by show _ < s.next + 1; omega, ?_⟩
  rcases h2 with h2 | ⟨b, b1, b2, b3⟩
  ·exact .inl h2
  ·exact .inr ⟨b, b1, (hρ _ b3).trans b2, by show _ < σ.nb + 1; omega⟩
 ·obtain ⟨h1, k, h2⟩ := h.nn b hb;exact ⟨by show _ < σ.nb + 1; omega, k, (hρ _ h1).trans h2⟩
theorem initT_ok {args : List SW} {ps : List PV} (h : F2 (DW env ρ L nb) args ps) : ∀ (i t : Nat) (v : SV), look (initT i args) t = some v → ∃ p, i ≤ t ∧ ps[t - i]? = some p ∧ DV env ρ L nb v p := by
 induction h with
 | nil => intro i t v e; cases e
 | cons h tl ih =>
  intro i t v e;unfold initT at e;rw [look_cons] at e;split at e
  ·rename_i e'; cases e; subst e';exact ⟨_, Nat.le_refl _, by simp, .w h⟩
  ·rename_i hne;obtain ⟨p, h1, h2, h3⟩ := ih (i + 1) t v e;refine ⟨p, by omega, ?_, h3⟩;rw [show t - i = (t - (i + 1)) + 1 by omega]
   simpa using h2
end
end Go.Sym
namespace Go.Sym
open Go.Abu Go.Pev
section
variable {I : FuncId → Bool} {env env' : List PV} {ρ ρ' L L' : Nat → Option Nat} {nb nb' m : Nat} {σ : SS} {s : St} {f : PF}
variable {D : Dcf} {F : Fn} {Φ : FuncId → List PV → Option (List PV)} {V : FuncId → Bool} {N : Nat} {J : List (List PV → Option (List PV))} {κ : List SF} {κc : List CF}
theorem noYl_yieldP {f : PF} {op : Op} (h : noYl f op = true) : yieldP f op = none := by
 cases op with
 | call c =>
  unfold yieldP;simp only;cases hc : c.callee with
  | value x =>
   unfold noYl at h;simp only [hc] at h;simp only;cases hx : opd f x with
   | none => rfl
   | some p => cases p <;> first | rfl | (rw [hx] at h; cases h)
  | _ => rfl
 | _ => rfl
theorem operY_eq {C : Cfg} {r : PRec} {bar : Nat} {ops : Array Oper} {o : Oper} {x : PF × St} (h : oper C r bar ops o f s = some x) (hg : o.guard = none ∨ noYl f o.op = true) : Pev.operY C r bar ops o f s = some x := by
 have hn : noYl f o.op = true := by
  rcases hg with hg | hg
  ·exact noYl_op hg h
  ·exact hg
 unfold Pev.operY;rw [noYl_yieldP hn];simp only;cases o.guard with
 | none => exact h
 | some g => simp only; rw [if_pos hn]; exact h
theorem dw_yl {v : SV} {k : Nat} (h : DVσ env ρ σ v (.yl k)) : ∃ b, v = .w (.c (.yl b)) ∧ ρ b = some k := by
 cases h with
 | w h => cases h with
  | c h => cases h with
   | yl h hb => exact ⟨_, rfl, h⟩
   | a hx ht hs => rcases dc_t0 hs ht with ⟨_, e⟩ | ⟨_, e⟩ | e | ⟨_, _, _, e⟩ <;> cases e
   | pc hx hi ha hs => rcases dc_t0 hs (all_get ha hi) with ⟨_, e⟩ | ⟨_, e⟩ | e | ⟨_, _, _, e⟩ <;> cases e
theorem noYlS_ok (hb : Rb I env ρ σ s) (ht : Rtσ env ρ σ f) {op : Op} (h : noYlS σ op = true) : noYl f op = true := by
 cases op with
 | call c =>
  unfold noYlS at h;unfold noYl;simp only at h ⊢;cases hc : c.callee with
  | value x =>
   simp only [hc] at h ⊢;cases hx : opS σ x with
   | none => rw [hx] at h; cases h
   | some v =>
    rw [hx] at h;obtain ⟨p, p1, p2⟩ := opS_ok hb ht hx;rw [p1];cases p with
    | yl k =>
     obtain ⟨b, rfl, _⟩ := dw_yl p2;cases h
    | _ => rfl
  | _ => rfl
 | _ => rfl
theorem setTs_ok : ∀ {ts : List Tmp} {ws : List SW} {ps : List PV} {σ σ' : SS} {f : PF}, Rtσ env ρ σ f → F2 (DWσ env ρ σ) ws ps → setTs σ ts ws = some σ' → ∃ f', f.puts ts ps = some f' ∧ Rtσ env ρ σ' f' ∧ f'.up = f.up ∧ σ'.bl = σ.bl ∧ σ'.nb = σ.nb ∧ ∀ s, Rb I env ρ σ s → Rb I env ρ σ' s
 | [], [], _, σ, σ', f, ht, .nil, h => by cases h; exact ⟨f, rfl, ht, rfl, rfl, rfl, fun _ h => h⟩
 | t :: ts, w :: ws, _, σ, σ', f, ht, .cons (bs := bs) hw hws, h => by
  unfold setTs at h;split at h
  ·rename_i σ1 h1;obtain ⟨f1, a1, a2⟩ := ht.setT (.w hw) h1;obtain ⟨e1, e2, e3⟩ := setT_eq h1;have hws' : F2 (DWσ env ρ σ1) ws bs := by
    have := hws;unfold DWσ at this ⊢;rw [lenOf_bl e1, e2];exact this
   obtain ⟨f', b1, b2, b3, b4, b5, b6⟩ := setTs_ok a2 hws' h;exact ⟨f', by unfold PF.puts; rw [a1]; exact b1, b2, b3.trans (put_up a1), b4.trans e1, b5.trans e2, fun s hb => b6 s (hb.setT h1)⟩
  ·cases h
 | [], _ :: _, _, _, _, _, _, _, h => by cases h
 | _ :: _, [], _, _, _, _, _, _, h => by cases h
theorem yieldS_inv {op : Op} {b : Nat} {ws : Option (List SW)} (h : yieldS σ op = some (b, ws)) : ∃ c x, op = .call c ∧ c.callee = .value x ∧ opC σ x = some (.yl b) ∧ ws = opWs σ c.args.toList := by
 unfold yieldS at h;split at h
 ·rename_i c;split at h
  ·rename_i x hx;split at h
   ·rename_i b' hc;cases h;exact ⟨c, x, rfl, hx, hc, rfl⟩
   ·cases h
  ·cases h
 ·cases h
theorem pd_same {r : LRec} (h : r.pd = none) : { r with pd := pdOf .normal } = r := by
 cases r; simp only at h; subst h; rfl
theorem sym_ops (H : HypOk D Φ V) {n : Nat} (ih : SymOk D F Φ V N I n) {ops : Array Oper} {rest : List Oper} {up : List SLR} {jc : Nat} {hs hs' : List Hint} {k : K} {rs : List PV} (h : sym D F (n + 1) (.ops ops rest) σ up env.length κ jc hs = some (k, hs'))
  (hJ : J.length = jc) (hb : Rb I env ρ σ s) (ht : Rtσ env ρ σ f) (hk : KOk D F I J env ρ (lenOf env σ) σ.nb σ.n (up.map SLR.er) (f.up.map LRec_er) κ κc) (hus : UpS env ρ (lenOf env σ) σ.nb up f.up) (hul : UpLo (loK κ) up) (hd : den Φ V N k J env = some rs) : ∃ R, TkFin D.C [] κc f s R (.ops ops rest) ∧ QR D F R rs := by
 unfold sym at h;cases rest with
 | nil =>
  simp only at h;obtain ⟨R, r1, r2⟩ := ih _ _ _ _ _ _ _ _ _ h J env ρ f s κc rs [] rfl hJ hb ht hk hus hul (fun _ _ _ e => by cases e) hd;exact ⟨R, ⟨0, f, s, rfl, r1⟩, r2⟩
 | cons o os =>
  simp only at h;split at h
  ·
   rename_i b ws hy;obtain ⟨c, x, o1, o2, o3, rfl⟩ := yieldS_inv hy;split at h
   ·cases h
   ·rename_i hg;split at h
    ·cases h
    ·rename_i ws hws;split at h
     ·cases h
     ·rename_i r ups;split at h
      ·cases h
      ·rename_i hpd;split at h
       ·cases h
       ·rename_i hbq;have hbq := Nat.eq_of_beq_eq_true hbq;subst hbq;split at h
        ·rename_i σ' hset;obtain ⟨p, p1, p2⟩ := opC_ok hb ht o3;have hp : ∃ kk, p = .yl kk ∧ ρ r.b = some kk := by
          rcases p2.cell with h | ⟨_, _, _, _, e, _⟩
          ·cases h with
           | yl h _ => exact ⟨_, rfl, h⟩
          ·cases e
         obtain ⟨kk, rfl, hρ⟩ := hp;obtain ⟨ps, q1, q2⟩ := opWs_ok hb ht hws;obtain ⟨fn, fm, fup⟩ := f;cases hus with
         | @cons _ rc _ rups hr hru =>
         have hkk : rc.b = kk := by have := hr.rho; rw [hρ] at this; cases this; rfl
         have hrpd : rc.pd = none := hr.pd.trans hpd;obtain ⟨env0, ρ0, L0, t1, t2⟩ := hr.tm;have hrt : Rtσ env ρ (σ.frame r.n r.tm) ⟨rc.n, rc.m, rups⟩ := ⟨hr.n, fun t v hv => by
          obtain ⟨p, w1, w2⟩ := t1 t v hv;exact ⟨p, w1, w2.step t2⟩⟩
         obtain ⟨f0, a1, a2, a3, a4, a5, a6⟩ := setTs_ok (I := I) hrt q2 hset;have hb' : Rb I env ρ σ' s := a6 s ⟨hb.bl, hb.inj, hb.dom, hb.fc, hb.sz, hb.le, hb.ld, hb.nn⟩;have hlo := hk.lo;have hrn : r.nb ≤ σ.nb := Nat.le_trans (hul r (List.mem_cons_self ..)) hlo;have hul' : UpLo (loK κ) ups := fun q hq => hul q (List.mem_cons_of_mem _ hq);have hkb : KOk D F I J env ρ (lenOf env σ') σ'.nb σ'.n (ups.map SLR.er) (f0.up.map LRec_er) (.asn r.body :: .yl σ.nb σ.n σ.tm o.dst ops os r :: κ) (.asn rc.body :: .yl ⟨fn, fm, rc :: rups⟩ o.dst ops os rc :: κc) := by
          rw [lenOf_bl (σ := σ) a4, a5, a3, hr.body];refine .asn (.yl ht Sx.refl hlo hr hrn hpd ?_ ?_)
          ·intro q hq;rcases List.mem_cons.1 hq with rfl | hq
           ·exact hul _ (List.mem_cons_self ..)
           ·obtain ⟨q', h1, rfl⟩ := List.mem_map.1 hq;exact hul' q' h1
          ·have := hk;simp only [List.map_cons, er_none hpd, lrec_none hrpd] at this;exact this
         obtain ⟨R, ⟨M, e, f1, s1, m1, m2⟩, r2⟩ := ih _ _ _ _ _ _ _ _ _ h J env ρ f0 s _ rs [] rfl hJ hb' a2 hkb (by rw [lenOf_bl (σ := σ) a4, a5, a3]; exact hru) (hul'.mono hlo) (fun _ _ _ e => by cases e) hd;cases e with
         | exit id => exact m2.elim
         | ret => exact m2.elim
         | normal =>
          obtain ⟨M2, e2, f2, s2, m3, f3, m4, M3, f4, s4, m5, m6⟩ := m2;refine ⟨R, ⟨max M (max M2 M3), f4, s4, ?_, m6⟩, r2⟩;unfold opers;have hyp : yieldP ⟨fn, fm, rc :: rups⟩ o.op = some (kk, ps) := by
           rw [o1];unfold yieldP;simp only [o2, p1, q1, Option.map_some]
          have hround : roundP (runP D.C (max M (max M2 M3))) 0 kk ps ⟨fn, fm, rc :: rups⟩ s = some (isNormal e2, ⟨fn, fm, { rc with pd := pdOf e2 } :: f2.up⟩, s2) := by
           unfold roundP;simp only;rw [hrpd];simp only;rw [if_pos hkk, hr.ps, a1];simp only;rw [hr.assign, runP_mono (Nat.le_max_left M (max M2 M3)) _ _ _ _ _ m1];simp only;rw [runP_mono (Nat.le_trans (Nat.le_max_left M2 M3) (Nat.le_max_right M (max M2 M3))) _ _ _ _ _ m3];cases e2 with
           | normal => simp only; rw [← hr.ps, ← hr.assign, pd_same hrpd]; rfl
           | exit id => rfl
           | ret => rfl
          unfold Pev.operY;rw [hyp];simp only;rw [hg];simp only;rw [hround];simp only;rw [m4];exact opers_mono (runP_mono (Nat.le_trans (Nat.le_max_right M2 M3) (Nat.le_max_right M (max M2 M3)))) m5
        ·cases h
  ·cases hg : guardS ops σ o with
   | none => rw [hg] at h; cases h
   | some gd =>
    rw [hg] at h;cases gd with
    | ask i =>
     simp only at h;rcases both_ok h hd with ⟨k1, hs1, h1, he, hd1⟩ | ⟨k1, hs0, hs1, h1, he, hd1⟩
     ·exact ih _ _ _ _ _ _ _ _ _ h1 J env ρ f s κc rs [] rfl hJ (hb.setF he) ht hk hus hul (fun _ _ _ e => by cases e) hd1
     ·exact ih _ _ _ _ _ _ _ _ _ h1 J env ρ f s κc rs [] rfl hJ (hb.setF he) ht hk hus hul (fun _ _ _ e => by cases e) hd1
    | go b =>
     have hw := guard_ok hb ht hg;simp only at h;split at h
     ·cases h
     ·rename_i hny;have hny : o.guard = none ∨ noYl f o.op = true := by
       simp only [Bool.or_eq_true, Option.isNone_iff_eq_none] at hny;rcases hny with hny | hny
       ·exact .inl hny
       ·exact .inr (noYlS_ok hb ht hny)
      cases b with
      | false =>
       simp only at h;split at h
       ·rename_i σ' hset;obtain ⟨f', f1, f2⟩ := ht.setT (p := .tup []) (.tup .nil) hset;obtain ⟨e1, e2, e3⟩ := setT_eq hset;have eup := put_up f1;obtain ⟨R, ⟨M, f'', s'', m1, m2⟩, r2⟩ := ih _ _ _ _ _ _ _ _ _ h J env ρ f' s κc rs [] rfl hJ (hb.setT hset) f2 (by rw [lenOf_bl e1, e2, e3, eup]; exact hk) (by rw [lenOf_bl e1, e2, eup]; exact hus) hul (fun _ _ _ e => by cases e) hd;refine ⟨R, ⟨M, f'', s'', ?_, m2⟩, r2⟩;unfold opers;have : oper D.C (runP D.C M) 0 ops o f s = some (f', s) := by
         unfold oper;rw [hw];simp only;rw [f1]
        rw [operY_eq this hny];exact m1
       ·cases h
      | true =>
       simp only at h;rcases opK_ok H hb ht h hd with hA | hB
       ·obtain ⟨env', ρ', σ'', s', f', p, k1, hs1, g0, g1, g2, g3, g4, g5, g6, g7, g8, _⟩ := hA.h;have hk' := hk.step (g5.sl hk.lo) (J' := J) ⟨[], by simp⟩;rw [← g6, ← g0] at hk';obtain ⟨R, ⟨M, f'', s'', m1, m2⟩, r2⟩ := ih _ _ _ _ _ _ _ _ _ g1 J env' ρ' f' s' κc rs [] rfl hJ g3 g4 hk' (by rw [g0]; exact hus.step hul (g5.sl hk.lo)) hul (fun _ _ _ e => by cases e) g2;rcases g7 with g7 | ⟨g, args, g7, M', g9⟩
        ·refine ⟨R, ⟨M, f'', s'', ?_, m2⟩, r2⟩;unfold opers;have : oper D.C (runP D.C M) 0 ops o f s = some (f', s') := by
          unfold oper;rw [hw];simp only;rw [show D.C.P = D.P from rfl, g7]
          simp only;rw [g8]
         rw [operY_eq this hny];exact m1
        ·refine ⟨R, ⟨max M M', f'', s'', ?_, m2⟩, r2⟩;unfold opers;have : oper D.C (runP D.C (max M M')) 0 ops o f s = some (f', s') := by
          unfold oper;rw [hw];simp only;rw [show D.C.P = D.P from rfl, g7]
          simp only;rw [callP_mono (runP_mono (Nat.le_max_right M M')) g9];simp only;rw [show (PF.mk f.n f.m f.up) = f from rfl, g8]
         rw [operY_eq this hny];exact opers_mono (runP_mono (Nat.le_max_left M M')) m1
       ·obtain ⟨g, fn, c, args, ps, z, env', k1, hs1, g1, g2, g3, g4, g5, g6, g7, g8, g9, g10, g11, g12, g13⟩ := hB.h;have hinit := initT_ok g4;obtain ⟨R, ⟨M, e, f', s', m1, m2⟩, r2⟩ := ih _ _ _ _ _ _ _ _ _ g1 J env' ρ ⟨fn.ntmps, fun t => ps[t]?, f.up⟩ s (.inl f o.dst ops os fn.results.toList :: κc) rs [] rfl hJ
         ⟨g3.bl, g3.inj, g3.dom, g3.fc, g3.sz, g3.le, g3.ld, g3.nn⟩
         ⟨rfl, fun t v hv => by
          obtain ⟨p, _, p2, p3⟩ := hinit 0 t v hv;exact ⟨p, p2, p3⟩⟩
         (.inl (ht.step g5) Sx.refl hk.lo (UpLo.er.2 hul) (hk.step (g5.sl hk.lo) ⟨[], by simp⟩)) (hus.step hul (g5.sl hk.lo)) (hul.mono hk.lo) (fun _ _ _ e => by cases e) g2
        refine ⟨R, ?_, r2⟩;have hfin : ∃ l f1, resP D.C.P s' f' fn.results.toList = some l ∧ (PF.mk f.n f.m f'.up).put o.dst (packP l) = some f1 ∧ (∃ N f2 s2, opers D.C (runP D.C N) 0 ops os f1 s' = some (f2, s2) ∧ Fin D.C κc .normal f2 s2 R) ∧ (e = .normal ∨ e = .ret) := by
         cases e with
         | exit id => exact m2.elim
         | normal => obtain ⟨l, f1, q1, q2, q3⟩ := m2; exact ⟨l, f1, q1, q2, q3, .inl rfl⟩
         | ret => obtain ⟨l, f1, q1, q2, q3⟩ := m2; exact ⟨l, f1, q1, q2, q3, .inr rfl⟩
        obtain ⟨l, f1, q1, q2, ⟨M2, f2, s2, q3, q4⟩, q5⟩ := hfin;refine ⟨max M M2, f2, s2, ?_, q4⟩;have hcall : callP D.C (runP D.C M) 0 g ps f.up s = some (packP l, f'.up, s') := by
         unfold callP;rw [g7];simp only;unfold callI;rw [show D.C.kn g = D.kn g from rfl, g8]
         simp only;rw [show D.C.P = D.P from rfl, g9]
         simp only;rw [g10];simp only;rw [if_pos ⟨g11, g12, g13⟩, m1];rcases q5 with rfl | rfl
         ·simp only [endP];rw [show D.C.P = D.P from rfl] at q1
          rw [q1]
         ·simp only [endP];rw [show D.C.P = D.P from rfl] at q1
          rw [q1]
        unfold opers;have : oper D.C (runP D.C (max M M2)) 0 ops o f s = some (f1, s') := by
         unfold oper;rw [hw];simp only;rw [show D.C.P = D.P from rfl, g6]
         simp only;rw [callP_mono (runP_mono (Nat.le_max_left M M2)) hcall];simp only;rw [q2]
        rw [operY_eq this hny];exact opers_mono (runP_mono (Nat.le_max_right M M2)) q3
theorem sym_dops (H : HypOk D Φ V) {n : Nat} (ih : SymOk D F Φ V N I n) {ops : Array Oper} {rest : List Oper} {cs : List (SPC × List Nat)} {up : List SLR} {jc : Nat} {hs hs' : List Hint} {k : K} {rs : List PV} {acc : List (PC × St)} (h : sym D F (n + 1) (.dops ops rest cs) σ up env.length κ jc hs = some (k, hs'))
  (hJ : J.length = jc) (hb : Rb I env ρ σ s) (ht : Rtσ env ρ σ f) (hk : KOk D F I J env ρ (lenOf env σ) σ.nb σ.n (up.map SLR.er) (f.up.map LRec_er) κ κc) (hus : UpS env ρ (lenOf env σ) σ.nb up f.up) (hul : UpLo (loK κ) up) (hacc : F2 (Rec ρ σ.nb) cs acc) (hd : den Φ V N k J env = some rs) : ∃ R, TkFin D.C acc κc f s R (.dops ops rest cs) ∧ QR D F R rs := by
 unfold sym at h;cases rest with
 | nil =>
  simp only at h;split at h
  ·rename_i hok;obtain ⟨R, r1, r2⟩ := ih _ _ _ _ _ _ _ _ _ h J env ρ f s κc rs [] rfl hJ hb ht hk hus hul (fun _ _ _ e => by cases e) hd;exact ⟨R, ⟨0, [], f, s, rfl, by rw [List.append_nil]; exact okS_ok hacc hok, r1⟩, r2⟩
  ·cases h
 | cons o os =>
  simp only at h;cases hg : guardS ops σ o with
  | none => rw [hg] at h; cases h
  | some gd =>
   rw [hg] at h;cases gd with
   | ask i =>
    simp only at h;rcases both_ok h hd with ⟨k1, hs1, h1, he, hd1⟩ | ⟨k1, hs0, hs1, h1, he, hd1⟩
    ·exact ih _ _ _ _ _ _ _ _ _ h1 J env ρ f s κc rs acc rfl hJ (hb.setF he) ht hk hus hul (fun _ _ _ e => by cases e; exact hacc) hd1
    ·exact ih _ _ _ _ _ _ _ _ _ h1 J env ρ f s κc rs acc rfl hJ (hb.setF he) ht hk hus hul (fun _ _ _ e => by cases e; exact hacc) hd1
   | go b =>
    have hw := guard_ok hb ht hg;cases b with
    | false =>
     simp only at h;split at h
     ·rename_i σ' hset;obtain ⟨f', f1, f2⟩ := ht.setT (p := .tup []) (.tup .nil) hset;obtain ⟨e1, e2, e3⟩ := setT_eq hset;have hc : clsW D.C ops f s o = .R := by unfold clsW; rw [hw]
      have eup := put_up f1;obtain ⟨R, ⟨M, ds, f'', s'', m1, m2, m3⟩, r2⟩ := ih _ _ _ _ _ _ _ _ _ h J env ρ f' s κc rs (acc ++ [(.R, s)]) rfl hJ (hb.setT hset) f2 (by rw [lenOf_bl e1, e2, e3, eup]; exact hk) (by rw [lenOf_bl e1, e2, eup]; exact hus) hul (fun _ _ _ e => by
       cases e;rw [e2];exact hacc.append (.cons (Rec.mk' hb .R) .nil)) hd
      refine ⟨R, ⟨M, (.R, s) :: ds, f'', s'', ?_, by rw [List.append_assoc] at m2; exact m2, m3⟩, r2⟩;unfold drawnP;rw [hc];unfold oper;rw [hw];simp only;rw [f1];simp only;rw [m1]
     ·cases h
    | true =>
     simp only at h;have h : clsS D σ o.op ≠ .X ∧ opK D σ env.length o hs (fun _ _ _ _ _ _ => none) (fun σ' m' => sym D F n (.dops ops os (cs ++ [(clsS D σ o.op, σ.alive)])) σ' up m' κ jc hs) = some (k, hs') := by
      cases hcl : clsS D σ o.op <;> rw [hcl] at h <;> first | (cases h; done) | exact ⟨by simp, h⟩
     obtain ⟨hX, h⟩ := h;rcases opK_ok H hb ht h hd with hA | hB
     ·obtain ⟨env', ρ', σ'', s', f', p, k1, hs1, g0, g1, g2, g3, g4, g5, g6, g7, g8, g9⟩ := hA.h;obtain ⟨g9, g10⟩ := g9 hX;have hk' := hk.step (g5.sl hk.lo) (J' := J) ⟨[], by simp⟩;rw [← g6, ← g0] at hk';have hc : clsW D.C ops f s o = clsP D.C f s o.op := by unfold clsW; rw [hw]
      obtain ⟨R, ⟨M, ds, f'', s'', m1, m2, m3⟩, r2⟩ := ih _ _ _ _ _ _ _ _ _ g1 J env' ρ' f' s' κc rs (acc ++ [(clsP D.C f s o.op, s)]) rfl hJ g3 g4 hk' (by rw [g0]; exact hus.step hul (g5.sl hk.lo)) hul (fun _ _ _ e => by
       cases e;exact (hacc.append (.cons (Rec.mk' hb g9) .nil)).mono fun _ _ h => h.step g5.rho g5.nb) g2
      rcases g10 with g7 | ⟨g, args, g7, M', g9⟩
      ·refine ⟨R, ⟨M, (clsP D.C f s o.op, s) :: ds, f'', s'', ?_, by rw [List.append_assoc] at m2; exact m2, m3⟩, r2⟩;unfold drawnP;rw [hc];unfold oper;rw [hw];simp only;rw [show D.C.P = D.P from rfl, g7]
       simp only;rw [g8];simp only;rw [m1]
      ·refine ⟨R, ⟨max M M', (clsP D.C f s o.op, s) :: ds, f'', s'', ?_, by rw [List.append_assoc] at m2; exact m2, m3⟩, r2⟩;unfold drawnP;rw [hc];unfold oper;rw [hw];simp only;rw [show D.C.P = D.P from rfl, g7]
       simp only;rw [callP_mono (runP_mono (Nat.le_max_right M M')) g9];simp only;rw [show (PF.mk f.n f.m f.up) = f from rfl, g8]
       simp only;rw [drawnP_mono (runP_mono (Nat.le_max_left M M')) m1]
     ·obtain ⟨g, fn, c, args, ps, z, env', k1, hs1, g1, _⟩ := hB.h;cases g1
end
end Go.Sym
namespace Go.Sym
open Go.Abu Go.Pev
section
variable {I : FuncId → Bool} {env env' : List PV} {ρ ρ' L L' : Nat → Option Nat} {nb nb' m : Nat} {σ : SS} {s : St} {f : PF}
variable {D : Dcf} {F : Fn} {Φ : FuncId → List PV → Option (List PV)} {V : FuncId → Bool} {N : Nat} {J : List (List PV → Option (List PV))} {κ : List SF} {κc : List CF}
theorem evs_some_inj {as : List A} {xs ys : List PV} (h : evs env as = some xs) (k : evs env as = some ys) : xs = ys := by
 rw [h] at k; cases k; rfl
theorem sym_pop {n : Nat} (ih : SymOk D F Φ V N I n) {e : AExit} {up : List SLR} {jc : Nat} {hs hs' : List Hint} {k : K} {rs : List PV} (h : sym D F (n + 1) (.pop e) σ up env.length κ jc hs = some (k, hs'))
  (hJ : J.length = jc) (hb : Rb I env ρ σ s) (ht : Rtσ env ρ σ f) (hk : KOk D F I J env ρ (lenOf env σ) σ.nb σ.n (up.map SLR.er) (f.up.map LRec_er) κ κc) (hus : UpS env ρ (lenOf env σ) σ.nb up f.up) (hul : UpLo (loK κ) up) (hd : den Φ V N k J env = some rs) : ∃ R, TkFin D.C [] κc f s R (.pop e) ∧ QR D F R rs := by
 unfold sym at h;generalize hue : up.map SLR.er = ue at hk;generalize hre : f.up.map LRec_er = re at hk;cases hk with
 | nil =>
  simp only at h;have fin : ∀ e, e = .normal ∨ e = .ret → (match endS D F σ env.length σ.sz with | some (vs, l, _) => some (lets l (.ret vs), hs) | none => none) = some (k, hs') → ∃ R, TkFin D.C [] [] f s R (.pop e) ∧ QR D F R rs := fun e he h => by
   split at h
   ·rename_i vs l z hend;cases h;obtain ⟨xs, x1, x2, x3⟩ := den_lets hd;have hb1 := hb.ext xs;have ht1 := ht.step (hb.sxE xs);obtain ⟨_, ps, qs, l', us, bs, e1, e2, e3, e4, e5, e6⟩ := endS_ok D F hb1 ht1 _ _ _ _ _ hend x2 hb1.sz;simp only [den] at x3;exact ⟨(e, f, s), rfl, he, ps, qs, l', us, bs, e1, e2, e3, e4, evs_some_inj x3 e5, e6⟩
   ·cases h
  cases e with
  | exit id => cases h
  | normal => exact fin _ (.inl rfl) h
  | ret => exact fin _ (.inr rfl) h
 | seq hk =>
  rename_i c κ κc;subst hue; subst hre;have other : ∀ {e : AExit}, sym D F n (.pop e) σ up env.length κ jc hs = some (k, hs') → (∀ R, Fin D.C κc e f s R → Fin D.C (.seq c :: κc) e f s R) → ∃ R, TkFin D.C [] (.seq c :: κc) f s R (.pop e) ∧ QR D F R rs := fun h hf => by
   obtain ⟨R, r1, r2⟩ := ih _ _ _ _ _ _ _ _ _ h J env ρ f s κc rs [] rfl hJ hb ht hk hus hul (fun _ _ _ e => by cases e) hd;exact ⟨R, hf R r1, r2⟩
  cases e with
  | normal =>
   simp only at h;obtain ⟨R, r1, r2⟩ := ih _ _ _ _ _ _ _ _ _ h J env ρ f s κc rs [] rfl hJ hb ht hk hus hul (fun _ _ _ e => by cases e) hd;exact ⟨R, r1, r2⟩
  | exit id => exact other h fun _ h => h
  | ret => exact other h fun _ h => h
 | block hk =>
  rename_i id κ κc;subst hue; subst hre;have other : ∀ {e e' : AExit}, sym D F n (.pop e') σ up env.length κ jc hs = some (k, hs') → (∀ R, Fin D.C κc e' f s R → Fin D.C (.block id :: κc) e f s R) → ∃ R, TkFin D.C [] (.block id :: κc) f s R (.pop e) ∧ QR D F R rs := fun h hf => by
   obtain ⟨R, r1, r2⟩ := ih _ _ _ _ _ _ _ _ _ h J env ρ f s κc rs [] rfl hJ hb ht hk hus hul (fun _ _ _ e => by cases e) hd;exact ⟨R, hf R r1, r2⟩
  cases e with
  | normal => exact other h fun _ h => h
  | ret => exact other h fun _ h => h
  | exit id' =>
   simp only at h;split at h
   ·rename_i he;have he := Nat.eq_of_beq_eq_true he;exact other h fun R hR => by simp only [Fin]; rw [if_pos he]; exact hR
   ·rename_i he;have he : id' ≠ id := fun e => by rw [e, Nat.beq_refl] at he; cases he
    exact other h fun R hR => by simp only [Fin]; rw [if_neg he]; exact hR
 | mark hj hk =>
  rename_i j m' T κ κc;subst hue; subst hre;have other : ∀ {e : AExit}, sym D F n (.pop e) σ up env.length κ jc hs = some (k, hs') → ∃ R, TkFin D.C [] (.mark :: κc) f s R (.pop e) ∧ QR D F R rs := fun h => by
   obtain ⟨R, r1, r2⟩ := ih _ _ _ _ _ _ _ _ _ h J env ρ f s κc rs [] rfl hJ hb ht hk hus hul (fun _ _ _ e => by cases e) hd;exact ⟨R, r1, r2⟩
  cases e with
  | normal =>
   simp only at h;split at h
   ·rename_i k' hjmp;cases h;exact jump_ok (n := n) hj hk.lo hus hjmp hb ht hd
   ·cases h
  | exit id => exact other h
  | ret => exact other h
 | loop hj hk =>
  rename_i j m' T b κ κc;subst hue; subst hre;have other : ∀ {e : AExit}, sym D F n (.pop e) σ up env.length κ jc hs = some (k, hs') → (∀ R, Fin D.C κc e f s R → Fin D.C (.loop b :: κc) e f s R) → ∃ R, TkFin D.C [] (.loop b :: κc) f s R (.pop e) ∧ QR D F R rs := fun h hf => by
   obtain ⟨R, r1, r2⟩ := ih _ _ _ _ _ _ _ _ _ h J env ρ f s κc rs [] rfl hJ hb ht hk hus hul (fun _ _ _ e => by cases e) hd;exact ⟨R, hf R r1, r2⟩
  cases e with
  | normal =>
   simp only at h;split at h
   ·rename_i k' hjmp;cases h;exact jump_ok (n := n) hj hk.lo hus hjmp hb ht hd
   ·cases h
  | exit id => exact other h fun _ h => h
  | ret => exact other h fun _ h => h
 | inl ht0 hs0 hlo hu0 hk =>
  rename_i n' nb0 tm dst ops rest res κ κc f0 env0 ρ0 L0;subst hue; subst hre;have fin : ∀ {e : AExit}, e = .normal ∨ e = .ret → (match readS D.P σ res env.length σ.sz with
    | some (ws, l, z) => match ({ σ with n := n', tm := tm, sz := z ++ σ.sz } : SS).setT dst (packS ws) with
     | some σ' => match sym D F n (.ops ops rest) σ' up (env.length + l.length) κ jc hs with
      | some (k, hs) => some (lets l k, hs)
      | none => none
     | none => none
    | none => none) = some (k, hs') → ∃ R, TkFin D.C [] (.inl f0 dst ops rest res :: κc) f s R (.pop e) ∧ QR D F R rs := fun {e} he h => by
   split at h
   ·rename_i ws l z hr;split at h
    ·rename_i σ' hset;split at h
     ·rename_i k1 hs1 h1;cases h;obtain ⟨xs, x1, x2, x3⟩ := den_lets hd;have hb1 := hb.ext xs;have ht1 := ht.step (hb.sxE xs);obtain ⟨hz, ps, p1, p2⟩ := readS_ok (P := D.P) hb1 ht1 _ _ _ _ _ hr x2 hb1.sz;have hb2 : Rb I (env ++ xs) ρ ({ σ with n := n', tm := tm, sz := z ++ σ.sz } : SS) s := ⟨hb1.bl, hb1.inj, hb1.dom, hb1.fc, hz.append hb1.sz, hb1.le, hb1.ld, hb1.nn⟩
      have ht0' : Rtσ (env ++ xs) ρ ({ σ with n := n', tm := tm, sz := z ++ σ.sz } : SS) (PF.mk f0.n f0.m f.up) := ⟨(ht0.step (hs0.trans (hb.sxE xs))).n, (ht0.step (hs0.trans (hb.sxE xs))).tm⟩
      obtain ⟨f1, q1, q2⟩ := Rt.setT (σ := ({ σ with n := n', tm := tm, sz := z ++ σ.sz } : SS)) (env := env ++ xs) (ρ := ρ) ht0' (pack_ok p2) hset
      obtain ⟨e1, e2, e3⟩ := setT_eq hset;have eup : f1.up = f.up := put_up (f := PF.mk f0.n f0.m f.up) q1;have hk' : KOk D F I J (env ++ xs) ρ (lenOf (env ++ xs) σ') σ'.nb σ'.n (up.map SLR.er) (f1.up.map LRec_er) κ κc := by
       rw [lenOf_bl (σ := σ) e1, e2, e3, eup];exact hk.step ((hb.sxE xs).sl hk.lo) ⟨[], by simp⟩
      obtain ⟨R, r1, r2⟩ := ih _ _ _ _ _ _ _ _ _ h1 J (env ++ xs) ρ f1 s κc rs [] (by rw [List.length_append, x1]) hJ (hb2.setT hset) q2 hk' (by rw [lenOf_bl (σ := σ) e1, e2, eup]; exact hus.step hul ((hb.sxE xs).sl hs0.nb)) (UpLo.er.1 hu0) (fun _ _ _ e => by cases e) x3;refine ⟨R, ?_, r2⟩;rcases he with rfl | rfl
      ·exact ⟨ps, f1, p1, q1, r1⟩
      ·exact ⟨ps, f1, p1, q1, r1⟩
     ·cases h
    ·cases h
   ·cases h
  cases e with
  | exit id => cases h
  | normal => exact fin (.inl rfl) h
  | ret => exact fin (.inr rfl) h
 | rf ht0 hs0 hlo hu0 hk =>
  rename_i n' nb0 r' rr u ru tm κ κc f0 env0 ρ0 L0;obtain ⟨fn, fm, fup⟩ := f;cases hus with
  | nil => simp at hue
  | @cons r rc ups rups hr hru =>
  simp only [List.map_cons, List.cons.injEq] at hue hre;have hue := hue.2;have hre := hre.2;subst hue; subst hre;have hpd : rc.pd = r.pd := hr.pd;have fin : ∀ {e : AExit}, e = .normal ∨ e = .ret → sym D F n (.pop (exitOf r.pd)) (σ.frame n' tm) ups env.length κ jc hs = some (k, hs') → ∃ R, TkFin D.C [] (.rf f0 :: κc) ⟨fn, fm, rc :: rups⟩ s R (.pop e) ∧ QR D F R rs := fun {e} he h => by
   have hb2 : Rb I env ρ (σ.frame n' tm) s := ⟨hb.bl, hb.inj, hb.dom, hb.fc, hb.sz, hb.le, hb.ld, hb.nn⟩;have ht2 : Rtσ env ρ (σ.frame n' tm) ⟨f0.n, f0.m, rups⟩ := ⟨(ht0.step hs0).n, (ht0.step hs0).tm⟩;obtain ⟨R, r1, r2⟩ := ih _ _ _ _ _ _ _ _ _ h J env ρ ⟨f0.n, f0.m, rups⟩ s κc rs [] rfl hJ hb2 ht2 hk hru (UpLo.er.1 hu0) (fun _ _ _ e => by cases e) hd;refine ⟨R, ?_, r2⟩;rcases he with rfl | rfl
   ·exact ⟨rc, rups, rfl, by rw [hpd]; exact r1⟩
   ·exact ⟨rc, rups, rfl, by rw [hpd]; exact r1⟩
  cases e with
  | exit id => cases h
  | normal => exact fin (.inl rfl) h
  | ret => exact fin (.inr rfl) h
 | yl ht0 hs0 hlo hr hrn hpd hu0 hk =>
  rename_i n' nb0 r rc tm dst ops rest κ κc f0 env0 ρ0 L0;subst hue; subst hre;simp only at h;split at h
  ·rename_i σ' hset;have hb2 : Rb I env ρ (σ.frame n' tm) s := ⟨hb.bl, hb.inj, hb.dom, hb.fc, hb.sz, hb.le, hb.ld, hb.nn⟩;have ht2 : Rtσ env ρ (σ.frame n' tm) ⟨f0.n, f0.m, { rc with pd := pdOf e } :: f.up⟩ := ⟨(ht0.step hs0).n, (ht0.step hs0).tm⟩
   obtain ⟨f1, q1, q2⟩ := ht2.setT (p := .v (.bool (isNormal e))) (.w (.c (.a rfl rfl (.inl rfl)))) hset;obtain ⟨e1, e2, e3⟩ := setT_eq hset;have eup := put_up q1;have hrpd : rc.pd = none := hr.pd.trans hpd;have hr2 : RecS env ρ (lenOf env σ) σ.nb { r with pd := pdOf e } { rc with pd := pdOf e } := ⟨hr.n, hr.ps, hr.assign, hr.body, rfl, hr.rho, hr.b, hr.tm⟩
   have hk' : KOk D F I J env ρ (lenOf env σ') σ'.nb σ'.n (({ r with pd := pdOf e } :: up).map SLR.er) (f1.up.map LRec_er) κ κc := by
    rw [lenOf_bl (σ := σ) e1, e2, e3, eup];have e4 : SLR.er { r with pd := pdOf e } = r := by show r.er = r; exact er_none hpd
    have e5 : LRec_er { rc with pd := pdOf e } = rc := by show LRec_er rc = rc; exact lrec_none hrpd
    simp only [List.map_cons, e4, e5];exact hk
   have hul' : UpLo (loK κ) ({ r with pd := pdOf e } :: up) := by
    intro q hq;rcases List.mem_cons.1 hq with rfl | hq
    ·exact hu0 r (List.mem_cons_self ..)
    ·exact hu0 q.er (List.mem_cons_of_mem _ (List.mem_map.2 ⟨q, hq, rfl⟩))
   obtain ⟨R, ⟨M, f2, s2, m1, m2⟩, r2⟩ := ih _ _ _ _ _ _ _ _ _ h J env ρ f1 s κc rs [] rfl hJ (hb2.setT hset) q2 hk' (by rw [lenOf_bl (σ := σ) e1, e2, eup]; exact .cons hr2 hus) hul' (fun _ _ _ e => by cases e) hd;exact ⟨R, ⟨f1, q1, M, f2, s2, m1, m2⟩, r2⟩
  ·cases h
 | asn hk =>
  rename_i b κ κc;subst hue; subst hre;cases e with
  | normal =>
   simp only at h;obtain ⟨R, r1, r2⟩ := ih _ _ _ _ _ _ _ _ _ h J env ρ f s κc rs [] rfl hJ hb ht hk hus hul (fun _ _ _ e => by cases e) hd;exact ⟨R, r1, r2⟩
  | exit id => cases h
  | ret => cases h
 | du hu hl hk =>
  rename_i up0 ru0 κ κc;cases e with
  | normal =>
   simp only at h;obtain ⟨R, r1, r2⟩ := ih _ _ _ _ _ _ _ _ _ h J env ρ ⟨f.n, f.m, ru0⟩ s κc rs [] rfl hJ hb ⟨ht.n, ht.tm⟩ hk hu hl (fun _ _ _ e => by cases e) hd;exact ⟨R, r1, r2⟩
  | exit id => cases h
  | ret => cases h
end
end Go.Sym
namespace Go.Sym
open Go.Abu Go.Pev
section
variable {I : FuncId → Bool} {env env' : List PV} {ρ ρ' L L' : Nat → Option Nat} {nb nb' m : Nat} {σ : SS} {s : St} {f : PF}
variable {D : Dcf} {F : Fn} {Φ : FuncId → List PV → Option (List PV)} {V : FuncId → Bool} {N : Nat} {J : List (List PV → Option (List PV))} {κ : List SF} {κc : List CF}
theorem loop_step {b : Code} {f : PF} {s : St} {R : Out} (h : ∃ M e f' s', runP D.C M 0 b f s = some (e, f', s') ∧ Fin D.C (.loop b :: κc) e f' s' R) : Fin D.C (.loop b :: κc) .normal f s R := by
 obtain ⟨M, e, f', s', h1, h2⟩ := h;cases e with
 | normal =>
  obtain ⟨M2, e2, f2, s2, h3, h4⟩ := h2;refine ⟨max M M2 + 1, e2, f2, s2, ?_, h4⟩;show stepP D.C (runP D.C (max M M2)) 0 (.loop b) f s = _
  simp only [stepP];rw [runP_mono (Nat.le_max_left M M2) _ _ _ _ _ h1];exact runP_mono (Nat.le_max_right M M2) _ _ _ _ _ h3
 | exit id =>
  refine ⟨M + 1, .exit id, f', s', ?_, h2⟩;show stepP D.C (runP D.C M) 0 (.loop b) f s = _
  simp only [stepP];rw [h1]
 | ret =>
  refine ⟨M + 1, .ret, f', s', ?_, h2⟩;show stepP D.C (runP D.C M) 0 (.loop b) f s = _
  simp only [stepP];rw [h1]
theorem sym_code {n : Nat} (ih : SymOk D F Φ V N I n) {c : Code} {up : List SLR} {jc : Nat} {hs hs' : List Hint} {k : K} {rs : List PV} (h : sym D F (n + 1) (.code c) σ up env.length κ jc hs = some (k, hs'))
  (hJ : J.length = jc) (hb : Rb I env ρ σ s) (ht : Rtσ env ρ σ f) (hk : KOk D F I J env ρ (lenOf env σ) σ.nb σ.n (up.map SLR.er) (f.up.map LRec_er) κ κc) (hus : UpS env ρ (lenOf env σ) σ.nb up f.up) (hul : UpLo (loK κ) up) (hd : den Φ V N k J env = some rs) : ∃ R, TkFin D.C [] κc f s R (.code c) ∧ QR D F R rs := by
 have nd : ∀ {c : Code}, ∀ ops rest cs, Tk.code c = .dops ops rest cs → F2 (Rec ρ σ.nb) cs ([] : List (PC × St)) := fun _ _ _ e => by cases e
 have np : ∀ {e : AExit}, ∀ ops rest cs, Tk.pop e = .dops ops rest cs → F2 (Rec ρ σ.nb) cs ([] : List (PC × St)) := fun _ _ _ e => by cases e
 have step : ∀ {e : AExit}, sym D F n (.pop e) σ up env.length κ jc hs = some (k, hs') → runP D.C 1 0 c f s = some (e, f, s) → ∃ R, TkFin D.C [] κc f s R (.code c) ∧ QR D F R rs := fun h hr => by
  obtain ⟨R, r1, r2⟩ := ih _ _ _ _ _ _ _ _ _ h J env ρ f s κc rs [] rfl hJ hb ht hk hus hul np hd;exact ⟨R, ⟨1, _, f, s, hr, r1⟩, r2⟩
 unfold sym at h;cases c with
 | skip => exact step h rfl
 | label l => exact step h rfl
 | exit id => exact step h rfl
 | ret => exact step h rfl
 | scope b =>
  obtain ⟨R, ⟨M, e, f', s', m1, m2⟩, r2⟩ := ih _ _ _ _ _ _ _ _ _ h J env ρ f s κc rs [] rfl hJ hb ht hk hus hul nd hd;exact ⟨R, ⟨M + 1, e, f', s', m1, m2⟩, r2⟩
 | seq a b =>
  obtain ⟨R, ⟨M, e, f', s', m1, m2⟩, r2⟩ := ih _ _ _ _ _ _ _ _ _ h J env ρ f s (.seq b :: κc) rs [] rfl hJ hb ht (.seq hk) hus hul nd hd;refine ⟨R, ?_, r2⟩;cases e with
  | normal =>
   obtain ⟨M2, e2, f2, s2, h3, h4⟩ := m2;refine ⟨max M M2 + 1, e2, f2, s2, ?_, h4⟩;show stepP D.C (runP D.C (max M M2)) 0 (.seq a b) f s = _
   simp only [stepP];rw [runP_mono (Nat.le_max_left M M2) _ _ _ _ _ m1];exact runP_mono (Nat.le_max_right M M2) _ _ _ _ _ h3
  | exit id =>
   refine ⟨M + 1, .exit id, f', s', ?_, m2⟩;show stepP D.C (runP D.C M) 0 (.seq a b) f s = _
   simp only [stepP];rw [m1]
  | ret =>
   refine ⟨M + 1, .ret, f', s', ?_, m2⟩;show stepP D.C (runP D.C M) 0 (.seq a b) f s = _
   simp only [stepP];rw [m1]
 | region p ops draw =>
  have fops : ∀ {κ' : List SF} {κc' : List CF} {J' : List (List PV → Option (List PV))} {jc' : Nat} {hs1 hs2 : List Hint} {k' : K}, sym D F n (.ops ops ops.toList) σ up env.length κ' jc' hs1 = some (k', hs2) → J'.length = jc' → KOk D F I J' env ρ (lenOf env σ) σ.nb σ.n (up.map SLR.er) (f.up.map LRec_er) κ' κc' → UpLo (loK κ') up → den Φ V N k' J' env = some rs → (∀ e f s R, Fin D.C κc' e f s R → Fin D.C κc e f s R) → draw = false → ∃ R, TkFin D.C [] κc f s R (.code (.region p ops draw)) ∧ QR D F R rs := fun hq hJ hk hul hd hf e => by
   subst e;obtain ⟨R, ⟨M, f', s', m1, m2⟩, r2⟩ := ih _ _ _ _ _ _ _ _ _ hq _ env ρ f s _ rs [] rfl hJ hb ht hk hus hul (fun _ _ _ e => by cases e) hd;refine ⟨R, ⟨M + 1, .normal, f', s', ?_, hf _ _ _ _ m2⟩, r2⟩;show stepP D.C (runP D.C M) 0 (.region p ops false) f s = _
   simp only [stepP];rw [m1]
  have fdops : ∀ {κ' : List SF} {κc' : List CF} {J' : List (List PV → Option (List PV))} {jc' : Nat} {hs1 hs2 : List Hint} {k' : K}, sym D F n (.dops ops ops.toList []) σ [] env.length (.du up :: κ') jc' hs1 = some (k', hs2) → J'.length = jc' → KOk D F I J' env ρ (lenOf env σ) σ.nb σ.n (up.map SLR.er) (f.up.map LRec_er) κ' κc' → UpLo (loK κ') up → den Φ V N k' J' env = some rs → (∀ e f s R, Fin D.C κc' e f s R → Fin D.C κc e f s R) → draw = true → staticOk ops (Region.before ops) = true → ∃ R, TkFin D.C [] κc f s R (.code (.region p ops draw)) ∧ QR D F R rs := fun hq hJ hk hul hd hf e hst => by
   subst e;obtain ⟨R, ⟨M, ds, f', s', m1, m2, m3⟩, r2⟩ := ih _ _ _ _ _ _ _ _ _ hq _ env ρ ⟨f.n, f.m, []⟩ s (.du f.up :: _) rs [] rfl hJ hb ⟨ht.n, ht.tm⟩ (.du hus hul hk) .nil (fun r hr => by cases hr) (fun _ _ _ e => by cases e; exact .nil) hd;refine ⟨R, ⟨M + 1, .normal, ⟨f'.n, f'.m, f.up⟩, s', ?_, hf _ _ _ _ m3⟩, r2⟩;show stepP D.C (runP D.C M) 0 (.region p ops true) f s = _
   simp only [stepP, drawP];rw [if_pos hst, m1];simp only;rw [if_pos (by simpa using m2)]
  cases draw with
  | false =>
   cases hgd : hasGuard ops with
   | false =>
    simp only [hgd] at h;exact fops h hJ hk hul hd (fun _ _ _ _ h => h) rfl
   | true =>
    simp only [hgd] at h;split at h
    ·obtain ⟨κ', jc', J', κc', k', hs1, hs2, w1, w2, w3, w4, w6, w5⟩ := withJ_ok ih h hJ hb hk hus hul hd;exact fops w1 w3 w4 w6 w2 w5 rfl
    ·cases h
  | true =>
   cases hst : staticOk ops (Region.before ops) with
   | false => simp only [hst] at h; cases h
   | true =>
    cases hgd : hasGuard ops with
    | false =>
     simp only [hst, hgd] at h;exact fdops h hJ hk hul hd (fun _ _ _ _ h => h) rfl hst
    | true =>
     simp only [hst, hgd] at h;split at h
     ·obtain ⟨κ', jc', J', κc', k', hs1, hs2, w1, w2, w3, w4, w6, w5⟩ := withJ_ok ih h hJ hb hk hus hul hd;exact fdops w1 w3 w4 w6 w2 w5 rfl hst
     ·cases h
 | cond x t e =>
  simp only at h;have run : ∀ {b : Bool} {R : Out} {κc' : List CF}, opd f x = some (.v (.bool b)) → TkFin D.C [] κc' f s R (.code (if b then t else e)) → (∀ e f s R, Fin D.C κc' e f s R → Fin D.C κc e f s R) → TkFin D.C [] κc f s R (.code (.cond x t e)) := fun {b R κc'} hx ⟨M, ex, f', s', m1, m2⟩ hf => by
   refine ⟨M + 1, ex, f', s', ?_, hf _ _ _ _ m2⟩;show stepP D.C (runP D.C M) 0 (.cond x t e) f s = _
   simp only [stepP];rw [hx];exact m1
  split at h
  ·rename_i b hc;obtain ⟨p, p1, p2⟩ := opC_ok hb ht hc;have := DW.bool (.w p2);subst this;obtain ⟨R, r1, r2⟩ := ih _ _ _ _ _ _ _ _ _ h J env ρ f s κc rs [] rfl hJ hb ht hk hus hul nd hd;exact ⟨R, run p1 r1 (fun _ _ _ _ h => h), r2⟩
  ·rename_i i hc;obtain ⟨p, p1, p2⟩ := opC_ok hb ht hc;have hp : ∀ {b : Bool}, env[i]? = some (.v (.bool b)) → p = .v (.bool b) := fun {b} he => by
    rcases p2.cell with h | ⟨_, _, _, _, e', _⟩
    ·cases h with
     | a hx _ hs =>
      have hx : env[i]? = _ := hx;rw [he] at hx; cases hx;rcases hs with rfl | ⟨e', _⟩
      ·rfl
      ·cases e'
    ·cases e'
   split at h
   ·obtain ⟨κ', jc', J', κc', k', hs1, hs2, w1, w2, w3, w4, w6, w5⟩ := withJ_ok ih h hJ hb hk hus hul hd;rcases both_ok w1 w2 with ⟨k1, hs1, h1, he, hd1⟩ | ⟨k1, hs0, hs1, h1, he, hd1⟩
    ·have := hp he;subst this;obtain ⟨R, r1, r2⟩ := ih _ _ _ _ _ _ _ _ _ h1 J' env ρ f s κc' rs [] rfl w3 (hb.setF he) ht w4 hus w6 (fun _ _ _ e => by cases e) hd1;exact ⟨R, run (b := true) p1 r1 w5, r2⟩
    ·have := hp he;subst this;obtain ⟨R, r1, r2⟩ := ih _ _ _ _ _ _ _ _ _ h1 J' env ρ f s κc' rs [] rfl w3 (hb.setF he) ht w4 hus w6 (fun _ _ _ e => by cases e) hd1;exact ⟨R, run (b := false) p1 r1 w5, r2⟩
   ·cases h
  ·cases h
 | block id b =>
  simp only at h;split at h
  ·obtain ⟨κ', jc', J', κc', k', hs1, hs2, w1, w2, w3, w4, w6, w5⟩ := withJ_ok ih h hJ hb hk hus hul hd;obtain ⟨R, ⟨M, e, f', s', m1, m2⟩, r2⟩ := ih _ _ _ _ _ _ _ _ _ w1 J' env ρ f s (.block id :: κc') rs [] rfl w3 hb ht (.block w4) hus w6 (fun _ _ _ e => by cases e) w2;refine ⟨R, ?_, r2⟩;have fin : ∀ e', runP D.C (M + 1) 0 (.block id b) f s = some (e', f', s') → Fin D.C κc' e' f' s' R → TkFin D.C [] κc f s R (.code (.block id b)) := fun e' h1 h2 => ⟨M + 1, e', f', s', h1, w5 _ _ _ _ h2⟩;cases e with
   | normal =>
    refine fin .normal ?_ m2;show stepP D.C (runP D.C M) 0 (.block id b) f s = _
    simp only [stepP];rw [m1]
   | ret =>
    refine fin .ret ?_ m2;show stepP D.C (runP D.C M) 0 (.block id b) f s = _
    simp only [stepP];rw [m1]
   | exit id' =>
    simp only [Fin] at m2;by_cases he : id' = id
    ·rw [if_pos he] at m2;refine fin .normal ?_ m2;show stepP D.C (runP D.C M) 0 (.block id b) f s = _
     simp only [stepP];rw [m1];simp only;rw [if_pos he]
    ·rw [if_neg he] at m2;refine fin (.exit id') ?_ m2;show stepP D.C (runP D.C M) 0 (.block id b) f s = _
     simp only [stepP];rw [m1];simp only;rw [if_neg he]
  ·cases h
 | loop b =>
  simp only at h;split at h
  ·rename_i T hs0;split at h
   ·rename_i k0 hjmp;have hok : upOk up = true := by
     unfold jumpK at hjmp;split at hjmp
     ·assumption
     ·cases hjmp
    split at h
    ·rename_i d hs1 hbody;cases h;simp only [den] at hd;have rounds : ∀ (M : Nat) (xs rs' : List PV) (ρ' : Nat → Option Nat) (f' : PF) (s' : St), iter (fun self vs => den Φ V N d (J ++ [self]) (env ++ vs)) M xs = some rs' → xs.length = T.p → Rb I (env ++ xs) ρ' (T.st σ) s' → Rtσ (env ++ xs) ρ' (T.st σ) f' → f'.up = f.up.map LRec_er → Sl (loK κ) env ρ (lenOf env σ) (env ++ xs) ρ' (lenOf (env ++ xs) (T.st σ)) T.nb → ∃ R, Fin D.C (.loop b :: κc) .normal f' s' R ∧ QR D F R rs' := by
      intro M;induction M with
      | zero => intro xs rs' ρ' f' s' hφ; cases hφ
      | succ M ihM =>
       intro xs rs' ρ' f' s' hφ hxl hb' ht' hup hsl;have hup' : f'.up = f.up := by rw [hup, upS_none hus hok]
       simp only [iter] at hφ;have hk1 : KOk D F I (J ++ [iter (fun self vs => den Φ V N d (J ++ [self]) (env ++ vs)) M]) (env ++ xs) ρ' (lenOf (env ++ xs) (T.st σ)) (T.st σ).nb (T.st σ).n (up.map SLR.er) (f'.up.map LRec_er) κ κc := by
        rw [hup']; exact hk.step hsl ⟨_, rfl⟩
       have hjok : JOk D F I (J ++ [iter (fun self vs => den Φ V N d (J ++ [self]) (env ++ vs)) M]) (env ++ xs) ρ' (lenOf (env ++ xs) (T.st σ)) (T.st σ).nb (T.st σ).n (f'.up.map LRec_er) κ (.loop b :: κc) jc env.length T := by
        rw [hup'];exact ⟨_, env, ρ, lenOf env σ, σ, by rw [List.getElem?_append_right (by omega), hJ]; simp, rfl, hsl, rfl, hb.fc, hb.sz, ihM⟩
       obtain ⟨R, r1, r2⟩ := ih _ _ _ _ _ _ _ _ _ hbody _ (env ++ xs) ρ' f' s' (.loop b :: κc) rs' [] (by rw [List.length_append, hxl]) (by simp [hJ]) hb' ht' (.loop hjok hk1) (by rw [hup']; exact hus.step hul hsl) hul (fun _ _ _ e => by cases e) hφ;exact ⟨R, loop_step r1, r2⟩
     obtain ⟨R, r1, r2⟩ := jump_ok (J := J ++ [iter (fun self vs => den Φ V N d (J ++ [self]) (env ++ vs)) N]) (κc := .loop b :: κc) (n := n) ⟨_, env, ρ, lenOf env σ, σ, by rw [List.getElem?_append_right (by omega), hJ]; simp, rfl, Sl.refl hk.lo, rfl, hb.fc, hb.sz, rounds N⟩ hk.lo hus hjmp hb ht hd;exact ⟨R, r1, r2⟩
    ·cases h
   ·cases h
  ·cases h
 | rangeFunc x ps as bd =>
  simp only at h;split at h
  ·rename_i g fs cs hx;split at h
   ·cases h
   ·rename_i hkn;split at h
    ·rename_i fn hfn;split at h
     ·rename_i c hc;split at h
      ·rename_i hdec;obtain ⟨d1, d2, d3, d4⟩ := of_decide_eq_true hdec;obtain ⟨p, p1, p2⟩ := opC_ok hb ht hx;have hp : ∃ a b, p = .fn g a b ∧ F2 (DCap env ρ σ.nb) fs a ∧ F2 (DCap env ρ σ.nb) cs b := by
        rcases p2.cell with h | ⟨_, _, _, _, e, _⟩
        ·cases h with
         | fn h1 h2 => exact ⟨_, _, rfl, h1, h2⟩
        ·cases e
       obtain ⟨a, b, rfl, h1, h2⟩ := hp;obtain ⟨r1, r2⟩ := hb.bump;have hlo := hk.lo;have hsl : Sl (loK κ) env ρ (lenOf env σ) env (Sym.up ρ σ.nb s.next) (lenOf env σ.bump) (σ.nb + 1) := r2.sl hlo;have hargs : F2 (DW env (Sym.up ρ σ.nb s.next) (lenOf env σ.bump) (σ.nb + 1)) (fs.map Cap.w ++ [.c (.yl σ.nb)] ++ cs.map Cap.w) (a ++ [.yl s.next] ++ b) := by
        refine F2.append (F2.append ((capWs_ok h1).mono fun _ _ h => h.step r2) (.cons (.c (.yl (by unfold Sym.up; rw [if_pos rfl]) (by omega))) .nil)) ((capWs_ok h2).mono fun _ _ h => h.step r2)
       have hinit := initT_ok hargs;have hrec : RecS env (Sym.up ρ σ.nb s.next) (lenOf env σ.bump) (σ.nb + 1) ⟨σ.n, σ.tm, ps.toList, as, bd, σ.nb, σ.nb + 1, none⟩ ⟨f.n, f.m, ps.toList, as, bd, s.next, none⟩ :=
        ⟨ht.n, rfl, rfl, rfl, rfl, by unfold Sym.up; rw [if_pos rfl], Nat.lt_succ_self _, env, Sym.up ρ σ.nb s.next, lenOf env σ.bump, fun t v hv => let ⟨p, w1, w2⟩ := ht.tm t v hv; ⟨p, w1, w2.step r2⟩, Sx.refl⟩
       have hkc : KOk D F I J env (Sym.up ρ σ.nb s.next) (lenOf env σ.bump) (σ.nb + 1) fn.ntmps ((⟨σ.n, σ.tm, ps.toList, as, bd, σ.nb, σ.nb + 1, none⟩ :: up).map SLR.er) ((⟨f.n, f.m, ps.toList, as, bd, s.next, none⟩ :: f.up).map LRec_er) (.rf (σ.nb + 1) σ.n σ.tm :: κ) (.rf f :: κc) :=
        .rf (env0 := env) (ρ0 := Sym.up ρ σ.nb s.next) (L0 := lenOf env σ.bump) (ht.step r2) Sx.refl (Nat.le_trans hlo (Nat.le_succ _)) (UpLo.er.2 hul) (hk.step hsl ⟨[], by simp⟩)
       obtain ⟨R, ⟨M, e, f', s', m1, m2⟩, q2⟩ := ih _ _ _ _ _ _ _ _ _ h J env (Sym.up ρ σ.nb s.next) ⟨fn.ntmps, fun t => (a ++ [.yl s.next] ++ b)[t]?, ⟨f.n, f.m, ps.toList, as, bd, s.next, none⟩ :: f.up⟩ s.bump (.rf f :: κc) rs [] rfl hJ
        ⟨r1.bl, r1.inj, r1.dom, r1.fc, r1.sz, r1.le, r1.ld, r1.nn⟩
        ⟨rfl, fun t v hv => by
         obtain ⟨p, _, p2, p3⟩ := hinit 0 t v hv;exact ⟨p, p2, p3⟩⟩ hkc (.cons hrec (hus.step hul hsl)) (fun q hq => by
         rcases List.mem_cons.1 hq with rfl | hq
         ·exact Nat.le_refl _
         ·exact Nat.le_trans (hul q hq) (Nat.le_trans hlo (Nat.le_succ _))) (fun _ _ _ e => by cases e) hd
       refine ⟨R, ?_, q2⟩;have hfin : (e = .normal ∨ e = .ret) ∧ ∃ r rup, f'.up = r :: rup ∧ Fin D.C κc (exitOf r.pd) ⟨f.n, f.m, rup⟩ s' R := by
        cases e with
        | exit id => exact m2.elim
        | normal => exact ⟨.inl rfl, m2⟩
        | ret => exact ⟨.inr rfl, m2⟩
       obtain ⟨he, r, rup, hr1, hr2⟩ := hfin;refine ⟨M + 1, exitOf r.pd, ⟨f.n, f.m, rup⟩, s', ?_, hr2⟩;show stepP D.C (runP D.C M) 0 (.rangeFunc x ps as bd) f s = _
       have hres : fn.results.toList = [] := List.isEmpty_iff.1 d4;have hcall : callI D.C (runP D.C M) 0 g (a ++ [.yl s.next] ++ b) (⟨f.n, f.m, ps.toList, as, bd, s.next, none⟩ :: f.up) s.bump = some (packP [], f'.up, s') := by
        unfold callI;rw [show D.C.kn g = D.kn g from rfl, hkn]
        simp only;rw [show D.C.P = D.P from rfl, hfn]
        simp only;rw [hc];simp only;rw [if_pos ⟨by simp only [List.length_append, List.length_cons, List.length_nil, ← h1.len, ← h2.len]; omega, d2, d3⟩, m1, hres];rcases he with rfl | rfl <;> simp only [endP, resP]
       simp only [stepP, rangeP];rw [p1];simp only;rw [hcall, hr1];simp only;cases r.pd <;> rfl
      ·cases h
     ·cases h
    ·cases h
  ·cases h
 | _ => cases h
theorem sym_ok (H : HypOk D Φ V) : ∀ n, SymOk D F Φ V N I n
 | 0 => fun tk σ up m κ jc hs k hs' h => by unfold sym at h; cases h
 | n + 1 => by
  have ih := sym_ok H n;intro tk σ up m κ jc hs k hs' h J env ρ f s κc rs acc hm hJ hb ht hk hus hul hacc hd;subst hm;cases tk with
  | code c =>
   obtain ⟨R, r1, r2⟩ := sym_code ih h hJ hb ht hk hus hul hd;exact ⟨R, r1, r2⟩
  | pop e =>
   obtain ⟨R, r1, r2⟩ := sym_pop ih h hJ hb ht hk hus hul hd;exact ⟨R, r1, r2⟩
  | ops ops rest =>
   obtain ⟨R, r1, r2⟩ := sym_ops H ih h hJ hb ht hk hus hul hd;exact ⟨R, r1, r2⟩
  | dops ops rest cs => exact sym_dops H ih h hJ hb ht hk hus hul (hacc _ _ _ rfl) hd
end
end Go.Sym
namespace Go.Sym
open Go.Abu Go.Pev
section
variable {D : Dcf} {Φ : FuncId → List PV → Option (List PV)} {V : FuncId → Bool} {N : Nat}
def ArgsOk (D : Dcf) (g : FuncId) (vs : List PV) : Prop :=
 ∃ fn, D.P.funcs[g]? = some fn ∧ F2 (ShA D.P) (parTys D.P fn) vs ∧ ∀ v ∈ vs, ∀ h a c, v = .fn h a c → D.inl h = false
theorem outC_flat {sl : Slot} {p v : PV} (h : OutC sl p v) (hf : flat [v] = true) : p = v := by
 cases h with
 | own => cases hf
 | tree _ => rfl
theorem outCs_flat : ∀ {sl : List Slot} {ps vs : List PV}, OutCs sl ps vs → flat vs = true → ps = vs
 | _, _, _, .nil, _ => rfl
 | _, _, _, .cons (v := v) (vs := vs) h t, hf => by
  have h1 : flat [v] = true ∧ flat vs = true := by
   cases v <;> simp only [flat] at hf <;> first | (cases hf; done) | exact ⟨rfl, hf⟩
  rw [outC_flat h h1.1, outCs_flat t h1.2]
theorem outW_flat {P : Program} {t : TypeId} {sl : List Slot} {p v : PV} (h : OutW P t sl p v) (hf : flat v.cells = true) : p = v := by
 cases h with
 | agg _ k => rw [outCs_flat k hf]
 | one _ k =>
  have : v.cells = [v] := by
   have := k.t0;cases v <;> simp [Sym.t0] at this <;> rfl
  rw [this] at hf;exact outC_flat k hf
theorem outWs_flat {P : Program} : ∀ {tys : List TypeId} {sl : List (List Slot)} {ps vs : List PV}, OutWs P tys sl ps vs → (∀ v ∈ vs, flat v.cells = true) → ps = vs ∧ flatC vs = true
 | _, _, _, _, .nil, _ => ⟨rfl, rfl⟩
 | _, _, _, _, .cons h t, hf => by
  obtain ⟨h1, h2⟩ := outWs_flat t fun v hv => hf v (List.mem_cons_of_mem _ hv);have h3 := hf _ (List.mem_cons_self ..);rw [outW_flat h h3, h1];exact ⟨rfl, by simp only [flatC, h3, h2, Bool.and_self]⟩
theorem flatR_pack {P : Program} {tys : List TypeId} {sl : List (List Slot)} {ps vs : List PV} (h : OutWs P tys sl ps vs) (hf : flatC ps = true) : flatR (packP ps) = true := by
 cases h with
 | nil => rfl
 | cons h t => cases t with
  | nil =>
   have e : ∀ {p : PV}, (∀ cs, p ≠ .tup cs) → flatR p = flat p.cells := by intro p hp; cases p <;> first | rfl | exact absurd rfl (hp _)
   simp only [flatC, Bool.and_true] at hf;show flatR _ = true
   simp only [packP];rw [e (outW_tup h)];exact hf
  | cons h2 t => exact hf
theorem inst2L_len : ∀ {ps : List PV} {s : St}, (inst2L s ps).2.length = ps.length
 | [], s => rfl
 | p :: ps, s => by
  simp only [inst2L, List.length_cons];rw [inst2L_len]
theorem argIn_len (g : FuncId) (vs : List PV) : (argIn D g vs).length = vs.length := by
 unfold argIn;split
 ·rfl
 ·split <;> simp
theorem rb_first {I : FuncId → Bool} {env : List PV} (n : Nat) : Rb I env (fun _ => none) (SS.first n) St.empty := by
 refine ⟨?_, ?_, ?_, ?_, ?_, ?_, ?_, ?_⟩
 ·intro b sb hb; cases hb
 ·intro b b' k hb; cases hb
 ·intro b k hb; cases hb
 ·intro p hp; cases hp
 ·intro p hp; cases hp
 ·intro p hp; cases hp
 ·intro p hp; cases hp
 ·intro p hp; cases hp
theorem symF_ok (H : HypOk D Φ V) {fuel : Nat} {g : FuncId} {hs : List Hint} {k : K} (h : symF D fuel g hs = some k) {vs rs : List PV} (ha : ArgsOk D g vs) (hd : den Φ V N k [] vs = some rs) : Ans D g vs rs := by
 unfold symF at h;split at h
 ·cases h
 ·rename_i hkn;simp only [Bool.or_eq_false_iff] at hkn;obtain ⟨fn, hfn, hsh, hni⟩ := ha;rw [hfn] at h;simp only at h;split at h
  ·rename_i c hc;split at h
   ·rename_i hdec;have hdec := of_decide_eq_true hdec;obtain ⟨d1, d2, d3, d4⟩ := hdec;split at h
    ·rename_i ws σ l z hen;split at h
     ·rename_i hnb;have hnb := Nat.eq_of_beq_eq_true hnb;split at h
      ·rename_i k0 _ hsym;cases h;have hlen : vs.length = paramN fn := by
        rw [← hsh.len];simp [parTys, paramN]
       obtain ⟨xs, x1, x2, x3⟩ := den_lets hd;have hb0 : Rb (fun _ => false) (vs ++ xs) (fun _ => none) (SS.first fn.ntmps) St.empty := rb_first _;have hfrom : From (vs ++ xs) 0 vs := fun i v hi => by
        rw [Nat.zero_add, List.getElem?_append_left (List.getElem?_eq_some_iff.1 hi).1]; exact hi
       obtain ⟨hz, ρ', e1, e2, e3⟩ := entryWs_ok D (D.lent g) hb0 rfl hfrom hsh _ _ _ _ _ hen (by rw [hlen] at x2; exact x2) (fun p hp => by cases hp);rw [argIn_eq] at e1 e2 e3;have hinit := initT_ok e3;have hrb : Rb (fun _ => false) (vs ++ xs) ρ' ({ σ with tm := initT 0 ws, sz := z } : SS) (inst2L St.empty (argIn D g vs)).1 := ⟨e1.rb.bl, e1.rb.inj, e1.rb.dom, e1.rb.fc, hz, e1.rb.le, e1.rb.ld, e1.rb.nn⟩
       have hn : σ.n = fn.ntmps := e1.n;obtain ⟨R, ⟨M, e, f', s', m1, m2⟩, q1, ps, qs, l', us, bs, q2, q3, q4, q5, q6, q7⟩ := sym_ok (D := D) (F := fnS D g fn) (N := N) (I := fun _ => false) H fuel (.code c) _ [] _ [] 0 hs k0 _ hsym [] (vs ++ xs) ρ' ⟨fn.ntmps, fun t => (inst2L St.empty (argIn D g vs)).2[t]?, []⟩ _ [] rs []
        (by rw [List.length_append, hlen, x1]) rfl hrb ⟨hn.symm, fun t v hv => by
         obtain ⟨p, _, p2, p3⟩ := hinit 0 t v hv;exact ⟨p, p2, p3⟩⟩ .nil .nil (fun r hr => by cases hr) (fun _ _ _ e => by cases e) x3
       cases m2;refine ⟨hni, hkn.2, M, fn, qs, l', us, bs, hfn, ?_, q4, q5, q6, fun h1 h2 => ?_⟩
       ·unfold callT;rw [show D.C.kn g = D.kn g from rfl, hkn.1]
        simp only;have hcall : callI D.C (runP D.C M) 0 g (inst2L St.empty (argIn D g vs)).2 [] (inst2L St.empty (argIn D g vs)).1 = some (packP ps, f'.up, s') := by
         unfold callI;rw [show D.C.kn g = D.kn g from rfl, hkn.1]
         simp only;rw [show D.C.P = D.P from rfl, hfn]
         simp only;rw [hc];simp only;have hal : (inst2L St.empty (argIn D g vs)).2.length ≤ fn.ntmps := by
          rw [inst2L_len, argIn_len, hlen]; exact d1
         rw [if_pos ⟨hal, d2, d3⟩, m1];rcases q1 with rfl | rfl
         ·simp only [endP];rw [show fn.results.toList = (fnS D g fn).res from rfl, q2]
         ·simp only [endP];rw [show fn.results.toList = (fnS D g fn).res from rfl, q2]
        rw [hcall];simp only;have hnext : (inst2L St.empty (argIn D g vs)).1.next = (D.bk g).length := by rw [← hnb]; exact e2
        rw [hnext];exact q3
       ·have hfl : (fnS D g fn).flat = true := by
         show (!D.ptrs g && (D.lent g).isNone) = true
         rw [h1, h2]; rfl
        obtain ⟨w1, w2⟩ := outWs_flat q4 (q7 hfl);rw [w1] at q4 ⊢;exact flatR_pack q4 w2
      ·cases h
     ·cases h
    ·cases h
   ·cases h
  ·cases h
end
end Go.Sym
namespace Go.Sym
open Go.Abu Go.Pev
section
variable {D : Dcf}
theorem outC_det {sl : Slot} {p v v' : PV} (h : OutC sl p v) (k : OutC sl p v') : v = v' := by
 cases h with
 | own => cases k; rfl
 | tree _ => cases k; rfl
theorem outCs_det : ∀ {sl : List Slot} {ps vs vs' : List PV}, OutCs sl ps vs → OutCs sl ps vs' → vs = vs'
 | _, _, _, _, .nil, k => by cases k; rfl
 | _, _, _, _, .cons h t, k => by
  cases k with
  | cons h' t' => rw [outC_det h h', outCs_det t t']
theorem outW_det {P : Program} {t : TypeId} {sl : List Slot} {p v v' : PV} (h : OutW P t sl p v) (k : OutW P t sl p v') : v = v' := by
 cases h with
 | agg h1 h2 => cases k with
  | agg _ k2 => rw [outCs_det h2 k2]
  | one k1 _ => rw [h1] at k1; cases k1
 | one h1 h2 => cases k with
  | agg k1 _ => rw [h1] at k1; cases k1
  | one _ k2 => exact outC_det h2 k2
theorem outWs_det {P : Program} : ∀ {tys : List TypeId} {sl : List (List Slot)} {ps vs vs' : List PV}, OutWs P tys sl ps vs → OutWs P tys sl ps vs' → vs = vs'
 | _, _, _, _, _, .nil, k => by cases k; rfl
 | _, _, _, _, _, .cons h t, k => by
  cases k with
  | cons h' t' => rw [outW_det h h', outWs_det t t']
theorem outWs_plen {P : Program} {tys : List TypeId} {sl : List (List Slot)} {ps vs : List PV} (h : OutWs P tys sl ps vs) : ps.length = tys.length := by
 induction h with
 | nil => rfl
 | cons _ _ ih => simp [ih]
theorem outB_det : ∀ {fl : List Bool} {l : List (Option (List (List PV)))} {vs vs' : List PV}, OutB fl l vs → OutB fl l vs' → vs = vs'
 | _, _, _, _, .nil, k => by cases k; rfl
 | _, _, _, _, .back h, k => by
  cases k with
  | back h' => rw [outB_det h h']
 | _, _, _, _, .gone h, k => by
  cases k with
  | gone h' => exact outB_det h h'
theorem pack_inj {ps qs : List PV} (hl : ps.length = qs.length) (h : packP ps = packP qs) : ps = qs := by
 cases ps with
 | nil => cases qs with
  | nil => rfl
  | cons => simp at hl
 | cons p ps => cases ps with
  | nil => cases qs with
   | nil => simp at hl
   | cons q qs => cases qs with
    | nil => simp only [packP] at h; rw [h]
    | cons => simp at hl
  | cons p2 ps => cases qs with
   | nil => simp at hl
   | cons q qs => cases qs with
    | nil => simp at hl
    | cons q2 qs => simp only [packP] at h; cases h; rfl
theorem ans_det {g : FuncId} {vs rs rs' : List PV} (h : Ans D g vs rs) (k : Ans D g vs rs') : rs = rs' := by
 obtain ⟨_, _, n, fn, ps, l, us, bs, h1, h2, h3, h4, rfl, _⟩ := h;obtain ⟨_, _, n', fn', ps', l', us', bs', k1, k2, k3, k4, rfl, _⟩ := k;rw [h1] at k1; cases k1;have e := callT_mono (runP_mono (Nat.le_max_left n n')) h2;rw [callT_mono (runP_mono (Nat.le_max_right n n')) k2] at e;simp only [Option.some.injEq, Prod.mk.injEq] at e;obtain ⟨e1, e2⟩ := e;have e1 := pack_inj ((outWs_plen k3).trans (outWs_plen h3).symm) e1;subst e1; subst e2;rw [outWs_det h3 k3, outB_det h4 k4]
open Classical in
def PhiS (D : Dcf) : FuncId → List PV → Option (List PV) := fun g vs => if h : ∃ rs, Ans D g vs rs then some (Classical.choose h) else none
theorem phi_eq {g : FuncId} {vs rs : List PV} (h : Ans D g vs rs) : PhiS D g vs = some rs := by
 unfold PhiS;rw [dif_pos ⟨rs, h⟩];exact congrArg some (ans_det (Classical.choose_spec (⟨rs, h⟩ : ∃ rs, Ans D g vs rs)) h)
def VS (D : Dcf) (g : FuncId) : Bool := (D.lent g).isNone && !D.ptrs g && (D.bk g).isEmpty && (match D.P.funcs[g]? with
 | some fn => match fn.resultTypes.toList with
  | [t] => match isAggT D.P t with
   | some false => true
   | _ => false
  | _ => false
 | none => false)
theorem VS_ok {g : FuncId} (h : VS D g = true) : D.lent g = none ∧ D.ptrs g = false ∧ D.bk g = [] ∧ ∃ fn t, D.P.funcs[g]? = some fn ∧ fn.resultTypes.toList = [t] ∧ isAggT D.P t = some false := by
 unfold VS at h;simp only [Bool.and_eq_true, Option.isNone_iff_eq_none, Bool.not_eq_true', List.isEmpty_iff] at h;obtain ⟨⟨⟨h1, h2⟩, h3⟩, h4⟩ := h;refine ⟨h1, h2, h3, ?_⟩;split at h4
 ·rename_i fn hfn;split at h4
  ·rename_i t ht;split at h4
   ·rename_i ha;exact ⟨fn, t, hfn, ht, ha⟩
   ·cases h4
  ·cases h4
 ·cases h4
theorem hypS (D : Dcf) : HypOk D (PhiS D) (VS D) where
 phi := fun g vs rs h => by
  unfold PhiS at h;split at h
  ·rename_i he;cases h;exact Classical.choose_spec he
  ·cases h
 v := fun _ h => VS_ok h
inductive Sh where
 | c
 | g
 | f
 deriving Inhabited
def shOf (P : Program) (t : TypeId) : Sh := match isAggT P t with
 | some true => .g
 | _ => if isFn P t then .f else .c
def shs (D : Dcf) (g : FuncId) : Option (List Sh) := (D.P.funcs[g]?).map fun fn => (parTys D.P fn).map (shOf D.P)
def shB (D : Dcf) : Sh → PV → Bool
 | .c, p => t0 p
 | .g, .agg cs => cs.all t0
 | .f, .fn h a c => !D.inl h && a.all t0 && c.all t0
 | _, _ => false
def shBs (D : Dcf) : List Sh → List PV → Bool
 | [], [] => true
 | s :: ss, p :: ps => shB D s p && shBs D ss ps
 | _, _ => false
theorem shB_ok {t : TypeId} {p : PV} (h : shB D (shOf D.P t) p = true) : ShA D.P t p ∧ ∀ g a c, p = .fn g a c → D.inl g = false := by
 unfold shOf at h;unfold ShA;cases ha : isAggT D.P t with
 | some b =>
  rw [ha] at h;cases b with
  | true =>
   simp only at h ⊢;cases p <;> simp only [shB] at h <;> first | (cases h; done) | exact ⟨⟨_, rfl, h⟩, fun _ _ _ e => by cases e⟩
  | false =>
   simp only at h ⊢;cases hf : isFn D.P t with
   | true =>
    rw [hf] at h;simp only [if_true] at h ⊢;cases p <;> simp only [shB] at h <;> try (cases h; done)
    rename_i g a c;simp only [Bool.and_eq_true, Bool.not_eq_true'] at h;exact ⟨⟨g, a, c, rfl, h.1.2, h.2⟩, fun _ _ _ e => by cases e; exact h.1.1⟩
   | false =>
    rw [hf] at h;simp only [Bool.false_eq_true, if_false, shB] at h ⊢;exact ⟨h, fun _ _ _ e => by subst e; simp [t0] at h⟩
 | none =>
  rw [ha] at h;simp only at h ⊢;cases hf : isFn D.P t with
  | true =>
   rw [hf] at h;simp only [if_true] at h ⊢;cases p <;> simp only [shB] at h <;> try (cases h; done)
   rename_i g a c;simp only [Bool.and_eq_true, Bool.not_eq_true'] at h;exact ⟨⟨g, a, c, rfl, h.1.2, h.2⟩, fun _ _ _ e => by cases e; exact h.1.1⟩
  | false =>
   rw [hf] at h;simp only [Bool.false_eq_true, if_false, shB] at h ⊢;exact ⟨h, fun _ _ _ e => by subst e; simp [t0] at h⟩
theorem shBs_ok : ∀ {tys : List TypeId} {ps : List PV}, shBs D (tys.map (shOf D.P)) ps = true → F2 (ShA D.P) tys ps ∧ ∀ v ∈ ps, ∀ h a c, v = .fn h a c → D.inl h = false
 | [], [], _ => ⟨.nil, fun v hv => by cases hv⟩
 | t :: tys, p :: ps, h => by
  simp only [List.map_cons, shBs, Bool.and_eq_true] at h;obtain ⟨h1, h2⟩ := shB_ok h.1;obtain ⟨h3, h4⟩ := shBs_ok h.2;refine ⟨.cons h1 h3, fun v hv => ?_⟩;rcases List.mem_cons.1 hv with rfl | hv
  ·exact h2
  ·exact h4 v hv
 | [], _ :: _, h => by simp [shBs] at h
 | _ :: _, [], h => by simp [shBs] at h
theorem args_ok {g : FuncId} {ss : List Sh} {vs : List PV} (hs : shs D g = some ss) (h : shBs D ss vs = true) : ArgsOk D g vs := by
 unfold shs at hs;rw [Option.map_eq_some_iff] at hs;obtain ⟨fn, h1, rfl⟩ := hs;obtain ⟨h2, h3⟩ := shBs_ok h;exact ⟨fn, h1, h2, h3⟩
theorem ans_of {g : FuncId} {ss : List Sh} {vs rs : List PV} {fuel : Nat} {hs : List Hint} {k : K} (hk : symF D fuel g hs = some k) (hs : shs D g = some ss) (ha : shBs D ss vs = true) (hd : ∃ N, den (PhiS D) (VS D) N k [] vs = some rs) : Ans D g vs rs := by
 obtain ⟨N, hd⟩ := hd;exact symF_ok (hypS D) hk (args_ok hs ha) hd
def PhiC (D : Dcf) (tab : FuncId → Option (K × List Sh)) (V : FuncId → Bool) (N : Nat) : Nat → FuncId → List PV → Option (List PV)
 | 0 => fun _ _ => none
 | n + 1 => fun g vs => match tab g with
  | some (k, ss) => match shBs D ss vs with
   | true => den (PhiC D tab V N n) V N k [] vs
   | false => none
  | none => none
def TabOk (D : Dcf) (tab : FuncId → Option (K × List Sh)) : Prop := ∀ g k ss, tab g = some (k, ss) → (∃ fuel hs, symF D fuel g hs = some k) ∧ shs D g = some ss
theorem TabOk.look {l : List (Nat × (K × List Sh))} (h : ∀ p ∈ l, (∃ fuel hs, symF D fuel p.1 hs = some p.2.1) ∧ shs D p.1 = some p.2.2) : TabOk D (Sym.look l) := fun g k ss hk => h _ (look_mem hk)
theorem phiC_ok {tab : FuncId → Option (K × List Sh)} (ht : TabOk D tab) {V : FuncId → Bool} (hV : ∀ g, V g = true → VS D g = true) {N : Nat} : ∀ n, HypOk D (PhiC D tab V N n) V
 | 0 => by
  refine ⟨fun g vs rs h => ?_, fun g h => VS_ok (hV g h)⟩;cases h
 | n + 1 => by
  refine ⟨fun g vs rs h => ?_, fun g h => VS_ok (hV g h)⟩;unfold PhiC at h;split at h
  ·rename_i k ss hk;split at h
   ·rename_i hs;obtain ⟨⟨fuel, hh, h1⟩, h2⟩ := ht g k ss hk;exact symF_ok (phiC_ok ht hV n) h1 (args_ok h2 hs) h
   ·cases h
  ·cases h
theorem ans_c {tab : FuncId → Option (K × List Sh)} (ht : TabOk D tab) {V : FuncId → Bool} (hV : ∀ g, V g = true → VS D g = true) {N n : Nat} {g : FuncId} {vs rs : List PV} (h : PhiC D tab V N n g vs = some rs) : Ans D g vs rs := (phiC_ok ht hV n).phi g vs rs h
end
end Go.Sym
namespace Go.Sym
open Go.Abu Go.Pev
def memN : List Nat → Nat → Bool
 | [], _ => false
 | a :: l, i => match Nat.beq a i with
  | true => true
  | false => memN l i
def hasPtr (P : Program) : List TypeId → Bool
 | [] => false
 | t :: ts => match P.info? t with
  | some i => match i.hasPointers with
   | true => true
   | false => hasPtr P ts
  | none => hasPtr P ts
def mkD (P : Program) (inl : List Nat) (lent : List (Nat × (Nat × List Slot))) (slots : List (Nat × List (List Slot))) (bk : List (Nat × List Bool)) : Dcf where
 P := P
 kn := fun _ => false
 X := fun _ _ => none
 inl := memN inl
 ptrs := fun g => match P.funcs[g]? with | some fn => hasPtr P fn.resultTypes.toList | none => false
 lent := look lent
 slots := fun g => match look slots g with
  | some l => l
  | none => match P.funcs[g]? with | some fn => fn.resultTypes.toList.map fun _ => [] | none => []
 bk := fun g => match look bk g with
  | some l => l
  | none => []
end Go.Sym
namespace Go.Sym
open Go.Abu Go.Pev
inductive Ct0 where
 | b
 | i (k : IntKind)
 | s
inductive Ct where
 | p (c : Ct0)
 | sl (es : List Ct0)
def flat0 : List Ct → Option (List Ct0)
 | [] => some []
 | .p c :: l => match flat0 l with
  | some cs => some (c :: cs)
  | none => none
 | .sl _ :: _ => none
def ctFs (P : Program) (rec : TypeId → Option (List Ct)) : Nat → List Field → Option (List Ct)
 | _, [] => some []
 | o, f :: fs => match Nat.beq f.offset o with
  | true => match rec f.type with
   | some c => match Nat.beq c.length (P.cellsOf f.type) with
    | true => match ctFs P rec (o + c.length) fs with
     | some l => some (c ++ l)
     | none => none
    | false => none
   | none => none
  | false => none
def cts (P : Program) : Nat → TypeId → Option (List Ct)
 | 0, _ => none
 | n + 1, t => match P.underlying t with
  | some .bool => some [.p .b]
  | some (.int k) => some [.p (.i k)]
  | some .string => some [.p .s]
  | some (.slice e) => match cts P n e with
   | some es => match flat0 es with
    | some es0 => match Nat.beq es.length (P.cellsOf e) with
     | true => match Nat.ble 1 es.length with
      | true => some [.sl es0]
      | false => none
     | false => none
    | none => none
   | none => none
  | some (.struct fs) => match ctFs P (cts P n) 0 fs.toList with
   | some l => match Nat.beq l.length (P.cellsOf t) with
    | true => some l
    | false => none
   | none => none
  | _ => none
def CtV0 : Ct0 → PV → Prop
 | .b, p => ∃ x : Bool, p = .v (.bool x)
 | .i k, p => ∃ x : Int, p = .v (.int k x) ∧ (Lit.int k x).wf = true
 | .s, p => ∃ s : ByteArray, p = .v (.string s) ∧ s.size ≤ maxLen
def CtV : Ct → PV → Prop
 | .p c, p => CtV0 c p
 | .sl es, p => ∃ els, p = .sl els ∧ els.length ≤ maxLen ∧ ∀ c ∈ els, F2 CtV0 es c
theorem flat0_append {a b : List Ct} : ∀ {c : List Ct0}, flat0 (a ++ b) = some c → ∃ x y, flat0 a = some x ∧ flat0 b = some y := by
 induction a with
 | nil => exact fun h => ⟨_, _, rfl, h⟩
 | cons k l ih =>
  intro c h;cases k with
  | sl _ => cases h
  | p k =>
   simp only [List.cons_append, flat0] at h;split at h
   ·rename_i cs hcs;obtain ⟨x, y, h1, h2⟩ := ih hcs;exact ⟨k :: x, y, by simp only [flat0, h1], h2⟩
   ·cases h
theorem CtV0.plain {k : Ct0} {p : PV} (h : CtV0 k p) : ∃ x, p = .v x ∧ plain1 x = true := by
 cases k with
 | b => obtain ⟨x, rfl⟩ := h; exact ⟨_, rfl, rfl⟩
 | i k => obtain ⟨x, rfl, _⟩ := h; exact ⟨_, rfl, rfl⟩
 | s => obtain ⟨x, rfl, _⟩ := h; exact ⟨_, rfl, rfl⟩
theorem flat_vals {H : AH} {F : Nat → Prop} {φ : Ren} : ∀ {ks : List Ct} {k0 : List Ct0} {qs : List PV} {as cs : List Value}, flat0 ks = some k0 → F2 CtV ks qs → RTs H F as qs → VRs φ cs as → F2 CtV0 k0 qs ∧ qs = cs.map PV.v ∧ cs.all plain1 = true
 | [], _, _, _, _, h, .nil, hr, hv => by
  cases h; cases hr; cases hv;exact ⟨.nil, rfl, rfl⟩
 | .sl _ :: _, _, _, _, _, h, _, _, _ => by cases h
 | .p k :: ks, k0, _, _, _, h, .cons h1 t, hr, hv => by
  simp only [flat0] at h;split at h
  ·rename_i k1 hk;cases h;cases hr with
   | cons r1 rt =>
    cases hv with
    | cons v1 vt =>
     obtain ⟨a1, a2, a3⟩ := flat_vals hk t rt vt;have h1' : CtV0 k _ := h1;obtain ⟨x, rfl, hp⟩ := CtV0.plain h1';cases r1 with
     | v hp' =>
      have e := plain1_eq v1 hp;subst e;exact ⟨.cons h1 a1, by rw [a2]; rfl, by simp only [List.all_cons, hp, a3, Bool.and_self]⟩
  ·cases h
def RSt (W : World) (φ : Ren) (H : AH) : Prop := Sim φ H H.next W.heap.size W
def KpA (H H' : AH) : Prop := H.next ≤ H'.next ∧ ∀ b, b < H.next → H'.get b = H.get b
theorem KpA.refl (H : AH) : KpA H H := ⟨Nat.le_refl _, fun _ _ => rfl⟩
theorem KpA.trans {H H₁ H₂ : AH} (h : KpA H H₁) (k : KpA H₁ H₂) : KpA H H₂ := ⟨Nat.le_trans h.1 k.1, fun b hb => (k.2 b (Nat.lt_of_lt_of_le hb h.1)).trans (h.2 b hb)⟩
theorem KpA.keep {H H' : AH} (h : KpA H H') : Keep H (fun b => b < H.next) H' (fun b => b < H'.next) := ⟨fun _ hb => Nat.lt_of_lt_of_le hb h.1, fun b hb => h.2 b hb⟩
def OkC (W : World) (cs : List Value) : Prop := ∀ a l, Value.slice (some a) l 0 ∈ cs → a.spot = none ∧ a.block < W.heap.size
def Rd (W : World) (φ : Ren) (H : AH) (ks : List Ct) (cs : List Value) : Prop :=
 ∃ φ' H' as qs, RSt W φ' H' ∧ φ.le φ' ∧ KpA H H' ∧ VRs φ' cs as ∧ RTs H' (fun b => b < H'.next) as qs ∧ F2 CtV ks qs
def newH (H : AH) (o : AObj) : AH := { next := H.next + 1, m := fun x => if x = H.next then some o else H.m x }
theorem new_ok {W : World} {φ : Ren} {H : AH} {o : AObj} {r : RB} (h : RSt W φ H) (hr : r.c < W.heap.size) (ho : ObjR W.heap.size (upd φ H.next r) r W o) :
  RSt W (upd φ H.next r) (newH H o) ∧ φ.le (upd φ H.next r) ∧ KpA H (newH H o) ∧ upd φ H.next r H.next = some r ∧ (newH H o).get H.next = some o := by
 have hle : φ.le (upd φ H.next r) := fun b r' hb => by
  have := h.lt b r' hb;unfold upd;rw [if_neg (by omega)];exact hb
 have hg : ∀ b, (newH H o).get b = if b = H.next then some o else H.get b := fun b => rfl
 have hφ : ∀ b r', upd φ H.next r b = some r' → (b = H.next ∧ r' = r) ∨ (b ≠ H.next ∧ φ b = some r') := fun b r' hb => by
  unfold upd at hb;split at hb
  ·rename_i e; cases hb; exact .inl ⟨e, rfl⟩
  ·rename_i e; exact .inr ⟨e, hb⟩
 have hlt : ∀ b r', upd φ H.next r b = some r' → b < (newH H o).next := fun b r' hb => by
  show b < H.next + 1
  rcases hφ b r' hb with ⟨rfl, _⟩ | ⟨_, hb⟩
  ·omega
  ·have := h.lt b r' hb; omega
 refine ⟨⟨Nat.le_refl _, Nat.le_refl _, hlt, ?_, ?_, ?_, Nat.le_refl _, ?_⟩, hle, ⟨Nat.le_succ _, fun b hb => by rw [hg, if_neg (by omega)]⟩, by unfold upd; rw [if_pos rfl], by rw [hg, if_pos rfl]⟩
 ·intro b r' o' hb ho';rw [hg] at ho';rcases hφ b r' hb with ⟨rfl, rfl⟩ | ⟨hne, hb⟩
  ·rw [if_pos rfl] at ho'; cases ho'; exact ho
  ·rw [if_neg hne] at ho';exact (h.obj b r' o' hb ho').frame hle rfl
 ·intro b b' r₁ r₂ h1 h2 _ _ hb;have := hlt b r₁ h1;omega
 ·intro b r' h1 hb;have := hlt b r' h1;omega
 ·intro b r' hb;rcases hφ b r' hb with ⟨rfl, rfl⟩ | ⟨hne, hb⟩
  ·exact hr
  ·exact h.cur b r' hb
theorem add_add {a : Addr} (h : a.spot = none) (x y : Nat) : (a.add x).add y = a.add (x + y) := by
 unfold Addr.add;by_cases hx : x = 0
 ·subst hx; simp
 ·by_cases hy : y = 0
  ·subst hy; simp
  ·rw [if_neg hx, if_neg hy, if_neg (by omega)];simp only [Nat.add_assoc]
theorem add_none {a : Addr} (h : a.spot = none) (x : Nat) : a.add x = ⟨a.block, a.off + x, none⟩ := by
 unfold Addr.add;split
 ·rename_i e; subst e;cases a; simp only at h; subst h; rfl
 ·rfl
theorem cells_get {w : World} {base : Nat} {a : Addr} {n : Nat} {cs : List Value} (h : w.cells? base a n = some cs) : cs.length = n ∧ ∀ i, i < n → w.cell? (a.add i) = cs[i]? := by
 unfold World.cells? at h;split at h
 ·refine ⟨by simpa using mapM_some_length h, fun i hi => ?_⟩
  exact mapM_some_get h i i (by simp [hi])
 ·cases h
theorem cell_arr {w : World} {a : Addr} {v : Value} (h : w.cell? a = some v) : ∃ arr t fz, w.heap[a.block]? = some (.cells arr t fz) ∧ arr[a.off]? = some v := by
 unfold World.cell? at h;split at h
 ·rename_i c t fz hc;split at h
  ·cases h
  ·exact ⟨c, t, fz, hc, h⟩
 ·cases h
theorem rts_plain {H : AH} {F : Nat → Prop} : ∀ {cs : List Value}, cs.all plain1 = true → RTs H F cs (cs.map PV.v)
 | [], _ => .nil
 | c :: cs, h => by
  simp only [List.all_cons, Bool.and_eq_true] at h;exact .cons (.v h.1) (rts_plain h.2)
theorem rd_els {W : World} {z : Nat} {es : List Ct0} {a : Addr} (ha : a.spot = none) (k : Nat) : ∀ (o : Nat), (∀ i, i < k → ∃ cs, W.cells? 0 (a.add (o + i * z)) z = some cs ∧ cs.all plain1 = true ∧ F2 CtV0 es (cs.map PV.v)) →
  ∃ (c : List Value) (els : List (List PV)), els.length = k ∧ c.length = k * z ∧ (∀ (H : AH) (F : Nat → Prop), REs H F z c els) ∧ c.all plain1 = true ∧ (∀ (i : Nat) (v : Value), c[i]? = some v → W.cell? (a.add (o + i)) = some v) ∧ ∀ e ∈ els, F2 CtV0 es e := by
 induction k with
 | zero => exact fun o _ => ⟨[], [], rfl, by simp, fun _ _ => .nil, rfl, fun i v h => by simp at h, fun e he => by cases he⟩
 | succ k ih =>
  intro o h;obtain ⟨c, els, h1, h2, h3, h4, h5, h6⟩ := ih (o + z) (fun i hi => by
   have := h (i + 1) (by omega);rwa [show o + (i + 1) * z = o + z + i * z by rw [Nat.add_mul]; omega] at this)
  obtain ⟨cs, k1, k2, k3⟩ := h 0 (by omega);obtain ⟨l1, l2⟩ := cells_get k1;refine ⟨cs ++ c, cs.map PV.v :: els, by simp [h1], by rw [List.length_append, l1, h2, Nat.add_mul]; omega, fun H F => ?_, by simp only [List.all_append, k2, h4, Bool.and_self], ?_, ?_⟩
  ·exact .cons (rts_plain k2) (by simp [l1]) (h3 H F)
  ·intro i v hv;by_cases hi : i < z
   ·rw [List.getElem?_append_left (by omega)] at hv;have := l2 i hi;rw [add_add ha, show o + 0 * z + i = o + i by omega] at this
    rw [this, hv]
   ·rw [List.getElem?_append_right (by omega)] at hv;have := h5 _ _ hv;rwa [l1, show o + z + (i - z) = o + i by omega] at this
  ·intro e he;cases he with
   | head => exact k3
   | tail _ he => exact h6 e he
section
variable {T : Type} {enc : TypeId × Value → T} {P : Program} {W : World}
theorem rd_fs {n fuel : Nat} {cs : List Value}
  (ih : ∀ {t : TypeId} {ks : List Ct}, cts P n t = some ks → ∀ {cs : List Value} {x : DataW T × List MemPlace}, DataW.trod enc P W 0 (fun _ => true) true fuel t cs = some x → (OkC W cs ∨ ∃ k0, flat0 ks = some k0) → ∀ {φ : Ren} {H : AH}, RSt W φ H → Rd W φ H ks cs) :
  ∀ (fs : List Field) (o : Nat) (l : List Ct), ctFs P (cts P n) o fs = some l → (∀ f ∈ fs, ∃ x, DataW.trod enc P W 0 (fun _ => true) true fuel f.type ((cs.drop f.offset).take (P.cellsOf f.type)) = some x) →
   (OkC W cs ∨ ∃ k0, flat0 l = some k0) → ∀ {φ : Ren} {H : AH}, RSt W φ H → Rd W φ H l ((cs.drop o).take l.length)
 | [], o, l, h, _, _, φ, H, hs => by
  cases h;exact ⟨φ, H, [], [], hs, Ren.le_refl _, KpA.refl _, by simpa using VRs.nil, .nil, .nil⟩
 | f :: fs, o, l, h, ht, hc, φ, H, hs => by
  simp only [ctFs] at h;split at h
  ·rename_i ho;split at h
   ·rename_i c hcf;split at h
    ·rename_i hcl;split at h
     ·rename_i l' hl';cases h;have ho := Nat.eq_of_beq_eq_true ho;have hcl := Nat.eq_of_beq_eq_true hcl;have okA : OkC W cs → ∀ o k, OkC W ((cs.drop o).take k) := fun hk o k a l hm => hk a l (List.mem_of_mem_drop (List.mem_of_mem_take hm));have hc1 : OkC W ((cs.drop f.offset).take (P.cellsOf f.type)) ∨ ∃ k0, flat0 c = some k0 := by
       rcases hc with hc | ⟨k0, hc⟩
       ·exact .inl (okA hc _ _)
       ·obtain ⟨x, _, hx, _⟩ := flat0_append hc; exact .inr ⟨x, hx⟩
      have hc2 : OkC W cs ∨ ∃ k0, flat0 l' = some k0 := by
       rcases hc with hc | ⟨k0, hc⟩
       ·exact .inl hc
       ·obtain ⟨_, y, _, hy⟩ := flat0_append hc; exact .inr ⟨y, hy⟩
      obtain ⟨x, hx⟩ := ht f (by simp);obtain ⟨φ₁, H₁, as, qs, s1, s2, s3, s4, s5, s6⟩ := ih hcf hx hc1 hs;obtain ⟨φ₂, H₂, bs, rs, u1, u2, u3, u4, u5, u6⟩ := rd_fs ih fs (o + c.length) l' hl' (fun g hg => ht g (by simp [hg])) hc2 s1;refine ⟨φ₂, H₂, as ++ bs, qs ++ rs, u1, fun b r hb => u2 b r (s2 b r hb), s3.trans u3, ?_, RTs.append (s5.mono u3.keep) u5, F2.append s6 u6⟩;rw [List.length_append, List.take_add, List.drop_drop];rw [ho, ← hcl] at s4;exact VRs.append (s4.mono u2) u4
     ·cases h
    ·cases h
   ·cases h
  ·cases h
theorem rd_cells : ∀ (n : Nat) {t : TypeId} {ks : List Ct}, cts P n t = some ks → ∀ {fuel : Nat} {cs : List Value} {x : DataW T × List MemPlace}, DataW.trod enc P W 0 (fun _ => true) true fuel t cs = some x →
  (OkC W cs ∨ ∃ k0, flat0 ks = some k0) → ∀ {φ : Ren} {H : AH}, RSt W φ H → Rd W φ H ks cs
 | 0, _, _, h, _, _, _, _, _, _, _, _ => by cases h
 | n + 1, t, ks, h, fuel, cs, x, hx, hc, φ, H, hs => by
  unfold cts at h;split at h
  ·rename_i ht;cases h;obtain ⟨b, rfl, _⟩ := DataW.trod_bool ht hx;exact ⟨φ, H, [.bool b], [.v (.bool b)], hs, Ren.le_refl _, KpA.refl _, .cons (.bool b) .nil, .cons (.v rfl) .nil, .cons ⟨b, rfl⟩ .nil⟩
  ·rename_i k ht;cases h;obtain ⟨b, rfl, _, hw⟩ := DataW.trod_int ht hx;exact ⟨φ, H, [.int k b], [.v (.int k b)], hs, Ren.le_refl _, KpA.refl _, .cons (.int k b) .nil, .cons (.v rfl) .nil, .cons ⟨b, rfl, hw⟩ .nil⟩
  ·rename_i ht;cases h;obtain ⟨b, rfl, _, hw⟩ := DataW.trod_string ht hx;exact ⟨φ, H, [.string b], [.v (.string b)], hs, Ren.le_refl _, KpA.refl _, .cons (.string b) .nil, .cons (.v rfl) .nil, .cons ⟨b, rfl, hw⟩ .nil⟩
  ·rename_i e ht;split at h
   ·rename_i es hes;split at h
    ·rename_i es0 hes0;split at h
     ·rename_i hz;split at h
      ·rename_i hz1;cases h;have hz := Nat.eq_of_beq_eq_true hz;have hz1 : 0 < P.cellsOf e := by have := Nat.le_of_ble_eq_true hz1; omega
       rcases hc with hc | ⟨k0, hc⟩
       ·rcases DataW.trod_slice ht hx with ⟨rfl, _⟩ | ⟨a, len, cap, elems, rest, m, rfl, rfl, _, _, hlc, hcm, hel, h1, h2, _⟩
        ·exact ⟨φ, H, [.slice none 0 0], [.sl []], hs, Ren.le_refl _, KpA.refl _, .cons .sliceNil .nil, .cons .slN .nil, .cons ⟨[], rfl, Nat.zero_le _, fun c hc => by cases hc⟩ .nil⟩
        ·cases hcap : cap with
         | zero =>
          subst hcap;have hl0 : len = 0 := by omega
          subst hl0;obtain ⟨hsp, hblk⟩ := hc a 0 (by simp);obtain ⟨k1, k2, k3, k4, k5⟩ := new_ok (o := .dead) (r := ⟨a.block, 0, 0, 0, 0⟩) hs hblk trivial;refine ⟨_, _, [.slice (some ⟨H.next, 0, none⟩) 0 0], [.sl []], k1, k2, k3, .cons ?_ .nil, .cons .slZ .nil, .cons ⟨[], rfl, Nat.zero_le _, fun c hc => by cases hc⟩ .nil⟩;have : (some a : Option Addr) = some ⟨a.block, a.off, none⟩ := by cases a; simp only at hsp; subst hsp; rfl
          rw [this];exact VR.sliceE (r := ⟨a.block, 0, 0, 0, 0⟩) k4 (.inl rfl)
         | succ cap' =>
          have hall : ∀ j, j < cap → ∃ ci y, W.cells? 0 (a.add (j * P.cellsOf e)) (P.cellsOf e) = some ci ∧ DataW.trod enc P W 0 (fun _ => true) true m e ci = some y := by
           intro j hj;have : ∃ y, (W.cells? 0 (a.add (j * P.cellsOf e)) (P.cellsOf e)).bind (DataW.trod enc P W 0 (fun _ => true) true m e) = some y := by
            by_cases hjl : j < len
            ·rw [h1 j hjl];exact ⟨elems[j]'(by omega), List.getElem?_eq_getElem _⟩
            ·obtain ⟨hr, h2⟩ := h2 rfl;have := h2 (j - len) (by omega);rw [show len + (j - len) = j by omega] at this
             rw [this];exact ⟨rest[j - len]'(by omega), List.getElem?_eq_getElem _⟩
           obtain ⟨y, hy⟩ := this;obtain ⟨ci, hci, hy⟩ := Option.bind_eq_some_iff.1 hy;exact ⟨ci, y, hci, hy⟩
          obtain ⟨c0, y0, q1, _⟩ := hall 0 (by omega);obtain ⟨q2, q3⟩ := cells_get q1;have q4 := q3 0 hz1;rw [show a.add (0 * P.cellsOf e) = a by simp [Addr.add], show a.add 0 = a by simp [Addr.add], List.getElem?_eq_getElem (by omega)] at q4
          have hsp := World.cell?_spot q4;obtain ⟨arr, ty, fz, w1, w2⟩ := cell_arr q4;have hblk : a.block < W.heap.size := by
           rcases Nat.lt_or_ge a.block W.heap.size with h | h
           ·exact h
           ·rw [Array.getElem?_eq_none h] at w1; cases w1
          have hoff : a.off < arr.size := by
           rcases Nat.lt_or_ge a.off arr.size with h | h
           ·exact h
           ·rw [Array.getElem?_eq_none h] at w2; cases w2
          obtain ⟨c, els, r1, r2, r3, r4, r5, r6⟩ := rd_els (W := W) (z := P.cellsOf e) (es := es0) hsp len 0 (fun i hi => by
           obtain ⟨ci, y, hci, hy⟩ := hall i (by omega);obtain ⟨φ', H', as, qs, _, _, _, g4, g5, g6⟩ := rd_cells n hes hy (.inr ⟨es0, hes0⟩) hs;obtain ⟨f1, f2, f3⟩ := flat_vals hes0 g6 g5 g4;rw [f2] at f1;exact ⟨ci, by rw [Nat.zero_add]; exact hci, f3, f1⟩)
          have hcell : ∀ (i : Nat) (v : Value), c[i]? = some v → arr[a.off + i]? = some v := fun i v hv => by
           have := r5 i v hv;rw [Nat.zero_add, add_none hsp] at this;obtain ⟨arr', ty', fz', w1', w2'⟩ := cell_arr this;rw [w1] at w1'; cases w1';exact w2'
          have hlim : a.off + c.length ≤ arr.size := by
           cases hcl : c.length with
           | zero => omega
           | succ k =>
            have := hcell k (c[k]'(by omega)) (List.getElem?_eq_getElem _);rcases Nat.lt_or_ge (a.off + k) arr.size with h | h
            ·omega
            ·rw [Array.getElem?_eq_none h] at this; cases this
          have ho : ObjR W.heap.size (upd φ H.next ⟨a.block, a.off, arr.size, P.cellsOf e, c.length⟩) ⟨a.block, a.off, arr.size, P.cellsOf e, c.length⟩ W (.row c ty (P.cellsOf e)) := by
           refine ⟨arr, fz, w1, rfl, ⟨rfl, rfl⟩, hlim, fun i v hv => ⟨v, hcell i v hv, plain1_refl _ v ?_⟩, fun hb => ?_⟩
           ·exact List.all_eq_true.1 r4 v (List.mem_of_getElem? hv)
           ·have : W.heap.size ≤ a.block := hb;omega
          obtain ⟨k1, k2, k3, k4, k5⟩ := new_ok hs hblk ho;refine ⟨_, _, [.slice (some ⟨H.next, 0, none⟩) len (cap' + 1)], [.sl els], k1, k2, k3, .cons ?_ .nil, .cons ?_ .nil, .cons ⟨els, rfl, by omega, r6⟩ .nil⟩
          ·have : (some a : Option Addr) = some ⟨a.block, a.off + 0, none⟩ := by cases a; simp only at hsp; subst hsp; rfl
           rw [this];refine VR.slice (r := ⟨a.block, a.off, arr.size, P.cellsOf e, c.length⟩) k4 (by omega) (.inl ⟨rfl, ?_⟩);unfold maxLen at hcm;unfold capU;omega
          ·refine .sl (show H.next < H.next + 1 by omega) k5 hz1 r1 (.inr ⟨by omega, ?_⟩) (r3 _ _)
           unfold maxLen at hcm;unfold capU;omega
       ·cases hc
      ·cases h
     ·cases h
    ·cases h
   ·cases h
  ·rename_i fs ht;split at h
   ·rename_i l hl;split at h
    ·rename_i hz;cases h;have hz := Nat.eq_of_beq_eq_true hz;obtain ⟨xs, m, rfl, rfl, hcl, hxl, hf⟩ := DataW.trod_struct ht hx;have := rd_fs (cs := cs) (fuel := m) (fun hk => fun {cs x} hx hc {φ H} hs => rd_cells n hk hx hc hs) fs.toList 0 ks hl (fun f hf' => by
      obtain ⟨i, hi, hfi⟩ := List.getElem_of_mem hf';have e := hf i f (by rw [← Array.getElem?_toList, List.getElem?_eq_getElem hi, hfi]);rw [e];exact ⟨xs[i]'(by rw [hxl]; simpa using hi), List.getElem?_eq_getElem _⟩) hc hs
     rw [List.drop_zero, List.take_of_length_le (by omega)] at this;exact this
    ·cases h
   ·cases h
  ·cases h
end
end Go.Sym
namespace Go.Sym
open Go.Abu Go.Pev
def isStr (P : Program) (t : TypeId) : Bool := match P.underlying t with
 | some (.struct _) => true
 | _ => false
def argCs (P : Program) : List TypeId → Option (List (Bool × List Ct))
 | [] => some []
 | t :: ts => match cts P 16 t with
  | some ks => match argCs P ts with
   | some l => some ((isStr P t, ks) :: l)
   | none => none
  | none => none
def ArgV : Bool × List Ct → PV → Prop
 | (true, ks), v => ∃ qs, v = .agg qs ∧ F2 CtV ks qs
 | (false, ks), v => F2 CtV ks [v]
section
variable {T : Type} {enc : TypeId × Value → T} {P : Program} {W : World}
theorem ok_slice {r : Reach} {base : Nat} {u : TypeId} {a : Addr} {l c : Nat} (h : Cell.okWide P W r base u (.slice (some a) l c)) : a.spot = none ∧ a.block < W.heap.size := by
 have hk : Cell.ok P W r base u (.slice (some a) l c) := by
  unfold Cell.okWide at h;split at h <;> first | exact h | (rename_i e; cases e) | skip
  all_goals simp_all
 unfold Cell.ok at hk;split at hk
 all_goals first
  | (rename_i e; cases e; done)
  | skip
 ·rename_i e;cases e;obtain ⟨_, _, _, h2, row, cells, h3, _⟩ := hk;refine ⟨h2, ?_⟩;unfold World.shape? at h3;rcases Nat.lt_or_ge a.block W.heap.size with hb | hb
  ·exact hb
  ·rw [Array.getElem?_eq_none hb] at h3;cases h3
 ·cases hk
theorem ok_one_cell {r : Reach} {base : Nat} {t : TypeId} {v : Value} {ks : List Ct} {n : Nat} (hc : cts P n t = some ks) (hs : isStr P t = false) (h : Value.okWide P W r base t v) : v.cells = #[v] ∧ Cell.okWide P W r base t v := by
 cases n with
 | zero => cases hc
 | succ n =>
 unfold cts at hc;unfold isStr at hs;have hk : Cell.okWide P W r base t v := by
  unfold Value.okWide at h;split at h
  ·rename_i e; rw [e] at hs; cases hs
  ·rename_i e; rw [e] at hc; cases hc
  ·exact h
 refine ⟨?_, hk⟩;cases v with
 | agg cs =>
  exfalso;have hk' : Cell.ok P W r base t (.agg cs) := by
   unfold Cell.okWide at hk;split at hk <;> first | exact hk | (rename_i e; cases e) | skip
   all_goals simp_all
  unfold Cell.ok at hk';split at hk' <;> first | (rename_i e; cases e; done) | exact hk'
 | _ => rfl
theorem argD_ok {r : Reach} {base : Nat} {t : TypeId} {v : Value} {ks : List Ct} {d : DataW T} {ps : List MemPlace} (hc : cts P 16 t = some ks) (ho : Value.okWide P W r base t v) (hr : DataW.Trod enc P W 0 (fun _ => true) true t v d ps)
  {φ : Ren} {H : AH} (hs : RSt W φ H) : ∃ φ' H' a p, RSt W φ' H' ∧ φ.le φ' ∧ KpA H H' ∧ VR φ' v a ∧ (∀ H'', KpA H' H'' → RF2 H'' (fun b => b < H''.next) a p []) ∧ ArgV (isStr P t, ks) p := by
 obtain ⟨fuel, hr⟩ := hr;cases hst : isStr P t with
 | true =>
  have ⟨fs, hu⟩ : ∃ fs, P.underlying t = some (.struct fs) := by
   unfold isStr at hst;split at hst
   ·rename_i e; exact ⟨_, e⟩
   ·cases hst
  unfold Value.okWide at ho;rw [hu] at ho;obtain ⟨cs, rfl, _, ts, _, _, hok⟩ := ho;have hcs : OkC W cs.toList := fun a l hm => by
   obtain ⟨i, hi, e⟩ := List.getElem_of_mem hm;obtain ⟨u, _, h⟩ := hok i (.slice (some a) l 0) (by rw [← Array.getElem?_toList, List.getElem?_eq_getElem hi, e]);exact ok_slice h
  obtain ⟨φ', H', as, qs, s1, s2, s3, s4, s5, s6⟩ := rd_cells 16 hc hr (.inl hcs) hs;refine ⟨φ', H', .agg as.toArray, .agg qs, s1, s2, s3, VR.agg (by simpa using (show VRs φ' cs.toList as from s4)), fun H'' hk => .agg ?_, qs, rfl, s6⟩
  have := s5.mono hk.keep;simp only;have tr : ∀ {as : List Value} {qs : List PV}, RTs H'' (fun b => b < H''.next) as qs → RFs H'' (fun b => b < H''.next) as qs [] := by
   intro as qs h;induction qs generalizing as with
   | nil => cases h; exact .nil
   | cons q qs ih => cases h with
    | cons h t => exact .cons (a := []) (b := []) (.tree h) (ih t)
  exact tr this
 | false =>
  obtain ⟨h1, h2⟩ := ok_one_cell hc hst ho;rw [h1] at hr;have hcs : OkC W [v] := fun a l hm => by
   simp only [List.mem_singleton] at hm;subst hm;exact ok_slice h2
  obtain ⟨φ', H', as, qs, s1, s2, s3, s4, s5, s6⟩ := rd_cells 16 hc hr (.inl hcs) hs;cases s4 with
  | cons v1 vt =>
   cases vt;cases s5 with
   | cons r1 rt =>
    cases rt;exact ⟨φ', H', _, _, s1, s2, s3, v1, fun H'' hk => .one (.tree (r1.mono hk.keep)), s6⟩
theorem argsD_ok {r : Reach} {base : Nat} : ∀ {tys : List TypeId} {ks : List (Bool × List Ct)} {vs : List Value} {ds : List (DataW T)} {ps : List MemPlace}, argCs P tys = some ks → (∀ (j : Nat) (t : TypeId) (v : Value), tys[j]? = some t → vs[j]? = some v → Value.okWide P W r base t v) →
  DataW.TrodAll enc P W 0 (fun _ => true) true tys vs ds ps → ∀ {φ : Ren} {H : AH}, RSt W φ H →
  ∃ φ' H' as qs, RSt W φ' H' ∧ φ.le φ' ∧ KpA H H' ∧ VRs φ' vs as ∧ (∀ H'', KpA H' H'' → RF2s H'' (fun b => b < H''.next) as qs []) ∧ F2 ArgV ks qs
 | [], ks, vs, ds, ps, hk, ho, hr, φ, H, hs => by
  cases hk;cases vs with
  | nil => exact ⟨φ, H, [], [], hs, Ren.le_refl _, KpA.refl _, .nil, fun _ _ => .nil, .nil⟩
  | cons v vs => cases ds <;> exact absurd hr (by simp [DataW.TrodAll])
 | t :: tys, ks, vs, ds, ps, hk, ho, hr, φ, H, hs => by
  unfold argCs at hk;split at hk
  ·rename_i k hk1;split at hk
   ·rename_i l hl;cases hk;cases vs with
    | nil => cases ds <;> exact absurd hr (by simp [DataW.TrodAll])
    | cons v vs =>
     cases ds with
     | nil => exact absurd hr (by simp [DataW.TrodAll])
     | cons d ds =>
      obtain ⟨p, q, hr1, hr2, _⟩ := hr;obtain ⟨φ₁, H₁, a, x, s1, s2, s3, s4, s5, s6⟩ := argD_ok hk1 (ho 0 t v rfl rfl) hr1 hs;obtain ⟨φ₂, H₂, as, xs, u1, u2, u3, u4, u5, u6⟩ := argsD_ok hl (fun j t v h1 h2 => ho (j + 1) t v h1 h2) hr2 s1;exact ⟨φ₂, H₂, a :: as, x :: xs, u1, fun b r hb => u2 b r (s2 b r hb), s3.trans u3, .cons (s4.mono u2) u4, fun H'' hk => .cons (a := []) (b := []) (s5 H'' (u3.trans hk)) (u5 H'' hk), .cons s6 u6⟩
   ·cases hk
  ·cases hk
end
theorem callA_calls {P : Program} {K : Known} (hK : KnownOk P K) {rec : Go.Abu.Rec} (hrec : RecOk P rec) {bar : Nat} {g : FuncId} {vs as : List Value} {v : Value} {H H' : AH} {φ : Ren} {base : Nat} {w : World} (h : aGo P K rec bar g as H = some (v, H')) {c : Code} {fn : Func} (hf : P.funcs[g]? = some fn) (hb : fn.body = some c)
  (hs : Sim φ H bar base w) (hv : VRs φ vs as) : Calls P g vs.toArray w fun e w' => ∃ u φ', e = .returned u ∧ VR φ' u v ∧ Step φ H bar base w φ' H' w' := by
 unfold aGo aCallFunc at h;rw [hf] at h;simp only [hb, Option.isNone_some, Bool.false_eq_true, if_false] at h;split at h
 ·rename_i e;split at e <;> cases e
 ·rename_i e;split at e
  ·cases e
  ·cases e;exact call_sound hK hrec h hs (by simpa using hv)
 ·cases h
theorem link {T : Type} {enc : TypeId × Value → T} {D : Dcf} {W : World} {r : Reach} {base : Nat} {g : FuncId} {fn : Func} {c : Code} {ks : List (Bool × List Ct)} {args : Array Value} {ds : List (DataW T)} {ps : List MemPlace} {x : Value}
  (hkn : ∀ g, D.kn g = false) (hmix : D.P.follows .mixedOrders = true) (hV : VS D g = true) (hf : D.P.funcs[g]? = some fn) (hb : fn.body = some c) (hk : argCs D.P fn.params.toList = some ks)
  (ho : ∀ (j : Nat) (t : TypeId) (v : Value), fn.params[j]? = some t → args[j]? = some v → Value.okWide D.P W r base t v) (hr : DataW.TrodAll enc D.P W 0 (fun _ => true) true fn.params.toList args.toList ds ps)
  (hans : ∀ vs, F2 ArgV ks vs → Ans D g vs [.v x]) (hx : plain1 x = true) : Calls D.P g args W fun e W' => e = .returned x ∧ RowKit.Below W.heap.size W W' := by
 obtain ⟨v1, v2, v3, fn', t, v4, v5, v6⟩ := VS_ok hV;rw [hf] at v4; cases v4;have h0 : RSt W (fun _ => none) ⟨0, fun _ => none⟩ := ⟨Nat.le_refl _, Nat.le_refl _, fun b r h => (by cases h), fun b r o h => (by cases h), fun b b' r r' h => (by cases h), fun b r h => (by cases h), Nat.le_refl _, fun b r h => (by cases h)⟩;obtain ⟨φ, H, as, qs, s1, s2, s3, s4, s5, s6⟩ := argsD_ok hk (fun j t v h1 h2 => ho j t v (by rwa [← Array.getElem?_toList]) (by rwa [← Array.getElem?_toList])) hr h0;obtain ⟨_, _, n, fn', us, l, ws, bs, a1, a2, a3, a4, a5, _⟩ := hans qs s6;rw [hf] at a1; cases a1;rw [v5] at a3;rw [v3] at a4;cases a4;have hus : us = [.v x] := by
  cases a3 with
  | cons h k =>
   cases k;simp only [List.append_nil, List.cons.injEq, and_true] at a5;subst a5;cases h with
   | one _ hc =>
    generalize (List.headD (List.headD (D.slots g) []) none) = sl at hc;cases hc with
    | tree _ => rfl
 subst hus;have ea : argIn D g qs = qs := by unfold argIn; rw [v1]
 rw [ea] at a2
 let K0 : Known := fun _ _ _ => none
 have hK : KnownOk D.P K0 := fun _ _ _ _ _ h => by cases h
 have tk : TOk D.P K0 (evalA D.P K0 (drawA D.P K0 D.C.wf) n) g qs (.v x) [] := pev_call (K := K0) (C := D.C) (fun _ _ _ _ => rfl) (fun g ts r l arec h1 h2 => by
  have : D.kn g = true := h1;rw [hkn g] at this; cases this) a2
 obtain ⟨v, H', F', xs, g1, res⟩ := tk (s5 H (KpA.refl H)) (bar := H.next) List.nodup_nil (fun B hB => by cases hB) (fun B hB => hB) (Nat.le_refl _);have hv : v = x := by
  cases res.rf with
  | one h => cases h with
   | one h => cases h with
    | tree h => cases h with
     | v _ => rfl
 subst hv;have := callA_calls hK (run_sound hK hmix D.C.wf n) g1 hf hb s1 s4;rw [Array.toArray_toList] at this;refine this.mono ?_;rintro e W' ⟨u, φ', rfl, hu, st⟩;have := plain1_eq hu hx;subst this;exact ⟨rfl, st.below⟩
end Go.Sym
namespace Go.Sym
open Go.ChangeShapes Go.WideShapes Go.ChangeAt Go.RowKit
section
variable {T : Type} {enc : TypeId × Value → T} {P : Program}
theorem trodAll_stays (hl : laidOutB P = true) {W W' : World} (hb : RowKit.Below W.heap.size W W') : ∀ {tys : List TypeId} {vs : List Value} {ds : List (DataW T)} {ps : List MemPlace}, (tys.all fun t => P.readableRec t && Nat.blt t P.types.size) = true →
  DataW.TrodAll enc P W 0 (fun _ => true) true tys vs ds ps → DataW.TrodAll enc P W' 0 (fun b => decide (b < W.heap.size)) true tys vs ds ps
 | [], [], [], _, _, h => h
 | t :: tys, v :: vs, d :: ds, _, ht, ⟨p, q, h1, h2, e⟩ => by
  simp only [List.all_cons, Bool.and_eq_true] at ht;have hlt := DataW.TrodAll.lt (show DataW.TrodAll enc P W 0 (fun _ => true) true (t :: tys) (v :: vs) (d :: ds) _ from ⟨p, q, h1, h2, e⟩)
  subst e;exact ⟨p, q, Below.trod hl ht.1.1 (by simpa [Nat.blt_eq] using ht.1.2) h1 hb (fun x hx => hlt x (by simp [hx])), trodAll_stays hl hb ht.2 h2, rfl⟩
 | [], [], _ :: _, _, _, h => absurd h (by simp [DataW.TrodAll])
 | [], _ :: _, _, _, _, h => absurd h (by simp [DataW.TrodAll])
 | _ :: _, [], _, _, _, h => absurd h (by simp [DataW.TrodAll])
 | _ :: _, _ :: _, [], _, _, h => absurd h (by simp [DataW.TrodAll])
theorem trodAll_len {W : World} {b : Nat} {sp : Nat → Bool} {hd : Bool} : ∀ {tys : List TypeId} {vs : List Value} {ds : List (DataW T)} {ps : List MemPlace}, DataW.TrodAll enc P W b sp hd tys vs ds ps → ds.length = tys.length
 | [], [], [], _, _ => rfl
 | _ :: _, _ :: _, _ :: _, _, ⟨_, _, _, h, _⟩ => by simp [trodAll_len h]
 | [], [], _ :: _, _, h => absurd h (by simp [DataW.TrodAll])
 | [], _ :: _, _, _, h => absurd h (by simp [DataW.TrodAll])
 | _ :: _, [], _, _, h => absurd h (by simp [DataW.TrodAll])
 | _ :: _, _ :: _, [], _, h => absurd h (by simp [DataW.TrodAll])
theorem post_true {f : Func} {s : ChangeSpec} {t : TypeId} {fresh handsOn : Bool} {W W' : World} {args : Array Value} {ds gs : List (DataW T)} {before : List MemPlace} (hl : laidOutB P = true) (hW : DataW.Whole enc P f.params.toList s.vars false W args.toList ds gs before)
  (hv : s.vars = []) (hres : f.resultTypes = #[t]) (ht : P.underlying t = some .bool) (hp : (f.params.toList.all fun t => P.readableRec t && Nat.blt t P.types.size) = true)
  (hfn : ∀ ds : List (DataW T), ds.length = f.params.toList.length → s.fn T ds = { results := [.lit (.bool true)], args := ds }) (hb : RowKit.Below W.heap.size W W') :
  s.post enc P f false fresh handsOn false W args (.bool true) W' := by
 have hW0 := hW;obtain ⟨p, q, hA, hV, hbe, hfz, hnd⟩ := hW;have hgs : gs = [] := by
  rw [hv] at hV;cases gs with
  | nil => rfl
  | cons g gs => exact absurd hV (by simp [DataW.TrodVars])
 subst hgs;have e := hfn ds (trodAll_len hA);refine ⟨ds, [], before, [], p, [], hW0, ?_, ?_, ?_, hb.frame _, fun h => by cases h⟩
 ·rw [List.append_nil, e, hres];exact trodAll_mk1 (shut_bool ht true)
 ·rw [List.append_nil, e];exact trodAll_stays hl hb hp hA
 ·rw [List.append_nil, e, hv];exact rfl
end
end Go.Sym
namespace Go.Sym
open Go.Abu Go.Pev
abbrev PhT := FuncId → List PV → Option (List PV)
abbrev JT := List PV → Option (List PV)
def evC : Option PV → List PV → List A → Option (List PV)
 | some v, e, as => match evs e as with
  | some vs => some (v :: vs)
  | none => none
 | none, _, _ => none
def evD (v : PV) : Option (List PV) → Option (List PV)
 | some vs => some (v :: vs)
 | none => none
theorem evs_nil {e : List PV} : evs e [] = some [] := rfl
theorem evsC_cons {e : List PV} {a : A} {as : List A} : evs e (a :: as) = evC (a.ev e) e as := by
 cases h : a.ev e <;> simp only [evs, evC, h] <;> rfl
theorem evC_some {v : PV} {e : List PV} {as : List A} : evC (some v) e as = evD v (evs e as) := by simp only [evC, evD]
theorem evD_some {v : PV} {vs : List PV} : evD v (some vs) = some (v :: vs) := rfl
theorem ev_x {i : Nat} {e : List PV} : A.ev e (.x i) = e[i]? := rfl
theorem ev_c {p : PV} {e : List PV} : A.ev e (.c p) = some p := rfl
theorem nth_zero {α : Type} {a : α} {l : List α} : (a :: l)[0]? = some a := rfl
theorem nth_succ {α : Type} {a : α} {l : List α} {i : Nat} : (a :: l)[i + 1]? = l[i]? := rfl
section
variable (Φ : PhT) (V : FuncId → Bool) (N : Nat)
def denF (r : Option PV) (k : K) (J : List JT) (e : List PV) : Option (List PV) := match r with
 | some v => den Φ V N k J (e ++ [v])
 | none => none
def denL (f : RF) (xs : Option (List PV)) (k : K) (J : List JT) (e : List PV) : Option (List PV) := match xs with
 | some xs => denF Φ V N (f.ev xs) k J e
 | none => none
def denP (r : Option (List PV)) (k : K) (J : List JT) (e : List PV) : Option (List PV) := match r with
 | some rs => den Φ V N k J (e ++ rs)
 | none => none
def denC (g : FuncId) (xs : Option (List PV)) (k : K) (J : List JT) (e : List PV) : Option (List PV) := match xs with
 | some xs => denP Φ V N (Φ g xs) k J e
 | none => none
def denB (r : Option PV) (t f : K) (J : List JT) (e : List PV) : Option (List PV) := match r with
 | some (.v (.bool true)) => den Φ V N t J e
 | some (.v (.bool false)) => den Φ V N f J e
 | _ => none
def denM (f : Option JT) (xs : Option (List PV)) : Option (List PV) := match f with
 | some f => match xs with
  | some xs => f xs
  | none => none
 | none => none
def denJ (d : K) (J : List JT) (e : List PV) : JT := fun vs => den Φ V N d J (e ++ vs)
@[irreducible] def denW (b : K) (J : List JT) (e : List PV) (n : Nat) : JT := iter (fun self vs => den Φ V N b (J ++ [self]) (e ++ vs)) n
variable {Φ V N} {J : List JT} {e : List PV}
theorem den_ret {vs : List A} : den Φ V N (.ret vs) J e = evs e vs := rfl
theorem den_lt {f : RF} {as : List A} {k : K} : den Φ V N (.lt f as k) J e = denL Φ V N f (evs e as) k J e := by unfold denL denF; rfl
theorem denL_some {f : RF} {xs : List PV} {k : K} : denL Φ V N f (some xs) k J e = denF Φ V N (f.ev xs) k J e := rfl
theorem denF_some {v : PV} {k : K} : denF Φ V N (some v) k J e = den Φ V N k J (e ++ [v]) := rfl
theorem den_call {g : FuncId} {as : List A} {k : K} : den Φ V N (.call g as k) J e = denC Φ V N g (evs e as) k J e := by unfold denC denP; rfl
theorem denC_some {g : FuncId} {xs : List PV} {k : K} : denC Φ V N g (some xs) k J e = denP Φ V N (Φ g xs) k J e := rfl
theorem denP_some {rs : List PV} {k : K} : denP Φ V N (some rs) k J e = den Φ V N k J (e ++ rs) := rfl
theorem den_br {x : A} {t f : K} : den Φ V N (.br x t f) J e = denB Φ V N (x.ev e) t f J e := by unfold denB; rfl
theorem denB_some {b : Bool} {t f : K} : denB Φ V N (some (.v (.bool b))) t f J e = if b = true then den Φ V N t J e else den Φ V N f J e := by cases b <;> rfl
theorem den_jp {d k : K} : den Φ V N (.jp d k) J e = den Φ V N k (J ++ [denJ Φ V N d J e]) e := rfl
theorem den_loop {b k : K} : den Φ V N (.loop b k) J e = den Φ V N k (J ++ [denW Φ V N b J e N]) e := by unfold denW; rfl
theorem den_jmp {j : Nat} {vs : List A} : den Φ V N (.jmp j vs) J e = denM J[j]? (evs e vs) := by unfold denM; rfl
theorem denM_some {f : JT} {xs : List PV} : denM (some f) (some xs) = f xs := rfl
theorem denJ_ap {d : K} {vs : List PV} : denJ Φ V N d J e vs = den Φ V N d J (e ++ vs) := rfl
theorem denW_succ {b : K} {n : Nat} {vs : List PV} : denW Φ V N b J e (n + 1) vs = den Φ V N b (J ++ [denW Φ V N b J e n]) (e ++ vs) := by unfold denW; rfl
end
section
variable {k k' : IntKind} {a b n m i : Int} {x y : Bool} {op : BinOp}
theorem f_bin : RF.ev (.bin op) [.v (.int k a), .v (.int k' b)] = intB op k a k' b := rfl
theorem f_bins {s t : ByteArray} : RF.ev (.bin op) [.v (.string s), .v (.string t)] = strB op s t := rfl
theorem f_bbin : RF.ev (.bbin op) [.v (.bool x), .v (.bool y)] = boolB op x y := rfl
theorem f_not : RF.ev (.un .not) [.v (.bool x)] = some (.v (.bool (!x))) := rfl
theorem f_neg : RF.ev (.un .neg) [.v (.int k a)] = some (.v (.int k (k.wrap (0 - a)))) := rfl
theorem f_eqv {ks : List Ck} {xs ys : List PV} : RF.ev (.eqv ks) [.agg xs, .agg ys] = (eqL ks xs ys).map fun b => .v (.bool b) := by simp only [RF.ev]; split <;> simp_all
theorem f_conv : RF.ev (.conv k') [.v (.int k a)] = some (.v (.int k' (k'.wrap a))) := rfl
theorem f_shape {n : Nat} {cs : List PV} : RF.ev (.shape n) [.agg cs] = if cs.length = n then some (.agg cs) else none := rfl
theorem f_cell {i : Nat} {cs : List PV} : RF.ev (.cell i) [.agg cs] = cs[i]? := rfl
theorem f_part {o n : Nat} {cs : List PV} : RF.ev (.part o n) [.agg cs] = if o + n ≤ cs.length then some (.agg ((cs.drop o).take n)) else none := rfl
theorem f_agg {vs : List PV} : RF.ev .agg vs = if (vs.flatMap PV.cells).all t0 = true then some (.agg (vs.flatMap PV.cells)) else none := by cases vs <;> rfl
theorem f_len {els : List (List PV)} : RF.ev .len [.sl els] = some (.v (.int .i64 els.length)) := rfl
theorem f_flat {v : PV} : RF.ev .flat [v] = if Pev.flat v.cells = true then some v else none := rfl
theorem f_flat_v {x : Value} : RF.ev .flat [.v x] = some (.v x) := rfl
theorem f_flat_agg {cs : List PV} : RF.ev .flat [.agg cs] = if Pev.flat cs = true then some (.agg cs) else none := rfl
theorem f_tree_sl {els : List (List PV)} : RF.ev .tree [.sl els] = some (.sl els) := rfl
theorem f_tree_v {x : Value} : RF.ev .tree [.v x] = some (.v x) := rfl
theorem f_tree {v : PV} : RF.ev .tree [v] = if v.cells.all noSlp = true then some v else none := rfl
theorem f_slen {s : ByteArray} : RF.ev .slen [.v (.string s)] = some (.v (.int .i64 s.size)) := rfl
theorem f_ix : RF.ev .ix [.v (.int k i), .v (.int k' n)] = if 0 ≤ i ∧ i < n then some (.v (.int k i)) else none := rfl
theorem f_sum : RF.ev .sum [.v (.int k a), .v (.int k' b)] = some (.v (.int .i64 (a + b))) := rfl
theorem f_dif : RF.ev .dif [.v (.int k a), .v (.int k' b)] = some (.v (.int .i64 (a - b))) := rfl
theorem f_bnd : RF.ev .bnd [.v (.int k a), .v (.int k' b)] = if 0 ≤ a ∧ a ≤ b then some (.v (.int .i64 a)) else none := rfl
def eltR (o n : Nat) : Option (List PV) → Option PV
 | some row => rowPart o n row
 | none => none
theorem eltR_some {o n : Nat} {row : List PV} : eltR o n (some row) = rowPart o n row := rfl
theorem f_elt {o n : Nat} {els : List (List PV)} : RF.ev (.elt o n) [.sl els, .v (.int k i)] = if 0 ≤ i then eltR o n els[i.toNat]? else none := by unfold eltR; rfl
theorem f_app {bytes z : Nat} {as bs : List (List PV)} : RF.ev (.app bytes z) [.sl as, .v (.int k n), .sl bs] = if 0 ≤ n ∧ n ≤ as.length ∧ (n.toNat + bs.length) * bytes ≤ 140737488355328 ∧ elsOk' z bs = true then some (.sl (as.take n.toNat ++ bs)) else none := rfl
theorem f_sub {els : List (List PV)} : RF.ev .sub [.sl els, .v (.int k a), .v (.int k' n)] = if 0 ≤ a ∧ 0 ≤ n ∧ a + n ≤ els.length then some (.sl ((els.drop a.toNat).take n.toNat)) else none := rfl
theorem f_bs {w : Nat} {z : List PV} {ids : List Nat} {vs : List PV} : RF.ev (.bs w z ids) vs = (setIds z.length (List.replicate w z) ids vs).map .sl := by simp only [RF.ev]; split <;> simp_all
theorem f_rep {z : List PV} {bytes : Nat} : RF.ev (.rep z bytes) [.v (.int k a), .v (.int k' b)] = if 0 ≤ a ∧ a ≤ b ∧ b < 9223372036854775808 ∧ bytes * b ≤ 281474976710656 then some (.sl (List.replicate a.toNat z)) else none := rfl
theorem f_tix {z : Nat} {els : List (List PV)} : RF.ev (.tix z) [.sl els, .v (.int k i)] = if 0 ≤ i then (match els[i.toNat]? with
    | some row => if row.length = z then some (.v (.int k i)) else none
    | none => none)
   else none := rfl
theorem f_tsub {z : Nat} {els : List (List PV)} : RF.ev (.tsub z) [.sl els, .v (.int k a), .v (.int k' b)] = if 0 ≤ a ∧ a ≤ b ∧ b ≤ els.length ∧ elsOk' z els = true ∧ 0 < z then some (.sl ((els.drop a.toNat).take (b.toNat - a.toNat))) else none := rfl
theorem f_tsub3 {z : Nat} {els : List (List PV)} {k'' : IntKind} : RF.ev (.tsub3 z) [.sl els, .v (.int k a), .v (.int k' b), .v (.int k'' m)] =
  if 0 ≤ a ∧ a ≤ b ∧ b ≤ m ∧ m ≤ els.length ∧ els.isEmpty = false ∧ Pev.elsOk z els = true ∧ 0 < z then some (.sl ((els.drop a.toNat).take (b.toNat - a.toNat))) else none := rfl
theorem f_set {o : Nat} {els : List (List PV)} {p : PV} : RF.ev (.set o) [.sl els, .v (.int k i), p] = if 0 ≤ i then (match els[i.toNat]? with
    | some row => if o + p.cells.length ≤ row.length then some (.sl (els.set i.toNat (splice row o p.cells))) else none
    | none => none)
   else none := rfl
theorem f_b2s {els : List (List PV)} : RF.ev .b2s [.sl els] = (bytesP els).map fun l => .v (.string ⟨l.toArray⟩) := by simp only [RF.ev]; split <;> simp_all
theorem f_s2b {s : ByteArray} : RF.ev .s2b [.v (.string s)] = if s.size < 140737488355328 then some (.sl (byteEls s)) else none := rfl
theorem f_same {as bs : List (List PV)} : RF.ev .same [.sl as, .sl bs] = if as.length = bs.length then some (.sl as) else none := rfl
theorem i_add : intB .add k a k b = some (.v (.int k (k.wrap (a + b)))) := by simp only [intB, if_true]
theorem i_sub : intB .sub k a k b = some (.v (.int k (k.wrap (a - b)))) := by simp only [intB, if_true]
theorem i_mul : intB .mul k a k b = some (.v (.int k (k.wrap (a * b)))) := by simp only [intB, if_true]
theorem i_quo : intB .quo k a k b = if b = 0 then none else some (.v (.int k (k.wrap (a.tdiv b)))) := by simp only [intB, if_true]
theorem i_rem : intB .rem k a k b = if b = 0 then none else some (.v (.int k (a.tmod b))) := by simp only [intB, if_true]
theorem i_or : intB .or k a k b = some (.v (.int k (k.wrap (BitVec.ofInt k.bits a ||| BitVec.ofInt k.bits b).toNat))) := by simp only [intB, if_true]
theorem i_and : intB .and k a k b = some (.v (.int k (k.wrap (BitVec.ofInt k.bits a &&& BitVec.ofInt k.bits b).toNat))) := by simp only [intB, if_true]
theorem i_shl : intB .shl k a k' b = if b < 0 then none else some (.v (.int k (k.wrap (a * 2 ^ (min b.toNat k.bits))))) := rfl
theorem i_shr : intB .shr k a k' b = if b < 0 then none else some (.v (.int k (a.fdiv (2 ^ (min b.toNat k.bits))))) := rfl
theorem i_eql : intB .eql k a k b = some (.v (.bool (decide (a = b)))) := by simp only [intB, if_true]
theorem i_neq : intB .neq k a k b = some (.v (.bool (!decide (a = b)))) := by simp only [intB, if_true]
theorem i_lss : intB .lss k a k b = some (.v (.bool (decide (a < b)))) := by simp only [intB, if_true]
theorem i_leq : intB .leq k a k b = some (.v (.bool (decide (a ≤ b)))) := by simp only [intB, if_true]
theorem i_gtr : intB .gtr k a k b = some (.v (.bool (decide (b < a)))) := by simp only [intB, if_true]
theorem i_geq : intB .geq k a k b = some (.v (.bool (decide (b ≤ a)))) := by simp only [intB, if_true]
theorem b_eql : boolB .eql x y = some (.v (.bool (x == y))) := rfl
theorem b_neq : boolB .neq x y = some (.v (.bool (!(x == y)))) := rfl
theorem s_eql {s t : ByteArray} : strB .eql s t = some (.v (.bool (s.toList == t.toList))) := rfl
theorem s_neq {s t : ByteArray} : strB .neq s t = some (.v (.bool (!(s.toList == t.toList)))) := rfl
end
theorem w_u64 (n : Int) : IntKind.u64.wrap n = n % 18446744073709551616 := by simp [IntKind.wrap, IntKind.bits, IntKind.signed]
theorem w_u8 (n : Int) : IntKind.u8.wrap n = n % 256 := by simp [IntKind.wrap, IntKind.bits, IntKind.signed]
theorem w_i64 {n : Int} (h : -9223372036854775808 ≤ n) (k : n ≤ 9223372036854775807) : IntKind.i64.wrap n = n := by
 simp only [IntKind.wrap, IntKind.bits, IntKind.signed]; simp; split <;> omega
theorem l_cons {a : PV} {as bs : List PV} : a :: as ++ bs = a :: (as ++ bs) := rfl
theorem l_nil {as : List PV} : [] ++ as = as := rfl
theorem j_cons {a : JT} {as bs : List JT} : a :: as ++ bs = a :: (as ++ bs) := rfl
theorem j_nil {as : List JT} : [] ++ as = as := rfl
theorem len_cons {a : PV} {as : List PV} : (a :: as).length = as.length + 1 := rfl
theorem len_nil : ([] : List PV).length = 0 := rfl
def EV := And.intro @l_cons (And.intro @l_nil (And.intro @j_cons (And.intro @j_nil (And.intro @len_cons (And.intro @len_nil (And.intro @den_lt (And.intro @evsC_cons (And.intro @evs_nil (And.intro @evC_some (And.intro @evD_some (And.intro @ev_x (And.intro @ev_c (And.intro @nth_zero (And.intro @nth_succ (And.intro @denL_some (And.intro @denF_some (And.intro @den_call (And.intro @denC_some (And.intro @denP_some (And.intro @den_br (And.intro @denB_some (And.intro @den_ret (And.intro @den_jp (And.intro @den_loop (And.intro @den_jmp (And.intro @denM_some (And.intro @denJ_ap (And.intro @f_bin (And.intro @f_bins (And.intro @f_bbin (And.intro @f_not (And.intro @f_neg (And.intro @f_conv (And.intro @f_shape (And.intro @f_cell (And.intro @f_len (And.intro @f_flat_v (And.intro @f_tree_sl (And.intro @f_tree_v (And.intro @f_slen (And.intro @f_sum (And.intro @f_dif (And.intro @i_add (And.intro @i_sub (And.intro @i_mul (And.intro @i_or (And.intro @i_and (And.intro @i_eql (And.intro @i_neq (And.intro @i_lss (And.intro @i_leq (And.intro @i_gtr (And.intro @i_geq (And.intro @b_eql (And.intro @b_neq (And.intro @s_eql (And.intro @s_neq (@eltR_some))))))))))))))))))))))))))))))))))))))))))))))))))))))))))
end Go.Sym
