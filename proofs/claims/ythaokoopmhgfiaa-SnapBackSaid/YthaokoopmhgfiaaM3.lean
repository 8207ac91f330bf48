import Derived.Test.YthaokoopmhgfiaaM2
import Derived.Test.YthaokoopmhgfiaaM1
set_option linter.unusedVariables false
set_option linter.unusedSimpArgs false
set_option linter.defProp false
noncomputable section
namespace Go.Pev
open Go.Abu
section
variable {P : Program} {ρ : Nat → Option Nat} {S : St} {H : AH} {F : Nat → Prop} {pbar bar : Nat}
theorem putM_row (h : RS ρ S H F pbar bar) {b B : Nat} {es es' : List MapEntry × Nat} (hb : S.getM b = some es) (hρ : ρ b = some B) :
  RS ρ (S.putM b es') (H.put B (.map es'.1 es'.2)) F pbar bar ∧ Out ρ S H F ρ (S.putM b es') (H.put B (.map es'.1 es'.2)) F := by
 obtain ⟨hbn, hbg⟩ := h.mdom b es hb;have hBown : Own ρ S B := .inr ⟨b, es, hb, hρ⟩;have hB := h.lt b B hρ;have hs : ∀ B', B' ≠ B → (H.put B (.map es'.1 es'.2)).get B' = H.get B' := fun B' hne => by
  show (if B' = B then _ else _) = _; rw [if_neg hne]; rfl
 have hg : (H.put B (.map es'.1 es'.2)).get B = some (.map es'.1 es'.2) := by
  show (if B = B then _ else _) = _; rw [if_pos rfl]
 have back : ∀ b₁ x, (S.putM b es').getM b₁ = some x → ∃ x', S.getM b₁ = some x' := by
  intro b₁ x a1;rw [St.getM_putM] at a1;split at a1
  ·rename_i e₁; subst e₁; exact ⟨es, hb⟩
  ·exact ⟨x, a1⟩
 have hown : ∀ B, Own ρ (S.putM b es') B → Own ρ S B := by
  rintro B (⟨b₁, x, a1, a2, a3⟩ | ⟨b₁, x, a1, a3⟩)
  ·exact .inl ⟨b₁, x, a1, a2, a3⟩
  ·obtain ⟨x', g⟩ := back b₁ x a1; exact .inr ⟨b₁, x', g, a3⟩
 have hne : ∀ b₁ e₁ B₁, S.get b₁ = some e₁ → ρ b₁ = some B₁ → B₁ ≠ B := fun b₁ e₁ B₁ g1 g2 e => h.injM b₁ b e₁ es B g1 hb (e ▸ g2) hρ;have out : Out ρ S H F ρ (S.putM b es') (H.put B (.map es'.1 es'.2)) F := by
  refine ⟨fun b B hb => hb, Nat.le_refl _, Nat.le_refl _, fun b₁ hb₁ hg₁ => hg₁, fun b₁ e₁ hb₁ hg₁ => ⟨e₁, hg₁, rfl, rfl, rfl, fun h => h⟩, fun b₁ e₁ B₁ c₁ t₁ z₁ hb₁ hg₁ hρ₁ hB₁ => ⟨c₁, ?_, rfl⟩, ⟨fun _ h => h, fun B₁ hB₁ => ?_⟩, fun B hB => .inl hB, fun B _ hO => hown B hO, fun B₁ hB₁ hO => ?_, fun _ _ => rfl, fun b' _ hm => by rw [St.getM_putM]; split; (rename_i e; rw [e, hb] at hm; cases hm); exact hm⟩
  ·rw [hs B₁ (hne b₁ e₁ B₁ hg₁ hρ₁)]; exact hB₁
  ·exact hs B₁ fun e => h.fix B hBown (e ▸ hB₁)
  ·exact hs B₁ fun e => hO (e ▸ hBown)
 refine ⟨⟨h.rdom, h.sdom, fun b₁ x hg₁ => ?_, h.lt, fun b₁ x hg₁ => ?_, fun b₁ x hg₁ => ?_, h.inj, fun b₁ b₂ x y B₁ a1 a2 a3 a4 => ?_, fun b₁ b₂ x y B₁ a1 a2 a3 a4 => ?_,
  fun B hO hF => h.fix B (hown B hO) hF, h.flt, h.bars, fun b₁ x B₁ a1 a2 a3 => ?_, h.barn, h.pbarn, h.froz⟩, out⟩
 ·obtain ⟨x', g⟩ := back b₁ x hg₁; exact h.mdom b₁ x' g
 ·rcases h.ent b₁ x hg₁ with ⟨B₁, c₁, t₁, z₁, a1, a2, a3⟩ | a
  ·exact .inl ⟨B₁, c₁, t₁, z₁, a1, by rw [hs B₁ (hne b₁ x B₁ hg₁ a1)]; exact a2, a3.step out.stp h.rdom⟩
  ·exact .inr a
 ·rw [St.getM_putM] at hg₁;split at hg₁
  ·rename_i e; subst e; cases hg₁; exact ⟨B, hρ, hg⟩
  ·rename_i hne';obtain ⟨B₁, a1, a2⟩ := h.emap b₁ x hg₁;exact ⟨B₁, a1, by rw [hs B₁ fun e => hne' (h.injMM b₁ b x es B hg₁ hb (e ▸ a1) hρ)]; exact a2⟩
 ·obtain ⟨y', g⟩ := back b₂ y a2; exact h.injM b₁ b₂ x y' B₁ a1 g a3 a4
 ·obtain ⟨x', g1⟩ := back b₁ x a1;obtain ⟨y', g2⟩ := back b₂ y a2;exact h.injMM b₁ b₂ x' y' B₁ g1 g2 a3 a4
 ·obtain ⟨x', g1⟩ := back b₁ x a1;exact h.barsM b₁ x' B₁ g1 a2 a3
theorem allocM_row (h : RS ρ S H F pbar bar) {es : List MapEntry × Nat} {H' : AH} (hH : H' = { next := H.next + 1, m := fun x => if x = H.next then some (.map es.1 es.2) else H.m x }) :
  RS (up ρ S.next H.next) (S.allocM es) H' F pbar bar ∧ Out ρ S H F (up ρ S.next H.next) (S.allocM es) H' F := by
 have hs : ∀ B', B' < H.next → H'.get B' = H.get B' := fun B' hB => by subst hH; exact get_old hB
 have hg : H'.get H.next = some (.map es.1 es.2) := by subst hH; exact getM_alloc'
 have hn : H'.next = H.next + 1 := by subst hH; rfl
 have e1 : (S.allocM es).next = S.next + 1 := rfl;have e2 : ∀ b, (S.allocM es).get b = S.get b := fun _ => rfl;have e3 : ∀ b, (S.allocM es).getM b = if b = S.next then some es else S.getM b := fun _ => rfl
 have hown : ∀ B, B < H.next → Own (up ρ S.next H.next) (S.allocM es) B → Own ρ S B := by
  rintro B hB (⟨b, x, a1, a2, a3⟩ | ⟨b, x, a1, a3⟩)
  ·rw [e2] at a1;have hb : b ≠ S.next := by have := h.sdom b x a1; omega
   rw [up_ne hb] at a3;exact .inl ⟨b, x, a1, a2, a3⟩
  ·rw [e3] at a1;split at a1
   ·rename_i hb; subst hb; rw [up_self] at a3; cases a3; omega
   ·rename_i hb; rw [up_ne hb] at a3; exact .inr ⟨b, x, a1, a3⟩
 have out : Out ρ S H F (up ρ S.next H.next) (S.allocM es) H' F := by
  refine ⟨fun b B hb => ?_, by omega, by omega, fun b hb hg => hg, fun b e' hb hg => ⟨e', hg, rfl, rfl, rfl, fun h => h⟩, fun b e' B c t z hb hg hρ hB => ⟨c, ?_, rfl⟩, ⟨fun _ h => h, fun B hB => hs B (h.flt B hB)⟩, fun B hB => .inl hB, hown, fun B hB hO => hs B hB, fun b' hb' => up_ne (by omega), fun b' hb' hm => by rw [St.getM_allocM, if_neg (by omega)]; exact hm⟩
  ·rw [up_ne (by have := h.rdom b B hb; omega)]; exact hb
  ·rw [hs B (h.lt b B hρ)]; exact hB
 refine ⟨⟨fun b B hb => ?_, fun b x hg => ?_, fun b x hg => ?_, fun b B hb => ?_, fun b x hg => ?_, fun b x hg => ?_, fun b b' x y B h1 h2 h3 h4 => ?_, fun b b' x y B h1 h2 h3 h4 => ?_, fun b b' x y B h1 h2 h3 h4 => ?_,
  fun B hO hF => ?_, fun B hB => ?_, fun b x B h1 h2 h3 => ?_, fun b x B h1 h2 h3 => ?_, ?_, ?_, fun b x B h1 h2 h3 => ?_⟩, out⟩
 ·by_cases hb' : b = S.next
  ·omega
  ·rw [up_ne hb'] at hb; have := h.rdom b B hb; omega
 ·rw [e2] at hg; have := h.sdom b x hg; omega
 ·rw [e3] at hg;split at hg
  ·rename_i hb; subst hb;refine ⟨by omega, ?_⟩;rw [e2];cases hx : S.get S.next with
   | none => rfl
   | some x => have := h.sdom _ x hx; omega
  ·have := h.mdom b x hg; exact ⟨by omega, this.2⟩
 ·by_cases hb' : b = S.next
  ·subst hb'; rw [up_self] at hb; cases hb; omega
  ·rw [up_ne hb'] at hb; have := h.lt b B hb; omega
 ·rw [e2] at hg;have hb : b ≠ S.next := by have := h.sdom b x hg; omega
  rw [up_ne hb];rcases h.ent b x hg with ⟨B, c', t', z', a1, a2, a3⟩ | a
  ·exact .inl ⟨B, c', t', z', a1, by rw [hs B (h.lt b B a1)]; exact a2, a3.step out.stp h.rdom⟩
  ·exact .inr a
 ·rw [e3] at hg;split at hg
  ·rename_i hb; subst hb; cases hg; exact ⟨H.next, up_self _ _, by assumption⟩
  ·rename_i hb;obtain ⟨B, a1, a2⟩ := h.emap b x hg;exact ⟨B, by rw [up_ne hb]; exact a1, by rw [hs B (h.lt b B a1)]; exact a2⟩
 ·rw [e2] at h1 h2;rw [up_ne (by have := h.sdom b x h1; omega)] at h3;rw [up_ne (by have := h.sdom b' y h2; omega)] at h4;exact h.inj b b' x y B h1 h2 h3 h4
 ·rw [e2] at h1; rw [e3] at h2;rw [up_ne (by have := h.sdom b x h1; omega)] at h3;split at h2
  ·rename_i hb; subst hb; rw [up_self] at h4; cases h4; have := h.lt b _ h3; omega
  ·rename_i hb; rw [up_ne hb] at h4; exact h.injM b b' x y B h1 h2 h3 h4
 ·rw [e3] at h1 h2;by_cases c1 : b = S.next <;> by_cases c2 : b' = S.next
  ·rw [c1, c2]
  ·exfalso; subst c1; rw [up_self] at h3; cases h3; rw [up_ne c2] at h4; have := h.lt b' _ h4; omega
  ·exfalso; subst c2; rw [up_self] at h4; cases h4; rw [up_ne c1] at h3; have := h.lt b _ h3; omega
  ·rw [if_neg c1] at h1; rw [if_neg c2] at h2; rw [up_ne c1] at h3; rw [up_ne c2] at h4;exact h.injMM b b' x y B h1 h2 h3 h4
 ·by_cases hB : B < H.next
  ·exact h.fix B (hown B hB hO) hF
  ·have := h.flt B hF; omega
 ·have := h.flt B hB; omega
 ·rw [e2] at h1;rw [up_ne (by have := h.sdom b x h1; omega)] at h2;exact h.bars b x B h1 h2 h3
 ·rw [e3] at h1;split at h1
  ·rename_i hb; subst hb; rw [up_self] at h2; cases h2; exact h.barn
  ·rename_i hb; rw [up_ne hb] at h2; exact h.barsM b x B h1 h2 h3
 ·have := h.barn; omega
 ·have := h.pbarn; omega
 ·rw [e2] at h1;rw [up_ne (by have := h.sdom b x h1; omega)] at h3;exact h.froz b x B h1 h2 h3
theorem ofVal_rel {x : Value} {p : PV} (h : ofVal x = some p) : RV ρ S H F x p := by
 unfold ofVal at h;split at h
 ·rename_i cs;split at h
  ·rename_i hp;cases h;refine .agg ?_;generalize cs.toList = l at hp;induction l with
   | nil => exact .nil
   | cons a l ih =>
    simp only [List.all_cons, Bool.and_eq_true] at hp;exact .cons (.of_v hp.1) (ih hp.2)
  ·cases h
 ·split at h
  ·rename_i hp; cases h; exact .of_v hp
  ·cases h
theorem lookup_rel (hs : RS ρ S H F pbar bar) {t : TypeId} {x k q : PV} {vx vk : Value} {ok : Bool} (h : pLookup P S t x k ok = some q) (hx : RV ρ S H F vx x) (hk : RV ρ S H F vk k) :
  ∃ u, aLookup P H t vx vk ok = some u ∧ RV ρ S H F u q := by
 unfold pLookup at h;split at h
 ·rename_i kt et hu;split at h
  ·rename_i b;split at h
   ·rename_i es hes;split at h
    ·rename_i kv hkv;obtain ⟨rfl, hpk⟩ := toVal_rel hkv hk;split at h
     ·rename_i z hz;split at h
      ·rename_i r hr;split at h
       ·rename_i hp;simp only [Bool.and_eq_true] at hp;split at h
        ·rename_i w hw;cases h;cases hx with
         | tree hx => cases hx
         | @mp _ B hρ =>
          obtain ⟨B', a1, a2⟩ := hs.emap b es hes;rw [hρ] at a1; cases a1;have hwr := ofVal_rel (ρ := ρ) (S := S) (H := H) (F := F) hw;unfold find at hr;split at hr
          ·rename_i hkp;simp only [Bool.and_eq_true] at hkp;split at hr
           ·rename_i c hc;have hA : aLookup P H t (.map (some B)) vk ok = some (if ok then .tuple #[orZero r z, .bool r.isSome] else orZero r z) := by
             unfold aLookup;rw [hu];simp only [hz, Option.bind_some];rw [if_pos (by simp [hpk, hp.1])];simp only [a2, Option.bind_some, hc];rw [if_pos hkp.1, hr];clear hw hwr hr hp;cases r <;> rfl
            refine ⟨_, hA, ?_⟩;cases ok
            ·exact hwr
            ·exact .tup (.cons hwr (.cons (.of_v rfl) .nil))
           ·cases hr
          ·cases hr
        ·cases h
       ·cases h
      ·cases h
     ·cases h
    ·cases h
   ·cases h
  ·cases h
 ·cases h
theorem mapUpdate_rel (hs : RS ρ S H F pbar bar) {t : TypeId} {m k x : PV} {vm vk vx : Value} {S' : St} (h : pMapUpdate P pbar S t m k x = some S') (hm : RV ρ S H F vm m) (hk : RV ρ S H F vk k) (hx : RV ρ S H F vx x) :
  ∃ H', aMapUpdate P bar H t vm vk vx = some H' ∧ RS ρ S' H' F pbar bar ∧ Out ρ S H F ρ S' H' F := by
 unfold pMapUpdate at h;split at h
 ·rename_i kt et hu;split at h
  ·rename_i b;split at h
   ·rename_i es hes;split at h
    ·rename_i kv hkv;obtain ⟨rfl, hpk⟩ := toVal_rel hkv hk;split at h
     ·rename_i xv hxv;obtain ⟨rfl, hpx⟩ := toVal_rel hxv hx;split at h
      ·rename_i hc;simp only [Bool.and_eq_true, decide_eq_true_eq] at hc;obtain ⟨⟨⟨c1, c2⟩, c3⟩, c4⟩ := hc;cases hm with
       | tree hm => cases hm
       | @mp _ B hρ =>
        obtain ⟨B', a1, a2⟩ := hs.emap b es hes;rw [hρ] at a1; cases a1;have hbar := hs.barsM b es B hes hρ c2;split at h
        ·rename_i u hu';split at h
         ·rename_i i y hf;split at h
          ·rename_i e he;split at h
           ·rename_i hsb;cases h;obtain ⟨r1, r2⟩ := putM_row (es' := (es.1.modify i fun e => { e with key := vk, val := vx }, es.2)) hs hes hρ
            refine ⟨_, ?_, r1, r2⟩;unfold aMapUpdate;rw [hu];simp only;rw [if_pos (by simp [hpk, hbar]), a2];simp only;rw [if_pos c3, hu'];simp only [Option.bind_some, hf, he];rw [if_pos hsb]
           ·cases h
          ·cases h
         ·rename_i hf;cases h;obtain ⟨r1, r2⟩ := putM_row (es' := (es.1 ++ [{ key := vk, val := vx, born := es.2 }], es.2 + 1)) hs hes hρ;refine ⟨_, ?_, r1, r2⟩;unfold aMapUpdate;rw [hu];simp only;rw [if_pos (by simp [hpk, hbar]), a2];simp only;rw [if_pos c3, hu'];simp only [Option.bind_some, hf]
         ·cases h
        ·cases h
      ·cases h
     ·cases h
    ·cases h
   ·cases h
  ·cases h
 ·cases h
end
end Go.Pev
namespace Go.Pev
open Go.Abu
section
variable {P : Program} {ρ : Nat → Option Nat} {S : St} {H : AH} {F : Nat → Prop} {pbar bar : Nat}
theorem opds_rel {f : PF} {env : Env} (he : EnvP ρ S H F f env) : ∀ {l : List Operand} {ps : List PV}, opds f l = some ps → ∃ vs, mapEnv env l = some vs ∧ RVs ρ S H F vs ps
 | [], ps, h => by cases h; exact ⟨[], rfl, .nil⟩
 | x :: l, ps, h => by
  unfold opds at h;split at h
  ·rename_i p hp;split at h
   ·rename_i r hr;cases h;obtain ⟨v, a1, a2⟩ := he x p hp;obtain ⟨vs, b1, b2⟩ := opds_rel he hr;exact ⟨v :: vs, by unfold mapEnv; rw [a1]; simp only [b1]; rfl, .cons a2 b2⟩
   ·cases h
  ·cases h
theorem optP_rel {f : PF} {env : Env} (he : EnvP ρ S H F f env) {x : Option Operand} {p : Option PV} (h : optP f x = some p) : ∃ v, optEnv env x = some v ∧ OptV ρ S H F v p := by
 cases x with
 | none => cases h; exact ⟨none, rfl, trivial⟩
 | some x =>
  simp only [optP] at h;split at h
  ·rename_i q hq;cases h;obtain ⟨v, a1, a2⟩ := he x q hq;exact ⟨some v, by simp only [optEnv, a1]; rfl, a2⟩
  ·cases h
theorem two_args {vs : List Value} {x y : PV} (h : RVs ρ S H F vs [x, y]) : ∃ a b, vs = [a, b] ∧ RV ρ S H F a x ∧ RV ρ S H F b y := by
 cases h with
 | cons h1 t => cases t with
  | cons h2 t => cases t; exact ⟨_, _, rfl, h1, h2⟩
theorem one_arg {vs : List Value} {x : PV} (h : RVs ρ S H F vs [x]) : ∃ a, vs = [a] ∧ RV ρ S H F a x := by
 cases h with
 | cons h1 t => cases t; exact ⟨_, rfl, h1⟩
theorem builtin_rel (hs : RS ρ S H F pbar bar) {b : Builtin} {ts : Array TypeId} {args : List PV} {vs : List Value} {p : PV} {S' : St} (h : pBuiltin P pbar S b ts args = some (p, S')) (hr : RVs ρ S H F vs args) :
  ∃ u H' ρ', aBuiltin P bar H b ts vs.toArray = some (.val u H') ∧ Did ρ S H F pbar bar p S' u H' ρ' F := by
 have pure : ∀ {f : Array Value → Option Value}, (match toVs args with
   | some l => match f l.toArray with
    | some r => if l.all plain1 && plain1 r then some (PV.v r, S) else none
    | none => none
   | none => none) = some (p, S') → ∃ u, (if vs.toArray.toList.all plain1 then val H ((f vs.toArray).bind fun r => if plain1 r then some r else none) else none) = some (.val u H) ∧ Did ρ S H F pbar bar p S' u H ρ F := by
  intro f h;split at h
  ·rename_i l hl;obtain ⟨rfl, hp⟩ := toVs_rel hl hr;split at h
   ·rename_i r hf;split at h
    ·rename_i hc;simp only [Bool.and_eq_true] at hc;cases h;refine ⟨r, ?_, Did.pure hs (.of_v hc.2)⟩;rw [if_pos (by simpa using hp), hf]
     simp only [Option.bind_some];rw [if_pos hc.2];rfl
    ·cases h
   ·cases h
  ·cases h
 unfold pBuiltin at h;split at h
 ·split at h
  ·rename_i st xt hts;split at h
   ·obtain ⟨a, b, rfl, h1, h2⟩ := two_args hr;exact append_rel hs hts h h1 h2
   ·cases h
  ·cases h
 ·split at h
  ·rename_i t hts;split at h
   ·rename_i x;obtain ⟨a, rfl, h1⟩ := one_arg hr;split at h
    ·rename_i v hv;cases h;obtain ⟨u, e1, e2⟩ := len_rel hs hts hv h1;exact ⟨u, H, ρ, by unfold aBuiltin; simp only; rw [e1]; rfl, Did.pure hs e2⟩
    ·cases h
   ·cases h
  ·cases h
 ·obtain ⟨u, e1, e2⟩ := pure (f := fun xs => pureRun P (Builtin.max_ ts 0 xs)) h;exact ⟨u, H, ρ, e1, e2⟩
 ·obtain ⟨u, e1, e2⟩ := pure (f := fun xs => pureRun P (Builtin.min_ ts 0 xs)) h;exact ⟨u, H, ρ, e1, e2⟩
 ·cases h
theorem un_rel {uop : UnOp} {a r : PV} {va : Value} (hr : pUn P uop a = some r) (h : RV ρ S H F va a) : ∃ u, (plain1 va = true ∧ ((pureRun P (Op.unary uop va)).bind fun r => if plain1 r then some r else none) = some u) ∧ RV ρ S H F u r := by
 cases a with
 | v w =>
  obtain ⟨rfl, hp⟩ := RV.inv_v h;simp only [pUn] at hr;rw [if_pos hp] at hr;cases hy : pureRun P (Op.unary uop va) with
  | none => rw [hy] at hr; cases hr
  | some y =>
   rw [hy] at hr;simp only at hr;split at hr
   ·rename_i hpy;cases hr;exact ⟨y, ⟨hp, by rw [Option.bind_some, if_pos hpy]⟩, .of_v hpy⟩
   ·cases hr
 | _ => simp only [pUn] at hr; cases hr
theorem op_rel (hs : RS ρ S H F pbar bar) {f : PF} {env : Env} (he : EnvP ρ S H F f env) (hec : EnvC env) {op : Op} {p : PV} {S' : St} (h : pOp P pbar f S op = some (.val p S')) :
  ∃ v H' ρ' F', aop P bar env H op = some (.val v H') ∧ Did ρ S H F pbar bar p S' v H' ρ' F' := by
 have pv : ∀ {x : Option Value} {u : Value} {q : PV}, x = some u → RV ρ S H F u q → ∃ v H' ρ' F', val H x = some (.val v H') ∧ Did ρ S H F pbar bar q S v H' ρ' F' := by
  intro x u q hx hr;subst hx;exact ⟨u, H, ρ, F, rfl, Did.pure hs hr⟩
 cases op <;> simp only [pOp] at h
 case move x =>
  split at h
  ·rename_i q hq; cases h;obtain ⟨v, a1, a2⟩ := he x _ hq;exact pv a1 a2
  ·cases h
 case assign x =>
  split at h
  ·rename_i q hq; cases h;obtain ⟨v, a1, a2⟩ := he x _ hq;exact pv a1 a2
  ·cases h
 case pick c a b =>
  split at h
  ·rename_i t ht;obtain ⟨v, a1, a2⟩ := he c _ ht;obtain rfl := RV.inv_bool a2;split at h
   ·rename_i q hq; cases h;obtain ⟨u, b1, b2⟩ := he _ _ hq;exact pv (x := aPick env c a b) (by unfold aPick; rw [a1]; exact b1) b2
   ·cases h
  ·cases h
 case alloc t =>
  split at h
  ·rename_i q s' hq; cases h;obtain ⟨u, H', ρ', e1, e2⟩ := alloc_rel hs hq;exact ⟨u, H', ρ', F, e1, e2⟩
  ·cases h
 case box t x =>
  split at h
  ·rename_i q hq;obtain ⟨v, a1, a2⟩ := he x _ hq;split at h
   ·rename_i q' s' hq'; cases h;obtain ⟨u, H', ρ', e1, e2⟩ := box_rel hs hq' a2;exact ⟨u, H', ρ', F, by simp only [aop]; rw [a1]; exact e1, e2⟩
   ·cases h
  ·cases h
 case build t ps =>
  split at h
  ·rename_i l hl;obtain ⟨vs, a1, a2⟩ := pairs_rel he hl;split at h
   ·rename_i q hq; cases h;obtain ⟨u, e1, e2⟩ := build_rel hq a2;simp only [aop, a1, Option.bind_some];exact pv e1 e2
   ·cases h
  ·cases h
 case buildSlice t n ps =>
  split at h
  ·rename_i l hl;obtain ⟨vs, a1, a2⟩ := pairs_rel he hl;split at h
   ·rename_i q s' hq; cases h;obtain ⟨u, H', ρ', F', e1, e2⟩ := buildSlice_rel hs hq a2;exact ⟨u, H', ρ', F', by simp only [aop, a1, Option.bind_some]; exact e1, e2⟩
   ·cases h
  ·cases h
 case load t a =>
  split at h
  ·rename_i q hq;obtain ⟨v, a1, a2⟩ := he a _ hq;split at h
   ·rename_i r hr; cases h;obtain ⟨B, x, u, rfl, e1, e2⟩ := load_rel hs hr a2;simp only [aop, a1];exact pv e1 e2
   ·cases h
  ·cases h
 case store t a x =>
  split at h
  ·rename_i q hq;obtain ⟨v, a1, a2⟩ := he a _ hq;split at h
   ·rename_i r hr;obtain ⟨u, b1, b2⟩ := he x _ hr;split at h
    ·rename_i s' hs'; cases h;obtain ⟨B, o, H', F', rfl, e1, e2, e3⟩ := store_rel hs hs' a2 b2;refine ⟨undef, H', ρ, F', ?_, e2, e3, .tup .nil⟩;simp only [aop, a1, b1];rw [e1]; rfl
    ·cases h
   ·cases h
  ·cases h
 case nilCheck x =>
  split at h
  ·rename_i b i o hq;cases h;obtain ⟨v, a1, a2⟩ := he x _ hq;simp only [aop, a1, Option.bind_some];refine pv (u := v) ?_ a2;cases a2 with
   | tree h => cases h
   | ptr => rfl
   | goneP => rfl
  ·rename_i g a b hq;cases h;obtain ⟨v, a1, a2⟩ := he x _ hq;simp only [aop, a1, Option.bind_some];refine pv (u := v) ?_ a2;cases a2 with
   | tree h => cases h; rfl
   | fn => rfl
  ·cases h
 case binOp bop t x y yt =>
  split at h
  ·rename_i a ha;obtain ⟨va, a1, a2⟩ := he x _ ha;split at h
   ·rename_i b hb;obtain ⟨vb, b1, b2⟩ := he y _ hb;split at h
    ·rename_i r hr; cases h;obtain ⟨u, e1, e2⟩ := bin_rel hec b1 hr a2 b2;simp only [aop, a1, b1];exact pv e1 e2
    ·cases h
   ·cases h
  ·cases h
 case unOp uop t x =>
  split at h
  ·rename_i a ha;obtain ⟨va, a1, a2⟩ := he x _ ha;split at h
   ·rename_i r hr; cases h;obtain ⟨u, e1, e2⟩ := un_rel hr a2;simp only [aop, a1, Option.bind_some];rw [if_pos e1.1];exact pv e1.2 e2
   ·cases h
  ·cases h
 case convert src dst x =>
  split at h
  ·rename_i a ha;obtain ⟨va, a1, a2⟩ := he x _ ha;split at h
   ·rename_i r s' hr; cases h;obtain ⟨u, H', ρ', e1, e2⟩ := convert_rel hs hr a2;exact ⟨u, H', ρ', F, by simp only [aop, a1, Option.bind_some]; exact e1, e2⟩
   ·cases h
  ·cases h
 case makeFunc fn a c =>
  cases fn <;> simp only at h
  case func g =>
   split at h
   ·rename_i l hl;obtain ⟨vs, a1, a2⟩ := opds_rel he hl;split at h
    ·rename_i r hr; cases h;obtain ⟨us, b1, b2⟩ := opds_rel he hr;simp only [aop, a1, b1, Option.bind_some];exact pv rfl (.fn (by simpa using a2) (by simpa using b2))
    ·cases h
   ·cases h
  all_goals cases h
 case makeMap t r =>
  cases r with
  | some r => simp only at h; cases h
  | none =>
   simp only at h;split at h
   ·rename_i k e hu;cases h;obtain ⟨r1, r2⟩ := allocM_row (es := ([], 0)) hs rfl;refine ⟨.map (some H.next), _, _, F, ?_, r1, r2, .mp (up_self _ _)⟩;rfl
   ·cases h
 case makeSlice t l c =>
  split at h
  ·rename_i a ha;obtain ⟨va, a1, a2⟩ := he l _ ha;split at h
   ·rename_i b hb;obtain ⟨vb, b1, b2⟩ := he c _ hb;split at h
    ·rename_i r s' hr; cases h;obtain ⟨u, H', ρ', e1, e2⟩ := makeSlice_rel hs hr a2 b2;exact ⟨u, H', ρ', F, by simp only [aop, a1, b1]; exact e1, e2⟩
    ·cases h
   ·cases h
  ·cases h
 case slice t x lo hi mx =>
  cases mx with
  | some m => cases hi with
   | none => simp only at h; cases h
   | some hi =>
   simp only at h;split at h
   ·rename_i a ha;obtain ⟨va, a1, a2⟩ := he x _ ha;split at h
    ·rename_i l hl;obtain ⟨vl, l1, l2⟩ := optP_rel he hl;split at h
     ·rename_i hh hhi;obtain ⟨vh, h1, h2⟩ := he hi _ hhi;split at h
      ·rename_i mm hmm;obtain ⟨vm, m1, m2⟩ := he m _ hmm;split at h
       ·rename_i r hr; cases h;obtain ⟨u, e1, e2⟩ := slice3_rel hr a2 l2 h2 m2;have e3 : optEnv env (some hi) = some (some vh) := by simp only [optEnv, h1, Option.map_some]
        have e4 : optEnv env (some m) = some (some vm) := by simp only [optEnv, m1, Option.map_some]
        simp only [aop, a1, l1, e3, e4, Option.bind_some];exact pv (x := aSlice P H t va vl (some vh) (some vm)) e1 e2
       ·cases h
      ·cases h
     ·cases h
    ·cases h
   ·cases h
  | none =>
   simp only at h;split at h
   ·rename_i a ha;obtain ⟨va, a1, a2⟩ := he x _ ha;split at h
    ·rename_i l hl;obtain ⟨vl, l1, l2⟩ := optP_rel he hl;split at h
     ·rename_i hh hhi;obtain ⟨vh, h1, h2⟩ := optP_rel he hhi;split at h
      ·rename_i r hr; cases h;obtain ⟨u, e1, e2⟩ := slice_rel hs hr a2 l2 h2;simp only [aop, a1, l1, h1, Option.bind_some];exact pv (x := aSlice P H t va vl vh none) e1 e2
      ·cases h
     ·cases h
    ·cases h
   ·cases h
 case fieldAddr t x i =>
  split at h
  ·rename_i a ha;obtain ⟨va, a1, a2⟩ := he x _ ha;split at h
   ·rename_i r hr; cases h;obtain ⟨u, e1, e2⟩ := fieldAddr_rel hr a2;simp only [aop, a1, Option.bind_some];exact pv e1 e2
   ·cases h
  ·cases h
 case field t x i =>
  split at h
  ·rename_i a ha;obtain ⟨va, a1, a2⟩ := he x _ ha;split at h
   ·rename_i r hr; cases h;obtain ⟨u, e1, e2⟩ := field_rel hr a2;simp only [aop, a1, Option.bind_some];exact pv e1 e2
   ·cases h
  ·cases h
 case indexAddr t x i =>
  split at h
  ·rename_i a ha;obtain ⟨va, a1, a2⟩ := he x _ ha;split at h
   ·rename_i b hb;obtain ⟨vb, b1, b2⟩ := he i _ hb;split at h
    ·rename_i r hr; cases h;obtain ⟨u, e1, e2⟩ := indexAddr_rel hs hr a2 b2;simp only [aop, a1, b1];exact pv e1 e2
    ·cases h
   ·cases h
  ·cases h
 case index t x i =>
  split at h
  ·rename_i a ha;obtain ⟨va, a1, a2⟩ := he x _ ha;split at h
   ·rename_i b hb;obtain ⟨vb, b1, b2⟩ := he i _ hb;split at h
    ·rename_i r hr; cases h;obtain ⟨u, e1, e2⟩ := index_rel hr a2 b2;simp only [aop, a1, b1];exact pv e1 e2
    ·cases h
   ·cases h
  ·cases h
 case lookup t x k ok =>
  split at h
  ·rename_i a ha;obtain ⟨va, a1, a2⟩ := he x _ ha;split at h
   ·rename_i b hb;obtain ⟨vb, b1, b2⟩ := he k _ hb;split at h
    ·rename_i r hr; cases h;obtain ⟨u, e1, e2⟩ := lookup_rel hs hr a2 b2;simp only [aop, a1, b1];exact pv e1 e2
    ·cases h
   ·cases h
  ·cases h
 case mapUpdate t m k x =>
  split at h
  ·rename_i a ha;obtain ⟨va, a1, a2⟩ := he m _ ha;split at h
   ·rename_i b hb;obtain ⟨vb, b1, b2⟩ := he k _ hb;split at h
    ·rename_i c hc;obtain ⟨vc, c1, c2⟩ := he x _ hc;split at h
     ·rename_i s' hs'; cases h;obtain ⟨H', e1, e2, e3⟩ := mapUpdate_rel hs hs' a2 b2 c2;exact ⟨undef, H', ρ, F, by simp only [aop, a1, b1, c1]; rw [e1]; rfl, e2, e3, .tup .nil⟩
     ·cases h
    ·cases h
   ·cases h
  ·cases h
 case insert t m k x =>
  split at h
  ·rename_i a ha;obtain ⟨va, a1, a2⟩ := he m _ ha;split at h
   ·rename_i b hb;obtain ⟨vb, b1, b2⟩ := he k _ hb;split at h
    ·rename_i c hc;obtain ⟨vc, c1, c2⟩ := he x _ hc;split at h
     ·rename_i s' hs'; cases h;obtain ⟨H', e1, e2, e3⟩ := mapUpdate_rel hs hs' a2 b2 c2;exact ⟨undef, H', ρ, F, by simp only [aop, a1, b1, c1]; rw [e1]; rfl, e2, e3, .tup .nil⟩
     ·cases h
    ·cases h
   ·cases h
  ·cases h
 case extract x i =>
  split at h
  ·rename_i a ha;obtain ⟨va, a1, a2⟩ := he x _ ha;split at h
   ·rename_i r hr; cases h;obtain ⟨u, e1, e2⟩ := extract_rel hr a2;simp only [aop, a1, Option.bind_some];exact pv e1 e2
   ·cases h
  ·cases h
 case call c =>
  split at h
  ·rename_i args hargs;obtain ⟨vs, a1, a2⟩ := opds_rel he hargs;split at h
   ·rename_i b hb;split at h
    ·rename_i r s' hr; cases h;obtain ⟨u, H', ρ', e1, e2⟩ := builtin_rel hs hr a2;exact ⟨u, H', ρ', F, by simp only [aop]; unfold aCall; rw [a1, Option.bind_some, hb]; exact e1, e2⟩
    ·cases h
   ·split at h <;> cases h
   ·cases h
  ·cases h
 all_goals cases h
theorem op_call {f : PF} {env : Env} (he : EnvP ρ S H F f env) {op : Op} {g : FuncId} {args : List PV} (h : pOp P pbar f S op = some (.call g args)) :
  ∃ c x vs a b as, op = .call c ∧ c.callee = .value x ∧ opd f x = some (.fn g a b) ∧ opds f c.args.toList = some as ∧ args = a ++ as ++ b ∧ aop P bar env H op = aCallFunc P H g vs ∧ RVs ρ S H F vs args ∧
   (∃ f1 c1 us, env x = some (.func (.func g) f1 c1) ∧ mapEnv env c.args.toList = some us ∧ vs = f1.toList ++ us ++ c1.toList ∧ RVs ρ S H F f1.toList a ∧ RVs ρ S H F us as ∧ RVs ρ S H F c1.toList b) := by
 cases op <;> simp only [pOp] at h
 case call c =>
  split at h
  ·rename_i as has;obtain ⟨us, a1, a2⟩ := opds_rel he has;split at h
   ·split at h <;> cases h
   ·rename_i x hx;split at h
    ·rename_i g' a b hf;cases h;obtain ⟨v, b1, b2⟩ := he x _ hf;have key : ∃ f1 c1, v = .func (.func g) f1 c1 ∧ RVs ρ S H F f1.toList a ∧ RVs ρ S H F c1.toList b := by
      cases b2 with
      | tree h => cases h with
       | fn h1 h2 => exact ⟨_, _, rfl, RVs.tree h1, RVs.tree h2⟩
      | fn h1 h2 => exact ⟨_, _, rfl, h1, h2⟩
     obtain ⟨f1, c1, rfl, k1, k2⟩ := key;refine ⟨c, x, f1.toList ++ us ++ c1.toList, a, b, as, rfl, hx, hf, has, rfl, ?_, (k1.append a2).append k2, f1, c1, us, b1, a1, rfl, k1, a2, k2⟩;simp only [aop];unfold aCall;rw [a1, Option.bind_some, hx];simp only [b1]
    ·cases h
   ·cases h
  ·cases h
 case makeMap t r =>
  cases r <;> simp only at h
  ·split at h <;> cases h
  ·cases h
 case makeFunc fn a c =>
  cases fn <;> simp only at h
  case func g =>
   (repeat' split at h) <;> cases h
  all_goals cases h
 case slice t x lo hi mx =>
  cases mx with
  | none => simp only at h; (repeat' split at h) <;> cases h
  | some m => cases hi with
   | none => simp only at h; cases h
   | some hi => simp only at h; (repeat' split at h) <;> cases h
 all_goals first | (cases h; done) | ((repeat' split at h) <;> cases h)
end
end Go.Pev
namespace Go.Pev
open Go.Abu
section
variable {P : Program} {ρ₀ ρ : Nat → Option Nat} {S₀ S : St} {H₀ H : AH} {F₀ F : Nat → Prop} {pbar bar : Nat}
theorem not_own (h : RS ρ S H F pbar bar) {B : Nat} (hO : ¬ Own ρ S B) (hF : ¬ F B) : (∀ b e, S.get b = some e → ρ b ≠ some B) ∧ ∀ b es, S.getM b = some es → ρ b ≠ some B := by
 refine ⟨fun b e h1 h2 => ?_, fun b es h1 h2 => hO (.inr ⟨b, es, h1, h2⟩)⟩;cases hz : e.fz with
 | false => exact hO (.inl ⟨b, e, h1, hz, h2⟩)
 | true => exact hF (h.froz b e B h1 hz h2)
theorem adopt_rs (h : RS ρ S H F pbar bar) {B : Nat} {e : Ent} {c : List Value} {t : TypeId} {z : Nat} (hF : ¬ F B) (hO : ¬ Own ρ S B) (hB : B < H.next) (hbar : bar ≤ B) (hg : H.get B = some (.row c t z))
  (hc : Cont ρ S H F e c t z) (hf : e.fz = false) : RS (up ρ S.next B) (S.alloc e) H F pbar bar := by
 obtain ⟨no1, no2⟩ := not_own h hO hF;have hst : Stp ρ S H F (up ρ S.next B) (S.alloc e) H F := by
  refine ⟨fun b B' hb => ?_, by show S.next ≤ S.next + 1; omega, fun b hb hg => ?_, fun b e' B' c t z hb _ _ h3 => ⟨c, h3, rfl⟩, ⟨fun _ h => h, fun _ _ => rfl⟩⟩
  ·rw [up_ne (by have := h.rdom b B' hb; omega)]; exact hb
  ·rw [St.get_alloc, if_neg (by omega)]; exact hg
 have hM : ∀ b, (S.alloc e).getM b = S.getM b := fun _ => rfl;refine ⟨fun b B' hb => ?_, fun b x hg' => ?_, fun b x hg' => ?_, fun b B' hb => ?_, fun b x hg' => ?_, fun b x hg' => ?_, fun b b' x y B' h1 h2 h3 h4 => ?_, fun b b' x y B' h1 h2 h3 h4 => ?_, fun b b' x y B' h1 h2 h3 h4 => ?_,
  fun B' hO' hF' => ?_, h.flt, fun b x B' h1 h2 h3 => ?_, fun b x B' h1 h2 h3 => ?_, h.barn, ?_, fun b x B' h1 h2 h3 => ?_⟩
 ·show b < S.next + 1
  by_cases hb' : b = S.next
  ·omega
  ·rw [up_ne hb'] at hb; have := h.rdom b B' hb; omega
 ·show b < S.next + 1
  rw [St.get_alloc] at hg';split at hg'
  ·omega
  ·have := h.sdom b x hg'; omega
 ·rw [hM] at hg';have := h.mdom b x hg';exact ⟨by show b < S.next + 1; omega, by rw [St.get_alloc, if_neg (by omega)]; exact this.2⟩
 ·by_cases hb' : b = S.next
  ·subst hb'; rw [up_self] at hb; cases hb; exact hB
  ·rw [up_ne hb'] at hb; exact h.lt b B' hb
 ·rw [St.get_alloc] at hg';split at hg'
  ·rename_i hb; subst hb; cases hg';exact .inl ⟨B, c, t, z, up_self _ _, hg, hc.step hst h.rdom⟩
  ·rename_i hb;rw [up_ne hb];rcases h.ent b x hg' with ⟨B', c', t', z', a1, a2, a3⟩ | a
   ·exact .inl ⟨B', c', t', z', a1, a2, a3.step hst h.rdom⟩
   ·exact .inr a
 ·rw [hM] at hg';obtain ⟨B', a1, a2⟩ := h.emap b x hg';have := (h.mdom b x hg').1;exact ⟨B', by rw [up_ne (by omega)]; exact a1, a2⟩
 ·rw [St.get_alloc] at h1 h2;by_cases c1 : b = S.next <;> by_cases c2 : b' = S.next
  ·rw [c1, c2]
  ·exfalso; subst c1; rw [up_self] at h3; cases h3; rw [if_neg c2] at h2; rw [up_ne c2] at h4; exact no1 b' y h2 h4
  ·exfalso; subst c2; rw [up_self] at h4; cases h4; rw [if_neg c1] at h1; rw [up_ne c1] at h3; exact no1 b x h1 h3
  ·rw [if_neg c1] at h1; rw [if_neg c2] at h2; rw [up_ne c1] at h3; rw [up_ne c2] at h4;exact h.inj b b' x y B' h1 h2 h3 h4
 ·rw [St.get_alloc] at h1; rw [hM] at h2;have := (h.mdom b' y h2).1;rw [up_ne (by omega)] at h4;split at h1
  ·rename_i c1; subst c1; rw [up_self] at h3; cases h3; exact no2 b' y h2 h4
  ·rename_i c1; rw [up_ne c1] at h3; exact h.injM b b' x y B' h1 h2 h3 h4
 ·rw [hM] at h1 h2;have := (h.mdom b x h1).1;have := (h.mdom b' y h2).1;rw [up_ne (by omega)] at h3 h4;exact h.injMM b b' x y B' h1 h2 h3 h4
 ·rcases hO' with ⟨b, x, a1, a2, a3⟩ | ⟨b, x, a1, a3⟩
  ·rw [St.get_alloc] at a1;split at a1
   ·rename_i c1; subst c1; rw [up_self] at a3; cases a3; exact hF hF'
   ·rename_i c1; rw [up_ne c1] at a3; exact h.fix B' (.inl ⟨b, x, a1, a2, a3⟩) hF'
  ·rw [hM] at a1;have := (h.mdom b x a1).1;rw [up_ne (by omega)] at a3;exact h.fix B' (.inr ⟨b, x, a1, a3⟩) hF'
 ·rw [St.get_alloc] at h1;split at h1
  ·rename_i c1; subst c1; rw [up_self] at h2; cases h2; exact hbar
  ·rename_i c1; rw [up_ne c1] at h2; exact h.bars b x B' h1 h2 h3
 ·rw [hM] at h1;have := (h.mdom b x h1).1;rw [up_ne (by omega)] at h2;exact h.barsM b x B' h1 h2 h3
 ·show pbar ≤ S.next + 1
  have := h.pbarn; omega
 ·rw [St.get_alloc] at h1;split at h1
  ·cases h1; rw [hf] at h2; cases h2
  ·rename_i c1; rw [up_ne c1] at h3; exact h.froz b x B' h1 h2 h3
theorem adopt_out (h : RS ρ S H F pbar bar) (o : Out ρ₀ S₀ H₀ F₀ ρ S H F) {B : Nat} {e : Ent} (hnew : H₀.next ≤ B ∨ Own ρ₀ S₀ B) : Out ρ₀ S₀ H₀ F₀ (up ρ S.next B) (S.alloc e) H F := by
 have hM : ∀ b, (S.alloc e).getM b = S.getM b := fun _ => rfl;have sn := o.sn;refine ⟨fun b B' hb => ?_, by show S₀.next ≤ S.next + 1; omega, o.hn, fun b hb hg => ?_, fun b e' hb hg => ?_, fun b e' B' c t z hb hg hρ hB => ?_, o.keep, o.newF, fun B' hB' hO => ?_, o.frame, fun b hb => (up_ne (by omega)).trans (o.old b hb), o.mo⟩
 ·have := o.ext b B' hb;rw [up_ne (by have := h.rdom b B' this; omega)]; exact this
 ·rw [St.get_alloc, if_neg (by omega)]; exact o.gone b hb hg
 ·rw [St.get_alloc, if_neg (by omega)] at hg; exact o.same b e' hb hg
 ·rw [St.get_alloc, if_neg (by omega)] at hg; exact o.rows b e' B' c t z hb hg hρ hB
 ·rcases hO with ⟨b, x, a1, a2, a3⟩ | ⟨b, x, a1, a3⟩
  ·rw [St.get_alloc] at a1;split at a1
   ·rename_i c1; subst c1; rw [up_self] at a3; cases a3;rcases hnew with h | h
    ·omega
    ·exact h
   ·rename_i c1; rw [up_ne c1] at a3; exact o.own B' hB' (.inl ⟨b, x, a1, a2, a3⟩)
  ·rw [hM] at a1;have := (h.mdom b x a1).1;rw [up_ne (by omega)] at a3;exact o.own B' hB' (.inr ⟨b, x, a1, a3⟩)
theorem ext_back (h : RS ρ S H F pbar bar) {H' : AH} {F' : Nat → Prop} {S' : St} (hn : H.next ≤ H'.next) (hk : Keep H F H' F') (hlt : ∀ B, F' B → B < H'.next) (hfix : ∀ B, Own ρ S' B → ¬ F' B) (hnewF : ∀ B, F' B → F B ∨ H.next ≤ B ∨ Own ρ S B)
  (e1 : S'.next = S.next) (e2 : ∀ b, S'.getM b = S.getM b) (e3 : ∀ b, S.get b = none → S'.get b = none)
  (e4 : ∀ b e', S'.get b = some e' → ∃ e, S.get b = some e ∧ e'.box = e.box ∧ e'.ty = e.ty ∧ e'.z = e.z ∧ e'.fz = e.fz ∧
   ((e'.els = e.els ∧ ∀ B, ρ b = some B → H'.get B = H.get B) ∨
    (e.box = false ∧ (∀ B c t z, ρ b = some B → H.get B = some (.row c t z) → ∃ c', H'.get B = some (.row c' t z) ∧ c'.length = c.length ∧ REs H' F' z c' e'.els) ∧ (ρ b = none → e'.els = []))))
  (e5 : ∀ b es B, S.getM b = some es → ρ b = some B → H'.get B = H.get B) (hs : ∀ B, B < H.next → ¬ Own ρ S B → H'.get B = H.get B) :
  RS ρ S' H' F' pbar bar ∧ Out ρ S H F ρ S' H' F' := by
 have hown : ∀ B, Own ρ S' B → Own ρ S B := by
  rintro B (⟨b, x, a1, a2, a3⟩ | ⟨b, x, a1, a3⟩)
  ·obtain ⟨e, g1, _, _, _, g2, _⟩ := e4 b x a1;exact .inl ⟨b, e, g1, by rw [← g2]; exact a2, a3⟩
  ·rw [e2] at a1; exact .inr ⟨b, x, a1, a3⟩
 have out : Out ρ S H F ρ S' H' F' := by
  refine ⟨fun _ _ h => h, by omega, hn, fun b _ hg => e3 b hg, fun b e' hb hg => ?_, fun b e' B c t z hb hg hρ hB => ?_, hk, hnewF, fun B _ hO => hown B hO, hs, fun _ _ => rfl, fun b _ h => (e2 b).trans h⟩
  ·obtain ⟨e, g1, g2, g3, g4, g5, _⟩ := e4 b e' hg;exact ⟨e, g1, g2, g3, g4, fun h => by rw [g5]; exact h⟩
  ·obtain ⟨e, g1, g2, g3, g4, g5, g6 | g6⟩ := e4 b e' hg
   ·exact ⟨c, by rw [g6.2 B hρ]; exact hB, rfl⟩
   ·obtain ⟨c', k1, k2, _⟩ := g6.2.1 B c t z hρ hB;exact ⟨c', k1, k2⟩
 refine ⟨⟨fun b B hb => by have := h.rdom b B hb; omega, fun b x hg => ?_, fun b x hg => ?_, fun b B hb => Nat.lt_of_lt_of_le (h.lt b B hb) hn, fun b x hg => ?_, fun b x hg => ?_, fun b b' x y B h1 h2 h3 h4 => ?_, fun b b' x y B h1 h2 h3 h4 => ?_, fun b b' x y B h1 h2 h3 h4 => ?_,
  fun B hO hB => hfix B hO hB, hlt, fun b x B h1 h2 h3 => ?_, fun b x B h1 h2 h3 => ?_, Nat.le_trans h.barn hn, by have := h.pbarn; omega, fun b x B h1 h2 h3 => ?_⟩, out⟩
 ·obtain ⟨e, g1, _⟩ := e4 b x hg; have := h.sdom b e g1; omega
 ·rw [e2] at hg;have := h.mdom b x hg;exact ⟨by omega, e3 b this.2⟩
 ·obtain ⟨e, g1, g2, g3, g4, g5, g6⟩ := e4 b x hg;rcases h.ent b e g1 with ⟨B, c, t, z, a1, a2, a3⟩ | ⟨a1, a2, a3⟩
  ·refine .inl ⟨B, ?_⟩;rcases g6 with ⟨k1, k2⟩ | ⟨k1, k2, _⟩
   ·refine ⟨c, t, z, a1, by rw [k2 B a1]; exact a2, ?_⟩;have := a3.step out.stp h.rdom;unfold Cont at this ⊢;rw [g2, g3, g4, k1];exact this
   ·obtain ⟨c', d1, d2, d3⟩ := k2 B c t z a1 a2;refine ⟨c', t, z, a1, d1, ?_⟩;rcases a3 with ⟨k, _⟩ | ⟨_, f1, f2, f3, _⟩
    ·rw [k1] at k; cases k
    ·exact .inr ⟨g2.trans k1, by rw [g3]; exact f1, by rw [g4]; exact f2, f3, d3⟩
  ·refine .inr ⟨a1, g2.trans a2, ?_⟩;rcases g6 with ⟨k1, _⟩ | ⟨_, _, k1⟩
   ·exact k1.trans a3
   ·exact k1 a1
 ·rw [e2] at hg;obtain ⟨B, a1, a2⟩ := h.emap b x hg;exact ⟨B, a1, by rw [e5 b x B hg a1]; exact a2⟩
 ·obtain ⟨x', g1, _⟩ := e4 b x h1;obtain ⟨y', g2, _⟩ := e4 b' y h2;exact h.inj b b' x' y' B g1 g2 h3 h4
 ·obtain ⟨x', g1, _⟩ := e4 b x h1;rw [e2] at h2;exact h.injM b b' x' y B g1 h2 h3 h4
 ·rw [e2] at h1 h2;exact h.injMM b b' x y B h1 h2 h3 h4
 ·obtain ⟨x', g1, _⟩ := e4 b x h1;exact h.bars b x' B g1 h2 h3
 ·rw [e2] at h1;exact h.barsM b x B h1 h2 h3
 ·obtain ⟨x', g1, _, _, _, g2, _⟩ := e4 b x h1;exact hk.sub B (h.froz b x' B g1 (by rw [← g2]; exact h2) h3)
end
end Go.Pev
namespace Go.Pev
open Go.Abu
section
variable {P : Program} {ρ : Nat → Option Nat} {S : St} {H : AH} {F : Nat → Prop} {pbar bar : Nat}
inductive RF (H : AH) (F : Nat → Prop) : Value → PV → List (Option Nat) → Prop
 | tree {v : Value} {p : PV} (h : RT H F v p) : RF H F v p []
 | own {B n cap : Nat} {c : List Value} {ty : TypeId} {z : Nat} {els : List (List PV)} (hg : H.get B = some (.row c ty z)) (hz : 0 < z) (he : REs H F z c els) (hn : els.length = n) (hc : CapL c 0 n cap z) :
   RF H F (.slice (some ⟨B, 0, none⟩) n cap) (.fsl els ty z) [some B]
 | ghost {v : Value} {ty : TypeId} {z : Nat} (hv : v = .slice none 0 0 ∨ ∃ B o, v = .slice (some ⟨B, o, none⟩) 0 0) : RF H F v (.fsl [] ty z) [none]
inductive RFs (H : AH) (F : Nat → Prop) : List Value → List PV → List (Option Nat) → Prop
 | nil : RFs H F [] [] []
 | cons {x : Value} {p : PV} {xs : List Value} {ps : List PV} {a b : List (Option Nat)} (h : RF H F x p a) (t : RFs H F xs ps b) : RFs H F (x :: xs) (p :: ps) (a ++ b)
inductive RF2 (H : AH) (F : Nat → Prop) : Value → PV → List (Option Nat) → Prop
 | one {v : Value} {p : PV} {a : List (Option Nat)} (h : RF H F v p a) : RF2 H F v p a
 | agg {v : Array Value} {cs : List PV} {a : List (Option Nat)} (h : RFs H F v.toList cs a) : RF2 H F (.agg v) (.agg cs) a
inductive RF2s (H : AH) (F : Nat → Prop) : List Value → List PV → List (Option Nat) → Prop
 | nil : RF2s H F [] [] []
 | cons {x : Value} {p : PV} {xs : List Value} {ps : List PV} {a b : List (Option Nat)} (h : RF2 H F x p a) (t : RF2s H F xs ps b) : RF2s H F (x :: xs) (p :: ps) (a ++ b)
inductive RF3 (H : AH) (F : Nat → Prop) : Value → PV → List (Option Nat) → Prop
 | one {v : Value} {p : PV} {a : List (Option Nat)} (h : RF2 H F v p a) : RF3 H F v p a
 | tup {v : Array Value} {ps : List PV} {a : List (Option Nat)} (h : RF2s H F v.toList ps a) : RF3 H F (.tuple v) (.tup ps) a
def Fresh (ρ : Nat → Option Nat) (S : St) (H : AH) (F : Nat → Prop) (bar : Nat) (bs : List (Option Nat)) : Prop := ∀ B, some B ∈ bs → ¬ F B ∧ ¬ Own ρ S B ∧ B < H.next ∧ bar ≤ B
def ND (bs : List (Option Nat)) : Prop := (bs.filterMap id).Nodup
theorem ND.append {a b : List (Option Nat)} (h : ND (a ++ b)) : ND a ∧ ND b ∧ ∀ B, some B ∈ a → some B ∈ b → False := by
 unfold ND at h ⊢;rw [List.filterMap_append, List.nodup_append] at h;refine ⟨h.1, h.2.1, fun B h1 h2 => h.2.2 B ?_ B ?_ rfl⟩
 ·rw [List.mem_filterMap]; exact ⟨some B, h1, rfl⟩
 ·rw [List.mem_filterMap]; exact ⟨some B, h2, rfl⟩
structure Took (ρ : Nat → Option Nat) (S : St) (H : AH) (F : Nat → Prop) (pbar bar : Nat) (bs : List (Option Nat)) (ρ' : Nat → Option Nat) (S' : St) : Prop where
 rs : RS ρ' S' H F pbar bar
 stp : Stp ρ S H F ρ' S' H F
 own : ∀ B, Own ρ' S' B → Own ρ S B ∨ some B ∈ bs
 out : ∀ {ρ₀ : Nat → Option Nat} {S₀ : St} {H₀ : AH} {F₀ : Nat → Prop}, Out ρ₀ S₀ H₀ F₀ ρ S H F → (∀ B, some B ∈ bs → H₀.next ≤ B ∨ Own ρ₀ S₀ B) → Out ρ₀ S₀ H₀ F₀ ρ' S' H F
 next : S'.next = S.next + bs.length
 at_ : ∀ i x, bs[i]? = some x → ρ' (S.next + i) = x
 same : ∀ b, b < S.next → ρ' b = ρ b
theorem Took.nil (h : RS ρ S H F pbar bar) : Took ρ S H F pbar bar [] ρ S :=
 ⟨h, Out.refl.stp, fun _ h => .inl h, fun o _ => o, rfl, fun i x h => by simp at h, fun _ _ => rfl⟩
theorem Stp.trans {ρ₁ ρ₂ ρ₃ : Nat → Option Nat} {S₁ S₂ S₃ : St} {H₁ H₂ H₃ : AH} {F₁ F₂ F₃ : Nat → Prop} (h : Stp ρ₁ S₁ H₁ F₁ ρ₂ S₂ H₂ F₂) (k : Stp ρ₂ S₂ H₂ F₂ ρ₃ S₃ H₃ F₃) : Stp ρ₁ S₁ H₁ F₁ ρ₃ S₃ H₃ F₃ where
 ext := fun b B e => k.ext b B (h.ext b B e)
 sn := Nat.le_trans h.sn k.sn
 gone := fun b hb e => k.gone b (Nat.lt_of_lt_of_le hb h.sn) (h.gone b hb e)
 rows := fun b e₂ B c t z hb e hρ hg => by
  cases hx : S₂.get b with
  | none => rw [k.gone b (Nat.lt_of_lt_of_le hb h.sn) hx] at e; cases e
  | some e₁ =>
   obtain ⟨c₁, b1, b2⟩ := h.rows b e₁ B c t z hb hx hρ hg;obtain ⟨c₂, c1, c2⟩ := k.rows b e₂ B c₁ t z (Nat.lt_of_lt_of_le hb h.sn) e (h.ext b B hρ) b1;exact ⟨c₂, c1, c2.trans b2⟩
 keep := ⟨fun B hB => k.keep.sub B (h.keep.sub B hB), fun B hB => (k.keep.get B (h.keep.sub B hB)).trans (h.keep.get B hB)⟩
theorem Took.trans {a b : List (Option Nat)} {ρ₁ ρ₂ : Nat → Option Nat} {S₁ S₂ : St} (h : Took ρ S H F pbar bar a ρ₁ S₁) (k : Took ρ₁ S₁ H F pbar bar b ρ₂ S₂) : Took ρ S H F pbar bar (a ++ b) ρ₂ S₂ where
 rs := k.rs
 stp := h.stp.trans k.stp
 own := fun B hO => by
  rcases k.own B hO with hO | hO
  ·rcases h.own B hO with hO | hO
   ·exact .inl hO
   ·exact .inr (List.mem_append_left _ hO)
  ·exact .inr (List.mem_append_right _ hO)
 out := fun o hb => k.out (h.out o fun B hB => hb B (List.mem_append_left _ hB)) fun B hB => hb B (List.mem_append_right _ hB)
 next := by rw [k.next, h.next, List.length_append]; omega
 at_ := fun i x hi => by
  by_cases hlt : i < a.length
  ·rw [List.getElem?_append_left hlt] at hi;rw [k.same _ (by rw [h.next]; omega)];exact h.at_ i x hi
  ·rw [List.getElem?_append_right (by omega)] at hi;have := k.at_ (i - a.length) x hi;rw [h.next] at this;rw [← this]; congr 1; omega
 same := fun b hb => by rw [k.same b (by rw [h.next]; omega), h.same b hb]
theorem inst1_rel (h : RS ρ S H F pbar bar) {v : Value} {p : PV} {bs : List (Option Nat)} (hr : RF H F v p bs) (hf : Fresh ρ S H F bar bs) : ∃ ρ', Took ρ S H F pbar bar bs ρ' (inst1 S p).1 ∧ RV ρ' (inst1 S p).1 H F v (inst1 S p).2 := by
 cases hr with
 | tree hr =>
  have e : inst1 S p = (S, p) := by cases hr <;> rfl
  rw [e];exact ⟨ρ, Took.nil h, .tree hr⟩
 | @own B n cap c ty z els hg hz he hn hc =>
  obtain ⟨f1, f2, f3, f4⟩ := hf B (by simp);have hcont : Cont ρ S H F ⟨els, ty, z, false, false⟩ c ty z := .inr ⟨rfl, rfl, rfl, hz, he⟩;have r := adopt_rs (e := ⟨els, ty, z, false, false⟩) h f1 f2 f3 f4 hg hcont rfl;refine ⟨up ρ S.next B, ⟨r, ⟨fun b B' hb => ?_, by show S.next ≤ S.next + 1; omega, fun b hb hg => ?_, fun b e' B' c t z hb _ _ h3 => ⟨c, h3, rfl⟩, ⟨fun _ h => h, fun _ _ => rfl⟩⟩, fun B' hO => ?_, fun o hb => adopt_out h o (hb B (by simp)), rfl, fun i x hi => ?_, fun b hb => up_ne (by omega)⟩, ?_⟩
  ·rw [up_ne (by have := h.rdom b B' hb; omega)]; exact hb
  ·show (if b = S.next then _ else _) = _; rw [if_neg (by omega)]; exact hg
  ·rcases hO with ⟨b, x, a1, a2, a3⟩ | ⟨b, x, a1, a3⟩
   ·have a1 : (if b = S.next then some (⟨els, ty, z, false, false⟩ : Ent) else S.get b) = some x := a1
    split at a1
    ·rename_i c1; subst c1; rw [up_self] at a3; cases a3; exact .inr (by simp)
    ·rename_i c1; rw [up_ne c1] at a3; exact .inl (.inl ⟨b, x, a1, a2, a3⟩)
   ·have a1 : S.getM b = some x := a1;have := (h.mdom b x a1).1;rw [up_ne (by omega)] at a3;exact .inl (.inr ⟨b, x, a1, a3⟩)
  ·cases i with
   | zero => simp at hi; subst hi; exact up_self _ _
   | succ i => simp at hi
  ·subst hn;exact .lsl (up_self _ _) hg (by omega) hc
 | @ghost v ty z hv =>
  obtain ⟨r1, r2⟩ := new_ghost (e := ⟨[], ty, z, false, false⟩) h rfl rfl (S.alloc ⟨[], ty, z, false, false⟩) rfl (fun _ => rfl) (fun _ => rfl);have hnone : ρ S.next = none := by
   cases hr : ρ S.next with
   | none => rfl
   | some B => have := h.rdom _ _ hr; omega
  refine ⟨ρ, ⟨r1, r2.stp, fun B hO => ?_, fun o _ => o.trans r2, rfl, fun i x hi => ?_, fun _ _ => rfl⟩, ?_⟩
  ·rcases hO with ⟨b, x, a1, a2, a3⟩ | ⟨b, x, a1, a3⟩
   ·have a1 : (if b = S.next then some (⟨[], ty, z, false, false⟩ : Ent) else S.get b) = some x := a1
    split at a1
    ·rename_i c1; subst c1; rw [hnone] at a3; cases a3
    ·exact .inl (.inl ⟨b, x, a1, a2, a3⟩)
   ·exact .inl (.inr ⟨b, x, a1, a3⟩)
  ·cases i with
   | zero => simp at hi; subst hi; exact hnone
   | succ i => simp at hi
  ·rcases hv with rfl | ⟨B, o, rfl⟩
   ·exact .lslN
   ·exact .lslZ
theorem Fresh.left {a b : List (Option Nat)} (h : Fresh ρ S H F bar (a ++ b)) : Fresh ρ S H F bar a := fun B hB => h B (List.mem_append_left _ hB)
theorem Fresh.right {a b : List (Option Nat)} {ρ' : Nat → Option Nat} {S' : St} (h : Fresh ρ S H F bar (a ++ b)) (nd : ND (a ++ b)) (k : Took ρ S H F pbar bar a ρ' S') : Fresh ρ' S' H F bar b := fun B hB => by
 obtain ⟨f1, f2, f3, f4⟩ := h B (List.mem_append_right _ hB);refine ⟨f1, fun hO => ?_, f3, f4⟩;rcases k.own B hO with hO | hO
 ·exact f2 hO
 ·exact nd.append.2.2 B hO hB
theorem instL_rel : ∀ {ps : List PV} {vs : List Value} {bs : List (Option Nat)} {ρ : Nat → Option Nat} {S : St}, RS ρ S H F pbar bar → RFs H F vs ps bs → Fresh ρ S H F bar bs → ND bs →
  ∃ ρ', Took ρ S H F pbar bar bs ρ' (instL S ps).1 ∧ RVs ρ' (instL S ps).1 H F vs (instL S ps).2
 | [], _, _, ρ, S, h, .nil, _, _ => ⟨ρ, Took.nil h, .nil⟩
 | p :: ps, _, _, ρ, S, h, .cons h1 h2, hf, nd => by
  obtain ⟨ρ₁, t1, r1⟩ := inst1_rel h h1 hf.left;obtain ⟨ρ₂, t2, r2⟩ := instL_rel t1.rs h2 (hf.right nd t1) nd.append.2.1;exact ⟨ρ₂, t1.trans t2, .cons (r1.step t2.stp t1.rs.rdom) r2⟩
theorem inst2_rel (h : RS ρ S H F pbar bar) {v : Value} {p : PV} {bs : List (Option Nat)} (hr : RF2 H F v p bs) (hf : Fresh ρ S H F bar bs) (nd : ND bs) : ∃ ρ', Took ρ S H F pbar bar bs ρ' (inst2 S p).1 ∧ RV ρ' (inst2 S p).1 H F v (inst2 S p).2 := by
 cases hr with
 | agg hr =>
  obtain ⟨ρ', t, r⟩ := instL_rel h hr hf nd;exact ⟨ρ', t, .agg r⟩
 | one hr =>
  have e : inst2 S p = inst1 S p := by
   cases hr with
   | tree hr => cases hr <;> rfl
   | own => rfl
   | ghost => rfl
  rw [e];exact inst1_rel h hr hf
theorem inst2L_rel : ∀ {ps : List PV} {vs : List Value} {bs : List (Option Nat)} {ρ : Nat → Option Nat} {S : St}, RS ρ S H F pbar bar → RF2s H F vs ps bs → Fresh ρ S H F bar bs → ND bs →
  ∃ ρ', Took ρ S H F pbar bar bs ρ' (inst2L S ps).1 ∧ RVs ρ' (inst2L S ps).1 H F vs (inst2L S ps).2
 | [], _, _, ρ, S, h, .nil, _, _ => ⟨ρ, Took.nil h, .nil⟩
 | p :: ps, _, _, ρ, S, h, .cons h1 h2, hf, nd => by
  obtain ⟨ρ₁, t1, r1⟩ := inst2_rel h h1 hf.left nd.append.1;obtain ⟨ρ₂, t2, r2⟩ := inst2L_rel t1.rs h2 (hf.right nd t1) nd.append.2.1;exact ⟨ρ₂, t1.trans t2, .cons (r1.step t2.stp t1.rs.rdom) r2⟩
theorem inst_rel (h : RS ρ S H F pbar bar) {v : Value} {p : PV} {bs : List (Option Nat)} (hr : RF3 H F v p bs) (hf : Fresh ρ S H F bar bs) (nd : ND bs) : ∃ ρ', Took ρ S H F pbar bar bs ρ' (inst S p).1 ∧ RV ρ' (inst S p).1 H F v (inst S p).2 := by
 cases hr with
 | tup hr =>
  obtain ⟨ρ', t, r⟩ := inst2L_rel h hr hf nd;exact ⟨ρ', t, .tup r⟩
 | one hr =>
  have e : inst S p = inst2 S p := by
   cases hr with
   | agg => rfl
   | one hr => cases hr with
    | tree hr => cases hr <;> rfl
    | own => rfl
    | ghost => rfl
  rw [e];exact inst2_rel h hr hf nd
end
end Go.Pev
namespace Go.Pev
open Go.Abu
section
variable {P : Program} {ρ : Nat → Option Nat} {S : St} {H : AH} {F : Nat → Prop} {pbar bar : Nat}
inductive Bk (ρ : Nat → Option Nat) (S : St) : List (Option Nat) → List Nat → Prop
 | nil : Bk ρ S [] []
 | skip {xs : List (Option Nat)} {bs : List Nat} (t : Bk ρ S xs bs) : Bk ρ S (none :: xs) bs
 | drop {b : Nat} {xs : List (Option Nat)} {bs : List Nat} (t : Bk ρ S xs bs) : Bk ρ S xs (b :: bs)
 | own {b B : Nat} {e : Ent} {xs : List (Option Nat)} {bs : List Nat} (h1 : ρ b = some B) (h2 : S.get b = some e) (h3 : e.fz = false) (t : Bk ρ S xs bs) : Bk ρ S (some B :: xs) (b :: bs)
theorem Bk.append {xs ys : List (Option Nat)} {bs cs : List Nat} (h : Bk ρ S xs bs) (k : Bk ρ S ys cs) : Bk ρ S (xs ++ ys) (bs ++ cs) := by
 induction h with
 | nil => exact k
 | skip _ ih => exact .skip ih
 | drop _ ih => exact .drop ih
 | own h1 h2 h3 _ ih => exact .own h1 h2 h3 ih
theorem Bk.mem {xs : List (Option Nat)} {bs : List Nat} (h : Bk ρ S xs bs) : ∀ B, some B ∈ xs → ∃ b e, b ∈ bs ∧ ρ b = some B ∧ S.get b = some e ∧ e.fz = false := by
 induction h with
 | nil => intro B hB; simp at hB
 | skip _ ih => intro B hB; exact ih B (by simpa using hB)
 | drop _ ih => intro B hB; obtain ⟨b, e, h1, h2⟩ := ih B hB; exact ⟨b, e, List.mem_cons_of_mem _ h1, h2⟩
 | @own b B e xs bs h1 h2 h3 _ ih =>
  intro B' hB;rcases List.mem_cons.1 hB with hB | hB
  ·cases hB; exact ⟨b, e, by simp, h1, h2, h3⟩
  ·obtain ⟨b, e, h1, h2⟩ := ih B' hB; exact ⟨b, e, List.mem_cons_of_mem _ h1, h2⟩
theorem nodup_iff : ∀ {bs : List Nat}, nodup bs = true → bs.Nodup
 | [], _ => List.nodup_nil
 | b :: bs, h => by
  simp only [nodup, Bool.and_eq_true, Bool.not_eq_true'] at h;rw [List.nodup_cons];refine ⟨fun hm => ?_, nodup_iff h.2⟩;have := h.1;rw [List.elem_eq_mem] at this;simp [hm] at this
theorem Bk.nd (h : RS ρ S H F pbar bar) {xs : List (Option Nat)} {bs : List Nat} (k : Bk ρ S xs bs) : bs.Nodup → ND xs := by
 induction k with
 | nil => intro _; simp [ND]
 | skip _ ih => intro hn; simpa [ND] using ih hn
 | drop _ ih => intro hn; rw [List.nodup_cons] at hn; exact ih hn.2
 | @own b B e xs bs h1 h2 h3 t ih =>
  intro hn;rw [List.nodup_cons] at hn;have ih := ih hn.2;unfold ND at ih ⊢;rw [List.filterMap_cons_some (by rfl), List.nodup_cons];refine ⟨fun hm => ?_, ih⟩;rw [List.mem_filterMap] at hm;obtain ⟨y, hy, hy'⟩ := hm;simp at hy'; subst hy';obtain ⟨b', e', m1, m2, m3, _⟩ := t.mem B hy;have := h.inj b b' e e' B h2 m3 h1 m2;subst this;exact hn.1 m1
theorem shut1_rel (h : RS ρ S H F pbar bar) {m : Slot} {p q : PV} {bs : List Nat} {v : Value} (hd : shut1 S m p = some (q, bs)) (hr : RV ρ S H F v p) : ∃ xs, RF H F v q xs ∧ Bk ρ S xs bs := by
 unfold shut1 at hd;split at hd
 ·cases hd; obtain ⟨rfl, h⟩ := RV.inv_v hr; exact ⟨[], .tree (.v h), .nil⟩
 ·split at hd
  ·cases hd;refine ⟨[none], .ghost ?_, .skip .nil⟩;cases hr with
   | tree hr => cases hr with
    | nilN => exact .inl rfl
    | nilZ => exact .inr ⟨_, _, rfl⟩
  ·cases hd;refine ⟨[], .tree ?_, .nil⟩;cases hr with
   | tree hr => cases hr with
    | nilN => exact .slN
    | nilZ => exact .slZ
 ·split at hd
  ·cases hd
  ·cases hd;cases hr with
   | tree hr => exact ⟨[], .tree hr, .nil⟩
 ·rename_i b o n;split at hd
  ·rename_i e he;split at hd
   ·rename_i ty;split at hd
    ·rename_i hc;obtain ⟨ho, hn, hf, hb, ht, hz⟩ := hc;cases hd;subst ho;cases hr with
     | tree hr => cases hr
     | gone h' => rw [h'] at he; cases he
     | lslN => exact ⟨[none], by simpa using .ghost (.inl rfl), .skip (.drop .nil)⟩
     | lslZ => exact ⟨[none], by simpa using .ghost (.inr ⟨_, _, rfl⟩), .skip (.drop .nil)⟩
     | @lsl _ _ _ B x cap c t z hρ hg hx hcap =>
      rcases h.ent b e he with ⟨B', c', t'', z', a1, a2, a3⟩ | ⟨a1, _⟩
      ·rw [hρ] at a1; cases a1;rw [hg] at a2; cases a2;rcases a3 with ⟨k, _⟩ | ⟨_, k1, k2, k3, hel⟩
       ·rw [hb] at k; cases k
       ·rw [Nat.zero_mul] at hx; subst hx;rw [← ht, ← hz, ← k1, ← k2];exact ⟨[some B], .own hg k3 (hel.take n) (by rw [List.length_take]; omega) hcap, .own hρ he hf .nil⟩
      ·rw [hρ] at a1; cases a1
    ·cases hd
   ·split at hd
    ·rename_i hc;cases hd;have := deep0_rel h (F' := F) (p := .lsl b o n) (q := .sl ((e.els.drop o).take n)) (bs := [b]) (by simp only [deep0, he]; rw [if_pos ⟨hc.1, hc.2.2⟩]) hr (fun _ h => h) (fun b' e' B hb' he' hρ => by
      simp at hb'; subst hb';rw [he] at he'; cases he';exact h.froz b' e B he hc.2.1 hρ)
     exact ⟨[], .tree this, .nil⟩
    ·cases hd
  ·cases hd
 ·cases hd;cases hr with
  | tree hr => exact ⟨[], .tree hr, .nil⟩
  | fn h1 h2 =>
   refine ⟨[], .tree (.fn ?_ ?_), .nil⟩
   ·rw [List.eq_nil_of_length_eq_zero h1.length]; exact .nil
   ·rw [List.eq_nil_of_length_eq_zero h2.length]; exact .nil
 ·cases hd
theorem shutL_rel (h : RS ρ S H F pbar bar) : ∀ {ts : List Slot} {ps qs : List PV} {bs : List Nat} {vs : List Value}, shutL S ts ps = some (qs, bs) → RVs ρ S H F vs ps → ∃ xs, RFs H F vs qs xs ∧ Bk ρ S xs bs
 | ts, [], qs, bs, vs, hd, hr => by cases hd; cases hr; exact ⟨[], .nil, .nil⟩
 | ts, p :: ps, qs, bs, vs, hd, hr => by
  unfold shutL at hd;split at hd
  ·rename_i q b1 hq;split at hd
   ·rename_i qs' b2 hqs;cases hd;cases hr with
    | cons h1 h2 =>
     obtain ⟨x1, k1, k2⟩ := shut1_rel h hq h1;obtain ⟨x2, k3, k4⟩ := shutL_rel h hqs h2;exact ⟨x1 ++ x2, .cons k1 k3, k2.append k4⟩
   ·cases hd
  ·cases hd
theorem shut2_rel (h : RS ρ S H F pbar bar) {ts : List Slot} {p q : PV} {bs : List Nat} {v : Value} (hd : shut2 S ts p = some (q, bs)) (hr : RV ρ S H F v p) : ∃ xs, RF2 H F v q xs ∧ Bk ρ S xs bs := by
 unfold shut2 at hd;split at hd
 ·split at hd
  ·rename_i qs b1 hq;cases hd;cases hr with
   | tree hr => cases hr
   | agg hr =>
    obtain ⟨xs, k1, k2⟩ := shutL_rel h hq hr;exact ⟨xs, .agg k1, k2⟩
  ·cases hd
 ·obtain ⟨xs, k1, k2⟩ := shut1_rel h hd hr;exact ⟨xs, .one k1, k2⟩
theorem shut2L_rel (h : RS ρ S H F pbar bar) : ∀ {ts : List (List Slot)} {ps qs : List PV} {bs : List Nat} {vs : List Value}, shut2L S ts ps = some (qs, bs) → RVs ρ S H F vs ps → ∃ xs, RF2s H F vs qs xs ∧ Bk ρ S xs bs
 | ts, [], qs, bs, vs, hd, hr => by cases hd; cases hr; exact ⟨[], .nil, .nil⟩
 | ts, p :: ps, qs, bs, vs, hd, hr => by
  unfold shut2L at hd;split at hd
  ·rename_i q b1 hq;split at hd
   ·rename_i qs' b2 hqs;cases hd;cases hr with
    | cons h1 h2 =>
     obtain ⟨x1, k1, k2⟩ := shut2_rel h hq h1;obtain ⟨x2, k3, k4⟩ := shut2L_rel h hqs h2;exact ⟨x1 ++ x2, .cons k1 k3, k2.append k4⟩
   ·cases hd
  ·cases hd
theorem shut3_rel (h : RS ρ S H F pbar bar) {ts : List (List Slot)} {p q : PV} {bs : List Nat} {v : Value} (hd : shut3 S ts p = some (q, bs)) (hr : RV ρ S H F v p) : ∃ xs, RF3 H F v q xs ∧ Bk ρ S xs bs := by
 unfold shut3 at hd;split at hd
 ·split at hd
  ·rename_i qs b1 hq;cases hd;cases hr with
   | tree hr => cases hr
   | tup hr =>
    obtain ⟨xs, k1, k2⟩ := shut2L_rel h hq hr;exact ⟨xs, .tup k1, k2⟩
  ·cases hd
 ·obtain ⟨xs, k1, k2⟩ := shut2_rel h hd hr;exact ⟨xs, .one k1, k2⟩
theorem backs_spec (S : St) (bs : List Nat) : ∀ {k : Nat} {l : List (Option (List (List PV)))}, backs S bs k = some l → l.length = k ∧ ∀ i els, l[i]? = some (some els) → i < k ∧ i ∉ bs ∧ ∃ e, S.get i = some e ∧ e.fz = false ∧ e.els = els
 | 0, l, h => by cases h; exact ⟨rfl, fun i els h => by simp at h⟩
 | k + 1, l, h => by
  unfold backs at h;split at h
  ·rename_i l' hl;obtain ⟨i1, i2⟩ := backs_spec S bs hl;have low : ∀ (x : Option (List (List PV))) i els, (l' ++ [x])[i]? = some (some els) → i ≠ k → i < k + 1 ∧ i ∉ bs ∧ ∃ e, S.get i = some e ∧ e.fz = false ∧ e.els = els := by
    intro x i els hi hk;have hlt : i < l'.length := by
     have := (List.getElem?_eq_some_iff.1 hi).1;simp at this; omega
    rw [List.getElem?_append_left hlt] at hi;obtain ⟨a, b⟩ := i2 i els hi;exact ⟨by omega, b⟩
   have top : ∀ (x : Option (List (List PV))), (l' ++ [x])[k]? = some x := by intro x; rw [← i1]; simp
   split at h
   ·rename_i e he;split at h
    ·cases h;refine ⟨by simp [i1], fun i els hi => ?_⟩;by_cases hk : i = k
     ·subst hk; rw [top] at hi; cases hi
     ·exact low _ i els hi hk
    ·rename_i hb;split at h
     ·rename_i hf;cases h;refine ⟨by simp [i1], fun i els hi => ?_⟩;by_cases hk : i = k
      ·subst hk;rw [top] at hi;cases hi;exact ⟨by omega, by simpa using hb, e, he, hf, rfl⟩
      ·exact low _ i els hi hk
     ·cases h
   ·cases h;refine ⟨by simp [i1], fun i els hi => ?_⟩;by_cases hk : i = k
    ·subst hk; rw [top] at hi; cases hi
    ·exact low _ i els hi hk
  ·cases h
structure Shut (ρ : Nat → Option Nat) (S : St) (H : AH) (F : Nat → Prop) (lent : Nat) (v : Value) (q : PV) (l : List (Option (List (List PV)))) (S' : St) (F' : Nat → Prop) (xs : List (Option Nat)) : Prop where
 rf : RF3 H F' v q xs
 nd : ND xs
 own : ∀ B, some B ∈ xs → Own ρ S' B
 len : l.length = lent
 back : ∀ i els, l[i]? = some (some els) → i < lent ∧ ∃ e, S'.get i = some e ∧ e.fz = false ∧ e.els = els ∧ ∀ B, ρ i = some B → some B ∉ xs
theorem shut_rel (h : RS ρ S H F pbar bar) {ts : List (List Slot)} {lent : Nat} {p q : PV} {l : List (Option (List (List PV)))} {v : Value} (hd : shut S ts lent p = some (q, l)) (hr : RV ρ S H F v p) :
  ∃ S' F' xs, RS ρ S' H F' pbar bar ∧ Out ρ S H F ρ S' H F' ∧ Shut ρ S H F lent v q l S' F' xs := by
 unfold shut at hd;obtain ⟨F', r1, r2, _⟩ := freeze_rel (thaw ts p) h;unfold shutB at hd;split at hd
 ·rename_i q' bs hq;split at hd
  ·rename_i hnd;split at hd
   ·rename_i l' hl;cases hd;obtain ⟨xs, k1, k2⟩ := shut3_rel r1 hq (hr.step r2.stp h.rdom);obtain ⟨b1, b2⟩ := backs_spec _ _ hl;refine ⟨_, F', xs, r1, r2, k1, k2.nd r1 (nodup_iff hnd), fun B hB => ?_, b1, fun i els hi => ?_⟩
    ·obtain ⟨b, e, _, m2, m3, m4⟩ := k2.mem B hB;exact .inl ⟨b, e, m3, m4, m2⟩
    ·obtain ⟨a1, a2, e, a3, a4, a5⟩ := b2 i els hi;refine ⟨a1, e, a3, a4, a5, fun B hρ hB => ?_⟩;obtain ⟨b, e', m1, m2, m3, _⟩ := k2.mem B hB;have := r1.inj i b e e' B a3 m3 hρ m2;subst this;exact a2 m1
   ·cases hd
  ·cases hd
 ·cases hd
end
end Go.Pev
namespace Go.Pev
open Go.Abu
section
variable {P : Program} {ρ : Nat → Option Nat} {S : St} {H : AH} {F : Nat → Prop} {pbar bar : Nat}
theorem freeze_get : ∀ (bs : List Nat) (S : St) (b : Nat), b ∉ bs → (freeze S bs).get b = S.get b
 | [], _, _, _ => rfl
 | c :: bs, S, b, h => by
  rw [List.mem_cons, not_or] at h;unfold freeze;cases S.get c with
  | none => exact freeze_get bs S b h.2
  | some e =>
   simp only;rw [freeze_get bs _ b h.2, St.get_put, if_neg h.1]
structure SameBut (S S' : St) (bs : List Nat) : Prop where
 next : S'.next = S.next
 maps : ∀ b, S'.getM b = S.getM b
 get : ∀ b, b ∉ bs → S'.get b = S.get b
theorem SameBut.trans {S S₁ S₂ : St} {bs : List Nat} (h : SameBut S S₁ bs) (k : SameBut S₁ S₂ bs) : SameBut S S₂ bs :=
 ⟨k.next.trans h.next, fun b => (k.maps b).trans (h.maps b), fun b hb => (k.get b hb).trans (h.get b hb)⟩
theorem kill_spec : ∀ (ls : List Nat) (l : List (Option (List (List PV)))) (S : St), ls.Nodup → l.length = ls.length →
  SameBut S (killBack S ls l) ls ∧ ∀ (i b : Nat), ls[i]? = some b → (l[i]? = some none → (killBack S ls l).get b = none) ∧ (∀ els, l[i]? = some (some els) → (killBack S ls l).get b = S.get b)
 | [], [], S, _, _ => ⟨⟨rfl, fun _ => rfl, fun _ _ => rfl⟩, fun i b h => by simp at h⟩
 | c :: ls, none :: l, S, hn, hl => by
  rw [List.nodup_cons] at hn;obtain ⟨⟨a1, a2, a3⟩, a4⟩ := kill_spec ls l (S.kill c) hn.2 (by simpa using hl)
  unfold killBack;refine ⟨⟨a1, a2, fun b hb => ?_⟩, fun i b hi => ?_⟩
  ·rw [List.mem_cons, not_or] at hb;rw [a3 b hb.2, St.get_kill, if_neg hb.1]
  ·cases i with
   | zero => simp at hi; subst hi; exact ⟨fun _ => by rw [a3 _ hn.1, St.get_kill, if_pos rfl], fun els h => by simp at h⟩
   | succ i =>
    simp at hi;have hne : b ≠ c := fun e => hn.1 (by subst e; exact List.mem_iff_getElem?.2 ⟨i, hi⟩);obtain ⟨k1, k2⟩ := a4 i b hi;exact ⟨fun h => k1 (by simpa using h), fun els h => by rw [k2 els (by simpa using h), St.get_kill, if_neg hne]⟩
 | c :: ls, some e :: l, S, hn, hl => by
  rw [List.nodup_cons] at hn;obtain ⟨⟨a1, a2, a3⟩, a4⟩ := kill_spec ls l S hn.2 (by simpa using hl)
  unfold killBack;refine ⟨⟨a1, a2, fun b hb => ?_⟩, fun i b hi => ?_⟩
  ·rw [List.mem_cons, not_or] at hb;rw [a3 b hb.2]
  ·cases i with
   | zero => simp at hi; subst hi; exact ⟨fun h => by simp at h, fun els _ => a3 _ hn.1⟩
   | succ i =>
    simp at hi;obtain ⟨k1, k2⟩ := a4 i b hi;exact ⟨fun h => k1 (by simpa using h), fun els h => k2 els (by simpa using h)⟩
theorem put_spec : ∀ (ls : List Nat) (l : List (Option (List (List PV)))) (S : St), ls.Nodup → l.length = ls.length →
  SameBut S (putBack S ls l) ls ∧ ∀ (i b : Nat), ls[i]? = some b → (l[i]? = some none → (putBack S ls l).get b = S.get b) ∧ (∀ els, l[i]? = some (some els) → (putBack S ls l).get b = (S.get b).map fun e => { e with els := els })
 | [], [], S, _, _ => ⟨⟨rfl, fun _ => rfl, fun _ _ => rfl⟩, fun i b h => by simp at h⟩
 | c :: ls, none :: l, S, hn, hl => by
  rw [List.nodup_cons] at hn;obtain ⟨⟨a1, a2, a3⟩, a4⟩ := put_spec ls l S hn.2 (by simpa using hl)
  unfold putBack;refine ⟨⟨a1, a2, fun b hb => ?_⟩, fun i b hi => ?_⟩
  ·rw [List.mem_cons, not_or] at hb;rw [a3 b hb.2]
  ·cases i with
   | zero => simp at hi; subst hi; exact ⟨fun _ => a3 _ hn.1, fun els h => by simp at h⟩
   | succ i =>
    simp at hi;obtain ⟨k1, k2⟩ := a4 i b hi;exact ⟨fun h => k1 (by simpa using h), fun els h => k2 els (by simpa using h)⟩
 | c :: ls, some els :: l, S, hn, hl => by
  rw [List.nodup_cons] at hn;unfold putBack;cases hg : S.get c with
  | none =>
   obtain ⟨⟨a1, a2, a3⟩, a4⟩ := put_spec ls l S hn.2 (by simpa using hl)
   refine ⟨⟨a1, a2, fun b hb => ?_⟩, fun i b hi => ?_⟩
   ·rw [List.mem_cons, not_or] at hb;rw [a3 b hb.2]
   ·cases i with
    | zero =>
     simp at hi; subst hi;refine ⟨fun h => by simp at h, fun els' _ => ?_⟩;simp only;rw [a3 _ hn.1, hg]; rfl
    | succ i =>
     simp at hi;obtain ⟨k1, k2⟩ := a4 i b hi;exact ⟨fun h => k1 (by simpa using h), fun els h => k2 els (by simpa using h)⟩
  | some e =>
   obtain ⟨⟨a1, a2, a3⟩, a4⟩ := put_spec ls l (S.put c { e with els := els }) hn.2 (by simpa using hl)
   simp only;refine ⟨⟨a1, a2, fun b hb => ?_⟩, fun i b hi => ?_⟩
   ·rw [List.mem_cons, not_or] at hb;rw [a3 b hb.2, St.get_put, if_neg hb.1]
   ·cases i with
    | zero =>
     simp at hi; subst hi;refine ⟨fun h => by simp at h, fun els' h => ?_⟩;simp at h; subst h;rw [a3 _ hn.1, St.get_put, if_pos rfl, hg]; rfl
    | succ i =>
     simp at hi;have hne : b ≠ c := fun e => hn.1 (by subst e; exact List.mem_iff_getElem?.2 ⟨i, hi⟩);obtain ⟨k1, k2⟩ := a4 i b hi;exact ⟨fun h => by rw [k1 (by simpa using h), St.get_put, if_neg hne], fun els h => by rw [k2 els (by simpa using h), St.get_put, if_neg hne]⟩
theorem give_spec (ls : List Nat) (l : List (Option (List (List PV)))) (S : St) (hn : ls.Nodup) (hl : l.length = ls.length) :
  SameBut S (giveBack S ls l) ls ∧ ∀ (i b : Nat), ls[i]? = some b → (l[i]? = some none → (giveBack S ls l).get b = none) ∧ (∀ els, l[i]? = some (some els) → (giveBack S ls l).get b = (S.get b).map fun e => { e with els := els }) := by
 obtain ⟨a1, a2⟩ := kill_spec ls l S hn hl;obtain ⟨b1, b2⟩ := put_spec ls l (killBack S ls l) hn hl;refine ⟨a1.trans b1, fun i b hi => ⟨fun h => ?_, fun els h => ?_⟩⟩
 ·exact ((b2 i b hi).1 h).trans ((a2 i b hi).1 h)
 ·have := (b2 i b hi).2 els h;rw [(a2 i b hi).2 els h] at this;exact this
theorem RFs.length {xs : List (Option Nat)} : ∀ {vs : List Value} {ps : List PV} {xs : List (Option Nat)}, RFs H F vs ps xs → vs.length = ps.length
 | _, _, _, .nil => rfl
 | _, _, _, .cons _ t => by simp [RFs.length (xs := xs) t]
theorem RTs.rfs : ∀ {vs : List Value} {ps : List PV}, RTs H F vs ps → RFs H F vs ps []
 | _, _, .nil => .nil
 | _, _, .cons h t => .cons (a := []) (b := []) (.tree h) (RTs.rfs t)
theorem RA.rf2 {v : Value} {q : PV} (h : RA H F v q) : RF2 H F v q [] := by
 rcases h with h | ⟨a, cs, rfl, rfl, h⟩
 ·exact .one (.tree h)
 ·exact .agg h.rfs
theorem rf2s_of : ∀ {vs : List Value} {qs : List PV}, vs.length = qs.length → (∀ (i : Nat) (q : PV), qs[i]? = some q → ∃ v, vs[i]? = some v ∧ RA H F v q) → RF2s H F vs qs []
 | [], [], _, _ => .nil
 | v :: vs, q :: qs, hl, h => by
  obtain ⟨v', h1, h2⟩ := h 0 q rfl;simp at h1; subst h1;exact .cons (a := []) (b := []) h2.rf2 (rf2s_of (by simpa using hl) fun i q hi => by
   obtain ⟨v, a, b⟩ := h (i + 1) q (by simpa using hi)
   exact ⟨v, by simpa using a, b⟩)
 | [], _ :: _, h, _ => by simp at h
 | _ :: _, [], h, _ => by simp at h
theorem RF2s.set' {xs ys : List (Option Nat)} : ∀ {vs : List Value} {qs : List PV} {v : Value} {q : PV} (k : Nat), RF2s H F vs qs ys → ys = [] → vs[k]? = some v → RF2 H F v q xs → RF2s H F vs (qs.set k q) xs
 | _, _, v', q, k, .nil, _, hk, hr => by simp at hk
 | _, _, v', q, k, .cons (a := a) (b := b) h t, hab, hk, hr => by
  have ha : a = [] := (List.append_eq_nil_iff.1 hab).1;have hb : b = [] := (List.append_eq_nil_iff.1 hab).2;subst ha;cases k with
  | zero => simp at hk; subst hk; rw [List.set_cons_zero]; subst hb; simpa using RF2s.cons hr t
  | succ k => simp at hk; rw [List.set_cons_succ]; simpa using RF2s.cons h (RF2s.set' k t hb hk hr)
theorem RF2s.set {xs : List (Option Nat)} {vs : List Value} {qs : List PV} {v : Value} {q : PV} (k : Nat) (h : RF2s H F vs qs []) (hk : vs[k]? = some v) (hr : RF2 H F v q xs) : RF2s H F vs (qs.set k q) xs := h.set' k rfl hk hr
inductive Lt (ρ : Nat → Option Nat) (S : St) : List (Option Nat) → List Nat → Prop
 | nil : Lt ρ S [] []
 | none {b : Nat} {e : Ent} {xs : List (Option Nat)} {bs : List Nat} (h2 : S.get b = some e) (h3 : e.fz = false) (h4 : e.box = false) (t : Lt ρ S xs bs) : Lt ρ S (none :: xs) (b :: bs)
 | own {b B : Nat} {e : Ent} {xs : List (Option Nat)} {bs : List Nat} (h1 : ρ b = some B) (h2 : S.get b = some e) (h3 : e.fz = false) (h4 : e.box = false) (t : Lt ρ S xs bs) : Lt ρ S (some B :: xs) (b :: bs)
theorem Lt.append {xs ys : List (Option Nat)} {bs cs : List Nat} (h : Lt ρ S xs bs) (k : Lt ρ S ys cs) : Lt ρ S (xs ++ ys) (bs ++ cs) := by
 induction h with
 | nil => exact k
 | none h2 h3 h4 _ ih => exact .none h2 h3 h4 ih
 | own h1 h2 h3 h4 _ ih => exact .own h1 h2 h3 h4 ih
theorem Lt.length {xs : List (Option Nat)} {bs : List Nat} (h : Lt ρ S xs bs) : xs.length = bs.length := by
 induction h with
 | nil => rfl
 | none _ _ _ _ ih => simp [ih]
 | own _ _ _ _ _ ih => simp [ih]
theorem Lt.at {xs : List (Option Nat)} {bs : List Nat} (h : Lt ρ S xs bs) : ∀ (i b : Nat), bs[i]? = some b → ∃ e, S.get b = some e ∧ e.fz = false ∧ e.box = false ∧ (xs[i]? = some Option.none ∨ ∃ B, xs[i]? = some (some B) ∧ ρ b = some B) := by
 induction h with
 | nil => intro i b h; simp at h
 | none h2 h3 h4 _ ih =>
  intro i b h;cases i with
  | zero => simp at h; subst h; exact ⟨_, h2, h3, h4, .inl rfl⟩
  | succ i => simp at h; obtain ⟨e, a, b, c, d⟩ := ih i _ h; exact ⟨e, a, b, c, by simpa using d⟩
 | own h1 h2 h3 h4 _ ih =>
  intro i b h;cases i with
  | zero => simp at h; subst h; exact ⟨_, h2, h3, h4, .inr ⟨_, rfl, h1⟩⟩
  | succ i => simp at h; obtain ⟨e, a, b, c, d⟩ := ih i _ h; exact ⟨e, a, b, c, by simpa using d⟩
theorem Lt.mem {xs : List (Option Nat)} {bs : List Nat} (h : Lt ρ S xs bs) : ∀ B, some B ∈ xs → ∃ (i b : Nat) (e : Ent), bs[i]? = some b ∧ xs[i]? = some (some B) ∧ ρ b = some B ∧ S.get b = some e ∧ e.fz = false := by
 induction h with
 | nil => intro B hB; simp at hB
 | none h2 h3 _ _ ih =>
  intro B hB;obtain ⟨i, b, e, a⟩ := ih B (by simpa using hB)
  exact ⟨i + 1, b, e, by simpa using a⟩
 | @own b B e xs bs h1 h2 h3 _ _ ih =>
  intro B' hB;rcases List.mem_cons.1 hB with hB | hB
  ·cases hB; exact ⟨0, b, e, rfl, rfl, h1, h2, h3⟩
  ·obtain ⟨i, b, e, a⟩ := ih B' hB;exact ⟨i + 1, b, e, by simpa using a⟩
theorem Lt.nd (h : RS ρ S H F pbar bar) {xs : List (Option Nat)} {bs : List Nat} (k : Lt ρ S xs bs) : bs.Nodup → ND xs := by
 induction k with
 | nil => intro _; simp [ND]
 | none _ _ _ _ ih => intro hn; rw [List.nodup_cons] at hn; simpa [ND] using ih hn.2
 | @own b B e xs bs h1 h2 h3 _ t ih =>
  intro hn;rw [List.nodup_cons] at hn;have ih := ih hn.2;unfold ND at ih ⊢;rw [List.filterMap_cons_some (by rfl), List.nodup_cons];refine ⟨fun hm => ?_, ih⟩;rw [List.mem_filterMap] at hm;obtain ⟨y, hy, hy'⟩ := hm;simp at hy'; subst hy';obtain ⟨i, b', e', m0, _, m2, m3, _⟩ := t.mem B hy;have := h.inj b b' e e' B h2 m3 h1 m2;subst this;exact hn.1 (List.mem_iff_getElem?.2 ⟨i, m0⟩)
theorem lend0_rel (h : RS ρ S H F pbar bar) {F' : Nat → Prop} {fl : Bool} {p q : PV} {ls bs : List Nat} {v : Value} (hd : lend0 S fl p = some (q, ls, bs)) (hr : RV ρ S H F v p) (hF : ∀ B, F B → F' B)
  (hb : ∀ b e B, b ∈ bs → S.get b = some e → ρ b = some B → F' B) : ∃ xs, RF H F' v q xs ∧ Lt ρ S xs ls := by
 unfold lend0 at hd;split at hd
 ·split at hd
  ·rename_i b o n;split at hd
   ·rename_i e he;split at hd
    ·rename_i hc;obtain ⟨ho, hn, hf, hbx⟩ := hc;cases hd;subst ho;cases hr with
     | tree hr => cases hr
     | gone h' => rw [h'] at he; cases he
     | lslN => exact ⟨[none], by simpa using .ghost (.inl rfl), .none he hf hbx .nil⟩
     | lslZ => exact ⟨[none], by simpa using .ghost (.inr ⟨_, _, rfl⟩), .none he hf hbx .nil⟩
     | @lsl _ _ _ B x cap c t z hρ hg hx hcap =>
      rcases h.ent b e he with ⟨B', c', t'', z', a1, a2, a3⟩ | ⟨a1, _⟩
      ·rw [hρ] at a1; cases a1;rw [hg] at a2; cases a2;rcases a3 with ⟨k, _⟩ | ⟨_, k1, k2, k3, hel⟩
       ·rw [hbx] at k; cases k
       ·rw [Nat.zero_mul] at hx; subst hx;rw [← k1, ← k2];exact ⟨[some B], .own hg k3 ((hel.mono ⟨hF, fun _ _ => rfl⟩).take n) (by rw [List.length_take]; omega) hcap, .own hρ he hf hbx .nil⟩
      ·rw [hρ] at a1; cases a1
    ·cases hd
   ·cases hd
  ·cases hd
 ·split at hd
  ·rename_i q' bs' hq;cases hd;have := deep0_rel h (F' := F') hq hr hF hb;exact ⟨[], .tree this, .nil⟩
  ·cases hd
theorem lend0L_rel (h : RS ρ S H F pbar bar) {F' : Nat → Prop} (hF : ∀ B, F B → F' B) : ∀ {fs : List Bool} {ps qs : List PV} {ls bs : List Nat} {vs : List Value}, lend0L S fs ps = some (qs, ls, bs) → RVs ρ S H F vs ps →
  (∀ b e B, b ∈ bs → S.get b = some e → ρ b = some B → F' B) → ∃ xs, RFs H F' vs qs xs ∧ Lt ρ S xs ls
 | fs, [], qs, ls, bs, vs, hd, hr, _ => by cases hd; cases hr; exact ⟨[], .nil, .nil⟩
 | fs, p :: ps, qs, ls, bs, vs, hd, hr, hb => by
  unfold lend0L at hd;split at hd
  ·rename_i q l1 b1 hq;split at hd
   ·rename_i qs' l2 b2 hqs;cases hd;cases hr with
    | cons h1 h2 =>
     obtain ⟨x1, k1, k2⟩ := lend0_rel h hq h1 hF fun b e B hm => hb b e B (List.mem_append_left _ hm);obtain ⟨x2, k3, k4⟩ := lend0L_rel h hF hqs h2 fun b e B hm => hb b e B (List.mem_append_right _ hm);exact ⟨x1 ++ x2, .cons k1 k3, k2.append k4⟩
   ·cases hd
  ·cases hd
theorem lend_rel (h : RS ρ S H F pbar bar) {F' : Nat → Prop} {fs : List Bool} {p q : PV} {ls bs : List Nat} {v : Value} (hd : lend S fs p = some (q, ls, bs)) (hr : RV ρ S H F v p) (hF : ∀ B, F B → F' B)
  (hb : ∀ b e B, b ∈ bs → S.get b = some e → ρ b = some B → F' B) : ∃ xs, RF2 H F' v q xs ∧ Lt ρ S xs ls := by
 unfold lend at hd;split at hd
 ·split at hd
  ·rename_i qs l1 b1 hq;cases hd;cases hr with
   | tree hr => cases hr
   | agg hr =>
    obtain ⟨xs, k1, k2⟩ := lend0L_rel h hF hq hr hb;exact ⟨xs, .agg k1, k2⟩
  ·cases hd
 ·obtain ⟨xs, k1, k2⟩ := lend0_rel h hd hr hF hb;exact ⟨xs, .one k1, k2⟩
theorem Lt.same {S' : St} {ls : List Nat} (hs : ∀ b e, S.get b = some e → e.fz = false → b ∈ ls → S'.get b = some e) {xs : List (Option Nat)} : ∀ {bs : List Nat}, Lt ρ S xs bs → (∀ b ∈ bs, b ∈ ls) → Lt ρ S' xs bs := by
 intro bs h;induction h with
 | nil => intro _; exact .nil
 | none h2 h3 h4 _ ih => intro hm; exact .none (hs _ _ h2 h3 (hm _ (by simp))) h3 h4 (ih fun b hb => hm b (by simp [hb]))
 | own h1 h2 h3 h4 _ ih => intro hm; exact .own h1 (hs _ _ h2 h3 (hm _ (by simp))) h3 h4 (ih fun b hb => hm b (by simp [hb]))
theorem RTs.of {F' : Nat → Prop} (hF : ∀ B, F B → F' B) : Keep H F H F' := ⟨hF, fun _ _ => rfl⟩
theorem RF.mono {F' : Nat → Prop} (hF : ∀ B, F B → F' B) {v : Value} {p : PV} {xs : List (Option Nat)} (h : RF H F v p xs) : RF H F' v p xs := by
 cases h with
 | tree h => exact .tree (h.mono (RTs.of hF))
 | own hg hz he hn hc => exact .own hg hz (he.mono (RTs.of hF)) hn hc
 | ghost hv => exact .ghost hv
theorem RFs.mono {F' : Nat → Prop} (hF : ∀ B, F B → F' B) : ∀ {vs : List Value} {ps : List PV} {xs : List (Option Nat)}, RFs H F vs ps xs → RFs H F' vs ps xs
 | _, _, _, .nil => .nil
 | _, _, _, .cons h t => .cons (h.mono hF) (RFs.mono hF t)
theorem RF2.mono {F' : Nat → Prop} (hF : ∀ B, F B → F' B) {v : Value} {p : PV} {xs : List (Option Nat)} (h : RF2 H F v p xs) : RF2 H F' v p xs := by
 cases h with
 | one h => exact .one (h.mono hF)
 | agg h => exact .agg (h.mono hF)
theorem RVs.setNil : ∀ {vs : List Value} {ps : List PV} (k : Nat), RVs ρ S H F vs ps → RVs ρ S H F (vs.set k (.slice none 0 0)) (ps.set k .nil)
 | _, _, _, .nil => .nil
 | _, _, 0, .cons _ t => .cons (.tree .nilN) t
 | _, _, k + 1, .cons h t => .cons h (RVs.setNil k t)
theorem argsT_rel (h : RS ρ S H F pbar bar) {k : Option (Nat × List Bool)} {args ts : List PV} {bs ls : List Nat} {vs : List Value} (hd : argsT S k args = some (ts, bs, ls)) (hr : RVs ρ S H F vs args) :
  ∃ F' xs, RS ρ (freeze S bs) H F' pbar bar ∧ Out ρ S H F ρ (freeze S bs) H F' ∧ RF2s H F' vs ts xs ∧ Lt ρ (freeze S bs) xs ls ∧ Lt ρ S xs ls ∧ ls.Nodup := by
 unfold argsT at hd;split at hd
 ·split at hd
  ·rename_i ts' bs' hq;cases hd;obtain ⟨F', r1, r2, r3⟩ := freeze_rel bs h;obtain ⟨k1, k2⟩ := deeps_rel h r2.keep.sub hq hr r3;exact ⟨F', [], r1, r2, rf2s_of k1 k2, .nil, .nil, List.nodup_nil⟩
  ·cases hd
 ·rename_i k fs;split at hd
  ·cases hd
  ·rename_i a ha;split at hd
   ·cases hd
   ·rename_i t ls' bs₁ hl;split at hd
    ·cases hd
    ·rename_i ts' bs₂ hq;split at hd
     ·rename_i hnd;cases hd;simp only [Bool.and_eq_true, List.all_eq_true, Bool.not_eq_true'] at hnd;obtain ⟨F', r1, r2, r3⟩ := freeze_rel (bs₁ ++ bs₂) h;obtain ⟨v, hv1, hv2⟩ := hr.get k a ha;obtain ⟨xs, m1, m2⟩ := lend_rel h hl hv2 r2.keep.sub fun b e B hm => r3 b e B (List.mem_append_left _ hm);have hset := hr.setNil k;obtain ⟨k1, k2⟩ := deeps_rel h r2.keep.sub hq hset fun b e B hm => r3 b e B (List.mem_append_right _ hm);have hz : RF2s H F' (vs.set k (.slice none 0 0)) ts' [] := rf2s_of k1 k2;refine ⟨F', xs, r1, r2, ?_, m2.same (ls := ls) (fun b e h1 h2 hb => ?_) (fun _ h => h), m2, nodup_iff hnd.1⟩
      ·have key : ∀ {vs : List Value} {ts : List PV} {ys : List (Option Nat)} (k : Nat), RF2s H F' (vs.set k (.slice none 0 0)) ts ys → ys = [] → vs[k]? = some v → RF2s H F' vs (ts.set k t) xs := by
        intro vs;induction vs with
        | nil => intro ts ys k _ _ hk; simp at hk
        | cons w ws ih =>
         intro ts ys k hh hy hk;cases k with
         | zero =>
          simp at hk; subst hk;rw [List.set_cons_zero] at hh;cases hh with
          | cons h t =>
           obtain ⟨y1, y2⟩ := List.append_eq_nil_iff.1 hy;subst y1; subst y2;rw [List.set_cons_zero];simpa using RF2s.cons m1 t
         | succ k =>
          simp at hk;rw [List.set_cons_succ] at hh;cases hh with
          | cons h t =>
           obtain ⟨y1, y2⟩ := List.append_eq_nil_iff.1 hy;subst y1; subst y2;rw [List.set_cons_succ];simpa using RF2s.cons h (ih k t rfl hk)
       exact key k hz rfl hv1
      ·rw [freeze_get _ S b (by have := hnd.2 b hb; simpa using this)]; exact h1
     ·cases hd
end
end Go.Pev
namespace Go.Pev
open Go.Abu
section
variable {P : Program} {ρ : Nat → Option Nat} {S : St} {H : AH} {F : Nat → Prop} {pbar bar lo : Nat}
def DsP (ρ : Nat → Option Nat) (S : St) (H : AH) (F : Nat → Prop) (lo : Nat) (ds : List Nat) : Prop := ds.Nodup ∧ ∀ b ∈ ds, H.get b = some .mark ∧ lo ≤ b ∧ b < H.next ∧ ¬ F b ∧ ¬ Own ρ S b
structure FrP (ρ : Nat → Option Nat) (S : St) (H : AH) (F : Nat → Prop) (lo : Nat) (f : PF) (fr : Fr) : Prop where
 n : fr.n = f.n
 small : fr.n ≤ 1024
 ds : DsP ρ S H F lo fr.ds
 get : ∀ t p, f.m t = some p → ∃ v, fr.get t = some v ∧ RV ρ S H F v p
 rd : ∀ B, fr.rd = some B → (∃ st pd n m ps as bd, H.get B = some (.loop st pd n m ps as bd)) ∧ B < H.next ∧ ¬ F B ∧ ¬ Own ρ S B
structure OutX (X : Nat → Prop) (ρ : Nat → Option Nat) (S : St) (H : AH) (F : Nat → Prop) (ρ' : Nat → Option Nat) (S' : St) (H' : AH) (F' : Nat → Prop) : Prop where
 ext : ∀ b B, ρ b = some B → ρ' b = some B
 sn : S.next ≤ S'.next
 hn : H.next ≤ H'.next
 gone : ∀ b, b < S.next → S.get b = none → S'.get b = none
 same : ∀ b e', b < S.next → S'.get b = some e' → ∃ e, S.get b = some e ∧ e'.box = e.box ∧ e'.ty = e.ty ∧ e'.z = e.z ∧ (e.fz = true → e'.fz = true)
 rows : ∀ b e' B c t z, b < S.next → S'.get b = some e' → ρ b = some B → H.get B = some (.row c t z) → ∃ c', H'.get B = some (.row c' t z) ∧ c'.length = c.length
 keep : Keep H F H' F'
 newF : ∀ B, F' B → F B ∨ H.next ≤ B ∨ Own ρ S B
 own : ∀ B, B < H.next → Own ρ' S' B → Own ρ S B
 frame : ∀ B, B < H.next → ¬ Own ρ S B → ¬ X B → H'.get B = H.get B
 old : ∀ b, b < S.next → ρ' b = ρ b
 mo : ∀ b, b < S.next → S.getM b = none → S'.getM b = none
section
variable {X X' : Nat → Prop} {ρ₁ ρ₂ : Nat → Option Nat} {S₁ S₂ : St} {H₁ H₂ : AH} {F₁ F₂ : Nat → Prop}
theorem Out.x (o : Out ρ S H F ρ₁ S₁ H₁ F₁) : OutX X ρ S H F ρ₁ S₁ H₁ F₁ :=
 ⟨o.ext, o.sn, o.hn, o.gone, o.same, o.rows, o.keep, o.newF, o.own, fun B h1 h2 _ => o.frame B h1 h2, o.old, o.mo⟩
theorem OutX.out (o : OutX X ρ S H F ρ₁ S₁ H₁ F₁) (h : ∀ B, ¬ X B) : Out ρ S H F ρ₁ S₁ H₁ F₁ :=
 ⟨o.ext, o.sn, o.hn, o.gone, o.same, o.rows, o.keep, o.newF, o.own, fun B h1 h2 => o.frame B h1 h2 (h B), o.old, o.mo⟩
theorem OutX.stp (k : OutX X ρ S H F ρ₁ S₁ H₁ F₁) : Stp ρ S H F ρ₁ S₁ H₁ F₁ := ⟨k.ext, k.sn, k.gone, k.rows, k.keep⟩
theorem OutX.mono (o : OutX X ρ S H F ρ₁ S₁ H₁ F₁) (h : ∀ B, B < H.next → X B → X' B) : OutX X' ρ S H F ρ₁ S₁ H₁ F₁ :=
 ⟨o.ext, o.sn, o.hn, o.gone, o.same, o.rows, o.keep, o.newF, o.own, fun B h1 h2 h3 => o.frame B h1 h2 fun hx => h3 (h B h1 hx), o.old, o.mo⟩
theorem OutX.trans (h : OutX X ρ S H F ρ₁ S₁ H₁ F₁) (k : OutX X' ρ₁ S₁ H₁ F₁ ρ₂ S₂ H₂ F₂) (hX : ∀ B, B < H.next → X' B → X B) : OutX X ρ S H F ρ₂ S₂ H₂ F₂ where
 ext := fun b B e => k.ext b B (h.ext b B e)
 sn := Nat.le_trans h.sn k.sn
 hn := Nat.le_trans h.hn k.hn
 gone := fun b hb e => k.gone b (Nat.lt_of_lt_of_le hb h.sn) (h.gone b hb e)
 same := fun b e₂ hb e => by
  obtain ⟨e₁, a1, a2, a3, a4, a5⟩ := k.same b e₂ (Nat.lt_of_lt_of_le hb h.sn) e;obtain ⟨e₀, b1, b2, b3, b4, b5⟩ := h.same b e₁ hb a1;exact ⟨e₀, b1, a2.trans b2, a3.trans b3, a4.trans b4, fun x => a5 (b5 x)⟩
 rows := fun b e₂ B c t z hb e hρ hg => by
  obtain ⟨e₁, a1, _⟩ := k.same b e₂ (Nat.lt_of_lt_of_le hb h.sn) e;obtain ⟨c₁, b1, b2⟩ := h.rows b e₁ B c t z hb a1 hρ hg;obtain ⟨c₂, c1, c2⟩ := k.rows b e₂ B c₁ t z (Nat.lt_of_lt_of_le hb h.sn) e (h.ext b B hρ) b1;exact ⟨c₂, c1, c2.trans b2⟩
 keep := ⟨fun B hB => k.keep.sub B (h.keep.sub B hB), fun B hB => (k.keep.get B (h.keep.sub B hB)).trans (h.keep.get B hB)⟩
 newF := fun B hB => by
  rcases k.newF B hB with hB | hB | hB
  ·exact h.newF B hB
  ·exact .inr (.inl (Nat.le_trans h.hn hB))
  ·by_cases hlt : B < H.next
   ·exact .inr (.inr (h.own B hlt hB))
   ·exact .inr (.inl (by omega))
 own := fun B hB hO => h.own B hB (k.own B (Nat.lt_of_lt_of_le hB h.hn) hO)
 frame := fun B hB hO hx => by
  rw [k.frame B (Nat.lt_of_lt_of_le hB h.hn) (fun x => hO (h.own B hB x)) (fun x => hx (hX B hB x)), h.frame B hB hO hx]
 old := fun b hb => (k.old b (Nat.lt_of_lt_of_le hb h.sn)).trans (h.old b hb)
 mo := fun b hb e => k.mo b (Nat.lt_of_lt_of_le hb h.sn) (h.mo b hb e)
theorem OutX.free (o : OutX X ρ S H F ρ₁ S₁ H₁ F₁) {B : Nat} (h1 : B < H.next) (h2 : ¬ F B) (h3 : ¬ Own ρ S B) : B < H₁.next ∧ ¬ F₁ B ∧ ¬ Own ρ₁ S₁ B := by
 refine ⟨Nat.lt_of_lt_of_le h1 o.hn, fun hF => ?_, fun hO => h3 (o.own B h1 hO)⟩;rcases o.newF B hF with x | x | x
 ·exact h2 x
 ·omega
 ·exact h3 x
end
theorem DsP.stepX {X : Nat → Prop} {ρ' : Nat → Option Nat} {S' : St} {H' : AH} {F' : Nat → Prop} {ds : List Nat} (o : OutX X ρ S H F ρ' S' H' F') (hX : ∀ B, X B → B ∉ ds) (h : DsP ρ S H F lo ds) : DsP ρ' S' H' F' lo ds := by
 refine ⟨h.1, fun b hb => ?_⟩;obtain ⟨h1, h2, h3, h4, h5⟩ := h.2 b hb;obtain ⟨k1, k2, k3⟩ := o.free h3 h4 h5;exact ⟨by rw [o.frame b h3 h5 (fun x => hX b x hb)]; exact h1, h2, k1, k2, k3⟩
theorem FrP.stepX {X : Nat → Prop} {ρ' : Nat → Option Nat} {S' : St} {H' : AH} {F' : Nat → Prop} {f : PF} {fr : Fr} (h : RS ρ S H F pbar bar) (o : OutX X ρ S H F ρ' S' H' F') (hX : ∀ B, X B → B ∉ fr.ds ∧ fr.rd ≠ some B) (k : FrP ρ S H F lo f fr) : FrP ρ' S' H' F' lo f fr :=
 ⟨k.n, k.small, k.ds.stepX o fun B hB => (hX B hB).1, fun t p hp => let ⟨v, h1, h2⟩ := k.get t p hp; ⟨v, h1, h2.step o.stp h.rdom⟩, fun B hB => by
  obtain ⟨⟨st, pd, n, m, ps, as, bd, h1⟩, h2, h3, h4⟩ := k.rd B hB;exact ⟨⟨st, pd, n, m, ps, as, bd, by rw [o.frame B h2 h4 (fun x => (hX B x).2 hB)]; exact h1⟩, o.free h2 h3 h4⟩⟩
theorem DsP.notIn {ds : List Nat} (h : DsP ρ S H F lo ds) {B : Nat} (hB : B < lo) : B ∉ ds := fun hm => by
 have := (h.2 B hm).2.1;omega
theorem FrP.withUp {f : PF} {fr : Fr} (k : FrP ρ S H F lo f fr) (up : List LRec) : FrP ρ S H F lo ⟨f.n, f.m, up⟩ fr := ⟨k.n, k.small, k.ds, k.get, k.rd⟩
def XU (ρ : Nat → Option Nat) (up : List LRec) (B : Nat) : Prop := ∃ r ∈ up, ρ r.b = some B
structure LFr (ρ : Nat → Option Nat) (S : St) (H : AH) (F : Nat → Prop) (r : LRec) (n : Nat) (m : Tr Value 10) : Prop where
 sz : n = r.n
 small : n ≤ 1024
 get : ∀ t p, r.m t = some p → ∃ v, (Fr.mk n m [] none).get t = some v ∧ RV ρ S H F v p
def LoopP (ρ : Nat → Option Nat) (S : St) (H : AH) (F : Nat → Prop) (r : LRec) (B : Nat) : Prop :=
 match r.pd with
 | none => ∃ pd n m, H.get B = some (.loop .ready pd n m r.ps.toArray r.assign r.body) ∧ (pd = none) ∧ LFr ρ S H F r n m
 | some e => ∃ j n m ps as bd, H.get B = some (.loop .done (some j) n m ps as bd) ∧ jumpA e = some j
def UpR (ρ : Nat → Option Nat) (S : St) (H : AH) (F : Nat → Prop) (bar : Nat) : List LRec → Prop
 | [] => True
 | r :: up => (∃ B, ρ r.b = some B ∧ bar ≤ B ∧ B < H.next ∧ ¬ F B ∧ ¬ Own ρ S B ∧ ¬ XU ρ up B ∧ LoopP ρ S H F r B) ∧ UpR ρ S H F bar up
theorem LFr.stp {ρ' : Nat → Option Nat} {S' : St} {H' : AH} {F' : Nat → Prop} (h : RS ρ S H F pbar bar) (o : Stp ρ S H F ρ' S' H' F') {r : LRec} {n : Nat} {m : Tr Value 10} (k : LFr ρ S H F r n m) : LFr ρ' S' H' F' r n m :=
 ⟨k.sz, k.small, fun t p hp => let ⟨v, h1, h2⟩ := k.get t p hp; ⟨v, h1, h2.step o h.rdom⟩⟩
theorem LoopP.stp {ρ' : Nat → Option Nat} {S' : St} {H' : AH} {F' : Nat → Prop} (h : RS ρ S H F pbar bar) (o : Stp ρ S H F ρ' S' H' F') {r : LRec} {B : Nat} (hB : H'.get B = H.get B) (k : LoopP ρ S H F r B) : LoopP ρ' S' H' F' r B := by
 unfold LoopP at k ⊢;split at k
 ·obtain ⟨pd, n, m, k1, k2, k3⟩ := k;exact ⟨pd, n, m, hB.trans k1, k2, k3.stp h o⟩
 ·obtain ⟨j, n, m, ps, as, bd, k1, k2⟩ := k;exact ⟨j, n, m, ps, as, bd, hB.trans k1, k2⟩
theorem XU.ext {ρ' : Nat → Option Nat} {bar : Nat} : ∀ {up up' : List LRec}, UpR ρ S H F bar up → (∀ b B, ρ b = some B → ρ' b = some B) → up'.map (·.b) = up.map (·.b) → ∀ B, XU ρ' up' B → XU ρ up B
 | [], up', _, _, hm, B, hx => by
  obtain ⟨r, hr, _⟩ := hx;have : up' = [] := by simpa using hm
  subst this; cases hr
 | r :: up, [], _, _, hm, B, hx => by simp at hm
 | r :: up, r' :: up', hu, he, hm, B, hx => by
  simp only [List.map_cons, List.cons.injEq] at hm;obtain ⟨q, hq, hB⟩ := hx;rcases List.mem_cons.1 hq with rfl | hq
  ·obtain ⟨⟨B0, h1, _⟩, _⟩ := hu;rw [hm.1, he _ _ h1] at hB;cases hB;exact ⟨r, List.mem_cons_self .., h1⟩
  ·obtain ⟨q', h1, h2⟩ := XU.ext (up := up) hu.2 he hm.2 B ⟨q, hq, hB⟩;exact ⟨q', List.mem_cons_of_mem _ h1, h2⟩
theorem UpR.stepX {X : Nat → Prop} {ρ' : Nat → Option Nat} {S' : St} {H' : AH} {F' : Nat → Prop} {bar' : Nat} (h : RS ρ S H F pbar bar) (o : OutX X ρ S H F ρ' S' H' F') : ∀ {up : List LRec}, (∀ B, XU ρ up B → ¬ X B) → UpR ρ S H F bar' up → UpR ρ' S' H' F' bar' up
 | [], _, _ => trivial
 | r :: up, hX, ⟨⟨B, k1, k2, k3, k4, k5, k6, k7⟩, kt⟩ => by
  obtain ⟨f1, f2, f3⟩ := o.free k3 k4 k5;refine ⟨⟨B, o.ext _ _ k1, k2, f1, f2, f3, fun hx => k6 (XU.ext kt o.ext rfl B hx), k7.stp h o.stp (o.frame B k3 k5 (hX B ⟨r, List.mem_cons_self .., k1⟩))⟩, UpR.stepX h o (fun B hB => hX B ?_) kt⟩;obtain ⟨q, q1, q2⟩ := hB;exact ⟨q, List.mem_cons_of_mem _ q1, q2⟩
theorem up_same {H' : AH} {bar' : Nat} (h : RS ρ S H F pbar bar) (o : Stp ρ S H F ρ S H' F) (hn : H.next ≤ H'.next) : ∀ {up : List LRec}, (∀ B, XU ρ up B → H'.get B = H.get B) → UpR ρ S H F bar' up → UpR ρ S H' F bar' up
 | [], _, _ => trivial
 | r :: up, hg, ⟨⟨B, k1, k2, k3, k4, k5, k6, k7⟩, kt⟩ =>
  ⟨⟨B, k1, k2, Nat.lt_of_lt_of_le k3 hn, k4, k5, k6, k7.stp h o (hg B ⟨r, List.mem_cons_self .., k1⟩)⟩, up_same h o hn (fun B ⟨q, q1, q2⟩ => hg B ⟨q, List.mem_cons_of_mem _ q1, q2⟩) kt⟩
theorem UpR.step {ρ' : Nat → Option Nat} {S' : St} {H' : AH} {F' : Nat → Prop} {bar' : Nat} (h : RS ρ S H F pbar bar) (o : Out ρ S H F ρ' S' H' F') {up : List LRec} (k : UpR ρ S H F bar' up) : UpR ρ' S' H' F' bar' up :=
 k.stepX h (o.x (X := fun _ => False)) fun _ _ x => x
theorem FrP.step {ρ' : Nat → Option Nat} {S' : St} {H' : AH} {F' : Nat → Prop} {f : PF} {fr : Fr} (h : RS ρ S H F pbar bar) (o : Out ρ S H F ρ' S' H' F') (k : FrP ρ S H F lo f fr) : FrP ρ' S' H' F' lo f fr :=
 k.stepX h (o.x (X := fun _ => False)) fun _ x => x.elim
theorem FrP.env {f : PF} {fr : Fr} (k : FrP ρ S H F lo f fr) : EnvP ρ S H F f (aev fr) := by
 intro x p hp;cases x with
 | tmp t => exact k.get t p hp
 | const c =>
  obtain ⟨h1, h2, _⟩ := ofC_rel (ρ := ρ) (S := S) (H := H) (F := F) (show ofC c = some p from hp)
  exact ⟨c, by simp only [aev, h1, if_true], h2⟩
 | global g => cases hp
 | func g => cases hp; exact ⟨_, rfl, .tree (.fn .nil .nil)⟩
theorem aev_const (fr : Fr) : EnvC (aev fr) := by
 intro c v h;simp only [aev] at h;split at h
 ·cases h; rfl
 ·cases h
theorem fr_put {f f' : PF} {fr : Fr} (k : FrP ρ S H F lo f fr) {dst : Option Tmp} {p : PV} {v : Value} (hp : f.put dst p = some f') (hv : RV ρ S H F v p) : ∃ fr', fr.put dst v = some fr' ∧ FrP ρ S H F lo f' fr' ∧ fr'.rd = fr.rd ∧ f'.up = f.up := by
 cases dst with
 | none => cases hp; exact ⟨fr, rfl, k, rfl, rfl⟩
 | some d =>
  simp only [PF.put] at hp;split at hp
  ·rename_i hd;cases hp;have hd' : @LT.lt Nat _ d fr.n := by rw [k.n]; exact hd
   have hput : fr.put (some d) v = some { fr with m := Tr.set 10 fr.m d v } := by simp only [Fr.put]; rw [if_pos hd']
   have hs := k.small;refine ⟨_, hput, ⟨k.n, k.small, k.ds, fun t p' ht => ?_, k.rd⟩, rfl, rfl⟩;have ht : (if t = d then some p else f.m t) = some p' := ht
   unfold Fr.get;split at ht
   ·rename_i e;cases ht; subst e;have hd' : @LT.lt Nat _ t fr.n := hd';refine ⟨v, ?_, hv⟩;rw [if_pos (by omega), Tr.get_set 10 fr.m t t v (by omega) (by omega), if_pos rfl]
   ·rename_i e;obtain ⟨u, h1, h2⟩ := k.get t p' ht;refine ⟨u, ?_, h2⟩;unfold Fr.get at h1;split at h1
    ·rename_i hlt;rw [if_pos hlt, Tr.get_set 10 fr.m d t v (by omega) hlt, if_neg e];exact h1
    ·cases h1
  ·cases hp
structure Ran (ρ : Nat → Option Nat) (S : St) (H : AH) (F : Nat → Prop) (pbar bar lo : Nat) (f : PF) (fr : Fr) (ρ' : Nat → Option Nat) (S' : St) (H' : AH) (F' : Nat → Prop) (f' : PF) (fr' : Fr) : Prop where
 rs : RS ρ' S' H' F' pbar bar
 out : OutX (XU ρ f.up) ρ S H F ρ' S' H' F'
 frp : FrP ρ' S' H' F' lo f' fr'
 upr : UpR ρ' S' H' F' bar f'.up
 nm : f'.up.map (·.b) = f.up.map (·.b)
 rde : fr'.rd = fr.rd
theorem Ran.xu {f f' : PF} {fr fr' : Fr} {ρ' : Nat → Option Nat} {S' : St} {H' : AH} {F' : Nat → Prop} (k : Ran ρ S H F pbar bar lo f fr ρ' S' H' F' f' fr') (hu : UpR ρ S H F bar f.up) : ∀ B, XU ρ' f'.up B → XU ρ f.up B := XU.ext hu k.out.ext k.nm
theorem Ran.refl {f : PF} {fr : Fr} (h : RS ρ S H F pbar bar) (k : FrP ρ S H F lo f fr) (hu : UpR ρ S H F bar f.up) : Ran ρ S H F pbar bar lo f fr ρ S H F f fr := ⟨h, Out.refl.x, k, hu, rfl, rfl⟩
theorem Ran.trans {f f₁ f₂ : PF} {fr fr₁ fr₂ : Fr} {ρ₁ ρ₂ : Nat → Option Nat} {S₁ S₂ : St} {H₁ H₂ : AH} {F₁ F₂ : Nat → Prop} (hu : UpR ρ S H F bar f.up) (h : Ran ρ S H F pbar bar lo f fr ρ₁ S₁ H₁ F₁ f₁ fr₁) (k : Ran ρ₁ S₁ H₁ F₁ pbar bar lo f₁ fr₁ ρ₂ S₂ H₂ F₂ f₂ fr₂) : Ran ρ S H F pbar bar lo f fr ρ₂ S₂ H₂ F₂ f₂ fr₂ :=
 ⟨k.rs, h.out.trans k.out fun B _ hx => h.xu hu B hx, k.frp, k.upr, k.nm.trans h.nm, k.rde.trans h.rde⟩
def UpX (ρ : Nat → Option Nat) (lo : Nat) (rd : Option Nat) (up : List LRec) : Prop := ∀ B, XU ρ up B → B < lo ∧ rd ≠ some B
theorem UpX.ran {f f' : PF} {fr fr' : Fr} {ρ' : Nat → Option Nat} {S' : St} {H' : AH} {F' : Nat → Prop} (h : UpX ρ lo fr.rd f.up) (hu : UpR ρ S H F bar f.up) (k : Ran ρ S H F pbar bar lo f fr ρ' S' H' F' f' fr') : UpX ρ' lo fr'.rd f'.up := fun B hB => by
 rw [k.rde]; exact h B (k.xu hu B hB)
structure RecP (rec : PRec) (arec : Rec) : Prop where
 run : ∀ {pbar bar : Nat} {c : Code} {f : PF} {S : St} {e : AExit} {f' : PF} {S' : St}, rec pbar c f S = some (e, f', S') →
 ∀ {ρ : Nat → Option Nat} {H : AH} {F : Nat → Prop} {lo : Nat} {fr : Fr}, bar ≤ lo → lo ≤ H.next → RS ρ S H F pbar bar → FrP ρ S H F lo f fr → UpR ρ S H F bar f.up → UpX ρ lo fr.rd f.up →
 ∃ fr' H' ρ' F', arec bar c fr H = some (e, fr', H') ∧ Ran ρ S H F pbar bar lo f fr ρ' S' H' F' f' fr'
def aGo (P : Program) (K : Known) (arec : Rec) (bar : Nat) (g : FuncId) (vs : List Value) (H : AH) : Option (Value × AH) :=
 match aCallFunc P H g vs with
 | some (.val v H') => some (v, H')
 | some (.call g' args H') => callA P K arec bar g' args H'
 | none => none
theorem take_rel (hlo : bar ≤ lo) : ∀ (ds : List Nat) {H : AH}, DsP ρ S H F lo ds → ∃ H', takeA bar ds H = some H' ∧ H'.next = H.next ∧ ∀ b, b ∉ ds → H'.get b = H.get b
 | [], H, _ => ⟨H, rfl, rfl, fun _ _ => rfl⟩
 | b :: ds, H, h => by
  have hn := List.nodup_cons.1 h.1;obtain ⟨h1, h2, h3, h4, h5⟩ := h.2 b (by simp);have hd : DsP ρ S (H.put b .dead) F lo ds := ⟨hn.2, fun b' hb' => by
   obtain ⟨a1, a2⟩ := h.2 b' (by simp [hb']);exact ⟨by show (if b' = b then _ else _) = _; rw [if_neg (fun e => hn.1 (by rw [← e]; exact hb'))]; exact a1, a2⟩⟩
  obtain ⟨H', k1, k2, k3⟩ := take_rel hlo ds hd;refine ⟨H', ?_, k2, fun b' hb' => ?_⟩
  ·unfold takeA;rw [h1];simp only;rw [show Nat.ble bar b = true from Nat.ble_eq ▸ (by omega : bar ≤ b)]
   exact k1
  ·rw [List.mem_cons, not_or] at hb';rw [k3 b' hb'.2];show (if b' = b then _ else H.m b') = H.m b'
   rw [if_neg hb'.1]
theorem same_rs (h : RS ρ S H F pbar bar) {H' : AH} (hn : H'.next = H.next) (hg : ∀ b, (H'.get b = H.get b) ∨ (¬ F b ∧ ¬ Own ρ S b)) : RS ρ S H' F pbar bar ∧ Stp ρ S H F ρ S H' F := by
 have hk : Keep H F H' F := ⟨fun _ h => h, fun B hB => by rcases hg B with x | x; exact x; exact absurd hB x.1⟩
 refine ⟨ext_row h (by omega) hk (fun B hB => .inl hB) (fun B hB => by rw [hn]; exact h.flt B hB) (fun B hO => by rcases hg B with x | x; exact x; exact absurd hO x.2), ⟨fun _ _ h => h, Nat.le_refl _, fun _ _ h => h, fun b e B c t z hb hg' hρ hB => ⟨c, ?_, rfl⟩, hk⟩⟩
 rcases hg B with x | x
 ·rw [x]; exact hB
 ·exfalso;cases hz : e.fz with
  | false => exact x.2 (.inl ⟨b, e, hg', hz, hρ⟩)
  | true => exact x.1 (h.froz b e B hg' hz hρ)
theorem res_rel (h : RS ρ S H F pbar bar) {f : PF} {fr : Fr} (hm : ∀ t p, f.m t = some p → ∃ v, fr.get t = some v ∧ RV ρ S H F v p) : ∀ {rs : List ResultVar} {l : List PV}, resP P S f rs = some l → ∃ vs, resultsA P H fr rs = some vs ∧ RVs ρ S H F vs l
 | [], l, hl => by cases hl; exact ⟨[], rfl, .nil⟩
 | .tmp t :: rs, l, hl => by
  unfold resP at hl;split at hl
  ·rename_i p hp;split at hl
   ·rename_i l' hl';cases hl;obtain ⟨v, a1, a2⟩ := hm t p hp;obtain ⟨vs, b1, b2⟩ := res_rel h hm hl';exact ⟨v :: vs, by simp only [resultsA, a1, b1]; rfl, .cons a2 b2⟩
   ·cases hl
  ·cases hl
 | .cell a t :: rs, l, hl => by
  unfold resP at hl;split at hl
  ·rename_i p hp;split at hl
   ·rename_i v hv;split at hl
    ·rename_i l' hl';cases hl;obtain ⟨u, a1, a2⟩ := hm a p hp;obtain ⟨B, x, w, rfl, c1, c2⟩ := load_rel h hv a2;obtain ⟨vs, b1, b2⟩ := res_rel h hm hl';exact ⟨w :: vs, by simp only [resultsA, a1, b1, c1]; rfl, .cons c2 b2⟩
    ·cases hl
   ·cases hl
  ·cases hl
theorem pack_rel : ∀ {l : List PV} {vs : List Value}, RVs ρ S H F vs l → RV ρ S H F (packA vs) (packP l)
 | [], _, .nil => .tup .nil
 | [_], _, .cons h .nil => h
 | _ :: _ :: _, _, .cons h (.cons h2 t) => .tup (.cons h (.cons h2 t))
theorem end_rel {rs : List ResultVar} {r : Option (AExit × PF × St)} {p : PV} {up : List LRec} {S' : St} (he : endP P rs r = some (p, up, S')) :
  ∃ e f, r = some (e, f, S') ∧ (e = .normal ∨ e = .ret) ∧ f.up = up ∧ ∃ l, resP P S' f rs = some l ∧ p = packP l := by
 unfold endP at he;split at he
 ·split at he
  ·rename_i l hl;cases he;exact ⟨_, _, rfl, .inl rfl, rfl, l, hl, rfl⟩
  ·cases he
 ·split at he
  ·rename_i l hl;cases he;exact ⟨_, _, rfl, .inr rfl, rfl, l, hl, rfl⟩
  ·cases he
 ·cases he
theorem fin_rel {ρ₀ : Nat → Option Nat} {S₀ : St} {H₀ : AH} {F₀ : Nat → Prop} (h : RS ρ S H F pbar bar) {X : Nat → Prop} (o : OutX X ρ₀ S₀ H₀ F₀ ρ S H F) (hb : bar ≤ H₀.next) {f : PF} {fr : Fr} (k : FrP ρ S H F H₀.next f fr) {rs : List ResultVar} {l : List PV}
  (hl : resP P S f rs = some l) : ∃ v H', finA P bar rs fr H = some (v, H') ∧ RS ρ S H' F pbar bar ∧ OutX X ρ₀ S₀ H₀ F₀ ρ S H' F ∧ RV ρ S H' F v (packP l) ∧ H'.next = H.next ∧ (∀ b, H'.get b = H.get b ∨ b ∈ fr.ds) ∧ Stp ρ S H F ρ S H' F := by
 obtain ⟨H', t1, t2, t3⟩ := take_rel hb fr.ds k.ds;have hg : ∀ b, (H'.get b = H.get b) ∨ (¬ F b ∧ ¬ Own ρ S b) := fun b => by
  by_cases hb : b ∈ fr.ds
  ·obtain ⟨_, _, _, h4, h5⟩ := k.ds.2 b hb; exact .inr ⟨h4, h5⟩
  ·exact .inl (t3 b hb)
 obtain ⟨r1, r2⟩ := same_rs h t2 hg;obtain ⟨vs, v1, v2⟩ := res_rel (P := P) r1 (fr := fr) (fun t p hp => let ⟨v, a, b⟩ := k.get t p hp; ⟨v, a, b.step r2 h.rdom⟩) hl
 refine ⟨packA vs, H', by simp only [finA, t1, v1]; rfl, r1, ?_, pack_rel v2, t2, fun b => by
  by_cases hb : b ∈ fr.ds
  ·exact .inr hb
  ·exact .inl (t3 b hb), r2⟩
 refine ⟨o.ext, o.sn, by rw [t2]; exact o.hn, o.gone, o.same, fun b e' B c t z hb hg' hρ hB => ?_, ⟨o.keep.sub, fun B hB => ?_⟩, o.newF, o.own, fun B hB hO hx => ?_, o.old, o.mo⟩
 ·obtain ⟨c', a1, a2⟩ := o.rows b e' B c t z hb hg' hρ hB;refine ⟨c', ?_, a2⟩;rw [t3 B (fun hm => by rw [(k.ds.2 B hm).1] at a1; cases a1)];exact a1
 ·rw [t3 B (fun hm => (k.ds.2 B hm).2.2.2.1 (o.keep.sub B hB))];exact o.keep.get B hB
 ·rw [t3 B (fun hm => by have := (k.ds.2 B hm).2.1; omega)];exact o.frame B hB hO hx
variable {K : Known}
theorem init_rel {ρ : Nat → Option Nat} {args : List PV} {vs : List Value} {n : Nat} {up : List LRec} (hr : RVs ρ S H F vs args) (h1 : args.length ≤ n) (h2 : n ≤ 1024) :
  FrP ρ S H F lo ⟨n, fun t => args[t]?, up⟩ ⟨n, frInit n 0 vs (Tr.empty 10), [], none⟩ := by
 refine ⟨rfl, h2, ⟨List.nodup_nil, fun b hb => by simp at hb⟩, fun t p hp => ?_, fun B hB => by cases hB⟩;have hp : args[t]? = some p := hp;obtain ⟨v, a1, a2⟩ := hr.get t p hp;have hlen := hr.length;have hlt := (List.getElem?_eq_some_iff.1 hp).1;refine ⟨v, ?_, a2⟩;unfold Fr.get;rw [if_pos (by omega)];simp only;rw [frInit_get n vs 0 _ (by omega) t (by omega), if_pos (by omega)];exact a1
def KnP (C : Cfg) (K : Known) : Prop := ∀ g, C.kn g = false → ∀ args H, K g args H = none
theorem ext_rel {g : FuncId} {args : List PV} {p : PV} {vs : List Value} {fn : Func} (hf : P.funcs[g]? = some fn) (hb : fn.body = none) (he : pExt P g args = some p) (hr : RVs ρ S H F vs args) :
  ∃ v, aCallFunc P H g vs = some (.val v H) ∧ RV ρ S H F v p := by
 unfold pExt at he;split at he
 ·rename_i l hl;obtain ⟨rfl, hpl⟩ := toVs_rel hl hr;split at he
  ·rename_i v hv;split at he
   ·rename_i hc;simp only [Bool.and_eq_true] at hc;have hcall : aCallFunc P H g vs = some (.val v H) := by
     unfold aCallFunc;rw [hf];simp only [hb, Option.isNone_none, if_true];rw [if_pos hc.1, hv];simp only [Option.bind_some];rw [if_pos hc.2]
    refine ⟨v, hcall, ?_⟩;split at he
    ·rename_i us;cases he;refine .tup ?_;have : us.toList.all plain1 = true := hc.2;clear hcall hv hc;generalize us.toList = l at this;induction l with
     | nil => exact .nil
     | cons x xs ih =>
      simp only [List.all_cons, Bool.and_eq_true] at this;exact .cons (.of_v this.1) (ih this.2)
    ·rename_i hne;cases he;refine .of_v ?_;have := hc.2;unfold plainT at this;split at this
     ·rename_i us; exact absurd rfl (hne us)
     ·exact this
   ·cases he
  ·cases he
 ·cases he
structure DidX (ρ : Nat → Option Nat) (S : St) (H : AH) (F : Nat → Prop) (pbar bar : Nat) (up : List LRec) (p : PV) (up' : List LRec) (S' : St) (v : Value) (H' : AH) (ρ' : Nat → Option Nat) (F' : Nat → Prop) : Prop where
 rs : RS ρ' S' H' F' pbar bar
 out : OutX (XU ρ up) ρ S H F ρ' S' H' F'
 rv : RV ρ' S' H' F' v p
 upr : UpR ρ' S' H' F' bar up'
 nm : up'.map (·.b) = up.map (·.b)
theorem Did.x {up : List LRec} {p : PV} {S' : St} {v : Value} {H' : AH} {ρ' : Nat → Option Nat} {F' : Nat → Prop} (h : RS ρ S H F pbar bar) (hu : UpR ρ S H F bar up) (d : Did ρ S H F pbar bar p S' v H' ρ' F') : DidX ρ S H F pbar bar up p up S' v H' ρ' F' :=
 ⟨d.rs, d.out.x, d.rv, hu.step h d.out, rfl⟩
theorem DidX.did {p : PV} {up' : List LRec} {S' : St} {v : Value} {H' : AH} {ρ' : Nat → Option Nat} {F' : Nat → Prop} (d : DidX ρ S H F pbar bar [] p up' S' v H' ρ' F') : Did ρ S H F pbar bar p S' v H' ρ' F' :=
 ⟨d.rs, d.out.out (fun B hx => by obtain ⟨_, hm, _⟩ := hx; cases hm), d.rv⟩
theorem callI_rel' {C : Cfg} {rec : PRec} {arec : Rec} (hrec : RecP rec arec) (hkn : KnP C K) (h : RS ρ S H F pbar bar) {g : FuncId} {args : List PV} {p : PV} {up up' : List LRec} {S' : St} {vs : List Value} (hc : callI C rec pbar g args up S = some (p, up', S'))
  (hr : RVs ρ S H F vs args) (hu : UpR ρ S H F bar up) : ∃ v H' ρ' F', aGo C.P K arec bar g vs H = some (v, H') ∧ DidX ρ S H F pbar bar up p up' S' v H' ρ' F' ∧ (aCallFunc C.P H g vs = some (.call g vs.toArray H) ∨ (toVs args).isSome = true) := by
 unfold callI at hc;split at hc
 ·cases hc
 ·rename_i hk;split at hc
  ·rename_i fn hfn;split at hc
   ·rename_i c hbody;split at hc
    ·rename_i hcond;obtain ⟨c1, c2, c3⟩ := hcond;obtain ⟨e, f, hrun, hex, rfl, l, hl, rfl⟩ := end_rel hc;have hx : UpX ρ H.next none up := fun B hB => ⟨by
      clear hc hrun hl hr;induction up with
      | nil => obtain ⟨_, hm, _⟩ := hB; cases hm
      | cons r up ih =>
       obtain ⟨q, q1, q2⟩ := hB;rcases List.mem_cons.1 q1 with rfl | q1
       ·obtain ⟨⟨B0, k1, _, k3, _⟩, _⟩ := hu;rw [k1] at q2; cases q2; exact k3
       ·exact ih hu.2 ⟨q, q1, q2⟩, by simp⟩
     obtain ⟨fr', H', ρ', F', k1, k⟩ := hrec.run hrun (lo := H.next) h.barn (Nat.le_refl _) h (init_rel hr c1 c2) hu hx;obtain ⟨v, H'', m1, m2, m3, m4, m5, m6, m7⟩ := fin_rel (P := C.P) k.rs k.out h.barn k.frp hl;have hlen := hr.length;have hcall : aCallFunc C.P H g vs = some (.call g vs.toArray H) := by
      unfold aCallFunc;rw [hfn];simp only [hbody, Option.isNone_some];rw [c3];rfl
     refine ⟨v, H'', ρ', F', ?_, ⟨m2, m3, m4, ?_, k.nm⟩, .inl hcall⟩
     ·simp only [aGo, hcall];unfold callA;rw [hkn g hk, hfn];simp only [hbody];rw [if_pos ⟨by rw [List.size_toArray]; omega, c2⟩];rw [k1];rcases hex with rfl | rfl <;> exact m1
     ·have hds : ∀ B, XU ρ' f.up B → H''.get B = H'.get B := fun B hB => by
       rcases m6 B with x | x
       ·exact x
       ·exfalso;have h1 := (k.frp.ds.2 B x).2.1;have h2 := (hx B (k.xu hu B hB)).1;omega
      exact up_same k.rs m7 (Nat.le_of_eq m5.symm) hds k.upr
    ·cases hc
   ·rename_i hbody;split at hc
    ·rename_i q hq;cases hc;obtain ⟨v, a1, a2⟩ := ext_rel (ρ := ρ) hfn hbody hq hr;refine ⟨v, H, ρ, F, by simp only [aGo, a1], (Did.pure h a2).x h hu, .inr ?_⟩;unfold pExt at hq;split at hq
     ·rename_i l hl; rw [hl]; rfl
     ·cases hq
    ·cases hc
  ·cases hc
theorem callI_rel {C : Cfg} {rec : PRec} {arec : Rec} (hrec : RecP rec arec) (hkn : KnP C K) (h : RS ρ S H F pbar bar) {g : FuncId} {args : List PV} {p : PV} {up up' : List LRec} {S' : St} {vs : List Value} (hc : callI C rec pbar g args up S = some (p, up', S'))
  (hr : RVs ρ S H F vs args) (hu : UpR ρ S H F bar up) : ∃ v H' ρ' F', aGo C.P K arec bar g vs H = some (v, H') ∧ DidX ρ S H F pbar bar up p up' S' v H' ρ' F' := by
 obtain ⟨v, H', ρ', F', a, b, _⟩ := callI_rel' hrec hkn h hc hr hu;exact ⟨v, H', ρ', F', a, b⟩
end
end Go.Pev
namespace Go.Pev
open Go.Abu
section
variable {P : Program} {ρ : Nat → Option Nat} {S : St} {H : AH} {F : Nat → Prop} {pbar bar lo : Nat} {K : Known}
theorem no_own {B : Nat} : ¬ Own (fun _ => none) St.empty B := by
 rintro (⟨_, _, h, _⟩ | ⟨_, _, h, _⟩) <;> cases h
theorem RS.emptyF (hF : ∀ B, F B → B < H.next) (hb : bar ≤ H.next) : RS (fun _ => none) St.empty H F 0 bar :=
 ⟨fun _ _ h => (by cases h), fun _ _ h => (by cases h), fun _ _ h => (by cases h), fun _ _ h => (by cases h), fun _ _ h => (by cases h), fun _ _ h => (by cases h), fun _ _ _ _ _ h => (by cases h), fun _ _ _ _ _ h => (by cases h), fun _ _ _ _ _ h => (by cases h),
  fun B hO _ => no_own hO, hF, fun _ _ _ h => (by cases h), fun _ _ _ h => (by cases h), hb, Nat.zero_le _, fun _ _ _ h => (by cases h)⟩
def NoBox (S : St) : Prop := ∀ b e, S.get b = some e → e.box = false
theorem NoBox.inst1 {S : St} (h : NoBox S) (p : PV) : NoBox (inst1 S p).1 := by
 unfold Pev.inst1;split
 ·intro b e he;rw [St.get_alloc] at he;split at he
  ·cases he; rfl
  ·exact h b e he
 ·exact h
theorem NoBox.instL : ∀ (ps : List PV) {S : St}, NoBox S → NoBox (instL S ps).1
 | [], _, h => h
 | p :: ps, _, h => NoBox.instL ps (h.inst1 p)
theorem NoBox.inst2 {S : St} (h : NoBox S) (p : PV) : NoBox (inst2 S p).1 := by
 unfold Pev.inst2;split
 ·exact NoBox.instL _ h
 ·exact h.inst1 _
theorem NoBox.inst2L : ∀ (ps : List PV) {S : St}, NoBox S → NoBox (inst2L S ps).1
 | [], _, h => h
 | p :: ps, _, h => NoBox.inst2L ps (h.inst2 p)
theorem NoBox.empty : NoBox St.empty := fun b e h => by cases h
structure TRes (H : AH) (F : Nat → Prop) (Bs : List (Option Nat)) (r : PV) (l : List (Option (List (List PV)))) (v : Value) (H' : AH) (F' : Nat → Prop) (xs : List (Option Nat)) : Prop where
 hn : H.next ≤ H'.next
 keep : Keep H F H' F'
 newF : ∀ B, F' B → F B ∨ H.next ≤ B ∨ some B ∈ Bs
 flt : ∀ B, F' B → B < H'.next
 rf : RF3 H' F' v r xs
 nd : ND xs
 own : ∀ B, some B ∈ xs → ¬ F' B ∧ B < H'.next ∧ (H.next ≤ B ∨ some B ∈ Bs)
 frame : ∀ B, B < H.next → some B ∉ Bs → H'.get B = H.get B
 len : l.length = Bs.length
 back : ∀ (i : Nat) (els : List (List PV)), l[i]? = some (some els) → (Bs[i]? = some none ∧ els = []) ∨
  ∃ B, Bs[i]? = some (some B) ∧ ¬ F' B ∧ some B ∉ xs ∧ ∀ c t z, H.get B = some (.row c t z) → ∃ c', H'.get B = some (.row c' t z) ∧ c'.length = c.length ∧ REs H' F' z c' els
def TOk (P : Program) (K : Known) (arec : Rec) (g : FuncId) (ts : List PV) (r : PV) (l : List (Option (List (List PV)))) : Prop :=
 ∀ {H : AH} {F : Nat → Prop} {bar : Nat} {vs : List Value} {Bs : List (Option Nat)}, RF2s H F vs ts Bs → ND Bs → (∀ B, some B ∈ Bs → ¬ F B ∧ B < H.next ∧ bar ≤ B) → (∀ B, F B → B < H.next) → bar ≤ H.next →
 ∃ v H' F' xs, aGo P K arec bar g vs H = some (v, H') ∧ TRes H F Bs r l v H' F' xs
def XP (C : Cfg) (K : Known) : Prop := ∀ g ts r l arec, C.kn g = true → C.X g ts = some (r, l) → TOk C.P K arec g ts r l
theorem callT_rel {C : Cfg} {rec : PRec} {arec : Rec} (hrec : RecP rec arec) (hkn : KnP C K) (hX : XP C K) {g : FuncId} {ts : List PV} {r : PV} {l : List (Option (List (List PV)))} (hc : callT C rec g ts = some (r, l)) : TOk C.P K arec g ts r l := by
 unfold callT at hc;split at hc
 ·rename_i hk;exact hX g ts r l arec hk hc
 ·intro H F bar vs Bs hr hnd hB hF hbar;simp only at hc;split at hc
  ·rename_i p up0 S' hcall;have h0 := RS.emptyF hF hbar;obtain ⟨ρ₁, tk, rv⟩ := inst2L_rel h0 hr (fun B hm => ⟨(hB B hm).1, no_own, (hB B hm).2⟩) hnd;obtain ⟨v, H', ρ₂, F₂, g1, dx⟩ := callI_rel hrec hkn tk.rs hcall rv trivial;have d := dx.did;obtain ⟨S'', F', xs, r1, o1, s⟩ := shut_rel d.rs hc d.rv;have o := d.out.trans o1;have hnext : (inst2L St.empty ts).1.next = Bs.length := by rw [tk.next]; show 0 + _ = _; omega
   have hown : ∀ B, Own ρ₁ (inst2L St.empty ts).1 B → some B ∈ Bs := fun B hO => by
    rcases tk.own B hO with hO | hO
    ·exact absurd hO no_own
    ·exact hO
   refine ⟨v, H', F', xs, g1, o.hn, o.keep, fun B hb => ?_, r1.flt, s.rf, s.nd, fun B hb => ?_, fun B hb hm => o.frame B hb (fun hO => hm (hown B hO)), by rw [s.len, hnext], fun i els hi => ?_⟩
   ·rcases o.newF B hb with x | x | x
    ·exact .inl x
    ·exact .inr (.inl x)
    ·exact .inr (.inr (hown B x))
   ·have hO := s.own B hb;refine ⟨r1.fix B hO, ?_, ?_⟩
    ·rcases hO with ⟨b, e, _, _, a⟩ | ⟨b, e, _, a⟩ <;> exact r1.lt b B a
    ·by_cases hlt : B < H.next
     ·exact .inr (hown B (o.own B hlt hO))
     ·exact .inl (by omega)
   ·obtain ⟨i1, e, e1, e2, e3, e4⟩ := s.back i els hi;rw [hnext] at i1;have hi' : Bs[i]? = some Bs[i] := List.getElem?_eq_getElem i1;have hat : ρ₁ i = Bs[i] := by
     have := tk.at_ i Bs[i] hi';have hz : St.empty.next + i = i := by show 0 + i = i; omega
     rw [hz] at this; exact this
    have hold : ρ₂ i = Bs[i] := (o.old i (by rw [hnext]; exact i1)).trans hat;cases hb : Bs[i] with
    | none =>
     rw [hb] at hi' hold;refine .inl ⟨hi', ?_⟩;rcases r1.ent i e e1 with ⟨B, c, t, z, a1, _⟩ | ⟨_, _, a⟩
     ·rw [hold] at a1; cases a1
     ·rw [← e3]; exact a
    | some B =>
     rw [hb] at hi' hold hat;have hO : Own ρ₂ S'' B := .inl ⟨i, e, e1, e2, hold⟩;refine .inr ⟨B, hi', r1.fix B hO, e4 B hold, fun c t z hg => ?_⟩;obtain ⟨c', k1, k2⟩ := o.rows i e B c t z (by rw [hnext]; exact i1) e1 hat hg;refine ⟨c', k1, k2, ?_⟩;obtain ⟨e0, f1, f2, _⟩ := o.same i e (by rw [hnext]; exact i1) e1;rcases r1.ent i e e1 with ⟨B', c'', t', z', a1, a2, a3⟩ | ⟨a, _⟩
     ·rw [hold] at a1; cases a1;rw [k1] at a2; cases a2;rcases a3 with ⟨kb, _⟩ | ⟨_, _, _, _, kr⟩
      ·rw [f2, NoBox.inst2L ts NoBox.empty i e0 f1] at kb; cases kb
      ·rw [← e3]; exact kr
     ·rw [hold] at a; cases a
  ·cases hc
end
end Go.Pev
namespace Go.Pev
open Go.Abu
section
variable {P : Program} {ρ : Nat → Option Nat} {S : St} {H : AH} {F : Nat → Prop} {pbar bar lo : Nat} {K : Known}
theorem nd_idx : ∀ {ls : List Nat} {i j b : Nat}, ls.Nodup → ls[i]? = some b → ls[j]? = some b → i = j
 | [], i, j, b, _, h, _ => by simp at h
 | a :: ls, i, j, b, hn, h, k => by
  rw [List.nodup_cons] at hn;cases i with
  | zero =>
   cases j with
   | zero => rfl
   | succ j => simp at h k; subst h; exact absurd (List.mem_iff_getElem?.2 ⟨j, k⟩) hn.1
  | succ i =>
   cases j with
   | zero => simp at h k; subst k; exact absurd (List.mem_iff_getElem?.2 ⟨i, h⟩) hn.1
   | succ j => simp at h k; rw [nd_idx hn.2 h k]
theorem flat_rel {v : Value} {p : PV} {xs : List (Option Nat)} (h : RF H F v p xs) (hf : flat [p] = true) {ρ : Nat → Option Nat} {S : St} {H' : AH} {F' : Nat → Prop} : RV ρ S H' F' v p := by
 cases h with
 | tree h => cases h with
  | v h => exact .of_v h
  | _ => simp [flat] at hf
 | _ => simp [flat] at hf
theorem flat_cons {p : PV} {ps : List PV} (h : flat (p :: ps) = true) : flat [p] = true ∧ flat ps = true := by
 cases p <;> simp [flat] at h ⊢;exact h
theorem flats_rel {ρ : Nat → Option Nat} {S : St} {H' : AH} {F' : Nat → Prop} : ∀ {vs : List Value} {ps : List PV} {xs : List (Option Nat)}, RFs H F vs ps xs → flat ps = true → RVs ρ S H' F' vs ps
 | _, _, _, .nil, _ => .nil
 | _, _, _, .cons h t, hf => .cons (flat_rel h (flat_cons hf).1) (flats_rel t (flat_cons hf).2)
theorem flat2_rel {ρ : Nat → Option Nat} {S : St} {H' : AH} {F' : Nat → Prop} {v : Value} {p : PV} {xs : List (Option Nat)} (h : RF2 H F v p xs) (hf : flat p.cells = true) : RV ρ S H' F' v p := by
 cases h with
 | agg h => exact .agg (flats_rel h hf)
 | one h => cases h with
  | tree h => cases h with
   | v h => exact .of_v h
   | _ => simp [flat, PV.cells] at hf
  | _ => simp [flat, PV.cells] at hf
theorem flat2s_rel {ρ : Nat → Option Nat} {S : St} {H' : AH} {F' : Nat → Prop} : ∀ {vs : List Value} {ps : List PV} {xs : List (Option Nat)}, RF2s H F vs ps xs → flatC ps = true → RVs ρ S H' F' vs ps
 | _, _, _, .nil, _ => .nil
 | _, _, _, .cons h t, hf => by
  simp only [flatC, Bool.and_eq_true] at hf;exact .cons (flat2_rel h hf.1) (flat2s_rel t hf.2)
theorem flat3_rel {ρ : Nat → Option Nat} {S : St} {H' : AH} {F' : Nat → Prop} {v : Value} {p : PV} {xs : List (Option Nat)} (h : RF3 H F v p xs) (hf : flatR p = true) : RV ρ S H' F' v p := by
 cases h with
 | tup h => exact .tup (flat2s_rel h hf)
 | one h =>
  cases p with
  | tup ps => cases h with
   | one h => cases h with
    | tree h => cases h
  | _ => exact flat2_rel h hf
theorem callP_rel' {C : Cfg} {rec : PRec} {arec : Rec} (hrec : RecP rec arec) (hkn : KnP C K) (hX : XP C K) (h : RS ρ S H F pbar bar) {g : FuncId} {args : List PV} {p : PV} {up up' : List LRec} {S' : St} {vs : List Value} (hc : callP C rec pbar g args up S = some (p, up', S'))
  (hr : RVs ρ S H F vs args) (hu : UpR ρ S H F bar up) : ∃ v H' ρ' F', aGo C.P K arec bar g vs H = some (v, H') ∧ DidX ρ S H F pbar bar up p up' S' v H' ρ' F' ∧
  (inlP C g args = false → ∃ ts bs ls, argsT S (C.lent g) args = some (ts, bs, ls) ∧ (∀ b ∈ ls, ∃ e, S.get b = some e ∧ e.fz = false) ∧ ∀ B, B < H.next → (∀ b ∈ ls, ρ b ≠ some B) → H'.get B = H.get B) := by
 unfold callP at hc;split at hc
 ·rename_i hi;obtain ⟨v, H', ρ', F', a, b⟩ := callI_rel hrec hkn h hc hr hu;exact ⟨v, H', ρ', F', a, b, fun x => by rw [hi] at x; cases x⟩
 ·split at hc
  ·rename_i ts bs ls ha;split at hc
   ·rename_i hbar;split at hc
    ·rename_i r l hcall;obtain ⟨F₁, Bs, r1, o1, a1, a2, a3, hnd⟩ := argsT_rel h ha hr;have hbar : ∀ b ∈ ls, pbar ≤ b := fun b hb => by simpa using List.all_eq_true.1 hbar b hb
     have hOwn1 : ∀ B, some B ∈ Bs → Own ρ (freeze S bs) B := fun B hB => by
      obtain ⟨i, b, e, _, _, m2, m3, m4⟩ := a2.mem B hB;exact .inl ⟨b, e, m3, m4, m2⟩
     have hOwn : ∀ B, some B ∈ Bs → Own ρ S B := fun B hB => by
      obtain ⟨i, b, e, _, _, m2, m3, m4⟩ := a3.mem B hB;exact .inl ⟨b, e, m3, m4, m2⟩
     have hB : ∀ B, some B ∈ Bs → ¬ F₁ B ∧ B < H.next ∧ bar ≤ B := fun B hB => by
      refine ⟨r1.fix B (hOwn1 B hB), ?_, ?_⟩
      ·obtain ⟨i, b, e, _, _, m2, m3, m4⟩ := a2.mem B hB; exact r1.lt b B m2
      ·obtain ⟨i, b, e, m0, _, m2, m3, m4⟩ := a2.mem B hB;exact r1.bars b e B m3 m2 (hbar b (List.mem_iff_getElem?.2 ⟨i, m0⟩))
     obtain ⟨v, H', F', xs, g1, t⟩ := callT_rel hrec hkn hX hcall a1 (a2.nd r1 hnd) hB r1.flt h.barn;have hfr : ∃ ts bs ls, argsT S (C.lent g) args = some (ts, bs, ls) ∧ (∀ b ∈ ls, ∃ e, S.get b = some e ∧ e.fz = false) ∧ ∀ B, B < H.next → (∀ b ∈ ls, ρ b ≠ some B) → H'.get B = H.get B := by
      refine ⟨ts, bs, ls, ha, fun b hb => ?_, fun B hB hn => t.frame B hB fun hm => ?_⟩
      ·obtain ⟨i, hi⟩ := List.mem_iff_getElem?.1 hb;obtain ⟨e, d1, d2, _⟩ := a3.at i b hi;exact ⟨e, d1, d2⟩
      ·obtain ⟨i, b, e, m0, _, m2, _⟩ := a3.mem B hm;exact hn b (List.mem_iff_getElem?.2 ⟨i, m0⟩) m2
     split at hc
     ·
      have hlen : l.length = ls.length := by rw [t.len, a2.length]
      obtain ⟨gs, gv⟩ := give_spec ls l (freeze S bs) hnd hlen;have who : ∀ b e B, (freeze S bs).get b = some e → ρ b = some B → some B ∈ Bs → ∃ i : Nat, ls[i]? = some b ∧ Bs[i]? = some (some B) := fun b e B hg hρ hm => by
       obtain ⟨i, b', e', m0, m1, m2, m3, _⟩ := a2.mem B hm;have := r1.inj b b' e e' B hg m3 hρ m2;subst this;exact ⟨i, m0, m1⟩
      have liv : ∀ i b e, ls[i]? = some b → (giveBack (freeze S bs) ls l).get b = some e → ∃ els e₀, l[i]? = some (some els) ∧ (freeze S bs).get b = some e₀ ∧ e = { e₀ with els := els } := fun i b e hi hg => by
       have hil : i < l.length := by rw [hlen]; exact (List.getElem?_eq_some_iff.1 hi).1
       have hl := List.getElem?_eq_getElem hil;obtain ⟨k1, k2⟩ := gv i b hi;cases hx : l[i] with
       | none => rw [hx] at hl; rw [k1 hl] at hg; cases hg
       | some els =>
        rw [hx] at hl;rw [k2 els hl] at hg;cases hz : (freeze S bs).get b with
        | none => rw [hz] at hg; cases hg
        | some e₀ => rw [hz] at hg; cases hg; exact ⟨els, e₀, hl, rfl, rfl⟩
      have ent : ∀ b e', (giveBack (freeze S bs) ls l).get b = some e' → ∃ e, (freeze S bs).get b = some e ∧ ((e' = e ∧ b ∉ ls) ∨ ∃ i els, ls[i]? = some b ∧ l[i]? = some (some els) ∧ e' = { e with els := els }) := fun b e' hg => by
       by_cases hb : b ∈ ls
       ·obtain ⟨i, hi⟩ := List.mem_iff_getElem?.1 hb;obtain ⟨els, e₀, x1, x2, x3⟩ := liv i b e' hi hg;exact ⟨e₀, x2, .inr ⟨i, els, hi, x1, x3⟩⟩
       ·rw [gs.get b hb] at hg;exact ⟨e', hg, .inl ⟨rfl, hb⟩⟩
      have notBs : ∀ b e B, (freeze S bs).get b = some e → ρ b = some B → b ∉ ls → some B ∉ Bs := fun b e B hg hρ hb hm => by
       obtain ⟨i, hi, _⟩ := who b e B hg hρ hm;exact hb (List.mem_iff_getElem?.2 ⟨i, hi⟩)
      have hfix : ∀ B, Own ρ (giveBack (freeze S bs) ls l) B → ¬ F' B ∧ some B ∉ xs := fun B hO => by
       rcases hO with ⟨b, e', b1, b2, b3⟩ | ⟨b, es, b1, b3⟩
       ·obtain ⟨e, c1, c2⟩ := ent b e' b1;have hlt := r1.lt b B b3;rcases c2 with ⟨rfl, c2⟩ | ⟨i, els, c2, c3, rfl⟩
        ·have hn := notBs b e' B c1 b3 c2;have hO1 : Own ρ (freeze S bs) B := .inl ⟨b, e', c1, b2, b3⟩;refine ⟨fun hF' => ?_, fun hx => ?_⟩
         ·rcases t.newF B hF' with x | x | x
          ·exact r1.fix B hO1 x
          ·omega
          ·exact hn x
         ·rcases (t.own B hx).2.2 with x | x
          ·omega
          ·exact hn x
        ·obtain ⟨e0, d1, _, _, d4⟩ := a2.at i b c2;rcases d4 with d4 | ⟨B', d4, d5⟩
         ·have hn : some B ∉ Bs := fun hm => by
           obtain ⟨j, j1, j2⟩ := who b e B c1 b3 hm;have : i = j := nd_idx hnd c2 j1;subst this;rw [d4] at j2; cases j2
          have hO1 : Own ρ (freeze S bs) B := .inl ⟨b, e, c1, b2, b3⟩;refine ⟨fun hF' => ?_, fun hx => ?_⟩
          ·rcases t.newF B hF' with x | x | x
           ·exact r1.fix B hO1 x
           ·omega
           ·exact hn x
          ·rcases (t.own B hx).2.2 with x | x
           ·omega
           ·exact hn x
         ·rw [b3] at d5; cases d5;rcases t.back i els c3 with ⟨x, _⟩ | ⟨B', x1, x2, x3, _⟩
          ·rw [d4] at x; cases x
          ·rw [d4] at x1; cases x1; exact ⟨x2, x3⟩
       ·rw [gs.maps] at b1;have hlt := r1.lt b B b3;have hn : some B ∉ Bs := fun hm => by
         obtain ⟨i, b', e', _, _, m2, m3, _⟩ := a2.mem B hm;exact r1.injM b' b e' es B m3 b1 m2 b3
        have hO1 : Own ρ (freeze S bs) B := .inr ⟨b, es, b1, b3⟩;refine ⟨fun hF' => ?_, fun hx => ?_⟩
        ·rcases t.newF B hF' with x | x | x
         ·exact r1.fix B hO1 x
         ·omega
         ·exact hn x
        ·rcases (t.own B hx).2.2 with x | x
         ·omega
         ·exact hn x
      obtain ⟨r2, o2⟩ := ext_back r1 (S' := giveBack (freeze S bs) ls l) t.hn t.keep t.flt (fun B hO => (hfix B hO).1)
       (fun B hF' => by
        rcases t.newF B hF' with x | x | x
        ·exact .inl x
        ·exact .inr (.inl x)
        ·exact .inr (.inr (hOwn1 B x))) gs.next gs.maps
       (fun b hg => by
        by_cases hb : b ∈ ls
        ·obtain ⟨i, hi⟩ := List.mem_iff_getElem?.1 hb;obtain ⟨e, d1, _⟩ := a2.at i b hi;rw [hg] at d1; cases d1
        ·rw [gs.get b hb]; exact hg)
       (fun b e' hg => by
        obtain ⟨e, c1, c2⟩ := ent b e' hg;rcases c2 with ⟨rfl, c2⟩ | ⟨i, els, c2, c3, rfl⟩
        ·refine ⟨e', c1, rfl, rfl, rfl, rfl, .inl ⟨rfl, fun B hρ => ?_⟩⟩;cases hz : e'.fz with
         | true => exact t.keep.get B (r1.froz b e' B c1 hz hρ)
         | false => exact t.frame B (r1.lt b B hρ) (notBs b e' B c1 hρ c2)
        ·refine ⟨e, c1, rfl, rfl, rfl, rfl, .inr ?_⟩;obtain ⟨e0, d1, d2, d3, d4⟩ := a2.at i b c2;rw [c1] at d1; cases d1;refine ⟨d3, fun B c t' z hρ hgB => ?_, fun hρ => ?_⟩
         ·rcases t.back i els c3 with ⟨x1, x2⟩ | ⟨B', x1, x2, x3, x4⟩
          ·
           subst x2;have hn : some B ∉ Bs := fun hm => by
            obtain ⟨j, j1, j2⟩ := who b e B c1 hρ hm;have : i = j := nd_idx hnd c2 j1;subst this;rw [x1] at j2; cases j2
           exact ⟨c, by rw [t.frame B (r1.lt b B hρ) hn]; exact hgB, rfl, .nil⟩
          ·rcases d4 with d4 | ⟨B'', d4, d5⟩
           ·rw [x1] at d4; cases d4
           ·rw [x1] at d4; cases d4;rw [hρ] at d5; cases d5;exact x4 c t' z hgB
         ·rcases t.back i els c3 with ⟨x1, x2⟩ | ⟨B', x1, x2, x3, x4⟩
          ·exact x2
          ·rcases d4 with d4 | ⟨B'', d4, d5⟩
           ·rw [x1] at d4; cases d4
           ·rw [hρ] at d5; cases d5)
       (fun b es B hg hρ => t.frame B (r1.lt b B hρ) fun hm => by
        obtain ⟨i, b', e', _, _, m2, m3, _⟩ := a2.mem B hm;exact r1.injM b' b e' es B m3 hg m2 hρ)
       (fun B hlt hO => t.frame B hlt fun hm => hO (hOwn1 B hm))
      have hfresh : Fresh ρ (giveBack (freeze S bs) ls l) H' F' bar xs := fun B hx => by
       obtain ⟨x1, x2, x3⟩ := t.own B hx;refine ⟨x1, fun hO => (hfix B hO).2 hx, x2, ?_⟩;rcases x3 with x3 | x3
       ·have := h.barn; omega
       ·exact (hB B x3).2.2
      obtain ⟨ρ₃, tk, rv⟩ := inst_rel r2 t.rf hfresh t.nd;have hq : inst (giveBack (freeze S bs) ls l) r = (S', p) ∧ up' = up := by
       cases hi : inst (giveBack (freeze S bs) ls l) r with
       | mk s1 q => rw [hi] at hc; simp only at hc; cases hc; exact ⟨rfl, rfl⟩
      obtain ⟨hq, rfl⟩ := hq;rw [hq] at tk rv;refine ⟨v, H', ρ₃, F', g1, Did.x h hu ⟨tk.rs, tk.out (o1.trans o2) (fun B hx => ?_), rv⟩, fun _ => hfr⟩;rcases (t.own B hx).2.2 with x | x
      ·exact .inl x
      ·exact .inr (hOwn B x)
     ·split at hc
      ·rename_i hpl hfl;cases hc;have hls : ls = [] := by
        simp only [Bool.or_eq_true, not_or, Bool.not_eq_true', Bool.not_eq_false] at hpl;exact List.isEmpty_iff.1 hpl.2
       subst hls;have hBs : Bs = [] := by cases a2; rfl
       subst hBs;have hget : ∀ B, B < H.next → H'.get B = H.get B := fun B hlt => t.frame B hlt (by simp);have hk : Keep H F H' F := ⟨fun _ h => h, fun B hb => hget B (h.flt B hb)⟩;refine ⟨v, H', ρ, F, g1, Did.x h hu ⟨ext_row h t.hn hk (fun B hb => .inl hb) (fun B hb => Nat.lt_of_lt_of_le (h.flt B hb) t.hn) (fun B hO => hget B ?_), ?_, flat3_rel t.rf hfl⟩, fun _ => hfr⟩
       ·rcases hO with ⟨b, e, _, _, a⟩ | ⟨b, e, _, a⟩ <;> exact h.lt b B a
       ·exact ⟨fun _ _ h => h, Nat.le_refl _, t.hn, fun _ _ h => h, fun b e' _ h => ⟨e', h, rfl, rfl, rfl, fun h => h⟩, fun b e' B c t' z _ _ hρ hg => ⟨c, by rw [hget B (h.lt b B hρ)]; exact hg, rfl⟩, hk, fun B hb => .inl hb, fun _ _ h => h, fun B hlt _ => hget B hlt, fun _ _ => rfl, fun _ _ h => h⟩
      ·cases hc
    ·cases hc
   ·cases hc
  ·cases hc
theorem callP_rel {C : Cfg} {rec : PRec} {arec : Rec} (hrec : RecP rec arec) (hkn : KnP C K) (hX : XP C K) (h : RS ρ S H F pbar bar) {g : FuncId} {args : List PV} {p : PV} {up up' : List LRec} {S' : St} {vs : List Value} (hc : callP C rec pbar g args up S = some (p, up', S'))
  (hr : RVs ρ S H F vs args) (hu : UpR ρ S H F bar up) : ∃ v H' ρ' F', aGo C.P K arec bar g vs H = some (v, H') ∧ DidX ρ S H F pbar bar up p up' S' v H' ρ' F' := by
 obtain ⟨v, H', ρ', F', a, b, _⟩ := callP_rel' hrec hkn hX h hc hr hu;exact ⟨v, H', ρ', F', a, b⟩
end
end Go.Pev
namespace Go.Pev
open Go.Abu
section
variable {P : Program} {ρ : Nat → Option Nat} {S : St} {H : AH} {F : Nat → Prop} {pbar bar lo : Nat} {K : Known}
theorem wanted_rel' {ops : Array Oper} {o : Oper} {f : PF} {fr : Fr} (k : FrP ρ S H F lo f fr) {b : Bool} (h : wantedP ops f o = some b) : wantedA ops fr o = some b := by
 unfold wantedP at h;unfold wantedA;split at h
 ·rename_i hg; cases h; rw [hg]
 ·rename_i j want hg;rw [hg];simp only;split at h
  ·cases h
  ·rename_i t ht;rw [ht];simp only;split at h
   ·rename_i c hc;cases h;obtain ⟨v, a1, a2⟩ := k.get t _ hc;rw [a1, RV.inv_bool a2]
   ·rename_i c hc;cases h;obtain ⟨v, a1, a2⟩ := k.get t _ hc;cases a2 with
    | tree h => cases h
    | tup h => rw [a1]
   ·cases h
theorem yl_none {fr : Fr} {c : Call} {x : Operand} {v : Value} (hc : c.callee = .value x) (h1 : aev fr x = some v) (hv : ∀ b f1 c1, v ≠ .func (.yield b) f1 c1) : yieldA (aev fr) (.call c) = none := by
 unfold yieldA;simp only;rw [hc];simp only;split
 ·rename_i b f1 c1 hf;rw [h1] at hf;cases hf;exact absurd rfl (hv _ _ _)
 ·rfl
theorem RV.noYl {v : Value} {p : PV} (h : RV ρ S H F v p) (hp : ∀ b, p ≠ .yl b) : ∀ b f1 c1, v ≠ .func (.yield b) f1 c1 := by
 intro b f1 c1 e;subst e;cases h with
 | tree h => cases h with
  | v h => simp [plain1] at h
 | yl => exact hp _ rfl
theorem yield_none {f : PF} {fr : Fr} (k : FrP ρ S H F lo f fr) {op : Op} (h : noYl f op = true) : yieldA (aev fr) op = none := by
 cases op with
 | call c =>
  simp only [noYl] at h;cases hc : c.callee with
  | value x =>
   rw [hc] at h;simp only at h;cases hx : opd f x with
   | none => rw [hx] at h; cases h
   | some p =>
    obtain ⟨v, h1, h2⟩ := k.env x p hx;refine yl_none hc h1 (h2.noYl fun b e => ?_);subst e;rw [hx] at h;cases h
  | _ => unfold yieldA; simp only [hc]
 | _ => rfl
theorem noYl_op {C : Cfg} {rec : PRec} {ops : Array Oper} {o : Oper} {f : PF} {x : PF × St} (hg : o.guard = none) (h : oper C rec pbar ops o f S = some x) : noYl f o.op = true := by
 unfold oper at h;have hw : wantedP ops f o = some true := by unfold wantedP; rw [hg]
 rw [hw] at h;simp only at h;cases ho : o.op with
 | call c =>
  rw [ho] at h;cases hc : c.callee with
  | value y =>
   have e : noYl f (.call c) = (match opd f y with | some (.yl _) => false | some _ => true | none => false) := by
    unfold noYl; simp only [hc];cases opd f y with
    | none => rfl
    | some p => cases p <;> rfl
   rw [e];cases hx : opd f y with
   | none =>
    exfalso;have : pOp C.P pbar f S (.call c) = none := by
     simp only [pOp, hc, hx];split <;> rfl
    rw [this] at h; cases h
   | some p =>
    cases p with
    | yl b =>
     exfalso;have : pOp C.P pbar f S (.call c) = none := by
      simp only [pOp, hc, hx];split <;> rfl
     rw [this] at h; cases h
    | _ => rfl
  | _ => unfold noYl; simp only [hc]
 | _ => rfl
theorem oper_rel {C : Cfg} {rec : PRec} {arec : Rec} (hrec : RecP rec arec) (hkn : KnP C K) (hX : XP C K) (h : RS ρ S H F pbar bar) {ops : Array Oper} {o : Oper} {f f' : PF} {fr : Fr} {S' : St}
  (k : FrP ρ S H F lo f fr) (hu : UpR ρ S H F bar f.up) (hx : UpX ρ lo fr.rd f.up) (hc : oper C rec pbar ops o f S = some (f', S')) :
  ∃ fr' H' ρ' F', operA C.P K arec bar ops o fr H = some (fr', H') ∧ Ran ρ S H F pbar bar lo f fr ρ' S' H' F' f' fr' := by
 unfold oper at hc;unfold operA;split at hc
 ·cases hc
 ·rename_i hw;rw [wanted_rel' k hw];simp only;split at hc
  ·rename_i f₁ hp;cases hc;obtain ⟨fr', a1, a2, a3, a4⟩ := fr_put k hp (RV.tup (a := #[]) .nil);exact ⟨fr', H, ρ, F, by rw [show undef = Value.tuple #[] from rfl, a1]; rfl, h, Out.refl.x, a2, by rw [a4]; exact hu, by rw [a4], a3⟩
  ·cases hc
 ·rename_i hw;rw [wanted_rel' k hw];simp only;split at hc
  ·cases hc
  ·rename_i p S₁ hop;obtain ⟨v, H', ρ', F', a1, d⟩ := op_rel h k.env (aev_const fr) hop;split at hc
   ·rename_i f₁ hp;cases hc;obtain ⟨fr', b1, b2, b3, b4⟩ := fr_put (k.step h d.out) hp d.rv;exact ⟨fr', H', ρ', F', by rw [a1]; simp only; rw [b1]; rfl, d.rs, d.out.x, b2, by rw [b4]; exact hu.step h d.out, by rw [b4], b3⟩
   ·cases hc
  ·rename_i g args hop;obtain ⟨c, x, vs, a, b, as, e1, e2, e3, e4, e5, e6, e7, _⟩ := op_call (P := C.P) k.env hop;split at hc
   ·rename_i p up S₁ hcall;obtain ⟨v, H', ρ', F', a1, d⟩ := callP_rel hrec hkn hX h hcall e7 hu;split at hc
    ·rename_i f₁ hp;cases hc;have k' := (k.stepX h d.out fun B hB => ⟨k.ds.notIn (hx B hB).1, (hx B hB).2⟩).withUp up;obtain ⟨fr', b1, b2, b3, b4⟩ := fr_put k' hp d.rv;refine ⟨fr', H', ρ', F', ?_, d.rs, d.out, b2, by rw [b4]; exact d.upr, by rw [b4]; exact d.nm, b3⟩;rw [e6];unfold aGo at a1;split at a1
     ·rename_i v₁ H₁ hv; cases a1; rw [hv]; simp only; rw [b1]; rfl
     ·rename_i g' args' H₁ hv; rw [hv]; simp only; rw [a1]; simp only; rw [b1]; rfl
     ·cases a1
    ·cases hc
   ·cases hc
theorem put_out (h : RS ρ S H F pbar bar) {B : Nat} {ob : AObj} (h1 : ¬ F B) (h2 : ¬ Own ρ S B) : RS ρ S (H.put B ob) F pbar bar ∧ OutX (fun B' => B' = B) ρ S H F ρ S (H.put B ob) F ∧ Stp ρ S H F ρ S (H.put B ob) F := by
 have hg : ∀ b, ((H.put B ob).get b = H.get b) ∨ (¬ F b ∧ ¬ Own ρ S b) := fun b => by
  by_cases e : b = B
  ·subst e; exact .inr ⟨h1, h2⟩
  ·refine .inl ?_;show (if b = B then some ob else H.m b) = H.m b
   rw [if_neg e]
 obtain ⟨r1, r2⟩ := same_rs (H' := H.put B ob) h rfl hg;refine ⟨r1, ⟨fun _ _ h => h, Nat.le_refl _, Nat.le_refl _, fun _ _ h => h, fun b e' _ h => ⟨e', h, rfl, rfl, rfl, fun h => h⟩, r2.rows, r2.keep, fun B hB => .inl hB, fun _ _ h => h, fun B' _ _ hx => ?_, fun _ _ => rfl, fun _ _ h => h⟩, r2⟩;show (if B' = B then some ob else H.m B') = H.m B'
 rw [if_neg hx]
theorem get_put_self (H : AH) (B : Nat) (ob : AObj) : (H.put B ob).get B = some ob := by
 show (if B = B then some ob else H.m B) = some ob
 rw [if_pos rfl]
theorem puts_rel : ∀ {ts : List Tmp} {ps : List PV} {vs : List Value} {f f' : PF} {fr : Fr}, FrP ρ S H F lo f fr → f.puts ts ps = some f' → RVs ρ S H F vs ps → ∃ fr', fr.puts ts vs = some fr' ∧ FrP ρ S H F lo f' fr' ∧ fr'.rd = fr.rd ∧ f'.up = f.up
 | [], [], vs, f, f', fr, k, hp, hv => by cases hv; cases hp; exact ⟨fr, rfl, k, rfl, rfl⟩
 | t :: ts, p :: ps, vs, f, f', fr, k, hp, hv => by
  cases hv with
  | cons hv hvs =>
  unfold PF.puts at hp;split at hp
  ·rename_i f₁ h1;obtain ⟨fr₁, a1, a2, a3, a4⟩ := fr_put k h1 hv;obtain ⟨fr', b1, b2, b3, b4⟩ := puts_rel a2 hp hvs;exact ⟨fr', by unfold Fr.puts; rw [a1]; exact b1, b2, b3.trans a3, b4.trans a4⟩
  ·cases hp
 | [], _ :: _, _, _, _, _, _, hp, _ => by cases hp
 | _ :: _, [], _, _, _, _, _, hp, _ => by cases hp
theorem xu_lt : ∀ {up : List LRec}, UpR ρ S H F bar up → ∀ B, XU ρ up B → B < H.next
 | [], _, B, hB => by obtain ⟨_, hm, _⟩ := hB; cases hm
 | r :: up, hu, B, hB => by
  obtain ⟨q, q1, q2⟩ := hB;rcases List.mem_cons.1 q1 with rfl | q1
  ·obtain ⟨⟨B0, k1, _, k3, _⟩, _⟩ := hu;rw [k1] at q2; cases q2; exact k3
  ·exact xu_lt hu.2 B ⟨q, q1, q2⟩
theorem round_rel {rec : PRec} {arec : Rec} (hrec : RecP rec arec) (h : RS ρ S H F pbar bar) {f f' : PF} {fr : Fr} {S' : St} {b B : Nat} {args : List PV} {vs : List Value} {v : Bool}
  (k : FrP ρ S H F lo f fr) (hu : UpR ρ S H F bar f.up) (hx : UpX ρ lo fr.rd f.up) (hρ : ρ b = some B) (ha : RVs ρ S H F vs args) (hc : roundP rec pbar b args f S = some (v, f', S')) :
  ∃ H' ρ' F', roundA arec bar B vs H = some (.bool v, H') ∧ Ran ρ S H F pbar bar lo f fr ρ' S' H' F' f' fr := by
 obtain ⟨fn, fm, fup⟩ := f;unfold roundP at hc;cases fup with
 | nil => cases hc
 | cons r up =>
 simp only at hc;obtain ⟨⟨B', k1, k2, k3, k4, k5, k6, k7⟩, kt⟩ := hu;cases hpd : r.pd with
 | some e => rw [hpd] at hc; cases hc
 | none =>
  rw [hpd] at hc;simp only at hc;split at hc
  ·rename_i hb;subst hb;rw [hρ] at k1; cases k1;unfold LoopP at k7;rw [hpd] at k7;obtain ⟨pd, n, m, l1, rfl, l3⟩ := k7;split at hc
   ·cases hc
   ·rename_i f0 hputs;have kb : FrP ρ S H F H.next ⟨r.n, r.m, up⟩ ⟨n, m, [], some B⟩ := ⟨l3.sz, l3.small, ⟨List.nodup_nil, fun b hb => by cases hb⟩, fun t p hp => l3.get t p hp, fun B' hB' => by
     cases hB'; exact ⟨⟨_, _, _, _, _, _, _, l1⟩, k3, k4, k5⟩⟩
    obtain ⟨fr0, a1, a2, a3, a4⟩ := puts_rel kb hputs ha
    replace a4 : f0.up = up := a4
    have hx0 : UpX ρ H.next fr0.rd f0.up := fun B' hB' => by
     rw [a4] at hB';refine ⟨xu_lt kt B' hB', fun e => ?_⟩;rw [a3] at e;cases e;exact k6 hB'
    have hu0 : UpR ρ S H F bar f0.up := by rw [a4]; exact kt
    split at hc
    ·rename_i f1 S1 hass;obtain ⟨fr1, H1, ρ1, F1, b1, b2⟩ := hrec.run hass (lo := H.next) h.barn (Nat.le_refl _) h a2 hu0 hx0;have hx1 := hx0.ran hu0 b2;have nX : ∀ {ρ' : Nat → Option Nat} {up' : List LRec}, (∀ B', XU ρ' up' B' → XU ρ f0.up B') → ¬ XU ρ' up' B := fun hh hX => by
      have := hh B hX;rw [a4] at this;exact k6 this
     have g1 : H1.get B = some (.loop .ready none n m r.ps.toArray r.assign r.body) := by
      rw [b2.out.frame B k3 k5 (nX fun _ h => h)]; exact l1
     obtain ⟨q1, q2, q3⟩ := b2.out.free k3 k4 k5;obtain ⟨p1, p2, p3⟩ := put_out b2.rs (ob := .loop .busy none n m r.ps.toArray r.assign r.body) q2 q3;have kf1 : FrP ρ1 S1 (H1.put B (.loop .busy none n m r.ps.toArray r.assign r.body)) F1 H.next f1 fr1 := by
      refine ⟨b2.frp.n, b2.frp.small, b2.frp.ds.stepX p2 fun B' hB' => ?_, fun t p hp => let ⟨v, h1, h2⟩ := b2.frp.get t p hp; ⟨v, h1, h2.step p3 b2.rs.rdom⟩, fun B' hB' => ?_⟩
      ·subst hB'; exact b2.frp.ds.notIn k3
      ·obtain ⟨c1, c2, c3, c4⟩ := b2.frp.rd B' hB';refine ⟨?_, c2, c3, c4⟩;by_cases e : B' = B
       ·subst e; exact ⟨_, _, _, _, _, _, _, get_put_self _ _ _⟩
       ·obtain ⟨st, pd, n', m', ps, as, bd, c1⟩ := c1;refine ⟨st, pd, n', m', ps, as, bd, ?_⟩;show (if B' = B then _ else H1.m B') = _
        rw [if_neg e]; exact c1
     have hu1 := up_same b2.rs p3 (Nat.le_refl _) (fun B' hB' => by
      show (if B' = B then _ else H1.m B') = H1.m B'
      rw [if_neg];intro e; subst e;exact nX (b2.xu hu0) hB') b2.upr
     split at hc
     ·rename_i e f2 S2 hbody;obtain ⟨fr2, H2, ρ2, F2, c1, c2⟩ := hrec.run hbody (lo := H.next) (H := H1.put B (.loop .busy none n m r.ps.toArray r.assign r.body)) h.barn (Nat.le_trans (Nat.le_refl _) b2.out.hn) p1 kf1 hu1 hx1;have g2 : H2.get B = some (.loop .busy none n m r.ps.toArray r.assign r.body) := by
       rw [c2.out.frame B q1 q3 (nX (b2.xu hu0))]; exact get_put_self _ _ _
      obtain ⟨q1', q2', q3'⟩ := c2.out.free (show B < (H1.put B (.loop .busy none n m r.ps.toArray r.assign r.body)).next from q1) q2 q3
      have fin : ∀ {ob : AObj} {r' : LRec}, r'.b = r.b → (Stp ρ2 S2 H2 F2 ρ2 S2 (H2.put B ob) F2 → LoopP ρ2 S2 (H2.put B ob) F2 r' B) → Ran ρ S H F pbar bar lo ⟨fn, fm, r :: up⟩ fr ρ2 S2 (H2.put B ob) F2 ⟨fn, fm, r' :: f2.up⟩ fr := fun {ob r'} hb' hl => by
       obtain ⟨d1, d2, d3⟩ := put_out c2.rs (ob := ob) q2' q3';have x1 : ∀ B', XU ρ f0.up B' → XU ρ (r :: up) B' := fun B' ⟨q, w1, w2⟩ => ⟨q, List.mem_cons_of_mem _ (by rw [← a4]; exact w1), w2⟩;have x2 : XU ρ (r :: up) B := ⟨r, List.mem_cons_self .., hρ⟩;have o1 := (b2.out.mono (X' := XU ρ (r :: up)) fun B' _ hB' => x1 B' hB').trans p2 fun B' _ hB' => by subst hB'; exact x2
       have o2 := o1.trans c2.out fun B' _ hB' => x1 B' (b2.xu hu0 B' hB');have o3 := o2.trans d2 fun B' _ hB' => by subst hB'; exact x2
       have hxx : ¬ XU ρ2 f2.up B := nX fun B' hB' => b2.xu hu0 B' (c2.xu hu1 B' hB');refine ⟨d1, o3, (k.stepX h o3 fun B' hB' => ⟨k.ds.notIn (hx B' hB').1, (hx B' hB').2⟩).withUp _, ⟨⟨B, ?_, k2, q1', q2', q3', hxx, hl d3⟩, up_same c2.rs d3 (Nat.le_refl _) (fun B' hB' => ?_) c2.upr⟩, ?_, rfl⟩
       ·rw [hb']; exact o3.ext _ _ hρ
       ·show (if B' = B then _ else H2.m B') = H2.m B'
        rw [if_neg];intro e; subst e;exact hxx hB'
       ·have e1 : f2.up.map (·.b) = up.map (·.b) := by rw [c2.nm, b2.nm, a4]
        simp [hb', e1]
      have run : ∀ {x : Option (Value × AH)}, (match jumpA e with
        | none => some (Value.bool true, H2.put B (.loop .ready none n m r.ps.toArray r.assign r.body))
        | some j => some (.bool false, H2.put B (.loop .done (some j) n m r.ps.toArray r.assign r.body))) = x → roundA arec bar B vs H = x := fun hx' => by
       unfold roundA;rw [show Nat.ble bar B = true from Nat.ble_eq ▸ k2]
       simp only;rw [l1];simp only;rw [a1];simp only;rw [b1];simp only;rw [g1];simp only;rw [c1];simp only;rw [g2];exact hx'
      have lf : ∀ {ob : AObj}, Stp ρ2 S2 H2 F2 ρ2 S2 (H2.put B ob) F2 → LFr ρ2 S2 (H2.put B ob) F2 r n m := fun d => (((l3.stp h b2.out.stp).stp b2.rs p3).stp p1 c2.out.stp).stp c2.rs d;cases e with
      | normal =>
       simp only at hc;cases hc;refine ⟨_, ρ2, F2, run rfl, fin (ob := .loop .ready none n m r.ps.toArray r.assign r.body) (r' := r) rfl fun d => ?_⟩;unfold LoopP;rw [hpd];exact ⟨none, n, m, get_put_self _ _ _, rfl, lf d⟩
      | exit id =>
       simp only at hc;cases hc;refine ⟨_, ρ2, F2, run rfl, fin (r' := { r with pd := some (.exit id) }) rfl fun d => ?_⟩
       exact ⟨_, _, _, _, _, _, get_put_self _ _ _, rfl⟩
      | ret =>
       simp only at hc;cases hc;refine ⟨_, ρ2, F2, run rfl, fin (r' := { r with pd := some .ret }) rfl fun d => ?_⟩
       exact ⟨_, _, _, _, _, _, get_put_self _ _ _, rfl⟩
     ·cases hc
    ·cases hc
  ·cases hc
theorem operY_rel {C : Cfg} {rec : PRec} {arec : Rec} (hrec : RecP rec arec) (hkn : KnP C K) (hX : XP C K) (h : RS ρ S H F pbar bar) {ops : Array Oper} {o : Oper} {f f' : PF} {fr : Fr} {S' : St}
  (k : FrP ρ S H F lo f fr) (hu : UpR ρ S H F bar f.up) (hx : UpX ρ lo fr.rd f.up) (hc : Pev.operY C rec pbar ops o f S = some (f', S')) :
  ∃ fr' H' ρ' F', Abu.operY C.P K arec bar ops o fr H = some (fr', H') ∧ Ran ρ S H F pbar bar lo f fr ρ' S' H' F' f' fr' := by
 unfold Pev.operY at hc;split at hc
 ·split at hc
  ·rename_i hg;obtain ⟨fr', H', ρ', F', a1, a2⟩ := oper_rel hrec hkn hX h k hu hx hc;exact ⟨fr', H', ρ', F', by unfold Abu.operY; rw [yield_none k (noYl_op hg hc)]; exact a1, a2⟩
  ·rename_i hg;split at hc
   ·rename_i hny;obtain ⟨fr', H', ρ', F', a1, a2⟩ := oper_rel hrec hkn hX h k hu hx hc;exact ⟨fr', H', ρ', F', by unfold Abu.operY; rw [yield_none k hny]; exact a1, a2⟩
   ·cases hc
 ·rename_i b args hy;split at hc
  ·cases hc
  ·rename_i hg;split at hc
   ·cases hc
   ·rename_i v f1 S1 hr;split at hc
    ·rename_i f2 hput;cases hc;have hy' : ∃ c x, o.op = .call c ∧ c.callee = .value x ∧ opd f x = some (.yl b) ∧ opds f c.args.toList = some args := by
      unfold yieldP at hy;split at hy
      ·rename_i c hop;split at hy
       ·rename_i x hcal;split at hy
        ·rename_i b' hxx;rw [Option.map_eq_some_iff] at hy;obtain ⟨as, h1, h2⟩ := hy;cases h2;exact ⟨c, x, hop, hcal, hxx, h1⟩
        ·cases hy
       ·cases hy
      ·cases hy
     obtain ⟨c, x, o1, o2, o3, o4⟩ := hy';obtain ⟨w, w1, w2⟩ := k.env x _ o3;obtain ⟨vs, v1, v2⟩ := opds_rel k.env o4;have hw : ∃ B, w = .func (.yield B) #[] #[] ∧ ρ b = some B := by
      cases w2 with
      | tree h => cases h
      | yl hρ => exact ⟨_, rfl, hρ⟩
     obtain ⟨B, rfl, hρ⟩ := hw;obtain ⟨H', ρ', F', r1, r2⟩ := round_rel hrec h k hu hx hρ v2 hr;obtain ⟨fr', b1, b2, b3, b4⟩ := fr_put r2.frp hput (RV.of_v (x := .bool v) rfl);refine ⟨fr', H', ρ', F', ?_, r2.rs, r2.out, b2, by rw [b4]; exact r2.upr, by rw [b4]; exact r2.nm, b3⟩;unfold Abu.operY;have hya : yieldA (aev fr) o.op = some (B, vs) := by
      rw [o1];unfold yieldA;simp only;rw [o2];simp only;rw [w1];simp only;rw [v1];rfl
     rw [hya];simp only;rw [hg];simp only;rw [r1];simp only;rw [b1]; rfl
    ·cases hc
theorem opers_rel {C : Cfg} {rec : PRec} {arec : Rec} (hrec : RecP rec arec) (hkn : KnP C K) (hX : XP C K) {ops : Array Oper} : ∀ {os : List Oper} {ρ : Nat → Option Nat} {S : St} {H : AH} {F : Nat → Prop} {f f' : PF} {fr : Fr} {S' : St},
  RS ρ S H F pbar bar → FrP ρ S H F lo f fr → UpR ρ S H F bar f.up → UpX ρ lo fr.rd f.up → opers C rec pbar ops os f S = some (f', S') →
  ∃ fr' H' ρ' F', opersA C.P K arec bar ops os fr H = some (fr', H') ∧ Ran ρ S H F pbar bar lo f fr ρ' S' H' F' f' fr'
 | [], ρ, S, H, F, f, f', fr, S', h, k, hu, hx, hc => by cases hc; exact ⟨fr, H, ρ, F, rfl, Ran.refl h k hu⟩
 | o :: os, ρ, S, H, F, f, f', fr, S', h, k, hu, hx, hc => by
  unfold opers at hc;split at hc
  ·cases hc
  ·rename_i f₁ S₁ ho;obtain ⟨fr₁, H₁, ρ₁, F₁, a1, a2⟩ := operY_rel hrec hkn hX h k hu hx ho;obtain ⟨fr', H', ρ', F', b1, b2⟩ := opers_rel hrec hkn hX a2.rs a2.frp a2.upr (hx.ran hu a2) hc;refine ⟨fr', H', ρ', F', ?_, a2.trans hu b2⟩;unfold opersA;rw [a1];exact b1
def upd' (ρ : Nat → Option Nat) (b B : Nat) : Nat → Option Nat := fun x => if x = b then some B else ρ x
theorem bump_rel (h : RS ρ S H F pbar bar) {B : Nat} (hB : B < H.next) (h1 : ∀ b, ρ b = some B → False) (hF : ¬ F B) : RS (upd' ρ S.next B) S.bump H F pbar bar ∧ Out ρ S H F (upd' ρ S.next B) S.bump H F ∧ ¬ Own (upd' ρ S.next B) S.bump B := by
 have hlt : ∀ b, b < S.next → upd' ρ S.next B b = ρ b := fun b hb => by unfold upd'; rw [if_neg (by omega)]
 have hρ : ∀ b B', upd' ρ S.next B b = some B' → (b = S.next ∧ B' = B) ∨ (b < S.next ∧ ρ b = some B') := fun b B' e => by
  unfold upd' at e;split at e
  ·rename_i eb; cases e; exact .inl ⟨eb, rfl⟩
  ·exact .inr ⟨h.rdom b B' e, e⟩
 have hext : ∀ b B', ρ b = some B' → upd' ρ S.next B b = some B' := fun b B' e => by rw [hlt b (h.rdom b B' e)]; exact e
 have hown : ∀ B', Own (upd' ρ S.next B) S.bump B' → Own ρ S B' := fun B' ho => by
  rcases ho with ⟨b, e, a1, a2, a3⟩ | ⟨b, es, a1, a2⟩
  ·have := h.sdom b e a1;rw [hlt b this] at a3;exact .inl ⟨b, e, a1, a2, a3⟩
  ·have := (h.mdom b es a1).1;rw [hlt b this] at a2;exact .inr ⟨b, es, a1, a2⟩
 have hstp : Stp ρ S H F (upd' ρ S.next B) S.bump H F := ⟨hext, by show S.next ≤ S.next + 1; omega, fun _ _ h => h, fun b e' B c t z _ _ _ h => ⟨c, h, rfl⟩, ⟨fun _ h => h, fun _ _ => rfl⟩⟩
 have hnown : ¬ Own ρ S B := fun ho => by
  rcases ho with ⟨b, e, a1, a2, a3⟩ | ⟨b, es, a1, a2⟩
  ·exact h1 b a3
  ·exact h1 b a2
 refine ⟨⟨fun b B' e => ?_, fun b e hg => ?_, fun b e hg => ?_, fun b B' e => ?_, fun b e hg => ?_, fun b es hg => ?_, fun b b' e e' B' hg hg' e1 e2 => ?_, fun b b' e es B' hg hg' e1 e2 => ?_, fun b b' es es' B' hg hg' e1 e2 => ?_, fun B' ho => h.fix B' (hown B' ho), h.flt, fun b e B' hg e1 hb => ?_, fun b es B' hg e1 hb => ?_, h.barn, ?_, fun b e B' hg hz e1 => ?_⟩, ⟨hext, by show S.next ≤ S.next + 1; omega, Nat.le_refl _, fun _ _ h => h, fun b e' _ h => ⟨e', h, rfl, rfl, rfl, fun h => h⟩, hstp.rows, hstp.keep, fun _ h => .inl h, fun B' _ ho => hown B' ho, fun _ _ _ => rfl, hlt, fun _ _ h => h⟩, fun ho => hnown (hown B ho)⟩
 ·show b < S.next + 1
  rcases hρ b B' e with ⟨rfl, _⟩ | ⟨hb, _⟩ <;> omega
 ·show b < S.next + 1
  have := h.sdom b e hg;omega
 ·have := h.mdom b e hg;exact ⟨by show b < S.next + 1; omega, this.2⟩
 ·rcases hρ b B' e with ⟨_, rfl⟩ | ⟨_, hb⟩
  ·exact hB
  ·exact h.lt b B' hb
 ·have hb := h.sdom b e hg;rcases h.ent b e hg with ⟨B', c, t, z, a1, a2, a3⟩ | ⟨a1, a2, a3⟩
  ·exact .inl ⟨B', c, t, z, hext _ _ a1, a2, a3.step hstp h.rdom⟩
  ·exact .inr ⟨by rw [hlt b hb]; exact a1, a2, a3⟩
 ·obtain ⟨B', a1, a2⟩ := h.emap b es hg;exact ⟨B', hext _ _ a1, a2⟩
 ·rw [hlt b (h.sdom b e hg)] at e1;rw [hlt b' (h.sdom b' e' hg')] at e2;exact h.inj b b' e e' B' hg hg' e1 e2
 ·rw [hlt b (h.sdom b e hg)] at e1;rw [hlt b' (h.mdom b' es hg').1] at e2;exact h.injM b b' e es B' hg hg' e1 e2
 ·rw [hlt b (h.mdom b es hg).1] at e1;rw [hlt b' (h.mdom b' es' hg').1] at e2;exact h.injMM b b' es es' B' hg hg' e1 e2
 ·rw [hlt b (h.sdom b e hg)] at e1;exact h.bars b e B' hg e1 hb
 ·rw [hlt b (h.mdom b es hg).1] at e1;exact h.barsM b es B' hg e1 hb
 ·show pbar ≤ S.next + 1
  have := h.pbarn;omega
 ·rw [hlt b (h.sdom b e hg)] at e1;exact h.froz b e B' hg hz e1
theorem grow_rel (h : RS ρ S H F pbar bar) {H' : AH} (hn : H.next ≤ H'.next) (hg : ∀ B, B < H.next → H'.get B = H.get B) : RS ρ S H' F pbar bar ∧ Out ρ S H F ρ S H' F := by
 have hk : Keep H F H' F := ⟨fun _ h => h, fun B hB => hg B (h.flt B hB)⟩;refine ⟨ext_row h hn hk (fun B hB => .inl hB) (fun B hB => Nat.lt_of_lt_of_le (h.flt B hB) hn) (fun B hO => hg B ?_), ⟨fun _ _ h => h, Nat.le_refl _, hn, fun _ _ h => h, fun b e' _ h => ⟨e', h, rfl, rfl, rfl, fun h => h⟩, fun b e' B c t z _ _ hρ hB => ⟨c, by rw [hg B (h.lt b B hρ)]; exact hB, rfl⟩, hk, fun _ h => .inl h, fun _ _ h => h, fun B hB _ => hg B hB, fun _ _ => rfl, fun _ _ h => h⟩⟩;rcases hO with ⟨b, e, _, _, a⟩ | ⟨b, e, _, a⟩ <;> exact h.lt b B a
structure Entered (ρ : Nat → Option Nat) (S : St) (H : AH) (F : Nat → Prop) (lo : Nat) (f : PF) (fr : Fr) (ps : Array Tmp) (as bd : Code) (fr1 : Fr) (H1 : AH) (B : Nat) : Prop where
 run : enterA fr ps as bd H = some (fr1, H1)
 pred : Nat.pred H1.next = B
 lt : B < H1.next
 ge : H.next ≤ B
 hn : H.next ≤ H1.next
 old : ∀ B, B < H.next → H1.get B = H.get B
 at_ : H1.get B = some (.loop .ready none fr.n fr.m ps as bd)
 rde : fr1.rd = fr.rd
 frp : FrP ρ S H1 F lo f fr1
 nds : B ∉ fr1.ds
 nrd : fr1.rd ≠ some B
theorem enter_rel (h : RS ρ S H F pbar bar) {f : PF} {fr : Fr} (hlo : lo ≤ H.next) (k : FrP ρ S H F lo f fr) (ps : Array Tmp) (as bd : Code) : ∃ fr1 H1 B, Entered ρ S H F lo f fr ps as bd fr1 H1 B := by
 have own_lt : ∀ B, Own ρ S B → B < H.next := fun B hO => by
  rcases hO with ⟨b, e, _, _, a⟩ | ⟨b, e, _, a⟩ <;> exact h.lt b B a
 cases hrd : fr.rd with
 | none =>
  have e1 : H.alloc .mark = some { next := H.next + 1, m := fun x => if x = H.next then some .mark else H.m x } := rfl
  let Hm : AH := { next := H.next + 1, m := fun x => if x = H.next then some .mark else H.m x }
  have e2 : Hm.alloc (.loop .ready none fr.n fr.m ps as bd) = some { next := H.next + 1 + 1, m := fun x => if x = H.next + 1 then some (.loop .ready none fr.n fr.m ps as bd) else Hm.m x } := rfl
  let H1 : AH := { next := H.next + 1 + 1, m := fun x => if x = H.next + 1 then some (.loop .ready none fr.n fr.m ps as bd) else Hm.m x }
  have hold : ∀ B, B < H.next → H1.get B = H.get B := fun B hB => by
   show (if B = H.next + 1 then _ else if B = H.next then _ else H.m B) = H.m B
   rw [if_neg (by omega), if_neg (by omega)]
  obtain ⟨g1, g2⟩ := grow_rel h (H' := H1) (by show H.next ≤ H.next + 1 + 1; omega) hold
  have k1 := k.step h g2;refine ⟨{ fr with ds := H.next :: fr.ds }, H1, H.next + 1, ?_, rfl, Nat.lt_succ_self _, by omega, by show H.next ≤ H.next + 1 + 1; omega, hold, ?_, rfl, ⟨k1.n, k1.small, ⟨List.nodup_cons.2 ⟨fun hm => ?_, k1.ds.1⟩, fun b hb => ?_⟩, k1.get, k1.rd⟩, fun hm => ?_, ?_⟩
  ·unfold enterA;rw [hrd];simp only;rw [e1];simp only;rw [e2];rfl
  ·show (if H.next + 1 = H.next + 1 then _ else _) = _
   rw [if_pos rfl]
  ·have := (k.ds.2 _ hm).2.2.1;omega
  ·rcases List.mem_cons.1 hb with rfl | hb
   ·refine ⟨?_, hlo, ?_, fun hF => ?_, fun hO => ?_⟩
    ·show (if H.next = H.next + 1 then _ else if H.next = H.next then _ else _) = _
     rw [if_neg (by omega), if_pos rfl]
    ·show H.next < H.next + 1 + 1; omega
    ·have := h.flt _ hF; omega
    ·have := own_lt _ hO; omega
   ·exact k1.ds.2 b hb
  ·rcases List.mem_cons.1 hm with e | hm
   ·omega
   ·have := (k.ds.2 _ hm).2.2.1; omega
  ·show fr.rd ≠ _; rw [hrd]; simp
 | some b =>
  obtain ⟨⟨st, pd, n, m, ps', as', bd', r1⟩, r2, r3, r4⟩ := k.rd b hrd
  let H1 : AH := { next := H.next + 1, m := fun x => if x = H.next then some (.loop .ready none fr.n fr.m ps as bd) else H.m x }
  have hold : ∀ B, B < H.next → H1.get B = H.get B := fun B hB => by
   show (if B = H.next then _ else H.m B) = H.m B
   rw [if_neg (by omega)]
  obtain ⟨g1, g2⟩ := grow_rel h (H' := H1) (by show H.next ≤ H.next + 1; omega) hold
  have k1 := k.step h g2;refine ⟨fr, H1, H.next, ?_, rfl, Nat.lt_succ_self _, Nat.le_refl _, by show H.next ≤ H.next + 1; omega, hold, ?_, rfl, k1, fun hm => ?_, ?_⟩
  ·unfold enterA;rw [hrd];simp only;rw [r1];rfl
  ·show (if H.next = H.next then _ else _) = _
   rw [if_pos rfl]
  ·have := (k.ds.2 _ hm).2.2.1; omega
  ·rw [hrd];intro e;cases e;omega
theorem range_rel {C : Cfg} {rec : PRec} {arec : Rec} (hrec : RecP rec arec) (hkn : KnP C K) (h : RS ρ S H F pbar bar) {x : Operand} {ps : Array Tmp} {as bd : Code} {f f' : PF} {fr : Fr} {S' : St} {e : AExit} (hlo : bar ≤ lo) (hlo' : lo ≤ H.next)
  (k : FrP ρ S H F lo f fr) (hu : UpR ρ S H F bar f.up) (hx : UpX ρ lo fr.rd f.up) (hc : rangeP C rec pbar x ps as bd f S = some (e, f', S')) :
  ∃ fr' H' ρ' F', rangeA C.P K arec bar x ps as bd fr H = some (e, fr', H') ∧ Ran ρ S H F pbar bar lo f fr ρ' S' H' F' f' fr' := by
 unfold rangeP at hc;split at hc
 ·rename_i g a c hop;obtain ⟨w, w1, w2⟩ := k.env x _ hop;have hw : ∃ f1 c1, w = .func (.func g) f1 c1 ∧ RVs ρ S H F f1.toList a ∧ RVs ρ S H F c1.toList c := by
   cases w2 with
   | tree h => cases h with
    | fn h1 h2 => exact ⟨_, _, rfl, .tree h1, .tree h2⟩
   | fn h1 h2 => exact ⟨_, _, rfl, h1, h2⟩
  obtain ⟨f1, c1, rfl, hf1, hc1⟩ := hw;obtain ⟨fr1, H1, B, en⟩ := enter_rel h hlo' k ps as bd;obtain ⟨g1, g2⟩ := grow_rel h en.hn en.old;have hBge := en.ge;obtain ⟨b1, b2, b3⟩ := bump_rel g1 en.lt (fun b hb => by have := h.lt b B hb; omega) (fun hF => by have := h.flt B hF; omega);have o0 := g2.trans b2;have hnew : upd' ρ S.next B S.next = some B := by unfold upd'; rw [if_pos rfl]
  split at hc
  ·rename_i _ r up S2 hcall;have hu1 : UpR (upd' ρ S.next B) S.bump H1 F bar (⟨f.n, f.m, ps.toList, as, bd, S.next, none⟩ :: f.up) := by
    refine ⟨⟨B, hnew, ?_, en.lt, fun hF => ?_, b3, fun hX => ?_, ?_⟩, hu.step h o0⟩
    ·have := h.barn; omega
    ·have := h.flt B hF; omega
    ·have := xu_lt hu B (XU.ext hu o0.ext rfl B hX);omega
    ·refine ⟨none, fr.n, fr.m, by rw [en.at_, Array.toArray_toList], rfl, ⟨k.n, k.small, fun t p hp => ?_⟩⟩;obtain ⟨v, v1, v2⟩ := k.get t p hp;exact ⟨v, v1, v2.step o0.stp h.rdom⟩
   have hargs : RVs (upd' ρ S.next B) S.bump H1 F (f1.toList ++ [Value.func (.yield B) #[] #[]] ++ c1.toList) (a ++ [.yl S.next] ++ c) :=
    ((hf1.step o0.stp h.rdom).append (.cons (.yl hnew) .nil)).append (hc1.step o0.stp h.rdom)
   obtain ⟨v, H2, ρ2, F2, d1, d, d2⟩ := callI_rel' hrec hkn b1 hcall hargs hu1;have hgo : aCallFunc C.P H1 g (f1.toList ++ [Value.func (.yield B) #[] #[]] ++ c1.toList) = some (.call g (f1.toList ++ [Value.func (.yield B) #[] #[]] ++ c1.toList).toArray H1) := by
    rcases d2 with d2 | d2
    ·exact d2
    ·exfalso;have : ∀ l : List PV, toVs (l ++ [.yl S.next] ++ c) = none := fun l => by
      induction l with
      | nil => rfl
      | cons p l ih =>
       simp only [List.cons_append, toVs];rw [ih];cases toV p <;> rfl
     rw [this a] at d2;cases d2
   have hcallA : callA C.P K arec bar g (f1.toList ++ [Value.func (.yield B) #[] #[]] ++ c1.toList).toArray H1 = some (v, H2) := by
    unfold aGo at d1;rw [hgo] at d1;exact d1
   obtain ⟨⟨B', u1, u2, u3, u4, u5, u6, u7⟩, ut⟩ := d.upr;have hnm := d.nm;simp only [List.map_cons, List.cons.injEq] at hnm;have hB' : B' = B := by
    have := d.out.ext _ _ hnew;rw [hnm.1] at u1;rw [u1] at this;cases this; rfl
   subst hB';obtain ⟨p1, p2, p3⟩ := put_out d.rs (ob := .dead) u4 u5;have oX : OutX (XU ρ f.up) ρ S H F ρ2 S2 (H2.put B' .dead) F2 :=
    ((o0.x (X := XU ρ f.up)).trans d.out fun Bx hlt hX => by
     obtain ⟨q, q1, q2⟩ := hX;rcases List.mem_cons.1 q1 with rfl | q1
     ·rw [hnew] at q2; cases q2; omega
     ·exact XU.ext hu o0.ext rfl Bx ⟨q, q1, q2⟩).trans p2 fun Bx hlt hX => by subst hX; omega
   have oF : OutX (XU (upd' ρ S.next B') (⟨f.n, f.m, ps.toList, as, bd, S.next, none⟩ :: f.up)) (upd' ρ S.next B') S.bump H1 F ρ2 S2 (H2.put B' .dead) F2 :=
    d.out.trans p2 fun Bx _ hX => by subst hX; exact ⟨_, List.mem_cons_self .., hnew⟩
   have kf : FrP ρ2 S2 (H2.put B' .dead) F2 lo f fr1 := (en.frp.step g1 b2).stepX b1 oF fun Bx hX => by
    obtain ⟨q, q1, q2⟩ := hX;rcases List.mem_cons.1 q1 with rfl | q1
    ·rw [hnew] at q2; cases q2; exact ⟨en.nds, en.nrd⟩
    ·have := hx Bx (XU.ext hu o0.ext rfl Bx ⟨q, q1, q2⟩);exact ⟨en.frp.ds.notIn this.1, by rw [en.rde]; exact this.2⟩
   have hup : UpR ρ2 S2 (H2.put B' .dead) F2 bar up := up_same d.rs p3 (Nat.le_refl _) (fun Bx hX => by
    show (if Bx = B' then _ else H2.m Bx) = H2.m Bx
    rw [if_neg];intro e; subst e;exact u6 hX) ut
   have fin : ∀ {j : Option Code} {e' : AExit} {st : LoopState} {n m ps' as' bd'}, H2.get B' = some (.loop st j n m ps' as' bd') → st ≠ .busy → leaveA j = some e' → rangeA C.P K arec bar x ps as bd fr H = some (e', fr1, H2.put B' .dead) := fun {j e' st n m ps' as' bd'} h1 h2 h3 => by
    unfold rangeA;rw [w1];simp only;rw [en.run];simp only;rw [en.pred, hgo];simp only;rw [hcallA];simp only;rw [h1];simp only;cases st with
    | busy => exact absurd rfl h2
    | _ => first | rw [h3] | (simp only; rw [h3])
   unfold LoopP at u7;split at hc
   ·rename_i hpd;cases hc;rw [hpd] at u7;obtain ⟨pd, n, m, l1, rfl, _⟩ := u7;exact ⟨fr1, _, ρ2, F2, fin l1 (by simp) rfl, p1, oX, kf.withUp up, hup, hnm.2, en.rde⟩
   ·rename_i e0 hpd;cases hc;rw [hpd] at u7;obtain ⟨j, n, m, ps', as', bd', l1, l2⟩ := u7;refine ⟨fr1, _, ρ2, F2, fin l1 (by simp) ?_, p1, oX, kf.withUp up, hup, hnm.2, en.rde⟩;cases e with
    | normal => cases l2
    | exit id => cases l2; rfl
    | ret => cases l2; rfl
  ·cases hc
 ·cases hc
def DrP (C : Cfg) (K : Known) (dr : Rec → Nat → Array Oper → Fr → AH → Option (Fr × AH)) : Prop :=
 ∀ {rec : PRec} {arec : Rec}, RecP rec arec → ∀ {ops : Array Oper} {pbar bar lo : Nat} {ρ : Nat → Option Nat} {S : St} {H : AH} {F : Nat → Prop} {f f' : PF} {fr : Fr} {S' : St},
  RS ρ S H F pbar bar → FrP ρ S H F lo f fr → drawP C rec pbar ops f S = some (f', S') →
  ∃ fr' H' ρ' F', dr arec bar ops fr H = some (fr', H') ∧ RS ρ' S' H' F' pbar bar ∧ Out ρ S H F ρ' S' H' F' ∧ FrP ρ' S' H' F' lo f' fr' ∧ f'.up = f.up ∧ fr'.rd = fr.rd
theorem step_rel {C : Cfg} {rec : PRec} {arec : Rec} (hrec : RecP rec arec) (hkn : KnP C K) (hX : XP C K) {dr : Rec → Nat → Array Oper → Fr → AH → Option (Fr × AH)} (hdr : DrP C K dr) : RecP (stepP C rec) (stepA C.P K dr arec) := by
 refine ⟨fun {pbar bar c f S e f' S'} hc {ρ H F lo fr} hlo hlo' h k hu hx => ?_⟩;cases c <;> simp only [stepP] at hc
 case skip => cases hc; exact ⟨fr, H, ρ, F, rfl, Ran.refl h k hu⟩
 case label => cases hc; exact ⟨fr, H, ρ, F, rfl, Ran.refl h k hu⟩
 case exit => cases hc; exact ⟨fr, H, ρ, F, rfl, Ran.refl h k hu⟩
 case ret => cases hc; exact ⟨fr, H, ρ, F, rfl, Ran.refl h k hu⟩
 case scope b => exact hrec.run hc hlo hlo' h k hu hx
 case rangeFunc x ps as bd =>
  exact range_rel hrec hkn h hlo hlo' k hu hx hc
 case region id ops draw =>
  cases draw <;> simp only at hc
  ·split at hc
   ·rename_i f₁ S₁ ho;cases hc;obtain ⟨fr', H', ρ', F', a1, a2⟩ := opers_rel hrec hkn hX h k hu hx ho;exact ⟨fr', H', ρ', F', by simp only [stepA, a1]; rfl, a2⟩
   ·cases hc
  ·split at hc
   ·rename_i f₁ S₁ ho;cases hc;obtain ⟨fr', H', ρ', F', a1, a2, a3, a4, a5, a6⟩ := hdr hrec h k ho;exact ⟨fr', H', ρ', F', by simp only [stepA, a1]; rfl, a2, a3.x, a4, by rw [a5]; exact hu.step h a3, by rw [a5], a6⟩
   ·cases hc
 case seq a b =>
  split at hc
  ·rename_i f₁ S₁ ho;obtain ⟨fr₁, H₁, ρ₁, F₁, a1, a2⟩ := hrec.run ho hlo hlo' h k hu hx;obtain ⟨fr', H', ρ', F', b1, b2⟩ := hrec.run hc hlo (Nat.le_trans hlo' a2.out.hn) a2.rs a2.frp a2.upr (hx.ran hu a2);exact ⟨fr', H', ρ', F', by simp only [stepA, a1]; exact b1, a2.trans hu b2⟩
  ·rename_i hne;obtain ⟨fr', H', ρ', F', b1, b2⟩ := hrec.run hc hlo hlo' h k hu hx;refine ⟨fr', H', ρ', F', ?_, b2⟩;simp only [stepA, b1];cases e with
   | normal => exact absurd hc (hne _ _)
   | exit => rfl
   | ret => rfl
 case cond x t e' =>
  split at hc
  ·rename_i b hb;obtain ⟨v, a1, a2⟩ := k.env x _ hb;rw [RV.inv_bool a2] at a1;obtain ⟨fr', H', ρ', F', b1, b2⟩ := hrec.run hc hlo hlo' h k hu hx;exact ⟨fr', H', ρ', F', by simp only [stepA, a1]; exact b1, b2⟩
  ·cases hc
 case block id b =>
  split at hc
  ·rename_i id' f₁ S₁ ho;obtain ⟨fr₁, H₁, ρ₁, F₁, a1, a2⟩ := hrec.run ho hlo hlo' h k hu hx;split at hc
   ·rename_i hid;cases hc;exact ⟨fr₁, H₁, ρ₁, F₁, by simp only [stepA, a1]; rw [if_pos hid], a2⟩
   ·rename_i hid;cases hc;exact ⟨fr₁, H₁, ρ₁, F₁, by simp only [stepA, a1]; rw [if_neg hid], a2⟩
  ·rename_i hne;obtain ⟨fr', H', ρ', F', b1, b2⟩ := hrec.run hc hlo hlo' h k hu hx;refine ⟨fr', H', ρ', F', ?_, b2⟩;simp only [stepA, b1];cases e with
   | normal => rfl
   | exit id' => exact absurd hc (hne _ _ _)
   | ret => rfl
 case loop b =>
  split at hc
  ·rename_i f₁ S₁ ho;obtain ⟨fr₁, H₁, ρ₁, F₁, a1, a2⟩ := hrec.run ho hlo hlo' h k hu hx;obtain ⟨fr', H', ρ', F', b1, b2⟩ := hrec.run hc hlo (Nat.le_trans hlo' a2.out.hn) a2.rs a2.frp a2.upr (hx.ran hu a2);exact ⟨fr', H', ρ', F', by simp only [stepA, a1]; exact b1, a2.trans hu b2⟩
  ·rename_i hne;obtain ⟨fr', H', ρ', F', b1, b2⟩ := hrec.run hc hlo hlo' h k hu hx;refine ⟨fr', H', ρ', F', ?_, b2⟩;simp only [stepA, b1];cases e with
   | normal => exact absurd hc (hne _ _)
   | exit => rfl
   | ret => rfl
 all_goals cases hc
theorem run_rel {C : Cfg} (hkn : KnP C K) (hX : XP C K) {dr : Rec → Nat → Array Oper → Fr → AH → Option (Fr × AH)} (hdr : DrP C K dr) : ∀ n, RecP (runP C n) (evalA C.P K dr n)
 | 0 => ⟨fun h => by cases h⟩
 | n + 1 => step_rel (run_rel hkn hX hdr n) hkn hX hdr
end
end Go.Pev
namespace Go.Abu
variable {P : Program} {φ : Ren} {H H' : AH} {bar base : Nat} {w : World}
theorem mapEnv_congr {ρ ρ' : Env} : ∀ {l : List Operand}, (∀ x ∈ l, ρ x = ρ' x) → mapEnv ρ l = mapEnv ρ' l
 | [], _ => rfl
 | x :: l, h => by
  unfold mapEnv;rw [h x (by simp), mapEnv_congr (l := l) (fun y hy => h y (by simp [hy]))]
theorem pairEnv_congr {ρ ρ' : Env} : ∀ {l : List (Nat × Operand)}, (∀ p ∈ l, ρ p.2 = ρ' p.2) → pairEnv ρ l = pairEnv ρ' l
 | [], _ => rfl
 | (i, x) :: l, h => by
  unfold pairEnv;rw [h (i, x) (by simp), pairEnv_congr (l := l) (fun y hy => h y (by simp [hy]))]
theorem optEnv_congr {ρ ρ' : Env} {x : Option Operand} (h : ∀ y, x = some y → ρ y = ρ' y) : optEnv ρ x = optEnv ρ' x := by
 cases x with
 | none => rfl
 | some y => simp only [optEnv, h y rfl]
theorem makeFunc_congr {a a' b b' : Option (List Value)} {g : FuncId} (h : a = a') (k : b = b') :
  (a.bind fun x => b.bind fun y => val H (some (.func (.func g) x.toArray y.toArray))) = a'.bind fun x => b'.bind fun y => val H (some (.func (.func g) x.toArray y.toArray)) := by
 rw [h, k]
theorem aop_congr {ρ ρ' : Env} (op : Op) (h : ∀ x ∈ op.operands, ρ x = ρ' x) : aop P bar ρ H op = aop P bar ρ' H op := by
 cases op <;> simp only [Op.operands] at h <;> simp only [aop]
 case move x => rw [h x (by simp)]
 case assign x => rw [h x (by simp)]
 case pick c a b =>
  unfold aPick;rw [h c (by simp)];split
  ·rename_i t _;cases t
   ·exact congrArg (val H) (h b (by simp))
   ·exact congrArg (val H) (h a (by simp))
  ·rfl
 case box t x => rw [h x (by simp)]
 case build t ps => rw [pairEnv_congr (fun p hp => h p.2 (by simp; exact ⟨p.1, by simpa using hp⟩))]
 case buildSlice t n ps => rw [pairEnv_congr (fun p hp => h p.2 (by simp; exact ⟨p.1, by simpa using hp⟩))]
 case load t a => rw [h a (by simp)]
 case store t a v => rw [h a (by simp), h v (by simp)]
 case nilCheck x => rw [h x (by simp)]
 case binOp op t x y yt => rw [h x (by simp), h y (by simp)]
 case unOp op t x => rw [h x (by simp)]
 case convert s d x => rw [h x (by simp)]
 case makeInterface t x => rw [h x (by simp)]
 case makeFunc fn f c =>
  cases fn with
  | func g => exact makeFunc_congr (mapEnv_congr (fun x hx => h x (by simp at hx; simp [hx]))) (mapEnv_congr (l := c.toList) (fun x hx => h x (by simp at hx; simp [hx])))
  | _ => rfl
 case makeMap t r => rw [optEnv_congr (fun y hy => h y (by simp [hy]))]
 case makeSlice t l c => rw [h l (by simp), h c (by simp)]
 case slice t x lo hi mx => rw [h x (by simp), optEnv_congr (x := lo) (fun y hy => h y (by simp [hy])), optEnv_congr (x := hi) (fun y hy => h y (by simp [hy])), optEnv_congr (x := mx) (fun y hy => h y (by simp [hy]))]
 case fieldAddr t x i => rw [h x (by simp)]
 case field t x i => rw [h x (by simp)]
 case indexAddr t x i => rw [h x (by simp), h i (by simp)]
 case index t x i => rw [h x (by simp), h i (by simp)]
 case lookup t x i ok => rw [h x (by simp), h i (by simp)]
 case mapUpdate t m k v => rw [h m (by simp), h k (by simp), h v (by simp)]
 case insert t m k v => rw [h m (by simp), h k (by simp), h v (by simp)]
 case typeAssert x xt t ok => rw [h x (by simp)]
 case extract x i => rw [h x (by simp)]
 case call c =>
  unfold aCall;rw [mapEnv_congr (fun x hx => h x (by simp [Call.operands]; right; simpa using hx))]
  cases hc : c.callee with
  | builtin b => rfl
  | value f => simp only [h f (by simp [Call.operands, hc])]
  | invoke r m => rfl
theorem val_some {x : Option Value} {r : ARes} (h : val H x = some r) : ∃ v, x = some v ∧ r = .val v H := by
 unfold val at h;rw [Option.map_eq_some_iff] at h; obtain ⟨v, h1, h2⟩ := h;exact ⟨v, h1, h2.symm⟩
theorem reg_sound {ρc : Operand → Value} {ρ : Env} (hρ : EnvR φ ρc ρ) {o : Oper} {r : ARes} (hreg : regOp o.op = true) (h : aop P bar ρ H o.op = some r) :
  ∃ v, r = .val v H ∧ ∀ w, ∃ u, (execOp ρc o).run P w = .ok (.value u) w ∧ VR φ u v := by
 obtain ⟨dst, op, ty, pos, after, guard⟩ := o
 dsimp only at h hreg
 have fromS : ∀ {s : Sem Value} {v : Value}, (∀ w, ∃ u, s.run P w = .ok u w ∧ VR φ u v) → ∀ w, ∃ u, ((do pure (.value (← s)) : Sem Next)).run P w = .ok (.value u) w ∧ VR φ u v := by
  intro s v hs w;obtain ⟨u, h1, h2⟩ := hs w;exact ⟨u, by simp [h1], h2⟩
 cases op <;> simp only [regOp, Bool.false_eq_true] at hreg
 case move x =>
  obtain ⟨v, h1, rfl⟩ := val_some h;exact ⟨v, rfl, fun w => ⟨ρc x, rfl, hρ x v h1⟩⟩
 case assign x =>
  obtain ⟨v, h1, rfl⟩ := val_some h;exact ⟨v, rfl, fun w => ⟨ρc x, rfl, hρ x v h1⟩⟩
 case pick c a b =>
  obtain ⟨u, hu, rfl⟩ := val_some h;refine ⟨u, rfl, fun w => ?_⟩;unfold aPick at hu;split at hu
  ·rename_i t ht;have hc := hρ c _ ht;generalize hval : ρc c = vc at hc;cases hc with
   | bool =>
    cases t
    ·exact ⟨ρc b, by simp [execOp, hval, asBool], hρ b u hu⟩
    ·exact ⟨ρc a, by simp [execOp, hval, asBool], hρ a u hu⟩
  ·cases hu
 case build t parts =>
  have h' : ((pairEnv ρ parts.toList).bind fun ps => val H (aBuild P t ps)) = some r := h;rw [Option.bind_eq_some_iff] at h'; obtain ⟨ps, hps, h'⟩ := h';obtain ⟨a, ha, rfl⟩ := val_some h';refine ⟨a, rfl, fromS fun w => ?_⟩;obtain ⟨v, h1, h2⟩ := snd_build (pairEnv_rel hρ hps) ha w;refine ⟨v, ?_, h2⟩;rw [← h1]
  congr 2
  apply Array.toList_inj.1;simp
 case nilCheck x =>
  have h' : ((ρ x).bind fun v => val H (aNilCheck v)) = some r := h;rw [Option.bind_eq_some_iff] at h'; obtain ⟨v, hv, h'⟩ := h';obtain ⟨a, ha, rfl⟩ := val_some h';exact ⟨a, rfl, fun w => snd_nilCheck (hρ x v hv) ha _ ρc x rfl rfl w⟩
 case binOp op t x y yt =>
  have h' : (match ρ x, ρ y with
   | some a, some b => val H (aBin P op t x y a b)
   | _, _ => none) = some r := h
  split at h'
  ·rename_i a b ha hb;obtain ⟨u, hu, rfl⟩ := val_some h';exact ⟨u, rfl, fromS fun w => snd_bin (hρ x a ha) (hρ y b hb) hu w⟩
  ·cases h'
 case unOp op t x =>
  have h' : ((ρ x).bind fun v => if plain1 v then val H ((pureRun P (Op.unary op v)).bind fun r => if plain1 r then some r else none) else none) = some r := h
  rw [Option.bind_eq_some_iff] at h'; obtain ⟨v, hv, h'⟩ := h';split at h'
  ·rename_i hp;obtain ⟨u, hu, rfl⟩ := val_some h';exact ⟨u, rfl, fromS fun w => snd_pure1 (s := fun v => Op.unary op v) (hρ x v hv) hp hu w⟩
  ·cases h'
 case makeInterface t x =>
  have h' : ((ρ x).bind fun v => val H (aMakeIface P t v)) = some r := h;rw [Option.bind_eq_some_iff] at h'; obtain ⟨v, hv, h'⟩ := h';obtain ⟨u, hu, rfl⟩ := val_some h';exact ⟨u, rfl, fromS fun w => snd_makeIface (hρ x v hv) hu w⟩
 case makeFunc fn first captured =>
  cases fn with
  | func g =>
   have h' : ((mapEnv ρ first.toList).bind fun a => (mapEnv ρ captured.toList).bind fun b => val H (some (.func (.func g) a.toArray b.toArray))) = some r := h
   rw [Option.bind_eq_some_iff] at h'; obtain ⟨a, ha, h'⟩ := h';rw [Option.bind_eq_some_iff] at h'; obtain ⟨b, hb, h'⟩ := h';obtain ⟨u, hu, rfl⟩ := val_some h';cases hu;exact ⟨_, rfl, fromS fun w => ⟨.func (.func g) (first.map ρc) (captured.map ρc), rfl, .func (by simpa using mapEnv_rel hρ ha) (by simpa using mapEnv_rel hρ hb)⟩⟩
  | _ => cases h
 case fieldAddr t x i =>
  have h' : ((ρ x).bind fun v => val H (aFieldAddr P t v i)) = some r := h;rw [Option.bind_eq_some_iff] at h'; obtain ⟨v, hv, h'⟩ := h';obtain ⟨u, hu, rfl⟩ := val_some h';exact ⟨u, rfl, fromS fun w => snd_fieldAddr (hρ x v hv) hu w⟩
 case field t x i =>
  have h' : ((ρ x).bind fun v => val H (aField P t v i)) = some r := h;rw [Option.bind_eq_some_iff] at h'; obtain ⟨v, hv, h'⟩ := h';obtain ⟨u, hu, rfl⟩ := val_some h';exact ⟨u, rfl, fromS fun w => snd_field (hρ x v hv) hu w⟩
 case indexAddr t x i =>
  have h' : (match ρ x, ρ i with
   | some a, some b => val H (aIndexAddr P t a b)
   | _, _ => none) = some r := h
  split at h'
  ·rename_i a b ha hb;obtain ⟨u, hu, rfl⟩ := val_some h';exact ⟨u, rfl, fromS fun w => snd_indexAddr (hρ x a ha) (hρ i b hb) hu w⟩
  ·cases h'
 case index t x i =>
  have h' : (match ρ x, ρ i with
   | some a, some b => val H (aIndex P t a b)
   | _, _ => none) = some r := h
  split at h'
  ·rename_i a b ha hb;obtain ⟨u, hu, rfl⟩ := val_some h';exact ⟨u, rfl, fromS fun w => snd_index (hρ x a ha) (hρ i b hb) hu w⟩
  ·cases h'
 case typeAssert x xt t ok =>
  have h' : ((ρ x).bind fun v => val H (aTypeAssert P v xt t ok)) = some r := h;rw [Option.bind_eq_some_iff] at h'; obtain ⟨v, hv, h'⟩ := h';obtain ⟨u, hu, rfl⟩ := val_some h';exact ⟨u, rfl, fromS fun w => snd_typeAssert (hρ x v hv) hu w⟩
 case extract x i =>
  have h' : ((ρ x).bind fun v => val H (aExtract v i)) = some r := h;rw [Option.bind_eq_some_iff] at h'; obtain ⟨v, hv, h'⟩ := h';obtain ⟨u, hu, rfl⟩ := val_some h';exact ⟨u, rfl, fromS fun w => snd_extract (hρ x v hv) hu w⟩
theorem aLoad_congr {G : AH} {t b o : Nat} (h : G.get b = H.get b) : aLoad P G t b o = aLoad P H t b o := by
 unfold aLoad rowCells;rw [h]
theorem aSlice0_congr {G : AH} {t : TypeId} {x : Value} {lo hi mx : Option Value} (h : ∀ b o l, x = .slice (some ⟨b, o, none⟩) l capU → G.get b = H.get b) : aSlice0 P G t x lo hi mx = aSlice0 P H t x lo hi mx := by
 unfold aSlice0;split
 ·rfl
 ·rfl
 ·rename_i b o len cap _
  congr 1
  funext size
  split
  ·rename_i hc;subst hc;rw [h b o len rfl]
  ·rfl
 ·rfl
 ·rfl
theorem aSlice_congr {G : AH} {t : TypeId} {x : Value} {lo hi mx : Option Value} (h : ∀ b o l, x = .slice (some ⟨b, o, none⟩) l capU → G.get b = H.get b) : aSlice P G t x lo hi mx = aSlice P H t x lo hi mx := by
 unfold aSlice;rw [aSlice0_congr h]
theorem aLookup_congr {G : AH} {t : TypeId} {x k : Value} {ok : Bool} (h : ∀ r, x = .map (some r) → G.get r = H.get r) : aLookup P G t x k ok = aLookup P H t x k ok := by
 cases x with
 | map r => cases r with
  | none => rfl
  | some r =>
   have e := h r rfl;simp only [aLookup, e]
 | _ => rfl
theorem aLenB_congr {G : AH} {ts : Array TypeId} {args : Array Value} (h : ∀ r, args[0]? = some (.map (some r)) → G.get r = H.get r) : aLenB P G ts args = aLenB P H ts args := by
 unfold aLenB;split
 ·rename_i t x _ hx;split
  ·rfl
  ·rfl
  ·rfl
  ·rfl
  ·rfl
  ·rename_i r _;rw [h r hx]
  ·rfl
 ·rfl
theorem mapEnv_zero {ρ : Env} : ∀ {xs : List Operand} {l : List Value}, mapEnv ρ xs = some l → l[0]? = (xs[0]?).bind ρ
 | [], l, h => by cases h; rfl
 | x :: xs, l, h => by
  unfold mapEnv at h;split at h
  ·rename_i v hv;rw [Option.map_eq_some_iff] at h; obtain ⟨l', _, h⟩ := h;subst h;simp [hv]
  ·cases h
theorem load_sound {G : AH} (hs : Sim φ G bar base w) {ρc : Operand → Value} {ρ : Env} (hρ : EnvR φ ρc ρ) {o : Oper} {r : ARes} {b : Option Nat} {bar' : Nat} (hl : loadsA ρ o.op = some b) (hg : ∀ x, b = some x → G.get x = H.get x) (h : aop P bar' ρ H o.op = some r) :
  ∃ v, r = .val v H ∧ ∃ u, (execOp ρc o).run P w = .ok (.value u) w ∧ VR φ u v := by
 obtain ⟨dst, op, ty, pos, after, guard⟩ := o
 dsimp only at h hl
 have fromS : ∀ {s : Sem Value} {v : Value}, (∃ u, s.run P w = .ok u w ∧ VR φ u v) → ∃ u, ((do pure (.value (← s)) : Sem Next)).run P w = .ok (.value u) w ∧ VR φ u v := by
  intro s v ⟨u, h1, h2⟩;exact ⟨u, by simp [h1], h2⟩
 cases op <;> simp only [loadsA] at hl
 case load t a =>
  have h' : (match ρ a with
   | some (.pointer (some ⟨b, o, none⟩)) => val H (aLoad P H t b o)
   | _ => none) = some r := h
  split at h'
  ·rename_i b' o' hp;rw [hp] at hl;cases hl;obtain ⟨v, hv, rfl⟩ := val_some h';have hvp := hρ a _ hp;generalize hval : ρc a = vp at hvp;cases hvp with
   | ptr hφ =>
    rw [← aLoad_congr (hg _ rfl)] at hv;obtain ⟨u, h1, h2⟩ := run_loadVar' hs hφ hv;refine ⟨v, rfl, u, ?_, h2⟩;simp only [execOp, hval];simp [Instr.loadAt, Instr.sureAddr, h1]
  ·cases h'
 case slice t x lo hi mx =>
  have h' : ((ρ x).bind fun v => (optEnv ρ lo).bind fun lo => (optEnv ρ hi).bind fun hi => (optEnv ρ mx).bind fun mx => val H (aSlice P H t v lo hi mx)) = some r := h;simp only [Option.bind_eq_some_iff] at h';obtain ⟨v, hv, lo', hlo, hi', hhi, mx', hmx, h'⟩ := h';obtain ⟨u, hu, rfl⟩ := val_some h';rw [hv] at hl;have hu' : aSlice P G t v lo' hi' mx' = some u := by
   rw [aSlice_congr (H := H), hu];intro b' o' l' e;subst e;simp only [Nat.beq_refl] at hl;cases hl;exact hg _ rfl
  exact ⟨u, rfl, fromS (snd_slice hs (hρ x v hv) (optEnv_rel hρ hlo) (optEnv_rel hρ hhi) (optEnv_rel hρ hmx) hu')⟩
 case lookup t x i ok =>
  have h' : (match ρ x, ρ i with
   | some a, some b => val H (aLookup P H t a b ok)
   | _, _ => none) = some r := h
  split at h'
  ·rename_i a k ha hk;obtain ⟨u, hu, rfl⟩ := val_some h';rw [ha] at hl;have hu' : aLookup P G t a k ok = some u := by
    rw [aLookup_congr (H := H), hu];intro r' e;subst e;cases hl;exact hg _ rfl
   exact ⟨u, rfl, fromS (snd_lookup hs (hρ x a ha) (hρ i k hk) hu')⟩
  ·cases h'
 case call c =>
  have h' : aCall P bar' ρ H c = some r := h;unfold aCall at h';rw [Option.bind_eq_some_iff] at h'; obtain ⟨l, hargs, h'⟩ := h';have hrel : VRs φ (c.args.map ρc).toList l := by simpa using mapEnv_rel hρ hargs
  cases hc : c.callee with
  | value f => rw [hc] at hl; cases hl
  | invoke x m => rw [hc] at hl; cases hl
  | builtin bi =>
   rw [hc] at hl h'
   dsimp only at h'
   have hz := mapEnv_zero hargs;have he : execOp ρc ⟨dst, .call c, ty, pos, after, guard⟩ = builtin bi c.argTypes ty (c.args.map fun | .const _ => true | _ => false) (c.args.map ρc) := by
    show (do let d ← resolve ρc c ty; invoke d.target d.args : Sem Next) = _
    unfold resolve;rw [hc];rfl
   rw [he];cases bi <;> simp only at hl <;> first | (cases hl; done) | skip
   case len =>
    have h' : val H (aLenB P H c.argTypes l.toArray) = some r := h';obtain ⟨u, hu, rfl⟩ := val_some h';have hu' : aLenB P G c.argTypes l.toArray = some u := by
     rw [aLenB_congr (H := H), hu];intro r' e;have e' : (c.args[0]?).bind ρ = some (.map (some r')) := by
      rw [← Array.getElem?_toList, ← hz];simpa using e
     rw [e'] at hl;cases hl;exact hg _ rfl
    refine ⟨u, rfl, ?_⟩;obtain ⟨v, h1, h2⟩ := snd_lenB (ty := ty) hs (args' := c.args.map ρc) (args := l.toArray) (by simpa using hrel) hu'
    refine ⟨v, ?_, h2⟩;simp [builtin, h1]
   case cap =>
    have h' : val H (aCapB P c.argTypes l.toArray) = some r := h';obtain ⟨u, hu, rfl⟩ := val_some h';refine ⟨u, rfl, ?_⟩;obtain ⟨v, h1, h2⟩ := snd_capB (ty := ty) (args' := c.args.map ρc) (args := l.toArray) (by simpa using hrel) hu w
    refine ⟨v, ?_, h2⟩;simp [builtin, h1]
   case max =>
    have h' : (if l.toArray.toList.all plain1 then val H ((pureRun P (Builtin.max_ c.argTypes 0 l.toArray)).bind fun r => if plain1 r then some r else none) else none) = some r := h'
    split at h'
    ·rename_i hp;obtain ⟨u, hu, rfl⟩ := val_some h';refine ⟨u, rfl, ?_⟩;obtain ⟨v, h1, h2⟩ := snd_pures (s := fun xs => Builtin.max_ c.argTypes ty xs) (vs := c.args.map ρc) (xs := l.toArray) (by simpa using hrel) hp hu w
     refine ⟨v, ?_, h2⟩;simp [builtin, h1]
    ·cases h'
   case min =>
    have h' : (if l.toArray.toList.all plain1 then val H ((pureRun P (Builtin.min_ c.argTypes 0 l.toArray)).bind fun r => if plain1 r then some r else none) else none) = some r := h'
    split at h'
    ·rename_i hp;obtain ⟨u, hu, rfl⟩ := val_some h';refine ⟨u, rfl, ?_⟩;obtain ⟨v, h1, h2⟩ := snd_pures (s := fun xs => Builtin.min_ c.argTypes ty xs) (vs := c.args.map ρc) (xs := l.toArray) (by simpa using hrel) hp hu w
     refine ⟨v, ?_, h2⟩;simp [builtin, h1]
    ·cases h'
 all_goals cases hl
theorem get_put' (hn : H.next ≤ H.next) {b b' : Nat} (hb : b < H.next) (hb' : b' < H.next) (hne : b' ≠ b) (o : AObj) : (H.put b o).get b' = H.get b' := by
 rw [AH.get_put H o (by omega) (by omega), if_neg hne]
theorem get_alloc' {o : AObj} (h : H.alloc o = some H') {b : Nat} (hb : b < H.next) : H'.get b = H.get b ∧ H.next ≤ H'.next ∧ H'.next ≤ H'.next := by
 obtain ⟨h1, h2, h3⟩ := AH.alloc_eq h;exact ⟨by rw [h3 b (by omega), if_neg (by omega)], by omega, by omega⟩
end Go.Abu
namespace Go.Abu
variable {P : Program} {φ : Ren} {H H' : AH} {bar base : Nat} {w : World}
def res (φ : Ren) (N : Nat) : Ren := fun b => if b < N then φ b else none
theorem res_some {N b : Nat} {r : RB} : res φ N b = some r ↔ b < N ∧ φ b = some r := by
 unfold res;by_cases h : b < N
 ·simp [h]
 ·simp only [if_neg h];exact ⟨fun e => (by cases e), fun e => absurd e.1 h⟩
theorem res_mono {φ ψ : Ren} (h : φ.le ψ) (N : Nat) : (res φ N).le (res ψ N) := fun b r e => res_some.2 ⟨(res_some.1 e).1, h b r (res_some.1 e).2⟩
theorem le_res {φ ψ : Ren} {N : Nat} (h : φ.le ψ) (hN : ∀ b r, φ b = some r → b < N) : φ.le (res ψ N) := fun b r e => res_some.2 ⟨hN b r e, h b r e⟩
mutual
theorem VR.both {φ ψ : Ren} {N : Nat} (hN : ∀ b r, ψ b = some r → b < N) : ∀ {v u a : Value}, VR φ v a → VR ψ u a → VR (res φ N) v a
 | _, _, _, .bool b, _ => .bool b
 | _, _, _, .int k n, _ => .int k n
 | _, _, _, .float k n, _ => .float k n
 | _, _, _, .string s, _ => .string s
 | _, _, _, .ptrNil, _ => .ptrNil
 | _, _, _, .ptr h, .ptr h' => .ptr (res_some.2 ⟨hN _ _ h', h⟩)
 | _, _, _, .sliceNil, _ => .sliceNil
 | _, _, _, .slice h hl hc, .slice h' _ _ => .slice (res_some.2 ⟨hN _ _ h', h⟩) hl hc
 | _, _, _, .slice h hl hc, .sliceE h' _ => .slice (res_some.2 ⟨hN _ _ h', h⟩) hl hc
 | _, _, _, .sliceE h ha, .slice h' _ _ => .sliceE (res_some.2 ⟨hN _ _ h', h⟩) ha
 | _, _, _, .sliceE h ha, .sliceE h' _ => .sliceE (res_some.2 ⟨hN _ _ h', h⟩) ha
 | _, _, _, .mapNil, _ => .mapNil
 | _, _, _, .map h, .map h' => .map (res_some.2 ⟨hN _ _ h', h⟩)
 | _, _, _, .chanNil, _ => .chanNil
 | _, _, _, .nilFunc, _ => .nilFunc
 | _, _, _, .func hf hc, .func hf' hc' => .func (VRs.both hN hf hf') (VRs.both hN hc hc')
 | _, _, _, .yield h, .yield h' => .yield (res_some.2 ⟨hN _ _ h', h⟩)
 | _, _, _, .nilIface, _ => .nilIface
 | _, _, _, .iface h, .iface h' => .iface (VR.both hN h h')
 | _, _, _, .agg h, .agg h' => .agg (VRs.both hN h h')
 | _, _, _, .tuple h, .tuple h' => .tuple (VRs.both hN h h')
theorem VRs.both {φ ψ : Ren} {N : Nat} (hN : ∀ b r, ψ b = some r → b < N) : ∀ {vs us as : List Value}, VRs φ vs as → VRs ψ us as → VRs (res φ N) vs as
 | _, _, _, .nil, _ => .nil
 | _, _, _, .cons h t, .cons h' t' => .cons (VR.both hN h h') (VRs.both hN t t')
end
theorem Step.lower {φ' : Ren} {w' : World} (hs : Sim φ H bar base w) (st : Step φ H H.next w.heap.size w φ' H' w') : Step φ H bar base w φ' H' w' := by
 have hn := st.nx;have old : ∀ b r, φ' b = some r → b < H.next → φ b = some r := fun b r h hb => (st.new b r h).resolve_right (by omega);have hbn := hs.bn;refine ⟨st.ext, ⟨by have := st.sim.bn; omega, st.sim.small, st.sim.lt, ?_, ?_, ?_, ?_, st.sim.cur⟩, st.new, st.below.mono hs.hb, hn, fun b hb hb' => st.keep b hb' hb'⟩
 ·intro b r o h hg;by_cases q1 : b < H.next
  ·have o1 := old b r h q1;exact (hs.obj b r o o1 (by rw [← st.keep b q1 q1]; exact hg)).frame st.ext (st.below.block _ (hs.cur b r o1))
  ·exact (st.sim.obj b r o h hg).lower (st.sim.own b r h (by omega))
 ·intro b b' r r' h1 h2 l1 l2 hb hc;by_cases q1 : b < H.next
  ·have o1 := old b r h1 q1;by_cases q2 : b' < H.next
   ·have o2 := old b' r' h2 q2;refine hs.inj b b' r r' o1 o2 ?_ ?_ hb hc
    ·obtain ⟨o, e1, e2⟩ := l1; exact ⟨o, by rw [← st.keep b q1 q1]; exact e1, e2⟩
    ·obtain ⟨o, e1, e2⟩ := l2; exact ⟨o, by rw [← st.keep b' q2 q2]; exact e1, e2⟩
   ·have := st.sim.own b' r' h2 (by omega);have := hs.cur b r o1;omega
  ·exact st.sim.inj b b' r r' h1 h2 l1 l2 (by omega) hc
 ·intro b r h hb;by_cases q1 : b < H.next
  ·exact hs.own b r (old b r h q1) hb
  ·have := st.sim.own b r h (by omega);have := hs.hb;omega
 ·have := st.sim.hb;have := hs.hb;omega
theorem Sim.raise' {bar' : Nat} (hs : Sim φ H bar base w) (h : bar ≤ bar') (h' : bar' ≤ H.next) : Sim φ H bar' base w :=
 ⟨h', hs.small, hs.lt, hs.obj, fun b b' r r' h1 h2 l1 l2 hb hc => hs.inj b b' r r' h1 h2 l1 l2 (by omega) hc, fun b r h1 hb => hs.own b r h1 (by omega), hs.hb, hs.cur⟩
theorem Step.lower' {φ' : Ren} {w' : World} {bar' : Nat} (hs : Sim φ H bar base w) (hb : bar ≤ bar') (hb' : bar' ≤ H.next) (st : Step φ H bar' base w φ' H' w') : Step φ H bar base w φ' H' w' := by
 have hn := st.nx;have old : ∀ b r, φ' b = some r → b < H.next → φ b = some r := fun b r h hb => (st.new b r h).resolve_right (by omega);have hbn := hs.bn;refine ⟨st.ext, ⟨by have := st.sim.bn; omega, st.sim.small, st.sim.lt, st.sim.obj, ?_, ?_, st.sim.hb, st.sim.cur⟩, st.new, st.below, hn, fun b hb1 hb2 => st.keep b (by omega) hb2⟩
 ·intro b b' r r' h1 h2 l1 l2 hbb hc;by_cases q1 : bar' ≤ b
  ·exact st.sim.inj b b' r r' h1 h2 l1 l2 q1 hc
  ·by_cases q2 : bar' ≤ b'
   ·exact (st.sim.inj b' b r' r h2 h1 l2 l1 q2 hc.symm).symm
   ·have o1 := old b r h1 (by omega);have o2 := old b' r' h2 (by omega);refine hs.inj b b' r r' o1 o2 ?_ ?_ hbb hc
    ·obtain ⟨o, e1, e2⟩ := l1; exact ⟨o, by rw [← st.keep b (by omega) (by omega)]; exact e1, e2⟩
    ·obtain ⟨o, e1, e2⟩ := l2; exact ⟨o, by rw [← st.keep b' (by omega) (by omega)]; exact e1, e2⟩
 ·intro b r h hbb;by_cases q1 : bar' ≤ b
  ·exact st.sim.own b r h q1
  ·exact hs.own b r (old b r h (by omega)) hbb
theorem Sim.raise (hs : Sim φ H bar base w) : Sim φ H H.next w.heap.size w :=
 ⟨Nat.le_refl _, hs.small, hs.lt, fun b r o h hg => (hs.obj b r o h hg).raise hs.hb, fun b _ r _ h _ _ _ hb => absurd (hs.lt b r h) (by omega), fun b r h hb => absurd (hs.lt b r h) (by omega), Nat.le_refl _, hs.cur⟩
theorem Sim.extend {E : AH} (hs : Sim φ H bar base w) (hg : ∀ b, b < H.next → E.get b = H.get b) (hn : H.next ≤ E.next) (hsm : E.next ≤ E.next) : Sim φ E bar base w := by
 have hl : ∀ b r, φ b = some r → E.live b → H.live b := fun b r h ⟨o, h1, h2⟩ => ⟨o, by rw [← hg b (hs.lt b r h)]; exact h1, h2⟩;exact ⟨Nat.le_trans hs.bn hn, hsm, fun b r h => Nat.lt_of_lt_of_le (hs.lt b r h) hn, fun b r o h h' => hs.obj b r o h (by rw [← hg b (hs.lt b r h)]; exact h'),
  fun b b' r r' h1 h2 l1 l2 => hs.inj b b' r r' h1 h2 (hl b r h1 l1) (hl b' r' h2 l2), hs.own, hs.hb, hs.cur⟩
def uni (φ φ' : Ren) : Ren := fun b => match φ b with
 | some r => some r
 | none => φ' b
theorem uni_le (φ φ' : Ren) : φ.le (uni φ φ') := fun b r h => by unfold uni; rw [h]
theorem union_sim {E Gi Gi1 : AH} {φ' : Ren} {w' : World} (hs : Sim φ E bar base w) (st : Step (res φ Gi.next) Gi Gi.next w.heap.size w φ' Gi1 w') (hfresh : ∀ b, Gi.next ≤ b → b < Gi1.next → φ b = none)
  (_hbar : bar ≤ Gi.next) (hE : ∀ b, b < Gi1.next → E.get b = Gi1.get b) (hn : Gi1.next ≤ E.next) :
  φ'.le (uni φ φ') ∧ Sim (uni φ φ') E bar base w' ∧ (∀ b r, uni φ φ' b = some r → φ b = some r ∨ (Gi.next ≤ b ∧ b < Gi1.next ∧ φ' b = some r)) := by
 have part : ∀ b r, uni φ φ' b = some r → φ b = some r ∨ (Gi.next ≤ b ∧ b < Gi1.next ∧ φ' b = some r) := by
  intro b r h;unfold uni at h;cases hb : φ b with
  | some r' => rw [hb] at h; exact .inl h
  | none =>
   rw [hb] at h;refine .inr ⟨?_, st.sim.lt b r h, h⟩;rcases st.new b r h with h' | h'
   ·rw [(res_some.1 h').2] at hb; cases hb
   ·exact h'
 have hle : φ'.le (uni φ φ') := by
  intro b r h;unfold uni;rcases st.new b r h with h' | h'
  ·rw [(res_some.1 h').2]
  ·rw [hfresh b h' (st.sim.lt b r h)]; exact h
 refine ⟨hle, ⟨hs.bn, hs.small, ?_, ?_, ?_, ?_, ?_, ?_⟩, part⟩
 ·intro b r h;rcases part b r h with h | ⟨_, h, _⟩
  ·exact hs.lt b r h
  ·omega
 ·intro b r o h hg;rcases part b r h with h | ⟨h1, h2, h3⟩
  ·exact (hs.obj b r o h hg).frame (uni_le _ _) (st.below.block _ (hs.cur b r h))
  ·rw [hE b h2] at hg;exact ((st.sim.obj b r o h3 hg).frame hle rfl).lower (st.sim.own b r h3 h1)
 ·intro b b' r r' h1 h2 l1 l2 hb hc;rcases part b r h1 with h1 | ⟨q1, q2, q3⟩ <;> rcases part b' r' h2 with h2 | ⟨p1, p2, p3⟩
  ·exact hs.inj b b' r r' h1 h2 l1 l2 hb hc
  ·have := st.sim.own b' r' p3 p1;have := hs.cur b r h1;omega
  ·have := st.sim.own b r q3 q1;have := hs.cur b' r' h2;omega
  ·refine st.sim.inj b b' r r' q3 p3 ?_ ?_ q1 hc
   ·obtain ⟨o, e1, e2⟩ := l1; exact ⟨o, by rw [← hE b q2]; exact e1, e2⟩
   ·obtain ⟨o, e1, e2⟩ := l2; exact ⟨o, by rw [← hE b' p2]; exact e1, e2⟩
 ·intro b r h hb;rcases part b r h with h | ⟨h1, h2, h3⟩
  ·exact hs.own b r h hb
  ·have := st.sim.own b r h3 h1;have := hs.hb;omega
 ·have := st.below.size;have := hs.hb;omega
 ·intro b r h;rcases part b r h with h | ⟨h1, h2, h3⟩
  ·have := hs.cur b r h;have := st.below.size;omega
  ·exact st.sim.cur b r h3
theorem Fr.put_get {f f' : Fr} {dst : Option Tmp} {v : Value} (h : f.put dst v = some f') (hsm : f.n ≤ 1024) : f'.n = f.n ∧ ∀ t, f'.get t = if dst = some t then some v else f.get t := by
 cases dst with
 | none => cases h; exact ⟨rfl, fun t => by rw [if_neg (by simp)]⟩
 | some d =>
  by_cases hd : d < f.n
  ·have h : (if d < f.n then some { f with m := Tr.set 10 f.m d v } else none) = some f' := h
   rw [if_pos hd] at h;have hd' : @LT.lt Nat _ d f.n := hd;cases h;refine ⟨rfl, fun t => ?_⟩;unfold Fr.get;simp only;by_cases ht : t < 1024
   ·rw [if_pos ht, if_pos ht, Tr.get_set 10 f.m d t v (by omega) ht];by_cases e : t = d
    ·rw [if_pos e, if_pos (by rw [e])]
    ·rw [if_neg e, if_neg (fun h => e (Option.some.inj h).symm)]
   ·rw [if_neg ht, if_neg ht, if_neg (fun h => by cases h; omega)]
  ·have h : (if d < f.n then some { f with m := Tr.set 10 f.m d v } else none) = some f' := h
   rw [if_neg hd] at h;cases h
theorem put_bound {f f' : Fr} {d : Tmp} {v : Value} (h : f.put (some d) v = some f') : d < f.n := by
 by_cases hd : d < f.n
 ·exact hd
 ·have h : (if d < f.n then some { f with m := Tr.set 10 f.m d v } else none) = some f' := h
  rw [if_neg hd] at h;cases h
theorem operA_parts {K : Known} {rec : Rec} {ops : Array Oper} {o : Oper} {f f' : Fr} (h : operA P K rec bar ops o f H = some (f', H')) :
  (wantedA ops f o = some false ∧ f.put o.dst undef = some f' ∧ H' = H) ∨
  (wantedA ops f o = some true ∧ ∃ r v, aop P bar (aev f) H o.op = some r ∧ f.put o.dst v = some f' ∧ (r = .val v H' ∨ ∃ g args H₁, r = .call g args H₁ ∧ callA P K rec bar g args H₁ = some (v, H'))) := by
 unfold operA at h;split at h
 ·cases h
 ·rename_i hw;rw [Option.map_eq_some_iff] at h; obtain ⟨f₁, hp, h⟩ := h;cases h;exact .inl ⟨hw, hp, rfl⟩
 ·rename_i hw;refine .inr ⟨hw, ?_⟩;split at h
  ·cases h
  ·rename_i v H₁ hop;rw [Option.map_eq_some_iff] at h; obtain ⟨f₁, hp, h⟩ := h;cases h;exact ⟨_, v, hop, hp, .inl rfl⟩
  ·rename_i g args H₁ hop;split at h
   ·cases h
   ·rename_i v H₂ hcall;rw [Option.map_eq_some_iff] at h; obtain ⟨f₁, hp, h⟩ := h;cases h;exact ⟨_, v, hop, hp, .inr ⟨g, args, H₁, rfl, hcall⟩⟩
theorem op_run {K : Known} (hK : KnownOk P K) {rec : Rec} (hrec : RecOk P rec) {o : Oper} {ρ : Env} {a : Act} {r : ARes} {v : Value} (hs : Sim φ H bar base w) (hρ : EnvR φ a.eval ρ) (hop : aop P bar ρ H o.op = some r)
  (hr : r = .val v H' ∨ ∃ g args H₁, r = .call g args H₁ ∧ callA P K rec bar g args H₁ = some (v, H')) {next : Act → World → Prop} {Q : Exit → Act → World → Prop} {ol : Option Nat}
  (hn : ∀ u w' φ', Step φ H bar base w φ' H' w' → VR φ' u v → next (a.put o.dst u) w') : o.wpIn (Wd ol) 0 P a w next Q := by
 refine ⟨fun _ _ => trivial, ?_⟩;rw [semAt_eq hop];have hok := aop_sound hs hρ hop;rcases hr with rfl | ⟨g, args, H₁, rfl, hcall⟩
 ·obtain ⟨u, w', φ', h1, h2, h3⟩ := hok;rcases h1 with h1 | ⟨h1, rfl⟩
  ·rw [h1]; exact hn u w' φ' h3 h2
  ·rw [h1]; exact hn undef w' φ' h3 h2
 ·obtain ⟨rfl, args', w', h1, rfl, h2⟩ := hok;rw [h1];refine ⟨(fun h => by cases h), ?_⟩;have hc := (callsIn_wide (n := 0)).2 (call_sound hK hrec hcall hs h2);refine CallsIn.mono (F := Wd ol) (n := 0) hc ?_;rintro e w'' ⟨u, φ', rfl, k1, k2⟩;exact hn u w'' φ' k2 k1
theorem oper_exists {K : Known} (hK : KnownOk P K) {rec : Rec} (hrec : RecOk P rec) {ops : Array Oper} {o : Oper} {f f' : Fr} (h : operA P K rec bar ops o f H = some (f', H')) (hs : Sim φ H bar base w)
  {tmps : Array Value} (hf : FrR φ tmps f) : ∃ φ' w' tmps', Step φ H bar base w φ' H' w' ∧ FrR φ' tmps' f' := by
 let a : Act := { tmps := tmps, defers := [] }
 rcases operA_parts h with ⟨_, hp, rfl⟩ | ⟨_, r, v, hop, hp, hr⟩
 ·exact ⟨φ, w, _, Step.refl hs, FrR.put (a := a) hf (.tuple .nil) hp⟩
 ·have hok := aop_sound (o := o) hs (aev_rel (a := a) hf) hop;rcases hr with rfl | ⟨g, args, H₁, rfl, hcall⟩
  ·obtain ⟨u, w', φ', h1, h2, h3⟩ := hok;exact ⟨φ', w', _, h3, FrR.put (a := a) (hf.mono h3.ext) h2 hp⟩
  ·obtain ⟨rfl, args', w', h1, rfl, h2⟩ := hok;obtain ⟨e, w'', fr, ⟨u, φ', _, k1, k2⟩, _⟩ := call_sound hK hrec hcall hs h2 [];exact ⟨φ', w'', _, k2, FrR.put (a := a) (hf.mono k2.ext) k1 hp⟩
end Go.Abu
namespace Go.Abu
variable {P : Program} {φ : Ren} {H H' : AH} {bar base : Nat} {w : World}
theorem aWrite_keep (hsm : H.next ≤ H.next) {b o : Nat} {vs : List Value} (h : aWrite bar H b o vs = some H') : H'.next = H.next ∧ ∀ b', b' ≠ b → b' < H.next → b ≤ b → H'.get b' = H.get b' := by
 unfold aWrite at h;split at h
 ·cases h; exact ⟨rfl, fun _ _ _ _ => rfl⟩
 ·split at h
  ·split at h
   ·rw [Option.map_eq_some_iff] at h; obtain ⟨c', _, h⟩ := h;subst h;exact ⟨rfl, fun b' hne hb' hb => by rw [AH.get_put H _ hb (by omega), if_neg hne]⟩
   ·cases h
  ·cases h
theorem writes_one (hs : Sim φ H bar base w) {a : Act} {ρ : Env} (hρ : EnvR φ a.eval ρ) {Wf : FuncId → Option Nat} {op : Op} {b : Nat} {r : ARes} (hw : writesA Wf ρ op = some (.one b)) (h : aop P bar ρ H op = some r) :
  ∃ v H', r = .val v H' ∧ H.next ≤ H'.next ∧ ∀ b', b' ≠ b → b' < H.next → H'.get b' = H.get b' := by
 have hsm := hs.small;cases op <;> simp only [writesA] at hw
 case store t x y =>
  have h' : (match ρ x, ρ y with
   | some (.pointer (some ⟨b, o, none⟩)), some v => (aStore P bar H t b o v).map (.val undef ·)
   | _, _ => none) = some r := h
  split at h'
  ·rename_i b' o v hp hx;rw [hp] at hw;cases hw;have hv := hρ x _ hp;generalize a.eval x = vp at hv;cases hv with
   | ptr hφ =>
    have hlt := hs.lt _ _ hφ;rw [Option.map_eq_some_iff] at h'; obtain ⟨H₁, hst, h'⟩ := h';subst h';unfold aStore at hst;split at hst
    ·obtain ⟨e1, e2⟩ := aWrite_keep hsm hst;exact ⟨_, _, rfl, by omega, fun b'' hne hb'' => e2 b'' hne hb'' (by omega)⟩
    ·cases hst
  ·cases h'
 case mapUpdate t mo ko vo =>
  have h' : (match ρ mo, ρ ko, ρ vo with
   | some a, some b, some c => (aMapUpdate P bar H t a b c).map (.val undef ·)
   | _, _, _ => none) = some r := h
  split at h'
  ·rename_i mv kv vv ha hb hc;rw [Option.map_eq_some_iff] at h'; obtain ⟨H₁, hst, h'⟩ := h';subst h';rw [ha] at hw;unfold aMapUpdate at hst;split at hst
   ·rename_i kt et r' hu;cases hw;have hlt : b < H.next := by
     have hv := hρ mo _ ha;generalize a.eval mo = vp at hv;cases hv with
     | map hφ => exact hs.lt _ _ hφ
    have put : ∀ o, (H.put b o).next = H.next ∧ ∀ b', b' ≠ b → b' < H.next → (H.put b o).get b' = H.get b' := fun o => ⟨rfl, fun b' hne hb' => get_put' hsm hlt hb' hne o⟩;split at hst
    ·split at hst
     ·split at hst
      ·simp only [Option.bind_eq_some_iff] at hst;obtain ⟨_, _, f, _, hst⟩ := hst;split at hst
       ·split at hst
        ·split at hst
         ·cases hst; exact ⟨_, _, rfl, Nat.le_of_eq (put _).1.symm, (put _).2⟩
         ·cases hst
        ·cases hst
       ·cases hst; exact ⟨_, _, rfl, Nat.le_of_eq (put _).1.symm, (put _).2⟩
      ·cases hst
     ·cases hst
    ·cases hst
   ·cases hst
  ·cases h'
 case call c =>
  cases hc : c.callee with
  | value f =>
   rw [hc] at hw;cases f with
   | func g =>
    simp only at hw;split at hw
    ·rename_i k _;injection hw with hw
     cases hw
    ·cases hw
   | _ =>
    simp only at hw;split at hw
    ·split at hw
     ·injection hw with hw
      cases hw
     ·cases hw
    ·cases hw
  | invoke x m => rw [hc] at hw; cases hw
  | builtin bi =>
   rw [hc] at hw;cases bi <;> simp only at hw
   case append =>
    have h' : aCall P bar ρ H c = some r := h;unfold aCall at h';rw [Option.bind_eq_some_iff] at h'; obtain ⟨args, hargs, h'⟩ := h';rw [hc] at h';have h' : aAppend P bar H c.argTypes args.toArray = some r := h';split at hw
    ·rename_i p len cap hx;split at hw
     ·cases hw
     ·rename_i hcl;cases hw;rw [Option.bind_eq_some_iff] at hx;obtain ⟨x, hx0, hx1⟩ := hx;obtain ⟨rest, hcl0⟩ : ∃ rest, c.args.toList = x :: rest := by
       have : c.args.toList[0]? = some x := by simpa using hx0
       cases hl : c.args.toList with
       | nil => rw [hl] at this; simp at this
       | cons y ys => rw [hl] at this; simp at this; exact ⟨ys, by rw [this]⟩
      rw [hcl0] at hargs;unfold mapEnv at hargs;rw [hx1] at hargs;simp only at hargs;rw [Option.map_eq_some_iff] at hargs;obtain ⟨args', hargs', rfl⟩ := hargs;have hv := hρ x _ hx1;obtain ⟨a', H', rfl⟩ := res_is_val h' fun _ _ _ => aAppend_val;refine ⟨a', H', rfl, ?_⟩;obtain ⟨blk, off, spot⟩ := p;have hspot : spot = none := by
       generalize a.eval x = vp at hv;cases hv <;> rfl
      subst hspot;have hlt : blk < H.next := by
       obtain ⟨rb, _, _, hφ, _⟩ := slice_some hv;exact hs.lt _ _ hφ
      unfold aAppend at h';split at h'
      ·rename_i st xt s y hts hag;simp only [List.cons.injEq] at hag;obtain ⟨rfl, _⟩ := hag;split at h'
       ·simp only [Option.bind_eq_some_iff] at h';obtain ⟨size, _, i, _, zv, _, h'⟩ := h';split at h'
        ·cases h'
        ·rw [Option.bind_eq_some_iff] at h';obtain ⟨q, _, h'⟩ := h';have grow : ∀ {e s b l n : Nat} {o nw : List Value} {v : Value} {H' : AH}, aGrow H e s b l n o nw = some (.val v H') → H.next ≤ H'.next ∧ ∀ b', b' < H.next → H'.get b' = H.get b' := by
          intro e s b l n o nw v H' hg;unfold aGrow at hg;split at hg
          ·rw [Option.map_eq_some_iff] at hg; obtain ⟨⟨b', H₁⟩, hr, hg⟩ := hg;cases hg;obtain ⟨_, hal⟩ := aNewRow_eq hr;exact ⟨by have := (AH.alloc_eq hal).2.1; omega, fun b' hb' => (get_alloc' hal hb').1⟩
          ·cases hg
         have appU : ∀ {e s by' n : Nat} {nw : List Value} {v : Value} {H' : AH} {oo ll : Nat}, aAppU bar H e s by' n nw blk oo ll = some (.val v H') → H.next ≤ H'.next ∧ ∀ b', b' ≠ blk → b' < H.next → H'.get b' = H.get b' := by
          intro e s by' n nw v H' oo ll h';unfold aAppU at h';split at h'
          ·split at h'
           ·split at h'
            ·simp only [Option.bind_eq_some_iff, Option.map_eq_some_iff] at h';obtain ⟨old, _, H₁, hal, h'⟩ := h';cases h';have hn : (H.put blk .dead).next = H.next := rfl;refine ⟨by have := (AH.alloc_eq hal).2.1; omega, fun b' hne hb' => ?_⟩;rw [(get_alloc' hal (by omega)).1];rw [AH.get_put H _ (by omega) (by omega), if_neg hne]
            ·cases h'
           ·cases h'
          ·cases h'
         unfold aAppS at h';simp only at h';split at h'
         ·cases h'; exact ⟨Nat.le_refl _, fun _ _ _ => rfl⟩
         ·split at h'
          ·unfold aAppV at h';split at h'
           ·rename_i c t zz hgg;split at h'
            ·rw [Option.map_eq_some_iff] at h'; obtain ⟨H₁, hw, h'⟩ := h';cases h';obtain ⟨e1, e2⟩ := aWrite_keep hsm hw;exact ⟨by omega, fun b' hne hb' => e2 b' hne hb' (by omega)⟩
            ·exact appU h'
           ·cases h'
          ·unfold aAppX at h';split at h'
           ·rw [Option.map_eq_some_iff] at h'; obtain ⟨H₁, hw, h'⟩ := h';cases h';obtain ⟨e1, e2⟩ := aWrite_keep hsm hw;exact ⟨by omega, fun b' hne hb' => e2 b' hne hb' (by omega)⟩
           ·rw [Option.bind_eq_some_iff] at h'; obtain ⟨old, _, h'⟩ := h';obtain ⟨e1, e2⟩ := grow h';exact ⟨e1, fun b' _ hb' => e2 b' hb'⟩
       ·cases h'
      ·cases h'
    ·cases hw
   all_goals cases hw
 all_goals cases hw
end Go.Abu
namespace Go.Abu
variable {P : Program}
def Cls.isW : Cls → Prop
 | .W _ => True
 | _ => False
theorem WS.lim_le (s : WS) (bar : Nat) : bar ≤ s.lim bar := by
 cases s <;> simp [WS.lim] <;> omega
structure Trace (P : Program) (K : Known) (rec : Rec) (Wf : FuncId → Option Nat) (bar : Nat) (ops : Array Oper) (F : Nat → Fr) (G : Nat → AH) (C : Nat → Cls) : Prop where
 step : ∀ i o, ops[i]? = some o → drawOne P K rec Wf bar ops o (F i) (G i) = some (C i, F (i + 1), G (i + 1))
theorem trace_of {K : Known} {rec : Rec} {Wf : FuncId → Option Nat} {bar : Nat} {ops : Array Oper} : ∀ (os : List Oper) (f : Fr) (H : AH) (cs : List (Cls × AH × AH)) (f' : Fr) (H' : AH), drawAll P K rec Wf bar ops os f H = some (cs, f', H') →
  ∃ (F : Nat → Fr) (G : Nat → AH) (C : Nat → Cls), F 0 = f ∧ G 0 = H ∧ F os.length = f' ∧ G os.length = H' ∧ cs.length = os.length ∧ (∀ i, i < os.length → cs[i]? = some (C i, G i, G (i + 1))) ∧ ∀ i o, os[i]? = some o → drawOne P K rec Wf bar ops o (F i) (G i) = some (C i, F (i + 1), G (i + 1))
 | [], f, H, cs, f', H', h => by
  cases h;exact ⟨fun _ => f, fun _ => H, fun _ => .R, rfl, rfl, rfl, rfl, rfl, fun i h => by simp at h, fun i o h => by simp at h⟩
 | o :: os, f, H, cs, f', H', h => by
  unfold drawAll at h;split at h
  ·cases h
  ·rename_i c f₁ H₁ h1;split at h
   ·cases h
   ·rename_i l r h2;cases h;obtain ⟨F, G, C, e1, e2, e3, e4, e5, e6, e7⟩ := trace_of os f₁ H₁ l f' H' h2;refine ⟨fun i => match i with | 0 => f | i + 1 => F i, fun i => match i with | 0 => H | i + 1 => G i, fun i => match i with | 0 => c | i + 1 => C i, rfl, rfl, e3, e4, by simp [e5], fun i hi => ?_, fun i o' ho => ?_⟩
    ·cases i with
     | zero => simp [e2]
     | succ i => simpa using e6 i (by simpa using hi)
    ·cases i with
     | zero =>
      simp at ho; subst ho;show drawOne P K rec Wf bar ops o f H = some (c, F 0, G 0)
      rw [e1, e2]; exact h1
     | succ i => exact e7 i o' (by simpa using ho)
section
variable {K : Known} {rec : Rec} {Wf : FuncId → Option Nat} {bar base : Nat} {ops : Array Oper} {F : Nat → Fr} {G : Nat → AH} {C : Nat → Cls}
theorem drawOne_oper {o : Oper} {f f' : Fr} {H H' : AH} {c : Cls} (h : drawOne P K rec Wf bar ops o f H = some (c, f', H')) :
  (¬ c.isW ∧ operA P K rec H.next ops o f H = some (f', H')) ∨ (∃ s, c = .W s ∧ s.lim bar ≤ H.next ∧ operA P K rec (s.lim bar) ops o f H = some (f', H')) := by
 unfold drawOne at h;split at h
 ·split at h
  ·rename_i s hs;unfold drawW at h;split at h
   ·rename_i hb;rw [Option.map_eq_some_iff] at h; obtain ⟨p, hp, h⟩ := h;cases h;exact .inr ⟨s, rfl, Nat.le_of_ble_eq_true hb, hp⟩
   ·cases h
  ·rename_i c' hne;rw [Option.map_eq_some_iff] at h; obtain ⟨p, hp, h⟩ := h;cases h;refine .inl ⟨fun hw => ?_, hp⟩;cases hc : clsA Wf (aev f) o.op with
   | W b => exact hne b hc
   | _ => rw [hc] at hw; exact hw
 ·rw [Option.map_eq_some_iff] at h; obtain ⟨p, hp, h⟩ := h;cases h;exact .inl ⟨fun hw => hw, hp⟩
 ·cases h
theorem canon (hK : KnownOk P K) (hrec : RecOk P rec) (ht : Trace P K rec Wf bar ops F G C) {φ₀ : Ren} {w₀ : World} {tmps₀ : Array Value} (hs : Sim φ₀ (G 0) bar base w₀) (hf : FrR φ₀ tmps₀ (F 0)) :
  ∀ i, i ≤ ops.size → ∃ φ w tmps, Step φ₀ (G 0) bar base w₀ φ (G i) w ∧ FrR φ tmps (F i)
 | 0, _ => ⟨φ₀, w₀, tmps₀, Step.refl hs, hf⟩
 | i + 1, hi => by
  obtain ⟨φ, w, tmps, h1, h2⟩ := canon hK hrec ht hs hf i (by omega);have ho : ops[i]? = some ops[i] := by simp
  rcases drawOne_oper (ht.step i _ ho) with ⟨_, h⟩ | ⟨s, _, hsb, h⟩
  ·obtain ⟨φ', w', tmps', k1, k2⟩ := oper_exists hK hrec h h1.sim.raise h2;exact ⟨φ', w', tmps', h1.trans (k1.lower h1.sim), k2⟩
  ·obtain ⟨φ', w', tmps', k1, k2⟩ := oper_exists hK hrec h (h1.sim.raise' (WS.lim_le s bar) hsb) h2;exact ⟨φ', w', tmps', h1.trans (Step.lower' h1.sim (WS.lim_le s bar) hsb k1), k2⟩
structure Mem (bar : Nat) (ops : Array Oper) (F : Nat → Fr) (G : Nat → AH) (C : Nat → Cls) : Prop where
 mono : ∀ i, i < ops.size → (G i).next ≤ (G (i + 1)).next
 small : ∀ i, i ≤ ops.size → (G i).next ≤ (G i).next
 keep : ∀ i, i < ops.size → ¬ (C i).isW → ∀ b, b < (G i).next → (G (i + 1)).get b = (G i).get b
 one : ∀ i s, i < ops.size → C i = .W s → ∀ b', s.free b' = true → b' < (G i).next → (G (i + 1)).get b' = (G i).get b'
 bar : ∀ i, i ≤ ops.size → (G 0).next ≤ (G i).next ∧ ∀ b, b < bar → b < (G 0).next → (G i).get b = (G 0).get b
 frame : ∀ i, i ≤ ops.size → ∀ t v, (F i).get t = some v → ∃ ψ u, (∀ b r, ψ b = some r → b < (G i).next) ∧ VR ψ u v
 n : ∀ i, i ≤ ops.size → (F i).n = (F 0).n ∧ (F i).n ≤ 1024
theorem drawOne_cls {o : Oper} {f f' : Fr} {H H' : AH} {c : Cls} (h : drawOne P K rec Wf bar ops o f H = some (c, f', H')) :
  (wantedA ops f o = some true ∧ c = clsA Wf (aev f) o.op) ∨ (wantedA ops f o = some false ∧ c = .R) := by
 unfold drawOne at h;split at h
 ·rename_i hw;refine .inl ⟨hw, ?_⟩;split at h
  ·rename_i b hc;unfold drawW at h;split at h
   ·rw [Option.map_eq_some_iff] at h; obtain ⟨p, hp, h⟩ := h;cases h;exact hc.symm
   ·cases h
  ·rw [Option.map_eq_some_iff] at h; obtain ⟨p, hp, h⟩ := h;cases h;rfl
 ·rename_i hw;rw [Option.map_eq_some_iff] at h; obtain ⟨p, hp, h⟩ := h;cases h;exact .inr ⟨hw, rfl⟩
 ·cases h
theorem cls_W {Wf : FuncId → Option Nat} {ρ : Env} {op : Op} {b : WS} (h : clsA Wf ρ op = .W b) : writesA Wf ρ op = some b := by
 unfold clsA at h;split at h
 ·cases h
 ·split at h
  ·cases h
  ·split at h
   ·rename_i hb; cases h; exact hb
   ·cases h
theorem mem_of (hK : KnownOk P K) (hrec : RecOk P rec) (ht : Trace P K rec Wf bar ops F G C) {φ₀ : Ren} {w₀ : World} {tmps₀ : Array Value} (hs : Sim φ₀ (G 0) bar base w₀) (hf : FrR φ₀ tmps₀ (F 0)) : Mem bar ops F G C := by
 have hc := canon hK hrec ht hs hf;have one : ∀ i (hi : i < ops.size), ∃ φ w tmps, Sim φ (G i) bar base w ∧ FrR φ tmps (F i) ∧ ((¬ (C i).isW ∧ operA P K rec (G i).next ops ops[i] (F i) (G i) = some (F (i + 1), G (i + 1))) ∨ (∃ s, C i = .W s ∧ s.lim bar ≤ (G i).next ∧ operA P K rec (s.lim bar) ops ops[i] (F i) (G i) = some (F (i + 1), G (i + 1)))) := by
  intro i hi;obtain ⟨φ, w, tmps, h1, h2⟩ := hc i (by omega);exact ⟨φ, w, tmps, h1.sim, h2, drawOne_oper (ht.step i ops[i] (by simp))⟩
 refine ⟨?_, ?_, ?_, ?_, ?_, ?_, ?_⟩
 ·intro i hi;obtain ⟨φ, w, tmps, h1, h2, h3⟩ := one i hi;rcases h3 with ⟨_, h⟩ | ⟨s, _, hsb, h⟩
  ·obtain ⟨_, _, _, k1, _⟩ := oper_exists hK hrec h h1.raise h2; exact k1.nx
  ·obtain ⟨_, _, _, k1, _⟩ := oper_exists hK hrec h (h1.raise' (WS.lim_le s bar) hsb) h2; exact k1.nx
 ·intro i hi;obtain ⟨φ, w, tmps, h1, h2⟩ := hc i hi;exact h1.sim.small
 ·intro i hi hnw b hb;obtain ⟨φ, w, tmps, h1, h2, h3⟩ := one i hi;rcases h3 with ⟨_, h⟩ | ⟨s, hw, _⟩
  ·obtain ⟨_, _, _, k1, _⟩ := oper_exists hK hrec h h1.raise h2; exact k1.keep b hb hb
  ·rw [hw] at hnw; exact absurd trivial hnw
 ·intro i s hi hcw b' hfree hb';obtain ⟨φ, w, tmps, h1, h2, h3⟩ := one i hi;rcases h3 with ⟨hnw, _⟩ | ⟨s', hw', hsb, h⟩
  ·rw [hcw] at hnw; exact absurd trivial hnw
  ·rw [hcw] at hw'; cases hw';rcases drawOne_cls (ht.step i ops[i] (by simp)) with ⟨hwt, hcl⟩ | ⟨_, hcl⟩
   ·rw [hcw] at hcl;have hwr := cls_W hcl.symm
    let a : Act := { tmps := tmps, defers := [] }
    cases s with
    | any => cases hfree
    | one b =>
     rcases operA_parts h with ⟨hwf, _⟩ | ⟨_, r, v, hop, _, hr⟩
     ·rw [hwt] at hwf; cases hwf
     ·obtain ⟨v', H', e1, _, e3⟩ := writes_one h1 (aev_rel (a := a) h2) hwr hop;have hne : b' ≠ b := by simpa [WS.free] using hfree
      rcases hr with rfl | ⟨g, args, H₁, rfl, _⟩
      ·injection e1 with _ e1; rw [← e1] at e3; exact e3 b' hne hb'
      ·cases e1
    | ge b =>
     obtain ⟨_, _, _, k1, _⟩ := oper_exists hK hrec h (h1.raise' (WS.lim_le _ bar) hsb) h2;have hlt : b' < b := by simpa [WS.free] using hfree
     exact k1.keep b' (by simp only [WS.lim]; omega) hb'
   ·rw [hcw] at hcl; cases hcl
 ·intro i hi;obtain ⟨φ, w, tmps, h1, h2⟩ := hc i hi;exact ⟨h1.nx, h1.keep⟩
 ·intro i hi t v hv;obtain ⟨φ, w, tmps, h1, h2⟩ := hc i hi;obtain ⟨u, _, hu⟩ := h2.get t v hv;exact ⟨φ, u, h1.sim.lt, hu⟩
 ·intro i hi;induction i with
  | zero => exact ⟨rfl, hf.small⟩
  | succ i ih =>
   have hi' := ih (by omega);obtain ⟨φ, w, tmps, h1, h2, h3⟩ := one i (by omega);have : (F (i + 1)).n = (F i).n := by
    have key : ∀ {bb : Nat}, operA P K rec bb ops ops[i] (F i) (G i) = some (F (i + 1), G (i + 1)) → (F (i + 1)).n = (F i).n := by
     intro bb h;rcases operA_parts h with ⟨_, hp, _⟩ | ⟨_, r, v, _, hp, _⟩
     ·exact (Fr.put_get hp hi'.2).1
     ·exact (Fr.put_get hp hi'.2).1
    rcases h3 with ⟨_, h⟩ | ⟨_, _, _, h⟩ <;> exact key h
   exact ⟨this.trans hi'.1, by rw [this]; exact hi'.2⟩
theorem Mem.le (hm : Mem bar ops F G C) : ∀ {i j : Nat}, i ≤ j → j ≤ ops.size → (G i).next ≤ (G j).next := by
 intro i j hij hj;induction j with
 | zero => have : i = 0 := by omega
           subst this; exact Nat.le_refl _
 | succ j ih =>
  by_cases h : i = j + 1
  ·subst h; exact Nat.le_refl _
  ·exact Nat.le_trans (ih (by omega) (by omega)) (hm.mono j (by omega))
theorem Mem.same (hm : Mem bar ops F G C) {b : Nat} : ∀ {i j : Nat}, i ≤ j → j ≤ ops.size → b < (G i).next → (∀ k, i ≤ k → k < j → (C k).isW → b < (G k).next → (G (k + 1)).get b = (G k).get b) → (G j).get b = (G i).get b := by
 intro i j hij hj hb hk;induction j with
 | zero => have : i = 0 := by omega
           subst this; rfl
 | succ j ih =>
  by_cases h : i = j + 1
  ·subst h; rfl
  ·have hbj : b < (G j).next := Nat.lt_of_lt_of_le hb (hm.le (by omega) (by omega));rw [← ih (by omega) (by omega) (fun k h1 h2 => hk k h1 (by omega))];by_cases hw : (C j).isW
   ·exact hk j (by omega) (by omega) hw hbj
   ·exact hm.keep j (by omega) hw b hbj
end
end Go.Abu
namespace Go.Abu
variable {P : Program} {D : List Deferred} {ol : Option Nat}
def Lst (listed : Array Bool) (i : Nat) : Prop := listed.getD i false = true
def dstOf (ops : Array Oper) (j : Nat) : Option Tmp := (ops[j]?).bind (·.dst)
structure Inv (D : List Deferred) (bar base : Nat) (ops : Array Oper) (F : Nat → Fr) (G : Nat → AH) (C : Nat → Cls) (φ₀ : Ren) (w₀ : World) (listed : Array Bool) (a : Act) (w : World) (m : Nat) (φ : Ren) : Prop where
 hm : m ≤ ops.size
 mw : m = ops.size ∨ (C m).isW
 ws : ∀ j, j < ops.size → (C j).isW → (Lst listed j ↔ j < m)
 down : Down ops (Lst listed)
 size : listed.size = ops.size
 sim : Sim φ (G m) bar base w
 ext : φ₀.le φ
 below : RowKit.Below base w₀ w
 dom : ∀ b r, φ b = some r → φ₀ b = some r ∨ ∃ i, i < ops.size ∧ Lst listed i ∧ (G i).next ≤ b ∧ b < (G (i + 1)).next
 bd : ∀ b r o, φ b = some r → (G m).get b = some o → ∀ k, k ≤ m → (∀ j, k ≤ j → j < m → ¬ (C j).isW) → b < (G k).next → ObjR base (res φ (G k).next) r w o
 fr : ∀ t, ∃ q, q ≤ ops.size ∧ (∀ j, j < ops.size → Lst listed j → dstOf ops j = some t → j < q) ∧ (q = 0 ∨ ∃ j, q = j + 1 ∧ j < ops.size ∧ Lst listed j ∧ dstOf ops j = some t) ∧ ∀ v, (F q).get t = some v → ∃ u, a.tmps[t]? = some u ∧ VR φ u v
 tsize : a.tmps.size = (F 0).n
 defers : a.defers = D
theorem lst_set {listed : Array Bool} {i : Nat} (hi : i < listed.size) (j : Nat) : Lst (listed.setIfInBounds i true) j ↔ j = i ∨ Lst listed j := by
 unfold Lst;rw [Array.getD_eq_getD_getElem?, Array.getD_eq_getD_getElem?, Array.getElem?_setIfInBounds];by_cases h : i = j
 ·subst h; simp [hi]
 ·rw [if_neg h];exact ⟨fun e => .inr e, fun e => e.resolve_left (fun e => h e.symm)⟩
section
variable {K : Known} {rec : Rec} {Wf : FuncId → Option Nat} {bar base : Nat} {ops : Array Oper} {F : Nat → Fr} {G : Nat → AH} {C : Nat → Cls}
structure Tests (ops : Array Oper) (G : Nat → AH) (C : Nat → Cls) : Prop where
 tmps : ∀ i j o, ops[i]? = some o → i ≠ j → ∀ t, t ∈ namesOf ops o → dstOf ops j = some t → bfr (Region.before ops) (min i j) (max i j) = true
 cls : ∀ i j b, i < ops.size → j < ops.size → C j = .W b → i ≠ j → bfr (Region.before ops) (min i j) (max i j) = true ∨ freeAt (C i) b (G j) (G (j + 1)) = true
structure Ready (ops : Array Oper) (listed : Array Bool) (i : Nat) : Prop where
 lt : i < ops.size
 new : ¬ Lst listed i
 deps : ∀ o, ops[i]? = some o → ∀ e ∈ o.after, Region.binds .any e = true → Lst listed e.on
theorem down_next {listed : Array Bool} {i : Nat} (hd : Down ops (Lst listed)) (hr : Ready ops listed i) (hsz : listed.size = ops.size) : Down ops (Lst (listed.setIfInBounds i true)) := by
 have hi : i < listed.size := by have := hr.lt; omega
 intro j o hj ho e he hb;rw [lst_set hi] at hj ⊢;rcases hj with rfl | hj
 ·exact .inr (hr.deps o ho e he hb)
 ·exact .inr (hd j o hj ho e he hb)
theorem ordered {listed : Array Bool} {i j : Nat} (hd : Down ops (Lst listed)) (hr : Ready ops listed i) (hsz : listed.size = ops.size) (_hne : i ≠ j) (hb : bfr (Region.before ops) (min i j) (max i j) = true) :
  (j < i → Lst listed j) ∧ (i < j → ¬ Lst listed j) := by
 have hi : i < listed.size := by have := hr.lt; omega
 refine ⟨fun h => ?_, fun h hj => ?_⟩
 ·rw [Nat.min_eq_right (by omega), Nat.max_eq_left (by omega)] at hb;have := down_before (down_next hd hr hsz) i j ((lst_set hi i).2 (.inl rfl)) hb;rw [lst_set hi] at this;exact this.resolve_left (by omega)
 ·rw [Nat.min_eq_left (by omega), Nat.max_eq_right (by omega)] at hb;exact hr.new (down_before hd j i hj hb)
theorem frame_same (ht : Trace P K rec Wf bar ops F G C) (hm : Mem bar ops F G C) {t : Tmp} : ∀ {q i : Nat}, q ≤ i → i ≤ ops.size → (∀ j, q ≤ j → j < i → dstOf ops j ≠ some t) → (F i).get t = (F q).get t := by
 intro q i hq hi hw;induction i with
 | zero => have : q = 0 := by omega
           subst this; rfl
 | succ i ih =>
  by_cases h : q = i + 1
  ·subst h; rfl
  ·rw [← ih (by omega) (by omega) (fun j h1 h2 => hw j h1 (by omega))];have ho : ops[i]? = some ops[i] := by simp
   have hd : ops[i].dst ≠ some t := by
    have := hw i (by omega) (by omega);unfold dstOf at this;rw [ho] at this;exact this
   have key : ∀ {bb : Nat}, operA P K rec bb ops ops[i] (F i) (G i) = some (F (i + 1), G (i + 1)) → (F (i + 1)).get t = (F i).get t := by
    intro bb h;rcases operA_parts h with ⟨_, hp, _⟩ | ⟨_, r, v, _, hp, _⟩
    ·rw [(Fr.put_get hp (hm.n i (by omega)).2).2 t, if_neg hd]
    ·rw [(Fr.put_get hp (hm.n i (by omega)).2).2 t, if_neg hd]
   rcases drawOne_oper (ht.step i _ ho) with ⟨_, h⟩ | ⟨_, _, _, h⟩ <;> exact key h
variable {φ₀ : Ren} {w₀ : World} {listed : Array Bool} {a : Act} {w : World} {m : Nat} {φ : Ren} {i : Nat}
theorem names_rel (ht : Trace P K rec Wf bar ops F G C) (hm : Mem bar ops F G C) (hT : Tests ops G C) (hI : Inv D bar base ops F G C φ₀ w₀ listed a w m φ) (hr : Ready ops listed i) {o : Oper} (ho : ops[i]? = some o) {t : Tmp} (hn : t ∈ namesOf ops o) {v : Value}
  (hv : (F i).get t = some v) : ∃ u, a.tmps[t]? = some u ∧ VR φ u v := by
 obtain ⟨q, h1, h2, h3, h4⟩ := hI.fr t;have ord : ∀ j, j < ops.size → i ≠ j → dstOf ops j = some t → (j < i → Lst listed j) ∧ (i < j → ¬ Lst listed j) := fun j hj hne hd =>
  ordered hI.down hr hI.size hne (hT.tmps i j o ho hne t hn hd)
 have hqi : q ≤ i := by
  rcases h3 with rfl | ⟨j, rfl, hj, hl, hd⟩
  ·omega
  ·by_cases hij : i = j
   ·subst hij; exact absurd hl hr.new
   ·by_cases hlt : i < j
    ·exact absurd hl ((ord j hj hij hd).2 hlt)
    ·omega
 rw [frame_same ht hm hqi (by have := hr.lt; omega) (fun j hj1 hj2 hd => by
  have hl := (ord j (by have := hr.lt; omega) (by omega) hd).1 hj2;have := h2 j (by have := hr.lt; omega) hl hd;omega)] at hv
 exact h4 v hv
theorem looks_names {o : Oper} {t : Tmp} (h : t ∈ Oper.looksAt ops o) : t ∈ namesOf ops o := by
 unfold namesOf;exact List.mem_append_right _ h
def ρOf (ops : Array Oper) (o : Oper) (f : Fr) : Env := fun x => match x with
 | .tmp t => if t ∈ Oper.looksAt ops o then f.get t else none
 | x => aev f x
theorem ρOf_rel {o : Oper} {f : Fr} (hn : ∀ t v, t ∈ Oper.looksAt ops o → f.get t = some v → ∃ u, a.tmps[t]? = some u ∧ VR φ u v) : EnvR φ a.eval (ρOf ops o f) := by
 intro x v hv;cases x with
 | tmp t =>
  simp only [ρOf] at hv;split at hv
  ·rename_i ht;obtain ⟨u, h1, h2⟩ := hn t v ht hv;simp only [Act.eval];rw [Array.getD_eq_getD_getElem?, h1];exact h2
  ·cases hv
 | const c =>
  simp only [ρOf, aev] at hv;split at hv
  ·rename_i hp;cases hv;exact plain_refl φ _ hp
  ·cases hv
 | global g => cases hv
 | func g => cases hv; exact .func .nil .nil
theorem ρOf_op {H : AH} {o : Oper} {f : Fr} {bb : Nat} : aop P bb (ρOf ops o f) H o.op = aop P bb (aev f) H o.op := by
 refine aop_congr _ fun x hx => ?_;cases x with
 | tmp t =>
  simp only [ρOf];rw [if_pos]
  ·rfl
  ·unfold Oper.looksAt;exact List.mem_append_left _ (List.mem_filterMap.2 ⟨.tmp t, by simpa using hx, rfl⟩)
 | _ => rfl
theorem wanted_rel' {o : Oper} {f : Fr} {b : Bool} (hn : ∀ t v, t ∈ Oper.looksAt ops o → f.get t = some v → ∃ u, a.tmps[t]? = some u ∧ VR φ u v) (hw : wantedA ops f o = some b) : Region.wanted o (yielded ops a.tmps) = b := by
 unfold wantedA at hw;unfold Region.wanted;cases hg : o.guard with
 | none => rw [hg] at hw; cases hw; rfl
 | some gw =>
  obtain ⟨j, want⟩ := gw;rw [hg] at hw;simp only at hw ⊢;cases ht : (ops[j]?).bind (·.dst) with
  | none => rw [ht] at hw; cases hw
  | some t =>
   have hin : t ∈ Oper.looksAt ops o := by
    unfold Oper.looksAt;rw [hg];exact List.mem_append_right _ (by simp [ht])
   rw [ht] at hw;simp only at hw;unfold yielded;rw [ht];simp only [Option.bind_some];split at hw
   ·rename_i c hc;cases hw;obtain ⟨v, h1, h2⟩ := hn t _ hin hc;cases h2;rw [h1];cases c <;> cases want <;> rfl
   ·rename_i c hc;cases hw;obtain ⟨v, h1, h2⟩ := hn t _ hin hc;cases h2;rw [h1];rfl
   ·cases hw
theorem fr_next (_ht : Trace P K rec Wf bar ops F G C) (hm : Mem bar ops F G C) (hT : Tests ops G C) (hI : Inv D bar base ops F G C φ₀ w₀ listed a w m φ) (hr : Ready ops listed i) {o : Oper} (ho : ops[i]? = some o) {φ' : Ren} (hle : φ.le φ') {u v : Value} (hv : VR φ' u v)
  (hp : (F i).put o.dst v = some (F (i + 1))) : ∀ t, ∃ q, q ≤ ops.size ∧ (∀ j, j < ops.size → Lst (listed.setIfInBounds i true) j → dstOf ops j = some t → j < q) ∧
   (q = 0 ∨ ∃ j, q = j + 1 ∧ j < ops.size ∧ Lst (listed.setIfInBounds i true) j ∧ dstOf ops j = some t) ∧ ∀ x, (F q).get t = some x → ∃ y, (a.put o.dst u).tmps[t]? = some y ∧ VR φ' y x := by
 have hi : i < listed.size := by have := hr.lt; have := hI.size; omega
 have hlt := hr.lt;have hdst : dstOf ops i = o.dst := by unfold dstOf; rw [ho]; rfl
 have hget := (Fr.put_get hp (hm.n i (by omega)).2).2;intro t;by_cases hd : o.dst = some t
 ·refine ⟨i + 1, by omega, fun j hj hl hdj => ?_, .inr ⟨i, rfl, hlt, (lst_set hi i).2 (.inl rfl), by rw [hdst]; exact hd⟩, fun x hx => ?_⟩
  ·rw [lst_set hi] at hl;rcases hl with rfl | hl
   ·omega
   ·by_cases hij : i = j
    ·omega
    ·have hb := hT.tmps i j o ho hij t (by unfold namesOf; simp [hd]) hdj;have := (ordered hI.down hr hI.size hij hb).2;by_cases hq : i < j
     ·exact absurd hl (this hq)
     ·omega
  ·rw [hget t, if_pos hd] at hx;cases hx;refine ⟨u, ?_, hv⟩;rw [hd] at hp;have hbnd : @LT.lt Nat _ t (F i).n := put_bound hp;have hn := (hm.n i (by omega)).1;have hts := hI.tsize;simp only [hd, Act.put];rw [Array.getElem?_setIfInBounds_self_of_lt (by omega)]
 ·obtain ⟨q, h1, h2, h3, h4⟩ := hI.fr t;refine ⟨q, h1, fun j hj hl hdj => ?_, ?_, fun x hx => ?_⟩
  ·rw [lst_set hi] at hl;rcases hl with rfl | hl
   ·rw [hdst] at hdj; exact absurd hdj hd
   ·exact h2 j hj hl hdj
  ·rcases h3 with h3 | ⟨j, e1, e2, e3, e4⟩
   ·exact .inl h3
   ·exact .inr ⟨j, e1, e2, (lst_set hi j).2 (.inr e3), e4⟩
  ·obtain ⟨y, k1, k2⟩ := h4 x hx;refine ⟨y, ?_, k2.mono hle⟩;cases hdd : o.dst with
   | none => simpa [Act.put] using k1
   | some d =>
    simp only [Act.put];rw [Array.getElem?_setIfInBounds_ne (fun e => hd (by rw [hdd, e]))];exact k1
theorem put_tsize (a : Act) (dst : Option Tmp) (v : Value) : (a.put dst v).tmps.size = a.tmps.size := by
 cases dst <;> simp [Act.put]
theorem next_same (ht : Trace P K rec Wf bar ops F G C) (hm : Mem bar ops F G C) (hT : Tests ops G C) (hI : Inv D bar base ops F G C φ₀ w₀ listed a w m φ) (hr : Ready ops listed i) {o : Oper} (ho : ops[i]? = some o) (hc : ¬ (C i).isW) {u v : Value} (hv : VR φ u v)
  (hp : (F i).put o.dst v = some (F (i + 1))) : Inv D bar base ops F G C φ₀ w₀ (listed.setIfInBounds i true) (a.put o.dst u) w m φ := by
 have hi : i < listed.size := by have := hr.lt; have := hI.size; omega
 refine ⟨hI.hm, hI.mw, fun j hj hw => ?_, down_next hI.down hr hI.size, by simp [hI.size], hI.sim, hI.ext, hI.below, fun b r h => ?_, hI.bd, fr_next ht hm hT hI hr ho (Ren.le_refl _) hv hp, by rw [put_tsize]; exact hI.tsize, by rw [put_defers']; exact hI.defers⟩
 ·rw [lst_set hi, ← hI.ws j hj hw];refine ⟨fun e => e.resolve_left (fun e => ?_), .inr⟩;subst e; exact hc hw
 ·rcases hI.dom b r h with h | ⟨k, e1, e2, e3⟩
  ·exact .inl h
  ·exact .inr ⟨k, e1, (lst_set hi k).2 (.inr e2), e3⟩
end
end Go.Abu
namespace Go.Abu
variable {P : Program} {D : List Deferred} {ol : Option Nat}
theorem next_W {ops : Array Oper} {C : Nat → Cls} : ∀ (d m : Nat), m + d = ops.size → ∃ m', m ≤ m' ∧ m' ≤ ops.size ∧ (m' = ops.size ∨ (C m').isW) ∧ ∀ j, m ≤ j → j < m' → ¬ (C j).isW
 | 0, m, h => ⟨m, Nat.le_refl _, by omega, .inl (by omega), fun j h1 h2 => by omega⟩
 | d + 1, m, h => by
  by_cases hw : (C m).isW
  ·exact ⟨m, Nat.le_refl _, by omega, .inr hw, fun j h1 h2 => by omega⟩
  ·obtain ⟨m', h1, h2, h3, h4⟩ := next_W (ops := ops) (C := C) d (m + 1) (by omega);refine ⟨m', by omega, h2, h3, fun j h5 h6 => ?_⟩;by_cases hj : j = m
   ·subst hj; exact hw
   ·exact h4 j (by omega) h6
section
variable {K : Known} {rec : Rec} {Wf : FuncId → Option Nat} {bar base : Nat} {ops : Array Oper} {F : Nat → Fr} {G : Nat → AH} {C : Nat → Cls}
variable {φ₀ : Ren} {w₀ : World} {listed : Array Bool} {a : Act} {w : World} {m : Nat} {φ : Ren} {i : Nat}
def InvE (D : List Deferred) (bar base : Nat) (ops : Array Oper) (F : Nat → Fr) (G : Nat → AH) (C : Nat → Cls) (φ₀ : Ren) (w₀ : World) (listed : Array Bool) (a : Act) (w : World) : Prop :=
 ∃ m φ, Inv D bar base ops F G C φ₀ w₀ listed a w m φ
theorem next_Q (hK : KnownOk P K) (hrec : RecOk P rec) (ht : Trace P K rec Wf bar ops F G C) (hm : Mem bar ops F G C) (hT : Tests ops G C) (h0 : ∀ b r, φ₀ b = some r → b < (G 0).next) (hb0 : bar ≤ (G 0).next) (hI : Inv D bar base ops F G C φ₀ w₀ listed a w m φ) (hr : Ready ops listed i)
  {o : Oper} (ho : ops[i]? = some o) (hc : C i = .Q) {r : ARes} {v : Value} (hop : aop P (G i).next (aev (F i)) (G i) o.op = some r) (hp : (F i).put o.dst v = some (F (i + 1)))
  (hres : r = .val v (G (i + 1)) ∨ ∃ g args H₁, r = .call g args H₁ ∧ callA P K rec (G i).next g args H₁ = some (v, G (i + 1))) {Q : Exit → Act → World → Prop} :
  o.wpIn (Wd ol) 0 P a w (InvE D bar base ops F G C φ₀ w₀ (listed.setIfInBounds i true)) Q := by
 have hi : i < listed.size := by have := hr.lt; have := hI.size; omega
 have hlt := hr.lt;have hnw : ¬ (C i).isW := by rw [hc]; exact fun h => h
 have hbar : bar ≤ (G i).next := Nat.le_trans hb0 (hm.bar i (by omega)).1;have ordW : ∀ j, j < ops.size → (C j).isW → (j < i → Lst listed j) ∧ (i < j → ¬ Lst listed j) := by
  intro j hj hw;have hne : i ≠ j := fun e => hnw (e ▸ hw);obtain ⟨b, hb⟩ : ∃ b, C j = .W b := by
   cases hcj : C j with
   | W b => exact ⟨b, rfl⟩
   | _ => rw [hcj] at hw; exact hw.elim
  rcases hT.cls i j b hlt hj hb hne with h | h
  ·exact ordered hI.down hr hI.size hne h
  ·rw [hc] at h; exact absurd h (by simp [freeAt, clsFree])
 have him : i < m := by
  rcases hI.mw with h | h
  ·omega
  ·by_cases hmi : m < i
   ·have hml : m < ops.size := by omega
    have := (ordW m hml h).1 hmi;rw [hI.ws m hml h] at this;omega
   ·by_cases e : m = i
    ·subst e; exact absurd h hnw
    ·omega
 have hnoW : ∀ j, i ≤ j → j < m → ¬ (C j).isW := by
  intro j h1 h2 hw;have hjl : j < ops.size := by have := hI.hm; omega
  have hin := (hI.ws j hjl hw).2 h2;by_cases e : j = i
  ·subst e; exact hnw hw
  ·exact (ordW j hjl hw).2 (by omega) hin
 have hsame : ∀ {k : Nat}, i ≤ k → k ≤ m → ∀ b, b < (G k).next → (G m).get b = (G k).get b := by
  intro k h1 h2 b hb;exact hm.same h2 hI.hm hb (fun j j1 j2 hw _ => absurd hw (hnoW j (by omega) j2))
 have hsimr : Sim (res φ (G i).next) (G i) (G i).next w.heap.size w := by
  refine ⟨Nat.le_refl _, hm.small i (by omega), fun b r h => (res_some.1 h).1, fun b r o' h hg => ?_, fun b _ r _ h _ _ _ hb => absurd (res_some.1 h).1 (by omega), fun b r h hb => absurd (res_some.1 h).1 (by omega), Nat.le_refl _, fun b r h => hI.sim.cur b r (res_some.1 h).2⟩;obtain ⟨h1, h2⟩ := res_some.1 h;rw [← hsame (Nat.le_refl i) (by omega) b h1] at hg;exact (hI.bd b r o' h2 hg i (by omega) hnoW h1).raise hI.sim.hb
 have hρ : EnvR (res φ (G i).next) a.eval (ρOf ops o (F i)) := by
  refine ρOf_rel fun t v hin hv => ?_;obtain ⟨u, h1, h2⟩ := names_rel ht hm hT hI hr ho (looks_names hin) hv;obtain ⟨ψ, u', h3, h4⟩ := hm.frame i (by omega) t v hv;exact ⟨u, h1, VR.both h3 h2 h4⟩
 refine op_run hK hrec hsimr hρ (by rw [ρOf_op]; exact hop) hres ?_;intro u w' φ' st hv;have hfresh : ∀ b, (G i).next ≤ b → b < (G (i + 1)).next → φ b = none := by
  intro b h1 h2;cases hb : φ b with
  | none => rfl
  | some r =>
   exfalso;rcases hI.dom b r hb with h | ⟨k, e1, e2, e3, e4⟩
   ·have := h0 b r h;have := hm.le (Nat.zero_le i) (by omega);omega
   ·by_cases hk : k = i
    ·subst hk; exact hr.new e2
    ·by_cases hk2 : k < i
     ·have := hm.le (i := k + 1) (j := i) (by omega) (by omega);omega
     ·have := hm.le (i := i + 1) (j := k) (by omega) (by omega);omega
 have hnm : (G (i + 1)).next ≤ (G m).next := hm.le (by omega) hI.hm;obtain ⟨u1, u2, u3⟩ := union_sim hI.sim st hfresh hbar (fun b hb => hsame (by omega) (by omega) b hb) hnm;refine ⟨m, uni φ φ', hI.hm, hI.mw, fun j hj hw => ?_, down_next hI.down hr hI.size, by simp [hI.size], u2, Ren.le_trans hI.ext (uni_le _ _), hI.below.trans (st.below.mono hI.sim.hb), fun b r h => ?_, ?_, fr_next ht hm hT hI hr ho (uni_le _ _) (hv.mono u1) hp, by rw [put_tsize]; exact hI.tsize, by rw [put_defers']; exact hI.defers⟩
 ·rw [lst_set hi, ← hI.ws j hj hw];refine ⟨fun e => e.resolve_left (fun e => ?_), .inr⟩;subst e; exact hnw hw
 ·rcases u3 b r h with h | ⟨h1, h2, _⟩
  ·rcases hI.dom b r h with h | ⟨k, e1, e2, e3⟩
   ·exact .inl h
   ·exact .inr ⟨k, e1, (lst_set hi k).2 (.inr e2), e3⟩
  ·exact .inr ⟨i, hlt, (lst_set hi i).2 (.inl rfl), h1, h2⟩
 ·intro b r o' h hg k hk hkw hbk;rcases u3 b r h with h | ⟨h1, h2, h3⟩
  ·exact (hI.bd b r o' h hg k hk hkw hbk).frame (res_mono (uni_le _ _) _) (st.below.block _ (hI.sim.cur b r h))
  ·have hik : i + 1 ≤ k := by
    by_cases hq : i + 1 ≤ k
    ·exact hq
    ·have := hm.le (i := k) (j := i) (by omega) (by omega);omega
   rw [hsame (k := i + 1) (by omega) (by omega) b h2] at hg;refine ((st.sim.obj b r o' h3 hg).frame (le_res u1 fun b' r' h' => ?_) rfl).lower (st.sim.own b r h3 h1);have := st.sim.lt b' r' h';have := hm.le (i := i + 1) (j := k) hik (by have := hI.hm; omega);omega
theorem next_Wr (hK : KnownOk P K) (hrec : RecOk P rec) (ht : Trace P K rec Wf bar ops F G C) (hm : Mem bar ops F G C) (hT : Tests ops G C) (hI : Inv D bar base ops F G C φ₀ w₀ listed a w m φ) (hr : Ready ops listed i)
  {o : Oper} (ho : ops[i]? = some o) (hc : (C i).isW) {bar' : Nat} (hb1 : bar ≤ bar') (hb2 : bar' ≤ (G i).next) {r : ARes} {v : Value} (hop : aop P bar' (aev (F i)) (G i) o.op = some r) (hp : (F i).put o.dst v = some (F (i + 1)))
  (hres : r = .val v (G (i + 1)) ∨ ∃ g args H₁, r = .call g args H₁ ∧ callA P K rec bar' g args H₁ = some (v, G (i + 1))) {Q : Exit → Act → World → Prop} :
  o.wpIn (Wd ol) 0 P a w (InvE D bar base ops F G C φ₀ w₀ (listed.setIfInBounds i true)) Q := by
 have hi : i < listed.size := by have := hr.lt; have := hI.size; omega
 have hlt := hr.lt;have him : i = m := by
  have h1 : ¬ i < m := fun h => hr.new ((hI.ws i hlt hc).2 h);rcases hI.mw with h | h
  ·omega
  ·by_cases hne : i = m
   ·exact hne
   ·exfalso;have hml : m < ops.size := by omega
    obtain ⟨b, hb⟩ : ∃ b, C i = .W b := by
     cases hcj : C i with
     | W b => exact ⟨b, rfl⟩
     | _ => rw [hcj] at hc; exact hc.elim
    have hord : bfr (Region.before ops) (min i m) (max i m) = true := by
     rcases hT.cls m i b hml hlt hb (fun e => hne e.symm) with h' | h'
     ·rw [Nat.min_comm, Nat.max_comm]; exact h'
     ·cases hcm : C m with
      | W b' => rw [hcm] at h'; simp [freeAt, clsFree] at h'
      | _ => rw [hcm] at h; exact h.elim
    have := (ordered hI.down hr hI.size hne hord).1 (by omega);rw [hI.ws m hml h] at this;omega
 subst him;have hρ : EnvR φ a.eval (ρOf ops o (F i)) := ρOf_rel fun t v hin hv => names_rel ht hm hT hI hr ho (looks_names hin) hv;refine op_run hK hrec (hI.sim.raise' hb1 hb2) hρ (by rw [ρOf_op]; exact hop) hres ?_;intro u w' φ' st hv;have st := Step.lower' hI.sim hb1 hb2 st;obtain ⟨m', n1, n2, n3, n4⟩ := next_W (ops := ops) (C := C) (ops.size - (i + 1)) (i + 1) (by omega);have hsame : ∀ {k : Nat}, i + 1 ≤ k → k ≤ m' → ∀ b, b < (G k).next → (G m').get b = (G k).get b := by
  intro k h1 h2 b hb;exact hm.same h2 n2 hb (fun j j1 j2 hw _ => absurd hw (n4 j (by omega) j2))
 have hsim' : Sim φ' (G m') bar base w' := st.sim.extend (fun b hb => hsame (Nat.le_refl _) n1 b hb) (hm.le n1 n2) (hm.small m' n2);refine ⟨m', φ', n2, n3, fun j hj hw => ?_, down_next hI.down hr hI.size, by simp [hI.size], hsim', Ren.le_trans hI.ext st.ext, hI.below.trans st.below, fun b r h => ?_, ?_, fr_next ht hm hT hI hr ho st.ext hv hp, by rw [put_tsize]; exact hI.tsize, by rw [put_defers']; exact hI.defers⟩
 ·rw [lst_set hi, hI.ws j hj hw];constructor
  ·rintro (rfl | h) <;> omega
  ·intro h;by_cases hj2 : j = i
   ·exact .inl hj2
   ·by_cases hj3 : j < i
    ·exact .inr hj3
    ·exact absurd hw (n4 j (by omega) h)
 ·by_cases hb : b < (G i).next
  ·have h' := (st.new b r h).resolve_right (by omega);rcases hI.dom b r h' with h | ⟨k, e1, e2, e3⟩
   ·exact .inl h
   ·exact .inr ⟨k, e1, (lst_set hi k).2 (.inr e2), e3⟩
  ·exact .inr ⟨i, hlt, (lst_set hi i).2 (.inl rfl), by omega, st.sim.lt b r h⟩
 ·intro b r o' h hg k hk hkw hbk;have hik : i + 1 ≤ k := by
   by_cases hq : i + 1 ≤ k
   ·exact hq
   ·exact absurd hc (hkw i (by omega) (by omega))
  rw [hsame (Nat.le_refl _) n1 b (st.sim.lt b r h)] at hg;refine (st.sim.obj b r o' h hg).frame (le_res (Ren.le_refl _) fun b' r' h' => ?_) rfl;have := st.sim.lt b' r' h';have := hm.le (i := i + 1) (j := k) hik (by omega);omega
end
end Go.Abu
namespace Go.Abu
variable {P : Program} {D : List Deferred} {ol : Option Nat}
section
variable {K : Known} {rec : Rec} {Wf : FuncId → Option Nat} {bar base : Nat} {ops : Array Oper} {F : Nat → Fr} {G : Nat → AH} {C : Nat → Cls}
variable {φ₀ : Ren} {w₀ : World} {listed : Array Bool} {a : Act} {w : World} {i : Nat}
theorem cls_R {Wf : FuncId → Option Nat} {ρ : Env} {op : Op} (h : clsA Wf ρ op = .R) : regOp op = true := by
 unfold clsA at h;split at h
 ·assumption
 ·split at h
  ·cases h
  ·split at h <;> cases h
theorem cls_L {Wf : FuncId → Option Nat} {ρ : Env} {op : Op} {b : Option Nat} (h : clsA Wf ρ op = .L b) : loadsA ρ op = some b := by
 unfold clsA at h;split at h
 ·cases h
 ·split at h
  ·rename_i x hx; cases h; exact hx
  ·split at h <;> cases h
theorem ρOf_looks {o : Oper} {f : Fr} {x : Operand} (h : x ∈ o.op.operands) : ρOf ops o f x = aev f x := by
 cases x with
 | tmp t' =>
  simp only [ρOf];rw [if_pos]
  ·rfl
  ·unfold Oper.looksAt;exact List.mem_append_left _ (List.mem_filterMap.2 ⟨.tmp t', by simpa using h, rfl⟩)
 | _ => rfl
theorem loads_congr {o : Oper} {f : Fr} : loadsA (ρOf ops o f) o.op = loadsA (aev f) o.op := by
 cases hop : o.op <;> simp only [loadsA]
 case load t x => rw [ρOf_looks (by simp [hop, Op.operands])]
 case slice t x lo hi mx => rw [ρOf_looks (by simp [hop, Op.operands])]
 case lookup t x i ok => rw [ρOf_looks (by simp [hop, Op.operands])]
 case call c =>
  have e : (c.args[0]?).bind (ρOf ops o f) = (c.args[0]?).bind (aev f) := by
   cases hx : c.args[0]? with
   | none => rfl
   | some x =>
    exact ρOf_looks (by
     have := Array.mem_of_getElem? hx;simp [hop, Op.operands, Call.operands]
     right; simpa using this)
  rw [e]
def Names (b : Nat) : Value → Prop
 | .pointer (some p) => p.block = b
 | .slice (some p) _ _ => p.block = b
 | .map (some r) => r = b
 | _ => False
theorem loads_names {ρ : Env} {op : Op} {b : Nat} (h : loadsA ρ op = some (some b)) : ∃ x ∈ op.operands, ∃ v, ρ x = some v ∧ Names b v := by
 cases op <;> simp only [loadsA] at h
 case load t x =>
  split at h
  ·rename_i p hx; cases h; exact ⟨x, by simp [Op.operands], _, hx, rfl⟩
  ·cases h
 case slice t x lo hi mx =>
  split at h
  ·rename_i p len cap hx;split at h
   ·cases h; exact ⟨x, by simp [Op.operands], _, hx, rfl⟩
   ·cases h
  all_goals cases h
 case lookup t x i ok =>
  split at h
  ·rename_i r hx; cases h; exact ⟨x, by simp [Op.operands], _, hx, rfl⟩
  all_goals cases h
 case call c =>
  split at h
  ·split at h
   ·rename_i r hx;cases h;rw [Option.bind_eq_some_iff] at hx; obtain ⟨x, hx, hv⟩ := hx;refine ⟨x, ?_, _, hv, rfl⟩;have := Array.mem_of_getElem? hx;simp [Op.operands, Call.operands]
    right; simpa using this
   all_goals cases h
  all_goals cases h
 all_goals cases h
theorem names_rb {φ : Ren} {b : Nat} {u v : Value} (h : Names b v) (hv : VR φ u v) : ∃ r, φ b = some r := by
 cases hv <;> first | (cases h; done) | skip
 all_goals (cases h; exact ⟨_, by assumption⟩)
theorem next_any (hK : KnownOk P K) (hrec : RecOk P rec) (ht : Trace P K rec Wf bar ops F G C) (hm : Mem bar ops F G C) (hT : Tests ops G C) (h0 : ∀ b r, φ₀ b = some r → b < (G 0).next) (hb0 : bar ≤ (G 0).next)
  (hI : InvE D bar base ops F G C φ₀ w₀ listed a w) (hr : Ready ops listed i) {Q : Exit → Act → World → Prop} : wpOpIn (Wd ol) 0 P ops Q i (InvE D bar base ops F G C φ₀ w₀ (listed.setIfInBounds i true)) a w := by
 obtain ⟨m, φ, hI⟩ := hI;have hlt := hr.lt;have ho : ops[i]? = some ops[i] := by simp
 have hst := ht.step i ops[i] ho;unfold wpOpIn;rw [ho];simp only;have hn : ∀ t v, t ∈ Oper.looksAt ops ops[i] → (F i).get t = some v → ∃ u, a.tmps[t]? = some u ∧ VR φ u v := fun t v hin hv => names_rel ht hm hT hI hr ho (looks_names hin) hv;rcases drawOne_cls hst with ⟨hw, hc⟩ | ⟨hw, hc⟩
 ·rw [wanted_rel' hn hw, if_pos rfl];cases hcl : C i with
  | R =>
   have hnw : ¬ (C i).isW := by rw [hcl]; exact fun h => h
   have hreg := cls_R (hc.symm.trans hcl);rcases drawOne_oper hst with ⟨_, hop⟩ | ⟨s, hw', _⟩
   ·rcases operA_parts hop with ⟨hwf, _⟩ | ⟨_, r, v, hop, hp, hres⟩
    ·rw [hw] at hwf; cases hwf
    ·obtain ⟨v', e1, e2⟩ := reg_sound (ρOf_rel hn) hreg (by rw [ρOf_op]; exact hop);have hvv : v = v' := by
      rcases hres with rfl | ⟨g, args, H₁, rfl, _⟩
      ·injection e1
      ·cases e1
     subst hvv;obtain ⟨u, k1, k2⟩ := e2 w;refine ⟨fun _ _ => trivial, ?_⟩;rw [semAt_eq hop, k1];exact ⟨m, φ, next_same ht hm hT hI hr ho hnw k2 hp⟩
   ·rw [hw'] at hnw; exact absurd trivial hnw
  | L b =>
   have hnw : ¬ (C i).isW := by rw [hcl]; exact fun h => h
   have hl := cls_L (hc.symm.trans hcl);rcases drawOne_oper hst with ⟨_, hop⟩ | ⟨s, hw', _⟩
   ·rcases operA_parts hop with ⟨hwf, _⟩ | ⟨_, r, v, hop, hp, hres⟩
    ·rw [hw] at hwf; cases hwf
    ·
     have hget : ∀ x, b = some x → (G m).get x = (G i).get x := by
      intro x hbx;subst hbx;have hfree : ∀ k, k < ops.size → (C k).isW → ¬ bfr (Region.before ops) (min i k) (max i k) = true → x < (G k).next → (G (k + 1)).get x = (G k).get x := by
       intro k hk hwk hno hbk;obtain ⟨b', hb'⟩ : ∃ b', C k = .W b' := by
        cases hck : C k with
        | W b' => exact ⟨b', rfl⟩
        | _ => rw [hck] at hwk; exact hwk.elim
       have hne : i ≠ k := fun e => hnw (e ▸ hwk);rcases hT.cls i k b' hlt hk hb' hne with h | h
       ·exact absurd h hno
       ·rw [hcl] at h;unfold freeAt at h;simp only [Bool.or_eq_true] at h;rcases h with h | h
        ·exact hm.one k b' hk hb' x h hbk
        ·exact sameAt_eq h
      have hbi : x < (G i).next ∧ ∃ r, φ x = some r := by
       obtain ⟨y, hy, v', hv', hnm⟩ := loads_names hl;cases y with
       | tmp t' =>
        have hin : t' ∈ Oper.looksAt ops ops[i] := by
         unfold Oper.looksAt;exact List.mem_append_left _ (List.mem_filterMap.2 ⟨.tmp t', by simpa using hy, rfl⟩)
        obtain ⟨ψ, u', h3, h4⟩ := hm.frame i (by omega) t' _ hv';obtain ⟨u, h5, h6⟩ := hn t' _ hin hv';obtain ⟨r1, h7⟩ := names_rb hnm h4;exact ⟨h3 _ _ h7, names_rb hnm h6⟩
       | const c =>
        simp only [aev] at hv';split at hv'
        ·rename_i hpl;cases hv';cases v' with
         | pointer p => cases p <;> first | (cases hnm; done) | (simp [plain, plain1] at hpl; done)
         | slice p _ _ => cases p <;> first | (cases hnm; done) | (simp [plain, plain1] at hpl; done)
         | map p => cases p <;> first | (cases hnm; done) | (simp [plain, plain1] at hpl; done)
         | _ => cases hnm
        ·cases hv'
       | global g => cases hv'
       | func g => cases hv'; cases hnm
      obtain ⟨hbi, rb, hφb⟩ := hbi;have hbm : x < (G m).next := hI.sim.lt x rb hφb;by_cases him : i ≤ m
      ·refine hm.same him hI.hm hbi fun k h1 h2 hwk hbk => hfree k (by have := hI.hm; omega) hwk (fun hord => ?_) hbk;have hk : k < ops.size := by have := hI.hm; omega
       have hne : i ≠ k := fun e => hnw (e ▸ hwk);exact (ordered hI.down hr hI.size hne hord).2 (by omega) ((hI.ws k hk hwk).2 h2)
      ·refine (hm.same (i := m) (j := i) (by omega) (by omega) hbm fun k h1 h2 hwk hbk => hfree k (by omega) hwk (fun hord => ?_) hbk).symm;have hne : i ≠ k := fun e => hnw (e ▸ hwk);have := (ordered hI.down hr hI.size hne hord).1 h2;rw [hI.ws k (by omega) hwk] at this;omega
     obtain ⟨v', e1, u, k1, k2⟩ := load_sound hI.sim (ρOf_rel hn) (by rw [loads_congr]; exact hl) hget (by rw [ρOf_op]; exact hop);have hvv : v = v' := by
      rcases hres with rfl | ⟨g, args, H₁, rfl, _⟩
      ·injection e1
      ·cases e1
     subst hvv;refine ⟨fun _ _ => trivial, ?_⟩;rw [semAt_eq hop, k1];exact ⟨m, φ, next_same ht hm hT hI hr ho hnw k2 hp⟩
   ·rw [hw'] at hnw; exact absurd trivial hnw
  | Q =>
   rcases drawOne_oper hst with ⟨_, hop⟩ | ⟨s, hw', _⟩
   ·rcases operA_parts hop with ⟨hwf, _⟩ | ⟨_, r, v, hop, hp, hres⟩
    ·rw [hw] at hwf; cases hwf
    ·exact next_Q hK hrec ht hm hT h0 hb0 hI hr ho hcl hop hp hres
   ·rw [hcl] at hw'; cases hw'
  | W b =>
   rcases drawOne_oper hst with ⟨hnw, _⟩ | ⟨s, hw', hsb, hop⟩
   ·rw [hcl] at hnw; exact absurd trivial hnw
   ·rcases operA_parts hop with ⟨hwf, _⟩ | ⟨_, r, v, hop, hp, hres⟩
    ·rw [hw] at hwf; cases hwf
    ·exact next_Wr hK hrec ht hm hT hI hr ho (by rw [hcl]; trivial) (WS.lim_le s bar) hsb hop hp hres
 ·rw [wanted_rel' hn hw, if_neg (by simp)];refine ⟨fun _ _ => trivial, ?_⟩;have hnw : ¬ (C i).isW := by rw [hc]; exact fun h => h
  rcases drawOne_oper hst with ⟨_, hop⟩ | ⟨s, hw', _⟩
  ·rcases operA_parts hop with ⟨_, hp, _⟩ | ⟨hwt, _⟩
   ·exact ⟨m, φ, next_same ht hm hT hI hr ho hnw (.tuple .nil) hp⟩
   ·rw [hw] at hwt; cases hwt
  ·rw [hw'] at hnw; exact absurd trivial hnw
theorem trace_keep (ht : Trace P K rec Wf bar ops F G C) : ∀ i, i ≤ ops.size → (F i).ds = (F 0).ds ∧ (F i).rd = (F 0).rd
 | 0, _ => ⟨rfl, rfl⟩
 | i + 1, h => by
  obtain ⟨e1, e2⟩ := trace_keep ht i (by omega);have hst := ht.step i ops[i] (by simp);have fin : ∀ {b : Nat}, operA P K rec b ops ops[i] (F i) (G i) = some (F (i + 1), G (i + 1)) → (F (i + 1)).ds = (F 0).ds ∧ (F (i + 1)).rd = (F 0).rd := by
   intro b hop;rcases operA_parts hop with ⟨_, hp, _⟩ | ⟨_, r, v, _, hp, _⟩
   ·obtain ⟨q1, q2, _⟩ := put_same hp; exact ⟨by rw [q1, e1], by rw [q2, e2]⟩
   ·obtain ⟨q1, q2, _⟩ := put_same hp; exact ⟨by rw [q1, e1], by rw [q2, e2]⟩
  rcases drawOne_oper hst with ⟨_, hop⟩ | ⟨s, _, _, hop⟩
  ·exact fin hop
  ·exact fin hop
theorem ready_of (hr : i ∈ Region.ready .any ops listed) : Ready ops listed i := by
 unfold Region.ready at hr;simp only [List.mem_filter, List.mem_range, Bool.and_eq_true, Bool.not_eq_true'] at hr;obtain ⟨h1, h2, h3⟩ := hr;have ho : ops[i]? = some ops[i] := by simp
 refine ⟨h1, ?_, ?_⟩
 ·unfold Lst;intro h;rw [Array.getD_eq_getD_getElem?] at h h2;cases hh : listed[i]? with
  | none => rw [hh] at h; simp at h
  | some b => rw [hh] at h h2; simp at h h2; rw [h] at h2; cases h2
 ·intro o hoo e he hb;rw [ho] at hoo; cases hoo;rw [ho] at h3;simp only [Option.map_some, Option.getD_some, Array.all_eq_true'] at h3;have := h3 e he;rw [hb] at this;simpa [Lst] using this
theorem ready_nil (hsz : listed.size = ops.size) (he : edgesOk ops = true) (hn : Region.ready .any ops listed = []) : ∀ j, j < ops.size → Lst listed j := by
 intro j;induction j using Nat.strongRecOn with
 | _ j ih =>
  intro hj;by_cases hl : Lst listed j
  ·exact hl
  ·exfalso;have ho : ops[j]? = some ops[j] := by simp
   have : j ∈ Region.ready .any ops listed := by
    unfold Region.ready;simp only [List.mem_filter, List.mem_range, Bool.and_eq_true, Bool.not_eq_true'];refine ⟨hj, ?_, ?_⟩
    ·unfold Lst at hl;rw [Array.getD_eq_getD_getElem?] at hl ⊢;rw [Array.getElem?_eq_getElem (by omega)] at hl ⊢;simpa using hl
    ·rw [ho];simp only [Option.map_some, Option.getD_some, Array.all_eq_true'];intro e hee;unfold edgesOk at he;rw [List.all_eq_true] at he;have h1 := he (ops[j], j) (by rw [List.mem_zipIdx_iff_getElem?]; simp);simp only [Array.all_eq_true'] at h1;have h2 := h1 e hee;cases hb : Region.binds .any e with
     | false => simp
     | true =>
      rw [hb] at h2;have hlt : e.on < j := by simpa using h2
      have := ih e.on hlt (by omega);simpa [Lst] using this
   rw [hn] at this;cases this
theorem any_of_inv (hK : KnownOk P K) (hrec : RecOk P rec) (ht : Trace P K rec Wf bar ops F G C) (hm : Mem bar ops F G C) (hT : Tests ops G C) (he : edgesOk ops = true) (h0 : ∀ b r, φ₀ b = some r → b < (G 0).next) (hb0 : bar ≤ (G 0).next)
  {Q : Exit → Act → World → Prop} (hQ : ∀ listed a w, (∀ j, j < ops.size → Lst listed j) → InvE D bar base ops F G C φ₀ w₀ listed a w → Q .normal a w) :
  ∀ (fuel : Nat) (listed : Array Bool) (U : List Nat) (a : Act) (w : World), (∀ j, j < ops.size → ¬ Lst listed j → j ∈ U) → U.length ≤ fuel → InvE D bar base ops F G C φ₀ w₀ listed a w → wpAnyIn (Wd ol) 0 P .any ops Q fuel listed a w
 | 0, listed, U, a, w, hU, hl, hI => by
  have hnil : U = [] := List.eq_nil_of_length_eq_zero (by omega);subst hnil;have hall : ∀ j, j < ops.size → Lst listed j := fun j hj => Classical.byContradiction fun h => by have := hU j hj h; cases this
  refine ⟨?_, hQ listed a w hall hI⟩;apply List.eq_nil_iff_forall_not_mem.2;intro j hj;have := ready_of hj;exact this.new (hall j this.lt)
 | fuel + 1, listed, U, a, w, hU, hl, hI => by
  have hsz : listed.size = ops.size := by obtain ⟨m, φ, hI⟩ := hI; exact hI.size
  refine ⟨fun hn => hQ listed a w (ready_nil hsz he hn) hI, fun i hi => ?_⟩;have hr := ready_of hi;have hiU := hU i hr.lt hr.new;refine wpOpIn_mono (fun a' w' hI' => ?_) (next_any hK hrec ht hm hT h0 hb0 hI hr);refine any_of_inv hK hrec ht hm hT he h0 hb0 hQ fuel _ (U.erase i) a' w' (fun j hj hnl => ?_) (by rw [List.length_erase_of_mem hiU]; omega) hI';have hi' : i < listed.size := by have := hr.lt; omega
  rw [lst_set hi'] at hnl;have hne : j ≠ i := fun e => hnl (.inl e);exact (List.mem_erase_of_ne hne).2 (hU j hj fun h => hnl (.inr h))
end
theorem draw_ok {K : Known} (hK : KnownOk P K) (hfol : P.follows .mixedOrders = true) (Wf : FuncId → Option Nat) : DrawOk P (drawA P K Wf) := by
 intro rec hrec bar id ops f f' H H' h φ base w a ol hs ha;have hf := ha.fr;unfold drawA at h;split at h
 ·rename_i hst;split at h
  ·rename_i cs f₁ H₁ hall;split at h
   ·rename_i hcls;cases h;unfold staticOk at hst;simp only [Bool.and_eq_true] at hst;obtain ⟨⟨he, htm⟩, _⟩ := hst;obtain ⟨F, G, C, rfl, rfl, e3, e4, e5, e6, e7⟩ := trace_of _ _ _ _ _ _ hall;have e3 : F ops.size = f' := by simpa using e3
    have e4 : G ops.size = H' := by simpa using e4
    subst e3; subst e4;have ht : Trace P K rec Wf bar ops F G C := ⟨fun i o ho => e7 i o (by simpa using ho)⟩
    have hmem := mem_of hK hrec ht hs hf;have hT : Tests ops G C := by
     refine ⟨fun i j o ho hne t hn hdj => ?_, fun i j b hi hj hb hne => ?_⟩
     ·unfold tmpsOk at htm;rw [List.all_eq_true] at htm;have h1 := htm (o, i) (by rw [List.mem_zipIdx_iff_getElem?]; simpa using ho)
      rw [List.all_eq_true] at h1;cases hoj : ops[j]? with
      | none => unfold dstOf at hdj; rw [hoj] at hdj; cases hdj
      | some o' =>
       have h2 := h1 (o', j) (by rw [List.mem_zipIdx_iff_getElem?]; simpa using hoj)
       have hd' : o'.dst = some t := by unfold dstOf at hdj; rw [hoj] at hdj; exact hdj
       simp only [hd', Bool.or_eq_true, beq_iff_eq, Bool.not_eq_true'] at h2;rcases h2 with h2 | h2 | h2
       ·exact absurd h2.symm hne
       ·exfalso;have : (namesOf ops o).contains t = true := by simpa using hn
        rw [this] at h2; cases h2
       ·rw [Nat.min_comm, Nat.max_comm]; exact h2
     ·unfold clsOk at hcls;rw [List.all_eq_true] at hcls;have hcj : cs[j]? = some (C j, G j, G (j + 1)) := e6 j (by simpa using hj)
      have hci : cs[i]? = some (C i, G i, G (i + 1)) := e6 i (by simpa using hi)
      have h1 := hcls ((C j, G j, G (j + 1)), j) (by rw [List.mem_zipIdx_iff_getElem?]; simpa using hcj)
      rw [hb] at h1;simp only [List.all_eq_true] at h1;have h2 := h1 ((C i, G i, G (i + 1)), i) (by rw [List.mem_zipIdx_iff_getElem?]; simpa using hci)
      simp only [Bool.or_eq_true, beq_iff_eq] at h2;rcases h2 with (h2 | h2) | h2
      ·exact absurd h2 hne
      ·exact .inl h2
      ·exact .inr h2
    refine wpIn_region_any hfol ?_;have hs' := hs.drew;refine any_of_inv (D := a.defers) (φ₀ := φ) (w₀ := w.drew) (base := base) hK hrec ht hmem hT he hs'.lt hs'.bn ?_ ops.size _ (List.range ops.size) a _ (fun j hj _ => by simpa using hj) (by simp) ?_
    ·rintro listed a' w' hall' ⟨m, ψ, hI⟩;have hmn : m = ops.size := by
      rcases hI.mw with h | h
      ·exact h
      ·by_cases hlt : m < ops.size
       ·have := (hI.ws m hlt h).1 (hall' m hlt);omega
       ·have := hI.hm; omega
     subst hmn;refine PostC.trans (Step.drew hs) ⟨rfl, ψ, ⟨hI.ext, hI.sim, fun b r h => ?_, hI.below, (hmem.bar _ (Nat.le_refl _)).1, (hmem.bar _ (Nat.le_refl _)).2⟩, ?_, by rw [hI.defers, (trace_keep ht _ (Nat.le_refl _)).1]; exact ha.ds.mono hI.ext, by rw [(trace_keep ht _ (Nat.le_refl _)).2]; exact ha.rd.mono hI.ext⟩
     ·rcases hI.dom b r h with h | ⟨k, k1, _, k2, _⟩
      ·exact .inl h
      ·exact .inr (Nat.le_trans (hmem.le (Nat.zero_le k) (by omega)) k2)
     ·refine ⟨by rw [hI.tsize, (hmem.n _ (Nat.le_refl _)).1], (hmem.n _ (Nat.le_refl _)).2, fun t v hv => ?_⟩;obtain ⟨q, q1, q2, q3, q4⟩ := hI.fr t;rw [frame_same ht hmem q1 (Nat.le_refl _) (fun j j1 j2 hdj => by have := q2 j j2 (hall' j j2) hdj; omega)] at hv;exact q4 v hv
    ·obtain ⟨m, n1, n2, n3, n4⟩ := next_W (ops := ops) (C := C) ops.size 0 (by omega);have hnone : ∀ j, ¬ Lst (Array.replicate ops.size false) j := by
      intro j h;unfold Lst at h;rw [Array.getD_eq_getD_getElem?, Array.getElem?_replicate] at h;split at h <;> simp at h
     have hsame : ∀ b, b < (G 0).next → (G m).get b = (G 0).get b := fun b hb => hmem.same (Nat.zero_le m) n2 hb (fun j _ j2 hw _ => absurd hw (n4 j (Nat.zero_le j) j2));refine ⟨m, φ, n2, n3, fun j hj hw => ⟨fun h => absurd h (hnone j), fun h => absurd hw (n4 j (Nat.zero_le j) h)⟩, fun j o h => absurd h (hnone j), by simp, hs'.extend hsame (hmem.le (Nat.zero_le m) n2) (hmem.small m n2), Ren.le_refl _, RowKit.Below.refl _ _, fun b r h => .inl h, ?_, fun t => ?_, hf.size, rfl⟩
     ·intro b r o h hg k hk hkw hbk;rw [hsame b (hs'.lt b r h)] at hg;refine (hs'.obj b r o h hg).frame (le_res (Ren.le_refl _) fun b' r' h' => ?_) rfl;have := hs'.lt b' r' h';have := hmem.le (Nat.zero_le k) (by omega);omega
     ·exact ⟨0, Nat.zero_le _, fun j _ h _ => absurd h (hnone j), .inl rfl, fun v hv => hf.get t v hv⟩
   ·cases h
  ·cases h
 ·cases h
theorem run_sound {K : Known} (hK : KnownOk P K) (hfol : P.follows .mixedOrders = true) (Wf : FuncId → Option Nat) (n : Nat) : RecOk P (evalA P K (drawA P K Wf) n) :=
 eval_sound hK (draw_ok hK hfol Wf) n
end Go.Abu
namespace Go.Pev
open Go.Abu
section
variable {P : Program} {ρ : Nat → Option Nat} {S : St} {H : AH} {F : Nat → Prop} {pbar bar lo : Nat} {K : Known}
theorem RS.rebar (h : RS ρ S H F pbar bar) : RS ρ S H F S.next H.next :=
 ⟨h.rdom, h.sdom, h.mdom, h.lt, h.ent, h.emap, h.inj, h.injM, h.injMM, h.fix, h.flt, fun b e B hg _ hb => by have := h.sdom b e hg; omega, fun b e B hg _ hb => by have := (h.mdom b e hg).1; omega, Nat.le_refl _, Nat.le_refl _, h.froz⟩
theorem RS.unbar {ρ' : Nat → Option Nat} {S' : St} {H' : AH} {F' : Nat → Prop} (h : RS ρ S H F pbar bar) (k : RS ρ' S' H' F' S.next H.next) (o : Out ρ S H F ρ' S' H' F') : RS ρ' S' H' F' pbar bar :=
 ⟨k.rdom, k.sdom, k.mdom, k.lt, k.ent, k.emap, k.inj, k.injM, k.injMM, k.fix, k.flt, fun b e B hg hρ hb => by
   by_cases hlt : b < S.next
   ·obtain ⟨e0, g0, _⟩ := o.same b e hlt hg;rw [o.old b hlt] at hρ;exact h.bars b e0 B g0 hρ hb
   ·have := k.bars b e B hg hρ (by omega);have := h.barn; omega,
  fun b e B hg hρ hb => by
   by_cases hlt : b < S.next
   ·rw [o.old b hlt] at hρ;cases hm : S.getM b with
    | none => rw [o.mo b hlt hm] at hg; cases hg
    | some e0 => exact h.barsM b e0 B hm hρ hb
   ·have := k.barsM b e B hg hρ (by omega);have := h.barn; omega,
  Nat.le_trans h.barn o.hn, Nat.le_trans h.pbarn o.sn, k.froz⟩
theorem store_keep {env : Env} {t : TypeId} {a x : Operand} {v : Value} {H' : AH} {B o : Nat} (h : aop P bar env H (.store t a x) = some (ARes.val v H')) (ha : env a = some (.pointer (some ⟨B, o, none⟩))) : ∀ B', B' ≠ B → B' < H.next → H'.get B' = H.get B' := by
 have h' : (match env a, env x with
   | some (.pointer (some ⟨b, o, none⟩)), some v => (aStore P bar H t b o v).map (ARes.val undef ·)
   | _, _ => none) = some (ARes.val v H') := h
 rw [ha] at h';split at h'
 ·rename_i hp hx;cases hp;rw [Option.map_eq_some_iff] at h'; obtain ⟨H₁, hst, h'⟩ := h';cases h';unfold aStore at hst;split at hst
  ·obtain ⟨_, e2⟩ := aWrite_keep (Nat.le_refl _) hst;exact fun B' hne hlt => e2 B' hne hlt (Nat.le_refl _)
  ·cases hst
 ·cases h'
theorem mapUpdate_keep {env : Env} {t : TypeId} {m k x : Operand} {v : Value} {H' : AH} {B : Nat} (h : aop P bar env H (.mapUpdate t m k x) = some (ARes.val v H')) (hm : env m = some (.map (some B))) : ∀ B', B' ≠ B → B' < H.next → H'.get B' = H.get B' := by
 have h' : (match env m, env k, env x with
   | some a, some b, some c => (aMapUpdate P bar H t a b c).map (ARes.val undef ·)
   | _, _, _ => none) = some (ARes.val v H') := h
 rw [hm] at h';have put : ∀ o B', B' ≠ B → (H.put B o).get B' = H.get B' := fun o B' hne => by rw [AH.get_put H o (Nat.le_refl _) (Nat.le_refl _), if_neg hne]
 split at h'
 ·rename_i mv kv vv ha hb hc;cases ha;rw [Option.map_eq_some_iff] at h'; obtain ⟨H₁, hst, h'⟩ := h';cases h';unfold aMapUpdate at hst;split at hst
  ·rename_i kt et r' hu hr;cases hr;split at hst
   ·split at hst
    ·split at hst
     ·simp only [Option.bind_eq_some_iff] at hst;obtain ⟨_, _, f, _, hst⟩ := hst;split at hst
      ·split at hst
       ·split at hst
        ·cases hst; exact fun B' hne _ => put _ B' hne
        ·cases hst
       ·cases hst
      ·cases hst; exact fun B' hne _ => put _ B' hne
     ·cases hst
    ·cases hst
   ·cases hst
  ·cases hst
 ·cases h'
theorem app_keep {ts : Array TypeId} {s x v : Value} {H' : AH} {B o len cap : Nat} (hs : s = .slice (some ⟨B, o, none⟩) len cap) (h' : aAppend P bar H ts #[s, x] = some (ARes.val v H')) : ∀ B', B' ≠ B → B' < H.next → H'.get B' = H.get B' := by
 subst hs;have hsm : H.next ≤ H.next := Nat.le_refl _;unfold aAppend at h';split at h'
 ·rename_i st xt s y hts hag;simp only [List.cons.injEq] at hag;obtain ⟨rfl, _⟩ := hag;split at h'
  ·simp only [Option.bind_eq_some_iff] at h';obtain ⟨size, _, i, _, zv, _, h'⟩ := h';split at h'
   ·cases h'
   ·rw [Option.bind_eq_some_iff] at h';obtain ⟨q, _, h'⟩ := h';have grow : ∀ {e s b l n : Nat} {o nw : List Value} {v : Value} {H' : AH}, aGrow H e s b l n o nw = some (ARes.val v H') → ∀ b', b' < H.next → H'.get b' = H.get b' := by
     intro e s b l n o nw v H' hg;unfold aGrow at hg;split at hg
     ·rw [Option.map_eq_some_iff] at hg; obtain ⟨⟨b', H₁⟩, hr, hg⟩ := hg;cases hg;obtain ⟨_, hal⟩ := aNewRow_eq hr;exact fun b' hb' => (get_alloc' hal hb').1
     ·cases hg
    unfold aAppS at h';simp only at h';split at h'
    ·cases h'; exact fun _ _ _ => rfl
    ·split at h'
     ·unfold aAppV at h';split at h'
      ·split at h'
       ·rw [Option.map_eq_some_iff] at h'; obtain ⟨H₁, hw, h'⟩ := h';cases h';obtain ⟨_, e2⟩ := aWrite_keep hsm hw;exact fun B' hne hlt => e2 B' hne hlt (Nat.le_refl _)
       ·unfold aAppU at h';split at h'
        ·split at h'
         ·split at h'
          ·simp only [Option.bind_eq_some_iff, Option.map_eq_some_iff] at h';obtain ⟨old, _, H₁, hal, h'⟩ := h';cases h';intro b' hne hb';have hn : (H.put B .dead).next = H.next := rfl;rw [(get_alloc' hal (by omega)).1];rw [AH.get_put H _ (Nat.le_refl _) (Nat.le_refl _), if_neg hne]
          ·cases h'
         ·cases h'
        ·cases h'
      ·cases h'
     ·unfold aAppX at h';split at h'
      ·rw [Option.map_eq_some_iff] at h'; obtain ⟨H₁, hw, h'⟩ := h';cases h';obtain ⟨_, e2⟩ := aWrite_keep hsm hw;exact fun B' hne hlt => e2 B' hne hlt (Nat.le_refl _)
      ·rw [Option.bind_eq_some_iff] at h'; obtain ⟨old, _, h'⟩ := h';exact fun B' _ hlt => grow h' B' hlt
  ·cases h'
 ·cases h'
theorem app_bar {ts : Array TypeId} {s x : Value} {r : ARes} {bar' : Nat} (hs : s = .slice none 0 0 ∨ ∃ B o len, s = .slice (some ⟨B, o, none⟩) len len ∧ len ≠ capU) (h' : aAppend P bar H ts #[s, x] = some r) : aAppend P bar' H ts #[s, x] = some r := by
 unfold aAppend at h' ⊢;split at h'
 ·rename_i st xt s' y hts hag;simp only [List.cons.injEq] at hag;obtain ⟨rfl, rfl, _⟩ := hag;split at h'
  ·rename_i elem hu;simp only [Option.bind_eq_some_iff] at h' ⊢;obtain ⟨size, h1, i, h2, zv, h3, h'⟩ := h';refine ⟨size, h1, i, h2, zv, h3, ?_⟩;split at h'
   ·cases h'
   ·rename_i hc;rw [if_neg hc];rw [Option.bind_eq_some_iff] at h' ⊢;obtain ⟨q, h4, h'⟩ := h';refine ⟨q, h4, ?_⟩;rcases hs with rfl | ⟨B, o, len, rfl, hne⟩
    ·exact h'
    ·unfold aAppS at h' ⊢;simp only at h' ⊢;split at h'
     ·rename_i h0; rw [if_pos h0]; exact h'
     ·rename_i h0;rw [if_neg h0];rw [if_neg hne]
      try rw [if_neg hne] at h'
      unfold aAppX at h' ⊢;rw [if_neg (by omega)]
      try rw [if_neg (by omega)] at h'
      exact h'
  ·cases h'
 ·cases h'
theorem app_new {ts : Array TypeId} {s x v : Value} {H' : AH} (hs : s = .slice none 0 0 ∨ ∃ B o len, s = .slice (some ⟨B, o, none⟩) len len ∧ len ≠ capU) (h' : aAppend P bar H ts #[s, x] = some (ARes.val v H')) : ∀ B', B' < H.next → H'.get B' = H.get B' := by
 have grow : ∀ {e s b l n : Nat} {o nw : List Value} {v : Value} {H' : AH}, aGrow H e s b l n o nw = some (ARes.val v H') → ∀ b', b' < H.next → H'.get b' = H.get b' := by
  intro e s b l n o nw v H' hg;unfold aGrow at hg;split at hg
  ·rw [Option.map_eq_some_iff] at hg; obtain ⟨⟨b', H₁⟩, hr, hg⟩ := hg;cases hg;obtain ⟨_, hal⟩ := aNewRow_eq hr;exact fun b' hb' => (get_alloc' hal hb').1
  ·cases hg
 unfold aAppend at h';split at h'
 ·rename_i st xt s' y hts hag;simp only [List.cons.injEq] at hag;obtain ⟨rfl, rfl, _⟩ := hag;split at h'
  ·simp only [Option.bind_eq_some_iff] at h';obtain ⟨size, h1, i, h2, zv, h3, h'⟩ := h';split at h'
   ·cases h'
   ·rw [Option.bind_eq_some_iff] at h';obtain ⟨q, h4, h'⟩ := h';rcases hs with rfl | ⟨B, o, len, rfl, hne⟩
    ·unfold aAppS at h';simp only at h';split at h'
     ·cases h'; exact fun _ _ => rfl
     ·exact grow h'
    ·unfold aAppS at h';simp only at h';split at h'
     ·cases h'; exact fun _ _ => rfl
     ·try rw [if_neg hne] at h'
      unfold aAppX at h'
      try rw [if_neg (by omega)] at h'
      rw [Option.bind_eq_some_iff] at h'; obtain ⟨old, _, h'⟩ := h';exact grow h'
  ·cases h'
 ·cases h'
end
end Go.Pev
namespace Go.Pev
open Go.Abu
section
variable {P : Program} {ρ : Nat → Option Nat} {S : St} {H : AH} {F : Nat → Prop} {pbar bar lo : Nat} {K : Known}
inductive CR (ρ : Nat → Option Nat) (F : Nat → Prop) : PC → Cls → Prop
 | R : CR ρ F .R .R
 | N : CR ρ F .N (.L none)
 | T0 : CR ρ F .T (.L none)
 | T {B : Nat} (h : F B) : CR ρ F .T (.L (some B))
 | L0 {x : Nat} : CR ρ F (.L x) (.L none)
 | L {x B : Nat} (h : ρ x = some B) : CR ρ F (.L x) (.L (some B))
 | Q : CR ρ F .Q .Q
 | W {bs : List Nat} {s : WS} (h : s = .any ∨ ∃ b, s = .one b) : CR ρ F (.W bs) (.W s)
 | WQ {bs : List Nat} : CR ρ F (.W bs) .Q
theorem capU_ne : Nat.beq 0 capU = false := by decide
theorem cls_of {Wf : FuncId → Option Nat} {env : Env} {op : Op} (h : regOp op = false) : clsA Wf env op = match loadsA env op with
  | some b => .L b
  | none => match writesA Wf env op with
   | some b => .W b
   | none => .Q := by
 unfold clsA;rw [h];rfl
theorem slice_cls {v : Value} {b o n : Nat} (hr : RV ρ S H F v (.lsl b o n)) (hl : ∃ e, S.get b = some e) :
  (∃ B x cap, v = .slice (some ⟨B, x, none⟩) n cap ∧ ρ b = some B) ∨ (n = 0 ∧ (v = .slice none 0 0 ∨ ∃ B x, v = .slice (some ⟨B, x, none⟩) 0 0)) := by
 cases hr with
 | tree h => cases h
 | gone h' => obtain ⟨e, he⟩ := hl; rw [h'] at he; cases he
 | lslN => exact .inr ⟨rfl, .inl rfl⟩
 | lslZ => exact .inr ⟨rfl, .inr ⟨_, _, rfl⟩⟩
 | @lsl _ _ _ B x cap c t z hρ hg hx hcap => exact .inl ⟨B, x, cap, rfl, hρ⟩
theorem ptr_cls {v : Value} {b i o : Nat} (hr : RV ρ S H F v (.ptr b i o)) (hl : ∃ e, S.get b = some e) : ∃ B x, v = .pointer (some ⟨B, x, none⟩) ∧ ρ b = some B := by
 cases hr with
 | tree h => cases h
 | goneP h' => obtain ⟨e, he⟩ := hl; rw [h'] at he; cases he
 | ptr hρ => exact ⟨_, _, rfl, hρ⟩
theorem nil_cls {v : Value} (hr : RV ρ S H F v .nil) : v = .slice none 0 0 ∨ ∃ B x, v = .slice (some ⟨B, x, none⟩) 0 0 := by
 cases hr with
 | tree h => cases h with
  | nilN => exact .inl rfl
  | nilZ => exact .inr ⟨_, _, rfl⟩
theorem sl_cls {v : Value} {els : List (List PV)} (hr : RV ρ S H F v (.sl els)) : v = .slice none 0 0 ∨ (∃ B x, v = .slice (some ⟨B, x, none⟩) 0 0) ∨ ∃ B x n cap, v = .slice (some ⟨B, x, none⟩) n cap ∧ F B := by
 cases hr with
 | tree h => cases h with
  | slN => exact .inl rfl
  | slZ => exact .inr (.inl ⟨_, _, rfl⟩)
  | sl hF => exact .inr (.inr ⟨_, _, _, _, rfl, hF⟩)
theorem slp_cls {v : Value} {els : List (List PV)} {i o : Nat} (hr : RV ρ S H F v (.slp els i o)) : ∃ B x, v = .pointer (some ⟨B, x, none⟩) ∧ F B := by
 cases hr with
 | tree h => cases h with
  | slp hF => exact ⟨_, _, rfl, hF⟩
theorem mp_cls {v : Value} {b : Nat} (hr : RV ρ S H F v (.mp b)) : ∃ B, v = .map (some B) ∧ ρ b = some B := by
 cases hr with
 | tree h => cases h
 | mp hρ => exact ⟨_, rfl, hρ⟩
theorem cls_reg {C : Cfg} {f : PF} {op : Op} (h : regOp op = true) : clsP C f S op = .R := by unfold clsP; rw [h]
theorem cls_regA {Wf : FuncId → Option Nat} {env : Env} {op : Op} (h : regOp op = true) : clsA Wf env op = .R := by unfold clsA; rw [h]; rfl
theorem opds_at {f : PF} : ∀ {l : List Operand} {ps : List PV}, opds f l = some ps → (l[0]?).bind (opd f) = ps[0]?
 | [], ps, h => by cases h; rfl
 | x :: xs, ps, h => by
  unfold opds at h;split at h
  ·rename_i p hp;split at h
   ·cases h; simpa using hp
   ·cases h
  ·cases h
theorem args_at {c : Call} : c.args[0]? = c.args.toList[0]? := by simp
theorem first_cls {f : PF} {fr : Fr} (k : FrP ρ S H F lo f fr) {c : Call} {p : PV} (h : (c.args[0]?).bind (opd f) = some p) : ∃ v, (c.args[0]?).bind (aev fr) = some v ∧ RV ρ S H F v p := by
 cases hx : c.args[0]? with
 | none => rw [hx] at h; cases h
 | some x => rw [hx] at h; exact k.env x p h
def wcls : Option WS → Cls
 | some b => .W b
 | none => .Q
theorem call_cls {C : Cfg} {g : FuncId} {args : List PV} {w : Option WS} (hx : clsCall C S g args ≠ .X) (h0 : C.lent g = none → w = none) (h1 : ∀ k, C.lent g = some k → w = some .any) : CR ρ F (clsCall C S g args) (wcls w) := by
 unfold clsCall at hx ⊢;split at hx
 ·split at hx
  ·rename_i hl;rw [h0 hl]; exact .Q
  ·exact absurd rfl hx
 ·split at hx
  ·rename_i hl;rw [h0 hl]; exact .Q
  ·rename_i k hl;rw [h1 k hl];split at hx
   ·exact .W (.inl rfl)
   ·exact absurd rfl hx
theorem cls_rel {C : Cfg} {f : PF} {fr : Fr} (k : FrP ρ S H F lo f fr) {op : Op} {r : PRes} (hop : pOp P pbar f S op = some r) (hx : clsP C f S op ≠ .X) : CR ρ F (clsP C f S op) (clsA C.wf (aev fr) op) := by
 have he := k.env;cases hreg : regOp op with
 | true => rw [cls_reg hreg, cls_regA hreg]; exact .R
 | false =>
  rw [cls_of hreg];unfold clsP at hx ⊢;rw [hreg] at hx ⊢;cases op <;> first | (simp [regOp] at hreg; done) | skip
  case load t a =>
   simp only [loadsA, writesA] at hx ⊢;simp only [pOp] at hop;split at hop
   ·rename_i p hp;obtain ⟨v, hv, hr⟩ := he a _ hp;rw [hp] at hx ⊢;rw [hv];split at hop
    ·rename_i q hq;cases p <;> simp only [pLoad] at hq <;> try (cases hq; done)
     ·rename_i b i o;obtain ⟨B, x, rfl, hρ⟩ := ptr_cls hr (by split at hq; exact ⟨_, by assumption⟩; cases hq);exact .L hρ
     ·obtain ⟨B, x, rfl, hF⟩ := slp_cls hr;exact .T hF
    ·cases hop
   ·cases hop
  case slice t x lo hi mx =>
   simp only [loadsA, writesA] at hx ⊢;cases mx with
   | some mx => cases hi with
    | none => simp only [pOp] at hop; cases hop
    | some hi =>
    simp only [pOp] at hop;split at hop
    ·rename_i p hp;obtain ⟨v, hv, hr⟩ := he x _ hp;rw [hp] at hx ⊢;rw [hv];split at hop
     ·split at hop
      ·split at hop
       ·split at hop
        ·rename_i q hq;have hsl : ∃ els, p = .sl els := by
          unfold pSlice3 at hq;split at hq
          ·split at hq
           ·split at hq
            ·exact ⟨_, rfl⟩
            ·cases hq
           ·cases hq
          ·cases hq
         obtain ⟨els, rfl⟩ := hsl;rcases sl_cls hr with rfl | ⟨B, x', rfl⟩ | ⟨B, x', n, cap, rfl, hF⟩
         ·exact .T0
         ·simp only [capU_ne]; exact .T0
         ·simp only;cases hb : Nat.beq cap capU with
          | true => exact .T hF
          | false => exact .T0
        ·cases hop
       ·cases hop
      ·cases hop
     ·cases hop
    ·cases hop
   | none =>
   simp only [pOp] at hop;split at hop
   ·rename_i p hp;obtain ⟨v, hv, hr⟩ := he x _ hp;rw [hp] at hx ⊢;rw [hv];split at hop
    ·split at hop
     ·split at hop
      ·rename_i q hq;cases p with
       | lsl b o n =>
        simp only;have hlive : ∃ e, S.get b = some e := by
         simp only [pSlice] at hq;split at hq
         ·cases hq
         ·split at hq
          ·split at hq
           ·split at hq
            ·exact ⟨_, by assumption⟩
            ·cases hq
           ·cases hq
          ·cases hq
         ·cases hq
        rcases slice_cls hr hlive with ⟨B, x', cap, rfl, hρ⟩ | ⟨rfl, rfl | ⟨B, x', rfl⟩⟩
        ·simp only;cases hb : Nat.beq cap capU with
         | true => exact .L hρ
         | false => exact .L0
        ·exact .L0
        ·simp only [capU_ne]; exact .L0
       | v y =>
        cases y <;> try (exact absurd rfl hx)
        obtain ⟨rfl, _⟩ := RV.inv_v hr;exact .N
       | nil =>
        rcases nil_cls hr with rfl | ⟨B, x', rfl⟩
        ·exact .T0
        ·simp only [capU_ne]; exact .T0
       | sl els =>
        rcases sl_cls hr with rfl | ⟨B, x', rfl⟩ | ⟨B, x', n, cap, rfl, hF⟩
        ·exact .T0
        ·simp only [capU_ne]; exact .T0
        ·simp only;cases hb : Nat.beq cap capU with
         | true => exact .T hF
         | false => exact .T0
       | _ => exact absurd rfl hx
      ·cases hop
     ·cases hop
    ·cases hop
   ·cases hop
  case store t a x =>
   simp only [loadsA, writesA] at hx ⊢;simp only [pOp] at hop;split at hop
   ·rename_i p hp;obtain ⟨v, hv, hr⟩ := he a _ hp;rw [hp] at hx ⊢;rw [hv];split at hop
    ·split at hop
     ·rename_i S' hst;cases p <;> try (exact absurd rfl hx)
      rename_i b i o;obtain ⟨B, x', rfl, hρ⟩ := ptr_cls hr (by simp only [pStore] at hst; split at hst; exact ⟨_, by assumption⟩; cases hst);exact .W (.inr ⟨_, rfl⟩)
     ·cases hop
    ·cases hop
   ·cases hop
  case lookup t x kk ok =>
   simp only [loadsA, writesA] at hx ⊢;simp only [pOp] at hop;split at hop
   ·rename_i p hp;obtain ⟨v, hv, hr⟩ := he x _ hp;rw [hp] at hx ⊢;rw [hv];cases p <;> try (exact absurd rfl hx)
    obtain ⟨B, rfl, hρ⟩ := mp_cls hr;exact .L hρ
   ·cases hop
  case mapUpdate t x kk vv =>
   simp only [loadsA, writesA] at hx ⊢;simp only [pOp] at hop;split at hop
   ·rename_i p hp;obtain ⟨v, hv, hr⟩ := he x _ hp;rw [hp] at hx ⊢;rw [hv];cases p <;> try (exact absurd rfl hx)
    obtain ⟨B, rfl, hρ⟩ := mp_cls hr;exact .W (.inr ⟨_, rfl⟩)
   ·cases hop
  case alloc => exact .Q
  case box => exact .Q
  case buildSlice => exact .Q
  case convert => exact .Q
  case makeMap => exact .Q
  case makeSlice => exact .Q
  case call c =>
   simp only [loadsA, writesA] at hx ⊢;cases hcal : c.callee with
   | invoke x m => rw [hcal] at hx; exact absurd rfl hx
   | builtin bi =>
    rw [hcal] at hx;cases bi <;> simp only at hx ⊢ <;> try (exact absurd rfl hx)
    case len =>
     cases hp : (c.args[0]?).bind (opd f) with
     | none => rw [hp] at hx; exact absurd rfl hx
     | some p =>
      obtain ⟨v, hv, hr⟩ := first_cls k hp;rw [hp] at hx;rw [hv];cases p with
      | mp b => obtain ⟨B, rfl, hρ⟩ := mp_cls hr; exact .L hρ
      | lsl b o n =>
       cases hr with
       | tree h => cases h
       | _ => exact .N
      | nil => rcases nil_cls hr with rfl | ⟨B, x, rfl⟩ <;> exact .N
      | sl els => rcases sl_cls hr with rfl | ⟨B, x, rfl⟩ | ⟨B, x, n, cap, rfl, _⟩ <;> exact .N
      | v y =>
       cases y <;> try (exact absurd rfl hx)
       obtain ⟨rfl, _⟩ := RV.inv_v hr;exact .N
      | _ => exact absurd rfl hx
    case append =>
     simp only [pOp, hcal] at hop;split at hop
     ·rename_i args hargs;have hat : (c.args[0]?).bind (opd f) = args[0]? := by rw [args_at]; exact opds_at hargs
      cases hp : (c.args[0]?).bind (opd f) with
      | none => rw [hp] at hx; exact absurd rfl hx
      | some p =>
       obtain ⟨v, hv, hr⟩ := first_cls k hp;rw [hp] at hx hat;rw [hv];cases p with
       | lsl b o n =>
        have hlive : ∃ e, S.get b = some e := by
         split at hop
         ·rename_i q S' hb;unfold pBuiltin at hb;simp only at hb;split at hb
          ·split at hb
           ·rename_i x y;simp at hat; subst hat;unfold pAppend at hb;split at hb
            ·split at hb
             ·split at hb
              ·split at hb
               ·split at hb
                ·split at hb
                 ·simp only at hb;split at hb
                  ·exact ⟨_, by assumption⟩
                  ·cases hb
                 ·cases hb
                ·cases hb
               ·cases hb
              ·cases hb
             ·cases hb
            ·cases hb
           ·cases hb
          ·cases hb
         ·cases hop
        rcases slice_cls hr hlive with ⟨B, x', cap, rfl, hρ⟩ | ⟨rfl, rfl | ⟨B, x', rfl⟩⟩
        ·simp only;by_cases hc : cap = n
         ·rw [if_pos hc]; exact .WQ
         ·rw [if_neg hc]; exact .W (.inr ⟨_, rfl⟩)
        ·exact .WQ
        ·exact .WQ
       | nil =>
        rcases nil_cls hr with rfl | ⟨B, x, rfl⟩
        ·exact .Q
        ·exact .Q
       | _ => exact absurd rfl hx
     ·cases hop
    case max => exact .N
    case min => exact .N
   | value x =>
    rw [hcal] at hx;simp only at hx ⊢;simp only [pOp, hcal] at hop;split at hop
    ·rename_i args hargs;split at hop
     ·rename_i g a b hf;simp only [hf, hargs] at hx;cases x with
      | func g' =>
       cases hf;refine (call_cls hx (fun hl => ?_) fun kk hl => ?_ : CR ρ F _ (wcls _))
       ·simp only [Cfg.wf, hl, Option.map_none]
       ·simp only [Cfg.wf, hl, Option.map_some]; rfl
      | tmp t =>
       obtain ⟨v, hv, hr⟩ := k.env _ _ hf;have hfn : ∃ f1 c1, v = .func (.func g) f1 c1 := by
        cases hr with
        | tree h => cases h with
         | fn => exact ⟨_, _, rfl⟩
        | fn => exact ⟨_, _, rfl⟩
       obtain ⟨f1, c1, rfl⟩ := hfn;refine (call_cls hx (fun hl => ?_) fun kk hl => ?_ : CR ρ F _ (wcls _))
       ·simp only [Cfg.wf, hv, hl, Option.map_none]
       ·simp only [Cfg.wf, hv, hl, Option.map_some]; rfl
      | const v' =>
       obtain ⟨v, hv, hr⟩ := k.env _ _ hf;have hfn : ∃ f1 c1, v = .func (.func g) f1 c1 := by
        cases hr with
        | tree h => cases h with
         | fn => exact ⟨_, _, rfl⟩
        | fn => exact ⟨_, _, rfl⟩
       obtain ⟨f1, c1, rfl⟩ := hfn;refine (call_cls hx (fun hl => ?_) fun kk hl => ?_ : CR ρ F _ (wcls _))
       ·simp only [Cfg.wf, hv, hl, Option.map_none]
       ·simp only [Cfg.wf, hv, hl, Option.map_some]; rfl
      | global g' => cases hf
     ·cases hop
    ·cases hop
  all_goals exact absurd rfl hx
end
end Go.Pev
