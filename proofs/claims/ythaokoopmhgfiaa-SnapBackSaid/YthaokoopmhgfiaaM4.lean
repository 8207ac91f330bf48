import Derived.Test.YthaokoopmhgfiaaM3
import Derived.Test.YthaokoopmhgfiaaM2
import Derived.Test.YthaokoopmhgfiaaM1
set_option linter.unusedVariables false
set_option linter.unusedSimpArgs false
set_option linter.defProp false
noncomputable section
namespace Go.Pev
open Go.Abu
section
variable {P : Program} {ρ : Nat → Option Nat} {S : St} {H : AH} {F : Nat → Prop} {pbar bar lo : Nat} {K : Known}
theorem operA_val {arec : Rec} {b : Nat} {ops : Array Oper} {o : Oper} {fr fr' : Fr} {v : Value} {H' : AH} (hw : wantedA ops fr o = some true) (ha : aop P b (aev fr) H o.op = some (ARes.val v H')) (hp : fr.put o.dst v = some fr') :
  operA P K arec b ops o fr H = some (fr', H') := by
 unfold operA;rw [hw];simp only;rw [ha];simp only;rw [hp]; rfl
theorem operA_call {arec : Rec} {b : Nat} {ops : Array Oper} {o : Oper} {fr fr' : Fr} {v : Value} {H' : AH} {g : FuncId} {vs : List Value} (hw : wantedA ops fr o = some true) (ha : aop P b (aev fr) H o.op = aCallFunc P H g vs)
  (hg : aGo P K arec b g vs H = some (v, H')) (hp : fr.put o.dst v = some fr') : operA P K arec b ops o fr H = some (fr', H') := by
 unfold operA;rw [hw];simp only;rw [ha];unfold aGo at hg;split at hg
 ·rename_i v₁ H₁ hv; cases hg; rw [hv]; simp only; rw [hp]; rfl
 ·rename_i g' args' H₁ hv; rw [hv]; simp only; rw [hg]; simp only; rw [hp]; rfl
 ·cases hg
def WL (S : St) (b : Nat) : Prop := (∃ e, S.get b = some e ∧ e.fz = false) ∨ ∃ e, S.getM b = some e
def WK (ρ : Nat → Option Nat) (S : St) (H H' : AH) (c : PC) : Prop := ∀ bs, c = .W bs → (∀ b ∈ bs, WL S b) ∧ ∀ B, B < H.next → (∀ b ∈ bs, ρ b ≠ some B) → H'.get B = H.get B
theorem drawOne_W {arec : Rec} {Wf : FuncId → Option Nat} {ops : Array Oper} {o : Oper} {fr : Fr} {r : Fr × AH} {s : WS} (hw : wantedA ops fr o = some true) (hc : clsA Wf (aev fr) o.op = .W s) (hl : s.lim bar = bar) (hb : bar ≤ H.next)
  (h : operA P K arec bar ops o fr H = some r) : drawOne P K arec Wf bar ops o fr H = some (.W s, r) := by
 unfold drawOne;rw [hw];simp only;rw [hc];simp only;unfold drawW;rw [hl, if_pos (show Nat.ble bar H.next = true from Nat.ble_eq ▸ hb), h]
 rfl
theorem drawOne_Q {arec : Rec} {Wf : FuncId → Option Nat} {ops : Array Oper} {o : Oper} {fr : Fr} {r : Fr × AH} {c : Cls} (hw : wantedA ops fr o = some true) (hc : clsA Wf (aev fr) o.op = c) (hn : ∀ s, c ≠ .W s)
  (h : operA P K arec H.next ops o fr H = some r) : drawOne P K arec Wf bar ops o fr H = some (c, r) := by
 unfold drawOne;rw [hw];simp only;rw [hc];cases c with
 | W s => exact absurd rfl (hn s)
 | _ => simp only; rw [h]; rfl
theorem CR.notW {c : PC} {x : Cls} (h : CR ρ F c x) (hc : ∀ bs, c ≠ .W bs) : ∀ s, x ≠ .W s := by
 intro s e;subst e;cases h with
 | W => exact hc _ rfl
theorem cls_W_inv {C : Cfg} {f : PF} {op : Op} {bs : List Nat} (h : clsP C f S op = .W bs) : (∃ t a x b i o, op = .store t a x ∧ opd f a = some (.ptr b i o) ∧ bs = [b]) ∨
  (∃ t m k x b, op = .mapUpdate t m k x ∧ opd f m = some (.mp b) ∧ bs = [b]) ∨
  (∃ c b o n, op = .call c ∧ c.callee = .builtin .append ∧ (c.args[0]?).bind (opd f) = some (.lsl b o n) ∧ bs = [b]) ∨
  (∃ c x g a e args, op = .call c ∧ c.callee = .value x ∧ opd f x = some (.fn g a e) ∧ opds f c.args.toList = some args ∧ clsCall C S g (a ++ args ++ e) = .W bs) := by
 unfold clsP at h;split at h
 ·cases h
 ·cases op <;> simp only at h <;> try (cases h; done)
  case load t a => (repeat' split at h) <;> cases h
  case slice t a => (repeat' split at h) <;> cases h
  case lookup t a => (repeat' split at h) <;> cases h
  case store t a x =>
   split at h
   ·cases h; exact .inl ⟨_, _, _, _, _, _, rfl, by assumption, rfl⟩
   ·cases h
  case mapUpdate t m k x =>
   split at h
   ·cases h; exact .inr (.inl ⟨_, _, _, _, _, rfl, by assumption, rfl⟩)
   ·cases h
  case call c =>
   split at h
   ·(repeat' split at h) <;> cases h
   ·split at h
    ·cases h; exact .inr (.inr (.inl ⟨_, _, _, _, rfl, by assumption, by assumption, rfl⟩))
    ·cases h
    ·cases h
   ·cases h
   ·cases h
   ·split at h
    ·split at h
     ·exact .inr (.inr (.inr ⟨_, _, _, _, _, _, rfl, by assumption, by assumption, by assumption, h⟩))
     ·cases h
    ·cases h
   ·cases h
theorem clsCall_W {C : Cfg} {g : FuncId} {args : List PV} {bs : List Nat} (h : clsCall C S g args = .W bs) : inlP C g args = false ∧ ∃ k ts b, C.lent g = some k ∧ argsT S (some k) args = some (ts, b, bs) := by
 unfold clsCall at h;split at h
 ·split at h <;> cases h
 ·rename_i hi;split at h
  ·cases h
  ·rename_i k hl;split at h
   ·rename_i ts b ls ha;cases h;exact ⟨hi, k, ts, b, hl, ha⟩
   ·cases h
theorem alive_get {b : Nat} {e : Ent} (h : S.get b = some e) : aliveP S b = true := by unfold aliveP; rw [h]; rfl
theorem alive_getM {b : Nat} {e : List MapEntry × Nat} (h : S.getM b = some e) : aliveP S b = true := by unfold aliveP; rw [h]; simp
theorem app_args {f : PF} {fr : Fr} (k : FrP ρ S H F lo f fr) {c : Call} {b o n : Nat} (hcal : c.callee = .builtin .append) (hl : (c.args[0]?).bind (opd f) = some (.lsl b o n)) {p : PV} {S₁ : St} (hop : pOp P pbar f S (.call c) = some (.val p S₁)) :
  ∃ e v y, (S.get b = some e ∧ e.fz = false) ∧ n ≤ e.els.length ∧ e.box = false ∧ RV ρ S H F v (.lsl b o n) ∧ (c.args[0]?).bind (aev fr) = some v ∧ mapEnv (aev fr) c.args.toList = some [v, y] := by
 simp only [pOp, hcal] at hop;split at hop
 ·rename_i args hargs;have hat : (c.args[0]?).bind (opd f) = args[0]? := by rw [args_at]; exact opds_at hargs
  rw [hl] at hat;split at hop
  ·rename_i q S' hb;unfold pBuiltin at hb;simp only at hb;split at hb
   ·split at hb
    ·rename_i x y;simp at hat; subst hat;obtain ⟨vs, m1, m2⟩ := opds_rel k.env hargs;obtain ⟨v, y', rfl, r1, r2⟩ := two_args m2;obtain ⟨v', hv', hr'⟩ := first_cls k hl;have hvv : (c.args[0]?).bind (aev fr) = some v := by
      rw [args_at];cases hcl : c.args.toList with
      | nil => rw [hcl] at m1; cases m1
      | cons z zs =>
       rw [hcl] at m1;unfold mapEnv at m1;split at m1
       ·rename_i w hw;rw [Option.map_eq_some_iff] at m1;obtain ⟨l, _, hl⟩ := m1;cases hl;simpa using hw
       ·cases m1
     unfold pAppend at hb;split at hb
     ·split at hb
      ·split at hb
       ·split at hb
        ·split at hb
         ·split at hb
          ·simp only at hb;split at hb
           ·rename_i e he;split at hb
            ·rename_i hcond;exact ⟨e, v, y', ⟨he, hcond.2.1⟩, hcond.2.2.2.2.2.1, hcond.2.2.2.1, r1, hvv, m1⟩
            ·cases hb
           ·cases hb
          ·cases hb
         ·cases hb
        ·cases hb
       ·cases hb
      ·cases hb
     ·cases hb
    ·cases hb
   ·cases hb
  ·cases hop
 ·cases hop
theorem oper_rel0 {C : Cfg} {rec : PRec} {arec : Rec} (hrec : RecP rec arec) (hkn : KnP C K) (hX : XP C K) (h : RS ρ S H F pbar bar) {ops : Array Oper} {o : Oper} {f f' : PF} {fr : Fr} {S' : St}
  (k : FrP ρ S H F lo f fr) (hu : f.up = []) (hc : oper C rec pbar ops o f S = some (f', S')) :
  ∃ fr' H' ρ' F', operA C.P K arec bar ops o fr H = some (fr', H') ∧ RS ρ' S' H' F' pbar bar ∧ Out ρ S H F ρ' S' H' F' ∧ FrP ρ' S' H' F' lo f' fr' ∧ f'.up = [] ∧ fr'.rd = fr.rd := by
 have hno : ∀ B, ¬ XU ρ f.up B := fun B hB => by
  obtain ⟨_, hm, _⟩ := hB;rw [hu] at hm; cases hm
 obtain ⟨fr', H', ρ', F', a1, a2⟩ := oper_rel hrec hkn hX h k (by rw [hu]; trivial) (fun B hB => absurd hB (hno B)) hc;refine ⟨fr', H', ρ', F', a1, a2.rs, a2.out.out hno, a2.frp, ?_, a2.rde⟩;have := a2.nm;rw [hu] at this;simpa using this
theorem one_rel {C : Cfg} {rec : PRec} {arec : Rec} (hrec : RecP rec arec) (hkn : KnP C K) (hX : XP C K) (h : RS ρ S H F pbar bar) {ops : Array Oper} {o : Oper} {f f' : PF} {fr : Fr} {S' : St}
  (k : FrP ρ S H F lo f fr) (hu : f.up = []) (hc : oper C rec (barP (clsW C ops f S o) pbar S) ops o f S = some (f', S')) (hx : clsW C ops f S o ≠ .X) :
  ∃ x fr' H' ρ' F', drawOne C.P K arec C.wf bar ops o fr H = some (x, fr', H') ∧ RS ρ' S' H' F' pbar bar ∧ Out ρ S H F ρ' S' H' F' ∧ FrP ρ' S' H' F' lo f' fr' ∧ (f'.up = [] ∧ fr'.rd = fr.rd) ∧ CR ρ F (clsW C ops f S o) x ∧ WK ρ S H H' (clsW C ops f S o) := by
 have notW : (∀ bs, clsW C ops f S o ≠ .W bs) → barP (clsW C ops f S o) pbar S = S.next := by
  intro hn;unfold barP;split
  ·rename_i bs hb; exact absurd hb (hn bs)
  ·rfl
 cases hw : wantedP ops f o with
 | none => unfold oper at hc; rw [hw] at hc; cases hc
 | some b =>
  have hwA := wanted_rel' k hw;cases b with
  | false =>
   have hcl : clsW C ops f S o = .R := by unfold clsW; rw [hw]
   rw [notW (fun bs e => by rw [hcl] at e; cases e)] at hc;obtain ⟨fr', H', ρ', F', a1, a2, a3, a4, a5⟩ := oper_rel0 hrec hkn hX h.rebar k hu hc;refine ⟨.R, fr', H', ρ', F', ?_, h.unbar a2 a3, a3, a4, a5, by rw [hcl]; exact .R, fun bs e => by rw [hcl] at e; cases e⟩;unfold drawOne;rw [hwA];simp only;rw [a1]; rfl
  | true =>
   have hcl : clsW C ops f S o = clsP C f S o.op := by unfold clsW; rw [hw]
   rw [hcl] at hx notW hc ⊢;by_cases hW : ∃ bs, clsP C f S o.op = .W bs
   ·obtain ⟨bs, hbs⟩ := hW;have hbar : barP (clsP C f S o.op) pbar S = pbar := by rw [hbs]; rfl
    rw [hbar] at hc;unfold oper at hc;rw [hw] at hc;simp only at hc;split at hc
    ·cases hc
    ·
     rename_i p S₁ hop;have hCR := cls_rel k hop hx;obtain ⟨v, H', ρ', F', a1, d⟩ := op_rel h k.env (aev_const fr) hop;split at hc
     ·rename_i f₁ hp;cases hc;obtain ⟨fr', b1, b2, b3, b4⟩ := fr_put (k.step h d.out) hp d.rv;have fin : WK ρ S H H' (clsP C f S o.op) → (clsA C.wf (aev fr) o.op = .Q → aop C.P H.next (aev fr) H o.op = some (ARes.val v H')) →
        ∃ x fr' H' ρ' F', drawOne C.P K arec C.wf bar ops o fr H = some (x, fr', H') ∧ RS ρ' S' H' F' pbar bar ∧ Out ρ S H F ρ' S' H' F' ∧ FrP ρ' S' H' F' lo f' fr' ∧ (f'.up = [] ∧ fr'.rd = fr.rd) ∧ CR ρ F (clsP C f S o.op) x ∧ WK ρ S H H' (clsP C f S o.op) := by
       intro hk hq;refine ⟨_, fr', H', ρ', F', ?_, d.rs, d.out, b2, ⟨b4.trans hu, b3⟩, hCR, hk⟩;rw [hbs] at hCR;cases hxx : clsA C.wf (aev fr) o.op with
       | W s =>
        rw [hxx] at hCR;have hl : s.lim bar = bar := by
         cases hCR with
         | W hs => rcases hs with rfl | ⟨b, rfl⟩ <;> rfl
        exact drawOne_W hwA hxx hl h.barn (operA_val hwA a1 b1)
       | Q => exact drawOne_Q hwA hxx (fun s e => by cases e) (operA_val hwA (hq hxx) b1)
       | R => rw [hxx] at hCR; cases hCR
       | L b => rw [hxx] at hCR; cases hCR
      rcases cls_W_inv hbs with ⟨t, a, x, b, i, oo, e1, e2, rfl⟩ | ⟨t, m, kk, x, b, e1, e2, rfl⟩ | ⟨c, b, oo, n, e1, e2, e3, rfl⟩ | ⟨c, x, g, a, e, args, e1, e2, e3, e4, _⟩
      ·rw [e1] at hop a1 fin;have hlive : ∃ e, S.get b = some e ∧ e.fz = false := by
        simp only [pOp, e2] at hop;split at hop
        ·split at hop
         ·rename_i hst;simp only [pStore] at hst;split at hst
          ·split at hst
           ·rename_i hcond;exact ⟨_, by assumption, hcond.1⟩
           ·cases hst
          ·cases hst
         ·cases hop
        ·cases hop
       obtain ⟨va, hva, hra⟩ := k.env a _ e2;obtain ⟨e, he⟩ := hlive;obtain ⟨B, y, rfl, hρ⟩ := ptr_cls hra ⟨e, he.1⟩;rw [e1];refine fin (fun bs' eb => ?_) (fun hq => ?_)
       ·rw [← e1, hbs] at eb; cases eb;refine ⟨fun b' hb' => by simp at hb'; subst hb'; exact .inl ⟨e, he⟩, fun B' hlt hn => store_keep a1 hva B' (fun ee => hn b (by simp) (by rw [ee]; exact hρ)) hlt⟩
       ·rw [cls_of rfl] at hq;simp only [loadsA, writesA, hva] at hq;cases hq
      ·rw [e1] at hop a1 fin;have hlive : ∃ e, S.getM b = some e := by
        simp only [pOp, e2] at hop;split at hop
        ·split at hop
         ·split at hop
          ·rename_i hst;simp only [pMapUpdate] at hst;split at hst
           ·split at hst
            ·exact ⟨_, by assumption⟩
            ·cases hst
           ·cases hst
          ·cases hop
         ·cases hop
        ·cases hop
       obtain ⟨va, hva, hra⟩ := k.env m _ e2;obtain ⟨B, rfl, hρ⟩ := mp_cls hra;obtain ⟨e, he⟩ := hlive;rw [e1];refine fin (fun bs' eb => ?_) (fun hq => ?_)
       ·rw [← e1, hbs] at eb; cases eb;refine ⟨fun b' hb' => by simp at hb'; subst hb'; exact .inr ⟨e, he⟩, fun B' hlt hn => mapUpdate_keep a1 hva B' (fun ee => hn b (by simp) (by rw [ee]; exact hρ)) hlt⟩
       ·rw [cls_of rfl] at hq;simp only [loadsA, writesA, hva] at hq;cases hq
      ·rw [e1] at hop a1 fin;obtain ⟨e, va, y, ⟨he, hez⟩, hn, hbox, hra, hva, hm⟩ := app_args k e2 e3 hop;have haop : ∀ b', aop C.P b' (aev fr) H (.call c) = aAppend C.P b' H c.argTypes #[va, y] := by
        intro b';show aCall C.P b' (aev fr) H c = _
        unfold aCall;rw [hm, Option.bind_some, e2];rfl
       rw [haop] at a1;have hlen : n ≠ capU ∨ n = 0 := by
        by_cases h0 : n = 0
        ·exact .inr h0
        ·refine .inl ?_;rcases h.ent b e he with ⟨B, c', t, z, b1, b2, b3⟩ | ⟨_, _, b3⟩
         ·rcases b3 with ⟨b3, _⟩ | ⟨_, _, _, hz, hel⟩
          ·rw [hbox] at b3; cases b3
          ·have hl := hel.len;cases hra with
           | tree h => cases h
           | lslN => exact absurd rfl h0
           | lslZ => exact absurd rfl h0
           | gone h' => rw [h'] at he; cases he
           | lsl hρ hg hx' hcap =>
            rw [hρ] at b1; cases b1;rw [hg] at b2; cases b2;rcases hcap with ⟨_, hlt⟩ | ⟨h1, h2, _⟩
            ·have : e.els.length ≤ e.els.length * z := Nat.le_mul_of_pos_right _ hz;omega
            ·omega
         ·rw [b3] at hn; simp at hn; exact absurd hn h0
       rw [e1];refine fin (fun bs' eb => ?_) (fun hq => ?_)
       ·rw [← e1, hbs] at eb; cases eb;refine ⟨fun b' hb' => by simp at hb'; subst hb'; exact .inl ⟨e, he, hez⟩, fun B' hlt hn' => ?_⟩;rcases slice_cls hra ⟨e, he⟩ with ⟨B, x', cap, rfl, hρ⟩ | ⟨rfl, rfl | ⟨B, x', rfl⟩⟩
        ·exact app_keep rfl a1 B' (fun ee => hn' b (by simp) (by rw [ee]; exact hρ)) hlt
        ·exact app_new (.inl rfl) a1 B' hlt
        ·exact app_new (.inr ⟨B, x', 0, rfl, by decide⟩) a1 B' hlt
       ·rw [haop];refine app_bar ?_ a1;rw [cls_of rfl] at hq;simp only [loadsA, writesA, e2, hva] at hq;rcases slice_cls hra ⟨e, he⟩ with ⟨B, x', cap, rfl, hρ⟩ | ⟨rfl, rfl | ⟨B, x', rfl⟩⟩
        ·simp only at hq;by_cases hcn : cap = n
         ·subst hcn;rcases hlen with hlen | hlen
          ·exact .inr ⟨B, x', cap, rfl, hlen⟩
          ·subst hlen; exact .inr ⟨B, x', 0, rfl, by decide⟩
         ·rw [if_neg hcn] at hq; cases hq
        ·exact .inl rfl
        ·exact .inr ⟨B, x', 0, rfl, by decide⟩
      ·rw [e1] at hop;simp only [pOp, e2, e3, e4] at hop;cases hop
     ·cases hc
    ·
     rename_i g args hop;have hCR := cls_rel k hop hx;obtain ⟨c, x, vs, a, b, as, e1, e2, e3, e4, e5, e6, e7, _⟩ := op_call (P := C.P) k.env hop;split at hc
     ·rename_i p up S₁ hcall;rw [hu] at hcall;obtain ⟨v, H', ρ', F', a1, dx, d2⟩ := callP_rel' hrec hkn hX h hcall e7 trivial;have d := dx.did;have hup : up = [] := by simpa using dx.nm
      split at hc
      ·rename_i f₁ hp;cases hc;obtain ⟨fr', b1, b2, b3, b4⟩ := fr_put ((k.step h d.out).withUp up) hp d.rv;have hcw : clsCall C S g args = .W bs := by
        rcases cls_W_inv hbs with ⟨t, a', x', b', i, oo, f1, f2, _⟩ | ⟨t, m, kk, x', b', f1, f2, _⟩ | ⟨c', b', oo, n, f1, f2, f3, _⟩ | ⟨c', x', g', a', e', args', f1, f2, f3, f4, f5⟩
        ·rw [e1] at f1; cases f1
        ·rw [e1] at f1; cases f1
        ·rw [e1] at f1; cases f1; rw [e2] at f2; cases f2
        ·rw [e1] at f1; cases f1;rw [e2] at f2; cases f2;rw [e3] at f3; cases f3;rw [e4] at f4; cases f4;rw [e5]; exact f5
       obtain ⟨hi, kk, ts, bb, hl, hat⟩ := clsCall_W hcw;obtain ⟨ts', bb', ls, g1, g2, g3⟩ := d2 hi;rw [hl, hat] at g1;cases g1;refine ⟨_, fr', H', ρ', F', ?_, d.rs, d.out, b2, ⟨b4.trans hup, b3⟩, hCR, fun bs' eb => ?_⟩
       ·rw [hbs] at hCR;cases hxx : clsA C.wf (aev fr) o.op with
        | W s =>
         rw [hxx] at hCR;have hl : s.lim bar = bar := by
          cases hCR with
          | W hs => rcases hs with rfl | ⟨b, rfl⟩ <;> rfl
         exact drawOne_W hwA hxx hl h.barn (operA_call hwA e6 a1 b1)
        | Q =>
         exfalso;rw [e1, cls_of rfl] at hxx;simp only [loadsA, writesA, e2] at hxx;cases x with
         | func g' => cases e3; simp only [Cfg.wf, hl, Option.map_some] at hxx; cases hxx
         | global g' => cases e3
         | tmp t =>
          obtain ⟨vv, hv, hr⟩ := k.env _ _ e3;have hfn : ∃ f1 c1, vv = .func (.func g) f1 c1 := by
           cases hr with
           | tree h => cases h with
            | fn => exact ⟨_, _, rfl⟩
           | fn => exact ⟨_, _, rfl⟩
          obtain ⟨f1, c1, rfl⟩ := hfn;simp only [Cfg.wf, hv, hl, Option.map_some] at hxx; cases hxx
         | const t =>
          obtain ⟨vv, hv, hr⟩ := k.env _ _ e3;have hfn : ∃ f1 c1, vv = .func (.func g) f1 c1 := by
           cases hr with
           | tree h => cases h with
            | fn => exact ⟨_, _, rfl⟩
           | fn => exact ⟨_, _, rfl⟩
          obtain ⟨f1, c1, rfl⟩ := hfn;simp only [Cfg.wf, hv, hl, Option.map_some] at hxx; cases hxx
        | R => rw [hxx] at hCR; cases hCR
        | L b => rw [hxx] at hCR; cases hCR
       ·rw [hbs] at eb; cases eb;exact ⟨fun b hb => .inl (g2 b hb), g3⟩
      ·cases hc
     ·cases hc
   ·have hn : ∀ bs, clsP C f S o.op ≠ .W bs := fun bs e => hW ⟨bs, e⟩;rw [notW hn] at hc;obtain ⟨fr', H', ρ', F', a1, a2, a3, a4, a5⟩ := oper_rel0 hrec hkn hX h.rebar k hu hc;have hop : ∃ r, pOp C.P S.next f S o.op = some r := by
     unfold oper at hc;rw [hw] at hc;simp only at hc;split at hc
     ·cases hc
     ·exact ⟨_, by assumption⟩
     ·exact ⟨_, by assumption⟩
    obtain ⟨r, hop⟩ := hop;have hCR := cls_rel k hop hx;exact ⟨_, fr', H', ρ', F', drawOne_Q hwA rfl (hCR.notW hn) a1, h.unbar a2 a3, a3, a4, a5, hCR, fun bs e => absurd e (hn bs)⟩
structure Nd where
 c : PC
 S : St
 ρ : Nat → Option Nat
 F : Nat → Prop
 H : AH
 x : Cls
 H' : AH
structure Good (pbar bar : Nat) (n : Nd) : Prop where
 rs : RS n.ρ n.S n.H n.F pbar bar
 cr : CR n.ρ n.F n.c n.x
 wk : WK n.ρ n.S n.H n.H' n.c
def Ord (a b : Nd) : Prop := Out a.ρ a.S a.H a.F b.ρ b.S b.H b.F
theorem drawn_rel {C : Cfg} {rec : PRec} {arec : Rec} (hrec : RecP rec arec) (hkn : KnP C K) (hX : XP C K) {ops : Array Oper} : ∀ {os : List Oper} {ρ : Nat → Option Nat} {S : St} {H : AH} {F : Nat → Prop} {f f' : PF} {fr : Fr} {S' : St} {cs : List (PC × St)},
  RS ρ S H F pbar bar → FrP ρ S H F lo f fr → f.up = [] → drawnP C rec pbar ops os f S = some (cs, f', S') → (∀ c ∈ cs, c.1 ≠ .X) →
  ∃ T : List Nd, cs = T.map (fun n => (n.c, n.S)) ∧ ∃ fr' H' ρ' F', drawAll C.P K arec C.wf bar ops os fr H = some (T.map (fun n => (n.x, n.H, n.H')), fr', H') ∧ RS ρ' S' H' F' pbar bar ∧ Out ρ S H F ρ' S' H' F' ∧ FrP ρ' S' H' F' lo f' fr' ∧ fr'.rd = fr.rd ∧
   (∀ n ∈ T, Good pbar bar n ∧ Out ρ S H F n.ρ n.S n.H n.F) ∧ T.Pairwise Ord
 | [], ρ, S, H, F, f, f', fr, S', cs, h, k, hu, hc, _ => by
  cases hc;exact ⟨[], rfl, fr, H, ρ, F, rfl, h, Out.refl, k, rfl, fun n hn => by simp at hn, .nil⟩
 | o :: os, ρ, S, H, F, f, f', fr, S', cs, h, k, hu, hc, hx => by
  unfold drawnP at hc;split at hc
  ·cases hc
  ·rename_i f₁ S₁ ho;split at hc
   ·cases hc
   ·rename_i cs' r hd;obtain ⟨f₂, S₂⟩ := r;cases hc;have hx0 : clsW C ops f S o ≠ .X := hx (clsW C ops f S o, S) (by simp);obtain ⟨x, fr₁, H₁, ρ₁, F₁, a1, a2, a3, a4, ⟨a7, a8⟩, a5, a6⟩ := one_rel hrec hkn hX h k hu ho hx0;obtain ⟨T, t1, fr', H', ρ', F', b1, b2, b3, b4, b7, b5, b6⟩ := drawn_rel hrec hkn hX a2 a4 a7 hd (fun c hc => hx c (by simp [hc]));refine ⟨⟨clsW C ops f S o, S, ρ, F, H, x, H₁⟩ :: T, by rw [t1]; rfl, fr', H', ρ', F', ?_, b2, a3.trans b3, b4, b7.trans a8, fun n hn => ?_, ?_⟩
    ·unfold drawAll;rw [a1];simp only;rw [b1];rfl
    ·rcases List.mem_cons.1 hn with rfl | hn
     ·exact ⟨⟨h, a5, a6⟩, Out.refl⟩
     ·obtain ⟨c1, c2⟩ := b5 n hn;exact ⟨c1, a3.trans c2⟩
    ·rw [List.pairwise_cons];exact ⟨fun n hn => a3.trans (b5 n hn).2, b6⟩
theorem alive_inj (h : RS ρ S H F pbar bar) {x y B : Nat} (hx : aliveP S x = true) (hy : aliveP S y = true) (h1 : ρ x = some B) (h2 : ρ y = some B) : x = y := by
 unfold aliveP at hx hy;cases gx : S.get x with
 | some e =>
  cases gy : S.get y with
  | some e' => exact h.inj x y e e' B gx gy h1 h2
  | none =>
   rw [gy] at hy;cases my : S.getM y with
   | none => rw [my] at hy; cases hy
   | some es => exact (h.injM x y e es B gx my h1 h2).elim
 | none =>
  rw [gx] at hx;cases mx : S.getM x with
  | none => rw [mx] at hx; cases hx
  | some es =>
   cases gy : S.get y with
   | some e' => exact (h.injM y x e' es B gy mx h2 h1).elim
   | none =>
    rw [gy] at hy;cases my : S.getM y with
    | none => rw [my] at hy; cases hy
    | some es' => exact h.injMM x y es es' B mx my h1 h2
theorem WL.alive {b : Nat} (h : WL S b) : aliveP S b = true := by
 rcases h with ⟨e, h, _⟩ | ⟨e, h⟩
 ·exact alive_get h
 ·exact alive_getM h
theorem WL.own {b B : Nat} (h : WL S b) (hρ : ρ b = some B) : Own ρ S B := by
 rcases h with ⟨e, h, hz⟩ | ⟨e, h⟩
 ·exact .inl ⟨b, e, h, hz, hρ⟩
 ·exact .inr ⟨b, e, h, hρ⟩
theorem alive_lt (h : RS ρ S H F pbar bar) {x : Nat} (hx : aliveP S x = true) : x < S.next := by
 unfold aliveP at hx;cases gx : S.get x with
 | some e => exact h.sdom x e gx
 | none =>
  rw [gx] at hx;cases mx : S.getM x with
  | none => rw [mx] at hx; cases hx
  | some es => exact (h.mdom x es mx).1
theorem free_of (a b : Nd) (ha : Good pbar bar a) (hb : Good pbar bar b) {i j : Nat} {bs : List Nat} {s : WS} (hij : i < j → Ord a b) (hji : j < i → Ord b a) (hne : i ≠ j) (hw : b.c = .W bs) (hf : freeP a.c i bs b.S j = true) : freeAt a.x s b.H b.H' = true := by
 obtain ⟨ac, aS, aρ, aF, aH, ax, aH'⟩ := a;simp only at hf hij hji ⊢;obtain ⟨w1, w2⟩ := hb.wk bs hw;have same : ∀ B, B < b.H.next → (∀ y ∈ bs, b.ρ y ≠ some B) → sameAt b.H b.H' B = true := fun B hB hn => by
  unfold sameAt;exact @decide_eq_true _ (Classical.propDecidable _) (w2 B hB hn)
 have hcr := ha.cr;unfold freeP at hf;unfold freeAt;split at hf
 ·cases hcr; rfl
 ·cases hcr; rfl
 ·have hlt : i < j := by rw [Nat.ble_eq] at hf; omega
  have o := hij hlt;cases hcr with
  | T0 => rfl
  | @T B hF =>
   simp only [Bool.or_eq_true];refine .inr (same B (Nat.lt_of_lt_of_le (ha.rs.flt B hF) o.hn) fun y hy hρ => ?_);exact hb.rs.fix B ((w1 y hy).own hρ) (o.keep.sub B hF)
 ·rename_i x;simp only [Bool.and_eq_true, Bool.not_eq_true'] at hf;obtain ⟨hx, hf⟩ := hf;have hnx : x ∉ bs := by
   intro hm;rw [List.elem_eq_mem] at hx;simp [hm] at hx
  cases hcr with
  | L0 => rfl
  | @L _ B hρ =>
   simp only [Bool.or_eq_true]
   right
   have hxlt := alive_lt hb.rs hf;have hxB : b.ρ x = some B := by
    rcases Nat.lt_or_ge i j with hlt | hge
    ·exact (hij hlt).ext x B hρ
    ·have o := hji (by omega);rw [← o.old x hxlt]; exact hρ
   refine same B (hb.rs.lt x B hxB) fun y hy hyB => ?_;have := alive_inj hb.rs hf (w1 y hy).alive hxB hyB;subst this;exact hnx hy
 ·cases hf
end
end Go.Pev
namespace Go.Pev
open Go.Abu
section
variable {K : Known}
theorem draw_rel {C : Cfg} (hkn : KnP C K) (hX : XP C K) : DrP C K (drawA C.P K C.wf) := by
 intro rec arec hrec ops pbar bar lo ρ S H F f f' fr S' h k hc;unfold drawP at hc;split at hc
 ·rename_i hst;split at hc
  ·rename_i cs f₁ S₁ hd;split at hc
   ·rename_i hok;cases hc;have hok0 := hok;unfold okP at hok;simp only [List.all_eq_true] at hok;have hx : ∀ c ∈ cs, c.1 ≠ .X := by
     intro c hc e;obtain ⟨j, hj⟩ := List.mem_iff_getElem?.1 hc;have := hok (c, j) (by rw [List.mem_zipIdx_iff_getElem?]; exact hj);simp only [e] at this;cases this
    obtain ⟨T, rfl, fr', H', ρ', F', b1, b2, b3, b4, b7, b5, b6⟩ := drawn_rel hrec hkn hX h (k.withUp []) rfl hd hx;refine ⟨fr', H', ρ', F', ?_, b2, b3, b4.withUp _, rfl, b7⟩;unfold drawA;rw [if_pos hst, b1];simp only;rw [if_pos];unfold clsOk;simp only [List.all_eq_true];rintro ⟨q, j⟩ hq;rw [List.mem_zipIdx_iff_getElem?] at hq;simp only [List.getElem?_map, Option.map_eq_some_iff] at hq;obtain ⟨b, hb, rfl⟩ := hq;simp only;split
    ·rename_i s hs;simp only [List.all_eq_true];rintro ⟨q, i⟩ hq;rw [List.mem_zipIdx_iff_getElem?] at hq;simp only [List.getElem?_map, Option.map_eq_some_iff] at hq;obtain ⟨a, ha, rfl⟩ := hq;simp only;by_cases hij : i = j
     ·subst hij; simp
     ·have hgb := (b5 b (List.mem_iff_getElem?.2 ⟨j, hb⟩)).1;have hga := (b5 a (List.mem_iff_getElem?.2 ⟨i, ha⟩)).1;have hord : ∀ {x y : Nd} {m n : Nat}, T[m]? = some x → T[n]? = some y → m < n → Ord x y := by
       intro x y m n hx hy hmn;rw [List.pairwise_iff_getElem] at b6;obtain ⟨m1, m2⟩ := List.getElem?_eq_some_iff.1 hx;obtain ⟨n1, n2⟩ := List.getElem?_eq_some_iff.1 hy;have := b6 m n m1 n1 hmn;rw [m2, n2] at this;exact this
      have hcr := hgb.cr;have hj := hok ((b.c, b.S), j) (by rw [List.mem_zipIdx_iff_getElem?]; simp [hb]);cases hbc : b.c with
      | W bs =>
       rw [hbc] at hj;simp only [List.all_eq_true] at hj;have h2 := hj ((a.c, a.S), i) (by rw [List.mem_zipIdx_iff_getElem?]; simp [ha]);simp only [Bool.or_eq_true, beq_iff_eq] at h2;rcases h2 with (h2 | h2) | h2
       ·exact absurd h2 hij
       ·simp [h2]
       ·have := free_of a b hga hgb (s := s) (fun hl => hord ha hb hl) (fun hl => hord hb ha hl) hij hbc h2;simp [this]
      | _ =>
       rw [hbc, hs] at hcr;cases hcr
    ·rfl
   ·cases hc
  ·cases hc
 ·cases hc
theorem pev_rel {C : Cfg} (hkn : KnP C K) (hX : XP C K) (n : Nat) : RecP (runP C n) (evalA C.P K (drawA C.P K C.wf) n) := run_rel hkn hX (draw_rel hkn hX) n
theorem pev_call {C : Cfg} (hkn : KnP C K) (hX : XP C K) {n : Nat} {g : FuncId} {ts : List PV} {r : PV} {l : List (Option (List (List PV)))} (h : callT C (runP C n) g ts = some (r, l)) :
  TOk C.P K (evalA C.P K (drawA C.P K C.wf) n) g ts r l := callT_rel (pev_rel hkn hX n) hkn hX h
end
end Go.Pev
namespace Go.Sym
open Go.Abu Go.Pev
inductive F2 {α β : Type} (R : α → β → Prop) : List α → List β → Prop
 | nil : F2 R [] []
 | cons {a : α} {b : β} {as : List α} {bs : List β} (h : R a b) (t : F2 R as bs) : F2 R (a :: as) (b :: bs)
namespace F2
variable {α β : Type} {R R' : α → β → Prop}
theorem mono (h : ∀ a b, R a b → R' a b) : ∀ {as : List α} {bs : List β}, F2 R as bs → F2 R' as bs
 | _, _, .nil => .nil
 | _, _, .cons x t => .cons (h _ _ x) (t.mono h)
theorem len : ∀ {as : List α} {bs : List β}, F2 R as bs → as.length = bs.length
 | _, _, .nil => rfl
 | _, _, .cons _ t => by simp [t.len]
theorem append : ∀ {as cs : List α} {bs ds : List β}, F2 R as bs → F2 R cs ds → F2 R (as ++ cs) (bs ++ ds)
 | _, _, _, _, .nil, k => k
 | _, _, _, _, .cons x t, k => .cons x (t.append k)
theorem take : ∀ {as : List α} {bs : List β} (n : Nat), F2 R as bs → F2 R (as.take n) (bs.take n)
 | _, _, 0, _ => by simpa using .nil
 | _, _, _ + 1, .nil => by simpa using .nil
 | _, _, n + 1, .cons x t => by simpa using .cons x (t.take n)
theorem drop : ∀ {as : List α} {bs : List β} (n : Nat), F2 R as bs → F2 R (as.drop n) (bs.drop n)
 | _, _, 0, h => by simpa using h
 | _, _, _ + 1, .nil => by simpa using .nil
 | _, _, n + 1, .cons x t => by simpa using t.drop n
theorem get : ∀ {as : List α} {bs : List β}, F2 R as bs → ∀ (i : Nat) (a : α), as[i]? = some a → ∃ b, bs[i]? = some b ∧ R a b
 | _, _, .nil, i, a, h => by simp at h
 | _, _, .cons x t, i, a, h => by
  cases i with
  | zero => simp at h; subst h; exact ⟨_, rfl, x⟩
  | succ i => simp at h; obtain ⟨b, h1, h2⟩ := t.get i a h; exact ⟨b, by simpa using h1, h2⟩
end F2
section
variable {α : Type}
theorem look_cons (k i : Nat) (v : α) (l : List (Nat × α)) : look ((k, v) :: l) i = if k = i then some v else look l i := by
 cases h : Nat.beq k i with
 | true => rw [if_pos (Nat.eq_of_beq_eq_true h)]; simp only [look, h]
 | false => rw [if_neg (fun e => by rw [e, Nat.beq_refl] at h; cases h)]; simp only [look, h]
theorem look_mem : ∀ {l : List (Nat × α)} {i : Nat} {v : α}, look l i = some v → (i, v) ∈ l
 | [], i, v, h => by cases h
 | (k, w) :: l, i, v, h => by
  rw [look_cons] at h;split at h
  ·rename_i e; cases h; subst e; simp
  ·exact List.mem_cons_of_mem _ (look_mem h)
theorem look_del (l : List (Nat × α)) (k i : Nat) : look (del l k) i = if i = k then none else look l i := by
 induction l with
 | nil => simp [del, look]
 | cons p l ih =>
  obtain ⟨j, v⟩ := p;unfold del;cases h : Nat.beq j k with
  | true =>
   have e := Nat.eq_of_beq_eq_true h;simp only;rw [ih, look_cons];by_cases hi : i = k
   ·rw [if_pos hi, if_pos hi]
   ·rw [if_neg hi, if_neg hi, if_neg (fun e' => hi (by omega))]
  | false =>
   have e : j ≠ k := fun e => by rw [e, Nat.beq_refl] at h; cases h
   simp only;rw [look_cons, ih, look_cons];by_cases hj : j = i
   ·rw [if_pos hj, if_neg (by omega), if_pos hj]
   ·rw [if_neg hj, if_neg hj]
theorem look_put (l : List (Nat × α)) (k i : Nat) (v : α) : look (put l k v) i = if i = k then some v else look l i := by
 unfold put;rw [look_cons, look_del];by_cases h : k = i
 ·rw [if_pos h, if_pos h.symm]
 ·rw [if_neg h, if_neg (fun e => h e.symm), if_neg (fun e => h e.symm)]
theorem look_some_of_mem {l : List (Nat × α)} {p : Nat × α} (h : p ∈ l) : (look l p.1).isSome = true := by
 induction l with
 | nil => cases h
 | cons q l ih =>
  obtain ⟨j, v⟩ := q;rw [look_cons];split
  ·rfl
  ·rename_i hne;rcases List.mem_cons.1 h with rfl | h
   ·exact absurd rfl hne
   ·exact ih h
end
section
variable {env : List PV} {α β : Type}
def LetsOk (env : List PV) (m : Nat) (l : Lets) : Prop := ∀ i f as, l[i]? = some (f, as) → ∃ vs v, evs env as = some vs ∧ f.ev vs = some v ∧ env[m + i]? = some v
def SzOk (env : List PV) (z : Szs) : Prop := ∀ p ∈ z, ∃ cs, env[p.1]? = some (.agg cs) ∧ cs.length = p.2
theorem LetsOk.left {m : Nat} {l k : Lets} (h : LetsOk env m (l ++ k)) : LetsOk env m l := fun i f as hi => h i f as (by
 rw [List.getElem?_append_left (List.getElem?_eq_some_iff.1 hi).1]; exact hi)
theorem LetsOk.right {m : Nat} {l k : Lets} (h : LetsOk env m (l ++ k)) : LetsOk env (m + l.length) k := fun i f as hi => by
 have := h (l.length + i) f as (by rw [List.getElem?_append_right (by omega)]; rw [show l.length + i - l.length = i by omega]; exact hi)
 rw [Nat.add_assoc]; exact this
theorem SzOk.append {z z' : Szs} (h : SzOk env z) (k : SzOk env z') : SzOk env (z ++ z') := fun p hp => by
 rcases List.mem_append.1 hp with hp | hp
 ·exact h p hp
 ·exact k p hp
theorem SzOk.nil : SzOk env [] := fun p hp => by cases hp
def Sp (env : List PV) (x : EM α) (Q : α → Prop) : Prop := ∀ m z a l z', x m z = some (a, l, z') → LetsOk env m l → SzOk env z → SzOk env z' ∧ Q a
theorem Sp.mono {x : EM α} {P Q : α → Prop} (h : Sp env x P) (k : ∀ a, P a → Q a) : Sp env x Q := fun m z a l z' e hl hz => let ⟨h1, h2⟩ := h m z a l z' e hl hz; ⟨h1, k a h2⟩
theorem Sp.ret {a : α} {Q : α → Prop} (h : Q a) : Sp env (EM.ret a) Q := fun m z b l z' e _ _ => by cases e; exact ⟨.nil, h⟩
theorem Sp.fail {Q : α → Prop} : Sp env (fail : EM α) Q := fun m z b l z' e _ _ => by cases e
theorem Sp.ofO {o : Option α} {Q : α → Prop} (h : ∀ a, o = some a → Q a) : Sp env (ofO o) Q := by
 cases o with
 | none => exact .fail
 | some a => exact .ret (h a rfl)
theorem Sp.bind {x : EM α} {f : α → EM β} {P : α → Prop} {Q : β → Prop} (h : Sp env x P) (k : ∀ a, P a → Sp env (f a) Q) : Sp env (EM.bind x f) Q := by
 intro m z b l z' e hl hz;unfold EM.bind at e;split at e
 ·rename_i a l1 z1 h1;split at e
  ·rename_i b' l2 z2 h2;cases e;obtain ⟨s1, p⟩ := h m z a l1 z1 h1 hl.left hz;obtain ⟨s2, q⟩ := k a p _ _ _ _ _ h2 hl.right (s1.append hz);exact ⟨s2.append s1, q⟩
  ·cases e
 ·cases e
def LetIs (env : List PV) (f : RF) (as : List A) (y : A) : Prop := ∃ vs v, evs env as = some vs ∧ f.ev vs = some v ∧ y.ev env = some v
theorem Sp.emit {f : RF} {as : List A} : Sp env (emit f as) (LetIs env f as) := by
 intro m z a l z' e hl _;cases e;obtain ⟨vs, v, h1, h2, h3⟩ := hl 0 f as rfl;exact ⟨.nil, vs, v, h1, h2, h3⟩
theorem Sp.emitN {f : RF} {as : List A} {n : Nat} (h : ∀ vs v, evs env as = some vs → f.ev vs = some v → ∃ cs, v = .agg cs ∧ cs.length = n) : Sp env (emitN n f as) (LetIs env f as) := by
 intro m z a l z' e hl _;cases e;obtain ⟨vs, v, h1, h2, h3⟩ := hl 0 f as rfl;refine ⟨fun p hp => ?_, vs, v, h1, h2, h3⟩;simp at hp; subst hp;obtain ⟨cs, rfl, h⟩ := h vs v h1 h2;exact ⟨cs, h3, h⟩
theorem Sp.sizeOf {x : A} : Sp env (sizeOf? x) (fun k => ∀ n, k = some n → ∃ cs, x.ev env = some (.agg cs) ∧ cs.length = n) := by
 intro m z a l z' e _ hz;unfold sizeOf? at e;cases e;refine ⟨.nil, fun n hn => ?_⟩;cases x with
 | x i => obtain ⟨cs, h1, h2⟩ := hz (i, n) (look_mem hn); exact ⟨cs, h1, h2⟩
 | c p => cases hn
theorem evs1 {a : A} {vs : List PV} (h : evs env [a] = some vs) : ∃ v, a.ev env = some v ∧ vs = [v] := by
 simp only [evs] at h;split at h
 ·rename_i v hv; cases h; exact ⟨v, hv, rfl⟩
 ·cases h
theorem evs2 {a b : A} {vs : List PV} (h : evs env [a, b] = some vs) : ∃ v w, a.ev env = some v ∧ b.ev env = some w ∧ vs = [v, w] := by
 simp only [evs] at h;split at h
 ·rename_i v hv;split at h
  ·rename_i ws hw;cases h;split at hw
   ·rename_i w hw'; cases hw; exact ⟨v, w, hv, hw', rfl⟩
   ·cases hw
  ·cases h
 ·cases h
theorem evs3 {a b c : A} {vs : List PV} (h : evs env [a, b, c] = some vs) : ∃ u v w, a.ev env = some u ∧ b.ev env = some v ∧ c.ev env = some w ∧ vs = [u, v, w] := by
 unfold evs at h;split at h
 ·rename_i u hu;split at h
  ·rename_i ws hw;cases h;obtain ⟨v, w, h1, h2, rfl⟩ := evs2 hw;exact ⟨u, v, w, hu, h1, h2, rfl⟩
  ·cases h
 ·cases h
theorem ev_mono {e' : List PV} {a : A} {v : PV} (h : a.ev env = some v) : a.ev (env ++ e') = some v := by
 cases a with
 | x i =>
  simp only [A.ev] at h ⊢;rw [List.getElem?_append_left (List.getElem?_eq_some_iff.1 h).1]; exact h
 | c p => exact h
end
def Smc (v p : PV) : Prop := p = v ∨ (v = .sl [] ∧ p = .nil)
section
variable (env : List PV) (ρ : Nat → Option Nat) (L : Nat → Option Nat) (nb : Nat)
inductive DCap : Cap → PV → Prop
 | ptr {b o k : Nat} (h : ρ b = some k) (hb : b < nb) : DCap (.ptr b o) (.ptr k 0 o)
 | a {x : A} {v p : PV} (h : x.ev env = some v) (ht : t0 v = true) (hs : Smc v p) : DCap (.a x) p
inductive DC : SC → PV → Prop
 | a {x : A} {v p : PV} (h : x.ev env = some v) (ht : t0 v = true) (hs : Smc v p) : DC (.a x) p
 | pc {x : A} {i : Nat} {cs : List PV} {v p : PV} (h : x.ev env = some (.agg cs)) (hi : cs[i]? = some v) (ha : cs.all t0 = true) (hs : Smc v p) : DC (.pc x i) p
 | nil : DC .nil .nil
 | ptr {b o k : Nat} (h : ρ b = some k) (hb : b < nb) : DC (.ptr b o) (.ptr k 0 o)
 | ep {b k o : Nat} {i : A} {kk : IntKind} {n : Int} (h : ρ b = some k) (hb : b < nb) (hi : i.ev env = some (.v (.int kk n))) (hn : 0 ≤ n) : DC (.ep b i o) (.ptr k n.toNat o)
 | tp {l i : A} {o : Nat} {els : List (List PV)} {kk : IntKind} {n : Int} (h : l.ev env = some (.sl els)) (hi : i.ev env = some (.v (.int kk n))) (hn : 0 ≤ n) : DC (.tp l i o) (.slp els n.toNat o)
 | lsl {b k : Nat} {o n : A} {oi ni : Nat} (h : ρ b = some k) (hb : b < nb) (ho : o.ev env = some (.i64 oi)) (hn : n.ev env = some (.i64 ni)) (hl : ∀ len, L b = some len → oi + ni ≤ len) : DC (.lsl b o n) (.lsl k oi ni)
 | gh {b : Nat} {o n : A} (h : ρ b = none) (hb : b < nb) (ho : o.ev env = some (.i64 0)) (hn : n.ev env = some (.i64 0)) : DC (.lsl b o n) .nil
 | yl {b k : Nat} (h : ρ b = some k) (hb : b < nb) : DC (.yl b) (.yl k)
 | fn {g : Nat} {f c : List Cap} {ps qs : List PV} (h1 : F2 (DCap env ρ nb) f ps) (h2 : F2 (DCap env ρ nb) c qs) : DC (.fn g f c) (.fn g ps qs)
inductive DW : SW → PV → Prop
 | c {x : SC} {p : PV} (h : DC env ρ L nb x p) : DW (.c x) p
 | av {x : A} {cs ps : List PV} (h : x.ev env = some (.agg cs)) (ht : cs.all t0 = true) (hs : F2 Smc cs ps) : DW (.av x) (.agg ps)
 | fv {x : A} {g : FuncId} {a c : List PV} (h : x.ev env = some (.fn g a c)) (h1 : a.all t0 = true) (h2 : c.all t0 = true) : DW (.c (.fv x)) (.fn g a c)
 | agg {cs : List SC} {ps : List PV} (h : F2 (DC env ρ L nb) cs ps) : DW (.agg cs) (.agg ps)
inductive DV : SV → PV → Prop
 | w {w : SW} {p : PV} (h : DW env ρ L nb w p) : DV (.w w) p
 | tup {ws : List SW} {ps : List PV} (h : F2 (DW env ρ L nb) ws ps) : DV (.tup ws) (.tup ps)
end
section
variable {env : List PV} {ρ ρ' : Nat → Option Nat} {L L' : Nat → Option Nat} {nb nb' : Nat}
structure Sx (env : List PV) (ρ : Nat → Option Nat) (L : Nat → Option Nat) (nb : Nat) (env' : List PV) (ρ' : Nat → Option Nat) (L' : Nat → Option Nat) (nb' : Nat) : Prop where
 env : ∃ e, env' = env ++ e
 rho : ∀ b, b < nb → ρ' b = ρ b
 len : ∀ b n, b < nb → L' b = some n → L b = some n
 nb : nb ≤ nb'
theorem Sx.refl : Sx env ρ L nb env ρ L nb := ⟨⟨[], by simp⟩, fun _ _ => rfl, fun _ _ _ h => h, Nat.le_refl _⟩
theorem Sx.ev {env' : List PV} (k : Sx env ρ L nb env' ρ' L' nb') {a : A} {v : PV} (h : a.ev env = some v) : a.ev env' = some v := by
 obtain ⟨e, rfl⟩ := k.env;exact ev_mono h
theorem DCap.step {env' : List PV} (k : Sx env ρ L nb env' ρ' L' nb') {c : Cap} {p : PV} (h : DCap env ρ nb c p) : DCap env' ρ' nb' c p := by
 cases h with
 | ptr h hb => exact .ptr ((k.rho _ hb).trans h) (Nat.lt_of_lt_of_le hb k.nb)
 | a h ht hs => exact .a (k.ev h) ht hs
theorem DC.step {env' : List PV} (k : Sx env ρ L nb env' ρ' L' nb') {c : SC} {p : PV} (h : DC env ρ L nb c p) : DC env' ρ' L' nb' c p := by
 cases h with
 | a h ht hs => exact .a (k.ev h) ht hs
 | pc h hi ha hs => exact .pc (k.ev h) hi ha hs
 | nil => exact .nil
 | ptr h hb => exact .ptr ((k.rho _ hb).trans h) (Nat.lt_of_lt_of_le hb k.nb)
 | ep h hb hi hn => exact .ep ((k.rho _ hb).trans h) (Nat.lt_of_lt_of_le hb k.nb) (k.ev hi) hn
 | tp h hi hn => exact .tp (k.ev h) (k.ev hi) hn
 | lsl h hb ho hn hl => exact .lsl ((k.rho _ hb).trans h) (Nat.lt_of_lt_of_le hb k.nb) (k.ev ho) (k.ev hn) (fun len hlen => hl len (k.len _ _ hb hlen))
 | gh h hb ho hn => exact .gh ((k.rho _ hb).trans h) (Nat.lt_of_lt_of_le hb k.nb) (k.ev ho) (k.ev hn)
 | yl h hb => exact .yl ((k.rho _ hb).trans h) (Nat.lt_of_lt_of_le hb k.nb)
 | fn h1 h2 => exact .fn (h1.mono fun _ _ h => h.step k) (h2.mono fun _ _ h => h.step k)
theorem DW.step {env' : List PV} (k : Sx env ρ L nb env' ρ' L' nb') {w : SW} {p : PV} (h : DW env ρ L nb w p) : DW env' ρ' L' nb' w p := by
 cases h with
 | c h => exact .c (h.step k)
 | av h ht hs => exact .av (k.ev h) ht hs
 | fv h h1 h2 => exact .fv (k.ev h) h1 h2
 | agg h => exact .agg (h.mono fun _ _ h => h.step k)
theorem DV.step {env' : List PV} (k : Sx env ρ L nb env' ρ' L' nb') {w : SV} {p : PV} (h : DV env ρ L nb w p) : DV env' ρ' L' nb' w p := by
 cases h with
 | w h => exact .w (h.step k)
 | tup h => exact .tup (h.mono fun _ _ h => h.step k)
theorem Smc.sc {v p : PV} (h : Smc v p) (ht : t0 v = true) : p.sc = true := by
 rcases h with rfl | ⟨rfl, rfl⟩
 ·cases p <;> simp [t0] at ht <;> rfl
 ·rfl
theorem all_get {cs : List PV} (h : cs.all t0 = true) {i : Nat} {v : PV} (hi : cs[i]? = some v) : t0 v = true := List.all_eq_true.1 h v (List.mem_iff_getElem?.2 ⟨i, hi⟩)
theorem DC.sc {c : SC} {p : PV} (h : DC env ρ L nb c p) : p.sc = true := by
 cases h with
 | a h ht hs => exact hs.sc ht
 | pc h hi ha hs => exact hs.sc (all_get ha hi)
 | _ => rfl
theorem F2.sc {cs : List SC} {ps : List PV} : F2 (DC env ρ L nb) cs ps → ps.all PV.sc = true := by
 intro h;induction h with
 | nil => rfl
 | cons h _ ih => simp [h.sc, ih]
def EnvG (I : FuncId → Bool) (env : List PV) : Prop := ∀ v ∈ env, tG I v = true
theorem EnvG.agg {I : FuncId → Bool} (hg : EnvG I env) {x : A} {cs : List PV} (h : x.ev env = some (.agg cs)) (hx : ∀ p, x ≠ .c p) : cs.all t0 = true := by
 cases x with
 | x i =>
  have := hg _ (List.mem_iff_getElem?.2 ⟨i, h⟩);exact this
 | c p => exact absurd rfl (hx p)
end
end Go.Sym
namespace Go.Sym
open Go.Abu Go.Pev
def lenOf (env : List PV) (σ : SS) (b : Nat) : Option Nat :=
 match look σ.bl b with
 | some (.lst l _ _ _) => match l.ev env with
  | some (.sl els) => some els.length
  | _ => none
 | _ => none
inductive DB (env : List PV) (ρ L : Nat → Option Nat) (nb : Nat) (s : St) (b : Nat) : SB → Prop
 | box {cs : List SC} {z : Nat} {fz : Bool} {k : Nat} {e : Ent} {ps : List PV} (hρ : ρ b = some k) (hg : s.get k = some e) (hb : e.box = true) (hf : e.fz = fz) (he : e.els = [ps]) (h : F2 (DC env ρ L nb) cs ps) : DB env ρ L nb s b (.box cs z fz)
 | lst {l : A} {ty z : Nat} {fz : Bool} {k : Nat} {els : List (List PV)} (hρ : ρ b = some k) (hl : l.ev env = some (.sl els)) (hg : s.get k = some ⟨els, ty, z, false, fz⟩) : DB env ρ L nb s b (.lst l ty z fz)
 | gh {l : A} {ty z : Nat} {fz : Bool} (hρ : ρ b = none) (hl : l.ev env = some (.sl [])) : DB env ρ L nb s b (.lst l ty z fz)
structure Rb (I : FuncId → Bool) (env : List PV) (ρ : Nat → Option Nat) (σ : SS) (s : St) : Prop where
 bl : ∀ b sb, look σ.bl b = some sb → b < σ.nb ∧ DB env ρ (lenOf env σ) σ.nb s b sb
 inj : ∀ b b' k, (look σ.bl b).isSome = true → (look σ.bl b').isSome = true → ρ b = some k → ρ b' = some k → b = b'
 dom : ∀ b k, (look σ.bl b).isSome = true → ρ b = some k → k < s.next
 fc : ∀ p ∈ σ.fc, env[p.1]? = some (.v (.bool p.2))
 sz : SzOk env σ.sz
 le : ∀ p ∈ σ.le, ρ p.2 = some p.1 ∧ p.2 < σ.nb
 ld : ∀ p ∈ σ.ld, p.1 < s.next ∧ (s.get p.1 = none ∨ ∃ b ∈ p.2, ρ b = some p.1 ∧ b < σ.nb)
 nn : ∀ b ∈ σ.nn, b < σ.nb ∧ ∃ k, ρ b = some k
structure Rt (env : List PV) (ρ : Nat → Option Nat) (L : Nat → Option Nat) (nb n : Nat) (tm : List (Nat × SV)) (f : PF) : Prop where
 n : f.n = n
 tm : ∀ t v, look tm t = some v → ∃ p, f.m t = some p ∧ DV env ρ L nb v p
section
variable {P : Program} {I : FuncId → Bool} {env : List PV} {ρ : Nat → Option Nat} {σ : SS} {s : St} {L : Nat → Option Nat} {nb : Nat}
theorem letIs1 {f : RF} {a y : A} {v : PV} (h : LetIs env f [a] y) (ha : a.ev env = some v) : ∃ u, f.ev [v] = some u ∧ y.ev env = some u := by
 obtain ⟨vs, u, h1, h2, h3⟩ := h;obtain ⟨v', h4, rfl⟩ := evs1 h1;rw [ha] at h4; cases h4;exact ⟨u, h2, h3⟩
theorem letIs2 {f : RF} {a b y : A} {v w : PV} (h : LetIs env f [a, b] y) (ha : a.ev env = some v) (hb : b.ev env = some w) : ∃ u, f.ev [v, w] = some u ∧ y.ev env = some u := by
 obtain ⟨vs, u, h1, h2, h3⟩ := h;obtain ⟨v', w', h4, h5, rfl⟩ := evs2 h1;rw [ha] at h4; cases h4;rw [hb] at h5; cases h5;exact ⟨u, h2, h3⟩
theorem letIs3 {f : RF} {a b c y : A} {u v w : PV} (h : LetIs env f [a, b, c] y) (ha : a.ev env = some u) (hb : b.ev env = some v) (hc : c.ev env = some w) : ∃ r, f.ev [u, v, w] = some r ∧ y.ev env = some r := by
 obtain ⟨vs, r, h1, h2, h3⟩ := h;obtain ⟨u', v', w', h4, h5, h6, rfl⟩ := evs3 h1;rw [ha] at h4; cases h4;rw [hb] at h5; cases h5;rw [hc] at h6; cases h6;exact ⟨r, h2, h3⟩
theorem cellA_ok {c : SC} {p : PV} (h : DC env ρ L nb c p) : Sp env (cellA c) (fun a => ∃ v, a.ev env = some v ∧ t0 v = true ∧ Smc v p) := by
 cases h with
 | a h ht hs => exact .ret ⟨_, h, ht, hs⟩
 | pc h hi ha hs =>
  have ht := all_get ha hi;refine Sp.emit.mono fun y hy => ?_;obtain ⟨u, h1, h2⟩ := letIs1 hy h;simp only [RF.ev] at h1;rw [hi] at h1; cases h1;exact ⟨_, h2, ht, hs⟩
 | nil => exact .ret ⟨_, rfl, rfl, .inr ⟨rfl, rfl⟩⟩
 | _ => exact .fail
theorem shaped_ok {n : Nat} {x : A} {cs : List PV} (h : x.ev env = some (.agg cs)) : Sp env (shaped n x) (fun y => y.ev env = some (.agg cs) ∧ cs.length = n) := by
 unfold shaped;refine Sp.bind Sp.sizeOf fun k hk => ?_;cases k with
 | none =>
  refine Sp.mono (Sp.emitN fun vs v h1 h2 => ?_) fun y hy => ?_
  ·obtain ⟨v', h4, rfl⟩ := evs1 h1;rw [h] at h4; cases h4;simp only [RF.ev] at h2;split at h2
   ·rename_i hl; cases h2; exact ⟨cs, rfl, hl⟩
   ·cases h2
  ·obtain ⟨u, h1, h2⟩ := letIs1 hy h;simp only [RF.ev] at h1;split at h1
   ·rename_i hl; cases h1; exact ⟨h2, hl⟩
   ·cases h1
 | some k =>
  simp only;split
  ·rename_i hb;have := Nat.eq_of_beq_eq_true hb;subst this;obtain ⟨cs', h1, h2⟩ := hk k rfl;rw [h] at h1; cases h1;exact .ret ⟨h, h2⟩
  ·exact .fail
theorem drop_cons {α : Type} {l : List α} {i : Nat} {a : α} {r : List α} (h : l.drop i = a :: r) : l[i]? = some a ∧ l.drop (i + 1) = r := by
 have : l[i]? = (l.drop i)[0]? := by simp
 rw [h] at this;refine ⟨by simpa using this, ?_⟩
 rw [← List.drop_drop, h]; rfl
theorem pcs_ok {x : A} {cs : List PV} (h : x.ev env = some (.agg cs)) (ht : cs.all t0 = true) : ∀ (n i : Nat) {ds ps : List PV}, cs.drop i = ds → ds.length = n → F2 Smc ds ps → F2 (DC env ρ L nb) (pcs x i n) ps
 | 0, i, ds, ps, hd, hn, hs => by
  have : ds = [] := List.eq_nil_of_length_eq_zero hn;subst this; cases hs; exact .nil
 | n + 1, i, ds, ps, hd, hn, hs => by
  cases hs with
  | nil => simp at hn
  | cons hv t =>
   obtain ⟨h1, h2⟩ := drop_cons hd;exact .cons (.pc h h1 ht hv) (pcs_ok h ht n (i + 1) h2 (by simpa using hn) t)
theorem cellsT_ok {t : TypeId} {w : SW} {p : PV} (h : DW env ρ L nb w p) : Sp env (cellsT P t w) (fun cs => F2 (DC env ρ L nb) cs p.cells ∧ szT P t = some p.cells.length) := by
 unfold cellsT;split
 ·split
  ·rename_i n hn;cases h with
   | c h => exact .fail
   | fv => exact .fail
   | av h ht hs =>
    refine Sp.bind (shaped_ok h) fun y hy => .ret ⟨?_, ?_⟩
    ·rw [← hy.2];exact pcs_ok hy.1 ht _ 0 rfl rfl hs
    ·rw [hn, ← hy.2, hs.len]; rfl
   | agg h =>
    simp only;split
    ·rename_i hb;have := Nat.eq_of_beq_eq_true hb;exact .ret ⟨h, by rw [hn, ← this, h.len]; rfl⟩
    ·exact .fail
  ·exact .fail
 ·split
  ·rename_i hn;cases h with
   | c h =>
    have hc : p.cells = [p] := by
     have := h.sc;cases p <;> first | rfl | (simp [PV.sc] at this)
    rw [hc];split
    ·exact .fail
    ·rename_i e; cases e; exact .ret ⟨.cons h .nil, hn⟩
    ·exact .fail
   | fv => exact .fail
   | av => exact .fail
   | agg => exact .fail
  ·exact .fail
 ·exact .fail
theorem A.same_eq {x y : A} (h : A.same x y = true) : x = y := by
 cases x <;> cases y <;> simp only [A.same] at h <;> first | (cases h; done) | (have := Nat.eq_of_beq_eq_true h; subst this; rfl)
theorem run_ok {x : A} {cs : List PV} (h : x.ev env = some (.agg cs)) : ∀ (l : List SC) (i : Nat) {ps : List PV}, F2 (DC env ρ L nb) l ps → F2 Smc ((cs.drop i).take (runLen x i l)) (ps.take (runLen x i l)) ∧ i + runLen x i l ≤ max i cs.length ∧ runLen x i l ≤ l.length
 | [], i, ps, hf => by simp only [runLen, List.take_zero]; exact ⟨.nil, by omega, Nat.le_refl _⟩
 | c :: l, i, ps, hf => by
  cases hf with
  | @cons _ p _ ps hc t =>
   cases c with
   | pc y j =>
    simp only [runLen];split
    ·rename_i hb;simp only [Bool.and_eq_true] at hb;have e1 := A.same_eq hb.1;have e2 := Nat.eq_of_beq_eq_true hb.2;subst e1; subst e2;obtain ⟨k1, k2, k3⟩ := run_ok h l (i + 1) t;cases hc with
     | pc h' hi ht hs =>
      rw [h] at h'; cases h';have hlt := (List.getElem?_eq_some_iff.1 hi).1;refine ⟨?_, by omega, by simp; omega⟩;rw [List.take_succ_cons];have hd : cs.drop i = cs[i] :: cs.drop (i + 1) := List.drop_eq_getElem_cons hlt;rw [hd, List.take_succ_cons];have : cs[i] = _ := (List.getElem?_eq_some_iff.1 hi).2;rw [this];exact .cons hs k1
    ·simp only [List.take_zero]; exact ⟨.nil, by omega, Nat.zero_le _⟩
   | _ => simp only [runLen, List.take_zero]; exact ⟨.nil, by omega, Nat.zero_le _⟩
theorem collapse_ok {cs : List SC} {ps : List PV} (h : F2 (DC env ρ L nb) cs ps) : Sp env (collapse cs) (fun w => DW env ρ L nb w (.agg ps)) := by
 unfold collapse;split
 ·rename_i x i rest;split
  ·rename_i hb;have hrun := Nat.eq_of_beq_eq_true hb;cases h with
   | @cons _ p _ ps hc t =>
    cases hc with
    | @pc _ _ ds v _ hx hi hall hs =>
     obtain ⟨k1, k2, k3⟩ := run_ok hx rest (i + 1) t;rw [hrun] at k1 k2;have hlt := (List.getElem?_eq_some_iff.1 hi).1;have hlen := t.len;have hps : ps.take rest.length = ps := List.take_of_length_le (by omega);rw [hps] at k1;have hd : (ds.drop i).take (rest.length + 1) = v :: (ds.drop (i + 1)).take rest.length := by
      rw [List.drop_eq_getElem_cons hlt, List.take_succ_cons]
      congr 1
      exact (List.getElem?_eq_some_iff.1 hi).2
     have hall2 : F2 Smc ((ds.drop i).take (rest.length + 1)) (p :: ps) := by rw [hd]; exact .cons hs k1
     have part : Sp env (EM.bind (emitN (SC.pc x i :: rest).length (.part i (SC.pc x i :: rest).length) [x]) fun y => EM.ret (SW.av y)) (fun w => DW env ρ L nb w (.agg (p :: ps))) := by
      refine Sp.bind (Sp.emitN fun vs v h1 h2 => ?_) fun y hy => ?_
      ·obtain ⟨v', h4, rfl⟩ := evs1 h1;rw [hx] at h4; cases h4;simp only [RF.ev] at h2;split at h2
       ·rename_i hl; cases h2;exact ⟨_, rfl, by rw [List.length_take, List.length_drop]; omega⟩
       ·cases h2
      ·obtain ⟨u, h1, h2⟩ := letIs1 hy hx;simp only [RF.ev] at h1;split at h1
       ·cases h1;refine .ret (.av h2 ?_ hall2);rw [List.all_eq_true] at hall ⊢;exact fun q hq => hall q (List.mem_of_mem_drop (List.mem_of_mem_take hq))
       ·cases h1
     refine Sp.bind Sp.sizeOf fun k hk => ?_;split
     ·rename_i hb2;cases k with
      | none => cases hb2
      | some k =>
       simp only [Bool.and_eq_true] at hb2;have e1 := Nat.eq_of_beq_eq_true hb2.1;have e2 := Nat.eq_of_beq_eq_true hb2.2;subst e1;obtain ⟨ds', h1, h2⟩ := hk k rfl;rw [hx] at h1; cases h1;have : (ds.drop 0).take (rest.length + 1) = ds := by
        rw [List.drop_zero, List.take_of_length_le];simp at e2; omega
       rw [this] at hall2;exact .ret (.av hx hall hall2)
     ·exact part
  ·exact .ret (.agg h)
 ·exact .ret (.agg h)
end
end Go.Sym
namespace Go.Sym
open Go.Abu Go.Pev
section
variable {P : Program} {I : FuncId → Bool} {env : List PV} {ρ : Nat → Option Nat} {σ : SS} {s : St} {L : Nat → Option Nat} {nb : Nat}
theorem part_agg_eq {t : TypeId} {ps : List PV} {o n : Nat} (h1 : isAggT P t = some true) (h2 : szT P t = some n) (h3 : o + n ≤ ps.length) : Pev.part P t ps o = some (.agg ((ps.drop o).take n)) := by
 unfold Pev.part; rw [h1]; simp only; rw [h2]; simp only; rw [if_pos h3]
theorem part_one_eq {t : TypeId} {ps : List PV} {o : Nat} (h1 : isAggT P t = some false) : Pev.part P t ps o = ps[o]? := by
 unfold Pev.part; rw [h1]
theorem plainC_ok {t : TypeId} {c : SC} {p : PV} (h : DC env ρ L nb c p) : Sp env (plainC P t c) (fun w => DW env ρ L nb w p) := by
 unfold plainC;split
 ·split
  ·cases h with
   | pc hx hi ha hs =>
    refine Sp.bind Sp.emit fun y hy => ?_;obtain ⟨u, h1, h2⟩ := letIs1 hy hx;simp only [RF.ev] at h1;rw [hi] at h1; cases h1;exact .ret (.c (.a h2 (all_get ha hi) hs))
  ·exact .ret (.c h)
 ·exact .ret (.c h)
theorem partT_ok {t : TypeId} {cs : List SC} {ps : List PV} {o : Nat} (h : F2 (DC env ρ L nb) cs ps) : Sp env (partT P t cs o) (fun w => ∃ q, Pev.part P t ps o = some q ∧ DW env ρ L nb w q) := by
 unfold partT;split
 ·rename_i ha;split
  ·rename_i n hn;split
   ·rename_i hb;have hle : o + n ≤ ps.length := by rw [← h.len]; rw [Nat.ble_eq] at hb; exact hb
    exact (collapse_ok ((h.drop o).take n)).mono fun w hw => ⟨_, part_agg_eq ha hn hle, hw⟩
   ·exact .fail
  ·exact .fail
 ·rename_i ha;split
  ·rename_i c hc;obtain ⟨p, h1, h2⟩ := h.get o c hc;exact (plainC_ok h2).mono fun w hw => ⟨p, by rw [part_one_eq ha]; exact h1, hw⟩
  ·exact .fail
 ·exact .fail
theorem cnt_spec {t : TypeId} {n : Nat} (h : cnt P t = some n) : (n = 0 ∧ isAggT P t = some false) ∨ (0 < n ∧ isAggT P t = some true ∧ szT P t = some n) := by
 unfold cnt at h;split at h
 ·rename_i ha;split at h
  ·rename_i k hk; cases h; exact .inr ⟨by omega, ha, hk⟩
  ·cases h
 ·rename_i ha; cases h; exact .inl ⟨rfl, ha⟩
 ·cases h
theorem smc_refl : ∀ (l : List PV), F2 Smc l l
 | [] => .nil
 | _ :: l => .cons (.inl rfl) (smc_refl l)
theorem rowPart_spec {t : TypeId} {o n : Nat} {row : List PV} {v : PV} (hc : cnt P t = some n) (h : rowPart o n row = some v) : Pev.part P t row o = some v ∧ ((n = 0 ∧ t0 v = true) ∨ (0 < n ∧ ∃ cs, v = .agg cs ∧ cs.length = n ∧ cs.all t0 = true)) := by
 rcases cnt_spec hc with ⟨rfl, ha⟩ | ⟨hn, ha, hz⟩
 ·simp only [rowPart] at h;split at h
  ·rename_i p hp;split at h
   ·rename_i ht; cases h; exact ⟨by rw [part_one_eq ha]; exact hp, .inl ⟨rfl, ht⟩⟩
   ·cases h
  ·cases h
 ·unfold rowPart at h;split at h
  ·omega
  ·split at h
   ·rename_i hcond;cases h;exact ⟨part_agg_eq ha hz hcond.1, .inr ⟨hn, _, rfl, by rw [List.length_take, List.length_drop]; omega, hcond.2⟩⟩
   ·cases h
theorem emitPart_ok {t : TypeId} {n : Nat} {f : RF} {as : List A} {G : PV → Prop} (hc : cnt P t = some n) (h : ∀ vs v, evs env as = some vs → f.ev vs = some v → ∃ o row, rowPart o n row = some v ∧ G v) : Sp env (emitPart n f as) (fun w => ∃ q, DW env ρ L nb w q ∧ G q) := by
 unfold emitPart;split
 ·refine Sp.bind Sp.emit fun y hy => ?_;obtain ⟨vs, v, h1, h2, h3⟩ := hy;obtain ⟨o, row, h4, h5⟩ := h vs v h1 h2;rcases (rowPart_spec hc h4).2 with ⟨_, ht⟩ | ⟨hn, _⟩
  ·exact .ret ⟨v, .c (.a h3 ht (.inl rfl)), h5⟩
  ·omega
 ·rename_i hne;refine Sp.bind (Sp.emitN fun vs v h1 h2 => ?_) fun y hy => ?_
  ·obtain ⟨o, row, h4, h5⟩ := h vs v h1 h2;rcases (rowPart_spec hc h4).2 with ⟨h0, ht⟩ | ⟨hn, cs, rfl, hl, ht⟩
   ·exact absurd h0 (hne)
   ·exact ⟨cs, rfl, hl⟩
  ·obtain ⟨vs, v, h1, h2, h3⟩ := hy;obtain ⟨o, row, h4, h5⟩ := h vs v h1 h2;rcases (rowPart_spec hc h4).2 with ⟨h0, ht⟩ | ⟨hn, cs, rfl, hl, ht⟩
   ·exact absurd h0 (hne)
   ·exact .ret ⟨.agg cs, .av h3 ht (smc_refl cs), h5⟩
theorem elt_spec {o n : Nat} {els : List (List PV)} {k : IntKind} {i : Int} {v : PV} (h : (RF.elt o n).ev [.sl els, .v (.int k i)] = some v) : 0 ≤ i ∧ ∃ row, els[i.toNat]? = some row ∧ rowPart o n row = some v := by
 simp only [RF.ev] at h;split at h
 ·rename_i hi;split at h
  ·rename_i row hr; exact ⟨hi, row, hr, h⟩
  ·cases h
 ·cases h
theorem loadS_ok (hb : Rb I env ρ σ s) {t : TypeId} {c : SC} {p : PV} (h : DC env ρ (lenOf env σ) σ.nb c p) : Sp env (loadS P σ t c) (fun w => ∃ q, pLoad P s t p = some q ∧ DW env ρ (lenOf env σ) σ.nb w q) := by
 cases h with
 | @ptr b o k hρ hlt =>
  simp only [loadS];split
  ·rename_i cs z fz hl;obtain ⟨_, hdb⟩ := hb.bl b _ hl;cases hdb with
   | box hρ' hg hbx hf he hcs =>
    rw [hρ] at hρ'; cases hρ';exact (partT_ok (P := P) hcs).mono fun w ⟨q, h1, h2⟩ => ⟨q, by simp only [pLoad, hg, he]; exact h1, h2⟩
  ·exact .fail
 | @ep b k o i kk n hρ hlt hi hn =>
  simp only [loadS];split
  ·rename_i l ty z fz hl;split
   ·rename_i m hm;obtain ⟨_, hdb⟩ := hb.bl b _ hl;cases hdb with
    | gh hρ' _ => rw [hρ] at hρ'; cases hρ'
    | lst hρ' hlv hg =>
     rw [hρ] at hρ'; cases hρ';refine (emitPart_ok hm (G := fun q => pLoad P s t (.ptr k n.toNat o) = some q) fun vs v h1 h2 => ?_).mono fun w ⟨q, a, b⟩ => ⟨q, b, a⟩;obtain ⟨x, y, e1, e2, rfl⟩ := evs2 h1;rw [hlv] at e1; cases e1;rw [hi] at e2; cases e2;obtain ⟨_, row, r1, r2⟩ := elt_spec h2;exact ⟨o, row, r2, by simp only [pLoad, hg, r1]; exact (rowPart_spec hm r2).1⟩
   ·exact .fail
  ·exact .fail
 | @tp l i o els kk n hl hi hn =>
  simp only [loadS];split
  ·rename_i m hm;refine (emitPart_ok hm (G := fun q => pLoad P s t (.slp els n.toNat o) = some q) fun vs v h1 h2 => ?_).mono fun w ⟨q, a, b⟩ => ⟨q, b, a⟩;obtain ⟨x, y, e1, e2, rfl⟩ := evs2 h1;rw [hl] at e1; cases e1;rw [hi] at e2; cases e2;obtain ⟨_, row, r1, r2⟩ := elt_spec h2;exact ⟨o, row, r2, by simp only [pLoad, r1]; exact (rowPart_spec hm r2).1⟩
  ·exact .fail
 | @a x v _ hx ht hs =>
  simp only [loadS];split
  ·rename_i m hm;refine (emitPart_ok hm (G := fun q => pLoad P s t p = some q) fun vs w h1 h2 => ?_).mono fun w ⟨q, a, b⟩ => ⟨q, b, a⟩;obtain ⟨x', e1, rfl⟩ := evs1 h1;rw [hx] at e1; cases e1;cases v <;> simp only [RF.ev] at h2 <;> try (cases h2; done)
   rename_i els i o;split at h2
   ·rename_i row hr;refine ⟨o, row, h2, ?_⟩;rcases hs with rfl | ⟨e, _⟩
    ·simp only [pLoad, hr]; exact (rowPart_spec hm h2).1
    ·cases e
   ·cases h2
  ·exact .fail
 | @pc x i cs v _ hx hi ha hs =>
  simp only [loadS];refine Sp.bind Sp.emit fun y hy => ?_;obtain ⟨u, h1, h2⟩ := letIs1 hy hx;simp only [RF.ev] at h1;rw [hi] at h1; cases h1;split
  ·rename_i m hm;refine (emitPart_ok hm (G := fun q => pLoad P s t p = some q) fun vs w h1 h3 => ?_).mono fun w ⟨q, a, b⟩ => ⟨q, b, a⟩;obtain ⟨x', e1, rfl⟩ := evs1 h1;rw [h2] at e1; cases e1;cases v <;> simp only [RF.ev] at h3 <;> try (cases h3; done)
   rename_i els i o;split at h3
   ·rename_i row hr;refine ⟨o, row, h3, ?_⟩;rcases hs with rfl | ⟨e, _⟩
    ·simp only [pLoad, hr]; exact (rowPart_spec hm h3).1
    ·cases e
   ·cases h3
  ·exact .fail
 | _ => exact .fail
abbrev blocks (ρ : Nat → Option Nat) (bs : List Nat) : List Nat := bs.filterMap ρ
theorem deep0S_ok (hb : Rb I env ρ σ s) {c : SC} {p : PV} (h : DC env ρ (lenOf env σ) σ.nb c p) : Sp env (deep0S σ c) (fun r => (∃ q, deep0 s p = some (q, blocks ρ r.2) ∧ r.1.ev env = some q ∧ t0 q = true) ∧ ∀ b ∈ r.2, (look σ.bl b).isSome = true) := by
 have smc : ∀ {v : PV}, t0 v = true → Smc v p → deep0 s p = some (v, []) := by
  intro v ht hs;rcases hs with rfl | ⟨rfl, rfl⟩
  ·cases p <;> simp [t0] at ht <;> rfl
  ·rfl
 cases h with
 | a hx ht hs => exact .ret ⟨⟨_, smc ht hs, hx, ht⟩, fun b hb => by cases hb⟩
 | pc hx hi ha hs =>
  simp only [deep0S];refine Sp.bind Sp.emit fun y hy => ?_;obtain ⟨u, h1, h2⟩ := letIs1 hy hx;simp only [RF.ev] at h1;rw [hi] at h1; cases h1;exact .ret ⟨⟨_, smc (all_get ha hi) hs, h2, all_get ha hi⟩, fun b hb => by cases hb⟩
 | nil => exact .ret ⟨⟨_, rfl, rfl, rfl⟩, fun b hb => by cases hb⟩
 | @lsl b k o n oi ni hρ hlt ho hn hlen =>
  simp only [deep0S];split
  ·rename_i l ty z fz hl;refine Sp.bind Sp.emit fun y hy => ?_;obtain ⟨_, hdb⟩ := hb.bl b _ hl;cases hdb with
   | gh hρ' _ => rw [hρ] at hρ'; cases hρ'
   | @lst _ _ _ _ _ els hρ' hlv hg =>
    rw [hρ] at hρ'; cases hρ';obtain ⟨u, h1, h2⟩ := letIs3 hy hlv ho hn;simp only [RF.ev] at h1;split at h1
    ·rename_i hcond;cases h1;refine .ret ⟨⟨_, ?_, h2, rfl⟩, fun b' hb' => by simp at hb'; subst hb'; rw [hl]; rfl⟩;have hle : oi + ni ≤ els.length := by have := hcond.2.2; omega
     simp only [deep0, hg, blocks, List.filterMap_cons, hρ, List.filterMap_nil];rw [if_pos ⟨hle, trivial⟩];simp
    ·cases h1
  ·exact .fail
 | @gh b o n hρ hlt ho hn =>
  simp only [deep0S];split
  ·rename_i l ty z fz hl;refine Sp.bind Sp.emit fun y hy => ?_;obtain ⟨_, hdb⟩ := hb.bl b _ hl;cases hdb with
   | lst hρ' _ _ => rw [hρ] at hρ'; cases hρ'
   | gh hρ' hlv =>
    obtain ⟨u, h1, h2⟩ := letIs3 hy hlv ho hn;simp only [RF.ev] at h1;split at h1
    ·cases h1;refine .ret ⟨⟨.sl [], ?_, by simpa using h2, rfl⟩, fun b' hb' => by simp at hb'; subst hb'; rw [hl]; rfl⟩
     simp only [deep0, blocks, List.filterMap_cons, hρ, List.filterMap_nil]
    ·cases h1
  ·exact .fail
 | @fn g f c ps qs h1 h2 => exact .fail
 | _ => exact .fail
end
end Go.Sym
namespace Go.Sym
open Go.Abu Go.Pev
section
variable {P : Program} {I : FuncId → Bool} {env : List PV} {ρ : Nat → Option Nat} {σ : SS} {s : St} {L : Nat → Option Nat} {nb : Nat}
def Live (σ : SS) (bs : List Nat) : Prop := ∀ b ∈ bs, (look σ.bl b).isSome = true
theorem Live.nil : Live σ [] := fun b hb => by cases hb
theorem Live.append {bs cs : List Nat} (h : Live σ bs) (k : Live σ cs) : Live σ (bs ++ cs) := fun b hb => by
 rcases List.mem_append.1 hb with hb | hb
 ·exact h b hb
 ·exact k b hb
theorem blocks_append (bs cs : List Nat) : blocks ρ (bs ++ cs) = blocks ρ bs ++ blocks ρ cs := List.filterMap_append
theorem deep0_smc {v p : PV} (ht : t0 v = true) (hs : Smc v p) : deep0 s p = some (v, []) := by
 rcases hs with rfl | ⟨rfl, rfl⟩
 ·cases p <;> simp [t0] at ht <;> rfl
 ·rfl
theorem deep0L_smc : ∀ {vs ps : List PV}, F2 Smc vs ps → vs.all t0 = true → deep0L s ps = some (vs, [])
 | _, _, .nil, _ => rfl
 | _, _, .cons h t, ht => by
  simp only [List.all_cons, Bool.and_eq_true] at ht;simp only [deep0L, deep0_smc ht.1 h, deep0L_smc t ht.2, List.append_nil]
theorem deep0L_append : ∀ {ps qs vs ws : List PV} {a b : List Nat}, deep0L s ps = some (vs, a) → deep0L s qs = some (ws, b) → deep0L s (ps ++ qs) = some (vs ++ ws, a ++ b)
 | [], qs, vs, ws, a, b, h, k => by cases h; simpa using k
 | p :: ps, qs, vs, ws, a, b, h, k => by
  unfold deep0L at h;split at h
  ·rename_i q b1 hq;split at h
   ·rename_i qs' b2 hqs;cases h;have := deep0L_append hqs k;simp only [List.cons_append, deep0L, hq, this, List.append_assoc]
   ·cases h
  ·cases h
theorem evs_cons {a : A} {as : List A} {v : PV} {vs : List PV} (h : a.ev env = some v) (k : evs env as = some vs) : evs env (a :: as) = some (v :: vs) := by
 simp only [evs, h, k]
structure D0 (env : List PV) (ρ : Nat → Option Nat) (σ : SS) (s : St) (ps : List PV) (r : List A × List Nat) : Prop where
 h : ∃ vs, evs env r.1 = some vs ∧ deep0L s ps = some (vs.flatMap PV.cells, blocks ρ r.2) ∧ (vs.flatMap PV.cells).all t0 = true
 live : Live σ r.2
theorem cells_t0 {v : PV} (h : t0 v = true) : v.cells = [v] := by cases v <;> simp [t0] at h <;> rfl
theorem D0.cons {p : PV} {ps qs : List PV} {a : A} {v : PV} {b1 : List Nat} {r : List A × List Nat} (h1 : a.ev env = some v) (h2 : deep0L s qs = some (v.cells, blocks ρ b1)) (h3 : v.cells.all t0 = true) (h4 : Live σ b1) (k : D0 env ρ σ s ps r) : D0 env ρ σ s (qs ++ ps) (a :: r.1, b1 ++ r.2) := by
 obtain ⟨vs, e1, e2, e3⟩ := k.h;refine ⟨⟨v :: vs, evs_cons h1 e1, ?_, ?_⟩, h4.append k.live⟩
 ·rw [List.flatMap_cons, blocks_append];exact deep0L_append h2 e2
 ·rw [List.flatMap_cons, List.all_append, h3, e3]; rfl
theorem deep0L_one {p q : PV} {bs : List Nat} (h : deep0 s p = some (q, bs)) : deep0L s [p] = some ([q], bs) := by
 simp only [deep0L, h, List.append_nil]
theorem deep0Ls_ok (hb : Rb I env ρ σ s) : ∀ (k : Nat) {cs : List SC} {ps : List PV}, F2 (DC env ρ (lenOf env σ) σ.nb) cs ps → Sp env (deep0Ls σ k cs) (D0 env ρ σ s ps)
 | k, [], ps, h => by
  cases h;cases k <;> exact .ret ⟨⟨[], rfl, rfl, rfl⟩, Live.nil⟩
 | 0, c :: cs, ps, h => .fail
 | k + 1, c :: cs, ps, h => by
  cases h with
  | @cons _ p _ ps hc t =>
   unfold deep0Ls;have single : Sp env (EM.bind (deep0S σ c) fun p => EM.bind (deep0Ls σ k cs) fun q => EM.ret (p.1 :: q.1, p.2 ++ q.2)) (D0 env ρ σ s (p :: ps)) := by
    refine Sp.bind (deep0S_ok hb hc) fun r ⟨⟨q, h1, h2, h3⟩, hl⟩ => Sp.bind (deep0Ls_ok hb k t) fun r' hr' => .ret ?_;exact D0.cons (p := p) (qs := [p]) h2 (by rw [cells_t0 h3]; exact deep0L_one h1) (by rw [cells_t0 h3]; simp [h3]) hl hr'
   split
   ·rename_i x i;cases hc with
    | @pc _ _ ds v _ hx hi ha hs =>
     obtain ⟨k1, k2, k3⟩ := run_ok hx cs (i + 1) t;have hlt := (List.getElem?_eq_some_iff.1 hi).1;have hv := (List.getElem?_eq_some_iff.1 hi).2;have ht := all_get ha hi;split
     ·refine Sp.bind Sp.emit fun y hy => Sp.bind (deep0Ls_ok hb k t) fun r' hr' => .ret ?_;obtain ⟨u, h1, h2⟩ := letIs1 hy hx;simp only [RF.ev] at h1;rw [hi] at h1; cases h1;exact D0.cons (p := p) (qs := [p]) (b1 := []) h2 (by rw [cells_t0 ht]; exact deep0L_one (deep0_smc ht hs)) (by rw [cells_t0 ht]; simp [ht]) Live.nil hr'
     ·rename_i n hn;rw [hn] at k1 k2 k3;have hd : (ds.drop i).take (n + 2) = v :: (ds.drop (i + 1)).take (n + 1) := by
       rw [List.drop_eq_getElem_cons hlt, List.take_succ_cons, hv]
      have hrun : F2 Smc ((ds.drop i).take (n + 2)) (p :: ps.take (n + 1)) := by rw [hd]; exact .cons hs k1
      have hall : ((ds.drop i).take (n + 2)).all t0 = true := by
       rw [List.all_eq_true] at ha ⊢;exact fun q hq => ha q (List.mem_of_mem_drop (List.mem_of_mem_take hq))
      have hlen : i + (n + 2) ≤ ds.length := by omega
      refine Sp.bind (Sp.emitN fun vs w h1 h2 => ?_) fun y hy => Sp.bind (deep0Ls_ok hb k (t.drop (n + 1))) fun r' hr' => .ret ?_
      ·obtain ⟨v', h4, rfl⟩ := evs1 h1;rw [hx] at h4; cases h4;simp only [RF.ev] at h2;rw [if_pos hlen] at h2;cases h2;exact ⟨_, rfl, by rw [List.length_take, List.length_drop]; omega⟩
      ·obtain ⟨u, h1, h2⟩ := letIs1 hy hx;simp only [RF.ev] at h1;rw [if_pos hlen] at h1;cases h1;have hps : p :: ps = (p :: ps.take (n + 1)) ++ ps.drop (n + 1) := by rw [List.cons_append, List.take_append_drop]
       rw [hps];exact D0.cons (p := p) (b1 := []) h2 (deep0L_smc hrun hall) hall Live.nil hr'
   ·exact single
theorem deep0Cs_ok (hb : Rb I env ρ σ s) : ∀ {cs : List SC} {ps : List PV}, F2 (DC env ρ (lenOf env σ) σ.nb) cs ps → Sp env (deep0Cs σ cs) (fun r => (∃ qs, evs env r.1 = some qs ∧ deep0L s ps = some (qs, blocks ρ r.2) ∧ qs.all t0 = true) ∧ Live σ r.2)
 | _, _, .nil => .ret ⟨⟨[], rfl, rfl, rfl⟩, Live.nil⟩
 | _, _, .cons hc t => by
  refine Sp.bind (deep0S_ok hb hc) fun r ⟨⟨q, h1, h2, h3⟩, hl⟩ => Sp.bind (deep0Cs_ok hb t) fun r' ⟨⟨qs, e1, e2, e3⟩, hl'⟩ => .ret ⟨⟨q :: qs, evs_cons h2 e1, ?_, ?_⟩, Live.append hl hl'⟩
  ·simp only [deep0L, h1, e2, blocks_append]
  ·simp [h3, e3]
theorem deepP_ok (hb : Rb I env ρ σ s) {b o k : Nat} (hρ : ρ b = some k) : Sp env (deepP σ b o) (fun r => (∃ q, deep1 s (.ptr k 0 o) = some (q, blocks ρ r.2) ∧ r.1.ev env = some q ∧ t0 q = true) ∧ Live σ r.2) := by
 unfold deepP;split
 ·rename_i cs z fz hl;obtain ⟨_, hdb⟩ := hb.bl b _ hl;cases hdb with
  | box hρ' hg hbx hf he hcs =>
   rw [hρ] at hρ'; cases hρ';refine Sp.bind (deep0Cs_ok hb hcs) fun r ⟨⟨qs, e1, e2, e3⟩, hl'⟩ => Sp.bind Sp.emit fun y hy => .ret ⟨?_, ?_⟩
   ·obtain ⟨vs, v, h1, h2, h3⟩ := hy;rw [e1] at h1; cases h1;simp only [RF.ev] at h2;rw [if_pos e3] at h2; cases h2;refine ⟨_, ?_, h3, rfl⟩;simp only [deep1, hg, hbx, he, e2, blocks, List.filterMap_cons, hρ]
   ·intro b' hb';rcases List.mem_cons.1 hb' with rfl | hb'
    ·rw [hl]; rfl
    ·exact hl' b' hb'
 ·exact .fail
theorem deepCap_ok (hb : Rb I env ρ σ s) {c : Cap} {p : PV} (h : DCap env ρ σ.nb c p) : Sp env (deepCap σ c) (fun r => (∃ q, deep1 s p = some (q, blocks ρ r.2) ∧ r.1.ev env = some q ∧ t0 q = true) ∧ Live σ r.2) := by
 cases h with
 | ptr hρ _ => exact deepP_ok hb hρ
 | @a x v _ hx ht hs =>
  refine .ret ⟨⟨v, ?_, hx, ht⟩, Live.nil⟩;have := deep0_smc (s := s) ht hs;rcases hs with rfl | ⟨rfl, rfl⟩
  ·cases p <;> simp [t0] at ht <;> exact this
  ·exact this
theorem deep1L_split : ∀ {ps qs vs : List PV} {a : List Nat}, deep1L s (ps ++ qs) = some (vs, a) → ∃ a1 a2, deep1L s ps = some (vs.take ps.length, a1) ∧ deep1L s qs = some (vs.drop ps.length, a2) ∧ a = a1 ++ a2
 | [], qs, vs, a, h => ⟨[], a, rfl, by simpa using h, rfl⟩
 | p :: ps, qs, vs, a, h => by
  simp only [List.cons_append] at h;unfold deep1L at h;split at h
  ·rename_i q b1 hq;split at h
   ·rename_i qs' b2 hqs;cases h;obtain ⟨a1, a2, h1, h2, rfl⟩ := deep1L_split hqs;exact ⟨b1 ++ a1, a2, by simp only [deep1L, hq, h1, List.length_cons, List.take_succ_cons], by simpa using h2, by rw [List.append_assoc]⟩
   ·cases h
  ·cases h
theorem capsA_ok (hb : Rb I env ρ σ s) : ∀ {cs : List Cap} {ps : List PV}, F2 (DCap env ρ σ.nb) cs ps → Sp env (capsA cs σ (deepCap σ)) (fun r => (∃ qs, evs env r.1 = some qs ∧ deep1L s ps = some (qs, blocks ρ r.2) ∧ qs.all t0 = true) ∧ Live σ r.2)
 | _, _, .nil => .ret ⟨⟨[], rfl, rfl, rfl⟩, Live.nil⟩
 | _, _, .cons hc t => by
  refine Sp.bind (deepCap_ok hb hc) fun r ⟨⟨q, h1, h2, h3⟩, hl⟩ => Sp.bind (capsA_ok hb t) fun r' ⟨⟨qs, e1, e2, e3⟩, hl'⟩ => .ret ⟨⟨q :: qs, evs_cons h2 e1, ?_, ?_⟩, hl.append hl'⟩
  ·simp only [deep1L, h1, e2, blocks_append]
  ·simp [h3, e3]
theorem deep1_t0 {v : PV} (ht : t0 v = true) : deep1 s v = some (v, []) := by
 cases v <;> simp [t0] at ht <;> rfl
theorem deep1L_t0 : ∀ {vs : List PV}, vs.all t0 = true → deep1L s vs = some (vs, [])
 | [], _ => rfl
 | v :: vs, h => by
  simp only [List.all_cons, Bool.and_eq_true] at h;simp only [deep1L, deep1_t0 h.1, deep1L_t0 h.2, List.append_nil]
def Arg (q : PV) : Prop := t0 q = true ∨ (∃ cs, q = .agg cs ∧ cs.all t0 = true) ∨ ∃ g a c, q = .fn g a c ∧ a.all t0 = true ∧ c.all t0 = true
structure D1 (env : List PV) (ρ : Nat → Option Nat) (σ : SS) (s : St) (p : PV) (r : A × List Nat) : Prop where
 h : ∃ q, deep s p = some (q, blocks ρ r.2) ∧ r.1.ev env = some q ∧ Arg q
 live : Live σ r.2
theorem deepS_ok (hb : Rb I env ρ σ s) {w : SW} {p : PV} (h : DW env ρ (lenOf env σ) σ.nb w p) : Sp env (deepS σ w) (D1 env ρ σ s p) := by
 cases h with
 | av hx ht hs => exact .ret ⟨⟨_, by simp only [deep, deep0L_smc hs ht]; rfl, hx, .inr (.inl ⟨_, rfl, ht⟩)⟩, Live.nil⟩
 | fv hx h1 h2 => exact .ret ⟨⟨_, by simp only [deep, deep1L_t0 h1, deep1L_t0 h2]; rfl, hx, .inr (.inr ⟨_, _, _, rfl, h1, h2⟩)⟩, Live.nil⟩
 | @agg cs ps hcs =>
  unfold deepS;refine Sp.bind (deep0Ls_ok hb _ hcs) fun r hr => ?_;obtain ⟨vs, e1, e2, e3⟩ := hr.h;have hlen : (vs.flatMap PV.cells).length = ps.length := by
   have : ∀ {ps vs : List PV} {a : List Nat}, deep0L s ps = some (vs, a) → vs.length = ps.length := by
    intro ps;induction ps with
    | nil => intro vs a h; cases h; rfl
    | cons p ps ih =>
     intro vs a h;unfold deep0L at h;split at h
     ·split at h
      ·rename_i hqs; cases h; simp [ih hqs]
      ·cases h
     ·cases h
   exact this e2
  refine Sp.bind (Sp.emitN fun ws w h1 h2 => ?_) fun y hy => .ret ⟨?_, hr.live⟩
  ·rw [e1] at h1; cases h1;simp only [RF.ev] at h2;rw [if_pos e3] at h2; cases h2;exact ⟨_, rfl, by rw [hlen, hcs.len]⟩
  ·obtain ⟨ws, w, h1, h2, h3⟩ := hy;rw [e1] at h1; cases h1;simp only [RF.ev] at h2;rw [if_pos e3] at h2; cases h2;exact ⟨_, by simp only [deep, e2], h3, .inr (.inl ⟨_, rfl, e3⟩)⟩
 | @c x p h =>
  have cell : (∀ g a c, p ≠ .fn g a c) → (∀ b i o, p ≠ .ptr b i o) → Sp env (deep0S σ x) (D1 env ρ σ s p) := by
   intro hf hp;refine (deep0S_ok hb h).mono fun r ⟨⟨q, h1, h2, h3⟩, hl⟩ => ⟨⟨q, ?_, h2, .inl h3⟩, hl⟩;have hsc := h.sc;cases p <;> first | (simp [PV.sc] at hsc; done) | (exact absurd rfl (hf _ _ _)) | (exact absurd rfl (hp _ _ _)) | exact h1
  cases h with
  | @ptr b o k hρ hlt =>
   refine (deepP_ok hb hρ).mono fun r ⟨⟨q, h1, h2, h3⟩, hl⟩ => ⟨⟨q, ?_, h2, .inl h3⟩, hl⟩;exact h1
  | @fn g f c ps qs h1 h2 =>
   simp only [deepS];split
   ·rename_i hfc;obtain ⟨rfl, rfl⟩ := List.append_eq_nil_iff.1 hfc;cases h1; cases h2;exact .ret ⟨⟨_, rfl, rfl, .inr (.inr ⟨_, _, _, rfl, rfl, rfl⟩)⟩, Live.nil⟩
   ·refine Sp.bind (capsA_ok hb (h1.append h2)) fun r ⟨⟨us, e1, e2, e3⟩, hl⟩ => Sp.bind Sp.emit fun y hy => .ret ⟨?_, hl⟩;obtain ⟨vs, v, k1, k2, k3⟩ := hy;rw [e1] at k1; cases k1;simp only [RF.ev] at k2;rw [if_pos e3] at k2; cases k2;obtain ⟨a1, a2, d1, d2, d3⟩ := deep1L_split e2;rw [h1.len] at k3;refine ⟨_, ?_, k3, .inr (.inr ⟨_, _, _, rfl, ?_, ?_⟩)⟩
    ·simp only [deep, d1, d2, d3]
    ·rw [List.all_eq_true] at e3 ⊢; exact fun q hq => e3 q (List.mem_of_mem_take hq)
    ·rw [List.all_eq_true] at e3 ⊢; exact fun q hq => e3 q (List.mem_of_mem_drop hq)
  | nil => exact cell (fun _ _ _ e => by cases e) (fun _ _ _ e => by cases e)
  | lsl => exact cell (fun _ _ _ e => by cases e) (fun _ _ _ e => by cases e)
  | gh => exact cell (fun _ _ _ e => by cases e) (fun _ _ _ e => by cases e)
  | ep => exact .fail
  | tp => exact .fail
  | yl => exact .fail
  | a hx ht hs =>
   refine cell (fun g a c e => ?_) (fun b i o e => ?_) <;> rcases hs with rfl | ⟨rfl, rfl⟩ <;> first | (subst e; simp [t0] at ht; done) | (cases e; done)
  | pc hx hi ha hs =>
   have ht := all_get ha hi;refine cell (fun g a c e => ?_) (fun b i o e => ?_) <;> rcases hs with rfl | ⟨rfl, rfl⟩ <;> first | (subst e; simp [t0] at ht; done) | (cases e; done)
theorem deepsS_ok (hb : Rb I env ρ σ s) : ∀ {ws : List SW} {ps : List PV}, F2 (DW env ρ (lenOf env σ) σ.nb) ws ps → Sp env (deepsS σ ws) (fun r => (∃ qs, evs env r.1 = some qs ∧ deeps s ps = some (qs, blocks ρ r.2) ∧ ∀ q ∈ qs, Arg q) ∧ Live σ r.2)
 | _, _, .nil => .ret ⟨⟨[], rfl, rfl, fun q hq => by cases hq⟩, Live.nil⟩
 | _, _, .cons hc t => by
  refine Sp.bind (deepS_ok hb hc) fun r hr => Sp.bind (deepsS_ok hb t) fun r' ⟨⟨qs, e1, e2, e3⟩, hl'⟩ => ?_;obtain ⟨q, h1, h2, h3⟩ := hr.h;refine .ret ⟨⟨q :: qs, evs_cons h2 e1, ?_, fun q' hq' => ?_⟩, hr.live.append hl'⟩
  ·simp only [deeps, h1, e2, blocks_append]
  ·rcases List.mem_cons.1 hq' with rfl | hq'
   ·exact h3
   ·exact e3 q' hq'
end
end Go.Sym
namespace Go.Sym
open Go.Abu Go.Pev
section
variable {P : Program} {I : FuncId → Bool} {env : List PV} {ρ : Nat → Option Nat} {σ : SS} {s : St} {L : Nat → Option Nat} {nb : Nat}
def lenSB (env : List PV) : SB → Option Nat
 | .lst l _ _ _ => match l.ev env with
  | some (.sl els) => some els.length
  | _ => none
 | _ => none
theorem lenOf_eq (σ : SS) (b : Nat) : lenOf env σ b = (look σ.bl b).bind (lenSB env) := by
 unfold lenOf lenSB;cases look σ.bl b with
 | none => rfl
 | some sb => cases sb <;> rfl
abbrev SS.putB (σ : SS) (b : Nat) (sb : SB) : SS := { σ with bl := put σ.bl b sb }
theorem lenOf_put (σ : SS) (b c : Nat) (sb : SB) : lenOf env (σ.putB b sb) c = if c = b then lenSB env sb else lenOf env σ c := by
 rw [lenOf_eq, lenOf_eq];show (look (put σ.bl b sb) c).bind _ = _
 rw [look_put];split <;> rfl
theorem DB.step {env' : List PV} {ρ' : Nat → Option Nat} {L' : Nat → Option Nat} {nb' : Nat} {s' : St} {b : Nat} {sb : SB} (k : Sx env ρ L nb env' ρ' L' nb') (hb : b < nb) (hs : ∀ m, ρ b = some m → s'.get m = s.get m) (h : DB env ρ L nb s b sb) : DB env' ρ' L' nb' s' b sb := by
 cases h with
 | box hρ hg hbx hf he hc => exact .box ((k.rho b hb).trans hρ) ((hs _ hρ).trans hg) hbx hf he (hc.mono fun _ _ h => h.step k)
 | lst hρ hl hg => exact .lst ((k.rho b hb).trans hρ) (k.ev hl) ((hs _ hρ).trans hg)
 | gh hρ hl => exact .gh ((k.rho b hb).trans hρ) (k.ev hl)
theorem Rb.upd (h : Rb I env ρ σ s) {b m : Nat} {sb sb' : SB} {e e' : Ent} (hl : look σ.bl b = some sb) (hρ : ρ b = some m) (hg : s.get m = some e) (hlen : ∀ n, lenSB env sb' = some n → lenSB env sb = some n)
  (hd : Sx env ρ (lenOf env σ) σ.nb env ρ (lenOf env (σ.putB b sb')) σ.nb → DB env ρ (lenOf env (σ.putB b sb')) σ.nb (s.put m e') b sb') :
  Rb I env ρ (σ.putB b sb') (s.put m e') ∧ Sx env ρ (lenOf env σ) σ.nb env ρ (lenOf env (σ.putB b sb')) σ.nb := by
 have hx : Sx env ρ (lenOf env σ) σ.nb env ρ (lenOf env (σ.putB b sb')) σ.nb := ⟨⟨[], by simp⟩, fun _ _ => rfl, fun c n _ hc => by
  rw [lenOf_put] at hc;split at hc
  ·rename_i e; subst e; rw [lenOf_eq, hl]; exact hlen n hc
  ·exact hc, Nat.le_refl _⟩
 have hsome : ∀ c, (look (put σ.bl b sb') c).isSome = true → (look σ.bl c).isSome = true := fun c hc => by
  rw [look_put] at hc;split at hc
  ·rename_i e; subst e; rw [hl]; rfl
  ·exact hc
 refine ⟨⟨fun c sc hc => ?_, fun c c' k h1 h2 => h.inj c c' k (hsome c h1) (hsome c' h2), fun c k h1 h2 => h.dom c k (hsome c h1) h2, h.fc, h.sz, h.le, fun p hp => ?_, h.nn⟩, hx⟩
 ·replace hc : look (put σ.bl b sb') c = some sc := hc
  rw [look_put] at hc;split at hc
  ·rename_i e; subst e; cases hc;exact ⟨(h.bl _ _ hl).1, hd hx⟩
  ·rename_i hne;obtain ⟨h1, h2⟩ := h.bl c sc hc;refine ⟨h1, h2.step hx h1 fun m' hm' => ?_⟩;rw [St.get_put, if_neg];intro e; subst e;exact hne (h.inj c b m' (by rw [hc]; rfl) (by rw [hl]; rfl) hm' hρ)
 ·obtain ⟨h1, h2⟩ := h.ld p hp;refine ⟨h1, ?_⟩;rcases h2 with h2 | h2
  ·refine .inl ?_;rw [St.get_put, if_neg]
   ·exact h2
   ·intro e; rw [e, hg] at h2; cases h2
  ·exact .inr h2
def up (ρ : Nat → Option Nat) (b m : Nat) : Nat → Option Nat := fun x => if x = b then some m else ρ x
theorem Rb.new (h : Rb I env ρ σ s) {sb : SB} {e : Ent} (hd : Sx env ρ (lenOf env σ) σ.nb env (up ρ σ.nb s.next) (lenOf env (σ.new sb)) (σ.nb + 1) → DB env (up ρ σ.nb s.next) (lenOf env (σ.new sb)) (σ.nb + 1) (s.alloc e) σ.nb sb) :
  Rb I env (up ρ σ.nb s.next) (σ.new sb) (s.alloc e) ∧ Sx env ρ (lenOf env σ) σ.nb env (up ρ σ.nb s.next) (lenOf env (σ.new sb)) (σ.new sb).nb := by
 have hlook : ∀ c, look (σ.new sb).bl c = if c = σ.nb then some sb else look σ.bl c := fun c => look_put σ.bl σ.nb c sb
 have hρ : ∀ c, c < σ.nb → up ρ σ.nb s.next c = ρ c := fun c hc => by unfold up; rw [if_neg (by omega)]
 have hx : Sx env ρ (lenOf env σ) σ.nb env (up ρ σ.nb s.next) (lenOf env (σ.new sb)) (σ.nb + 1) := ⟨⟨[], by simp⟩, hρ, fun c n hc hl => by
  rw [lenOf_eq, hlook, if_neg (by omega)] at hl;rw [lenOf_eq]; exact hl, by omega⟩
 have hold : ∀ c, (look (σ.new sb).bl c).isSome = true → c = σ.nb ∨ (c < σ.nb ∧ (look σ.bl c).isSome = true) := fun c hc => by
  rw [hlook] at hc;split at hc
  ·rename_i e; exact .inl e
  ·cases hl : look σ.bl c with
   | none => rw [hl] at hc; cases hc
   | some sc => exact .inr ⟨(h.bl c sc hl).1, rfl⟩
 have hnew : up ρ σ.nb s.next σ.nb = some s.next := by unfold up; rw [if_pos rfl]
 refine ⟨⟨fun c sc hc => ?_, fun c c' k h1 h2 h3 h4 => ?_, fun c k h1 h2 => ?_, h.fc, h.sz, fun p hp => ?_, fun p hp => ?_, fun b hb => ?_⟩, hx⟩
 ·rw [hlook] at hc;split at hc
  ·rename_i e; subst e; cases hc;exact ⟨by show σ.nb < σ.nb + 1; omega, hd hx⟩
  ·obtain ⟨h1, h2⟩ := h.bl c sc hc;refine ⟨by show c < σ.nb + 1; omega, h2.step hx h1 fun m hm => ?_⟩
   have := h.dom c m (by rw [hc]; rfl) hm;rw [St.get_alloc, if_neg (by omega)]
 ·rcases hold c h1 with rfl | ⟨c1, c2⟩ <;> rcases hold c' h2 with rfl | ⟨d1, d2⟩
  ·rfl
  ·rw [hnew] at h3; cases h3;rw [hρ c' d1] at h4;have := h.dom c' _ d2 h4;omega
  ·rw [hnew] at h4; cases h4;rw [hρ c c1] at h3;have := h.dom c _ c2 h3;omega
  ·rw [hρ c c1] at h3; rw [hρ c' d1] at h4;exact h.inj c c' k c2 d2 h3 h4
 ·show k < s.next + 1
  rcases hold c h1 with rfl | ⟨c1, c2⟩
  ·rw [hnew] at h2; cases h2; omega
  ·rw [hρ c c1] at h2;have := h.dom c k c2 h2;omega
 ·obtain ⟨h1, h2⟩ := h.le p hp;exact ⟨(hρ _ h2).trans h1, by show _ < σ.nb + 1; omega⟩
 ·obtain ⟨h1, h2⟩ := h.ld p hp;refine ⟨by show _ < s.next + 1; omega, ?_⟩
  rcases h2 with h2 | ⟨b, b1, b2, b3⟩
  ·refine .inl ?_;rw [St.get_alloc, if_neg (by omega)]; exact h2
  ·exact .inr ⟨b, b1, (hρ b b3).trans b2, by show _ < σ.nb + 1; omega⟩
 ·have hb : b ∈ σ.nb :: σ.nn := hb;rcases List.mem_cons.1 hb with rfl | hb
  ·exact ⟨by show σ.nb < σ.nb + 1; omega, _, hnew⟩
  ·obtain ⟨h1, k, h2⟩ := h.nn b hb;exact ⟨by show b < σ.nb + 1; omega, k, (hρ b h1).trans h2⟩
theorem Rb.kill (h : Rb I env ρ σ s) (b : Nat) (hm : ∀ m, ρ b = some m → (look σ.bl b).isSome = true) : Rb I env ρ (σ.kill b) (match ρ b with | some m => s.kill m | none => s) ∧ Sx env ρ (lenOf env σ) σ.nb env ρ (lenOf env (σ.kill b)) σ.nb := by
 have hlook : ∀ c, look (σ.kill b).bl c = if c = b then none else look σ.bl c := fun c => look_del σ.bl b c
 have hx : Sx env ρ (lenOf env σ) σ.nb env ρ (lenOf env (σ.kill b)) σ.nb := ⟨⟨[], by simp⟩, fun _ _ => rfl, fun c n hc hl => by
  rw [lenOf_eq, hlook] at hl;split at hl
  ·cases hl
  ·rw [lenOf_eq]; exact hl, Nat.le_refl _⟩
 have hsome : ∀ c, (look (σ.kill b).bl c).isSome = true → c ≠ b ∧ (look σ.bl c).isSome = true := fun c hc => by
  rw [hlook] at hc;split at hc
  ·cases hc
  ·rename_i e; exact ⟨e, hc⟩
 have hnext : (match ρ b with | some m => s.kill m | none => s).next = s.next := by cases ρ b <;> rfl
 have hget : ∀ k, (∀ m, ρ b = some m → k ≠ m) → (match ρ b with | some m => s.kill m | none => s).get k = s.get k := fun k hk => by
  cases hρ : ρ b with
  | none => rfl
  | some m => simp only; rw [St.get_kill, if_neg (hk m hρ)]
 have hgone : ∀ k, s.get k = none → (match ρ b with | some m => s.kill m | none => s).get k = none := fun k hk => by
  cases hρ : ρ b with
  | none => exact hk
  | some m => simp only; rw [St.get_kill]; split <;> first | rfl | exact hk
 refine ⟨⟨fun c sc hc => ?_, fun c c' k h1 h2 => h.inj c c' k (hsome c h1).2 (hsome c' h2).2, fun c k h1 h2 => by rw [hnext]; exact h.dom c k (hsome c h1).2 h2, h.fc, h.sz, fun p hp => ?_, fun p hp => ?_, h.nn⟩, hx⟩
 ·rw [hlook] at hc;split at hc
  ·cases hc
  ·rename_i hne;obtain ⟨h1, h2⟩ := h.bl c sc hc;refine ⟨h1, h2.step hx h1 fun m hm' => hget m fun m' hm'' e => ?_⟩;subst e;exact hne (h.inj c b m (by rw [hc]; rfl) (hm m hm'') hm' hm'')
 ·have hp : p ∈ σ.le.filter (fun p => !Nat.beq p.2 b) := hp;exact h.le p (List.mem_filter.1 hp).1
 ·have hp : p ∈ (σ.le.filter (fun p => Nat.beq p.2 b)).map (fun p => (p.1, [])) ++ σ.ld.map fun p => (p.1, p.2.filter fun c => !Nat.beq c b) := hp;rw [hnext];rcases List.mem_append.1 hp with hp | hp
  ·obtain ⟨q, hq, rfl⟩ := List.mem_map.1 hp;obtain ⟨q1, q2⟩ := List.mem_filter.1 hq;have e := Nat.eq_of_beq_eq_true q2;obtain ⟨h1, h2⟩ := h.le q q1;rw [e] at h1;refine ⟨h.dom b q.1 (hm _ h1) h1, .inl ?_⟩;simp only [h1];rw [St.get_kill, if_pos rfl]
  ·obtain ⟨q, hq, rfl⟩ := List.mem_map.1 hp;obtain ⟨h1, h2⟩ := h.ld q hq;refine ⟨h1, ?_⟩;rcases h2 with h2 | ⟨c, c1, c2, c3⟩
   ·exact .inl (hgone _ h2)
   ·by_cases e : c = b
    ·subst e;refine .inl ?_;simp only [c2];rw [St.get_kill, if_pos rfl]
    ·refine .inr ⟨c, List.mem_filter.2 ⟨c1, ?_⟩, c2, c3⟩;cases hb : Nat.beq c b with
     | false => rfl
     | true => exact absurd (Nat.eq_of_beq_eq_true hb) e
theorem DB.freeze {b m : Nat} {sb : SB} {e : Ent} (hρ : ρ b = some m) (hg : s.get m = some e) (h : DB env ρ L nb s b sb) : DB env ρ L nb (s.put m { e with fz := true }) b (freezeB sb) := by
 have hget : (s.put m { e with fz := true }).get m = some { e with fz := true } := by rw [St.get_put, if_pos rfl]
 cases h with
 | box hρ' hg' hbx hf he hc =>
  rw [hρ] at hρ'; cases hρ';rw [hg] at hg'; cases hg';exact .box hρ hget hbx rfl he hc
 | lst hρ' hl hg' =>
  rw [hρ] at hρ'; cases hρ';rw [hg] at hg'; cases hg';exact .lst hρ hl hget
 | gh hρ' hl => rw [hρ] at hρ'; cases hρ'
theorem lenSB_freeze (sb : SB) : lenSB env (freezeB sb) = lenSB env sb := by cases sb <;> rfl
theorem Rb.ghost (h : Rb I env ρ σ s) {b : Nat} {sb : SB} (hl : look σ.bl b = some sb) (hρ : ρ b = none) : Rb I env ρ (σ.putB b (freezeB sb)) s ∧ Sx env ρ (lenOf env σ) σ.nb env ρ (lenOf env (σ.putB b (freezeB sb))) σ.nb := by
 have hx : Sx env ρ (lenOf env σ) σ.nb env ρ (lenOf env (σ.putB b (freezeB sb))) σ.nb := ⟨⟨[], by simp⟩, fun _ _ => rfl, fun c n _ hc => by
  rw [lenOf_put] at hc;split at hc
  ·rename_i e; subst e; rw [lenOf_eq, hl]; rw [lenSB_freeze] at hc; exact hc
  ·exact hc, Nat.le_refl _⟩
 have hsome : ∀ c, (look (put σ.bl b (freezeB sb)) c).isSome = true → (look σ.bl c).isSome = true := fun c hc => by
  rw [look_put] at hc;split at hc
  ·rename_i e; subst e; rw [hl]; rfl
  ·exact hc
 refine ⟨⟨fun c sc hc => ?_, fun c c' k h1 h2 => h.inj c c' k (hsome c h1) (hsome c' h2), fun c k h1 h2 => h.dom c k (hsome c h1) h2, h.fc, h.sz, h.le, h.ld, h.nn⟩, hx⟩
 replace hc : look (put σ.bl b (freezeB sb)) c = some sc := hc
 rw [look_put] at hc;split at hc
 ·rename_i e; subst e; cases hc;obtain ⟨h1, h2⟩ := h.bl _ _ hl;refine ⟨h1, ?_⟩;cases h2 with
  | box hρ' => rw [hρ] at hρ'; cases hρ'
  | lst hρ' => rw [hρ] at hρ'; cases hρ'
  | gh _ hl' => exact .gh hρ hl'
 ·obtain ⟨h1, h2⟩ := h.bl c sc hc;exact ⟨h1, h2.step hx h1 fun _ _ => rfl⟩
theorem Sx.trans {env₁ env₂ : List PV} {ρ₁ ρ₂ : Nat → Option Nat} {L₁ L₂ : Nat → Option Nat} {nb₁ nb₂ : Nat} (h : Sx env ρ L nb env₁ ρ₁ L₁ nb₁) (k : Sx env₁ ρ₁ L₁ nb₁ env₂ ρ₂ L₂ nb₂) : Sx env ρ L nb env₂ ρ₂ L₂ nb₂ := by
 obtain ⟨e1, rfl⟩ := h.env;obtain ⟨e2, rfl⟩ := k.env;exact ⟨⟨e1 ++ e2, by rw [List.append_assoc]⟩, fun b hb => (k.rho b (Nat.lt_of_lt_of_le hb h.nb)).trans (h.rho b hb), fun b n hb hl => h.len b n hb (k.len b n (Nat.lt_of_lt_of_le hb h.nb) hl), Nat.le_trans h.nb k.nb⟩
theorem freezeS_nb : ∀ (bs : List Nat) (σ : SS), (freezeS σ bs).nb = σ.nb
 | [], _ => rfl
 | b :: bs, σ => by
  unfold freezeS;split
  ·exact freezeS_nb bs _
  ·exact freezeS_nb bs σ
theorem Rb.freeze : ∀ (bs : List Nat) {σ : SS} {s : St}, Rb I env ρ σ s → Live σ bs → Rb I env ρ (freezeS σ bs) (Pev.freeze s (blocks ρ bs)) ∧ Sx env ρ (lenOf env σ) σ.nb env ρ (lenOf env (freezeS σ bs)) σ.nb ∧ (∀ b, (look (freezeS σ bs).bl b).isSome = (look σ.bl b).isSome)
 | [], σ, s, h, _ => ⟨h, Sx.refl, fun _ => rfl⟩
 | b :: bs, σ, s, h, hl => by
  have hlb := hl b (by simp);cases hb : look σ.bl b with
  | none => rw [hb] at hlb; cases hlb
  | some sb =>
   have hlive : Live (σ.putB b (freezeB sb)) bs := fun c hc => by
    show (look (put σ.bl b (freezeB sb)) c).isSome = true
    rw [look_put];split
    ·rfl
    ·exact hl c (by simp [hc])
   have hsame : ∀ c, (look (σ.putB b (freezeB sb)).bl c).isSome = (look σ.bl c).isSome := fun c => by
    show (look (put σ.bl b (freezeB sb)) c).isSome = _
    rw [look_put];split
    ·rename_i e; subst e; rw [hb]; rfl
    ·rfl
   have efz : freezeS σ (b :: bs) = freezeS (σ.putB b (freezeB sb)) bs := by conv => lhs; unfold freezeS; simp only [hb]
   rw [efz];obtain ⟨_, hdb⟩ := h.bl b sb hb;cases hρ : ρ b with
   | none =>
    obtain ⟨r1, r2⟩ := h.ghost hb hρ;obtain ⟨k1, k2, k3⟩ := Rb.freeze bs r1 hlive;have eb : blocks ρ (b :: bs) = blocks ρ bs := by simp [blocks, hρ]
    rw [eb];exact ⟨k1, r2.trans k2, fun c => (k3 c).trans (hsame c)⟩
   | some m =>
    have eb : blocks ρ (b :: bs) = m :: blocks ρ bs := by simp [blocks, hρ]
    obtain ⟨e, he⟩ : ∃ e, s.get m = some e := by
     cases hdb with
     | box hρ' hg => rw [hρ] at hρ'; cases hρ'; exact ⟨_, hg⟩
     | lst hρ' _ hg => rw [hρ] at hρ'; cases hρ'; exact ⟨_, hg⟩
     | gh hρ' => rw [hρ] at hρ'; cases hρ'
    obtain ⟨r1, r2⟩ := h.upd (e' := { e with fz := true }) hb hρ he (fun n hn => by rw [lenSB_freeze] at hn; exact hn) (fun hx => (hdb.step hx (h.bl b sb hb).1 (fun _ _ => rfl)).freeze hρ he)
    obtain ⟨k1, k2, k3⟩ := Rb.freeze bs r1 hlive;rw [eb];unfold Pev.freeze;rw [he];exact ⟨k1, r2.trans k2, fun c => (k3 c).trans (hsame c)⟩
end
end Go.Sym
namespace Go.Sym
open Go.Abu Go.Pev
section
variable {P : Program} {I : FuncId → Bool} {env : List PV} {ρ : Nat → Option Nat} {σ : SS} {s : St} {f : PF}
structure Nx (I : FuncId → Bool) (env : List PV) (ρ : Nat → Option Nat) (σ : SS) (ρ' : Nat → Option Nat) (σ' : SS) (s' : St) : Prop where
 rb : Rb I env ρ' σ' s'
 sx : Sx env ρ (lenOf env σ) σ.nb env ρ' (lenOf env σ') σ'.nb
 n : σ'.n = σ.n
 tm : σ'.tm = σ.tm
 fc : σ'.fc = σ.fc
 sz : σ'.sz = σ.sz
theorem Nx.refl (h : Rb I env ρ σ s) : Nx I env ρ σ ρ σ s := ⟨h, Sx.refl, rfl, rfl, rfl, rfl⟩
abbrev DWσ (env : List PV) (ρ : Nat → Option Nat) (σ : SS) : SW → PV → Prop := DW env ρ (lenOf env σ) σ.nb
abbrev DCσ (env : List PV) (ρ : Nat → Option Nat) (σ : SS) : SC → PV → Prop := DC env ρ (lenOf env σ) σ.nb
abbrev DVσ (env : List PV) (ρ : Nat → Option Nat) (σ : SS) : SV → PV → Prop := DV env ρ (lenOf env σ) σ.nb
abbrev Rtσ (env : List PV) (ρ : Nat → Option Nat) (σ : SS) (f : PF) : Prop := Rt env ρ (lenOf env σ) σ.nb σ.n σ.tm f
theorem known_ok (hb : Rb I env ρ σ s) {v : SV} {p : PV} (h : DVσ env ρ σ v p) : DVσ env ρ σ (known σ v) p := by
 unfold known;split
 ·rename_i i;split
  ·rename_i b hb';have hi := hb.fc _ (look_mem hb');cases h with
   | w h => cases h with
    | c h => cases h with
     | a hx ht hs =>
      have hx : env[i]? = _ := hx;rw [hi] at hx; cases hx;exact .w (.c (.a rfl rfl hs))
  ·exact h
 ·exact h
theorem ofCell_ok {p : PV} (h : p = .nil ∨ ∃ x, p = .v x) : DCσ env ρ σ (ofCell p) p := by
 rcases h with rfl | ⟨x, rfl⟩
 ·exact .nil
 ·exact .a rfl rfl (.inl rfl)
theorem ofC1_form {x : Value} {p : PV} (h : ofC1 x = some p) : p = .nil ∨ ∃ x, p = .v x := by
 unfold ofC1 at h;split at h
 ·cases h; exact .inl rfl
 ·split at h
  ·cases h; exact .inr ⟨_, rfl⟩
  ·cases h
theorem ofCs_form : ∀ {xs : List Value} {ps : List PV}, ofCs xs = some ps → F2 (DCσ env ρ σ) (ps.map ofCell) ps
 | [], ps, h => by cases h; exact .nil
 | x :: xs, ps, h => by
  unfold ofCs at h;split at h
  ·rename_i p hp;split at h
   ·rename_i qs hq; cases h;exact .cons (ofCell_ok (ofC1_form hp)) (ofCs_form hq)
   ·cases h
  ·cases h
theorem ofC_form {x : Value} {p : PV} (h : ofC x = some p) : (∃ cs, p = .agg cs ∧ F2 (DCσ env ρ σ) (cs.map ofCell) cs) ∨ (p = .nil ∨ ∃ x, p = .v x) := by
 unfold ofC at h;split at h
 ·rw [Option.map_eq_some_iff] at h;obtain ⟨cs, h1, rfl⟩ := h;exact .inl ⟨cs, rfl, ofCs_form h1⟩
 ·exact .inr (ofC1_form h)
theorem constS_ok {x : Value} {v : SV} (h : constS x = some v) : ∃ p, ofC x = some p ∧ DVσ env ρ σ v p := by
 unfold constS at h;split at h
 ·rename_i cs hc; cases h;rcases ofC_form (env := env) (ρ := ρ) (σ := σ) hc with ⟨cs', e, k⟩ | e | ⟨_, e⟩
  ·cases e; exact ⟨_, hc, .w (.agg k)⟩
  ·cases e
  ·cases e
 ·rename_i p hne hc; cases h;rcases ofC_form (env := env) (ρ := ρ) (σ := σ) hc with ⟨cs', e, k⟩ | e
  ·exact absurd e (hne cs')
  ·exact ⟨_, hc, .w (.c (ofCell_ok e))⟩
 ·cases h
theorem opS_ok (hb : Rb I env ρ σ s) (ht : Rtσ env ρ σ f) {x : Operand} {v : SV} (h : opS σ x = some v) : ∃ p, opd f x = some p ∧ DVσ env ρ σ v p := by
 cases x with
 | tmp t =>
  simp only [opS] at h;split at h
  ·rename_i u hu;cases h;obtain ⟨p, h1, h2⟩ := ht.tm t u hu;exact ⟨p, h1, known_ok hb h2⟩
  ·cases h
 | const c => exact constS_ok h
 | func g => cases h; exact ⟨_, rfl, .w (.c (.fn .nil .nil))⟩
 | global g => cases h
theorem opW_ok (hb : Rb I env ρ σ s) (ht : Rtσ env ρ σ f) {x : Operand} {w : SW} (h : opW σ x = some w) : ∃ p, opd f x = some p ∧ DWσ env ρ σ w p := by
 unfold opW at h;split at h
 ·rename_i w' hw;cases h;obtain ⟨p, h1, h2⟩ := opS_ok hb ht hw;cases h2 with
  | w h2 => exact ⟨p, h1, h2⟩
 ·cases h
theorem opC_ok (hb : Rb I env ρ σ s) (ht : Rtσ env ρ σ f) {x : Operand} {c : SC} (h : opC σ x = some c) : ∃ p, opd f x = some p ∧ DWσ env ρ σ (.c c) p := by
 unfold opC at h;split at h
 ·rename_i c' hc;cases h;exact opW_ok hb ht hc
 ·cases h
theorem opWs_ok (hb : Rb I env ρ σ s) (ht : Rtσ env ρ σ f) : ∀ {xs : List Operand} {ws : List SW}, opWs σ xs = some ws → ∃ ps, opds f xs = some ps ∧ F2 (DWσ env ρ σ) ws ps
 | [], ws, h => by cases h; exact ⟨[], rfl, .nil⟩
 | x :: xs, ws, h => by
  unfold opWs at h;split at h
  ·rename_i w hw;split at h
   ·rename_i ws' hws;cases h;obtain ⟨p, h1, h2⟩ := opW_ok hb ht hw;obtain ⟨ps, k1, k2⟩ := opWs_ok hb ht hws;exact ⟨p :: ps, by simp only [opds, h1, k1], .cons h2 k2⟩
   ·cases h
  ·cases h
theorem DW.cell {c : SC} {p : PV} (h : DWσ env ρ σ (.c c) p) : DCσ env ρ σ c p ∨ ∃ x g a e, c = .fv x ∧ p = .fn g a e ∧ x.ev env = some (.fn g a e) ∧ a.all t0 = true ∧ e.all t0 = true := by
 cases h with
 | c h => exact .inl h
 | fv h h1 h2 => exact .inr ⟨_, _, _, _, rfl, rfl, h, h1, h2⟩
def OkR (P : Program) (I : FuncId → Bool) (env : List PV) (ρ : Nat → Option Nat) (σ : SS) (s : St) (f : PF) (op : Op) : SR → Prop
 | .val v σ' => ∃ p s' ρ', pOp P 0 f s op = some (.val p s') ∧ Nx I env ρ σ ρ' σ' s' ∧ DVσ env ρ' σ' v p
 | .call g args => ∃ ps, pOp P 0 f s op = some (.call g ps) ∧ F2 (DWσ env ρ σ) args ps
 | .callv x args => ∃ g a c ps, x.ev env = some (.fn g a c) ∧ a.all t0 = true ∧ c.all t0 = true ∧ pOp P 0 f s op = some (.call g (a ++ ps ++ c)) ∧ F2 (DWσ env ρ σ) args ps
theorem ret1_ok (hb : Rb I env ρ σ s) {op : Op} {x : EM SW} (h : Sp env x (fun w => ∃ q, pOp P 0 f s op = some (.val q s) ∧ DWσ env ρ σ w q)) : Sp env (ret1 σ x) (OkR P I env ρ σ s f op) :=
 Sp.bind h fun w ⟨q, h1, h2⟩ => .ret ⟨q, s, ρ, h1, Nx.refl hb, .w h2⟩
theorem retC_ok (hb : Rb I env ρ σ s) {op : Op} {x : EM SC} (h : Sp env x (fun c => ∃ q, pOp P 0 f s op = some (.val q s) ∧ DCσ env ρ σ c q)) : Sp env (retC σ x) (OkR P I env ρ σ s f op) :=
 Sp.bind h fun w ⟨q, h1, h2⟩ => .ret ⟨q, s, ρ, h1, Nx.refl hb, .w (.c h2)⟩
theorem retV_ok {op : Op} {x : EM (SV × SS)} (h : Sp env x (fun r => ∃ p s' ρ', pOp P 0 f s op = some (.val p s') ∧ Nx I env ρ σ ρ' r.2 s' ∧ DVσ env ρ' r.2 r.1 p)) : Sp env (retV x) (OkR P I env ρ σ s f op) :=
 Sp.bind h fun r h => .ret h
theorem boxS_ok (hb : Rb I env ρ σ s) {t : TypeId} {cs : List SC} {ps : List PV} (h : F2 (DCσ env ρ σ) cs ps) {Q : PV → St → Prop} (hq : szT P t = some ps.length → Q (.ptr s.next 0 0) (s.alloc ⟨[ps], t, ps.length, true, false⟩)) :
  Sp env (boxS P σ t cs) (fun r => ∃ p s' ρ', Q p s' ∧ Nx I env ρ σ ρ' r.2 s' ∧ DVσ env ρ' r.2 r.1 p) := by
 unfold boxS;split
 ·rename_i n hn;split
  ·rename_i hl;have e := Nat.eq_of_beq_eq_true hl;rw [h.len] at e; subst e;obtain ⟨r1, r2⟩ := hb.new (sb := .box cs ps.length false) (e := ⟨[ps], t, ps.length, true, false⟩) fun hx =>
    .box (k := s.next) (by unfold up; rw [if_pos rfl]) (by rw [St.get_alloc, if_pos rfl]) rfl rfl rfl (h.mono fun _ _ h => h.step hx)
   exact .ret ⟨_, _, _, hq hn, ⟨r1, r2, rfl, rfl, rfl, rfl⟩, .w (.c (.ptr (by unfold up; rw [if_pos rfl]) (by show σ.nb < σ.nb + 1; omega)))⟩
  ·exact .fail
 ·exact .fail
theorem zeroP_form {t : TypeId} {z : PV} (h : zeroP P t = some z) : F2 (DCσ env ρ σ) (z.cells.map ofCell) z.cells := by
 unfold zeroP at h;split at h
 ·rcases ofC_form (env := env) (ρ := ρ) (σ := σ) h with ⟨cs, rfl, k⟩ | e
  ·exact k
  ·rcases e with rfl | ⟨x, rfl⟩
   ·exact .cons .nil .nil
   ·exact .cons (ofCell_ok (.inr ⟨x, rfl⟩)) .nil
 ·cases h
theorem zeroCs_ok {t : TypeId} {cs : List SC} (h : zeroCs P t = some cs) : ∃ z, zeroP P t = some z ∧ F2 (DCσ env ρ σ) cs z.cells := by
 unfold zeroCs at h;split at h
 ·rename_i z hz; cases h; exact ⟨z, hz, zeroP_form hz⟩
 ·cases h
theorem alloc_ok (hb : Rb I env ρ σ s) {t : TypeId} : Sp env (opE P σ (.alloc t)) (OkR P I env ρ σ s f (.alloc t)) := by
 simp only [opE];refine Sp.bind (Sp.ofO fun cs h => h) fun cs h => ?_;obtain ⟨z, h1, h2⟩ := zeroCs_ok (P := P) (env := env) (ρ := ρ) (σ := σ) h;refine retV_ok (boxS_ok hb h2 (Q := fun p s' => pOp P 0 f s (.alloc t) = some (.val p s')) fun hz => ?_);simp only [pOp, pAlloc, h1, hz, if_true]
theorem box_ok (hb : Rb I env ρ σ s) (ht : Rtσ env ρ σ f) {t : TypeId} {x : Operand} : Sp env (opE P σ (.box t x)) (OkR P I env ρ σ s f (.box t x)) := by
 simp only [opE];refine Sp.bind (Sp.ofO fun w h => h) fun w h => ?_;obtain ⟨p, h1, h2⟩ := opW_ok hb ht h;refine Sp.bind (cellsT_ok (P := P) h2) fun cs ⟨h3, h4⟩ => ?_;refine retV_ok (boxS_ok hb h3 (Q := fun p s' => pOp P 0 f s (.box t x) = some (.val p s')) fun hz => ?_);simp only [pOp, h1, pBox, hz, F2.sc h3, and_self, if_true]
theorem load_ok (hb : Rb I env ρ σ s) (ht : Rtσ env ρ σ f) {t : TypeId} {a : Operand} : Sp env (opE P σ (.load t a)) (OkR P I env ρ σ s f (.load t a)) := by
 simp only [opE];refine Sp.bind (Sp.ofO fun w h => h) fun c h => ?_;obtain ⟨p, h1, h2⟩ := opC_ok hb ht h;rcases h2.cell with h2 | ⟨x, g, a', e, rfl, _⟩
 ·exact ret1_ok hb ((loadS_ok (P := P) hb h2).mono fun w ⟨q, k1, k2⟩ => ⟨q, by simp only [pOp, h1, k1], k2⟩)
 ·exact Sp.bind (P := fun _ => False) Sp.fail fun _ h => h.elim
theorem splice_ok {cs vs : List SC} {ps qs : List PV} (h : F2 (DCσ env ρ σ) cs ps) (k : F2 (DCσ env ρ σ) vs qs) (o : Nat) : F2 (DCσ env ρ σ) (spliceS cs o vs) (splice ps o qs) := by
 unfold spliceS splice;rw [k.len];exact ((h.take o).append k).append (h.drop _)
theorem set_spec {o : Nat} {els : List (List PV)} {k : IntKind} {i : Int} {p v : PV} (h : (RF.set o).ev [.sl els, .v (.int k i), p] = some v) : 0 ≤ i ∧ ∃ row, els[i.toNat]? = some row ∧ o + p.cells.length ≤ row.length ∧ v = .sl (els.set i.toNat (splice row o p.cells)) := by
 simp only [RF.ev] at h;split at h
 ·rename_i hi;split at h
  ·rename_i row hr;split at h
   ·rename_i hl; cases h; exact ⟨hi, row, hr, hl, rfl⟩
   ·cases h
  ·cases h
 ·cases h
theorem look_freeze_ne : ∀ (bs : List Nat) (σ : SS) (b : Nat), b ∉ bs → look (freezeS σ bs).bl b = look σ.bl b
 | [], _, _, _ => rfl
 | c :: bs, σ, b, h => by
  rw [List.mem_cons, not_or] at h;unfold freezeS;split
  ·rw [look_freeze_ne bs _ b h.2];show look (put σ.bl c _) b = _
   rw [look_put, if_neg h.1]
  ·exact look_freeze_ne bs σ b h.2
theorem freezeS_same : ∀ (bs : List Nat) (σ : SS), (freezeS σ bs).n = σ.n ∧ (freezeS σ bs).tm = σ.tm ∧ (freezeS σ bs).fc = σ.fc ∧ (freezeS σ bs).sz = σ.sz ∧ (freezeS σ bs).le = σ.le ∧ (freezeS σ bs).ld = σ.ld
 | [], _ => ⟨rfl, rfl, rfl, rfl, rfl, rfl⟩
 | c :: bs, σ => by
  unfold freezeS;split
  ·exact freezeS_same bs _
  ·exact freezeS_same bs σ
theorem notMem_blocks (hb : Rb I env ρ σ s) {bs : List Nat} (hl : Live σ bs) {b m : Nat} (hlb : (look σ.bl b).isSome = true) (hρ : ρ b = some m) (h : b ∉ bs) : m ∉ blocks ρ bs := by
 intro hm;obtain ⟨c, h1, h2⟩ := List.mem_filterMap.1 hm;have := hb.inj b c m hlb (hl c h1) hρ h2;subst this;exact h h1
theorem storeW_spec {t : TypeId} {w : SW} {n : Nat} {q : PV} (h : storeW P t w = some n) (k : DWσ env ρ σ w q) : szT P t = some q.cells.length ∧ 0 < q.cells.length ∧ q.cells.all PV.sc = true ∧ (n = 0 ∧ (∀ cs, q ≠ .agg cs) ∨ n = q.cells.length ∧ 0 < n ∧ ∃ ps, q = .agg ps) ∨ (0 < n ∧ szT P t = some n ∧ ∃ ps, q = .agg ps ∧ ps.all PV.sc = true) := by
 unfold storeW at h;split at h
 ·split at h
  ·cases h
  ·rename_i hne;split at h
   ·rename_i m hm;cases h;refine .inr ⟨by omega, hm, ?_⟩;cases k with
    | c => exact absurd rfl (hne _)
    | fv => exact absurd rfl (hne _)
    | av hx ht hs =>
     refine ⟨_, rfl, ?_⟩;clear hx;induction hs with
     | nil => rfl
     | cons h t ih =>
      simp only [List.all_cons, Bool.and_eq_true] at ht ⊢;exact ⟨h.sc ht.1, ih ht.2⟩
    | agg hc => exact ⟨_, rfl, F2.sc hc⟩
   ·cases h
 ·split at h
  ·cases h
  ·rename_i c hne;split at h
   ·rename_i hz;cases h;rcases k.cell with k | ⟨x, _, _, _, rfl, _⟩
    ·have hsc := k.sc;have hc : q.cells = [q] := by cases q <;> first | rfl | (simp [PV.sc] at hsc)
     refine .inl ⟨by rw [hc]; exact hz, by rw [hc]; simp, by rw [hc]; simp [hsc], .inl ⟨rfl, fun cs e => ?_⟩⟩;subst e; simp [PV.sc] at hsc
    ·exact absurd rfl (hne x)
   ·cases h
  ·cases h
 ·cases h
theorem deep_agg {ps : List PV} {u : PV} {bs : List Nat} (h : deep s (.agg ps) = some (u, bs)) : ∃ qs, u = .agg qs ∧ qs.length = ps.length := by
 simp only [deep] at h;split at h
 ·rename_i qs b hq;cases h;refine ⟨_, rfl, ?_⟩;have : ∀ {ps vs : List PV} {a : List Nat}, deep0L s ps = some (vs, a) → vs.length = ps.length := by
   intro ps;induction ps with
   | nil => intro vs a h; cases h; rfl
   | cons p ps ih =>
    intro vs a h;unfold deep0L at h;split at h
    ·split at h
     ·rename_i hqs; cases h; simp [ih hqs]
     ·cases h
    ·cases h
  exact this hq
 ·cases h
theorem arg_one {q : PV} (h : Arg q) (hn : ∀ cs, q ≠ .agg cs) : q.cells = [q] := by
 rcases h with h | ⟨cs, rfl, _⟩ | ⟨g, a, c, rfl, _⟩
 ·exact cells_t0 h
 ·exact absurd rfl (hn cs)
 ·rfl
theorem deep_not_agg {q u : PV} {bs : List Nat} (h : deep s q = some (u, bs)) (hn : ∀ cs, q ≠ .agg cs) : ∀ cs, u ≠ .agg cs := by
 intro cs e;subst e;cases q <;> simp only [deep, deep1, deep0] at h <;> first | (exact absurd rfl (hn _)) | (cases h; done) | skip
 all_goals (repeat' split at h) <;> cases h
theorem storeS_ok (hb : Rb I env ρ σ s) {t : TypeId} {c : SC} {w : SW} {p q : PV} (h2 : DWσ env ρ σ (.c c) p) (k2 : DWσ env ρ σ w q) : Sp env (storeS P σ t c w) (fun σ' => ∃ s' ρ', pStore P 0 s t p q = some s' ∧ Nx I env ρ σ ρ' σ' s') := by
 rcases h2.cell with h2 | ⟨x', g, a', e, rfl, _⟩
 rotate_left
 ·exact .fail
 cases h2 with
 | @ptr b o m hρ hlt =>
  simp only [storeS];split
  ·rename_i cs z hl;refine Sp.bind (cellsT_ok (P := P) k2) fun vs ⟨v1, v2⟩ => ?_;split
   ·rename_i hcond;simp only [Bool.and_eq_true, Nat.ble_eq] at hcond;obtain ⟨hlt', hdb⟩ := hb.bl b _ hl;cases hdb with
    | @box _ _ _ m' e ps hρ' hg hbx hf he hcs =>
     rw [hρ] at hρ'; cases hρ';have hle : o + q.cells.length ≤ ps.length := by rw [← hcs.len, ← v1.len]; exact hcond.2
     obtain ⟨r1, r2⟩ := hb.upd (sb' := .box (spliceS cs o vs) z false) (e' := { e with els := e.els.set 0 (splice ps o q.cells) }) hl hρ hg (fun n hn => hn) fun hx =>
      .box (e := { e with els := e.els.set 0 (splice ps o q.cells) }) (ps := splice ps o q.cells) hρ (by rw [St.get_put, if_pos rfl]) hbx hf (by show e.els.set 0 _ = _; rw [he]; rfl) ((splice_ok hcs v1 o).mono fun _ _ h => h.step hx)
     refine .ret ⟨_, ρ, ?_, ⟨r1, r2, rfl, rfl, rfl, rfl⟩⟩;simp only [pStore, hg];rw [if_pos ⟨hf, Nat.zero_le _, v2, by rw [← v1.len]; omega, F2.sc v1⟩];rw [he];simp only [List.getElem?_cons_zero];rw [if_pos hle, hbx]
     try simp
   ·exact .fail
  ·exact .fail
 | @ep b m o i kk n hρ hlt hi hn =>
  simp only [storeS];split
  ·rename_i l ty z hl;split
   ·rename_i N hN;refine Sp.bind (deepS_ok hb k2) fun r hr => ?_;obtain ⟨u, d1, d2, d3⟩ := hr.h;obtain ⟨hlt', hdb⟩ := hb.bl b _ hl;split
    ·exact .fail
    ·rename_i hel;have hnb : b ∉ r.2 := by intro hm; rw [List.elem_eq_mem] at hel; simp [hm] at hel
     have main : ∀ (y : A), y.ev env = some u → szT P t = some q.cells.length → 0 < q.cells.length → u.cells.length = q.cells.length → q.cells.all PV.sc = true →
       Sp env (EM.bind (emit (.set o) [l, i, y]) fun l' => EM.ret { freezeS σ r.2 with bl := put (freezeS σ r.2).bl b (.lst l' ty z false) }) (fun σ' => ∃ s' ρ', pStore P 0 s t (.ptr m n.toNat o) q = some s' ∧ Nx I env ρ σ ρ' σ' s') := by
      intro y hy hz h0 hul hsc;refine Sp.bind Sp.emit fun l' hl' => ?_;cases hdb with
      | gh hρ' => rw [hρ] at hρ'; cases hρ'
      | @lst _ _ _ _ m' els hρ' hlv hg =>
       rw [hρ] at hρ'; cases hρ';obtain ⟨v, e1, e2⟩ := letIs3 hl' hlv hi hy;obtain ⟨_, row, w1, w2, rfl⟩ := set_spec e1;obtain ⟨f1, f2, f3⟩ := Rb.freeze r.2 hb hr.live;have hlF : look (freezeS σ r.2).bl b = some (.lst l ty z false) := by rw [look_freeze_ne _ _ _ hnb]; exact hl
       have hnm : m ∉ blocks ρ r.2 := notMem_blocks hb hr.live (by rw [hl]; rfl) hρ hnb;have hgF : (Pev.freeze s (blocks ρ r.2)).get m = some ⟨els, ty, z, false, false⟩ := by rw [freeze_get _ _ _ hnm]; exact hg
       obtain ⟨r1, r2⟩ := f1.upd (sb' := .lst l' ty z false) (e' := ⟨els.set n.toNat (splice row o u.cells), ty, z, false, false⟩) hlF hρ hgF
        (fun k hk => by
         simp only [lenSB, e2] at hk;simp only [lenSB, hlv];rw [← hk]; simp) fun hx => .lst hρ e2 (by rw [St.get_put, if_pos rfl])
       obtain ⟨g1, g2, g3, g4, _⟩ := freezeS_same r.2 σ;have hnbq : (freezeS σ r.2).nb = σ.nb := freezeS_nb r.2 σ;rw [hnbq] at r2;refine .ret ⟨_, ρ, ?_, ⟨r1, ?_, g1, g2, g3, g4⟩⟩
       ·simp only [pStore, hg];rw [if_pos ⟨trivial, Nat.zero_le _, hz, h0, hsc⟩];simp only [w1];rw [if_pos (by rw [← hul]; exact w2)];simp only [d1, hgF, w1];rw [if_pos ⟨trivial, trivial, w2, hul⟩]
       ·have := f2.trans r2;show Sx env ρ (lenOf env σ) σ.nb env ρ _ (freezeS σ r.2).nb
        rw [hnbq]; exact this
     rcases storeW_spec hN k2 with ⟨hz, h0, hsc, hh⟩ | ⟨h0, hz, ps, rfl, hsc⟩
     ·rcases hh with ⟨rfl, hna⟩ | ⟨rfl, h0', ps, rfl⟩
      ·have hu1 := arg_one d3 (deep_not_agg d1 hna);have hq1 : q.cells.length = 1 := by cases q <;> first | rfl | exact absurd rfl (hna _)
       exact Sp.bind (P := fun y => y.ev env = some u) (.ret d2) fun y hy => main y hy hz h0 (by rw [hu1, hq1]; rfl) hsc
      ·obtain ⟨qs, rfl, hl2⟩ := deep_agg d1;refine Sp.bind (P := fun y => y.ev env = some (.agg qs)) ?_ fun y hy => main y hy hz h0 hl2 hsc;split
       ·exact .ret d2
       ·exact (shaped_ok d2).mono fun y hy => hy.1
     ·obtain ⟨qs, rfl, hl2⟩ := deep_agg d1;cases N with
      | zero => omega
      | succ N =>
       have sh : Sp env (shaped (N + 1) r.1) (fun y => y.ev env = some (.agg qs) ∧ qs.length = N + 1) := shaped_ok d2;refine Sp.bind sh fun y hy => main y hy.1 ?_ ?_ hl2 hsc
       ·show szT P t = some ps.length
        rw [hz, ← hl2, hy.2]
       ·show 0 < ps.length
        rw [← hl2, hy.2]; omega
   ·exact .fail
  ·exact .fail
 | _ => exact .fail
theorem store_ok (hb : Rb I env ρ σ s) (ht : Rtσ env ρ σ f) {t : TypeId} {a x : Operand} : Sp env (opE P σ (.store t a x)) (OkR P I env ρ σ s f (.store t a x)) := by
 simp only [opE];refine Sp.bind (Sp.ofO fun w h => h) fun c hc => Sp.bind (Sp.ofO fun w h => h) fun w hw => ?_;obtain ⟨p, h1, h2⟩ := opC_ok hb ht hc;obtain ⟨q, k1, k2⟩ := opW_ok hb ht hw;exact Sp.bind (storeS_ok hb h2 k2) fun σ' ⟨s', ρ', m1, m2⟩ => .ret ⟨.tup [], s', ρ', by simp only [pOp, h1, k1, m1], m2, .tup .nil⟩
end
end Go.Sym
namespace Go.Sym
open Go.Abu Go.Pev
section
variable {P : Program}
theorem int_bin {t : TypeId} {xo yo : Operand} {op : BinOp} {k k' : IntKind} {a b : Int} {v : Value} (h : intB op k a k' b = some (.v v)) :
  pureRun P (do eqGuard op t xo yo (.int k a) (.int k' b); binOp op t (.int k a) (.int k' b)) = some v := by
 have sameK : ∀ {X : Sem Value}, k = k' → (if k ≠ k' then stuck "BinOp: operands of different kinds" else X) = X := by
  intro X e; rw [if_neg (by simp [e])]
 cases op <;> simp only [intB] at h
 case add => split at h; (rename_i e; subst e; cases h; simp only [binOp]; rw [sameK rfl]; rfl); cases h
 case sub => split at h; (rename_i e; subst e; cases h; simp only [binOp]; rw [sameK rfl]; rfl); cases h
 case mul => split at h; (rename_i e; subst e; cases h; simp only [binOp]; rw [sameK rfl]; rfl); cases h
 case quo =>
  split at h
  ·rename_i e; subst e;split at h
   ·cases h
   ·rename_i hb;cases h; simp only [binOp]; rw [sameK rfl]; simp only [Op.intDiv]; rw [if_neg hb]; rfl
  ·cases h
 case rem =>
  split at h
  ·rename_i e; subst e;split at h
   ·cases h
   ·rename_i hb;cases h; simp only [binOp]; rw [sameK rfl]; simp only [Op.intDiv]; rw [if_neg hb]; rfl
  ·cases h
 case and => split at h; (rename_i e; subst e; cases h; simp only [binOp]; rw [sameK rfl]; rfl); cases h
 case or => split at h; (rename_i e; subst e; cases h; simp only [binOp]; rw [sameK rfl]; rfl); cases h
 case xor => split at h; (rename_i e; subst e; cases h; simp only [binOp]; rw [sameK rfl]; rfl); cases h
 case andNot => split at h; (rename_i e; subst e; cases h; simp only [binOp]; rw [sameK rfl]; rfl); cases h
 case shl =>
  split at h
  ·cases h
  ·rename_i hb; cases h; simp only [binOp, Op.shift]; rw [if_neg hb]; rfl
 case shr =>
  split at h
  ·cases h
  ·rename_i hb; cases h; simp only [binOp, Op.shift]; rw [if_neg hb]; rfl
 case eql => split at h; (rename_i e; subst e; cases h; simp only [binOp]; rw [sameK rfl]; show some (Value.bool (a == b)) = _; congr 2); cases h
 case neq => split at h; (rename_i e; subst e; cases h; simp only [binOp]; rw [sameK rfl]; show some (Value.bool (a != b)) = _; congr 2); cases h
 case lss => split at h; (rename_i e; subst e; cases h; simp only [binOp]; rw [sameK rfl]; rfl); cases h
 case leq => split at h; (rename_i e; subst e; cases h; simp only [binOp]; rw [sameK rfl]; rfl); cases h
 case gtr => split at h; (rename_i e; subst e; cases h; simp only [binOp]; rw [sameK rfl]; rfl); cases h
 case geq => split at h; (rename_i e; subst e; cases h; simp only [binOp]; rw [sameK rfl]; rfl); cases h
theorem intB_form {op : BinOp} {k k' : IntKind} {a b : Int} {p : PV} (h : intB op k a k' b = some p) : ∃ v, p = .v v ∧ plain1 v = true := by
 unfold intB at h
 (repeat' split at h) <;> first | (cases h; done) | (cases h; exact ⟨_, rfl, rfl⟩)
theorem aBin_of {op : BinOp} {t : TypeId} {xo yo : Operand} {x y r : Value} (hx : plain x = true) (hy : plain y = true) (hr : plain1 r = true)
  (h : pureRun P (do eqGuard op t xo yo x y; binOp op t x y) = some r) : aBin P op t xo yo x y = some r := by
 unfold aBin;cases hf : fBin op x y with
 | none => simp only [aBinS]; rw [hx, hy]; simp only [Bool.and_self, if_true]; rw [h, Option.bind_some, if_pos hr]
 | some r' =>
  have run := pureRun_sound P _ _ h;unfold fBin at hf;split at hf
  ·split at hf
   ·have := (fNat_run (P := P) (t := t) (xo := xo) (yo := yo) hf default).1;rw [run default] at this;cases this; rfl
   ·cases hf
  ·cases hf
theorem str_bin {t : TypeId} {xo yo : Operand} {op : BinOp} {a b : ByteArray} {v : Value} (h : strB op a b = some (.v v)) :
  pureRun P (do eqGuard op t xo yo (.string a) (.string b); binOp op t (.string a) (.string b)) = some v := by
 cases op <;> simp only [strB] at h <;> try (cases h; done)
 case add =>
  split at h
  ·cases h
  ·rename_i hn;cases h;simp only [binOp, Op.stringOp];rw [if_neg (by simpa using hn)]
   rfl
 case eql => cases h; rfl
 case neq => cases h; rfl
theorem strB_form {op : BinOp} {a b : ByteArray} {p : PV} (h : strB op a b = some p) : ∃ v, p = .v v ∧ plain1 v = true := by
 unfold strB at h
 (repeat' split at h) <;> first | (cases h; done) | (cases h; exact ⟨_, rfl, rfl⟩)
theorem bool_bin {t : TypeId} {xo yo : Operand} {op : BinOp} {a b : Bool} {v : Value} (ht : P.underlying t = some .bool) (h : boolB op a b = some (.v v)) :
  pureRun P (do eqGuard op t xo yo (.bool a) (.bool b); binOp op t (.bool a) (.bool b)) = some v := by
 have hu : pureRun P (underlying t) = some .bool := by
  unfold underlying;rw [pureRun_bind];show (some P : Option Program).bind _ = _
  rw [Option.bind_some, ht]; rfl
 cases op <;> simp only [boolB] at h <;> try (cases h; done)
 case eql =>
  cases h;show pureRun P ((Op.equal t (.bool a) (.bool b)) >>= fun x => pure (Value.bool x)) = _
  unfold Op.equal Op.maxDepth;unfold Op.equalIn;simp only [pureRun_bind, hu, Option.bind_some];rfl
 case neq =>
  cases h;show pureRun P ((Op.equal t (.bool a) (.bool b)) >>= fun x => pure (Value.bool (!x))) = _
  unfold Op.equal Op.maxDepth;unfold Op.equalIn;simp only [pureRun_bind, hu, Option.bind_some];rfl
theorem boolB_form {op : BinOp} {a b : Bool} {p : PV} (h : boolB op a b = some p) : ∃ v, p = .v v ∧ plain1 v = true := by
 unfold boolB at h
 (repeat' split at h) <;> first | (cases h; done) | (cases h; exact ⟨_, rfl, rfl⟩)
theorem bin_cells {t : TypeId} {xo yo : Operand} {op : BinOp} {p q r : PV} (h : (RF.bin op).ev [p, q] = some r) : pBin P op t xo yo p q = some r ∧ t0 r = true := by
 simp only [RF.ev] at h;split at h
 ·rename_i k a k' b hl;simp only [List.cons.injEq, and_true] at hl;obtain ⟨rfl, rfl⟩ := hl;obtain ⟨v, rfl, hp⟩ := intB_form h;refine ⟨?_, rfl⟩;simp only [pBin, toVal, toV];rw [aBin_of rfl rfl hp (int_bin h)];simp only;rw [if_pos hp]
 ·rename_i a b hl;simp only [List.cons.injEq, and_true] at hl;obtain ⟨rfl, rfl⟩ := hl;obtain ⟨v, rfl, hp⟩ := strB_form h;refine ⟨?_, rfl⟩;simp only [pBin, toVal, toV];rw [aBin_of rfl rfl hp (str_bin h)];simp only;rw [if_pos hp]
 ·cases h
theorem bbin_cells {t : TypeId} {xo yo : Operand} {op : BinOp} {p q r : PV} (ht : P.underlying t = some .bool) (h : (RF.bbin op).ev [p, q] = some r) : pBin P op t xo yo p q = some r ∧ t0 r = true := by
 simp only [RF.ev] at h;split at h
 ·rename_i a b hl;simp only [List.cons.injEq, and_true] at hl;obtain ⟨rfl, rfl⟩ := hl;obtain ⟨v, rfl, hp⟩ := boolB_form h;refine ⟨?_, rfl⟩;simp only [pBin, toVal, toV];rw [aBin_of rfl rfl hp (bool_bin ht h)];simp only;rw [if_pos hp]
 ·cases h
theorem un_cells {op : UnOp} {p r : PV} (h : (RF.un op).ev [p] = some r) : pUn P op p = some r ∧ t0 r = true := by
 simp only [RF.ev] at h;split at h
 ·rename_i b hl;simp only [List.cons.injEq, and_true] at hl;subst hl;split at h
  ·cases h; exact ⟨rfl, rfl⟩
  ·cases h
 ·rename_i k a hl;simp only [List.cons.injEq, and_true] at hl;subst hl;split at h
  ·cases h; exact ⟨rfl, rfl⟩
  ·cases h
 ·cases h
end
end Go.Sym
namespace Go.Sym
open Go.Abu Go.Pev
section
variable {P : Program}
def valT (P : Program) (t : TypeId) (vs : List Value) : Option Value :=
 match isAggT P t with
 | some true => some (.agg vs.toArray)
 | some false => vs[0]?
 | none => none
theorem pure_underlying {t : TypeId} {d : TypeDesc} (h : P.underlying t = some d) : pureRun P (underlying t) = some d := by
 unfold underlying;rw [pureRun_bind];show (some P : Option Program).bind _ = _
 rw [Option.bind_some, h]; rfl
theorem pure_isAgg {t : TypeId} {b : Bool} (h : isAggT P t = some b) : pureRun P (isAgg t) = some b := by
 unfold isAggT at h;rw [Option.map_eq_some_iff] at h;obtain ⟨d, h1, h2⟩ := h;unfold isAgg;rw [pureRun_bind, pure_underlying h1, Option.bind_some];subst h2;cases d <;> rfl
theorem pure_sizeOf {t : TypeId} {n : Nat} (h : szT P t = some n) : pureRun P (sizeOf t) = some n := by
 unfold szT at h;rw [Option.map_eq_some_iff] at h;obtain ⟨i, h1, h2⟩ := h;unfold sizeOf typeInfo;rw [pureRun_bind, pureRun_bind];show ((some P : Option Program).bind _).bind _ = _
 rw [Option.bind_some, h1];subst h2;rfl
structure EqT (P : Program) (t : TypeId) (ks : List Ck) : Prop where
 agg : (isAggT P t = some true ∧ szT P t = some ks.length) ∨ (isAggT P t = some false ∧ ks.length = 1)
theorem pure_part {t : TypeId} {ks : List Ck} (h : EqT P t ks) {vs : List Value} {o : Nat} (hl : o + ks.length ≤ vs.length) : ∃ u, valT P t ((vs.drop o).take ks.length) = some u ∧ pureRun P (part t vs.toArray o) = some u := by
 rcases h.agg with ⟨h1, h2⟩ | ⟨h1, h2⟩
 ·refine ⟨.agg ((vs.drop o).take ks.length).toArray, by unfold valT; rw [h1], ?_⟩;unfold part;rw [pureRun_bind, pure_isAgg h1, Option.bind_some];simp only [if_true];rw [pureRun_bind, pure_sizeOf h2, Option.bind_some];show some (Value.agg _) = _
  congr 2
  simp [List.extract_eq_take_drop]
 ·have hlt : o < vs.length := by omega
  refine ⟨vs[o], ?_, ?_⟩
  ·unfold valT;rw [h1];simp only;rw [h2, List.getElem?_take];simp [hlt]
  ·unfold part;rw [pureRun_bind, pure_isAgg h1, Option.bind_some];simp only [Bool.false_eq_true, if_false];have : vs.toArray[o]? = some vs[o] := by simp [hlt]
   rw [this]; rfl
theorem eqL_len : ∀ {ks : List Ck} {xs ys : List PV} {b : Bool}, eqL ks xs ys = some b → xs.length = ks.length ∧ ys.length = ks.length
 | [], [], [], b, h => ⟨rfl, rfl⟩
 | k :: ks, x :: xs, y :: ys, b, h => by
  unfold eqL at h;split at h
  ·split at h
   ·rename_i h2; obtain ⟨a, c⟩ := eqL_len h2; simp [a, c]
   ·cases h
  ·cases h
 | [], [], _ :: _, _, h => by cases h
 | [], _ :: _, _, _, h => by cases h
 | _ :: _, [], _, _, h => by cases h
 | _ :: _, _ :: _, [], _, h => by cases h
theorem eqL_append : ∀ {ks ls : List Ck} {xs ys : List PV} {b : Bool}, eqL (ks ++ ls) xs ys = some b → ∃ b1 b2, eqL ks (xs.take ks.length) (ys.take ks.length) = some b1 ∧ eqL ls (xs.drop ks.length) (ys.drop ks.length) = some b2 ∧ b = (b1 && b2)
 | [], ls, xs, ys, b, h => ⟨true, b, rfl, h, by simp⟩
 | k :: ks, ls, [], ys, b, h => by cases h
 | k :: ks, ls, x :: xs, [], b, h => by cases h
 | k :: ks, ls, x :: xs, y :: ys, b, h => by
  simp only [List.cons_append] at h;unfold eqL at h;split at h
  ·rename_i c hc;split at h
   ·rename_i d hd;cases h;obtain ⟨b1, b2, h1, h2, rfl⟩ := eqL_append hd;exact ⟨c && b1, b2, by simp only [List.length_cons, List.take_succ_cons, eqL, hc, h1], h2, by rw [Bool.and_assoc]⟩
   ·cases h
  ·cases h
theorem map_v_take (vs : List Value) (n : Nat) : (vs.map PV.v).take n = (vs.take n).map PV.v := by rw [List.map_take]
theorem map_v_drop (vs : List Value) (n : Nat) : (vs.map PV.v).drop n = (vs.drop n).map PV.v := by rw [List.map_drop]
def EqOk (P : Program) (D : Nat) (t : TypeId) (ks : List Ck) : Prop := EqT P t ks ∧ ∀ (vx vy : List Value) (b : Bool), eqL ks (vx.map .v) (vy.map .v) = some b → ∃ u w, valT P t vx = some u ∧ valT P t vy = some w ∧ pureRun P (Op.equalIn D t u w) = some b
theorem eq_loop {D : Nat} {rec : TypeId → Option (List Ck)} (hrec : ∀ t ks, rec t = some ks → EqOk P D t ks) {vx vy : List Value} : ∀ (fs : List Field) (o : Nat) {ks : List Ck} {b : Bool}, eqFs rec fs o = some ks → o ≤ vx.length → o ≤ vy.length → eqL ks ((vx.drop o).map .v) ((vy.drop o).map .v) = some b →
  pureRun P (forIn fs ((none, ()) : Option Bool × Unit) fun f __s =>
      if f.name ≠ "_" then do
       let __do_lift ← part f.type vx.toArray f.offset
       let __do_lift_1 ← part f.type vy.toArray f.offset
       let __do_lift ← Op.equalIn D f.type __do_lift __do_lift_1
       if (!__do_lift) = true then pure (ForInStep.done (some false, ())) else pure (ForInStep.yield (none, ()))
      else pure (ForInStep.yield (none, ()))) = some ((if b then none else some false), ())
 | [], o, ks, b, h, _, _, hl => by
  cases h;have := eqL_len hl;have : vx.drop o = [] := List.eq_nil_of_length_eq_zero (by simpa using this.1)
  have : vy.drop o = [] := List.eq_nil_of_length_eq_zero (by have := (eqL_len hl).2; simpa using this)
  simp only [List.forIn_nil];simp_all [eqL];cases hl;rfl
 | f :: fs, o, ks, b, h, ho1, ho2, hl => by
  unfold eqFs at h;split at h
  ·rename_i hn;simp only [Bool.and_eq_true, bne_iff_ne] at hn;have ho := Nat.eq_of_beq_eq_true hn.2;split at h
   ·rename_i k hk;split at h
    ·rename_i r hr;cases h;obtain ⟨b1, b2, e1, e2, rfl⟩ := eqL_append hl;have hlen := eqL_len hl;simp only [List.length_map, List.length_drop, List.length_append] at hlen;obtain ⟨hT, hE⟩ := hrec _ _ hk;rw [map_v_take, map_v_take] at e1;obtain ⟨u, w, m1, m2, m3⟩ := hE _ _ _ e1;obtain ⟨u', p1, p2⟩ := pure_part hT (vs := vx) (o := o) (by omega);obtain ⟨w', q1, q2⟩ := pure_part hT (vs := vy) (o := o) (by omega);rw [m1] at p1; cases p1;rw [m2] at q1; cases q1;simp only [List.forIn_cons];rw [if_pos hn.1, ho, pureRun_bind, pureRun_bind, p2, Option.bind_some, pureRun_bind, q2, Option.bind_some, pureRun_bind, m3, Option.bind_some];cases b1 with
     | false => rfl
     | true =>
      simp only [Bool.not_true, Bool.false_eq_true, if_false, Bool.true_and];rw [map_v_drop, map_v_drop, List.drop_drop, List.drop_drop] at e2;exact eq_loop hrec fs (o + k.length) hr (by omega) (by omega) e2
    ·cases h
   ·cases h
  ·cases h
theorem eqTy_ok : ∀ (d : Nat) {t : TypeId} {ks : List Ck}, eqTy P d t = some ks → ∀ D, d ≤ D → EqOk P D t ks
 | 0, t, ks, h => by cases h
 | d + 1, t, ks, h => by
  intro D hD;obtain ⟨D, rfl⟩ : ∃ D', D = D' + 1 := ⟨D - 1, by omega⟩;unfold eqTy at h;have one : ∀ {k : Ck} {d : TypeDesc}, P.underlying t = some d → aggD d = false → (∀ x y b, eqC k (.v x) (.v y) = some b → pureRun P (Op.equalIn (D + 1) t x y) = some b) → EqOk P (D + 1) t [k] := by
   intro k d hu ha hE;have hag : isAggT P t = some false := by unfold isAggT; rw [hu]; simp [ha]
   refine ⟨⟨.inr ⟨hag, rfl⟩⟩, fun vx vy b hb => ?_⟩;have hl := eqL_len hb;simp only [List.length_map, List.length_singleton] at hl;obtain ⟨x, rfl⟩ := List.length_eq_one_iff.1 hl.1;obtain ⟨y, rfl⟩ := List.length_eq_one_iff.1 hl.2;refine ⟨x, y, by unfold valT; rw [hag]; rfl, by unfold valT; rw [hag]; rfl, ?_⟩;simp only [List.map_cons, List.map_nil, eqL] at hb;split at hb
   ·rename_i c hc;cases hb;rw [Bool.and_true];exact hE x y c hc
   ·cases hb
  split at h
  ·rename_i hu;cases h;refine one hu rfl fun x y b hb => ?_;cases x <;> cases y <;> simp only [eqC] at hb <;> try (cases hb; done)
   cases hb;unfold Op.equalIn;rw [pureRun_bind, pure_underlying hu, Option.bind_some];rfl
  ·rename_i k hu;cases h;refine one hu rfl fun x y b hb => ?_;cases x <;> cases y <;> simp only [eqC] at hb <;> try (cases hb; done)
   split at hb
   ·rename_i e;cases hb;subst e;unfold Op.equalIn;rw [pureRun_bind, pure_underlying hu, Option.bind_some];simp only [if_true];show some _ = some _
    congr 1
   ·cases hb
  ·rename_i hu;cases h;refine one hu rfl fun x y b hb => ?_;cases x <;> cases y <;> simp only [eqC] at hb <;> try (cases hb; done)
   cases hb;unfold Op.equalIn;rw [pureRun_bind, pure_underlying hu, Option.bind_some];rfl
  ·rename_i fields hu;split at h
   ·cases h
   ·rename_i hst;split at h
    ·rename_i ks' hfs;split at h
     ·rename_i m hm;split at h
      ·rename_i hb;cases h;have e := Nat.eq_of_beq_eq_true hb;have hag : isAggT P t = some true := by unfold isAggT; rw [hu]; rfl
       refine ⟨⟨.inl ⟨hag, by rw [hm, e]⟩⟩, fun vx vy b hl => ?_⟩;refine ⟨.agg vx.toArray, .agg vy.toArray, by unfold valT; rw [hag], by unfold valT; rw [hag], ?_⟩;have loop := eq_loop (P := P) (D := D) (rec := eqTy P d) (fun t ks hk => eqTy_ok d hk D (by omega)) (vx := vx) (vy := vy) fields.toList 0 hfs (Nat.zero_le _) (Nat.zero_le _) (by simpa using hl)
       unfold Op.equalIn;simp only [pureRun_bind, pure_underlying hu, Option.bind_some];have hp : pureRun P program = some P := rfl;rw [hp];simp only [Option.bind_some, hst, Bool.false_eq_true, if_false];simp only [← Array.forIn_toList];rw [pureRun_bind, loop, Option.bind_some];cases b <;> rfl
      ·cases h
     ·cases h
    ·cases h
  ·cases h
end
end Go.Sym
namespace Go.Sym
open Go.Abu Go.Pev
section
variable {P : Program} {I : FuncId → Bool} {env : List PV} {ρ : Nat → Option Nat} {σ : SS} {s : St} {f : PF}
theorem smc_v {v p : PV} (h : Smc v p) (hv : v ≠ .sl []) : p = v := by
 rcases h with h | ⟨h, _⟩
 ·exact h
 ·exact absurd h hv
theorem bin_args {op : BinOp} {v w r : PV} (h : (RF.bin op).ev [v, w] = some r) : v ≠ .sl [] ∧ w ≠ .sl [] := by
 constructor <;> (rintro rfl; simp only [RF.ev] at h; first | (cases h; done) | (split at h <;> first | (cases h; done) | (rename_i hl; simp at hl)))
theorem bbin_args {op : BinOp} {v w r : PV} (h : (RF.bbin op).ev [v, w] = some r) : v ≠ .sl [] ∧ w ≠ .sl [] := by
 constructor <;> (rintro rfl; simp only [RF.ev] at h; first | (cases h; done) | (split at h <;> first | (cases h; done) | (rename_i hl; simp at hl)))
theorem cellA_w {c : SC} {p : PV} (h : DWσ env ρ σ (.c c) p) : Sp env (cellA c) (fun a => ∃ v, a.ev env = some v ∧ t0 v = true ∧ Smc v p) := by
 rcases h.cell with h | ⟨x, g, a, e, rfl, _⟩
 ·exact cellA_ok h
 ·exact .fail
theorem binC_ok {op : BinOp} {t : TypeId} {xo yo : Operand} {rf : RF} {x y : SW} {p q : PV} (h1 : DWσ env ρ σ x p) (h2 : DWσ env ρ σ y q)
  (hr : ∀ v w r, rf.ev [v, w] = some r → (v ≠ .sl [] ∧ w ≠ .sl []) ∧ pBin P op t xo yo v w = some r ∧ t0 r = true) : Sp env (binC rf x y) (fun v => ∃ r, pBin P op t xo yo p q = some r ∧ DVσ env ρ σ v r) := by
 unfold binC;split
 ·split
  ·refine Sp.bind (cellA_w h1) fun a ⟨v, a1, a2, a3⟩ => Sp.bind (cellA_w h2) fun b ⟨w, b1, b2, b3⟩ => Sp.bind Sp.emit fun y hy => .ret ?_;obtain ⟨u, e1, e2⟩ := letIs2 hy a1 b1;obtain ⟨⟨n1, n2⟩, k1, k2⟩ := hr v w u e1;rw [smc_v a3 n1, smc_v b3 n2];exact ⟨u, k1, .w (.c (.a e2 k2 (.inl rfl)))⟩
  ·exact .fail
 ·exact .fail
theorem eqC_v {k : Ck} {x y : PV} {b : Bool} (h : eqC k x y = some b) : ∃ u w, x = .v u ∧ y = .v w ∧ plain1 u = true ∧ plain1 w = true := by
 unfold eqC at h
 (repeat' split at h) <;> first | (cases h; done) | exact ⟨_, _, rfl, rfl, rfl, rfl⟩
theorem eqL_vs : ∀ {ks : List Ck} {xs ys : List PV} {b : Bool}, eqL ks xs ys = some b → ∃ vx vy : List Value, xs = vx.map .v ∧ ys = vy.map .v ∧ vx.all plain1 = true ∧ vy.all plain1 = true
 | [], [], [], b, h => ⟨[], [], rfl, rfl, rfl, rfl⟩
 | k :: ks, x :: xs, y :: ys, b, h => by
  unfold eqL at h;split at h
  ·rename_i c hc;split at h
   ·rename_i d hd;obtain ⟨u, w, rfl, rfl, h1, h2⟩ := eqC_v hc;obtain ⟨vx, vy, rfl, rfl, h3, h4⟩ := eqL_vs hd;exact ⟨u :: vx, w :: vy, rfl, rfl, by simp [h1, h3], by simp [h2, h4]⟩
   ·cases h
  ·cases h
 | [], [], _ :: _, _, h => by cases h
 | [], _ :: _, _, _, h => by cases h
 | _ :: _, [], _, _, h => by cases h
 | _ :: _, _ :: _, [], _, h => by cases h
theorem toVs_of_map : ∀ (vs : List Value), toVs (vs.map .v) = some vs
 | [] => rfl
 | v :: vs => by simp only [List.map_cons, toVs, toV, toVs_of_map vs]
theorem deep0_v {p : PV} {x : Value} {bs : List Nat} (h : deep0 s p = some (.v x, bs)) : p = .v x := by
 cases p <;> simp only [deep0] at h <;> try (cases h; done)
 ·cases h; rfl
 ·(repeat' split at h) <;> cases h
 ·(repeat' split at h) <;> cases h <;> (rename_i hh; cases hh)
theorem deep0L_v : ∀ {ps : List PV} {vs : List Value} {bs : List Nat}, deep0L s ps = some (vs.map .v, bs) → ps = vs.map .v
 | [], vs, bs, h => by
  simp only [deep0L] at h;cases vs with
  | nil => rfl
  | cons v vs => simp at h
 | p :: ps, vs, bs, h => by
  unfold deep0L at h;split at h
  ·rename_i q b1 hq;split at h
   ·rename_i qs b2 hqs;cases vs with
    | nil => simp at h
    | cons v vs =>
     simp only [List.map_cons, Option.some.injEq, Prod.mk.injEq, List.cons.injEq] at h;obtain ⟨⟨rfl, rfl⟩, _⟩ := h;rw [deep0_v hq, deep0L_v hqs]; rfl
   ·cases h
  ·cases h
theorem deep_agg_v {p : PV} {vs : List Value} {bs : List Nat} (h : deep s p = some (.agg (vs.map .v), bs)) : p = .agg (vs.map .v) := by
 cases p <;> simp only [deep, deep1, deep0] at h <;> try ((repeat' split at h) <;> (cases h; done))
 rename_i cs;split at h
 ·rename_i qs b hq;simp only [Option.some.injEq, Prod.mk.injEq, PV.agg.injEq] at h;obtain ⟨rfl, _⟩ := h;rw [deep0L_v hq]
 ·cases h
theorem aggA_ok (hb : Rb I env ρ σ s) {w : SW} {p : PV} (h : DWσ env ρ σ w p) : Sp env (aggA σ w) (fun a => ∃ q, deep s p = some (q, []) ∧ a.ev env = some q ∧ Arg q) := by
 unfold aggA;refine Sp.bind (deepS_ok hb h) fun r hr => ?_;obtain ⟨q, h1, h2, h3⟩ := hr.h;split
 ·rename_i e;rw [e] at h1;exact .ret ⟨q, h1, h2, h3⟩
 ·exact .fail
theorem eqGuard_eq : ∀ (d : Nat) {t : TypeId} {ks : List Ck}, eqTy P d t = some ks → ∀ D, d ≤ D → P.eqGuardType D t = false
 | 0, t, ks, h => by cases h
 | d + 1, t, ks, h => by
  intro D hD;obtain ⟨D, rfl⟩ : ∃ D', D = D' + 1 := ⟨D - 1, by omega⟩;unfold eqTy at h;unfold Program.eqGuardType;split at h
  ·rename_i hu; rw [hu]
  ·rename_i hu; rw [hu]
  ·rename_i hu; rw [hu]
  ·rename_i fields hu;rw [hu];simp only;split at h
   ·cases h
   ·split at h
    ·rename_i ks' hfs;have : ∀ (fs : List Field) (o : Nat) (ks : List Ck), eqFs (eqTy P d) fs o = some ks → ∀ f ∈ fs, P.eqGuardType D f.type = false := by
      intro fs;induction fs with
      | nil => intro o ks _ f hf; cases hf
      | cons g gs ih =>
       intro o ks hk f hf;unfold eqFs at hk;split at hk
       ·split at hk
        ·rename_i k hk1;split at hk
         ·rename_i r hr;rcases List.mem_cons.1 hf with rfl | hf
          ·exact eqGuard_eq d hk1 D (by omega)
          ·exact ih _ _ hr f hf
         ·cases hk
        ·cases hk
       ·cases hk
     rw [← Array.any_toList, List.any_eq_false];intro f hf;simp [this _ _ _ hfs f hf]
    ·cases h
  ·cases h
theorem eqv_cells {t : TypeId} {xo yo : Operand} {ks : List Ck} {vx vy : List Value} {b : Bool} (hk : eqTy P 10 t = some ks) (hd : 10 ≤ P.depth) (ha : isAggT P t = some true) (h : eqL ks (vx.map .v) (vy.map .v) = some b) (hx : vx.all plain1 = true) (hy : vy.all plain1 = true) :
  pBin P .eql t xo yo (.agg (vx.map .v)) (.agg (vy.map .v)) = some (.v (.bool b)) ∧ pBin P .neq t xo yo (.agg (vx.map .v)) (.agg (vy.map .v)) = some (.v (.bool (!b))) := by
 obtain ⟨_, hE⟩ := eqTy_ok 10 hk Op.maxDepth (by decide);obtain ⟨u, w, h1, h2, h3⟩ := hE vx vy b h;unfold valT at h1 h2;rw [ha] at h1 h2;cases h1; cases h2;have hg := eqGuard_eq 10 hk P.depth hd;have pl : ∀ {vs : List Value}, vs.all plain1 = true → plain (.agg vs.toArray) = true := fun h => h;have guard : ∀ op, (op = .eql ∨ op = .neq) → pureRun P (eqGuard op t xo yo (.agg vx.toArray) (.agg vy.toArray)) = some () := by
  intro op ho;have hp : pureRun P program = some P := rfl;rcases ho with rfl | rfl <;>
  ·unfold eqGuard;simp only [Bool.not_true, Bool.false_eq_true, if_false, pureRun_bind]
   try rw [hp]
   try simp only [Option.bind_some, hg, Bool.not_false, if_true]
   rfl
 constructor
 ·simp only [pBin, toVal, toVs_of_map, Option.map_some];rw [aBin_of (pl hx) (pl hy) (r := .bool b) rfl]
  ·rfl
  ·rw [pureRun_bind, guard _ (.inl rfl), Option.bind_some];show pureRun P ((Op.equal t (.agg vx.toArray) (.agg vy.toArray)) >>= fun x => pure (Value.bool x)) = _
   rw [pureRun_bind];unfold Op.equal;rw [h3]; rfl
 ·simp only [pBin, toVal, toVs_of_map, Option.map_some];rw [aBin_of (pl hx) (pl hy) (r := .bool (!b)) rfl]
  ·rfl
  ·rw [pureRun_bind, guard _ (.inr rfl), Option.bind_some];show pureRun P ((Op.equal t (.agg vx.toArray) (.agg vy.toArray)) >>= fun x => pure (Value.bool (!x))) = _
   rw [pureRun_bind];unfold Op.equal;rw [h3]; rfl
theorem binOp_ok (hb : Rb I env ρ σ s) (ht : Rtσ env ρ σ f) {op : BinOp} {t t' : TypeId} {x y : Operand} : Sp env (opE P σ (.binOp op t x y t')) (OkR P I env ρ σ s f (.binOp op t x y t')) := by
 simp only [opE];refine Sp.bind (Sp.ofO fun w h => h) fun a ha => Sp.bind (Sp.ofO fun w h => h) fun b hb' => ?_;obtain ⟨p, p1, p2⟩ := opW_ok hb ht ha;obtain ⟨q, q1, q2⟩ := opW_ok hb ht hb'
 suffices hs : Sp env (binS P σ op t a b) (fun v => ∃ r, pBin P op t x y p q = some r ∧ DVσ env ρ σ v r) from
  Sp.bind hs fun v ⟨r, m1, m2⟩ => .ret ⟨r, s, ρ, by simp only [pOp, p1, q1, m1], Nx.refl hb, m2⟩
 unfold binS;split
 ·rename_i fields hu;have hag : isAggT P t = some true := by unfold isAggT; rw [hu]; rfl
  split
  ·rename_i hc;simp only [Bool.and_eq_true, Nat.ble_eq] at hc;split
   ·rename_i ks hk;refine Sp.bind (aggA_ok hb p2) fun a' ⟨u, a1, a2, a3⟩ => Sp.bind (aggA_ok hb q2) fun b' ⟨w, b1, b2, b3⟩ => Sp.bind Sp.emit fun r hr => ?_;obtain ⟨z, e1, e2⟩ := letIs2 hr a2 b2;simp only [RF.ev] at e1;split at e1
    ·rename_i xs ys hl;simp only [List.cons.injEq, and_true] at hl;obtain ⟨rfl, rfl⟩ := hl;split at e1
     ·rename_i c hc';cases e1;obtain ⟨vx, vy, rfl, rfl, h1, h2⟩ := eqL_vs hc';have e3 := deep_agg_v a1;have e4 := deep_agg_v b1;subst e3; subst e4;obtain ⟨k1, k2⟩ := eqv_cells (xo := x) (yo := y) hk hc.2 hag hc' h1 h2;split
      ·exact .ret ⟨_, k1, .w (.c (.a e2 rfl (.inl rfl)))⟩
      ·rename_i hne;refine Sp.bind Sp.emit fun r' hr' => ?_;obtain ⟨z', g1, g2⟩ := letIs1 hr' e2;simp only [RF.ev] at g1;cases g1;cases op <;> first | (exact absurd rfl hne) | (exact Bool.noConfusion hc.1) | skip
       exact .ret ⟨_, k2, .w (.c (.a g2 rfl (.inl rfl)))⟩
     ·cases e1
    ·cases e1
   ·exact .fail
  ·exact .fail
 ·rename_i hu;exact binC_ok p2 q2 fun v w r h => ⟨bbin_args h, bbin_cells hu h⟩
 ·exact binC_ok p2 q2 fun v w r h => ⟨bin_args h, bin_cells h⟩
 ·exact binC_ok p2 q2 fun v w r h => ⟨bin_args h, bin_cells h⟩
 ·exact .fail
theorem un_args {op : UnOp} {v r : PV} (h : (RF.un op).ev [v] = some r) : v ≠ .sl [] := by
 rintro rfl; simp only [RF.ev] at h; first | (cases h; done) | (split at h <;> first | (cases h; done) | (rename_i hl; simp at hl))
theorem unOp_ok (hb : Rb I env ρ σ s) (ht : Rtσ env ρ σ f) {op : UnOp} {t : TypeId} {x : Operand} : Sp env (opE P σ (.unOp op t x)) (OkR P I env ρ σ s f (.unOp op t x)) := by
 simp only [opE];refine Sp.bind (Sp.ofO fun w h => h) fun c hc => ?_;obtain ⟨p, p1, p2⟩ := opC_ok hb ht hc;refine Sp.bind (cellA_w p2) fun a ⟨v, a1, a2, a3⟩ => Sp.bind Sp.emit fun r hr => ?_;obtain ⟨u, e1, e2⟩ := letIs1 hr a1;obtain ⟨k1, k2⟩ := un_cells (P := P) e1;rw [← smc_v a3 (un_args e1)] at k1;exact .ret ⟨u, s, ρ, by simp only [pOp, p1, k1], Nx.refl hb, .w (.c (.a e2 k2 (.inl rfl)))⟩
end
end Go.Sym
namespace Go.Sym
open Go.Abu Go.Pev
section
variable {P : Program} {I : FuncId → Bool} {env : List PV} {ρ : Nat → Option Nat} {σ : SS} {s : St} {f : PF}
theorem move_ok (hb : Rb I env ρ σ s) (ht : Rtσ env ρ σ f) {x : Operand} : Sp env (opE P σ (.move x)) (OkR P I env ρ σ s f (.move x)) := by
 simp only [opE];refine Sp.bind (Sp.ofO fun w h => h) fun v h => ?_;obtain ⟨p, h1, h2⟩ := opS_ok hb ht h;exact .ret ⟨p, s, ρ, by simp only [pOp, h1], Nx.refl hb, h2⟩
theorem assign_ok (hb : Rb I env ρ σ s) (ht : Rtσ env ρ σ f) {x : Operand} : Sp env (opE P σ (.assign x)) (OkR P I env ρ σ s f (.assign x)) := by
 simp only [opE];refine Sp.bind (Sp.ofO fun w h => h) fun v h => ?_;obtain ⟨p, h1, h2⟩ := opS_ok hb ht h;exact .ret ⟨p, s, ρ, by simp only [pOp, h1], Nx.refl hb, h2⟩
theorem const_cell {v p : PV} (h : DWσ env ρ σ (.c (.a (.c v))) p) : Smc v p := by
 rcases h.cell with h | ⟨x, g, a, e, h, _⟩
 ·cases h with
  | a hx ht hs => cases hx; exact hs
 ·cases h
theorem pick_ok (hb : Rb I env ρ σ s) (ht : Rtσ env ρ σ f) {c a b : Operand} : Sp env (opE P σ (.pick c a b)) (OkR P I env ρ σ s f (.pick c a b)) := by
 simp only [opE];refine Sp.bind (Sp.ofO fun w h => h) fun v h => ?_;obtain ⟨p, h1, h2⟩ := opC_ok hb ht h;split
 ·rename_i t;have := smc_v (const_cell h2) (by simp);subst this;refine Sp.bind (Sp.ofO fun w h => h) fun w hw => ?_;obtain ⟨q, h3, h4⟩ := opS_ok hb ht hw;exact .ret ⟨q, s, ρ, by simp only [pOp, h1, h3], Nx.refl hb, h4⟩
 ·exact .fail
theorem nilCheck_ok (hb : Rb I env ρ σ s) (ht : Rtσ env ρ σ f) {x : Operand} : Sp env (opE P σ (.nilCheck x)) (OkR P I env ρ σ s f (.nilCheck x)) := by
 simp only [opE];refine Sp.bind (Sp.ofO fun w h => h) fun v h => ?_;obtain ⟨p, h1, h2⟩ := opC_ok hb ht h;split
 ·rcases h2.cell with h3 | ⟨_, _, _, _, h3, _⟩
  ·cases h3;exact .ret ⟨_, s, ρ, by simp only [pOp, h1], Nx.refl hb, .w h2⟩
  ·cases h3
 ·rcases h2.cell with h3 | ⟨_, _, _, _, h3, _⟩
  ·cases h3;exact .ret ⟨_, s, ρ, by simp only [pOp, h1], Nx.refl hb, .w h2⟩
  ·cases h3
 ·exact .fail
theorem extract_ok (hb : Rb I env ρ σ s) (ht : Rtσ env ρ σ f) {x : Operand} {i : Nat} : Sp env (opE P σ (.extract x i)) (OkR P I env ρ σ s f (.extract x i)) := by
 simp only [opE];refine Sp.bind (Sp.ofO fun w h => h) fun v h => ?_;obtain ⟨p, h1, h2⟩ := opS_ok hb ht h;split
 ·cases h2 with
  | tup h2 =>
   refine Sp.bind (Sp.ofO fun w h => h) fun w hw => ?_;obtain ⟨q, h3, h4⟩ := h2.get _ _ hw;exact .ret ⟨q, s, ρ, by simp only [pOp, h1, pExtract, h3], Nx.refl hb, .w h4⟩
 ·exact .fail
theorem capS_ok {w : SW} {c : Cap} {p : PV} (h : capS w = some c) (k : DWσ env ρ σ w p) : DCap env ρ σ.nb c p := by
 unfold capS at h;split at h
 ·cases h;rcases k.cell with h3 | ⟨_, _, _, _, h3, _⟩
  ·cases h3 with
   | ptr h1 h2 => exact .ptr h1 h2
  ·cases h3
 ·cases h;rcases k.cell with h3 | ⟨_, _, _, _, h3, _⟩
  ·cases h3 with
   | a h1 h2 h3 => exact .a h1 h2 h3
  ·cases h3
 ·cases h
theorem capsS_ok (hb : Rb I env ρ σ s) (ht : Rtσ env ρ σ f) : ∀ {xs : List Operand} {cs : List Cap}, capsS σ xs = some cs → ∃ ps, opds f xs = some ps ∧ F2 (DCap env ρ σ.nb) cs ps
 | [], cs, h => by cases h; exact ⟨[], rfl, .nil⟩
 | x :: xs, cs, h => by
  unfold capsS at h;split at h
  ·rename_i w hw;split at h
   ·rename_i c hc;split at h
    ·rename_i cs' hcs;cases h;obtain ⟨p, h1, h2⟩ := opW_ok hb ht hw;obtain ⟨ps, k1, k2⟩ := capsS_ok hb ht hcs;exact ⟨p :: ps, by simp only [opds, h1, k1], .cons (capS_ok hc h2) k2⟩
    ·cases h
   ·cases h
  ·cases h
theorem makeFunc_ok (hb : Rb I env ρ σ s) (ht : Rtσ env ρ σ f) {g : FuncId} {a c : Array Operand} : Sp env (opE P σ (.makeFunc (.func g) a c)) (OkR P I env ρ σ s f (.makeFunc (.func g) a c)) := by
 simp only [opE];refine Sp.bind (Sp.ofO fun w h => h) fun l h => Sp.bind (Sp.ofO fun w h => h) fun r k => ?_;obtain ⟨ps, h1, h2⟩ := capsS_ok hb ht h;obtain ⟨qs, k1, k2⟩ := capsS_ok hb ht k;exact .ret ⟨_, s, ρ, by simp only [pOp, h1, k1], Nx.refl hb, .w (.c (.fn h2 k2))⟩
theorem f2_take_all {cs : List PV} (h : cs.all t0 = true) (o n : Nat) : ((cs.drop o).take n).all t0 = true := by
 rw [List.all_eq_true] at h ⊢;exact fun q hq => h q (List.mem_of_mem_drop (List.mem_of_mem_take hq))
theorem fieldS_ok {t : TypeId} {w : SW} {p : PV} {i : Nat} (h : DWσ env ρ σ w p) : Sp env (fieldS P t w i) (fun w' => ∃ q, pField P t p i = some q ∧ DWσ env ρ σ w' q) := by
 unfold fieldS;split
 ·rename_i fields hu;split
  ·rename_i fl hf;have pf : ∀ {cs : List PV}, pField P t (.agg cs) i = Pev.part P fl.type cs fl.offset := by
    intro cs; unfold pField; rw [hu]; simp only [hf]
   split
   ·cases h with
    | agg hcs =>
     refine (partT_ok (P := P) hcs).mono fun w ⟨q, h1, h2⟩ => ⟨q, ?_, h2⟩;rw [pf]; exact h1
   ·rename_i x;cases h with
    | @av _ cs ps hx ht hs =>
    split
    ·rename_i hc;have ha : isAggT P fl.type = some false := by
      rcases cnt_spec hc with ⟨_, ha⟩ | ⟨hn, _⟩
      ·exact ha
      ·omega
     refine Sp.bind Sp.sizeOf fun k hk => ?_;split
     ·rename_i m;obtain ⟨cs', e1, e2⟩ := hk m rfl;rw [hx] at e1; cases e1;split
      ·rename_i hle;rw [Nat.ble_eq] at hle;obtain ⟨v, hv⟩ : ∃ v, cs[fl.offset]? = some v := ⟨_, List.getElem?_eq_getElem (by omega)⟩;obtain ⟨q, h1, h2⟩ := hs.get _ _ hv;exact (plainC_ok (P := P) (.pc hx hv ht h2)).mono fun w hw => ⟨q, by rw [pf, part_one_eq ha]; exact h1, hw⟩
      ·exact .fail
     ·refine Sp.bind Sp.emit fun y hy => ?_;obtain ⟨u, h1, h2⟩ := letIs1 hy hx;simp only [RF.ev] at h1;obtain ⟨q, h3, h4⟩ := hs.get _ _ h1;exact .ret ⟨q, by rw [pf, part_one_eq ha]; exact h3, .c (.a h2 (all_get ht h1) h4)⟩
    ·rename_i n hc;obtain ⟨ha, hz⟩ : isAggT P fl.type = some true ∧ szT P fl.type = some (n + 1) := by
      rcases cnt_spec hc with ⟨h0, _⟩ | ⟨_, h⟩
      ·omega
      ·exact h
     have spec : ∀ v, (RF.part fl.offset (n + 1)).ev [.agg cs] = some v → fl.offset + (n + 1) ≤ cs.length ∧ v = .agg ((cs.drop fl.offset).take (n + 1)) := by
      intro v h;simp only [RF.ev] at h;split at h
      ·rename_i hle; cases h; exact ⟨hle, rfl⟩
      ·cases h
     simp only [emitPart];refine Sp.bind (Sp.emitN fun vs v h1 h2 => ?_) fun y hy => ?_
     ·obtain ⟨u, h3, rfl⟩ := evs1 h1;rw [hx] at h3; cases h3;obtain ⟨h4, rfl⟩ := spec v h2;exact ⟨_, rfl, by rw [List.length_take, List.length_drop]; omega⟩
     ·obtain ⟨u, h1, h2⟩ := letIs1 hy hx;obtain ⟨h4, rfl⟩ := spec u h1;refine .ret ⟨_, ?_, .av h2 (f2_take_all ht _ _) ((hs.drop _).take _)⟩;rw [pf, part_agg_eq ha hz (by rw [← hs.len]; exact h4)]
    ·exact .fail
   ·exact .fail
  ·exact .fail
 ·exact .fail
theorem field_ok (hb : Rb I env ρ σ s) (ht : Rtσ env ρ σ f) {t : TypeId} {x : Operand} {i : Nat} : Sp env (opE P σ (.field t x i)) (OkR P I env ρ σ s f (.field t x i)) := by
 simp only [opE];refine Sp.bind (Sp.ofO fun w h => h) fun a h => ?_;obtain ⟨p, h1, h2⟩ := opW_ok hb ht h;exact ret1_ok hb ((fieldS_ok (P := P) h2).mono fun w ⟨q, k1, k2⟩ => ⟨q, by simp only [pOp, h1, k1], k2⟩)
theorem cellLs_ok : ∀ {cs : List SC} {ps : List PV}, F2 (DCσ env ρ σ) cs ps → Sp env (cellLs cs) (fun as => ∃ vs, evs env as = some vs ∧ vs.all t0 = true ∧ F2 Smc vs ps)
 | _, _, .nil => .ret ⟨[], rfl, rfl, .nil⟩
 | _, _, .cons h t => Sp.bind (cellA_ok h) fun a ⟨v, h1, h2, h3⟩ => Sp.bind (cellLs_ok t) fun as ⟨vs, k1, k2, k3⟩ =>
  .ret ⟨v :: vs, evs_cons h1 k1, by simp [h2, k2], .cons h3 k3⟩
theorem flatMap_t0 : ∀ {vs : List PV}, vs.all t0 = true → vs.flatMap PV.cells = vs
 | [], _ => rfl
 | v :: vs, h => by
  simp only [List.all_cons, Bool.and_eq_true] at h;rw [List.flatMap_cons, cells_t0 h.1, flatMap_t0 h.2]; rfl
theorem flatA_ok {w : SW} {p : PV} (h : DWσ env ρ σ w p) : Sp env (flatA w) (fun a => ∃ cs ps, p = .agg ps ∧ a.ev env = some (.agg cs) ∧ cs.all t0 = true ∧ F2 Smc cs ps) := by
 unfold flatA;split
 ·cases h with
  | av hx ht hs => exact .ret ⟨_, _, rfl, hx, ht, hs⟩
 ·cases h with
  | agg hcs =>
   refine Sp.bind (cellLs_ok hcs) fun as ⟨vs, h1, h2, h3⟩ => Sp.emit.mono fun y hy => ?_;obtain ⟨ws, v, k1, k2, k3⟩ := hy;rw [h1] at k1; cases k1;simp only [RF.ev, flatMap_t0 h2] at k2;rw [if_pos h2] at k2; cases k2;exact ⟨_, _, rfl, k3, h2, h3⟩
 ·exact .fail
theorem int_of_smc {v p : PV} {k : IntKind} {i : Int} (h : Smc v p) (hv : v = .v (.int k i)) : p = .v (.int k i) := by
 subst hv; exact smc_v h (by simp)
theorem rowPart_smc {t : TypeId} {o n : Nat} {cs ps : List PV} {v : PV} (hc : cnt P t = some n) (hs : F2 Smc cs ps) (h : rowPart o n cs = some v) : (n = 0 ∧ t0 v = true ∧ ∃ q, Pev.part P t ps o = some q ∧ Smc v q) ∨ (0 < n ∧ ∃ ds qs, v = .agg ds ∧ ds.length = n ∧ ds.all t0 = true ∧ Pev.part P t ps o = some (.agg qs) ∧ F2 Smc ds qs) := by
 rcases cnt_spec hc with ⟨rfl, ha⟩ | ⟨hn, ha, hz⟩
 ·simp only [rowPart] at h;split at h
  ·rename_i p hp;split at h
   ·rename_i ht; cases h;obtain ⟨q, h1, h2⟩ := hs.get _ _ hp;exact .inl ⟨rfl, ht, q, by rw [part_one_eq ha]; exact h1, h2⟩
   ·cases h
  ·cases h
 ·unfold rowPart at h;split at h
  ·omega
  ·split at h
   ·rename_i hcond;cases h;exact .inr ⟨hn, _, _, rfl, by rw [List.length_take, List.length_drop]; omega, hcond.2, part_agg_eq ha hz (by rw [← hs.len]; exact hcond.1), (hs.drop _).take _⟩
   ·cases h
theorem indexS_ok {t : TypeId} {w : SW} {p : PV} {ix : SC} {q : PV} (h : DWσ env ρ σ w p) (k : DWσ env ρ σ (.c ix) q) : Sp env (indexS P σ t w ix) (fun w' => ∃ r, pIndex P t p q = some r ∧ DWσ env ρ σ w' r) := by
 unfold indexS;split
 ·rename_i len elem hu;split
  ·rename_i z hz;split
   ·rename_i n hn;refine Sp.bind (flatA_ok h) fun a ⟨cs, ps, e, a1, a2, a3⟩ => Sp.bind (cellA_w k) fun i ⟨v, b1, b2, b3⟩ => ?_;subst e;have spec : ∀ u, (RF.aix z len n).ev [.agg cs, v] = some u → ∃ kk j, v = .v (.int kk j) ∧ (0 ≤ j ∧ j < len) ∧ rowPart (j.toNat * z) n cs = some u := by
     intro u h;simp only [RF.ev] at h;split at h
     ·rename_i hl;simp only [List.cons.injEq, PV.agg.injEq, and_true] at hl;obtain ⟨rfl, rfl⟩ := hl;split at h
      ·rename_i hc; exact ⟨_, _, rfl, hc, h⟩
      ·cases h
     ·cases h
    have fin : ∀ {kk : IntKind} {j : Int}, v = .v (.int kk j) → (0 ≤ j ∧ j < len) → pIndex P t (.agg ps) q = Pev.part P elem ps (j.toNat * z) := by
     intro kk j e hj;rw [int_of_smc b3 e];unfold pIndex;simp only [hu];rw [if_pos hj, hz]
    unfold emitPart;split
    ·refine Sp.bind Sp.emit fun y hy => ?_;obtain ⟨u, h1, h2⟩ := letIs2 hy a1 b1;obtain ⟨kk, j, e1, e2, e3⟩ := spec u h1;rcases rowPart_smc hn a3 e3 with ⟨_, t1, r, t2, t3⟩ | ⟨h0, _⟩
     ·exact .ret ⟨r, (fin e1 e2).trans t2, .c (.a h2 t1 t3)⟩
     ·omega
    ·rename_i hne;refine Sp.bind (Sp.emitN fun vs u h1 h2 => ?_) fun y hy => ?_
     ·obtain ⟨x1, x2, x3, x4, rfl⟩ := evs2 h1;rw [a1] at x3; cases x3;rw [b1] at x4; cases x4;obtain ⟨kk, j, e1, e2, e3⟩ := spec u h2;rcases rowPart_smc hn a3 e3 with ⟨h0, _⟩ | ⟨h0, ds, qs, rfl, d1, d2, d3, d4⟩
      ·exact absurd h0 hne
      ·exact ⟨_, rfl, d1⟩
     ·obtain ⟨u, h1, h2⟩ := letIs2 hy a1 b1;obtain ⟨kk, j, e1, e2, e3⟩ := spec u h1;rcases rowPart_smc hn a3 e3 with ⟨h0, _⟩ | ⟨h0, ds, qs, rfl, d1, d2, d3, d4⟩
      ·exact absurd h0 hne
      ·exact .ret ⟨_, (fin e1 e2).trans d3, .av h2 d2 d4⟩
   ·exact .fail
  ·exact .fail
 ·rename_i hu;split
  ·rename_i x;refine Sp.bind (cellA_w h) fun a ⟨u, a1, a2, a3⟩ => Sp.bind (cellA_w k) fun i ⟨v, b1, b2, b3⟩ => ?_;simp only [emitPart];refine Sp.bind Sp.emit fun y hy => ?_;obtain ⟨r, h1, h2⟩ := letIs2 hy a1 b1;simp only [RF.ev] at h1;split at h1
   ·rename_i hl;simp only [List.cons.injEq, and_true] at hl;obtain ⟨rfl, rfl⟩ := hl;have e1 := smc_v a3 (by simp);have e2 := smc_v b3 (by simp);subst e1; subst e2;split at h1
    ·rename_i hi;split at h1
     ·rename_i b hb;cases h1;refine .ret ⟨_, ?_, .c (.a h2 rfl (.inl rfl))⟩;unfold pIndex;simp only [hu];rw [if_pos hi, hb]
     ·cases h1
    ·cases h1
   ·cases h1
  ·exact .fail
 ·exact .fail
theorem index_ok (hb : Rb I env ρ σ s) (ht : Rtσ env ρ σ f) {t : TypeId} {x i : Operand} : Sp env (opE P σ (.index t x i)) (OkR P I env ρ σ s f (.index t x i)) := by
 simp only [opE];refine Sp.bind (Sp.ofO fun w h => h) fun a h => Sp.bind (Sp.ofO fun w h => h) fun b k => ?_;obtain ⟨p, h1, h2⟩ := opW_ok hb ht h;obtain ⟨q, k1, k2⟩ := opC_ok hb ht k;exact ret1_ok hb ((indexS_ok (P := P) h2 k2).mono fun w ⟨q, r1, r2⟩ => ⟨q, by simp only [pOp, h1, k1, r1], r2⟩)
end
end Go.Sym
namespace Go.Sym
open Go.Abu Go.Pev
section
variable {P : Program} {I : FuncId → Bool} {env : List PV} {ρ : Nat → Option Nat} {σ : SS} {s : St} {f : PF}
theorem slp_of_smc {v p : PV} {els : List (List PV)} {i o : Nat} (h : Smc v p) (hv : v = .slp els i o) : p = .slp els i o := by
 subst hv; exact smc_v h (by simp)
theorem dc_a {x : A} {p : PV} (h : DCσ env ρ σ (.a x) p) : ∃ v, x.ev env = some v ∧ t0 v = true ∧ Smc v p := by
 cases h with
 | a h1 h2 h3 => exact ⟨_, h1, h2, h3⟩
theorem fieldAddrS_ok {t : TypeId} {x : SC} {p : PV} {i : Nat} (h : DWσ env ρ σ (.c x) p) : Sp env (fieldAddrS P t x i) (fun c => ∃ q, pFieldAddr P t p i = some q ∧ DCσ env ρ σ c q) := by
 have hc := h.cell;clear h;rcases hc with h | ⟨y, _, _, _, rfl, _⟩
 rotate_left
 ·unfold fieldAddrS
  (repeat' split) <;> first | exact .fail | exact absurd ‹SC.fv y = _› (by simp)
 unfold fieldAddrS;split
 ·rename_i fields hu;split
  ·rename_i fl hf;split
   ·rename_i n hz;have fin : ∀ p, pFieldAddr P t p i = (match p with
     | .ptr b k o => some (.ptr b k (o + fl.offset))
     | .slp els k o => some (.slp els k (o + fl.offset))
     | _ => none) := by intro p; unfold pFieldAddr; simp only [hu, hf, hz]; cases p <;> rfl
    split
    ·cases h with
     | ptr h1 h2 => exact .ret ⟨_, fin _, .ptr h1 h2⟩
    ·cases h with
     | ep h1 h2 h3 h4 => exact .ret ⟨_, fin _, .ep h1 h2 h3 h4⟩
    ·cases h with
     | tp h1 h2 h3 => exact .ret ⟨_, fin _, .tp h1 h2 h3⟩
    ·obtain ⟨v, h1, h2, h3⟩ := dc_a h;refine Sp.bind Sp.emit fun y hy => ?_;obtain ⟨u, k1, k2⟩ := letIs1 hy h1;simp only [RF.ev] at k1;split at k1
     ·rename_i hl;simp only [List.cons.injEq, and_true] at hl;cases k1;have := slp_of_smc h3 hl;subst this;exact .ret ⟨_, fin _, .a k2 rfl (.inl rfl)⟩
     ·cases k1
    ·exact .fail
   ·exact .fail
  ·exact .fail
 ·exact .fail
theorem fieldAddr_ok (hb : Rb I env ρ σ s) (ht : Rtσ env ρ σ f) {t : TypeId} {x : Operand} {i : Nat} : Sp env (opE P σ (.fieldAddr t x i)) (OkR P I env ρ σ s f (.fieldAddr t x i)) := by
 simp only [opE];refine Sp.bind (Sp.ofO fun w h => h) fun a h => ?_;obtain ⟨p, h1, h2⟩ := opC_ok hb ht h;exact retC_ok hb ((fieldAddrS_ok (P := P) h2).mono fun w ⟨q, k1, k2⟩ => ⟨q, by simp only [pOp, h1, k1], k2⟩)
theorem ix_spec {v w u : PV} (h : RF.ix.ev [v, w] = some u) : ∃ k i k' n, v = .v (.int k i) ∧ w = .v (.int k' n) ∧ 0 ≤ i ∧ i < n ∧ u = .v (.int k i) := by
 simp only [RF.ev] at h;split at h
 ·rename_i hl;simp only [List.cons.injEq, and_true] at hl;obtain ⟨rfl, rfl⟩ := hl;split at h
  ·rename_i hc; cases h; exact ⟨_, _, _, _, rfl, rfl, hc.1, hc.2, rfl⟩
  ·cases h
 ·cases h
theorem tix_spec {z : Nat} {v w u : PV} (h : (RF.tix z).ev [v, w] = some u) : ∃ els k i row, v = .sl els ∧ w = .v (.int k i) ∧ 0 ≤ i ∧ els[i.toNat]? = some row ∧ row.length = z ∧ u = .v (.int k i) := by
 simp only [RF.ev] at h;split at h
 ·rename_i hl;simp only [List.cons.injEq, and_true] at hl;obtain ⟨rfl, rfl⟩ := hl;split at h
  ·rename_i hi;split at h
   ·rename_i row hr;split at h
    ·rename_i hz; cases h; exact ⟨_, _, _, _, rfl, rfl, hi, hr, hz, rfl⟩
    ·cases h
   ·cases h
  ·cases h
 ·cases h
theorem isZero_eq {o : A} {n : Int} (h : isZero o = true) (k : o.ev env = some (.i64 n)) : n = 0 := by
 unfold isZero at h;split at h
 ·cases k; rfl
 ·cases h
theorem indexAddrS_ok (hb : Rb I env ρ σ s) {t : TypeId} {x ix : SC} {p q : PV} (h : DWσ env ρ σ (.c x) p) (k : DWσ env ρ σ (.c ix) q) : Sp env (indexAddrS P σ t x ix) (fun c => ∃ r, pIndexAddr P s t p q = some r ∧ DCσ env ρ σ c r) := by
 have hc := h.cell;clear h;rcases hc with h | ⟨y, _, _, _, rfl, _⟩
 rotate_left
 ·unfold indexAddrS
  (repeat' split) <;> first | exact .fail | exact absurd ‹SC.fv y = _› (by simp)
 unfold indexAddrS;split
 ·rename_i elem hu;split
  ·rename_i z hz;split
   ·rename_i b o n;split
    ·rename_i l ty z' fz hl;split
     ·rename_i hzz;have hzz := Nat.eq_of_beq_eq_true hzz;subst hzz;refine Sp.bind (cellA_w k) fun i ⟨v, b1, b2, b3⟩ => Sp.bind Sp.emit fun j hj => ?_;obtain ⟨_, hdb⟩ := hb.bl b _ hl;cases h with
      | @gh _ _ _ hρ hlt ho hn =>
       obtain ⟨u, h1, h2⟩ := letIs2 hj b1 hn;obtain ⟨_, _, _, _, rfl, e, e1, e2, rfl⟩ := ix_spec h1;cases e;omega
      | @lsl _ m _ _ oi ni hρ hlt ho hn hlen =>
       obtain ⟨u, h1, h2⟩ := letIs2 hj b1 hn;obtain ⟨kk, i, _, _, rfl, e, e1, e2, rfl⟩ := ix_spec h1;cases e;have e3 := smc_v b3 (by simp);subst e3;cases hdb with
       | gh hρ' => rw [hρ] at hρ'; cases hρ'
       | @lst _ _ _ _ _ els hρ' hlv hg =>
        rw [hρ] at hρ'; cases hρ';have fin : pIndexAddr P s t (.lsl m oi ni) (.v (.int kk i)) = some (.ptr m (oi + i.toNat) 0) := by
         unfold pIndexAddr;simp only [hu, hg];rw [if_pos ⟨e1, e2, hz, trivial⟩]
        split
        ·rename_i hz0;have := isZero_eq hz0 ho;have h0 : oi = 0 := by omega
         subst h0;rw [Nat.zero_add] at fin;exact .ret ⟨_, fin, .ep hρ hlt h2 e1⟩
        ·refine Sp.bind Sp.emit fun j' hj' => ?_;obtain ⟨u', g1, g2⟩ := letIs2 hj' ho h2;simp only [RF.ev] at g1;cases g1;have : oi + i.toNat = ((oi : Int) + i).toNat := by omega
         rw [this] at fin;exact .ret ⟨_, fin, .ep hρ hlt g2 (by omega)⟩
     ·exact .fail
    ·exact .fail
   ·rename_i l;obtain ⟨v', h1, h2, h3⟩ := dc_a h;refine Sp.bind (cellA_w k) fun i ⟨v, b1, b2, b3⟩ => Sp.bind Sp.emit fun j hj => ?_;obtain ⟨u, g1, g2⟩ := letIs2 hj h1 b1;obtain ⟨els, kk, i, row, rfl, rfl, e1, e2, e3, rfl⟩ := tix_spec g1;have e4 := smc_v b3 (by simp);subst e4;have e5 := smc_v h3 (fun e => by cases e; simp at e2);subst e5;refine .ret ⟨_, ?_, .tp h1 g2 e1⟩;unfold pIndexAddr;simp only [hu, e2];rw [if_pos ⟨e1, by rw [hz, e3]⟩]
   ·rename_i y kx;cases h with
    | @pc _ _ cs v' _ hx hi ha hs =>
    refine Sp.bind Sp.emit fun l hl => Sp.bind (cellA_w k) fun i ⟨v, b1, b2, b3⟩ => Sp.bind Sp.emit fun j hj => ?_;obtain ⟨u0, m1, m2⟩ := letIs1 hl hx;simp only [RF.ev] at m1;rw [hi] at m1; cases m1;obtain ⟨u, g1, g2⟩ := letIs2 hj m2 b1;obtain ⟨els, kk, i, row, rfl, rfl, e1, e2, e3, rfl⟩ := tix_spec g1;have e4 := smc_v b3 (by simp);subst e4;have e5 := smc_v hs (fun e => by cases e; simp at e2);subst e5;refine .ret ⟨_, ?_, .tp m2 g2 e1⟩;unfold pIndexAddr;simp only [hu, e2];rw [if_pos ⟨e1, by rw [hz, e3]⟩]
   ·exact .fail
  ·exact .fail
 ·rename_i len elem hu;split
  ·rename_i z hz;have fin : ∀ (p : PV) {kk : IntKind} {i : Int}, (0 ≤ i ∧ i < len) → pIndexAddr P s t p (.v (.int kk i)) = (match p with
     | .ptr b k o => some (.ptr b k (o + i.toNat * z))
     | .slp els k o => some (.slp els k (o + i.toNat * z))
     | _ => none) := by
    intro p kk i hi; unfold pIndexAddr; simp only [hu, hz]; rw [if_pos hi]; cases p <;> rfl
   split
   ·split
    ·have e := smc_v (const_cell k) (by simp);subst e;split
     ·rename_i hd;have hd := of_decide_eq_true hd;cases h with
      | ptr h1 h2 => exact .ret ⟨_, fin _ hd, .ptr h1 h2⟩
     ·exact .fail
    ·exact .fail
   ·split
    ·have e := smc_v (const_cell k) (by simp);subst e;split
     ·rename_i hd;have hd := of_decide_eq_true hd;cases h with
      | ep h1 h2 h3 h4 => exact .ret ⟨_, fin _ hd, .ep h1 h2 h3 h4⟩
     ·exact .fail
    ·exact .fail
   ·split
    ·have e := smc_v (const_cell k) (by simp);subst e;split
     ·rename_i hd;have hd := of_decide_eq_true hd;cases h with
      | tp h1 h2 h3 => exact .ret ⟨_, fin _ hd, .tp h1 h2 h3⟩
     ·exact .fail
    ·exact .fail
   ·obtain ⟨v', h1, h2, h3⟩ := dc_a h;refine Sp.bind (cellA_w k) fun i ⟨v, b1, b2, b3⟩ => Sp.bind Sp.emit fun j hj => ?_;obtain ⟨u, g1, g2⟩ := letIs2 hj h1 b1;simp only [RF.ev] at g1;split at g1
    ·rename_i hl;simp only [List.cons.injEq, and_true] at hl;obtain ⟨rfl, rfl⟩ := hl;split at g1
     ·rename_i hc;cases g1;have e4 := smc_v b3 (by simp);subst e4;have e5 := smc_v h3 (by simp);subst e5;exact .ret ⟨_, fin _ hc, .a g2 rfl (.inl rfl)⟩
     ·cases g1
    ·cases g1
   ·exact .fail
  ·exact .fail
 ·exact .fail
theorem indexAddr_ok (hb : Rb I env ρ σ s) (ht : Rtσ env ρ σ f) {t : TypeId} {x i : Operand} : Sp env (opE P σ (.indexAddr t x i)) (OkR P I env ρ σ s f (.indexAddr t x i)) := by
 simp only [opE];refine Sp.bind (Sp.ofO fun w h => h) fun a h => Sp.bind (Sp.ofO fun w h => h) fun b k => ?_;obtain ⟨p, h1, h2⟩ := opC_ok hb ht h;obtain ⟨q, k1, k2⟩ := opC_ok hb ht k;exact retC_ok hb ((indexAddrS_ok (P := P) hb h2 k2).mono fun w ⟨q, r1, r2⟩ => ⟨q, by simp only [pOp, h1, k1, r1], r2⟩)
theorem len_spec {v u : PV} (h : RF.len.ev [v] = some u) : ∃ els, v = .sl els ∧ u = .i64 els.length := by
 simp only [RF.ev] at h;split at h
 ·rename_i hl;simp only [List.cons.injEq, and_true] at hl;cases h; exact ⟨_, hl, rfl⟩
 ·cases h
theorem slen_spec {v u : PV} (h : RF.slen.ev [v] = some u) : ∃ b, v = .v (.string b) ∧ u = .i64 b.size := by
 simp only [RF.ev] at h;split at h
 ·rename_i hl;simp only [List.cons.injEq, and_true] at hl;cases h; exact ⟨_, hl, rfl⟩
 ·cases h
end
end Go.Sym
namespace Go.Sym
open Go.Abu Go.Pev
section
variable {P : Program} {I : FuncId → Bool} {env : List PV} {ρ : Nat → Option Nat} {σ : SS} {s : St} {f : PF}
theorem lenS_ok {t : TypeId} {w : SW} {p : PV} (h : DWσ env ρ σ w p) : Sp env (lenS P t w) (fun w' => ∃ q, pLen P s t p = some q ∧ DWσ env ρ σ w' q) := by
 unfold lenS;split
 ·rename_i hu;split
  ·refine Sp.bind (cellA_w h) fun a ⟨v, a1, a2, a3⟩ => ?_;simp only [emitPart];refine Sp.bind Sp.emit fun y hy => ?_;obtain ⟨u, h1, h2⟩ := letIs1 hy a1;obtain ⟨b, rfl, rfl⟩ := slen_spec h1;have e := smc_v a3 (by simp);subst e;exact .ret ⟨_, by unfold pLen; simp only [hu], .c (.a h2 rfl (.inl rfl))⟩
  ·exact .fail
 ·rename_i n e hu;exact .ret ⟨_, by unfold pLen; simp only [hu], .c (.a rfl rfl (.inl rfl))⟩
 ·rename_i e hu;have fin : ∀ {els : List (List PV)} {p : PV}, Smc (.sl els) p → pLen P s t p = some (.i64 els.length) := by
   intro els p hp;rcases hp with rfl | ⟨e, rfl⟩
   ·unfold pLen; simp only [hu]
   ·cases e; unfold pLen; simp only [hu]; rfl
  split
  ·rcases h.cell with h | ⟨_, _, _, _, e, _⟩
   ·cases h;exact .ret ⟨_, by unfold pLen; simp only [hu], .c (.a rfl rfl (.inl rfl))⟩
   ·cases e
  ·rcases h.cell with h | ⟨_, _, _, _, e, _⟩
   ·cases h with
    | lsl h1 h2 ho hn hl => exact .ret ⟨_, by unfold pLen; simp only [hu], .c (.a hn rfl (.inl rfl))⟩
    | gh h1 h2 ho hn => exact .ret ⟨_, by unfold pLen; simp only [hu], .c (.a hn rfl (.inl rfl))⟩
   ·cases e
  ·rcases h.cell with h | ⟨_, _, _, _, e, _⟩
   ·obtain ⟨v, a1, a2, a3⟩ := dc_a h;simp only [emitPart];refine Sp.bind Sp.emit fun y hy => ?_;obtain ⟨u, h1, h2⟩ := letIs1 hy a1;obtain ⟨els, rfl, rfl⟩ := len_spec h1;exact .ret ⟨_, fin a3, .c (.a h2 rfl (.inl rfl))⟩
   ·cases e
  ·rcases h.cell with h | ⟨_, _, _, _, e, _⟩
   ·cases h with
    | @pc _ _ cs v' _ hx hi ha hs =>
    refine Sp.bind Sp.emit fun l hl => ?_;obtain ⟨u0, m1, m2⟩ := letIs1 hl hx;simp only [RF.ev] at m1;rw [hi] at m1; cases m1;simp only [emitPart];refine Sp.bind Sp.emit fun y hy => ?_;obtain ⟨u, h1, h2⟩ := letIs1 hy m2;obtain ⟨els, rfl, rfl⟩ := len_spec h1;exact .ret ⟨_, fin hs, .c (.a h2 rfl (.inl rfl))⟩
   ·cases e
  ·exact .fail
 ·exact .fail
inductive DO (env : List PV) (ρ : Nat → Option Nat) (σ : SS) : Option SC → Option PV → Prop
 | none : DO env ρ σ none none
 | some {c : SC} {p : PV} (h : DWσ env ρ σ (.c c) p) : DO env ρ σ (some c) (some p)
theorem optS_ok (hb : Rb I env ρ σ s) (ht : Rtσ env ρ σ f) {x : Option Operand} {o : Option SC} (h : optS σ x = some o) : ∃ p, optP f x = some p ∧ DO env ρ σ o p := by
 unfold optS at h;split at h
 ·cases h; exact ⟨_, rfl, .none⟩
 ·split at h
  ·rename_i c hc;cases h;obtain ⟨p, h1, h2⟩ := opC_ok hb ht hc;exact ⟨some p, by simp only [optP, h1], .some h2⟩
  ·cases h
theorem bndS_ok {d y : A} {dn yn : Nat} {o : Option SC} {p : Option PV} (hd : d.ev env = some (.i64 dn)) (hy : y.ev env = some (.i64 yn)) (hle : dn ≤ yn) (h : DO env ρ σ o p) : Sp env (bndS d y o) (fun a => ∃ k : Nat, bnd? dn yn p = some k ∧ a.ev env = some (.i64 k) ∧ k ≤ yn) := by
 cases h with
 | none => exact .ret ⟨dn, rfl, hd, hle⟩
 | some h =>
  refine Sp.bind (cellA_w h) fun a ⟨v, a1, a2, a3⟩ => Sp.emit.mono fun r hr => ?_;obtain ⟨u, h1, h2⟩ := letIs2 hr a1 hy;simp only [RF.ev] at h1;split at h1
  ·rename_i hl;simp only [List.cons.injEq, and_true] at hl;obtain ⟨rfl, e⟩ := hl;cases e;have e := smc_v a3 (by simp);subst e;split at h1
   ·rename_i a' _ hc;cases h1;refine ⟨a'.toNat, ?_, by rw [h2]; rw [Int.toNat_of_nonneg hc.1], by omega⟩;simp only [bnd?, bnd];rw [if_pos hc]
   ·cases h1
  ·cases h1
theorem pSlice_sl {t elem : TypeId} {els : List (List PV)} {z h l : Nat} {p : PV} {lo hi : Option PV} (hu : P.underlying t = some (.slice elem)) (hz : szT P elem = some z) (hp : Smc (.sl els) p) (h1 : bnd? els.length els.length hi = some h) (h2 : bnd? 0 h lo = some l) (h3 : elsOk' z els = true) (h4 : 0 < z) :
  ∃ q, pSlice P s t p lo hi = some q ∧ Smc (.sl ((els.drop l).take (h - l))) q := by
 rcases hp with rfl | ⟨e, rfl⟩
 ·refine ⟨_, ?_, .inl rfl⟩;unfold pSlice;simp only [hu, h1, h2];rw [if_pos];unfold headOk;rw [hz];simp only;unfold elsOk' at h3;split
  ·rfl
  ·have := of_decide_eq_true h3; simp [this, h4]
 ·cases e;simp only [List.length_nil] at h1;refine ⟨.nil, ?_, .inr ⟨by simp, rfl⟩⟩;unfold pSlice;simp only [hu, h1, h2, hz]
theorem sliceS_ok (hb : Rb I env ρ σ s) {t : TypeId} {x : SC} {p : PV} {lo hi : Option SC} {lp hp : Option PV} (h : DWσ env ρ σ (.c x) p) (hl : DO env ρ σ lo lp) (hh : DO env ρ σ hi hp) : Sp env (sliceS P σ t x lo hi) (fun c => ∃ q, pSlice P s t p lp hp = some q ∧ DCσ env ρ σ c q) := by
 have z0 : (A.c (.i64 0)).ev env = some (.i64 ((0 : Nat) : Int)) := rfl;unfold sliceS;split
 ·rename_i hu;refine Sp.bind (cellA_w h) fun a ⟨v, a1, a2, a3⟩ => Sp.bind Sp.emit fun n hn => ?_;obtain ⟨u, h1, h2⟩ := letIs1 hn a1;obtain ⟨b, rfl, rfl⟩ := slen_spec h1;have e := smc_v a3 (by simp);subst e;refine Sp.bind (bndS_ok h2 h2 (Nat.le_refl _) hh) fun hA ⟨hk, b1, b2, b3⟩ => Sp.bind (bndS_ok z0 b2 (Nat.zero_le _) hl) fun lA ⟨lk, c1, c2, c3⟩ => Sp.bind Sp.emit fun r hr => ?_;obtain ⟨u, g1, g2⟩ := letIs3 hr a1 c2 b2;simp only [RF.ev] at g1;split at g1
  ·cases g1;refine .ret ⟨_, ?_, .a g2 rfl (.inl rfl)⟩;unfold pSlice;simp only [hu, b1, c1];simp
  ·cases g1
 ·rename_i elem hu;split
  ·rename_i z hz;split
   ·rcases h.cell with h | ⟨_, _, _, _, e, _⟩
    rotate_left
    ·cases e
    cases h;refine Sp.bind (bndS_ok z0 z0 (Nat.le_refl _) hh) fun hA ⟨hk, b1, b2, b3⟩ => Sp.bind (bndS_ok z0 b2 (Nat.zero_le _) hl) fun lA ⟨lk, c1, c2, c3⟩ => .ret ⟨_, ?_, .nil⟩;unfold pSlice;simp only [hu, b1, c1, hz]
   ·rename_i b o n;rcases h.cell with h | ⟨_, _, _, _, e, _⟩
    rotate_left
    ·cases e
    split
    ·rename_i l ty z' fz hlk;split
     ·rename_i hc;simp only [Bool.and_eq_true, Nat.ble_eq] at hc;obtain ⟨hc1, hc2⟩ := hc;have hzz := Nat.eq_of_beq_eq_true hc1;subst hzz;obtain ⟨_, hdb⟩ := hb.bl b _ hlk;cases h with
      | gh hρ hlt ho hn =>
       refine Sp.bind (bndS_ok hn hn (Nat.le_refl _) hh) fun hA ⟨hk, b1, b2, b3⟩ => ?_;have hk0 : hk = 0 := Nat.le_zero.1 b3;subst hk0;split
       ·cases hl;refine .ret ⟨.nil, ?_, .gh hρ hlt ho b2⟩;unfold pSlice;simp only [hu, b1, show bnd? 0 0 none = some 0 from rfl, hz]
       ·refine Sp.bind (bndS_ok z0 b2 (Nat.zero_le _) hl) fun lA ⟨lk, c1, c2, c3⟩ => Sp.bind Sp.emit fun o' ho' => Sp.bind Sp.emit fun n' hn' => ?_;have hl0 : lk = 0 := Nat.le_zero.1 c3;subst hl0;obtain ⟨u1, e1, e2⟩ := letIs2 ho' ho c2;obtain ⟨u2, e3, e4⟩ := letIs2 hn' b2 c2;simp only [RF.ev] at e1 e3;cases e1; cases e3;refine .ret ⟨.nil, ?_, .gh hρ hlt e2 e4⟩;unfold pSlice;simp only [hu, b1, c1, hz]
      | @lsl _ m _ _ oi ni hρ hlt ho hn hlen =>
       cases hdb with
       | gh hρ' => rw [hρ] at hρ'; cases hρ'
       | @lst _ _ _ _ _ els hρ' hlv hg =>
        rw [hρ] at hρ'; cases hρ';have hle : oi + ni ≤ els.length := hlen _ (by unfold lenOf; rw [hlk]; simp only [hlv]);refine Sp.bind (bndS_ok hn hn (Nat.le_refl _) hh) fun hA ⟨hk, b1, b2, b3⟩ => ?_;have fin : ∀ {lk : Nat}, bnd? 0 hk lp = some lk → pSlice P s t (.lsl m oi ni) lp hp = some (.lsl m (oi + lk) (hk - lk)) := by
         intro lk c1;unfold pSlice;simp only [hu, b1, c1, hg];rw [if_pos ⟨hz, trivial, hc2, hle⟩]
        split
        ·cases hl;refine .ret ⟨_, fin rfl, .lsl hρ hlt ho b2 fun len hlen' => ?_⟩;have := hlen len hlen';omega
        ·refine Sp.bind (bndS_ok z0 b2 (Nat.zero_le _) hl) fun lA ⟨lk, c1, c2, c3⟩ => Sp.bind Sp.emit fun o' ho' => Sp.bind Sp.emit fun n' hn' => ?_;obtain ⟨u1, e1, e2⟩ := letIs2 ho' ho c2;obtain ⟨u2, e3, e4⟩ := letIs2 hn' b2 c2;simp only [RF.ev] at e1 e3;cases e1; cases e3;refine .ret ⟨_, fin c1, .lsl hρ hlt (oi := oi + lk) (ni := hk - lk) (by rw [e2]; rfl) (by rw [e4, Int.ofNat_sub c3]) fun len hlen' => ?_⟩;have := hlen len hlen';omega
     ·exact .fail
    ·exact .fail
   ·refine Sp.bind (cellA_w h) fun a ⟨v, a1, a2, a3⟩ => Sp.bind Sp.emit fun n hn => ?_;obtain ⟨u, h1, h2⟩ := letIs1 hn a1;obtain ⟨els, rfl, rfl⟩ := len_spec h1;refine Sp.bind (bndS_ok h2 h2 (Nat.le_refl _) hh) fun hA ⟨hk, b1, b2, b3⟩ => Sp.bind (bndS_ok z0 b2 (Nat.zero_le _) hl) fun lA ⟨lk, c1, c2, c3⟩ => Sp.bind Sp.emit fun r hr => ?_;obtain ⟨u, g1, g2⟩ := letIs3 hr a1 c2 b2;simp only [RF.ev] at g1;split at g1
    ·rename_i hc;cases g1;obtain ⟨q, q1, q2⟩ := pSlice_sl (P := P) (s := s) hu hz a3 b1 c1 hc.2.2.2.1 hc.2.2.2.2;refine .ret ⟨q, q1, .a g2 rfl ?_⟩;simpa using q2
    ·cases g1
  ·exact .fail
 ·exact .fail
theorem slice3S_ok (hb : Rb I env ρ σ s) {t : TypeId} {x hi mx : SC} {p hp mp : PV} {lo : Option SC} {lp : Option PV} (h : DWσ env ρ σ (.c x) p) (hl : DO env ρ σ lo lp) (hh : DWσ env ρ σ (.c hi) hp) (hm : DWσ env ρ σ (.c mx) mp) : Sp env (slice3S P t x lo hi mx) (fun c => ∃ q, pSlice3 P t p lp hp mp = some q ∧ DCσ env ρ σ c q) := by
 unfold slice3S;split
 ·rename_i elem hu;split
  ·rename_i z hz;refine Sp.bind (cellA_w h) fun a ⟨v, a1, a2, a3⟩ => Sp.bind (P := fun l => ∃ w, l.ev env = some w ∧ ∀ k n, w = .v (.int k n) → (0 : Int) ≤ n → ∀ m : Nat, n ≤ m → bnd? 0 m lp = some n.toNat) ?_ fun l ⟨w, l1, l2⟩ => Sp.bind (cellA_w hh) fun b ⟨vb, b1, b2, b3⟩ => Sp.bind (cellA_w hm) fun c ⟨vc, c1, c2, c3⟩ => Sp.bind Sp.emit fun r hr => ?_
   ·cases hl with
    | none =>
     refine .ret ⟨_, rfl, fun k n e h0 m hm => ?_⟩;cases e; rfl
    | some h =>
     refine (cellA_w h).mono fun a ⟨v, a1, a2, a3⟩ => ⟨v, a1, fun k n e h0 m hm => ?_⟩;subst e;have e := smc_v a3 (by simp);subst e;show bnd m (.v (.int k n)) = _
     exact if_pos ⟨h0, hm⟩
   ·obtain ⟨vs, u, h1, h2, h3⟩ := hr;have e4 : evs env [a, l, b, c] = some [v, w, vb, vc] := by simp only [evs, a1, l1, b1, c1]
    rw [e4] at h1; cases h1;simp only [RF.ev] at h2;split at h2
    ·rename_i els kl ln kh hn km mn heq;simp only [List.cons.injEq, and_true] at heq;obtain ⟨rfl, rfl, rfl, rfl⟩ := heq;split at h2
     ·rename_i hc;obtain ⟨k1, k2, k3, k4, k5, k6, k7⟩ := hc;cases h2;have eb := smc_v b3 (by simp);have ec := smc_v c3 (by simp);subst eb; subst ec;have ep : p = .sl els := by
       rcases a3 with e | ⟨e, _⟩
       ·exact e
       ·cases e; cases k5
      subst ep;refine .ret ⟨_, ?_, .a h3 rfl (.inl rfl)⟩;unfold pSlice3;have em : bnd els.length (.v (.int km mn)) = some mn.toNat := if_pos ⟨by omega, k4⟩;have eh : bnd mn.toNat (.v (.int kh hn)) = some hn.toNat := if_pos ⟨by omega, by omega⟩;have el := l2 _ _ rfl k1 hn.toNat (by omega);simp only [hu, hz, em, eh, el];rw [if_pos ⟨k5, k6, k7⟩]
     ·cases h2
    ·cases h2
  ·exact .fail
 ·exact .fail
theorem slice3_ok (hb : Rb I env ρ σ s) (ht : Rtσ env ρ σ f) {t : TypeId} {x hi mx : Operand} {lo : Option Operand} : Sp env (opE P σ (.slice t x lo (some hi) (some mx))) (OkR P I env ρ σ s f (.slice t x lo (some hi) (some mx))) := by
 simp only [opE];refine Sp.bind (Sp.ofO fun w h => h) fun a h => Sp.bind (Sp.ofO fun w h => h) fun l hl => Sp.bind (Sp.ofO fun w h => h) fun b k => Sp.bind (Sp.ofO fun w h => h) fun c k' => ?_;obtain ⟨p, h1, h2⟩ := opC_ok hb ht h;obtain ⟨lp, l1, l2⟩ := optS_ok hb ht hl;obtain ⟨hp, k1, k2⟩ := opC_ok hb ht k;obtain ⟨mp, m1, m2⟩ := opC_ok hb ht k';exact retC_ok hb ((slice3S_ok (P := P) hb h2 l2 k2 m2).mono fun w ⟨q, r1, r2⟩ => ⟨q, by simp only [pOp, h1, l1, k1, m1, r1], r2⟩)
theorem slice_ok (hb : Rb I env ρ σ s) (ht : Rtσ env ρ σ f) {t : TypeId} {x : Operand} {lo hi : Option Operand} : Sp env (opE P σ (.slice t x lo hi none)) (OkR P I env ρ σ s f (.slice t x lo hi none)) := by
 simp only [opE];refine Sp.bind (Sp.ofO fun w h => h) fun a h => Sp.bind (Sp.ofO fun w h => h) fun l hl => Sp.bind (Sp.ofO fun w h => h) fun b k => ?_;obtain ⟨p, h1, h2⟩ := opC_ok hb ht h;obtain ⟨lp, l1, l2⟩ := optS_ok hb ht hl;obtain ⟨hp, k1, k2⟩ := optS_ok hb ht k;exact retC_ok hb ((sliceS_ok (P := P) hb h2 l2 k2).mono fun w ⟨q, r1, r2⟩ => ⟨q, by simp only [pOp, h1, l1, k1, r1], r2⟩)
end
end Go.Sym
namespace Go.Sym
open Go.Abu Go.Pev
section
variable {P : Program} {I : FuncId → Bool} {env : List PV} {ρ : Nat → Option Nat} {σ : SS} {s : St} {f : PF}
theorem newL (hb : Rb I env ρ σ s) {l n : A} {els : List (List PV)} {ty z : Nat} (hl : l.ev env = some (.sl els)) (hn : n.ev env = some (.i64 els.length)) :
  Nx I env ρ σ (up ρ σ.nb s.next) (σ.new (.lst l ty z false)) (s.alloc ⟨els, ty, z, false, false⟩) ∧ DVσ env (up ρ σ.nb s.next) (σ.new (.lst l ty z false)) (.w (.c (.lsl σ.nb (.c (.i64 0)) n))) (.lsl s.next 0 els.length) := by
 obtain ⟨r1, r2⟩ := hb.new (sb := .lst l ty z false) (e := ⟨els, ty, z, false, false⟩) fun hx =>
  .lst (by unfold up; rw [if_pos rfl]) hl (by rw [St.get_alloc, if_pos rfl])
 refine ⟨⟨r1, r2, rfl, rfl, rfl, rfl⟩, .w (.c (.lsl (by unfold up; rw [if_pos rfl]) (by show σ.nb < σ.nb + 1; omega) (oi := 0) rfl hn fun len hlen => ?_))⟩
 have : lenOf env (σ.new (.lst l ty z false)) σ.nb = some els.length := by
  unfold lenOf;have : look (σ.new (.lst l ty z false)).bl σ.nb = some (.lst l ty z false) := by
   show look (put σ.bl σ.nb _) σ.nb = _
   rw [look_put, if_pos rfl]
  rw [this]; simp only [hl]
 rw [this] at hlen;cases hlen;omega
theorem deep0_els {p : PV} {els : List (List PV)} {bs : List Nat} (h : deep0 s p = some (.sl els, bs)) : elsOf s p = some els := by
 cases p <;> simp only [deep0] at h <;> try (cases h; done)
 ·cases h; rfl
 ·cases h; rfl
 ·split at h
  ·rename_i e he;split at h
   ·rename_i hc; cases h; simp only [elsOf, he]; rw [if_pos hc]
   ·cases h
  ·cases h
 ·(repeat' split at h) <;> first | (cases h; done) | exact absurd ‹PV.fn _ _ _ = _› (by simp)
theorem deep0S_w (hb : Rb I env ρ σ s) {c : SC} {p : PV} (h : DWσ env ρ σ (.c c) p) : Sp env (deep0S σ c) (fun r => (∃ q, deep0 s p = some (q, blocks ρ r.2) ∧ r.1.ev env = some q ∧ t0 q = true) ∧ ∀ b ∈ r.2, (look σ.bl b).isSome = true) := by
 rcases h.cell with h | ⟨x, g, a, e, rfl, _⟩
 ·exact deep0S_ok hb h
 ·exact .fail
theorem convS_ok (hb : Rb I env ρ σ s) {src dst : TypeId} {x : SC} {p : PV} (h : DWσ env ρ σ (.c x) p) : Sp env (convS P σ src dst x) (fun r => ∃ q s' ρ', pConvert P s src dst p = some (q, s') ∧ Nx I env ρ σ ρ' r.2 s' ∧ DVσ env ρ' r.2 r.1 q) := by
 unfold convS;split
 ·rename_i ts hs;split
  ·rename_i k hd;refine Sp.bind (cellA_w h) fun a ⟨v, a1, a2, a3⟩ => Sp.bind Sp.emit fun y hy => ?_;obtain ⟨u, h1, h2⟩ := letIs1 hy a1;simp only [RF.ev] at h1;split at h1
   ·rename_i hl;simp only [List.cons.injEq, and_true] at hl;subst hl;cases h1;have e := smc_v a3 (by simp);subst e;exact .ret ⟨_, s, ρ, by unfold pConvert; simp only [hs, hd], Nx.refl hb, .w (.c (.a h2 rfl (.inl rfl)))⟩
   ·cases h1
  ·rename_i e hd;split
   ·rename_i he;refine Sp.bind (cellA_w h) fun a ⟨v, a1, a2, a3⟩ => Sp.bind Sp.emit fun l hl => Sp.bind Sp.emit fun n hn => ?_;obtain ⟨u, h1, h2⟩ := letIs1 hl a1;simp only [RF.ev] at h1;split at h1
    ·rename_i str hl;simp only [List.cons.injEq, and_true] at hl;subst hl;have e := smc_v a3 (by simp);subst e;split at h1
     ·rename_i hlt;cases h1;obtain ⟨u, g1, g2⟩ := letIs1 hn h2;obtain ⟨els, e1, rfl⟩ := len_spec g1;cases e1;have hlen : (byteEls str).length = str.size := by unfold byteEls; rw [List.length_map, Array.length_toList]; rfl
      obtain ⟨k1, k2⟩ := newL hb (ty := e) (z := 1) h2 g2;rw [hlen] at k2;exact .ret ⟨_, _, _, by unfold pConvert; simp only [hs, hd, he]; rw [if_pos hlt], k1, k2⟩
     ·cases h1
    ·cases h1
   ·exact .fail
  ·rename_i hd;split
   ·rename_i e;split
    ·rename_i he;refine Sp.bind (deep0S_w hb h) fun q ⟨⟨v, q1, q2, q3⟩, _⟩ => Sp.bind Sp.emit fun r hr => ?_;obtain ⟨u, h1, h2⟩ := letIs1 hr q2;simp only [RF.ev] at h1;split at h1
     ·rename_i els hl;simp only [List.cons.injEq, and_true] at hl;subst hl;split at h1
      ·rename_i l hbl;cases h1;exact .ret ⟨_, s, ρ, by unfold pConvert; simp only [hs, hd, he, deep0_els q1, hbl], Nx.refl hb, .w (.c (.a h2 rfl (.inl rfl)))⟩
      ·cases h1
     ·cases h1
    ·exact .fail
   ·exact .fail
  ·exact .fail
 ·exact .fail
theorem convert_ok (hb : Rb I env ρ σ s) (ht : Rtσ env ρ σ f) {src dst : TypeId} {x : Operand} : Sp env (opE P σ (.convert src dst x)) (OkR P I env ρ σ s f (.convert src dst x)) := by
 simp only [opE];refine Sp.bind (Sp.ofO fun w h => h) fun a h => ?_;obtain ⟨p, h1, h2⟩ := opC_ok hb ht h;exact retV_ok ((convS_ok (P := P) hb h2).mono fun r ⟨q, s', ρ', k1, k2, k3⟩ => ⟨q, s', ρ', by simp only [pOp, h1, k1], k2, k3⟩)
theorem makeSliceS_ok (hb : Rb I env ρ σ s) {t : TypeId} {l c : SC} {p q : PV} (h : DWσ env ρ σ (.c l) p) (k : DWσ env ρ σ (.c c) q) : Sp env (makeSliceS P σ t l c) (fun r => ∃ u s' ρ', pMakeSlice P s t p q = some (u, s') ∧ Nx I env ρ σ ρ' r.2 s' ∧ DVσ env ρ' r.2 r.1 u) := by
 unfold makeSliceS;split
 ·rename_i elem he;split
  ·rename_i info hi;split
   ·rename_i z hz;split
    ·rename_i hc;simp only [Bool.and_eq_true, Nat.ble_eq] at hc;obtain ⟨⟨⟨c1, c2⟩, c3⟩, c4⟩ := hc;have c1 := Nat.eq_of_beq_eq_true c1;refine Sp.bind (cellA_w h) fun a ⟨v, a1, a2, a3⟩ => Sp.bind (cellA_w k) fun b ⟨w, b1, b2, b3⟩ => Sp.bind Sp.emit fun r hr => Sp.bind Sp.emit fun n hn => ?_;obtain ⟨u, h1, h2⟩ := letIs2 hr a1 b1;simp only [RF.ev] at h1;split at h1
     ·rename_i l' _ c' hl;simp only [List.cons.injEq, and_true] at hl;obtain ⟨rfl, rfl⟩ := hl;have e1 := smc_v a3 (by simp);have e2 := smc_v b3 (by simp);subst e1; subst e2;split at h1
      ·rename_i hc';cases h1;obtain ⟨u, g1, g2⟩ := letIs1 hn h2;obtain ⟨els, e1, rfl⟩ := len_spec g1;cases e1;obtain ⟨k1, k2⟩ := newL hb (ty := elem) (z := info.size) h2 g2;rw [List.length_replicate] at k2;refine .ret ⟨_, _, _, ?_, k1, k2⟩;unfold pMakeSlice;simp only [he, hi, hz];rw [if_pos ⟨hc'.1, hc'.2.1, hc'.2.2.1, hc'.2.2.2, c1, c2, by omega, c4⟩]
      ·cases h1
     ·cases h1
    ·exact .fail
   ·exact .fail
  ·exact .fail
 ·exact .fail
theorem makeSlice_ok (hb : Rb I env ρ σ s) (ht : Rtσ env ρ σ f) {t : TypeId} {l c : Operand} : Sp env (opE P σ (.makeSlice t l c)) (OkR P I env ρ σ s f (.makeSlice t l c)) := by
 simp only [opE];refine Sp.bind (Sp.ofO fun w h => h) fun a h => Sp.bind (Sp.ofO fun w h => h) fun b k => ?_;obtain ⟨p, h1, h2⟩ := opC_ok hb ht h;obtain ⟨q, k1, k2⟩ := opC_ok hb ht k;exact retV_ok ((makeSliceS_ok (P := P) hb h2 k2).mono fun r ⟨q, s', ρ', r1, r2, r3⟩ => ⟨q, s', ρ', by simp only [pOp, h1, k1, r1], r2, r3⟩)
theorem app_spec {bytes z : Nat} {u v w r : PV} (h : (RF.app bytes z).ev [u, v, w] = some r) : ∃ a k n b, u = .sl a ∧ v = .v (.int k n) ∧ w = .sl b ∧ 0 ≤ n ∧ n ≤ a.length ∧ (n.toNat + b.length) * bytes ≤ 140737488355328 ∧ elsOk' z b = true ∧ r = .sl (a.take n.toNat ++ b) := by
 simp only [RF.ev] at h;split at h
 ·rename_i hl;simp only [List.cons.injEq, and_true] at hl;obtain ⟨rfl, rfl, rfl⟩ := hl;split at h
  ·rename_i hc; cases h; exact ⟨_, _, _, _, rfl, rfl, rfl, hc.1, hc.2.1, hc.2.2.1, hc.2.2.2, rfl⟩
  ·cases h
 ·cases h
theorem elsOk_eq (z : Nat) (els : List (List PV)) : elsOk' z els = elsOk z els := by cases els <;> rfl
theorem appendS_ok (hb : Rb I env ρ σ s) {st xt : TypeId} {x y : SC} {p q : PV} (h : DWσ env ρ σ (.c x) p) (k : DWσ env ρ σ (.c y) q) : Sp env (appendS P σ st xt x y) (fun r => ∃ u s' ρ', pAppend P 0 s st xt p q = some (u, s') ∧ Nx I env ρ σ ρ' r.2 s' ∧ DVσ env ρ' r.2 r.1 u) := by
 unfold appendS;split
 ·rename_i elem hu;split
  ·rename_i size hsz;split
   ·rename_i info hi;split
    ·rename_i z hz;split
     ·rename_i hc;simp only [Bool.and_eq_true, Nat.ble_eq] at hc;obtain ⟨⟨⟨c1, c2⟩, c3⟩, c4⟩ := hc;have c3 := Nat.eq_of_beq_eq_true c3;refine Sp.bind (P := fun ys => ∃ v, ys.ev env = some v ∧ ∀ els, v = .sl els → elsOk' size els = true → appEls P s xt size z info.bytes q = some els) ?_ fun ys ⟨v, y1, y2⟩ => ?_
      ·split
       ·rename_i hx;unfold elemsS;refine Sp.bind (deep0S_w hb k) fun r ⟨⟨v, q1, q2, q3⟩, _⟩ => .ret ⟨v, q2, fun els e he => ?_⟩;subst e;unfold appEls;simp only [hx, deep0_els q1];rw [← elsOk_eq, if_pos he]
       ·rename_i hx;split
        ·rename_i h1;have h1 := Nat.eq_of_beq_eq_true h1;refine Sp.bind (cellA_w k) fun a ⟨v, a1, a2, a3⟩ => Sp.emit.mono fun r hr => ?_;obtain ⟨u, g1, g2⟩ := letIs1 hr a1;refine ⟨u, g2, fun els e he => ?_⟩;subst e;simp only [RF.ev] at g1;split at g1
         ·rename_i hl;simp only [List.cons.injEq, and_true] at hl;subst hl;have e1 := smc_v a3 (by simp);subst e1;split at g1
          ·cases g1;unfold appEls;simp only [hx];rw [if_pos h1]
          ·cases g1
         ·cases g1
        ·exact .fail
       ·exact .fail
      ·have head : ∀ {els : List (List PV)}, appEls P s xt size z info.bytes q = some els → pAppend P 0 s st xt p q = (match p with
         | .nil => if els.length * info.bytes ≤ 140737488355328 then some (.lsl s.next 0 els.length, s.alloc ⟨els, elem, size, false, false⟩) else none
         | .lsl b o n => match s.get b with
          | some e => if o = 0 ∧ e.fz = false ∧ 0 ≤ b ∧ e.box = false ∧ (e.ty = elem ∧ e.z = size) ∧ n ≤ e.els.length ∧ (n + els.length) * info.bytes ≤ 140737488355328 then
            some (.lsl s.next 0 (n + els.length), (s.kill b).alloc ⟨e.els.take n ++ els, elem, size, false, false⟩)
           else none
          | none => none
         | _ => none) := by
        intro els he;unfold pAppend;simp only [hu, hsz, hi, hz];rw [if_pos ⟨c1, by omega, c3, c4⟩, he];cases p <;> rfl
       split
       ·rcases h.cell with h | ⟨_, _, _, _, e, _⟩
        rotate_left
        ·cases e
        cases h;refine Sp.bind Sp.emit fun l hl => Sp.bind Sp.emit fun n hn => ?_;obtain ⟨u, g1, g2⟩ := letIs3 hl (u := .sl []) (v := .i64 0) rfl rfl y1;obtain ⟨a, kk, m, b, e1, e2, rfl, e4, e5, e6, e7, rfl⟩ := app_spec g1;cases e1; cases e2;simp only [List.take_nil, List.nil_append] at g2;obtain ⟨u, m1, m2⟩ := letIs1 hn g2;obtain ⟨els, e1, rfl⟩ := len_spec m1;cases e1;obtain ⟨k1, k2⟩ := newL hb (ty := elem) (z := size) g2 m2;refine .ret ⟨_, _, _, ?_, k1, k2⟩;rw [head (y2 _ rfl e7)];simp only;rw [if_pos (by simpa using e6)]
       ·rename_i bb o n;rcases h.cell with h | ⟨_, _, _, _, e, _⟩
        rotate_left
        ·cases e
        split
        ·rename_i l ty z' hlk;split
         ·rename_i hc';simp only [Bool.and_eq_true] at hc';obtain ⟨⟨d1, d2⟩, d3⟩ := hc';have d2 := Nat.eq_of_beq_eq_true d2;have d3 := Nat.eq_of_beq_eq_true d3;subst d2; subst d3;obtain ⟨_, hdb⟩ := hb.bl bb _ hlk;refine Sp.bind Sp.emit fun l' hl' => Sp.bind Sp.emit fun n' hn' => ?_;have hkill := hb.kill bb (fun m hm => by rw [hlk]; rfl);cases h with
          | gh hρ hlt ho hn =>
           cases hdb with
           | lst hρ' _ _ => rw [hρ] at hρ'; cases hρ'
           | gh hρ' hlv =>
            obtain ⟨u, g1, g2⟩ := letIs3 hl' hlv hn y1;obtain ⟨a, kk, m, b, e1, e2, rfl, e4, e5, e6, e7, rfl⟩ := app_spec g1;cases e1; cases e2;simp only [List.take_nil, List.nil_append] at g2;obtain ⟨u, m1, m2⟩ := letIs1 hn' g2;obtain ⟨els, e1, rfl⟩ := len_spec m1;cases e1;rw [hρ] at hkill;obtain ⟨k1, k2⟩ := newL hkill.1 (ty := ty) (z := z') g2 m2;refine .ret ⟨_, _, _, ?_, ⟨k1.rb, hkill.2.trans k1.sx, rfl, rfl, rfl, rfl⟩, k2⟩;rw [head (y2 _ rfl e7)];simp only;rw [if_pos (by simpa using e6)]
          | @lsl _ m _ _ oi ni hρ hlt ho hn hlen =>
           cases hdb with
           | gh hρ' => rw [hρ] at hρ'; cases hρ'
           | @lst _ _ _ _ _ els hρ' hlv hg =>
            rw [hρ] at hρ'; cases hρ';obtain ⟨u, g1, g2⟩ := letIs3 hl' hlv hn y1;obtain ⟨a, kk, m', b, e1, e2, rfl, e4, e5, e6, e7, rfl⟩ := app_spec g1;cases e1; cases e2;obtain ⟨u, m1, m2⟩ := letIs1 hn' g2;obtain ⟨els', e1, rfl⟩ := len_spec m1;cases e1;rw [hρ] at hkill;obtain ⟨k1, k2⟩ := newL hkill.1 (ty := ty) (z := z') g2 m2;have hni : ni ≤ els.length := by omega
            have hlen2 : (els.take (ni : Int).toNat ++ b).length = ni + b.length := by
             rw [List.length_append, List.length_take]; simp; omega
            rw [hlen2] at k2;refine .ret ⟨_, _, _, ?_, ⟨k1.rb, hkill.2.trans k1.sx, rfl, rfl, rfl, rfl⟩, k2⟩;rw [head (y2 _ rfl e7)];simp only [hg];have h0 := isZero_eq d1 ho;rw [if_pos ⟨by omega, trivial, Nat.zero_le _, trivial, ⟨trivial, trivial⟩, hni, by simpa using e6⟩]
            simp only [Int.toNat_natCast];rfl
         ·exact .fail
        ·exact .fail
       ·exact .fail
     ·exact .fail
    ·exact .fail
   ·exact .fail
  ·exact .fail
 ·exact .fail
end
end Go.Sym
namespace Go.Sym
open Go.Abu Go.Pev
section
variable {P : Program} {I : FuncId → Bool} {env : List PV} {ρ : Nat → Option Nat} {σ : SS} {s : St} {f : PF}
inductive DP (env : List PV) (ρ : Nat → Option Nat) (σ : SS) : Nat × SW → Nat × PV → Prop
 | mk {i : Nat} {w : SW} {p : PV} (h : DWσ env ρ σ w p) : DP env ρ σ (i, w) (i, p)
theorem pairsS_ok (hb : Rb I env ρ σ s) (ht : Rtσ env ρ σ f) : ∀ {xs : List (Nat × Operand)} {l : List (Nat × SW)}, pairsS σ xs = some l → ∃ ps, pairs f xs = some ps ∧ F2 (DP env ρ σ) l ps
 | [], l, h => by cases h; exact ⟨[], rfl, .nil⟩
 | (i, x) :: xs, l, h => by
  unfold pairsS at h;split at h
  ·rename_i w hw;split at h
   ·rename_i l' hl;cases h;obtain ⟨p, h1, h2⟩ := opW_ok hb ht hw;obtain ⟨ps, k1, k2⟩ := pairsS_ok hb ht hl;exact ⟨(i, p) :: ps, by simp only [pairs, h1, k1], .cons (.mk h2) k2⟩
   ·cases h
  ·cases h
theorem places_spec {t : TypeId} {pl : Nat → Option (Nat × Nat)} {i ty o n : Nat} (h : aPlaces P t = some pl) (hp : partTy P t i = some (ty, o)) (hz : szT P ty = some n) : pl i = some (o, n) := by
 unfold aPlaces at h;unfold partTy at hp;split at h
 ·rename_i fields hu;rw [hu] at hp;simp only at hp;split at h
  ·cases h;split at hp
   ·rename_i fl hf;cases hp;simp only [hf, hz, Option.map_some, Option.getD_some]
   ·cases hp
  ·cases h
 ·rename_i _ elem hu;rw [hu] at hp;simp only at hp;split at hp
  ·rename_i z hz';cases hp;rw [hz'] at hz; cases hz;rw [hz'] at h;cases h; rfl
  ·cases hp
 ·cases h
theorem fillS_ok {t : TypeId} {pl : Nat → Option (Nat × Nat)} (hpl : aPlaces P t = some pl) : ∀ {l : List (Nat × SW)} {ps : List (Nat × PV)}, F2 (DP env ρ σ) l ps → ∀ {cs : List SC} {qs : List PV}, F2 (DCσ env ρ σ) cs qs → Sp env (fillS P t cs l) (fun cs' => ∃ rs, pFill pl qs ps = some rs ∧ F2 (DCσ env ρ σ) cs' rs)
 | _, _, .nil, cs, qs, h => .ret ⟨qs, rfl, h⟩
 | _, _, .cons (.mk (i := i) (w := w) (p := p) hw) tl, cs, qs, h => by
  unfold fillS;split
  ·rename_i ty o hp;refine Sp.bind (cellsT_ok (P := P) hw) fun vs ⟨h1, h2⟩ => ?_;split
   ·rename_i hle;rw [Nat.ble_eq] at hle;refine (fillS_ok hpl tl (splice_ok h h1 o)).mono fun cs' ⟨rs, k1, k2⟩ => ⟨rs, ?_, k2⟩;unfold pFill;rw [places_spec hpl hp h2];simp only;rw [if_pos ⟨trivial, by rw [← h.len, ← h1.len]; exact hle, F2.sc h1⟩];exact k1
   ·exact .fail
  ·exact .fail
theorem build_ok (hb : Rb I env ρ σ s) (ht : Rtσ env ρ σ f) {t : TypeId} {ps : Array (Nat × Operand)} : Sp env (opE P σ (.build t ps)) (OkR P I env ρ σ s f (.build t ps)) := by
 simp only [opE];refine Sp.bind (Sp.ofO fun w h => h) fun z hz => Sp.bind (Sp.ofO fun w h => h) fun pl hpl => Sp.bind (Sp.ofO fun w h => h) fun l hl => ?_;obtain ⟨zv, z1, z2⟩ := zeroCs_ok (P := P) (env := env) (ρ := ρ) (σ := σ) hz;obtain ⟨qs, l1, l2⟩ := pairsS_ok hb ht hl;refine Sp.bind (fillS_ok hpl l2 z2) fun cs ⟨rs, h1, h2⟩ => ?_;exact ret1_ok hb ((collapse_ok h2).mono fun w hw => ⟨_, by simp only [pOp, l1, pBuild, z1, hpl, h1, Option.map_some], hw⟩)
theorem setIds_len : ∀ {z : Nat} {els els' : List (List PV)} {ids : List Nat} {ps : List PV}, setIds z els ids ps = some els' → els'.length = els.length
 | z, els, els', [], [], h => by cases h; rfl
 | z, els, els', i :: ids, p :: ps, h => by
  unfold setIds at h;split at h
  ·rw [setIds_len h, List.length_set]
  ·cases h
 | _, _, _, [], _ :: _, h => by cases h
 | _, _, _, _ :: _, [], h => by cases h
theorem pElems_ok : ∀ {ps : List (Nat × PV)} {qs : List PV} {bs : List Nat} {z n : Nat} {els els' : List (List PV)}, deeps s (ps.map (·.2)) = some (qs, bs) → els.length = n → setIds z els (ps.map (·.1)) qs = some els' → pElems s n els z ps = some (els', bs)
 | [], qs, bs, z, n, els, els', h, hn, k => by
  cases h;cases k;rfl
 | (i, p) :: ps, qs, bs, z, n, els, els', h, hn, k => by
  simp only [List.map_cons] at h k;unfold deeps at h;split at h
  ·rename_i q b1 hq;split at h
   ·rename_i qs' b2 hqs;cases h;unfold setIds at k;split at k
    ·rename_i hc;have := pElems_ok (n := n) hqs (by rw [List.length_set]; exact hn) k;unfold pElems;rw [if_pos (by rw [← hn]; exact hc.1), hq];simp only;rw [if_pos hc.2, this]
    ·cases k
   ·cases h
  ·cases h
theorem dp_map : ∀ {l : List (Nat × SW)} {ps : List (Nat × PV)}, F2 (DP env ρ σ) l ps → l.map (·.1) = ps.map (·.1) ∧ F2 (DWσ env ρ σ) (l.map (·.2)) (ps.map (·.2))
 | _, _, .nil => ⟨rfl, .nil⟩
 | _, _, .cons (.mk h) t => ⟨by simp [(dp_map t).1], .cons h (dp_map t).2⟩
theorem buildSliceS_ok (hb : Rb I env ρ σ s) {t : TypeId} {len : Nat} {l : List (Nat × SW)} {ps : List (Nat × PV)} (h : F2 (DP env ρ σ) l ps) : Sp env (buildSliceS P σ t len l) (fun r => ∃ u s' ρ', pBuildSlice P s t len ps = some (u, s') ∧ Nx I env ρ σ ρ' r.2 s' ∧ DVσ env ρ' r.2 r.1 u) := by
 unfold buildSliceS;split
 ·rename_i elem hu;split
  ·rename_i size hz;split
   ·rename_i z hzl;split
    ·rename_i hc;simp only [Bool.and_eq_true, Nat.ble_eq] at hc;obtain ⟨⟨c1, c2⟩, c3⟩ := hc;have c3 := Nat.eq_of_beq_eq_true c3;obtain ⟨e1, e2⟩ := dp_map h;refine Sp.bind (deepsS_ok hb e2) fun q ⟨⟨qs, q1, q2, q3⟩, hl⟩ => ?_;split
     ·split
      ·cases h;refine .ret ⟨.nil, s, ρ, ?_, Nx.refl hb, .w (.c .nil)⟩;unfold pBuildSlice;simp only [hu, hz];rw [if_pos ⟨c1, c2⟩, hzl];simp only;rw [if_pos c3];rfl
      ·exact .fail
     ·rename_i hne;refine Sp.bind Sp.emit fun y hy => ?_;obtain ⟨vs, v, h1, h2, h3⟩ := hy;rw [q1] at h1; cases h1;simp only [RF.ev] at h2;split at h2
      ·rename_i els he;cases h2;rw [e1, c3] at he;have hel := setIds_len he;rw [List.length_replicate] at hel;have hpe := pElems_ok q2 (List.length_replicate ..) he;obtain ⟨k1, k2, _⟩ := hb.freeze _ hl;have sm := freezeS_same q.2 σ;have nb := freezeS_nb q.2 σ;obtain ⟨k3, k4⟩ := newL k1 (n := .c (.i64 len)) (ty := elem) (z := size) h3 (by rw [hel]; rfl);have nx : s.next = (Pev.freeze s (blocks ρ q.2)).next := (freeze_next _ _).symm;rw [nb] at k3 k4;refine .ret ⟨_, _, _, ?_, ⟨k3.rb, Sx.trans (by rw [nb]; exact k2) k3.sx, k3.n.trans sm.1, k3.tm.trans sm.2.1, k3.fc.trans sm.2.2.1, k3.sz.trans sm.2.2.2.1⟩, k4⟩;unfold pBuildSlice;simp only [hu, hz];rw [if_pos ⟨c1, c2⟩, hzl];simp only;rw [if_pos c3, hpe, hel];cases len with
       | zero => exact absurd rfl hne
       | succ n => rw [← nx]
      ·cases h2
    ·exact .fail
   ·exact .fail
  ·exact .fail
 ·exact .fail
theorem buildSlice_ok (hb : Rb I env ρ σ s) (ht : Rtσ env ρ σ f) {t : TypeId} {n : Nat} {ps : Array (Nat × Operand)} : Sp env (opE P σ (.buildSlice t n ps)) (OkR P I env ρ σ s f (.buildSlice t n ps)) := by
 simp only [opE];refine Sp.bind (Sp.ofO fun w h => h) fun l hl => ?_;obtain ⟨qs, l1, l2⟩ := pairsS_ok hb ht hl;exact retV_ok ((buildSliceS_ok (P := P) hb l2).mono fun r ⟨q, s', ρ', k1, k2, k3⟩ => ⟨q, s', ρ', by simp only [pOp, l1, k1], k2, k3⟩)
theorem mm_one {mx : Bool} {x r : PV} (h : intMM mx [x] = some r) : ∃ k a, x = .v (.int k a) ∧ r = .v (.int k a) := by
 cases x with
 | v x => cases x with
  | int k a => simp only [intMM] at h; cases h; exact ⟨_, _, rfl, rfl⟩
  | _ => simp [intMM] at h
 | _ => simp [intMM] at h
theorem mm_cons {mx : Bool} {x y r : PV} {l : List PV} (h : intMM mx (x :: y :: l) = some r) : ∃ k a b, x = .v (.int k a) ∧ intMM mx (y :: l) = some (.v (.int k b)) ∧ r = .v (.int k (if mx then max a b else min a b)) := by
 cases x with
 | v x => cases x with
  | int k a =>
   rw [intMM] at h
   ·split at h
    ·rename_i k' b hb;split at h
     ·rename_i e; subst e; cases h; exact ⟨_, _, _, rfl, hb, rfl⟩
     ·cases h
    ·cases h
   ·intro e; cases e
  | _ => simp [intMM] at h
 | _ => simp [intMM] at h
theorem max2_int (k k' : IntKind) (a b : Int) : pureRun P (Builtin.max2 (.int k a) (.int k' b)) = some (.int k (max a b)) := by
 have e : (if b > a then b else a) = max a b := by
  rw [Int.max_def];split <;> split <;> omega
 show pureRun P (pure (Value.int k (if b > a then b else a))) = _
 rw [e]; rfl
theorem min2_int (k k' : IntKind) (a b : Int) : pureRun P (Builtin.min2 (.int k a) (.int k' b)) = some (.int k (min a b)) := by
 have e : (if b < a then b else a) = min a b := by
  rw [Int.min_def];split <;> split <;> omega
 show pureRun P (pure (Value.int k (if b < a then b else a))) = _
 rw [e]; rfl
theorem mm_assoc (mx : Bool) (a b c : Int) : (if mx then max (if mx then max a b else min a b) c else min (if mx then max a b else min a b) c) = (if mx then max a (if mx then max b c else min b c) else min a (if mx then max b c else min b c)) := by
 cases mx
 ·simp only [Bool.false_eq_true, if_false]; exact Int.min_assoc a b c
 ·simp only [if_true]; exact Int.max_assoc a b c
theorem mm_fold {mx : Bool} : ∀ {l : List PV} {k : IntKind} {a : Int} {r : PV}, intMM mx (.v (.int k a) :: l) = some r → ∃ vs b, toVs l = some vs ∧ vs.all plain1 = true ∧ r = .v (.int k b) ∧
  pureRun P (vs.foldlM (if mx then Builtin.max2 else Builtin.min2) (.int k a)) = some (.int k b)
 | [], k, a, r, h => by
  simp only [intMM] at h; cases h;exact ⟨[], a, rfl, rfl, rfl, rfl⟩
 | y :: l, k, a, r, h => by
  obtain ⟨k', a', b, e, h1, rfl⟩ := mm_cons h;cases e;cases y with
  | v y => cases y with
   | int k2 c =>
    obtain ⟨vs, d, v1, v2, e, v3⟩ := mm_fold h1;cases e;have h2 : intMM mx (.v (.int k (if mx then max a c else min a c)) :: l) = some (.v (.int k (if mx then max a b else min a b))) := by
     cases l with
     | nil =>
      simp only [intMM] at h1 ⊢;cases h1; rfl
     | cons z l =>
      obtain ⟨k3, a3, b3, e, h3, e3⟩ := mm_cons h1;cases e; cases e3;rw [intMM]
      ·rw [h3];simp only [if_true];rw [mm_assoc]
      ·intro e; cases e
    obtain ⟨vs', d', w1, w2, e, w3⟩ := mm_fold h2;rw [v1] at w1; cases w1;refine ⟨.int k c :: vs, _, by simp only [toVs, toV, v1], by simp [v2]; rfl, e, ?_⟩;rw [List.foldlM_cons, pureRun_bind];cases e;cases mx with
    | true => simp only [if_true, max2_int, Option.bind_some] at w3 ⊢; exact w3
    | false => simp only [Bool.false_eq_true, if_false, min2_int, Option.bind_some] at w3 ⊢; exact w3
   | _ => cases l <;> simp [intMM] at h1
  | _ => cases l <;> simp [intMM] at h1
 termination_by l => l.length
theorem mm_first {mx : Bool} {l : List PV} {r : PV} (h : intMM mx l = some r) : ∃ k a l', l = .v (.int k a) :: l' := by
 cases l with
 | nil => cases h
 | cons x l => cases l with
  | nil => obtain ⟨k, a, rfl, _⟩ := mm_one h; exact ⟨_, _, _, rfl⟩
  | cons y l => obtain ⟨k, a, b, rfl, _⟩ := mm_cons h; exact ⟨_, _, _, rfl⟩
theorem mm_ok {ts : Array TypeId} {l : List PV} {r : PV} (h : intMM true l = some r) : pBuiltin P 0 s .max ts l = some (r, s) := by
 obtain ⟨k, a, l', rfl⟩ := mm_first h;obtain ⟨vs, b, h1, h2, rfl, h3⟩ := mm_fold (P := P) h;have e : pureRun P (Builtin.max_ ts 0 (Value.int k a :: vs).toArray) = some (.int k b) := h3;simp only [pBuiltin, toVs, toV, h1, e];rw [if_pos (by simp [h2]; exact ⟨rfl, rfl⟩)]
theorem mn_ok {ts : Array TypeId} {l : List PV} {r : PV} (h : intMM false l = some r) : pBuiltin P 0 s .min ts l = some (r, s) := by
 obtain ⟨k, a, l', rfl⟩ := mm_first h;obtain ⟨vs, b, h1, h2, rfl, h3⟩ := mm_fold (P := P) h;have e : pureRun P (Builtin.min_ ts 0 (Value.int k a :: vs).toArray) = some (.int k b) := h3;simp only [pBuiltin, toVs, toV, h1, e];rw [if_pos (by simp [h2]; exact ⟨rfl, rfl⟩)]
theorem cellAs_ok : ∀ {ws : List SW} {ps : List PV}, F2 (DWσ env ρ σ) ws ps → Sp env (cellAs ws) (fun as => ∃ vs, evs env as = some vs ∧ F2 Smc vs ps)
 | _, _, .nil => .ret ⟨[], rfl, .nil⟩
 | _, _, .cons h t => by
  unfold cellAs;split
  ·rename_i e; cases e
  ·rename_i e; cases e;exact Sp.bind (cellA_w h) fun a ⟨v, h1, h2, h3⟩ => Sp.bind (cellAs_ok t) fun as ⟨vs, k1, k2⟩ => .ret ⟨v :: vs, evs_cons h1 k1, .cons h3 k2⟩
  ·exact .fail
theorem mm_all {mx : Bool} : ∀ {l : List PV} {r : PV}, intMM mx l = some r → ∀ v ∈ l, v ≠ .sl []
 | [], r, h => by cases h
 | [x], r, h => by
  obtain ⟨k, a, rfl, _⟩ := mm_one h;intro v hv; simp at hv; subst hv; simp
 | x :: y :: l, r, h => by
  obtain ⟨k, a, b, rfl, h1, _⟩ := mm_cons h;intro v hv;rcases List.mem_cons.1 hv with rfl | hv
  ·simp
  ·exact mm_all h1 v hv
theorem smc_all : ∀ {vs ps : List PV}, F2 Smc vs ps → (∀ v ∈ vs, v ≠ .sl []) → ps = vs
 | _, _, .nil, _ => rfl
 | _, _, .cons h t, k => by rw [smc_v h (k _ (by simp)), smc_all t fun v hv => k v (List.mem_cons_of_mem _ hv)]
theorem builtinS_ok (hb : Rb I env ρ σ s) {b : Builtin} {ts : Array TypeId} {ws : List SW} {ps : List PV} (h : F2 (DWσ env ρ σ) ws ps) : Sp env (builtinS P σ b ts.toList ws) (fun r => ∃ u s' ρ', pBuiltin P 0 s b ts ps = some (u, s') ∧ Nx I env ρ σ ρ' r.2 s' ∧ DVσ env ρ' r.2 r.1 u) := by
 unfold builtinS;split
 ·split
  ·rename_i st xt hts;split
   ·cases h with
    | cons h1 t => cases t with
     | cons h2 t => cases t with
      | nil => exact (appendS_ok (P := P) hb h1 h2).mono fun r ⟨u, s', ρ', k1, k2, k3⟩ => ⟨u, s', ρ', by simp only [pBuiltin, hts, k1], k2, k3⟩
   ·exact .fail
  ·exact .fail
 ·split
  ·rename_i t hts;split
   ·cases h with
    | cons h1 t => cases t with
     | nil => exact Sp.bind (lenS_ok (P := P) (s := s) h1) fun r ⟨q, k1, k2⟩ => .ret ⟨q, s, ρ, by simp only [pBuiltin, hts, k1], Nx.refl hb, .w k2⟩
   ·exact .fail
  ·exact .fail
 ·refine Sp.bind (cellAs_ok h) fun as ⟨vs, a1, a2⟩ => Sp.bind Sp.emit fun r hr => ?_;obtain ⟨ws, v, h1, h2, h3⟩ := hr;rw [a1] at h1; cases h1;have e := smc_all a2 (mm_all h2);subst e;obtain ⟨k, a, l', rfl⟩ := mm_first h2;obtain ⟨_, b, _, _, rfl, _⟩ := mm_fold (P := P) h2;exact .ret ⟨_, s, ρ, mm_ok h2, Nx.refl hb, .w (.c (.a h3 rfl (.inl rfl)))⟩
 ·refine Sp.bind (cellAs_ok h) fun as ⟨vs, a1, a2⟩ => Sp.bind Sp.emit fun r hr => ?_;obtain ⟨ws, v, h1, h2, h3⟩ := hr;rw [a1] at h1; cases h1;have e := smc_all a2 (mm_all h2);subst e;obtain ⟨k, a, l', rfl⟩ := mm_first h2;obtain ⟨_, b, _, _, rfl, _⟩ := mm_fold (P := P) h2;exact .ret ⟨_, s, ρ, mn_ok h2, Nx.refl hb, .w (.c (.a h3 rfl (.inl rfl)))⟩
 ·exact .fail
theorem capW_ok {c : Cap} {p : PV} (h : DCap env ρ σ.nb c p) : DWσ env ρ σ c.w p := by
 cases h with
 | ptr h1 h2 => exact .c (.ptr h1 h2)
 | a h1 h2 h3 => exact .c (.a h1 h2 h3)
theorem capWs_ok {cs : List Cap} {ps : List PV} (h : F2 (DCap env ρ σ.nb) cs ps) : F2 (DWσ env ρ σ) (cs.map Cap.w) ps := by
 induction h with
 | nil => exact .nil
 | cons h _ ih => exact .cons (capW_ok h) ih
theorem call_ok (hb : Rb I env ρ σ s) (ht : Rtσ env ρ σ f) {c : Call} : Sp env (opE P σ (.call c)) (OkR P I env ρ σ s f (.call c)) := by
 simp only [opE];refine Sp.bind (Sp.ofO fun w h => h) fun args ha => ?_;obtain ⟨ps, a1, a2⟩ := opWs_ok hb ht ha;split
 ·rename_i b hc;exact retV_ok ((builtinS_ok (P := P) hb a2).mono fun r ⟨q, s', ρ', k1, k2, k3⟩ => ⟨q, s', ρ', by simp only [pOp, a1, hc, k1], k2, k3⟩)
 ·rename_i x hc;refine Sp.bind (Sp.ofO fun w h => h) fun v hv => ?_;obtain ⟨p, h1, h2⟩ := opC_ok hb ht hv;split
  ·rcases h2.cell with h3 | ⟨_, _, _, _, e, _⟩
   ·cases h3 with
    | fn k1 k2 => exact .ret ⟨_, by simp only [pOp, a1, hc, h1], ((capWs_ok k1).append a2).append (capWs_ok k2)⟩
   ·cases e
  ·rcases h2.cell with h3 | ⟨_, g, a, e', e, rfl, k1, k2, k3⟩
   ·cases h3
   ·cases e;exact .ret ⟨g, a, e', ps, k1, k2, k3, by simp only [pOp, a1, hc, h1], a2⟩
  ·exact .fail
 ·exact .fail
theorem opE_ok (hb : Rb I env ρ σ s) (ht : Rtσ env ρ σ f) (op : Op) : Sp env (opE P σ op) (OkR P I env ρ σ s f op) := by
 have nope : ∀ {op : Op}, opE P σ op = fail → Sp env (opE P σ op) (OkR P I env ρ σ s f op) := fun h => by rw [h]; exact .fail
 cases op with
 | move x => exact move_ok hb ht
 | assign x => exact assign_ok hb ht
 | pick c a b => exact pick_ok hb ht
 | alloc t => exact alloc_ok hb
 | box t x => exact box_ok hb ht
 | build t ps => exact build_ok hb ht
 | buildSlice t n ps => exact buildSlice_ok hb ht
 | load t a => exact load_ok hb ht
 | store t a x => exact store_ok hb ht
 | nilCheck x => exact nilCheck_ok hb ht
 | binOp op t x y t' => exact binOp_ok hb ht
 | unOp op t x => exact unOp_ok hb ht
 | convert s d x => exact convert_ok hb ht
 | makeSlice t l c => exact makeSlice_ok hb ht
 | fieldAddr t x i => exact fieldAddr_ok hb ht
 | field t x i => exact field_ok hb ht
 | indexAddr t x i => exact indexAddr_ok hb ht
 | index t x i => exact index_ok hb ht
 | extract x i => exact extract_ok hb ht
 | call c => exact call_ok hb ht
 | makeFunc g a c => cases g with
  | func g => exact makeFunc_ok hb ht
  | _ => exact nope rfl
 | slice t x lo hi mx => cases mx with
  | none => exact slice_ok hb ht
  | some m => cases hi with
   | none => exact nope rfl
   | some hi => exact slice3_ok hb ht
 | _ => exact nope rfl
end
end Go.Sym
namespace Go.Sym
open Go.Abu Go.Pev
section
variable {P : Program} {I : FuncId → Bool} {env : List PV} {ρ : Nat → Option Nat} {σ : SS} {s : St} {f : PF}
def cv1 : PV → PV
 | .fsl els _ _ => .sl els
 | p => p
def cv : PV → PV
 | .agg cs => .agg (cs.map cv1)
 | p => cv1 p
def mark1 : Slot → PV → PV
 | some ty, .sl els => .fsl els ty.1 ty.2
 | _, p => p
def markL : List Slot → List PV → List PV
 | _, [] => []
 | ts, p :: ps => mark1 (ts.headD none) p :: markL ts.tail ps
def mark (ts : List Slot) : PV → PV
 | .agg cs => .agg (markL ts cs)
 | p => mark1 (ts.headD none) p
def argIn (D : Dcf) (g : FuncId) (vs : List PV) : List PV :=
 match D.lent g with
 | none => vs
 | some (k, ts) => match vs[k]? with
  | some v => vs.set k (mark ts v)
  | none => vs
def Lst (ρ : Nat → Option Nat) (σ : SS) (bs : List Nat) : Prop := ∀ b ∈ bs, (∃ l ty z, look σ.bl b = some (.lst l ty z false)) ∧ ∃ k, ρ b = some k
theorem Lst.nil : Lst ρ σ [] := fun b hb => by cases hb
theorem Lst.append {bs cs : List Nat} (h : Lst ρ σ bs) (k : Lst ρ σ cs) : Lst ρ σ (bs ++ cs) := fun b hb => by
 rcases List.mem_append.1 hb with hb | hb
 ·exact h b hb
 ·exact k b hb
theorem Lst.live {bs : List Nat} (h : Lst ρ σ bs) : Live σ bs := fun b hb => by
 obtain ⟨⟨l, ty, z, e⟩, _⟩ := h b hb;rw [e]; rfl
structure L0 (env : List PV) (ρ : Nat → Option Nat) (σ : SS) (s : St) (sl : Slot) (p : PV) (r : A × List Nat × List Nat) : Prop where
 h : ∃ q, lend0 s sl.isSome p = some (q, blocks ρ r.2.1, blocks ρ r.2.2) ∧ r.1.ev env = some (cv1 q) ∧ t0 (cv1 q) = true ∧ mark1 sl (cv1 q) = q
 lst : Lst ρ σ r.2.1
 live : Live σ r.2.2
theorem cv1_t0 {q : PV} (h : t0 q = true) : cv1 q = q := by cases q <;> simp [t0] at h <;> rfl
theorem mark_none (q : PV) : mark1 none q = q := by cases q <;> rfl
theorem lendC_ok (hb : Rb I env ρ σ s) {sl : Slot} {c : SC} {p : PV} (h : DWσ env ρ σ (.c c) p) : Sp env (lendC σ sl c) (L0 env ρ σ s sl p) := by
 unfold lendC;split
 ·rename_i ty;split
  ·rename_i b o n;rcases h.cell with h | ⟨_, _, _, _, e, _⟩
   rotate_left
   ·cases e
   split
   ·rename_i l t z hlk;split
    ·rename_i hc;simp only [Bool.and_eq_true] at hc;obtain ⟨⟨⟨c1, c2⟩, c3⟩, c4⟩ := hc;have c3 := Nat.eq_of_beq_eq_true c3;have c4 := Nat.eq_of_beq_eq_true c4;obtain ⟨_, kk, hkk⟩ := hb.nn b (by simpa using c2)
     refine Sp.bind Sp.emit fun y hy => ?_;obtain ⟨_, hdb⟩ := hb.bl b _ hlk;cases h with
     | gh hρ => rw [hkk] at hρ; cases hρ
     | @lsl _ m _ _ oi ni hρ hlt ho hn hlen =>
      cases hdb with
      | gh hρ' => rw [hρ] at hρ'; cases hρ'
      | @lst _ _ _ _ _ els hρ' hlv hg =>
       rw [hρ] at hρ'; cases hρ';obtain ⟨u, g1, g2⟩ := letIs3 hy hlv ho hn;simp only [RF.ev] at g1;split at g1
       ·rename_i hcond;cases g1;have h0 := isZero_eq c1 ho;have h0' : oi = 0 := by omega
        subst h0';refine .ret ⟨⟨.fsl (els.take ni) t z, ?_, by simpa [cv1] using g2, rfl, ?_⟩, fun b' hb' => ?_, Live.nil⟩
        ·simp only [lend0, Option.isSome_some, hg, blocks, List.filterMap_cons, hρ, List.filterMap_nil];rw [if_pos ⟨trivial, by have := hcond.2.2; omega, trivial, trivial⟩]
        ·simp only [cv1, mark1, ← c3, ← c4]
        ·simp at hb'; subst hb'; exact ⟨⟨_, _, _, hlk⟩, _, hρ⟩
       ·cases g1
    ·exact .fail
   ·exact .fail
  ·exact .fail
 ·refine Sp.bind (deep0S_w hb h) fun r ⟨⟨q, q1, q2, q3⟩, hl⟩ => .ret ⟨⟨q, ?_, by rw [cv1_t0 q3]; exact q2, by rw [cv1_t0 q3]; exact q3, by rw [cv1_t0 q3, mark_none]⟩, Lst.nil, hl⟩;simp only [lend0, Option.isSome_none, q1]; rfl
structure L0s (env : List PV) (ρ : Nat → Option Nat) (σ : SS) (s : St) (sl : List Slot) (ps : List PV) (r : List A × List Nat × List Nat) : Prop where
 h : ∃ qs, lend0L s (sl.map (·.isSome)) ps = some (qs, blocks ρ r.2.1, blocks ρ r.2.2) ∧ evs env r.1 = some (qs.map cv1) ∧ (qs.map cv1).all t0 = true ∧ markL sl (qs.map cv1) = qs
 lst : Lst ρ σ r.2.1
 live : Live σ r.2.2
theorem headD_some (sl : List Slot) : (sl.map (·.isSome)).headD false = (sl.headD none).isSome := by cases sl <;> rfl
theorem tail_some (sl : List Slot) : (sl.map (·.isSome)).tail = sl.tail.map (·.isSome) := by cases sl <;> rfl
theorem lendCs_ok (hb : Rb I env ρ σ s) : ∀ {cs : List SC} {ps : List PV} {sl : List Slot}, F2 (DCσ env ρ σ) cs ps → Sp env (lendCs σ sl cs) (L0s env ρ σ s sl ps)
 | _, _, sl, .nil => by unfold lendCs; exact .ret ⟨⟨[], by cases sl <;> rfl, rfl, rfl, by cases sl <;> rfl⟩, Lst.nil, Live.nil⟩
 | _, _, sl, .cons h t => by
  unfold lendCs;refine Sp.bind (lendC_ok hb (.c h)) fun a ha => Sp.bind (lendCs_ok hb t) fun as has => ?_;obtain ⟨q, h1, h2, h3, h4⟩ := ha.h;obtain ⟨qs, k1, k2, k3, k4⟩ := has.h;refine .ret ⟨⟨q :: qs, ?_, evs_cons h2 k2, by simp only [List.map_cons, List.all_cons, h3, k3, Bool.and_self], ?_⟩, ha.lst.append has.lst, ha.live.append has.live⟩
  ·unfold lend0L;rw [headD_some, h1, tail_some];simp only;rw [k1];simp only [blocks_append]
  ·simp only [List.map_cons, markL, h4, k4]
structure L1 (env : List PV) (ρ : Nat → Option Nat) (σ : SS) (s : St) (sl : List Slot) (p : PV) (r : A × List Nat × List Nat) : Prop where
 h : ∃ q, lend s (sl.map (·.isSome)) p = some (q, blocks ρ r.2.1, blocks ρ r.2.2) ∧ r.1.ev env = some (cv q) ∧ (t0 (cv q) = true ∨ ∃ cs, cv q = .agg cs ∧ cs.all t0 = true) ∧ mark sl (cv q) = q
 lst : Lst ρ σ r.2.1
 live : Live σ r.2.2
theorem lend0L_len : ∀ {ps qs : List PV} {fs : List Bool} {ls bs : List Nat}, lend0L s fs ps = some (qs, ls, bs) → qs.length = ps.length
 | [], qs, fs, ls, bs, h => by cases fs <;> (cases h; rfl)
 | p :: ps, qs, fs, ls, bs, h => by
  unfold lend0L at h;split at h
  ·split at h
   ·rename_i hq; cases h; simp [lend0L_len hq]
   ·cases h
  ·cases h
theorem lend_cell {fs : List Bool} {p : PV} (h : ∀ cs, p ≠ .agg cs) : lend s fs p = lend0 s (fs.headD false) p := by
 cases p <;> first | rfl | exact absurd rfl (h _)
theorem cv_cell {q : PV} (h : t0 (cv1 q) = true) : cv q = cv1 q := by
 cases q <;> first | rfl | (simp [cv1, t0] at h)
theorem mark_cell {sl : List Slot} {v : PV} (h : t0 v = true) : mark sl v = mark1 (sl.headD none) v := by
 cases v <;> first | rfl | (simp [t0] at h)
theorem dw_cell {c : SC} {p : PV} (h : DWσ env ρ σ (.c c) p) : ∀ cs, p ≠ .agg cs := by
 intro cs e;subst e;rcases h.cell with h | ⟨_, _, _, _, _, e, _⟩
 ·have := h.sc; simp [PV.sc] at this
 ·cases e
theorem lendW_ok (hb : Rb I env ρ σ s) {sl : List Slot} {w : SW} {p : PV} (h : DWσ env ρ σ w p) : Sp env (lendW σ sl w) (L1 env ρ σ s sl p) := by
 unfold lendW;split
 ·rename_i cs;cases h with
  | @agg _ ps hcs =>
   refine Sp.bind (lendCs_ok hb hcs) fun r hr => ?_;obtain ⟨qs, k1, k2, k3, k4⟩ := hr.h;have hl : qs.length = cs.length := (lend0L_len k1).trans hcs.len.symm;have ev : ∀ vs v, evs env r.1 = some vs → RF.agg.ev vs = some v → v = .agg (qs.map cv1) := by
    intro vs v h1 h2;rw [k2] at h1; cases h1;simp only [RF.ev, flatMap_t0 k3] at h2;rw [if_pos k3] at h2;cases h2; rfl
   refine Sp.bind (Sp.emitN fun vs v h1 h2 => ⟨_, ev vs v h1 h2, by rw [List.length_map, hl]⟩) fun y ⟨vs, v, h1, h2, h3⟩ => ?_;have e := ev vs v h1 h2;subst e;refine .ret ⟨⟨.agg qs, ?_, h3, .inr ⟨_, rfl, k3⟩, ?_⟩, hr.lst, hr.live⟩
   ·simp only [lend, k1]
   ·simp only [cv, mark, k4]
 ·refine (lendC_ok hb h).mono fun r hr => ?_;obtain ⟨q, h1, h2, h3, h4⟩ := hr.h;refine ⟨⟨q, ?_, by rw [cv_cell h3]; exact h2, .inl (by rw [cv_cell h3]; exact h3), ?_⟩, hr.lst, hr.live⟩
  ·rw [lend_cell (dw_cell h), headD_some]; exact h1
  ·rw [cv_cell h3, mark_cell h3]; exact h4
 ·exact .fail
theorem nodup_ok (hb : Rb I env ρ σ s) : ∀ {bs : List Nat}, Live σ bs → nodupS bs = true → nodup (blocks ρ bs) = true
 | [], _, _ => rfl
 | b :: bs, hl, h => by
  simp only [nodupS, Bool.and_eq_true] at h;have hl' : Live σ bs := fun c hc => hl c (List.mem_cons_of_mem _ hc);have ih := nodup_ok hb hl' h.2;cases hρ : ρ b with
  | none => simpa [blocks, hρ] using ih
  | some m =>
   have : blocks ρ (b :: bs) = m :: blocks ρ bs := by simp [blocks, hρ]
   rw [this];simp only [nodup, Bool.and_eq_true];refine ⟨?_, ih⟩;have hnb : b ∉ bs := by simpa using h.1
   have := notMem_blocks hb hl' (hl b (by simp)) hρ hnb;simpa using this
theorem apart_ok (hb : Rb I env ρ σ s) {bs cs : List Nat} (hl : Live σ bs) (hl' : Live σ cs) (h : bs.all (fun b => !cs.elem b) = true) : (blocks ρ bs).all (fun b => !(blocks ρ cs).elem b) = true := by
 rw [List.all_eq_true];intro m hm;obtain ⟨b, h1, h2⟩ := List.mem_filterMap.1 hm;have := List.all_eq_true.1 h b h1;have hnb : b ∉ cs := by simpa using this
 simpa using notMem_blocks hb hl' (hl b h1) h2 hnb
theorem F2.set {α β : Type} {R : α → β → Prop} {as : List α} {bs : List β} (h : F2 R as bs) : ∀ (k : Nat) {a : α} {b : β}, R a b → F2 R (as.set k a) (bs.set k b) := by
 induction h with
 | nil => intro k a b _; simpa using .nil
 | cons h t ih => intro k a b hab; cases k with
  | zero => exact .cons hab t
  | succ k => exact .cons h (ih k hab)
theorem evs_set {a : A} {v : PV} (h : a.ev env = some v) : ∀ {as : List A} {vs : List PV} (k : Nat), evs env as = some vs → evs env (as.set k a) = some (vs.set k v)
 | [], vs, k, e => by cases e; simp [evs]
 | b :: as, vs, k, e => by
  unfold evs at e;split at e
  ·rename_i u hu;split at e
   ·rename_i us hus;cases e;cases k with
    | zero => exact evs_cons h hus
    | succ k => exact evs_cons hu (evs_set h k hus)
   ·cases e
  ·cases e
structure Args (D : Dcf) (env : List PV) (ρ : Nat → Option Nat) (σ : SS) (s : St) (g : FuncId) (ps : List PV) (r : List A × List Nat × List Nat) : Prop where
 h : ∃ vs, evs env r.1 = some vs ∧ argsT s (D.C.lent g) ps = some (argIn D g vs, blocks ρ r.2.1, blocks ρ r.2.2) ∧ (∀ v ∈ vs, Arg v) ∧ ∀ v ∈ vs, ∀ h a c, v = .fn h a c → ∃ a' c', .fn h a' c' ∈ ps
 live : Live σ r.2.1
 lst : Lst ρ σ r.2.2
 nd : nodupS r.2.2 = true
 ap : r.2.2.all (fun b => !r.2.1.elem b) = true
theorem deep_fn {p : PV} {h : FuncId} {a c : List PV} {bs : List Nat} (e : deep s p = some (.fn h a c, bs)) : ∃ a' c', p = .fn h a' c' := by
 cases p <;> simp only [deep, deep1, deep0] at e <;> try (cases e; done)
 all_goals (repeat' split at e) <;> first | (cases e; done) | (cases e; exact ⟨_, _, rfl⟩)
theorem deeps_fn : ∀ {ps qs : List PV} {bs : List Nat}, deeps s ps = some (qs, bs) → ∀ q ∈ qs, ∀ h a c, q = .fn h a c → ∃ a' c', .fn h a' c' ∈ ps
 | [], qs, bs, e, q, hq, h, a, c, hh => by cases e; cases hq
 | p :: ps, qs, bs, e, q, hq, h, a, c, hh => by
  unfold deeps at e;split at e
  ·rename_i q0 b0 h0;split at e
   ·rename_i qs0 b1 h1;cases e;rcases List.mem_cons.1 hq with rfl | hq
    ·subst hh;obtain ⟨a', c', e⟩ := deep_fn h0;exact ⟨a', c', by rw [e]; simp⟩
    ·obtain ⟨a', c', hm⟩ := deeps_fn h1 q hq h a c hh;exact ⟨a', c', List.mem_cons_of_mem _ hm⟩
   ·cases e
  ·cases e
theorem argsS_ok (D : Dcf) (hb : Rb I env ρ σ s) {g : FuncId} {ws : List SW} {ps : List PV} (h : F2 (DWσ env ρ σ) ws ps) : Sp env (argsS D σ g ws) (Args D env ρ σ s g ps) := by
 unfold argsS;split
 ·rename_i hl;refine Sp.bind (deepsS_ok hb h) fun r ⟨⟨qs, e1, e2, e3⟩, hv⟩ => .ret ⟨⟨qs, e1, ?_, e3, fun v hv h a c e => deeps_fn e2 v hv h a c e⟩, hv, Lst.nil, rfl, rfl⟩;have : D.C.lent g = none := by show (D.lent g).map _ = none; rw [hl]; rfl
  rw [this];simp only [argsT, e2, argIn, hl]; rfl
 ·rename_i k ts hl;have hlC : D.C.lent g = some (k, ts.map (·.isSome)) := by show (D.lent g).map _ = _; rw [hl]; rfl
  split
  ·exact .fail
  ·rename_i w hw;obtain ⟨p, p1, p2⟩ := h.get k w hw;refine Sp.bind (lendW_ok hb (sl := ts) p2) fun r hr => Sp.bind (deepsS_ok hb (h.set k (.c .nil))) fun q ⟨⟨qs, e1, e2, e3⟩, hv⟩ => ?_;split
   ·rename_i hc;simp only [Bool.and_eq_true] at hc;obtain ⟨t, l1, l2, l3, l4⟩ := hr.h;have hlive := hr.live.append hv;refine .ret ⟨⟨qs.set k (cv t), evs_set l2 k e1, ?_, fun v hv => ?_, fun v hv h a c e => ?_⟩, hlive, hr.lst, hc.1, hc.2⟩
    ·have hlen : k < qs.length := by
      have hk : k < ps.length := (List.getElem?_eq_some_iff.1 p1).1;have : ∀ {ps qs : List PV} {bs : List Nat}, deeps s ps = some (qs, bs) → qs.length = ps.length := by
       intro ps;induction ps with
       | nil => intro qs bs e; cases e; rfl
       | cons p ps ih =>
        intro qs bs e;unfold deeps at e;split at e
        ·split at e
         ·rename_i hqs; cases e; simp [ih hqs]
         ·cases e
        ·cases e
      rw [this e2, List.length_set]; exact hk
     have ea : argIn D g (qs.set k (cv t)) = qs.set k t := by
      unfold argIn;rw [hl];simp only;rw [List.getElem?_set_self hlen];simp only [l4, List.set_set]
     rw [ea, hlC];unfold argsT;simp only [p1, l1, e2, ← blocks_append];rw [if_pos];simp only [Bool.and_eq_true];exact ⟨nodup_ok hb hr.lst.live hc.1, apart_ok hb hr.lst.live hlive hc.2⟩
    ·rcases List.mem_or_eq_of_mem_set hv with hv | rfl
     ·exact e3 v hv
     ·rcases l3 with l3 | ⟨cs, l3, l5⟩
      ·exact .inl l3
      ·exact .inr (.inl ⟨cs, l3, l5⟩)
    ·rcases List.mem_or_eq_of_mem_set hv with hv | rfl
     ·obtain ⟨a', c', hm⟩ := deeps_fn e2 v hv h a c e;rcases List.mem_or_eq_of_mem_set hm with hm | hm
      ·exact ⟨a', c', hm⟩
      ·cases hm
     ·rcases l3 with l3 | ⟨cs, l3, l5⟩
      ·rw [e] at l3; cases l3
      ·rw [e] at l3; cases l3
   ·exact .fail
end
end Go.Sym
namespace Go.Sym
open Go.Abu Go.Pev
section
variable {P : Program} {I : FuncId → Bool} {env : List PV} {ρ : Nat → Option Nat} {σ : SS} {s : St} {f : PF}
inductive OutC : Slot → PV → PV → Prop
 | own {ty : TypeId × Nat} {els : List (List PV)} : OutC (some ty) (.fsl els ty.1 ty.2) (.sl els)
 | tree {v : PV} (h : t0 v = true) : OutC none v v
inductive OutCs : List Slot → List PV → List PV → Prop
 | nil {sl : List Slot} : OutCs sl [] []
 | cons {sl : List Slot} {p v : PV} {ps vs : List PV} (h : OutC (sl.headD none) p v) (t : OutCs sl.tail ps vs) : OutCs sl (p :: ps) (v :: vs)
inductive OutW (P : Program) : TypeId → List Slot → PV → PV → Prop
 | agg {t : TypeId} {sl : List Slot} {ps vs : List PV} (h : isAggT P t = some true) (k : OutCs sl ps vs) : OutW P t sl (.agg ps) (.agg vs)
 | one {t : TypeId} {sl : List Slot} {p v : PV} (h : isAggT P t = some false) (k : OutC (sl.headD none) p v) : OutW P t sl p v
inductive OutWs (P : Program) : List TypeId → List (List Slot) → List PV → List PV → Prop
 | nil {sl : List (List Slot)} : OutWs P [] sl [] []
 | cons {t : TypeId} {tys : List TypeId} {sl : List (List Slot)} {p v : PV} {ps vs : List PV} (h : OutW P t (sl.headD []) p v) (k : OutWs P tys sl.tail ps vs) : OutWs P (t :: tys) sl (p :: ps) (v :: vs)
inductive OutB : List Bool → List (Option (List (List PV))) → List PV → Prop
 | nil : OutB [] [] []
 | back {fl : List Bool} {els : List (List PV)} {l : List (Option (List (List PV)))} {vs : List PV} (h : OutB fl l vs) : OutB (true :: fl) (some els :: l) (.sl els :: vs)
 | gone {fl : List Bool} {l : List (Option (List (List PV)))} {vs : List PV} (h : OutB fl l vs) : OutB (false :: fl) (none :: l) vs
theorem OutC.t0 {sl : Slot} {p v : PV} (h : OutC sl p v) : t0 v = true := by cases h <;> first | rfl | assumption
theorem OutCs.t0 {sl : List Slot} {ps vs : List PV} (h : OutCs sl ps vs) : vs.all t0 = true := by
 induction h with
 | nil => rfl
 | cons h _ ih => simp [h.t0, ih]
theorem OutCs.len {sl : List Slot} {ps vs : List PV} (h : OutCs sl ps vs) : ps.length = vs.length := by
 induction h with
 | nil => rfl
 | cons h _ ih => simp [ih]
theorem OutW.tG {t : TypeId} {sl : List Slot} {p v : PV} (h : OutW P t sl p v) : tG I v = true := by
 cases h with
 | agg _ k => exact k.t0
 | one _ k => have := k.t0; cases v <;> simp [Sym.t0] at this <;> rfl
theorem kill_put {m c : Nat} {e : Ent} (h : m ≠ c) : (s.put m e).kill c = (s.kill c).put m e := by
 unfold St.put St.kill
 congr 1
 funext x
 show (if x = c then none else if x = m then some e else s.m x) = (if x = m then some e else if x = c then none else s.m x)
 by_cases h1 : x = c
 ·subst h1; rw [if_pos rfl, if_neg (fun e => h e.symm), if_pos rfl]
 ·rw [if_neg h1];by_cases h2 : x = m
  ·rw [if_pos h2, if_pos h2]
  ·rw [if_neg h2, if_neg h2, if_neg h1]
theorem killBack_get : ∀ {bs : List Nat} {l : List (Option (List (List PV)))} {s : St} {m : Nat}, m ∉ bs → (killBack s bs l).get m = s.get m
 | [], l, s, m, h => by cases l <;> rfl
 | b :: bs, l, s, m, h => by
  rw [List.mem_cons, not_or] at h;cases l with
  | nil => unfold killBack; rw [killBack_get h.2, St.get_kill, if_neg h.1]
  | cons x l => cases x with
   | none => unfold killBack; rw [killBack_get h.2, St.get_kill, if_neg h.1]
   | some els => unfold killBack; exact killBack_get h.2
theorem killBack_put : ∀ {bs : List Nat} {l : List (Option (List (List PV)))} {s : St} {m : Nat} {e : Ent}, m ∉ bs → killBack (s.put m e) bs l = (killBack s bs l).put m e
 | [], l, s, m, e, h => by cases l <;> rfl
 | b :: bs, l, s, m, e, h => by
  rw [List.mem_cons, not_or] at h;cases l with
  | nil => unfold killBack; rw [kill_put h.1, killBack_put h.2]
  | cons x l => cases x with
   | none => unfold killBack; rw [kill_put h.1, killBack_put h.2]
   | some els => unfold killBack; exact killBack_put h.2
theorem giveBack_none {m : Nat} {bs : List Nat} {l : List (Option (List (List PV)))} : giveBack s (m :: bs) (none :: l) = giveBack (s.kill m) bs l := rfl
theorem giveBack_some {m : Nat} {bs : List Nat} {l : List (Option (List (List PV)))} {els : List (List PV)} {e : Ent} (hg : s.get m = some e) (h : m ∉ bs) : giveBack s (m :: bs) (some els :: l) = giveBack (s.put m { e with els := els }) bs l := by
 unfold giveBack;simp only [killBack, putBack];rw [killBack_get h, hg];simp only;rw [killBack_put h]
def From (env : List PV) (y : Nat) (vs : List PV) : Prop := ∀ i v, vs[i]? = some v → env[y + i]? = some v
theorem From.head {y : Nat} {v : PV} {vs : List PV} (h : From env y (v :: vs)) : env[y]? = some v := h 0 v rfl
theorem From.tail {y : Nat} {v : PV} {vs : List PV} (h : From env y (v :: vs)) : From env (y + 1) vs := fun i u hi => by
 have := h (i + 1) u hi;rw [show y + 1 + i = y + (i + 1) by omega]; exact this
theorem From.left {y : Nat} {vs us : List PV} (h : From env y (vs ++ us)) : From env y vs := fun i u hi => h i u (by
 rw [List.getElem?_append_left (List.getElem?_eq_some_iff.1 hi).1]; exact hi)
theorem From.right {y : Nat} {vs us : List PV} (h : From env y (vs ++ us)) : From env (y + vs.length) us := fun i u hi => by
 have := h (vs.length + i) u (by rw [List.getElem?_append_right (by omega), Nat.add_sub_cancel_left]; exact hi);rw [Nat.add_assoc]; exact this
theorem Nx.trans {ρ' ρ'' : Nat → Option Nat} {σ' σ'' : SS} {s' s'' : St} (h : Nx I env ρ σ ρ' σ' s') (k : Nx I env ρ' σ' ρ'' σ'' s'') : Nx I env ρ σ ρ'' σ'' s'' :=
 ⟨k.rb, h.sx.trans k.sx, k.n.trans h.n, k.tm.trans h.tm, k.fc.trans h.fc, k.sz.trans h.sz⟩
theorem backS_ok : ∀ {bs : List Nat} {fl : List Bool} {l : List (Option (List (List PV)))} {vs : List PV} {y : Nat} {σ : SS} {s : St}, Rb I env ρ σ s → Lst ρ σ bs → nodupS bs = true → OutB fl l vs → From env y vs →
  Sp env (backS σ bs fl y) (fun σ' => Nx I env ρ σ ρ σ' (giveBack s (blocks ρ bs) l))
 | [], fl, l, vs, y, σ, s, hb, hl, hn, ho, hf => by
  unfold backS;have : giveBack s (blocks ρ []) l = s := by
   show putBack (killBack s [] l) [] l = s
   cases l <;> rfl
  rw [this];exact .ret (Nx.refl hb)
 | b :: bs, [], l, vs, y, σ, s, hb, hl, hn, ho, hf => by unfold backS; exact .fail
 | b :: bs, true :: fl, _, _, y, σ, s, hb, hl, hn, .back (els := els) (l := l) (vs := vs) ho, hf => by
  unfold backS;simp only [nodupS, Bool.and_eq_true] at hn;have hnb : b ∉ bs := by simpa using hn.1
  obtain ⟨⟨l0, ty, z, hlk⟩, m, hρ⟩ := hl b (by simp);rw [hlk];simp only;refine Sp.bind Sp.emit fun l' hl' => ?_;obtain ⟨_, hdb⟩ := hb.bl b _ hlk;cases hdb with
  | gh hρ' => rw [hρ] at hρ'; cases hρ'
  | @lst _ _ _ _ _ els0 hρ' hlv hg =>
   rw [hρ] at hρ'; cases hρ';obtain ⟨u, g1, g2⟩ := letIs2 hl' (v := .sl els) hf.head hlv;simp only [RF.ev] at g1;split at g1
   ·rename_i hlen;cases g1;have hlen0 : ∀ n, lenSB env (.lst l' ty z false) = some n → lenSB env (.lst l0 ty z false) = some n := by
     intro n hn;simp only [lenSB, g2] at hn;cases hn;simp only [lenSB, hlv, hlen]
    obtain ⟨r1, r2⟩ := hb.upd (sb' := .lst l' ty z false) (e' := { (⟨els0, ty, z, false, false⟩ : Ent) with els := els }) hlk hρ hg hlen0 fun hx => .lst hρ g2 (by rw [St.get_put, if_pos rfl])
    have hlive : Live σ bs := fun c hc => hl.live c (List.mem_cons_of_mem _ hc);have hmb : m ∉ blocks ρ bs := notMem_blocks hb hlive (by rw [hlk]; rfl) hρ hnb;have eb : blocks ρ (b :: bs) = m :: blocks ρ bs := by simp [blocks, hρ]
    rw [eb, giveBack_some hg hmb];have hl2 : Lst ρ (σ.putB b (.lst l' ty z false)) bs := fun c hc => by
     obtain ⟨⟨l1, t1, z1, h1⟩, h2⟩ := hl c (List.mem_cons_of_mem _ hc);refine ⟨⟨l1, t1, z1, ?_⟩, h2⟩;show look (put σ.bl b _) c = _
     rw [look_put, if_neg (fun e : c = b => hnb (e ▸ hc))];exact h1
    exact (backS_ok r1 hl2 hn.2 ho hf.tail).mono fun σ' k => Nx.trans ⟨r1, r2, rfl, rfl, rfl, rfl⟩ k
   ·cases g1
 | b :: bs, false :: fl, _, _, y, σ, s, hb, hl, hn, .gone (l := l) (vs := vs) ho, hf => by
  unfold backS;simp only [nodupS, Bool.and_eq_true] at hn;have hnb : b ∉ bs := by simpa using hn.1
  obtain ⟨⟨l0, ty, z, hlk⟩, m, hρ⟩ := hl b (by simp);have hkill := hb.kill b (fun m hm => by rw [hlk]; rfl);rw [hρ] at hkill;have eb : blocks ρ (b :: bs) = m :: blocks ρ bs := by simp [blocks, hρ]
  rw [eb, giveBack_none];have hl2 : Lst ρ (σ.kill b) bs := fun c hc => by
   obtain ⟨⟨l1, t1, z1, h1⟩, h2⟩ := hl c (List.mem_cons_of_mem _ hc);refine ⟨⟨l1, t1, z1, ?_⟩, h2⟩;show look (del σ.bl b) c = _
   rw [look_del, if_neg (fun e : c = b => hnb (e ▸ hc))];exact h1
  exact (backS_ok hkill.1 hl2 hn.2 ho hf).mono fun σ' k => Nx.trans ⟨hkill.1, hkill.2, rfl, rfl, rfl, rfl⟩ k
end
end Go.Sym
namespace Go.Sym
open Go.Abu Go.Pev
section
variable {P : Program} {I : FuncId → Bool} {env : List PV} {ρ : Nat → Option Nat} {σ : SS} {s : St} {f : PF}
theorem newL' (hb : Rb I env ρ σ s) {l n : A} {els : List (List PV)} {ty z : Nat} (hl : l.ev env = some (.sl els)) (hn : n.ev env = some (.i64 els.length)) :
  Nx I env ρ σ (up ρ σ.nb s.next) (σ.new (.lst l ty z false)) (s.alloc ⟨els, ty, z, false, false⟩) ∧ DCσ env (up ρ σ.nb s.next) (σ.new (.lst l ty z false)) (.lsl σ.nb (.c (.i64 0)) n) (.lsl s.next 0 els.length) := by
 obtain ⟨k1, k2⟩ := newL hb (ty := ty) (z := z) hl hn;refine ⟨k1, ?_⟩;cases k2 with
 | w h => cases h with
  | c h => exact h
theorem inst1_t0 {v : PV} (h : t0 v = true) : inst1 s v = (s, v) := by cases v <;> simp [t0] at h <;> rfl
theorem resC_ok (hb : Rb I env ρ σ s) {sl : Slot} {c : A} {p v : PV} (hc : c.ev env = some v) (h : OutC sl p v) : Sp env (resC σ sl c) (fun r => ∃ ρ', Nx I env ρ σ ρ' r.2 (inst1 s p).1 ∧ DCσ env ρ' r.2 r.1 (inst1 s p).2) := by
 unfold resC;cases h with
 | @own ty els =>
  refine Sp.bind Sp.emit fun n hn => ?_;obtain ⟨u, h1, h2⟩ := letIs1 hn hc;obtain ⟨els', e1, rfl⟩ := len_spec h1;cases e1;obtain ⟨k1, k2⟩ := newL' hb (ty := ty.1) (z := ty.2) hc h2;exact .ret ⟨_, k1, k2⟩
 | tree h => rw [inst1_t0 h]; exact .ret ⟨ρ, Nx.refl hb, .a hc h (.inl rfl)⟩
theorem resCs_ok {y : A} {vs0 : List PV} (hy : y.ev env = some (.agg vs0)) (ht : vs0.all t0 = true) : ∀ {ts : List Slot} {i : Nat} {ps vs : List PV} {ρ : Nat → Option Nat} {σ : SS} {s : St}, Rb I env ρ σ s → vs0.drop i = vs → OutCs ts ps vs → ps.length = ts.length →
  Sp env (resCs σ y i ts) (fun r => ∃ ρ', Nx I env ρ σ ρ' r.2 (instL s ps).1 ∧ F2 (DCσ env ρ' r.2) r.1 (instL s ps).2)
 | [], i, ps, vs, ρ, σ, s, hb, hd, ho, hl => by
  cases ps with
  | nil => unfold resCs; exact .ret ⟨ρ, Nx.refl hb, .nil⟩
  | cons p ps => simp at hl
 | none :: ts, i, ps0, vs0', ρ, σ, s, hb, hd, ho, hl => by
  unfold resCs;cases ho with
  | nil => simp at hl
  | @cons _ p v ps vs h t =>
  cases h with
  | tree hv =>
   obtain ⟨d1, d2⟩ := drop_cons hd;refine Sp.bind (resCs_ok hy ht hb d2 t (by simpa using hl)) fun r ⟨ρ', k1, k2⟩ => .ret ⟨ρ', ?_, ?_⟩
   ·simp only [instL, inst1_t0 hv]; exact k1
   ·simp only [instL, inst1_t0 hv]; exact .cons (.pc hy d1 ht (.inl rfl)) k2
 | some ty :: ts, i, ps0, vs0', ρ, σ, s, hb, hd, ho, hl => by
  unfold resCs;cases ho with
  | nil => simp at hl
  | @cons _ p v ps vs h t =>
  obtain ⟨d1, d2⟩ := drop_cons hd;cases h with
  | @own _ els =>
   refine Sp.bind Sp.emit fun c hc => Sp.bind Sp.emit fun n hn => ?_;obtain ⟨u0, m1, m2⟩ := letIs1 hc hy;simp only [RF.ev] at m1;rw [d1] at m1; cases m1;obtain ⟨u, h1, h2⟩ := letIs1 hn m2;obtain ⟨els', e1, rfl⟩ := len_spec h1;cases e1;obtain ⟨k1, k2⟩ := newL' hb (ty := ty.1) (z := ty.2) m2 h2;refine Sp.bind (resCs_ok hy ht k1.rb d2 t (by simpa using hl)) fun r ⟨ρ', j1, j2⟩ => .ret ⟨ρ', Nx.trans k1 j1, .cons (k2.step j1.sx) j2⟩
theorem outCs_none : ∀ {ts : List Slot} {ps vs : List PV}, ts.all (·.isNone) = true → OutCs ts ps vs → ps = vs
 | _, _, _, _, .nil => rfl
 | ts, _, _, ha, .cons (p := p) (v := v) h t => by
  have h1 : ts.headD none = none := by
   cases ts with
   | nil => rfl
   | cons a ts => simp only [List.all_cons, Bool.and_eq_true] at ha; simpa using ha.1
  have h2 : ts.tail.all (·.isNone) = true := by
   cases ts with
   | nil => rfl
   | cons a ts => simp only [List.all_cons, Bool.and_eq_true] at ha; exact ha.2
  rw [h1] at h;cases h;rw [outCs_none h2 t]
theorem instL_t0 : ∀ {vs : List PV} {s : St}, vs.all t0 = true → instL s vs = (s, vs)
 | [], s, _ => rfl
 | v :: vs, s, h => by
  simp only [List.all_cons, Bool.and_eq_true] at h;simp only [instL, inst1_t0 h.1, instL_t0 h.2]
theorem inst2_cell {p : PV} (h : ∀ cs, p ≠ .agg cs) : inst2 s p = inst1 s p := by cases p <;> first | rfl | exact absurd rfl (h _)
theorem OutC.cell {sl : Slot} {p v : PV} (h : OutC sl p v) : ∀ cs, p ≠ .agg cs := by
 intro cs e;cases h with
 | own => cases e
 | tree h => subst e; simp [Sym.t0] at h
theorem resW_ok (D : Dcf) (hb : Rb I env ρ σ s) {t : TypeId} {ts : List Slot} {y : Nat} {p v : PV} (hy : env[y]? = some v) (h : OutW D.P t ts p v) : Sp env (resW D σ t ts y) (fun r => ∃ ρ', Nx I env ρ σ ρ' r.2 (inst2 s p).1 ∧ DWσ env ρ' r.2 r.1 (inst2 s p).2) := by
 unfold resW;cases h with
 | @agg ps vs ha ho =>
  rw [ha];simp only;split
  ·rename_i hn;have := outCs_none hn ho;subst this;have e : inst2 s (.agg ps) = (s, .agg ps) := by simp only [inst2, instL_t0 ho.t0]
   rw [e];exact .ret ⟨ρ, Nx.refl hb, .av hy ho.t0 (smc_refl _)⟩
  ·refine Sp.bind (shaped_ok (env := env) (x := .x y) hy) fun y' ⟨s1, s2⟩ => ?_;refine Sp.bind (resCs_ok (I := I) s1 ho.t0 (ts := ts) (i := 0) hb rfl ho (by rw [ho.len, s2])) fun r ⟨ρ', k1, k2⟩ => .ret ⟨ρ', k1, .agg k2⟩
 | one ha ho =>
  rw [ha];simp only;split
  ·exact .fail
  ·rw [inst2_cell ho.cell];exact Sp.bind (resC_ok hb (c := .x y) hy ho) fun r ⟨ρ', k1, k2⟩ => .ret ⟨ρ', k1, .c k2⟩
theorem resWs_ok (D : Dcf) : ∀ {tys : List TypeId} {sl : List (List Slot)} {ps vs : List PV} {y : Nat} {ρ : Nat → Option Nat} {σ : SS} {s : St}, Rb I env ρ σ s → From env y vs → OutWs D.P tys sl ps vs →
  Sp env (resWs D σ tys sl y) (fun r => ∃ ρ', Nx I env ρ σ ρ' r.2 (inst2L s ps).1 ∧ F2 (DWσ env ρ' r.2) r.1 (inst2L s ps).2)
 | _, _, _, _, y, ρ, σ, s, hb, hf, .nil => by unfold resWs; exact .ret ⟨ρ, Nx.refl hb, .nil⟩
 | _, _, _, _, y, ρ, σ, s, hb, hf, .cons h t => by
  unfold resWs;refine Sp.bind (resW_ok D hb hf.head h) fun r ⟨ρ', k1, k2⟩ => Sp.bind (resWs_ok D k1.rb hf.tail t) fun r' ⟨ρ'', j1, j2⟩ => .ret ⟨ρ'', Nx.trans k1 j1, .cons (k2.step j1.sx) j2⟩
theorem OutC.notup {sl : Slot} {p v : PV} (h : OutC sl p v) : ∀ cs, p ≠ .tup cs := by
 intro cs e;cases h with
 | own => cases e
 | tree h => subst e; simp [Sym.t0] at h
theorem outW_tup {t : TypeId} {sl : List Slot} {p v : PV} (h : OutW P t sl p v) : ∀ cs, p ≠ .tup cs := by
 intro cs e;cases h with
 | agg => cases e
 | one _ h => exact h.notup _ e
theorem inst_pack {tys : List TypeId} {sl : List (List Slot)} {ps vs : List PV} (h : OutWs P tys sl ps vs) : inst s (packP ps) = ((inst2L s ps).1, packP (inst2L s ps).2) := by
 cases h with
 | nil => rfl
 | @cons _ _ _ p v ps vs h t =>
  cases t with
  | nil =>
   have : ∀ {p : PV}, (∀ cs, p ≠ .tup cs) → inst s p = inst2 s p := by intro p hp; cases p <;> first | rfl | exact absurd rfl (hp _)
   show inst s p = _
   rw [this (outW_tup h)];rfl
  | cons h2 t => rfl
theorem pack_ok {ws : List SW} {ps : List PV} (h : F2 (DWσ env ρ σ) ws ps) : DVσ env ρ σ (packS ws) (packP ps) := by
 cases h with
 | nil => exact .tup .nil
 | cons h t => cases t with
  | nil => exact .w h
  | cons h2 t => exact .tup (.cons h (.cons h2 t))
end
end Go.Sym
namespace Go.Sym
open Go.Abu Go.Pev
section
variable {C : Cfg}
def LeR (r r' : PRec) : Prop := ∀ bar c f s x, r bar c f s = some x → r' bar c f s = some x
theorem callI_mono {r r' : PRec} (h : LeR r r') {bar : Nat} {g : FuncId} {args : List PV} {up : List LRec} {s : St} {x : PV × List LRec × St} (hc : callI C r bar g args up s = some x) : callI C r' bar g args up s = some x := by
 unfold callI at hc ⊢;split at hc
 ·cases hc
 ·split at hc
  ·rename_i fn hf;split at hc
   ·rename_i c hb;split at hc
    ·rename_i hcond
     try rw [if_pos hcond]
     cases hr : r bar c ⟨fn.ntmps, fun t => args[t]?, up⟩ s with
     | none => rw [hr] at hc; cases hc
     | some y => rw [hr] at hc; rw [h _ _ _ _ _ hr]; exact hc
    ·cases hc
   ·exact hc
  ·cases hc
theorem callT_mono {r r' : PRec} (h : LeR r r') {g : FuncId} {ts : List PV} {x} (hc : callT C r g ts = some x) : callT C r' g ts = some x := by
 unfold callT at hc ⊢;split at hc
 ·exact hc
 ·simp only at hc ⊢;split at hc
  ·rename_i p up s hp;rw [callI_mono h hp]; exact hc
  ·cases hc
theorem callP_mono {r r' : PRec} (h : LeR r r') {bar : Nat} {g : FuncId} {args : List PV} {up : List LRec} {s : St} {x : PV × List LRec × St} (hc : callP C r bar g args up s = some x) : callP C r' bar g args up s = some x := by
 unfold callP at hc ⊢;split at hc
 ·exact callI_mono h hc
 ·split at hc
  ·rename_i ts bs ls ha;split at hc
   ·rename_i hl
    try rw [ha]
    simp only;rw [if_pos hl];cases hr : callT C r g ts with
    | none => rw [hr] at hc; cases hc
    | some y => rw [hr] at hc; rw [callT_mono h hr]; exact hc
   ·cases hc
  ·cases hc
theorem oper_mono {r r' : PRec} (h : LeR r r') {bar : Nat} {ops : Array Oper} {o : Oper} {f : PF} {s : St} {x : PF × St} (hc : oper C r bar ops o f s = some x) : oper C r' bar ops o f s = some x := by
 unfold oper at hc ⊢;split at hc
 ·cases hc
 ·exact hc
 ·split at hc
  ·cases hc
  ·exact hc
  ·rename_i g args hp;split at hc
   ·rename_i p up s' hcall;rw [callP_mono h hcall]; exact hc
   ·cases hc
theorem roundP_mono {r r' : PRec} (h : LeR r r') {bar b : Nat} {args : List PV} {f : PF} {s : St} {x : Bool × PF × St} (hc : roundP r bar b args f s = some x) : roundP r' bar b args f s = some x := by
 unfold roundP at hc ⊢;split at hc
 ·cases hc
 ·split at hc
  ·cases hc
  ·split at hc
   ·rename_i hb
    try rw [if_pos hb]
    split at hc
    ·cases hc
    ·rename_i f0 hf0;split at hc
     ·rename_i f1 s1 h1;rw [h _ _ _ _ _ h1];simp only;split at hc
      ·rename_i e f2 s2 h2;rw [h _ _ _ _ _ h2];exact hc
      ·cases hc
     ·cases hc
   ·cases hc
theorem operY_mono {r r' : PRec} (h : LeR r r') {bar : Nat} {ops : Array Oper} {o : Oper} {f : PF} {s : St} {x : PF × St} (hc : Pev.operY C r bar ops o f s = some x) : Pev.operY C r' bar ops o f s = some x := by
 unfold Pev.operY at hc ⊢;split at hc
 ·split at hc
  ·exact oper_mono h hc
  ·split at hc
   ·rename_i hn
    try rw [if_pos hn]
    exact oper_mono h hc
   ·cases hc
 ·split at hc
  ·cases hc
  ·split at hc
   ·cases hc
   ·rename_i v f1 s1 hr;rw [roundP_mono h hr];exact hc
theorem opers_mono {r r' : PRec} (h : LeR r r') {bar : Nat} {ops : Array Oper} : ∀ {os : List Oper} {f : PF} {s : St} {x : PF × St}, opers C r bar ops os f s = some x → opers C r' bar ops os f s = some x
 | [], f, s, x, hc => hc
 | o :: os, f, s, x, hc => by
  unfold opers at hc ⊢;split at hc
  ·cases hc
  ·rename_i f' s' ho;rw [operY_mono h ho];exact opers_mono h hc
theorem drawnP_mono {r r' : PRec} (h : LeR r r') {bar : Nat} {ops : Array Oper} : ∀ {os : List Oper} {f : PF} {s : St} {x}, drawnP C r bar ops os f s = some x → drawnP C r' bar ops os f s = some x
 | [], f, s, x, hc => hc
 | o :: os, f, s, x, hc => by
  unfold drawnP at hc ⊢;split at hc
  ·cases hc
  ·rename_i f' s' ho;rw [oper_mono h ho];simp only;split at hc
   ·cases hc
   ·rename_i cs y hd;rw [drawnP_mono h hd];exact hc
theorem rangeP_mono {r r' : PRec} (h : LeR r r') {bar : Nat} {x : Operand} {ps : Array Tmp} {as bd : Code} {f : PF} {s : St} {y : AExit × PF × St} (hc : rangeP C r bar x ps as bd f s = some y) : rangeP C r' bar x ps as bd f s = some y := by
 unfold rangeP at hc ⊢;split at hc
 ·split at hc
  ·rename_i hcall;rw [callI_mono h hcall];exact hc
  ·cases hc
 ·cases hc
theorem stepP_mono {r r' : PRec} (h : LeR r r') : LeR (stepP C r) (stepP C r') := by
 intro bar c f s x hc;cases c with
 | region p ops draw =>
  simp only [stepP] at hc ⊢;cases draw with
  | true =>
   simp only at hc ⊢;split at hc
   ·rename_i f' s' hd;have : drawP C r' bar ops f s = some (f', s') := by
     unfold drawP at hd ⊢;split at hd
     ·rename_i hst;split at hd
      ·rename_i cs f1 s1 hdr;rw [if_pos hst, drawnP_mono h hdr];exact hd
      ·cases hd
     ·cases hd
    rw [this]; exact hc
   ·cases hc
  | false =>
   simp only at hc ⊢;split at hc
   ·rename_i ho;rw [opers_mono h ho]; exact hc
   ·cases hc
 | seq a b =>
  simp only [stepP] at hc ⊢;cases ha : r bar a f s with
  | none => rw [ha] at hc; cases hc
  | some y =>
   rw [ha] at hc; rw [h _ _ _ _ _ ha];obtain ⟨e, f', s'⟩ := y;cases e <;> first | exact h _ _ _ _ _ hc | exact hc
 | cond y t e =>
  simp only [stepP] at hc ⊢;split at hc
  ·exact h _ _ _ _ _ hc
  ·cases hc
 | block id b =>
  simp only [stepP] at hc ⊢;cases ha : r bar b f s with
  | none => rw [ha] at hc; cases hc
  | some y => rw [ha] at hc; rw [h _ _ _ _ _ ha]; exact hc
 | loop b =>
  simp only [stepP] at hc ⊢;cases ha : r bar b f s with
  | none => rw [ha] at hc; cases hc
  | some y =>
   rw [ha] at hc; rw [h _ _ _ _ _ ha];obtain ⟨e, f', s'⟩ := y;cases e <;> first | exact h _ _ _ _ _ hc | exact hc
 | scope b => exact h _ _ _ _ _ hc
 | rangeFunc x ps as bd => exact rangeP_mono h hc
 | _ => exact hc
theorem runP_succ : ∀ n, LeR (runP C n) (runP C (n + 1))
 | 0 => fun _ _ _ _ _ h => by cases h
 | n + 1 => stepP_mono (runP_succ n)
theorem runP_mono {n n' : Nat} (h : n ≤ n') : LeR (runP C n) (runP C n') := by
 induction h with
 | refl => exact fun _ _ _ _ _ h => h
 | step _ ih => exact fun _ _ _ _ _ h => runP_succ _ _ _ _ _ _ (ih _ _ _ _ _ h)
end
end Go.Sym
namespace Go.Sym
open Go.Abu Go.Pev
section
variable {P : Program} {I : FuncId → Bool} {env : List PV} {ρ : Nat → Option Nat} {σ : SS} {s : St} {f : PF}
def Ans (D : Dcf) (g : FuncId) (vs rs : List PV) : Prop :=
 (∀ v ∈ vs, ∀ h a c, v = .fn h a c → D.inl h = false) ∧ D.inl g = false ∧
 ∃ n fn ps l us bs, D.P.funcs[g]? = some fn ∧ callT D.C (runP D.C n) g (argIn D g vs) = some (packP ps, l) ∧ OutWs D.P fn.resultTypes.toList (D.slots g) ps us ∧ OutB (D.bk g) l bs ∧ rs = us ++ bs ∧
  (D.ptrs g = false → D.lent g = none → flatR (packP ps) = true)
theorem outB_len {fl : List Bool} {l : List (Option (List (List PV)))} {vs : List PV} (h : OutB fl l vs) : vs.length = (fl.filter id).length := by
 induction h with
 | nil => rfl
 | back _ ih => simp [ih]
 | gone _ ih => simp [ih]
theorem outWs_len {tys : List TypeId} {sl : List (List Slot)} {ps vs : List PV} (h : OutWs P tys sl ps vs) : vs.length = tys.length := by
 induction h with
 | nil => rfl
 | cons _ _ ih => simp [ih]
theorem ans_len {D : Dcf} {g : FuncId} {vs rs : List PV} (h : Ans D g vs rs) : rs.length = resN D g := by
 obtain ⟨_, _, n, fn, ps, l, us, bs, h1, h2, h3, h4, rfl, _⟩ := h;unfold resN;rw [h1, List.length_append, outB_len h4, outWs_len h3];simp
theorem flat_outC {sl : Slot} {p v : PV} {l : List PV} (h : OutC sl p v) (hf : flat (p :: l) = true) : OutC none p v ∧ flat l = true := by
 cases h with
 | own => simp [flat] at hf
 | tree h =>
  refine ⟨.tree h, ?_⟩;cases p <;> simp [flat] at hf <;> exact hf
theorem flat_outCs : ∀ {sl : List Slot} {ps vs : List PV}, OutCs sl ps vs → flat ps = true → OutCs [] ps vs
 | _, _, _, .nil, _ => .nil
 | _, _, _, .cons h t, hf => by
  obtain ⟨h1, h2⟩ := flat_outC h hf;exact .cons h1 (flat_outCs t h2)
theorem flat_outW {t : TypeId} {sl : List Slot} {p v : PV} (h : OutW P t sl p v) (hf : flat p.cells = true) : OutW P t [] p v := by
 cases h with
 | agg ha k => exact .agg ha (flat_outCs k hf)
 | one ha k =>
  have hc := k.cell;have e : p.cells = [p] := by cases p <;> first | rfl | exact absurd rfl (hc _)
  rw [e] at hf;exact .one ha (flat_outC k hf).1
theorem flat_outWs : ∀ {tys : List TypeId} {sl : List (List Slot)} {ps vs : List PV}, OutWs P tys sl ps vs → flatC ps = true → OutWs P tys [] ps vs
 | _, _, _, _, .nil, _ => .nil
 | _, _, _, _, .cons h t, hf => by
  simp only [flatC, Bool.and_eq_true] at hf;exact .cons (flat_outW h hf.1) (flat_outWs t hf.2)
theorem flat_pack {tys : List TypeId} {sl : List (List Slot)} {ps vs : List PV} (h : OutWs P tys sl ps vs) (hf : flatR (packP ps) = true) : flatC ps = true := by
 cases h with
 | nil => rfl
 | @cons _ _ _ p v ps vs h t =>
  cases t with
  | nil =>
   have : ∀ {p : PV}, (∀ cs, p ≠ .tup cs) → flatR p = flat p.cells := by intro p hp; cases p <;> first | rfl | exact absurd rfl (hp _)
   have hf : flatR p = true := hf;rw [this (outW_tup h)] at hf;simp [flatC, hf]
  | cons h2 t => exact hf
theorem outCs_refl : ∀ {ps vs : List PV} {sl : List Slot}, OutCs sl ps vs → sl = [] → ps = vs
 | _, _, _, .nil, _ => rfl
 | _, _, _, .cons h t, e => by
  subst e;cases h;rw [outCs_refl t rfl]
theorem inst2L_none : ∀ {tys : List TypeId} {sl : List (List Slot)} {ps vs : List PV}, OutWs P tys sl ps vs → sl = [] → inst2L s ps = (s, ps)
 | _, _, _, _, .nil, _ => rfl
 | _, _, _, _, .cons h t, e => by
  subst e;have h1 : ∀ {t : TypeId} {p v : PV}, OutW P t [] p v → inst2 s p = (s, p) := by
   intro t p v h;cases h with
   | agg _ k =>
    have := outCs_refl k rfl;subst this;simp only [inst2, instL_t0 k.t0]
   | one _ k =>
    rw [inst2_cell k.cell];cases k with
    | tree h => exact inst1_t0 h
  simp only [inst2L, h1 h, inst2L_none t rfl]
theorem isEmpty_blocks {bs : List Nat} (h : Lst ρ σ bs) : (blocks ρ bs).isEmpty = bs.isEmpty := by
 cases bs with
 | nil => rfl
 | cons b bs =>
  obtain ⟨_, m, hm⟩ := h b (by simp);simp [blocks, hm]
theorem afterS_ok (D : Dcf) (hb : Rb I env ρ σ s) {g : FuncId} {fn : Func} {bs ls : List Nat} {y : Nat} {ps us vs : List PV} {l : List (Option (List (List PV)))} (hfn : D.P.funcs[g]? = some fn) (hl : Live σ bs) (hls : Lst ρ σ ls) (hn : nodupS ls = true) (ha : ls.all (fun b => !bs.elem b) = true)
  (ho : OutWs D.P fn.resultTypes.toList (D.slots g) ps us) (hbk : OutB (D.bk g) l vs) (hf : From env y (us ++ vs)) (hflat : D.ptrs g = false → D.lent g = none → flatR (packP ps) = true) :
  Sp env (afterS D σ g bs ls y) (fun r => ∃ q s' ρ', (if D.C.ptrs g || !(blocks ρ ls).isEmpty then (match inst (giveBack (Pev.freeze s (blocks ρ bs)) (blocks ρ ls) l) (packP ps) with
          | (s1, q) => some (q, s1))
     else if flatR (packP ps) then some (packP ps, s) else none) = some (q, s') ∧ Nx I env ρ σ ρ' r.2 s' ∧ DVσ env ρ' r.2 r.1 q) := by
 unfold afterS;rw [hfn];simp only;rw [isEmpty_blocks hls];have ep : D.C.ptrs g = D.ptrs g := rfl;rw [ep];have elen : fn.resultTypes.size = us.length := by rw [outWs_len ho]; simp
 split
 ·rename_i hp;rw [if_pos hp];obtain ⟨k1, k2, _⟩ := hb.freeze _ hl;have sm := freezeS_same bs σ;have nb := freezeS_nb bs σ;have hnx : Nx I env ρ σ ρ (freezeS σ bs) (Pev.freeze s (blocks ρ bs)) := ⟨k1, by rw [nb]; exact k2, sm.1, sm.2.1, sm.2.2.1, sm.2.2.2.1⟩;have hls' : Lst ρ (freezeS σ bs) ls := fun b hb' => by
   obtain ⟨⟨l0, ty, z, h1⟩, h2⟩ := hls b hb';refine ⟨⟨l0, ty, z, ?_⟩, h2⟩;rw [look_freeze_ne]
   ·exact h1
   ·have := List.all_eq_true.1 ha b hb';simpa using this
  refine Sp.bind (backS_ok k1 hls' hn hbk (by rw [elen]; exact hf.right)) fun σ' hx => ?_;refine Sp.bind (resWs_ok D hx.rb hf.left ho) fun r ⟨ρ', j1, j2⟩ => ?_;refine .ret ⟨_, _, ρ', by rw [inst_pack ho], Nx.trans (Nx.trans hnx hx) j1, pack_ok j2⟩
 ·rename_i hp;simp only [Bool.or_eq_false_iff] at hp;split
  ·rename_i hlent;have hfl := hflat hp.1 hlent;rw [if_neg (by simp [hp]), if_pos hfl];have ho' := flat_outWs ho (flat_pack ho hfl);refine Sp.bind (resWs_ok D hb hf.left ho') fun r ⟨ρ', j1, j2⟩ => ?_;rw [inst2L_none ho' rfl] at j1 j2;exact .ret ⟨_, _, ρ', rfl, j1, pack_ok j2⟩
  ·exact .fail
theorem inlP_false {C : Cfg} {g : FuncId} (hg : C.inl g = false) : ∀ {ps : List PV}, (∀ h a c, .fn h a c ∈ ps → C.inl h = false) → inlP C g ps = false
 | [], _ => hg
 | p :: ps, h => by
  have ih := inlP_false hg (ps := ps) fun h' a c hm => h h' a c (List.mem_cons_of_mem _ hm);cases p with
  | fn k a c => simp only [inlP, h k a c (by simp), ih, Bool.or_false]
  | _ => exact ih
theorem inlP_true {C : Cfg} {g : FuncId} : ∀ {ps : List PV}, (C.inl g = true ∨ ∃ h a c, .fn h a c ∈ ps ∧ C.inl h = true) → inlP C g ps = true
 | [], h => by
  rcases h with h | ⟨_, _, _, h, _⟩
  ·exact h
  ·cases h
 | p :: ps, h => by
  have ih := inlP_true (g := g) (C := C) (ps := ps);cases p with
  | fn k a c =>
   simp only [inlP, Bool.or_eq_true];rcases h with h | ⟨h', a', c', hm, hi⟩
   ·exact .inr (ih (.inl h))
   ·rcases List.mem_cons.1 hm with e | hm
    ·cases e; exact .inl hi
    ·exact .inr (ih (.inr ⟨h', a', c', hm, hi⟩))
  | _ =>
   refine ih ?_;rcases h with h | ⟨h', a', c', hm, hi⟩
   ·exact .inl h
   ·rcases List.mem_cons.1 hm with e | hm
    ·cases e
    ·exact .inr ⟨h', a', c', hm, hi⟩
theorem inlS_true {D : Dcf} {g : FuncId} {ws : List SW} {ps : List PV} (h : F2 (DWσ env ρ σ) ws ps) (hi : inlS D g ws = true) : inlP D.C g ps = true := by
 refine inlP_true ?_;simp only [inlS, Bool.or_eq_true] at hi;rcases hi with hi | hi
 ·exact .inl hi
 ·right
  induction h with
  | nil => simp at hi
  | cons hw t ih =>
   simp only [List.any_cons, Bool.or_eq_true] at hi;rcases hi with hi | hi
   ·unfold fnInl at hi;split at hi
    ·rcases hw.cell with h | ⟨_, _, _, _, e, _⟩
     ·cases h; exact ⟨_, _, _, List.mem_cons_self .., hi⟩
     ·cases e
    ·cases hi
   ·obtain ⟨h', a, c, hm, hh⟩ := ih hi;exact ⟨h', a, c, List.mem_cons_of_mem _ hm, hh⟩
end
end Go.Sym
namespace Go.Sym
open Go.Abu Go.Pev
section
variable {P : Program} {I : FuncId → Bool} {env : List PV} {ρ : Nat → Option Nat} {σ : SS} {s : St} {f : PF}
theorem freeze_get_ne : ∀ (bs : List Nat) (S : St) (b : Nat), b ∉ bs → (Pev.freeze S bs).get b = S.get b
 | [], _, _, _ => rfl
 | c :: bs, S, b, h => by
  rw [List.mem_cons, not_or] at h;unfold Pev.freeze;split
  ·rw [freeze_get_ne bs _ b h.2, St.get_put, if_neg h.1]
  ·exact freeze_get_ne bs S b h.2
theorem freeze_get_mem : ∀ (bs : List Nat) (S : St) (b : Nat) (e : Ent), b ∈ bs → S.get b = some e → (Pev.freeze S bs).get b = some { e with fz := true }
 | [], _, _, _, h, _ => by cases h
 | c :: bs, S, b, e, h, he => by
  unfold Pev.freeze;by_cases hb : b ∈ bs
  ·split
   ·rename_i e' he';by_cases hc : b = c
    ·subst hc;rw [he] at he'; cases he';rw [freeze_get_mem bs _ b { e with fz := true } hb (by rw [St.get_put, if_pos rfl])]
    ·exact freeze_get_mem bs _ b e hb (by rw [St.get_put, if_neg hc]; exact he)
   ·exact freeze_get_mem bs S b e hb he
  ·have hc : b = c := by
    rcases List.mem_cons.1 h with h | h
    ·exact h
    ·exact absurd h hb
   subst hc;rw [he];simp only;rw [freeze_get_ne bs _ b hb, St.get_put, if_pos rfl]
structure E0 (env : List PV) (ρ : Nat → Option Nat) (σ : SS) (s : St) (sl : Slot) (p : PV) (r : A × List Nat × List Nat) : Prop where
 h : ∃ q v, thaw1 sl p = blocks ρ r.2.2 ∧ r.1.ev env = some v ∧ t0 v = true ∧ (noSlp v = true → OutC sl q v ∧
  ∀ F : List Nat, (∀ b ∈ r.2.2, b ∈ F) → (∀ b ∈ r.2.1, b ∉ F) → Live σ F → shut1 (Pev.freeze s (blocks ρ F)) sl p = some (q, blocks ρ r.2.1))
 own : Live σ r.2.1
 live : Live σ r.2.2
theorem mem_blocks {F : List Nat} {b m : Nat} (h : b ∈ F) (hρ : ρ b = some m) : m ∈ blocks ρ F := List.mem_filterMap.2 ⟨b, h, hρ⟩
theorem deep0_thaw {p q : PV} {bs : List Nat} (h : deep0 s p = some (q, bs)) : thaw1 none p = bs := by
 cases p <;> simp only [deep0] at h <;> try (first | (cases h; done) | (cases h; rfl))
 ·split at h
  ·split at h
   ·cases h; rfl
   ·cases h
  ·cases h
 ·(repeat' split at h) <;> first | (cases h; done) | (cases ‹PV.fn _ _ _ = _›; done) | (cases ‹PV.fn _ _ _ = _›; cases h; rfl) | (cases h; rfl)
theorem deep0_shut {p q : PV} {bs F : List Nat} (h : deep0 s p = some (q, bs)) (ht : t0 q = true) (hn : noSlp q = true) (hF : ∀ m ∈ bs, m ∈ F) : shut1 (Pev.freeze s F) none p = some (q, []) := by
 cases p <;> simp only [deep0] at h <;> try (first | (cases h; done) | (cases h; rfl) | (cases h; simp [noSlp] at hn; done))
 ·split at h
  ·rename_i e he;split at h
   ·rename_i hc;cases h;simp only [shut1];rw [freeze_get_mem F s _ e (hF _ (by simp)) he];simp only;rw [if_pos ⟨hc.1, trivial, hc.2⟩]
   ·cases h
  ·cases h
 ·(repeat' split at h) <;> first | (cases h; done) | (cases ‹PV.fn _ _ _ = _›; done) | (cases ‹PV.fn _ _ _ = _›; cases h; rfl) | (cases h; rfl)
theorem retC_ok' (hb : Rb I env ρ σ s) {sl : Slot} {c : SC} {p : PV} (h : DWσ env ρ σ (.c c) p) : Sp env (retC' σ sl c) (E0 env ρ σ s sl p) := by
 unfold retC';split
 ·rename_i ty;split
  ·rcases h.cell with h | ⟨_, _, _, _, e, _⟩
   rotate_left
   ·cases e
   cases h;exact .ret ⟨⟨.fsl [] ty.1 ty.2, .sl [], rfl, rfl, rfl, fun _ => ⟨.own, fun F _ _ _ => rfl⟩⟩, Live.nil, Live.nil⟩
  ·rename_i b o n;rcases h.cell with h | ⟨_, _, _, _, e, _⟩
   rotate_left
   ·cases e
   split
   ·rename_i l t z hlk;split
    ·rename_i hc;simp only [Bool.and_eq_true] at hc;obtain ⟨⟨c1, c3⟩, c4⟩ := hc;have c3 := Nat.eq_of_beq_eq_true c3;have c4 := Nat.eq_of_beq_eq_true c4;refine Sp.bind Sp.emit fun y hy => ?_;obtain ⟨_, hdb⟩ := hb.bl b _ hlk;have hown : Live σ [b] := fun b' hb' => by simp at hb'; subst hb'; rw [hlk]; rfl
     cases h with
     | gh hρ hlt ho hn =>
      cases hdb with
      | lst hρ' _ _ => rw [hρ] at hρ'; cases hρ'
      | gh hρ' hlv =>
       obtain ⟨u, g1, g2⟩ := letIs3 hy hlv ho hn;simp only [RF.ev] at g1;split at g1
       ·cases g1;refine .ret ⟨⟨.fsl [] ty.1 ty.2, .sl [], rfl, by simpa using g2, rfl, fun _ => ⟨.own, fun F _ _ _ => ?_⟩⟩, hown, Live.nil⟩
        simp only [shut1, blocks, List.filterMap_cons, hρ, List.filterMap_nil]
       ·cases g1
     | @lsl _ m _ _ oi ni hρ hlt ho hn hlen =>
      cases hdb with
      | gh hρ' => rw [hρ] at hρ'; cases hρ'
      | @lst _ _ _ _ _ els hρ' hlv hg =>
       rw [hρ] at hρ'; cases hρ';obtain ⟨u, g1, g2⟩ := letIs3 hy hlv ho hn;simp only [RF.ev] at g1;split at g1
       ·rename_i hcond;cases g1;have h0 := isZero_eq c1 ho;have h0' : oi = 0 := by omega
        subst h0';refine .ret ⟨⟨.fsl (els.take ni) ty.1 ty.2, .sl (els.take ni), rfl, by simpa using g2, rfl, fun _ => ⟨.own, fun F _ hF hl => ?_⟩⟩, hown, Live.nil⟩
        have hm : m ∉ blocks ρ F := notMem_blocks hb hl (by rw [hlk]; rfl) hρ (hF b (by simp));simp only [shut1, freeze_get_ne _ _ _ hm, hg, blocks, List.filterMap_cons, hρ, List.filterMap_nil];rw [if_pos ⟨trivial, by have := hcond.2.2; omega, trivial, trivial, c3, c4⟩]
       ·cases g1
    ·exact .fail
   ·exact .fail
  ·exact .fail
 ·refine Sp.bind (deep0S_w hb h) fun r ⟨⟨q, q1, q2, q3⟩, hl⟩ => .ret ⟨⟨q, q, ?_, q2, q3, fun hn => ⟨.tree q3, fun F hF _ hlF => ?_⟩⟩, Live.nil, hl⟩
  ·exact deep0_thaw q1
  ·refine deep0_shut q1 q3 hn fun m hm => ?_;obtain ⟨b, h1, h2⟩ := List.mem_filterMap.1 hm;exact mem_blocks (hF b h1) h2
structure E1 (env : List PV) (ρ : Nat → Option Nat) (σ : SS) (s : St) (sl : List Slot) (ps : List PV) (r : List A × List Nat × List Nat) : Prop where
 h : ∃ qs vs, thawL sl ps = blocks ρ r.2.2 ∧ evs env r.1 = some vs ∧ vs.all t0 = true ∧ vs.length = ps.length ∧ (vs.all noSlp = true → OutCs sl qs vs ∧
  ∀ F : List Nat, (∀ b ∈ r.2.2, b ∈ F) → (∀ b ∈ r.2.1, b ∉ F) → Live σ F → shutL (Pev.freeze s (blocks ρ F)) sl ps = some (qs, blocks ρ r.2.1))
 own : Live σ r.2.1
 live : Live σ r.2.2
theorem retCs_ok (hb : Rb I env ρ σ s) : ∀ {cs : List SC} {ps : List PV} {sl : List Slot}, F2 (DCσ env ρ σ) cs ps → Sp env (retCs σ sl cs) (E1 env ρ σ s sl ps)
 | _, _, sl, .nil => by
  unfold retCs;refine .ret ⟨⟨[], [], ?_, rfl, rfl, rfl, fun _ => ⟨.nil, fun F _ _ _ => ?_⟩⟩, Live.nil, Live.nil⟩
  ·cases sl <;> rfl
  ·cases sl <;> rfl
 | _, _, sl, .cons h t => by
  unfold retCs;refine Sp.bind (retC_ok' hb (.c h)) fun a ha => Sp.bind (retCs_ok hb t) fun as has => ?_;obtain ⟨q, v, h1, h2, h3, h4⟩ := ha.h;obtain ⟨qs, vs, k1, k2, k3, kl, k4⟩ := has.h;refine .ret ⟨⟨q :: qs, v :: vs, ?_, evs_cons h2 k2, by simp only [List.all_cons, h3, k3, Bool.and_self], by simp [kl], fun hn => ?_⟩, ha.own.append has.own, ha.live.append has.live⟩
  ·unfold thawL;rw [h1, k1, blocks_append]
  ·simp only [List.all_cons, Bool.and_eq_true] at hn;obtain ⟨m1, m2⟩ := h4 hn.1;obtain ⟨n1, n2⟩ := k4 hn.2;refine ⟨.cons m1 n1, fun F hF hF' hl => ?_⟩;unfold shutL;rw [m2 F (fun b hb => hF b (List.mem_append_left _ hb)) (fun b hb => hF' b (List.mem_append_left _ hb)) hl];simp only;rw [n2 F (fun b hb => hF b (List.mem_append_right _ hb)) (fun b hb => hF' b (List.mem_append_right _ hb)) hl];simp only [blocks_append]
structure E2 (D : Dcf) (env : List PV) (ρ : Nat → Option Nat) (σ : SS) (s : St) (t : TypeId) (sl : List Slot) (p : PV) (r : A × List Nat × List Nat) : Prop where
 h : ∃ q v, thaw2 sl p = blocks ρ r.2.2 ∧ r.1.ev env = some v ∧ (v.cells.all noSlp = true → OutW D.P t sl q v ∧
  ∀ F : List Nat, (∀ b ∈ r.2.2, b ∈ F) → (∀ b ∈ r.2.1, b ∉ F) → Live σ F → shut2 (Pev.freeze s (blocks ρ F)) sl p = some (q, blocks ρ r.2.1))
 own : Live σ r.2.1
 live : Live σ r.2.2
theorem headD_none {ts : List Slot} (h : ts.all (·.isNone) = true) : ts.headD none = none ∧ ts.tail.all (·.isNone) = true := by
 cases ts with
 | nil => exact ⟨rfl, rfl⟩
 | cons a ts =>
  simp only [List.all_cons, Bool.and_eq_true] at h;exact ⟨by simpa using h.1, h.2⟩
theorem deep0L_shut : ∀ {ps qs : List PV} {bs F : List Nat} {ts : List Slot}, ts.all (·.isNone) = true → deep0L s ps = some (qs, bs) → thawL ts ps = bs ∧ (qs.all t0 = true → qs.all noSlp = true → (∀ m ∈ bs, m ∈ F) → shutL (Pev.freeze s F) ts ps = some (qs, []) ∧ OutCs ts qs qs)
 | [], qs, bs, F, ts, hts, h => by
  cases h;exact ⟨by cases ts <;> rfl, fun _ _ _ => ⟨by cases ts <;> rfl, .nil⟩⟩
 | p :: ps, qs, bs, F, ts, hts, h => by
  obtain ⟨t1, t2⟩ := headD_none hts;unfold deep0L at h;split at h
  ·rename_i q b1 hq;split at h
   ·rename_i qs' b2 hqs;cases h;obtain ⟨k1, k2⟩ := deep0L_shut (F := F) t2 hqs;refine ⟨?_, fun ht hn hF => ?_⟩
    ·unfold thawL;rw [t1, deep0_thaw hq, k1]
    ·simp only [List.all_cons, Bool.and_eq_true] at ht hn;obtain ⟨m1, m2⟩ := k2 ht.2 hn.2 fun m hm => hF m (List.mem_append_right _ hm);refine ⟨?_, .cons (by rw [t1]; exact .tree ht.1) m2⟩;unfold shutL;rw [t1, deep0_shut hq ht.1 hn.1 fun m hm => hF m (List.mem_append_left _ hm)];simp only;rw [m1];rfl
   ·cases h
  ·cases h
theorem deep0L_nil : ∀ {qs : List PV} {ts : List Slot}, ts.all (·.isNone) = true → qs.all t0 = true → OutCs ts qs qs
 | [], _, _, _ => .nil
 | q :: qs, ts, h, ht => by
  obtain ⟨t1, t2⟩ := headD_none h;simp only [List.all_cons, Bool.and_eq_true] at ht;exact .cons (by rw [t1]; exact .tree ht.1) (deep0L_nil t2 ht.2)
theorem deep0L_len : ∀ {ps vs : List PV} {a : List Nat}, deep0L s ps = some (vs, a) → vs.length = ps.length
 | [], vs, a, h => by cases h; rfl
 | p :: ps, vs, a, h => by
  unfold deep0L at h;split at h
  ·split at h
   ·rename_i hqs; cases h; simp [deep0L_len hqs]
   ·cases h
  ·cases h
theorem retW_ok (D : Dcf) (hb : Rb I env ρ σ s) {t : TypeId} {ag : Bool} {sl : List Slot} {w : SW} {p : PV} (ha : isAggT D.P t = some ag) (h : DWσ env ρ σ w p) : Sp env (retW σ ag sl w) (E2 D env ρ σ s t sl p) := by
 unfold retW;split
 ·split
  ·rename_i cs;cases h with
   | @agg _ ps hcs =>
   split
   ·rename_i hsl;refine Sp.bind (deep0Ls_ok hb _ hcs) fun r hr => ?_;obtain ⟨vs, e1, e2, e3⟩ := hr.h;have hlen : (vs.flatMap PV.cells).length = cs.length := by rw [deep0L_len e2, hcs.len]
    have ev : ∀ us v, evs env r.1 = some us → RF.agg.ev us = some v → v = .agg (vs.flatMap PV.cells) := by
     intro us v h1 h2;rw [e1] at h1; cases h1;simp only [RF.ev] at h2;rw [if_pos e3] at h2;cases h2; rfl
    refine Sp.bind (Sp.emitN fun us v h1 h2 => ⟨_, ev us v h1 h2, hlen⟩) fun y ⟨us, v, h1, h2, h3⟩ => ?_;have e := ev us v h1 h2;subst e;refine .ret ⟨⟨.agg (vs.flatMap PV.cells), .agg (vs.flatMap PV.cells), (deep0L_shut (F := []) hsl e2).1, h3, fun hn => ?_⟩, Live.nil, hr.live⟩;refine ⟨.agg ha (deep0L_nil hsl e3), fun F hF hF' hl => ?_⟩;obtain ⟨m1, m2⟩ := (deep0L_shut (F := blocks ρ F) hsl e2).2 e3 hn fun m hm => by
     obtain ⟨b, h1, h2⟩ := List.mem_filterMap.1 hm;exact mem_blocks (hF b h1) h2
    simp only [shut2, m1]; rfl
   ·refine Sp.bind (retCs_ok hb hcs) fun r hr => ?_;obtain ⟨qs, vs, k1, k2, k3, kl, k4⟩ := hr.h;have ev : ∀ us v, evs env r.1 = some us → RF.agg.ev us = some v → v = .agg vs := by
     intro us v h1 h2;rw [k2] at h1; cases h1;simp only [RF.ev, flatMap_t0 k3] at h2;rw [if_pos k3] at h2;cases h2; rfl
    refine Sp.bind (Sp.emitN fun us v h1 h2 => ⟨_, ev us v h1 h2, by rw [kl, hcs.len]⟩) fun y ⟨us, v, h1, h2, h3⟩ => ?_;have e := ev us v h1 h2;subst e;refine .ret ⟨⟨.agg qs, .agg vs, by simp only [thaw2]; exact k1, h3, fun hn => ?_⟩, hr.own, hr.live⟩;obtain ⟨m1, m2⟩ := k4 hn;refine ⟨.agg ha m1, fun F hF hF' hl => ?_⟩;simp only [shut2, m2 F hF hF' hl]
  ·rename_i x;cases h with
   | @av _ cs ps hx ht hs =>
   split
   ·rename_i hsl;have e2 := deep0L_smc (s := s) hs ht;refine .ret ⟨⟨.agg cs, .agg cs, (deep0L_shut (F := []) hsl e2).1, hx, fun hn => ?_⟩, Live.nil, Live.nil⟩;refine ⟨.agg ha (deep0L_nil hsl ht), fun F hF hF' hl => ?_⟩;obtain ⟨m1, m2⟩ := (deep0L_shut (F := blocks ρ F) hsl e2).2 ht hn fun m hm => by cases hm
    simp only [shut2, m1]; rfl
   ·exact .fail
  ·exact .fail
 ·split
  ·rename_i c;refine (retC_ok' hb (sl := sl.headD none) h).mono fun r hr => ?_;obtain ⟨q, v, h1, h2, h3, h4⟩ := hr.h;have hc := dw_cell h;have e1 : thaw2 sl p = thaw1 (sl.headD none) p := by cases p <;> first | rfl | exact absurd rfl (hc _)
   have e2 : ∀ S, shut2 S sl p = shut1 S (sl.headD none) p := by intro S; cases p <;> first | rfl | exact absurd rfl (hc _)
   refine ⟨⟨q, v, by rw [e1]; exact h1, h2, fun hn => ?_⟩, hr.own, hr.live⟩;obtain ⟨m1, m2⟩ := h4 (by rw [cells_t0 h3] at hn; simpa using hn)
   exact ⟨.one ha m1, fun F hF hF' hl => by rw [e2]; exact m2 F hF hF' hl⟩
  ·exact .fail
end
end Go.Sym
namespace Go.Sym
open Go.Abu Go.Pev
section
variable {P : Program} {I : FuncId → Bool} {env : List PV} {ρ : Nat → Option Nat} {σ : SS} {s : St} {f : PF}
structure E3 (D : Dcf) (env : List PV) (ρ : Nat → Option Nat) (σ : SS) (s : St) (tys : List TypeId) (sl : List (List Slot)) (ps : List PV) (r : List A × List Nat × List Nat) : Prop where
 h : ∃ qs vs, thaw2L sl ps = blocks ρ r.2.2 ∧ evs env r.1 = some vs ∧ ((∀ v ∈ vs, v.cells.all noSlp = true) → OutWs D.P tys sl qs vs ∧
  ∀ F : List Nat, (∀ b ∈ r.2.2, b ∈ F) → (∀ b ∈ r.2.1, b ∉ F) → Live σ F → shut2L (Pev.freeze s (blocks ρ F)) sl ps = some (qs, blocks ρ r.2.1))
 own : Live σ r.2.1
 live : Live σ r.2.2
theorem retWs_ok (D : Dcf) (hb : Rb I env ρ σ s) : ∀ {tys : List TypeId} {sl : List (List Slot)} {ws : List SW} {ps : List PV}, F2 (DWσ env ρ σ) ws ps → Sp env (retWs D σ tys sl ws) (E3 D env ρ σ s tys sl ps)
 | [], sl, _, _, .nil => by
  unfold retWs;refine .ret ⟨⟨[], [], ?_, rfl, fun _ => ⟨.nil, fun F _ _ _ => ?_⟩⟩, Live.nil, Live.nil⟩
  ·cases sl <;> rfl
  ·cases sl <;> rfl
 | [], sl, _, _, .cons h t => by unfold retWs; exact .fail
 | ty :: tys, sl, _, _, .nil => by unfold retWs; exact .fail
 | ty :: tys, sl, _, _, .cons h t => by
  unfold retWs;split
  ·rename_i ag ha;refine Sp.bind (retW_ok D hb (sl := sl.headD []) ha h) fun a ha => Sp.bind (retWs_ok D hb t) fun as has => ?_;obtain ⟨q, v, h1, h2, h4⟩ := ha.h;obtain ⟨qs, vs, k1, k2, k4⟩ := has.h;refine .ret ⟨⟨q :: qs, v :: vs, ?_, evs_cons h2 k2, fun hn => ?_⟩, ha.own.append has.own, ha.live.append has.live⟩
   ·unfold thaw2L;rw [h1, k1, blocks_append]
   ·obtain ⟨m1, m2⟩ := h4 (hn v (by simp));obtain ⟨n1, n2⟩ := k4 fun v hv => hn v (List.mem_cons_of_mem _ hv);refine ⟨.cons m1 n1, fun F hF hF' hl => ?_⟩;unfold shut2L;rw [m2 F (fun b hb => hF b (List.mem_append_left _ hb)) (fun b hb => hF' b (List.mem_append_left _ hb)) hl];simp only;rw [n2 F (fun b hb => hF b (List.mem_append_right _ hb)) (fun b hb => hF' b (List.mem_append_right _ hb)) hl];simp only [blocks_append]
  ·exact .fail
theorem readS_ok (hb : Rb I env ρ σ s) (ht : Rtσ env ρ σ f) : ∀ {rs : List ResultVar}, Sp env (readS P σ rs) (fun ws => ∃ ps, resP P s f rs = some ps ∧ F2 (DWσ env ρ σ) ws ps)
 | [] => .ret ⟨[], rfl, .nil⟩
 | .tmp t :: rs => by
  unfold readS;split
  ·rename_i v hv;obtain ⟨p, p1, p2⟩ := ht.tm t v hv;have p3 := known_ok hb p2;split
   ·rename_i w hw;rw [hw] at p3;cases p3 with
    | w p3 =>
    refine Sp.bind (readS_ok hb ht) fun l ⟨ps, l1, l2⟩ => .ret ⟨p :: ps, ?_, .cons p3 l2⟩;have p1 : f.get t = some p := p1;simp only [resP, p1, l1]
   ·exact .fail
  ·exact .fail
 | .cell a t :: rs => by
  unfold readS;split
  ·rename_i c hv;obtain ⟨p, p1, p2⟩ := ht.tm a _ hv;cases p2 with
   | w p2 =>
   rcases p2.cell with p2 | ⟨x, g, a', e, rfl, _⟩
   ·refine Sp.bind (loadS_ok (P := P) hb p2) fun w ⟨q, q1, q2⟩ => Sp.bind (readS_ok hb ht) fun l ⟨ps, l1, l2⟩ => .ret ⟨q :: ps, ?_, .cons q2 l2⟩;have p1 : f.get a = some p := p1;simp only [resP, p1, q1, l1]
   ·exact Sp.bind (P := fun _ => False) Sp.fail fun _ h => h.elim
  ·exact .fail
theorem flatS_ok : ∀ {b : Bool} {as : List A} {vs : List PV}, evs env as = some vs → Sp env (flatS b as) (fun as' => evs env as' = some vs ∧ ∀ v ∈ vs, (b = true → flat v.cells = true) ∧ (b = false → v.cells.all noSlp = true))
 | b, [], vs, h => by cases h; exact .ret ⟨rfl, fun v hv => by cases hv⟩
 | b, a :: as, vs, h => by
  unfold evs at h;split at h
  ·rename_i v hv;split at h
   ·rename_i vs' hvs;cases h;unfold flatS;refine Sp.bind Sp.emit fun a' ha' => Sp.bind (flatS_ok (b := b) hvs) fun as' ⟨k1, k2⟩ => ?_;obtain ⟨u, h1, h2⟩ := letIs1 ha' hv;cases b with
    | true =>
     simp only [RF.ev] at h1;split at h1
     ·rename_i hf;cases h1;refine .ret ⟨evs_cons h2 k1, fun w hw => ?_⟩;rcases List.mem_cons.1 hw with rfl | hw
      ·exact ⟨fun _ => hf, fun e => Bool.noConfusion e⟩
      ·exact k2 w hw
     ·cases h1
    | false =>
     simp only [RF.ev] at h1;split at h1
     ·rename_i hf;cases h1;refine .ret ⟨evs_cons h2 k1, fun w hw => ?_⟩;rcases List.mem_cons.1 hw with rfl | hw
      ·exact ⟨fun e => Bool.noConfusion e, fun _ => hf⟩
      ·exact k2 w hw
     ·cases h1
   ·cases h
  ·cases h
theorem flat_noSlp : ∀ {l : List PV}, flat l = true → l.all noSlp = true
 | [], _ => rfl
 | p :: l, h => by
  cases p <;> simp only [flat] at h <;> first | (cases h; done) | (simp only [List.all_cons, noSlp, flat_noSlp h, Bool.and_self])
theorem backs_snoc {bs : List Nat} {k : Nat} {l : List (Option (List (List PV)))} {x : Option (List (List PV))} (h : backs s bs k = some l) (hx : match s.get k with | some e => (bs.elem k = true ∧ x = none) ∨ (bs.elem k = false ∧ e.fz = false ∧ x = some e.els) | none => x = none) : backs s bs (k + 1) = some (l ++ [x]) := by
 unfold backs;rw [h];simp only;cases hg : s.get k with
 | none => rw [hg] at hx; simp only at hx ⊢; rw [hx]
 | some e =>
  rw [hg] at hx;simp only at hx ⊢;rcases hx with ⟨h1, rfl⟩ | ⟨h1, h2, rfl⟩
  ·rw [if_pos h1]
  ·rw [if_neg (by rw [h1]; simp), if_pos h2]
theorem outB_snoc_true {fl : List Bool} {l : List (Option (List (List PV)))} {vs : List PV} (h : OutB fl l vs) (els : List (List PV)) : OutB (fl ++ [true]) (l ++ [some els]) (vs ++ [.sl els]) := by
 induction h with
 | nil => exact .back .nil
 | back _ ih => exact .back ih
 | gone _ ih => exact .gone ih
theorem outB_snoc_false {fl : List Bool} {l : List (Option (List (List PV)))} {vs : List PV} (h : OutB fl l vs) : OutB (fl ++ [false]) (l ++ [none]) vs := by
 induction h with
 | nil => exact .gone .nil
 | back _ ih => exact .back ih
 | gone _ ih => exact .gone ih
theorem mem_own (hb : Rb I env ρ σ s) {own : List Nat} {b m : Nat} (hl : Live σ own) (hlb : (look σ.bl b).isSome = true) (hρ : ρ b = some m) : (blocks ρ own).elem m = own.elem b := by
 by_cases h : b ∈ own
 ·have := mem_blocks h hρ;simp [this, h]
 ·have := notMem_blocks hb hl hlb hρ h;simp [this, h]
theorem lastS_ok (hb : Rb I env ρ σ s) {own : List Nat} (hl : Live σ own) : ∀ {fl : List Bool} {k : Nat} {as : List A} {fl0 : List Bool} {l0 : List (Option (List (List PV)))} {vs0 : List PV}, lastS σ own fl k = some as → backs s (blocks ρ own) k = some l0 → OutB fl0 l0 vs0 →
  ∃ l vs, backs s (blocks ρ own) (k + fl.length) = some l ∧ OutB (fl0 ++ fl) l (vs0 ++ vs) ∧ evs env as = some vs
 | [], k, as, fl0, l0, vs0, h, hk, ho => by cases h; exact ⟨l0, [], hk, by simpa using ho, rfl⟩
 | true :: fl, k, as, fl0, l0, vs0, h, hk, ho => by
  unfold lastS at h;split at h
  ·rename_i b hle;split at h
   ·rename_i l ty z hlk;split at h
    ·cases h
    ·rename_i hown;split at h
     ·rename_i r hr;cases h;obtain ⟨hρ, _⟩ := hb.le _ (look_mem hle);obtain ⟨_, hdb⟩ := hb.bl b _ hlk;cases hdb with
      | gh hρ' => rw [hρ] at hρ'; cases hρ'
      | @lst _ _ _ _ _ els hρ' hlv hg =>
       rw [hρ] at hρ'; cases hρ';have hm := mem_own hb hl (by rw [hlk]; rfl) hρ;rw [hown] at hm;have := backs_snoc (x := some els) hk (by rw [hg]; exact .inr ⟨hm, rfl, rfl⟩);obtain ⟨l', vs', h1, h2, h3⟩ := lastS_ok hb hl hr this (outB_snoc_true ho els);refine ⟨l', .sl els :: vs', by rw [List.length_cons, ← h1]; congr 1; omega, ?_, evs_cons hlv h3⟩;simpa using h2
     ·cases h
   ·cases h
  ·cases h
 | false :: fl, k, as, fl0, l0, vs0, h, hk, ho => by
  unfold lastS at h;split at h
  ·rename_i hc;have : backs s (blocks ρ own) (k + 1) = some (l0 ++ [none]) := by
    refine backs_snoc hk ?_;split at hc
    ·rename_i b hle;obtain ⟨hρ, _⟩ := hb.le _ (look_mem hle);have hmem : b ∈ own := by simpa using hc
     have hm := mem_blocks hmem hρ;split
     ·exact .inl ⟨by simpa using hm, rfl⟩
     ·rfl
    ·split at hc
     ·rename_i bs hld;obtain ⟨_, h2⟩ := hb.ld _ (look_mem hld);rcases h2 with h2 | ⟨b, b1, b2, _⟩
      ·rw [h2]
      ·have hmem : b ∈ own := by simpa using List.all_eq_true.1 hc b b1
       have hm := mem_blocks hmem b2;split
       ·exact .inl ⟨by simpa using hm, rfl⟩
       ·rfl
     ·cases hc
   obtain ⟨l', vs', h1, h2, h3⟩ := lastS_ok hb hl h this (outB_snoc_false ho);refine ⟨l', vs', by rw [List.length_cons, ← h1]; congr 1; omega, ?_, h3⟩;simpa using h2
  ·cases h
theorem dw_tup {w : SW} {p : PV} (h : DWσ env ρ σ w p) : ∀ cs, p ≠ .tup cs := by
 intro cs e;subst e;cases h with
 | c h => have := h.sc; simp [PV.sc] at this
theorem thaw_pack {ws : List SW} {ps : List PV} (h : F2 (DWσ env ρ σ) ws ps) (sl : List (List Slot)) : thaw sl (packP ps) = thaw2L sl ps := by
 cases h with
 | nil => cases sl <;> rfl
 | @cons _ p _ ps h t => cases t with
  | nil =>
   have : ∀ {p : PV}, (∀ cs, p ≠ .tup cs) → thaw sl p = thaw2 (sl.headD []) p := by intro p hp; cases p <;> first | rfl | exact absurd rfl (hp _)
   show thaw sl p = _
   rw [this (dw_tup h)];simp [thaw2L]
  | cons h2 t => rfl
theorem shut_pack {ws : List SW} {ps qs : List PV} {bs : List Nat} (h : F2 (DWσ env ρ σ) ws ps) {S : St} {sl : List (List Slot)} (hs : shut2L S sl ps = some (qs, bs)) : shut3 S sl (packP ps) = some (packP qs, bs) := by
 cases h with
 | nil =>
  have : shut2L S sl [] = some ([], []) := by cases sl <;> rfl
  rw [this] at hs; cases hs;show shut3 S sl (.tup []) = _
  simp only [shut3, this]; rfl
 | @cons _ p _ ps h t => cases t with
  | nil =>
   have e1 : ∀ {p : PV}, (∀ cs, p ≠ .tup cs) → shut3 S sl p = shut2 S (sl.headD []) p := by intro p hp; cases p <;> first | rfl | exact absurd rfl (hp _)
   show shut3 S sl p = _
   rw [e1 (dw_tup h)];unfold shut2L at hs;split at hs
   ·rename_i q b hq;have : shut2L S sl.tail [] = some ([], []) := by cases sl.tail <;> rfl
    rw [this] at hs;cases hs;rw [hq];simp [packP]
   ·cases hs
  | cons h2 t =>
   have hl : ∀ {ps qs : List PV} {sl : List (List Slot)} {bs : List Nat}, shut2L S sl ps = some (qs, bs) → qs.length = ps.length := by
    intro ps;induction ps with
    | nil => intro qs sl bs h; cases sl <;> (cases h; rfl)
    | cons p ps ih =>
     intro qs sl bs h;unfold shut2L at h;split at h
     ·split at h
      ·rename_i hq; cases h; simp [ih hq]
      ·cases h
     ·cases h
   have hlen := hl hs;show shut3 S sl (.tup _) = _
   simp only [shut3, hs];cases qs with
   | nil => simp at hlen
   | cons q qs => cases qs with
    | nil => simp at hlen
    | cons q' qs => rfl
theorem endS_ok (D : Dcf) (F : Fn) (hb : Rb I env ρ σ s) (ht : Rtσ env ρ σ f) : Sp env (endS D F σ) (fun as => ∃ ps qs l us bs, resP D.P s f F.res = some ps ∧ shut s F.slots F.bk.length (packP ps) = some (packP qs, l) ∧ OutWs D.P F.tys F.slots qs us ∧ OutB F.bk l bs ∧ evs env as = some (us ++ bs) ∧ (F.flat = true → ∀ v ∈ us, flat v.cells = true)) := by
 unfold endS;refine Sp.bind (readS_ok (P := D.P) hb ht) fun ws ⟨ps, p1, p2⟩ => Sp.bind (retWs_ok D hb (tys := F.tys) (sl := F.slots) p2) fun r hr => ?_;obtain ⟨qs, vs, h1, h2, h3⟩ := hr.h;split
 ·rename_i hc;simp only [Bool.and_eq_true] at hc;split
  ·rename_i l hl;refine Sp.bind (flatS_ok (b := F.flat) h2) fun as ⟨k1, k2⟩ => .ret ?_;have hn : ∀ v ∈ vs, v.cells.all noSlp = true := fun v hv => by
    cases hf : F.flat with
    | true => exact flat_noSlp ((k2 v hv).1 hf)
    | false => exact (k2 v hv).2 hf
   obtain ⟨m1, m2⟩ := h3 hn;obtain ⟨r1, _, r3⟩ := hb.freeze _ hr.live;have hown : Live (freezeS σ r.2.2) r.2.1 := fun b hb' => by rw [r3]; exact hr.own b hb'
   have hap : ∀ b ∈ r.2.1, b ∉ r.2.2 := fun b hb' => by
    have := List.all_eq_true.1 hc.2 b hb';simpa using this
   obtain ⟨bl, bv, b1, b2, b3⟩ := lastS_ok r1 hown hl (fl0 := []) (l0 := []) (vs0 := []) rfl .nil;rw [Nat.zero_add] at b1;refine ⟨ps, qs, bl, vs, bv, p1, ?_, m1, by simpa using b2, ?_, fun hf v hv => (k2 v hv).1 hf⟩
   ·unfold shut;rw [thaw_pack p2, h1];unfold shutB;rw [shut_pack p2 (m2 r.2.2 (fun b hb => hb) hap hr.live)];simp only;rw [if_pos (nodup_ok hb hr.own hc.1), b1]
   ·have : ∀ {as bs : List A} {vs us : List PV}, evs env as = some vs → evs env bs = some us → evs env (as ++ bs) = some (vs ++ us) := by
     intro as;induction as with
     | nil => intro bs vs us h k; cases h; exact k
     | cons a as ih =>
      intro bs vs us h k;unfold evs at h;split at h
      ·rename_i v hv;split at h
       ·rename_i vs' hvs; cases h; exact evs_cons hv (ih hvs k)
       ·cases h
      ·cases h
    exact this k1 b3
  ·exact .fail
 ·exact .fail
end
end Go.Sym
namespace Go.Sym
open Go.Abu Go.Pev
section
variable {P : Program} {I : FuncId → Bool} {env : List PV} {ρ : Nat → Option Nat} {σ : SS} {s : St} {f : PF}
def noBar (f : PF) : Op → Bool
 | .store .. => false
 | .mapUpdate .. => false
 | .insert .. => false
 | .call c => match c.callee with
  | .builtin .append => match (c.args[0]?).bind (opd f) with
   | some .nil => true
   | _ => false
  | _ => true
 | _ => true
theorem opds_head {xs : List Operand} {ps : List PV} (h : opds f xs = some ps) : ps.head? = (xs.head?).bind (opd f) := by
 cases xs with
 | nil => cases h; rfl
 | cons x xs =>
  unfold opds at h;split at h
  ·rename_i p hp;split at h
   ·cases h; simp [hp]
   ·cases h
  ·cases h
theorem pOp_bar {op : Op} {bar : Nat} (h : noBar f op = true) : pOp P bar f s op = pOp P 0 f s op := by
 cases op with
 | store t a x => cases h
 | mapUpdate t m k x => cases h
 | insert t m k x => cases h
 | call c =>
  simp only [pOp];cases ha : opds f c.args.toList with
  | none => rfl
  | some args =>
   simp only;cases hc : c.callee with
   | builtin b =>
    simp only;cases b with
    | append =>
     have hb : ∀ bar, pBuiltin P bar s .append c.argTypes args = pBuiltin P 0 s .append c.argTypes args := by
      intro bar;simp only [noBar, hc] at h;have hh := opds_head ha;have e0 : c.args[0]? = c.args.toList.head? := by rw [← Array.getElem?_toList]; cases c.args.toList <;> rfl
      rw [e0, ← hh] at h;unfold pBuiltin;simp only;split
      ·split
       ·rename_i x y;simp only [List.head?_cons] at h;split at h
        ·rename_i e;cases e;unfold pAppend;rfl
        ·cases h
       ·rfl
      ·rfl
     rw [hb]
    | _ => rfl
   | _ => rfl
 | makeFunc g a c => cases g <;> rfl
 | makeMap t r => cases r <;> rfl
 | slice t x lo hi mx => cases mx <;> cases hi <;> rfl
 | _ => rfl
end
end Go.Sym
