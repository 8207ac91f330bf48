import Derived.Test.YtfghdmmapmdcgaaGreatDD
set_option linter.unusedVariables false
set_option linter.unusedSimpArgs false
set_option linter.defProp false
noncomputable section
namespace Go.Proofs.YtfghdmmapmdcgaaGreat
open Go.Sym Bnd
set_option maxRecDepth 100000
def zC : Clock := ⟨⟨0, 0⟩, [], ⟨0, []⟩, ⟨⟨[], [], []⟩, [], []⟩, []⟩
def zKH : KHeap := ⟨zC, []⟩
def zKT : KTourn := ⟨zC, ⟨[], []⟩⟩
def zHT : Heater := ⟨zC, ⟨0, []⟩⟩
theorem gF_le {l : List Pt} (h : gF l = false) : l.length ≤ 70 := by
 unfold gF at h;simp only [Bool.or_eq_false_iff, decide_eq_false_iff_not] at h;omega
theorem c76 {c : Clock} (hg : gCl c = false) : Ans D 76 [CL c] [.bool (decide (c = zC))] := by
 unfold gCl gAg gSl at hg;simp only [Bool.or_eq_false_iff, decide_eq_false_iff_not] at hg;obtain ⟨⟨⟨g1, g2⟩, g3⟩, ⟨⟨⟨g4, g5⟩, g6⟩, g7⟩, g8⟩ := hg;have g3 := gF_le g3;have pS : RF.ev (.part 5 3) [CL c] = some (SL c.agenda.slots) := rfl;have c3 : RF.ev (.cell 3) [CL c] = some (.i64 c.certs.next) := rfl;have sAG : RF.ev (.shape 5) [AG c.agenda] = some (AG c.agenda) := rfl;have sSL : RF.ev (.shape 3) [SL c.agenda.slots] = some (SL c.agenda.slots) := rfl;have a2 : RF.ev .agg [.v (.int .i64 0), .v (.int .i64 0)] = some (R ⟨0, 0⟩) := rfl;refine ans_of k76_ok s76 rfl ⟨1, ?_⟩;unfold k76;have w : ∀ a b : Nat, a ≤ 10000 → b ≤ 10000 → IntKind.i64.wrap ((a : Int) + (b : Int)) = ((a + b : Nat) : Int) := fun a b ha hb => by rw [w_i64 (by omega) (by omega)]; omega
 simp only [den_lt, shCL, pCL5, pS, sAG, sSL, pCL0, c3, cCL2, cCL4, cCL10, cAG3, cAG4, cSL0, cSL1, cSL2, a2, eqvR, EV, List.length_map, k76_1, decide_eq_true_eq];rw [w _ _ (by omega) (by omega), w _ _ (by omega) (by omega), w _ _ (by omega) (by omega), w _ _ (by omega) (by omega), w _ _ (by omega) (by omega), w _ _ (by omega) (by omega), w _ _ (by omega) (by omega)];obtain ⟨n, p, ⟨nx, cl⟩, ⟨⟨u, ud, f⟩, hp, wh⟩, d⟩ := c;simp only at *;by_cases e1 : n = ⟨0, 0⟩
 ·by_cases e2 : nx = 0
  ·rw [if_pos e1, if_pos e2]
   congr 4
   refine decide_eq_decide.2 ?_;subst e1; subst e2;unfold zC;simp only [Clock.mk.injEq, Certs.mk.injEq, Agenda.mk.injEq, Slots.mk.injEq, true_and, ← List.length_eq_zero_iff];omega
  ·rw [if_pos e1, if_neg e2, decide_eq_false (fun h => e2 (by cases h; rfl))]
 ·rw [if_neg e1, decide_eq_false (fun h => e1 (by cases h; rfl))]
def ckOf (c : Choice) : Clock := if c.tag = 1 then c.heap.clock else if c.tag = 2 then c.tourn.clock else if c.tag = 3 then c.heater.clock else c.hanger.clock
section
variable (c : Choice)
theorem pK1 : RF.ev (.part 1 11) [CHO c] = some (CL c.heap.clock) := rfl
theorem pK2 : RF.ev (.part 13 11) [CHO c] = some (CL c.tourn.clock) := rfl
theorem pK3 : RF.ev (.part 26 11) [CHO c] = some (CL c.heater.clock) := rfl
theorem pK4 : RF.ev (.part 39 11) [CHO c] = some (CL c.hanger.clock) := rfl
theorem cK12 : RF.ev (.cell 12) [CHO c] = some (sl I1 c.heap.heap) := rfl
theorem cK24 : RF.ev (.cell 24) [CHO c] = some (sl I1 c.tourn.brk.places) := rfl
theorem cK25 : RF.ev (.cell 25) [CHO c] = some (sl I1 c.tourn.brk.wins) := rfl
theorem cK37 : RF.ev (.cell 37) [CHO c] = some (.i64 c.heater.tree.root) := rfl
theorem cK38 : RF.ev (.cell 38) [CHO c] = some (sl nrow c.heater.tree.nodes) := rfl
theorem cK50 : RF.ev (.cell 50) [CHO c] = some (sl I1 c.hanger.heap) := rfl
theorem cK5 : RF.ev (.cell 5) [CHO c] = some (sl hrow c.heap.clock.certs.list) := rfl
theorem cK17 : RF.ev (.cell 17) [CHO c] = some (sl hrow c.tourn.clock.certs.list) := rfl
theorem cK30 : RF.ev (.cell 30) [CHO c] = some (sl hrow c.heater.clock.certs.list) := rfl
theorem cK43 : RF.ev (.cell 43) [CHO c] = some (sl hrow c.hanger.clock.certs.list) := rfl
end
theorem u8E (a b : Int) : RF.ev (.bin .eql) [.v (.int .u8 a), .v (.int .u8 b)] = some (.v (.bool (decide (a = b)))) := rfl
theorem d66 (c : Choice) : ∃ N, den (PhiS D) N k66 [] [CHO c] = some [CL (ckOf c)] := by
 refine ⟨1, ?_⟩;unfold k66 ckOf;simp only [den_lt, shCH, cCH, pK1, pK2, pK3, pK4, u8E, EV, decide_eq_true_eq];split
 ·rfl
 split
 ·rfl
 split <;> rfl
theorem c66 (c : Choice) : Ans D 66 [CHO c] [CL (ckOf c)] := ans_of k66_ok s66 rfl (d66 c)
theorem c13 (c : Choice) : Ans D 13 [CHO c] [CL (ckOf c)] := ans_of k13_ok s13 rfl (d66 c)
def Alone (c : Choice) : Prop := (c.tag ≠ 1 → c.heap = zKH) ∧ (c.tag ≠ 2 → c.tourn = zKT) ∧ (c.tag ≠ 3 → c.heater = zHT) ∧ (c.tag ≠ 4 → c.hanger = zKH)
def PartOk (c : Choice) : Prop := if c.tag = 1 then HeapOk c.heap else if c.tag = 2 then TournOk c.tourn else if c.tag = 3 then HeatOk c.heater else if c.tag = 4 then HangOk c.hanger else False
def ChoOk (c : Choice) : Prop := Alone c ∧ PartOk c ∧ asked (ckOf c).now = 0
structure Cho64 (c : Choice) : Prop where
 tag : 0 ≤ c.tag ∧ c.tag ≤ 255
 h1 : Cl64 c.heap.clock
 h2 : Cl64 c.tourn.clock
 h3 : Cl64 c.heater.clock
 h4 : Cl64 c.hanger.clock
theorem ck64 {c : Choice} (h : Cho64 c) : Cl64 (ckOf c) := by
 unfold ckOf;split
 ·exact h.h1
 split
 ·exact h.h2
 split
 ·exact h.h3
 ·exact h.h4
theorem gCh_p {c : Choice} (h : gCh c = false) : gKh c.heap = false ∧ gKt c.tourn = false ∧ gHt c.heater = false ∧ gKh c.hanger = false := by
 unfold gCh at h;simp only [Bool.or_eq_false_iff] at h;exact ⟨h.1.1.1, h.1.1.2, h.1.2, h.2⟩
def lastE (b : Bool) (e : Int) : Int := if b = false then 8 else if e ≠ 0 then 8 else 0
open Classical in
theorem lastE_ok {c : Choice} (ha : Alone c) : lastE (decide (PartOk c)) (asked (ckOf c).now) = okE (decide (ChoOk c)) := by
 unfold lastE;by_cases h1 : PartOk c
 ·rw [decide_eq_true h1, if_neg (by simp)];by_cases h2 : asked (ckOf c).now = 0
  ·rw [if_neg (fun g => g h2), decide_eq_true (show ChoOk c from ⟨ha, h1, h2⟩)]; rfl
  ·rw [if_pos h2, decide_eq_false (fun h => h2 h.2.2)]; rfl
 ·rw [decide_eq_false h1, if_pos rfl, decide_eq_false (fun h => h1 h.2.1)]; rfl
def usedB (c : Choice) : Nat → Bool
 | 0 => !decide (c.heap = zKH)
 | 1 => !decide (c.tourn = zKT)
 | 2 => !decide (c.heater = zHT)
 | _ => !decide (c.hanger = zKH)
theorem alone_iff {c : Choice} (ht : 0 ≤ c.tag ∧ c.tag ≤ 255) : (∀ i : Nat, i < 4 → ¬ (usedB c i = true ∧ ((i + 1 : Nat) : Int) ≠ c.tag)) ↔ Alone c := by
 unfold Alone;constructor
 ·intro h;have h0 := h 0 (by omega);have h1 := h 1 (by omega);have h2 := h 2 (by omega);have h3 := h 3 (by omega);simp only [usedB, Bool.not_eq_true', decide_eq_false_iff_not, not_and, Decidable.not_not] at h0 h1 h2 h3;refine ⟨fun g => ?_, fun g => ?_, fun g => ?_, fun g => ?_⟩
  ·exact Classical.byContradiction fun k => g (h0 k).symm
  ·exact Classical.byContradiction fun k => g (h1 k).symm
  ·exact Classical.byContradiction fun k => g (h2 k).symm
  ·exact Classical.byContradiction fun k => g (h3 k).symm
 ·rintro ⟨h0, h1, h2, h3⟩ i hi ⟨hu, hne⟩
  match i, hi with
  | 0, _ => simp only [usedB, Bool.not_eq_true', decide_eq_false_iff_not] at hu; exact hu (h0 (fun e => hne (by omega)))
  | 1, _ => simp only [usedB, Bool.not_eq_true', decide_eq_false_iff_not] at hu; exact hu (h1 (fun e => hne (by omega)))
  | 2, _ => simp only [usedB, Bool.not_eq_true', decide_eq_false_iff_not] at hu; exact hu (h2 (fun e => hne (by omega)))
  | 3, _ => simp only [usedB, Bool.not_eq_true', decide_eq_false_iff_not] at hu; exact hu (h3 (fun e => hne (by omega)))
open Classical in
theorem e26 {c : Choice} (h64 : Cho64 c) (hg : gCh c = false) {e2 e3 e4 e5 : PV} : den (PhiS D) 1001 k26_5 [] [CHO c, CHO c, e2, e3, e4, e5] = some [.i64 (lastE (decide (PartOk c)) (asked (ckOf c).now))] := by
 obtain ⟨g1, g2, g3, g4⟩ := gCh_p hg;have fin : ∀ (x : Int) (p : Prop), x = okE (decide p) → (PartOk c ↔ p) → den (PhiS D) 1001 k26_1 [] [CHO c, CHO c, e2, e3, e4, e5, .v (.int .u8 c.tag), .v (.bool (decide (c.tag = 1))), .i64 x] = some [.i64 (lastE (decide (PartOk c)) (asked (ckOf c).now))] := fun x p hx hp => by
  subst hx;unfold k26_1 lastE;simp only [den_lt, EV, okE_not, Bool.not_eq_true', decide_eq_false_iff_not, phi (c66 c), pCL0, phi (c44 (ck64 h64).1)];by_cases hp' : p
  ·rw [decide_eq_true hp', if_pos rfl, if_neg (show ¬¬PartOk c from fun g => g (hp.2 hp'))]
   by_cases e : asked (ckOf c).now = 0 <;> simp [e]
  ·rw [decide_eq_false hp', if_neg (by simp), if_pos (fun h => hp' (hp.1 h))]
 unfold k26_5;simp only [den_lt, cCH, u8E, pCH1, pCH2, pCH3, pCH4, EV, decide_eq_true_eq, phi (c77 h64.h1 g1), phi (c78 h64.h2 g2), phi (c79 h64.h3 g3), phi (c80 h64.h4 g4), k26_2, k26_3, k26_4];by_cases t1 : c.tag = 1
 ·rw [if_pos t1];exact fin _ _ rfl (by unfold PartOk; rw [if_pos t1])
 rw [if_neg t1];by_cases t2 : c.tag = 2
 ·rw [if_pos t2];exact fin _ _ rfl (by unfold PartOk; rw [if_neg t1, if_pos t2])
 rw [if_neg t2];by_cases t3 : c.tag = 3
 ·rw [if_pos t3];exact fin _ _ rfl (by unfold PartOk; rw [if_neg t1, if_neg t2, if_pos t3])
 rw [if_neg t3];by_cases t4 : c.tag = 4
 ·rw [if_pos t4];exact fin _ _ rfl (by unfold PartOk; rw [if_neg t1, if_neg t2, if_neg t3, if_pos t4])
 rw [if_neg t4];exact fin 8 False (by simp; rfl) (by unfold PartOk; rw [if_neg t1, if_neg t2, if_neg t3, if_neg t4])
end Go.Proofs.YtfghdmmapmdcgaaGreat
