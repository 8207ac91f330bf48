import Derived.Test.YtfghdmmapmdcgaaGreatDG
import Derived.Test.YtfghdmmapmdcgaaGreatSO
import Derived.Test.YtfghdmmapmdcgaaGreatM3
import Derived.Test.YtfghdmmapmdcgaaGreatRows
import Derived.Test.YtfghdmmapmdcgaaGreatChecked
set_option linter.unusedVariables false
set_option linter.unusedSimpArgs false
set_option linter.defProp false
noncomputable section
namespace Go.Proofs.YtfghdmmapmdcgaaGreat
open Go.Sym Bnd
open Go.ChangeShapes Go.WideShapes Go.ChangeAt Go.RowKit
set_option maxRecDepth 100000
def clK : List Ct := [.p (.i .i64), .p (.i .i64), .sl [.i .i64, .i .i64, .i .i64], .p (.i .i64), .sl [.i .i64, .i .i64, .i .i64], .sl [.i .i64], .sl [.b], .sl [.i .i64], .sl [.i .i64, .i .i64, .i .i64, .i .i64, .i .i64], .sl [.i .i64], .sl [.i .i64, .i .i64, .i .i64]]
def khK : List Ct := clK ++ [.sl [.i .i64]]
def ktK : List Ct := clK ++ [.sl [.i .i64], .sl [.i .i64]]
def htK : List Ct := clK ++ [.p (.i .i64), .sl [.i .i64, .i .i64, .i .i64]]
def choK : List Ct := .p (.i .u8) :: (khK ++ (ktK ++ (htK ++ khK)))
theorem args3 : argCs Tryz.prog Tryz.f3.params.toList = some [(false, [.p (.i .i64)]), (true, choK)] := by kernel_rfl
theorem wf_i64 {x : Int} (h : (Lit.int .i64 x).wf = true) : I64 x := by
 have : (decide (-9223372036854775808 ≤ x) && decide (x ≤ 9223372036854775807)) = true := h;simp only [Bool.and_eq_true, decide_eq_true_eq] at this;exact this
theorem wf_u8 {x : Int} (h : (Lit.int .u8 x).wf = true) : 0 ≤ x ∧ x ≤ 255 := by
 have : (decide (0 ≤ x) && decide (x ≤ 255)) = true := h;simp only [Bool.and_eq_true, decide_eq_true_eq] at this;exact this
theorem f2_cons {α β : Type} {R : α → β → Prop} {a : α} {l : List α} {ys : List β} (h : F2 R (a :: l) ys) : ∃ b k, ys = b :: k ∧ R a b ∧ F2 R l k := by
 cases h with | cons h1 h2 => exact ⟨_, _, rfl, h1, h2⟩
theorem f2_nil {α β : Type} {R : α → β → Prop} {ys : List β} (h : F2 R [] ys) : ys = [] := by cases h; rfl
theorem f2_split {α β : Type} {R : α → β → Prop} : ∀ {a b : List α} {ys : List β}, F2 R (a ++ b) ys → ∃ x y, ys = x ++ y ∧ F2 R a x ∧ F2 R b y
 | [], b, ys, h => ⟨[], ys, rfl, .nil, h⟩
 | c :: a, b, ys, h => by
  obtain ⟨z, k, rfl, h1, h2⟩ := f2_cons h;obtain ⟨x, y, rfl, h3, h4⟩ := f2_split h2;exact ⟨z :: x, y, rfl, .cons h1 h3, h4⟩
theorem rows_of {α : Type} {es : List Ct0} {f : α → List PV} {P : α → Prop} (h1 : ∀ c, F2 CtV0 es c → ∃ a, c = f a ∧ P a) : ∀ {els : List (List PV)}, (∀ c ∈ els, F2 CtV0 es c) → ∃ l : List α, els = l.map f ∧ ∀ a ∈ l, P a
 | [], _ => ⟨[], rfl, by simp⟩
 | c :: els, h => by
  obtain ⟨a, rfl, ha⟩ := h1 c (h c (by simp));obtain ⟨l, rfl, hl⟩ := rows_of h1 (fun c hc => h c (List.mem_cons_of_mem _ hc));exact ⟨a :: l, rfl, by simpa using ⟨ha, hl⟩⟩
theorem slc_of {α : Type} {es : List Ct0} {f : α → List PV} {P : α → Prop} (h1 : ∀ c, F2 CtV0 es c → ∃ a, c = f a ∧ P a) {p : PV} (h : CtV (.sl es) p) : ∃ l : List α, p = sl f l ∧ ∀ a ∈ l, P a := by
 obtain ⟨els, rfl, _, h⟩ := h;obtain ⟨l, rfl, hl⟩ := rows_of h1 h;exact ⟨l, rfl, hl⟩
theorem i64_of {p : PV} (h : CtV0 (.i .i64) p) : ∃ x : Int, p = .i64 x ∧ I64 x := by
 obtain ⟨x, rfl, h⟩ := h;exact ⟨x, rfl, wf_i64 h⟩
theorem one_of (c : List PV) (h : F2 CtV0 [.i .i64] c) : ∃ a : Int, c = I1 a ∧ True := by
 obtain ⟨p, k, rfl, h1, h⟩ := f2_cons h;cases f2_nil h;obtain ⟨x, rfl, _⟩ := i64_of h1;exact ⟨x, rfl, trivial⟩
theorem bool_of (c : List PV) (h : F2 CtV0 [.b] c) : ∃ a : Bool, c = B1 a ∧ True := by
 obtain ⟨p, k, rfl, h1, h⟩ := f2_cons h;cases f2_nil h;obtain ⟨x, rfl⟩ := h1;exact ⟨x, rfl, trivial⟩
theorem two_of {c : List PV} (h : F2 CtV0 [.i .i64, .i .i64] c) : ∃ a b : Int, c = [.i64 a, .i64 b] ∧ I64 a ∧ I64 b := by
 obtain ⟨p, k, rfl, h1, h⟩ := f2_cons h;obtain ⟨q, k, rfl, h2, h⟩ := f2_cons h;cases f2_nil h;obtain ⟨x, rfl, k1⟩ := i64_of h1;obtain ⟨y, rfl, k2⟩ := i64_of h2;exact ⟨x, y, rfl, k1, k2⟩
theorem thr_of {c : List PV} (h : F2 CtV0 [.i .i64, .i .i64, .i .i64] c) : ∃ a b d : Int, c = [.i64 a, .i64 b, .i64 d] := by
 obtain ⟨p, k, rfl, h1, h⟩ := f2_cons h;obtain ⟨x, y, rfl, _⟩ := two_of h;obtain ⟨z, rfl, _⟩ := i64_of h1;exact ⟨z, x, y, rfl⟩
theorem evt_of (c : List PV) (h : F2 CtV0 [.i .i64, .i .i64, .i .i64, .i .i64, .i .i64] c) : ∃ a : Evt, c = erow a ∧ In64 a.time := by
 obtain ⟨p, k, rfl, h1, h⟩ := f2_cons h;obtain ⟨q, k, rfl, h2, h⟩ := f2_cons h;obtain ⟨x, y, z, rfl⟩ := thr_of h;obtain ⟨a, rfl, k1⟩ := i64_of h1;obtain ⟨b, rfl, k2⟩ := i64_of h2;exact ⟨⟨⟨a, b⟩, x, ⟨y, z⟩⟩, rfl, k1, k2⟩
theorem cl_of {qs : List PV} (h : F2 CtV clK qs) : ∃ c : Clock, Cl64 c ∧ qs = clC c := by
 obtain ⟨_, _, rfl, a1, h⟩ := f2_cons h;obtain ⟨_, _, rfl, a2, h⟩ := f2_cons h;obtain ⟨_, _, rfl, a3, h⟩ := f2_cons h;obtain ⟨_, _, rfl, a4, h⟩ := f2_cons h;obtain ⟨_, _, rfl, a5, h⟩ := f2_cons h;obtain ⟨_, _, rfl, a6, h⟩ := f2_cons h;obtain ⟨_, _, rfl, a7, h⟩ := f2_cons h;obtain ⟨_, _, rfl, a8, h⟩ := f2_cons h;obtain ⟨_, _, rfl, a9, h⟩ := f2_cons h;obtain ⟨_, _, rfl, a10, h⟩ := f2_cons h;obtain ⟨_, _, rfl, a11, h⟩ := f2_cons h;cases f2_nil h;obtain ⟨n, rfl, n1⟩ := i64_of a1;obtain ⟨d, rfl, d1⟩ := i64_of a2;obtain ⟨pts, rfl, _⟩ := slc_of (f := row) (P := fun _ => True) (fun c h => by obtain ⟨a, b, d, rfl⟩ := thr_of h; exact ⟨⟨a, b, d⟩, rfl, trivial⟩) a3;obtain ⟨nx, rfl, _⟩ := i64_of a4;obtain ⟨cl, rfl, _⟩ := slc_of (f := hrow) (P := fun _ => True) (fun c h => by obtain ⟨a, b, d, rfl⟩ := thr_of h; exact ⟨⟨a, ⟨b, d⟩⟩, rfl, trivial⟩) a5;obtain ⟨us, rfl, _⟩ := slc_of one_of a6;obtain ⟨ud, rfl, _⟩ := slc_of bool_of a7;obtain ⟨fr, rfl, _⟩ := slc_of one_of a8;obtain ⟨hp, rfl, hh⟩ := slc_of evt_of a9;obtain ⟨wh, rfl, _⟩ := slc_of one_of a10;obtain ⟨du, rfl, _⟩ := slc_of (f := drow) (P := fun _ => True) (fun c h => by obtain ⟨a, b, d, rfl⟩ := thr_of h; exact ⟨⟨a, ⟨b, d⟩⟩, rfl, trivial⟩) a11;exact ⟨⟨⟨n, d⟩, pts, ⟨nx, cl⟩, ⟨⟨us, ud, fr⟩, hp, wh⟩, du⟩, ⟨⟨n1, d1⟩, hh⟩, rfl⟩
theorem kh_of {qs : List PV} (h : F2 CtV khK qs) : ∃ k : KHeap, Cl64 k.clock ∧ qs = khC k := by
 obtain ⟨x, y, rfl, h1, hb⟩ := f2_split h;obtain ⟨c, c1, rfl⟩ := cl_of h1;obtain ⟨_, _, rfl, a1, hc⟩ := f2_cons hb;cases f2_nil hc;obtain ⟨l, rfl, _⟩ := slc_of one_of a1;exact ⟨⟨c, l⟩, c1, rfl⟩
theorem kt_of {qs : List PV} (h : F2 CtV ktK qs) : ∃ k : KTourn, Cl64 k.clock ∧ qs = ktC k := by
 obtain ⟨x, y, rfl, h1, hb⟩ := f2_split h;obtain ⟨c, c1, rfl⟩ := cl_of h1;obtain ⟨_, _, rfl, a1, hc⟩ := f2_cons hb;obtain ⟨_, _, rfl, a2, hd⟩ := f2_cons hc;cases f2_nil hd;obtain ⟨l, rfl, _⟩ := slc_of one_of a1;obtain ⟨m, rfl, _⟩ := slc_of one_of a2;exact ⟨⟨c, ⟨l, m⟩⟩, c1, rfl⟩
theorem ht_of {qs : List PV} (h : F2 CtV htK qs) : ∃ k : Heater, Cl64 k.clock ∧ qs = htC k := by
 obtain ⟨x, y, rfl, h1, hb⟩ := f2_split h;obtain ⟨c, c1, rfl⟩ := cl_of h1;obtain ⟨_, _, rfl, a1, hc⟩ := f2_cons hb;obtain ⟨_, _, rfl, a2, hd⟩ := f2_cons hc;cases f2_nil hd;obtain ⟨l, rfl, _⟩ := i64_of a1;obtain ⟨m, rfl, _⟩ := slc_of (f := nrow) (P := fun _ => True) (fun c h => by obtain ⟨a, b, d, rfl⟩ := thr_of h; exact ⟨⟨a, b, d⟩, rfl, trivial⟩) a2;exact ⟨⟨c, ⟨l, m⟩⟩, c1, rfl⟩
theorem cho_of {v : PV} (h : ArgV (true, choK) v) : ∃ c : Choice, Cho64 c ∧ v = CHO c := by
 obtain ⟨qs, rfl, h⟩ := h;obtain ⟨_, _, rfl, a1, h1⟩ := f2_cons h;obtain ⟨_, _, rfl, b1, h2⟩ := f2_split h1;obtain ⟨_, _, rfl, b2, h3⟩ := f2_split h2;obtain ⟨_, _, rfl, b3, b4⟩ := f2_split h3;obtain ⟨t, rfl, t1⟩ := a1;obtain ⟨k1, u1, rfl⟩ := kh_of b1;obtain ⟨k2, u2, rfl⟩ := kt_of b2;obtain ⟨k3, u3, rfl⟩ := ht_of b3;obtain ⟨k4, u4, rfl⟩ := kh_of b4;exact ⟨⟨t, k1, k2, k3, k4⟩, ⟨wf_u8 t1, u1, u2, u3, u4⟩, rfl⟩
theorem int_of {v : PV} (h : ArgV (false, [.p (.i .i64)]) v) : ∃ n : Int, v = .i64 n := by
 cases h with
 | cons h1 h =>
  cases h;obtain ⟨n, rfl, _⟩ := h1;exact ⟨n, rfl⟩
theorem dtOk : DtOk D where
 T := fun g k h => tab_ok.ok g k h
 X := fun g vs rs _ h => by
  have hg : Nat.beq g 160 = true := by
   cases e : Nat.beq g 160 with
   | true => rfl
   | false =>
    have h : sortX 160 g vs = some rs := h;unfold sortX at h;rw [e] at h;cases h
  have hg := Nat.eq_of_beq_eq_true hg;subst hg;exact sort_ans (fn := Tryz.f160) Tryz.func160 (by simp [Tryz.f160]) (by decide) rfl (by kernel_rfl) sortC sortN h
 fol := by kernel_rfl
theorem bool4 : Tryz.prog.underlying 4 = some .bool := by kernel_rfl
theorem res3 : Tryz.f3.resultTypes = #[4] := by kernel_rfl
theorem read3 : (Tryz.f3.params.toList.all fun t => Tryz.prog.readableRec t && Nat.blt t Tryz.prog.types.size) = true := by kernel_rfl
theorem len3 : Tryz.f3.params.toList.length = 2 := by kernel_rfl
theorem lend3 : D.lend 3 = none := by kernel_rfl
theorem own3 : ownKnob Tryz.prog.godebug = none := by kernel_rfl
theorem laidOut3 : laidOutB Tryz.prog = true := by kernel_rfl
set_option maxRecDepth 100000 in
theorem lifted3 (os : Os) (started : os.Started) (H : Type) (enc : TypeId × Value → H) :
  ReturnsInHanded {} Tryz.checked os 3 .any (Rows.boundCountsSpec.pre6 enc Tryz.prog Tryz.f3 Rows.boundCountsRow.domain false) (Rows.boundCountsSpec.post enc Tryz.prog Tryz.f3 false true false false) := by
 refine returnsInHanded_of_change (C := Tryz.checked) own3 started (by kernel_rfl) Tryz.func3
  (ChangeSpec.witness6 (enc := enc) (C := Tryz.checked) false ⟨#[], #[.int .i64 0, .agg #[.int .u8 0, .int .i64 0, .int .i64 0, .slice none 0 0, .int .i64 0, .slice none 0 0, .slice none 0 0, .slice none 0 0, .slice none 0 0, .slice none 0 0, .slice none 0 0, .slice none 0 0, .slice none 0 0, .int .i64 0, .int .i64 0, .slice none 0 0, .int .i64 0, .slice none 0 0, .slice none 0 0, .slice none 0 0, .slice none 0 0, .slice none 0 0, .slice none 0 0, .slice none 0 0, .slice none 0 0, .slice none 0 0, .int .i64 0, .int .i64 0, .slice none 0 0, .int .i64 0, .slice none 0 0, .slice none 0 0, .slice none 0 0, .slice none 0 0, .slice none 0 0, .slice none 0 0, .slice none 0 0, .int .i64 0, .slice none 0 0, .int .i64 0, .int .i64 0, .slice none 0 0, .int .i64 0, .slice none 0 0, .slice none 0 0, .slice none 0 0, .slice none 0 0, .slice none 0 0, .slice none 0 0, .slice none 0 0, .slice none 0 0]], []⟩ 8 (by kernel_rfl) (by kernel_rfl) (by kernel_rfl) (by kernel_rfl)) ?_
 intro W base args ds gs before hval0 hW hcnd _;have hW' := hW;obtain ⟨p, q, hA0, hV, rfl, hfz, hnd⟩ := hW;refine (Go.Sym.link (D := D) (x := .bool true) dtOk lend3 (fn := Tryz.f3) Tryz.func3 rfl args3 hval0 hA0 ?_).mono fun e W' ⟨he, hb⟩ => ⟨_, he, ?_⟩
 ·intro vs hvs;cases hvs with
  | cons h1 h =>
   cases h with
   | cons h2 h =>
    cases h;obtain ⟨n, rfl⟩ := int_of h1;obtain ⟨c, hc, rfl⟩ := cho_of h2;exact boundCounts n hc
 ·exact Go.Sym.post_true laidOut3 hW' rfl res3 bool4 read3 (fun ds hd => by
   rw [len3] at hd
   match ds, hd with
   | [d1, d2], _ => rfl) hb
theorem and_mk {a b : Bool} (h : a = true) (k : b = true) : (a && b) = true := by rw [h, k]; rfl
set_option maxHeartbeats 400000000 in
theorem cells3 : joinedFacts Tryz.prog 3 Tryz.f3 Rows.boundCountsSpec Rows.boundCountsRow = true := by
 unfold joinedFacts
 repeat' with_reducible apply and_mk
 all_goals (as_aux_lemma => kernel_rfl)
theorem named3 : Tryz.prog.funcNamed Rows.boundCountsRow.func = some 3 := by kernel_rfl
theorem noInstance3 : Tryz.f3.isInstance Tryz.prog Rows.boundCountsRow.origin Rows.boundCountsRow.targs := of_decide_eq_true (by kernel_rfl)
theorem noWrapper3 : Tryz.f3.isWrapper Tryz.prog Rows.boundCountsRow.wrapper Rows.boundCountsRow.mainSum := by unfold Func.isWrapper; rw [if_neg (by decide +kernel)]; exact ⟨rfl, rfl⟩
theorem boundCounts_holds : Rows.BoundCountsSaid :=
 OpenClaim.holds_of_wide 3 Tryz.f3 rfl rfl rfl rfl rfl rfl rfl ⟨rfl, rfl, rfl, rfl, rfl⟩ rfl rfl rfl rfl rfl named3 Tryz.func3 cells3 noInstance3 noWrapper3
  (fun os started H enc _ => lifted3 os started H enc)
#print axioms boundCounts_holds
end Go.Proofs.YtfghdmmapmdcgaaGreat
