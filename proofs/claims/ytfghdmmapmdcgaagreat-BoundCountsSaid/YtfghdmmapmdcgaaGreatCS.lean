import Derived.Test.YtfghdmmapmdcgaaGreatCR
set_option linter.unusedVariables false
set_option linter.unusedSimpArgs false
set_option linter.defProp false
noncomputable section
namespace Go.Proofs.YtfghdmmapmdcgaaGreat
open Go.Sym Bnd
set_option maxRecDepth 100000
def nthI (l : List Int) (i : Nat) : Int := (l[i]?).getD 0
theorem nthI_some {l : List Int} {i : Nat} (h : i < l.length) : l[i]? = some (nthI l i) := by
 unfold nthI;rw [List.getElem?_eq_getElem h];rfl
def edgesTo (l : List Int) (n : Nat) : List Crt := (List.range n).map fun i => ⟨nthI l (i + 1), nthI l (i / 2)⟩
theorem edgesTo_len (l : List Int) (n : Nat) : (edgesTo l n).length = n := by simp [edgesTo]
theorem edgesTo_succ (l : List Int) (n : Nat) : edgesTo l (n + 1) = edgesTo l n ++ [⟨nthI l (n + 1), nthI l (n / 2)⟩] := by
 unfold edgesTo;rw [List.range_succ, List.map_append];rfl
def edgesH (l : List Int) : List Crt := edgesTo l (l.length - 1)
theorem aggC (a b : Int) : RF.ev .agg [.i64 a, .i64 b] = some (CP ⟨a, b⟩) := rfl
theorem bsC (c : Crt) : RF.ev (.bs 1 [KP.z, KP.z] [0]) [CP c] = some (sl crow [c]) := rfl
theorem subC1 (c : Crt) : RF.ev .sub [sl crow [c], .v (.int .i64 0), .v (.int .i64 1)] = some (sl crow [c]) := rfl
theorem d141 {l : List Int} (hl : l.length ≤ 1000) : ∃ N, den (PhiS D) N k141 [] [sl I1 l] = some [sl crow (edgesH l)] := by
 refine ⟨1001, ?_⟩;unfold k141;simp only [EV];refine run_up (m := 1001) (n := l.length - 1) (st := fun i => [sl crow (edgesTo l i), .i64 ((edgesTo l i).length : Int), .i64 ((i + 1 : Nat) : Int)]) (fun i self hi => ?_) (fun self => ?_) (by omega)
 ·have h1 := nthI_some (l := l) (i := i + 1) (by omega);have h2 := nthI_some (l := l) (i := i / 2) (by omega);unfold k141_2;simp only [tixM h1 (lenI _), eltM h1, rowI, tixM h2 (lenI _), eltM h2, aggC, bsC, subC1, half (show i < 1000000 by omega), f_bin, EV, List.length_map, decide_eq_true_eq, if_lt (show i + 1 < l.length by omega),
   appM (f := crow) (l := edgesTo l i) (k := [⟨nthI l (i + 1), nthI l (i / 2)⟩]) (bytes := 16) (z := 2) (by rw [edgesTo_len]; simp; omega) lenC, up1 (show i + 1 < 1000000000 by omega), ← edgesTo_succ]
 ·unfold k141_2;simp only [EV, List.length_map, decide_eq_true_eq];rw [if_neg (by omega)];unfold k141_1;simp only [subM, EV];rfl
theorem c141 {l : List Int} (hl : l.length ≤ 1000) : Ans D 141 [sl I1 l] [sl crow (edgesH l)] := ans_of k141_ok s141 rfl (d141 hl)
theorem c170 {l : List Int} (hl : l.length ≤ 1000) : Ans D 170 [sl I1 l] [sl crow (edgesH l)] := ans_of k170_ok s170 rfl (d141 hl)
def JustR (c : Clock) (edges : List Crt) : Prop := c.certs.list.length = edges.length ∧ ∀ e ∈ edges, (∃ h ∈ c.certs.list, h.cert = e) ∧ leads c.now (ptOf c.pts e.high) (ptOf c.pts e.low) = true
open Classical in
theorem c169 {c : Clock} {edges : List Crt} (hF : okF c.pts) (h64 : In64 c.now) (hl : edges.length ≤ 1000) (hc : c.certs.list.length ≤ 1000) (hin : ∀ e ∈ edges, inF c.pts e.low = true ∧ inF c.pts e.high = true) : Ans D 169 [CL c, sl crow edges] [.bool (decide (JustR c edges))] := by
 refine ans_of k169_ok s169 rfl ⟨1001, ?_⟩;unfold k169;simp only [den_lt, shCL, cCL4, EV, List.length_map, Bool.not_eq_true', decide_eq_false_iff_not];by_cases h1 : c.certs.list.length = edges.length
 ·rw [if_neg (by omega)];refine (run_list (m := 1001) (l := edges) (p := fun e => (c.certs.list.any fun h => decide (h.cert = e)) && leads c.now (ptOf c.pts e.high) (ptOf c.pts e.low)) (st := fun i => [.i64 (i : Int)]) (r := some [.bool false]) (fin := some [.bool true]) (fun i e self he _ => ?_) (fun _ self => ?_) (by omega)).trans ?_
  ·obtain ⟨a1, a2⟩ := hin e (List.mem_of_getElem? he);unfold k169_2;simp only [den_lt, pCL0, pCL2, pCL3, tixM he (lenC _), eltM he, rowC, phi (c263 (c := c.certs) (x := e) hc), phi (c264 (x := e) hF h64 a1 a2), EV, List.length_map, decide_eq_true_eq, if_lt (get_lt he), up1 (show i < 1000000000 by have := get_lt he; omega)]
   cases (c.certs.list.any fun h => decide (h.cert = e)) <;> cases leads c.now (ptOf c.pts e.high) (ptOf c.pts e.low) <;> rfl
  ·unfold k169_2;simp only [EV, List.length_map, decide_eq_true_eq, if_ge, k169_1]
  ·have : (edges.all fun e => (c.certs.list.any fun h => decide (h.cert = e)) && leads c.now (ptOf c.pts e.high) (ptOf c.pts e.low)) = decide (JustR c edges) := by
    rw [Bool.eq_iff_iff, decide_eq_true_eq];unfold JustR;simp [h1]
   rw [this];cases decide (JustR c edges) <;> rfl
 ·rw [if_pos (by omega), decide_eq_false (fun h => h1 h.1)]
theorem certs_nodup {c : Certs} (h : CertsOk c) : (c.list.map (·.cert)).Nodup := by
 rw [nodup_lt];intro i j x hj hi e;rw [List.getElem?_map, Option.map_eq_some_iff] at hi e;obtain ⟨a, ha, rfl⟩ := hi;obtain ⟨b, hb, e⟩ := e;exact (h.2.2.2 i a ha).2.2.2.2 j hj b hb e
theorem just_iff {c : Clock} {edges : List Crt} (hc : CertsOk c.certs) (hn : edges.Nodup) (Q : Crt → Prop) :
  (edges.length = c.certs.list.length ∧ ∀ h ∈ c.certs.list, h.cert ∈ edges ∧ Q h.cert) ↔ (c.certs.list.length = edges.length ∧ ∀ e ∈ edges, (∃ h ∈ c.certs.list, h.cert = e) ∧ Q e) := by
 have key := fun h : (c.certs.list.map (·.cert)).length = edges.length => swap_sub (certs_nodup hc) hn h Q;constructor
 ·rintro ⟨h1, h2⟩;refine ⟨h1.symm, fun e he => ?_⟩;obtain ⟨a, b⟩ := (key (by rw [List.length_map]; omega)).1 (fun x hx => by
   obtain ⟨h, hh, rfl⟩ := List.mem_map.1 hx;exact h2 h hh) e he
  obtain ⟨h, hh, e'⟩ := List.mem_map.1 a;exact ⟨⟨h, hh, e'⟩, b⟩
 ·rintro ⟨h1, h2⟩;refine ⟨h1.symm, fun h hh => ?_⟩;exact (key (by rw [List.length_map]; omega)).2 (fun x hx => by
   obtain ⟨⟨g, hg, e⟩, b⟩ := h2 x hx;exact ⟨List.mem_map.2 ⟨g, hg, e⟩, b⟩) h.cert (List.mem_map.2 ⟨h, hh, rfl⟩)
theorem just_same {c : Clock} {edges : List Crt} (hc : CertsOk c.certs) (hn : edges.Nodup) (hQ : ∀ e ∈ edges, leads c.now (ptOf c.pts e.high) (ptOf c.pts e.low) = true) : JustP c edges ↔ JustR c edges := by
 unfold JustP JustR;rw [← just_iff hc hn];exact ⟨fun h => ⟨h.1, fun x hx => ⟨h.2 x hx, hQ _ (h.2 x hx)⟩⟩, fun h => ⟨h.1, fun x hx => (h.2 x hx).1⟩⟩
end Go.Proofs.YtfghdmmapmdcgaaGreat
