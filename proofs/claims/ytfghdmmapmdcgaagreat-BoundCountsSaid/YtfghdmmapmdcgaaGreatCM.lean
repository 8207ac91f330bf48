import Derived.Test.YtfghdmmapmdcgaaGreatCP
set_option linter.unusedVariables false
set_option linter.unusedSimpArgs false
set_option linter.defProp false
noncomputable section
namespace Go.Proofs.YtfghdmmapmdcgaaGreat
open Go.Sym Bnd
set_option maxRecDepth 100000
section
variable {α : Type} [DecidableEq α] {ks : List Ck} {kc : α → List PV}
theorem mapGet_seen (hl : ∀ a, (kc a).length = ks.length) (he : ∀ a b, eqL ks (kc a) (kc b) = some (decide (a = b))) (v : PV) (k : α) : ∀ seen : List α, mapGet ks (kc k) (seen.map fun a => kc a ++ [v]) = some (if k ∈ seen then some [v] else none)
 | [] => by simp [mapGet, he]
 | a :: l => by
  simp only [List.map_cons, mapGet];rw [List.take_left' (hl a), he, List.drop_left' (hl a)];by_cases e : a = k
  ·subst e; simp
  ·rw [decide_eq_false e];simp only;rw [mapGet_seen hl he v k l]
   congr 1
   have : (k ∈ a :: l) ↔ k ∈ l := by simp [show k ≠ a from fun h => e h.symm]
   simp only [this]
theorem mapSet_new (hl : ∀ a, (kc a).length = ks.length) (he : ∀ a b, eqL ks (kc a) (kc b) = some (decide (a = b))) (v : PV) (k : α) : ∀ seen : List α, k ∉ seen → mapSet ks (kc k) [v] (seen.map fun a => kc a ++ [v]) = some ((seen ++ [k]).map fun a => kc a ++ [v])
 | [], _ => by simp [mapSet, he]
 | a :: l, h => by
  simp only [List.map_cons, List.cons_append, mapSet];rw [List.take_left' (hl a), he, decide_eq_false (fun e => h (by simp [e]))];simp only;rw [mapSet_new hl he v k l (fun e => h (by simp [e]))]
end
abbrev T1 : PV := .bool true
def Nm (seen : List Int) : PV := .sl (seen.map fun n => [.i64 n] ++ [T1])
def Cm (seen : List Crt) : PV := .sl (seen.map fun c => crow c ++ [T1])
theorem eqN (a b : Int) : eqL [.i] [.i64 a] [.i64 b] = some (decide (a = b)) := by
 simp [eqL, eqC]
theorem eqCr (a b : Crt) : eqL [.i, .i] (crow a) (crow b) = some (decide (a = b)) := by
 have h : some (PV.bool (decide (a.low = b.low) && (decide (a.high = b.high) && true))) = some (PV.bool (decide (a = b))) := eqvC a b;injection h with h
 injection h with h
 injection h with h
 rw [← h]; rfl
theorem getN (seen : List Int) (k : Int) : RF.ev (.mget [.i] [.v (.bool false)]) [Nm seen, .v (.int .i64 k)] = some (.bool (decide (k ∈ seen))) := by
 have h := mapGet_seen (ks := [.i]) (kc := fun n : Int => [.i64 n]) (fun _ => rfl) eqN T1 k seen;unfold Nm;simp only [RF.ev, show (PV.v (.int .i64 k)).cells = [.i64 k] from rfl, h]
 by_cases e : k ∈ seen
 ·simp [e]; rfl
 ·simp [e]; rfl
theorem setN (seen : List Int) {k : Int} (h : k ∉ seen) : RF.ev (.mset [.i] 1) [Nm seen, .v (.int .i64 k), .v (.bool true)] = some (Nm (seen ++ [k])) := by
 have h := mapSet_new (ks := [.i]) (kc := fun n : Int => [.i64 n]) (fun _ => rfl) eqN T1 k seen h;unfold Nm;simp only [RF.ev, show (PV.v (.int .i64 k)).cells = [.i64 k] from rfl, show (PV.v (.bool true)).cells = [T1] from rfl, h]
 rfl
theorem getCr (seen : List Crt) (k : Crt) : RF.ev (.mget [.i, .i] [.v (.bool false)]) [Cm seen, CP k] = some (.bool (decide (k ∈ seen))) := by
 have h := mapGet_seen (ks := [.i, .i]) (kc := crow) (fun _ => rfl) eqCr T1 k seen;unfold Cm;simp only [RF.ev, show (CP k).cells = crow k from rfl, h]
 by_cases e : k ∈ seen
 ·simp [e]; rfl
 ·simp [e]; rfl
theorem setCr (seen : List Crt) {k : Crt} (h : k ∉ seen) : RF.ev (.mset [.i, .i] 1) [Cm seen, CP k, .v (.bool true)] = some (Cm (seen ++ [k])) := by
 have h := mapSet_new (ks := [.i, .i]) (kc := crow) (fun _ => rfl) eqCr T1 k seen h;unfold Cm;simp only [RF.ev, show (CP k).cells = crow k from rfl, show (PV.v (.bool true)).cells = [T1] from rfl, h]
 rfl
theorem appC {α : Type} {f : α → List PV} {bytes z : Nat} {l : List α} (h : l.length * bytes ≤ 140737488355328) (hz : ∀ a, (f a).length = z) : RF.ev (.app bytes z) [.sl [], .v (.int .i64 0), .sl (l.map f)] = some (.sl (l.map f)) := by
 have := appM (f := f) (l := []) (k := l) (bytes := bytes) (z := z) (by simpa using h) hz
 simpa using this
theorem d294 {l : List Bool} (hl : l.length ≤ 1000) : Ans D 294 [sl B1 l] [sl B1 l] := by
 refine ans_of k294_ok s294 rfl ⟨1, ?_⟩;unfold k294;simp only [EV, List.length_map, decide_eq_true_eq];have h1 : den (PhiS D) 1 k294_1 [] [sl B1 l, .i64 (l.length : Int), .bool (decide ((l.length : Int) = 0))] = some [sl B1 l] := by
  unfold k294_1;simp only [den_lt, EV, appC (l := l) (f := B1) (bytes := 1) (z := 1) (by omega) lenB, List.length_map, subM]
 by_cases h : (l.length : Int) = 0
 ·have : l = [] := List.eq_nil_of_length_eq_zero (by omega);subst this;rw [if_pos h];exact den_amb rfl h1
 ·rw [if_neg h]; exact h1
theorem c294 {l : List Bool} (_ : 0 < l.length) (hl : l.length ≤ 1000) : Ans D 294 [sl B1 l] [sl B1 l] := d294 hl
theorem c120 {l : List Int} (hl : l.length ≤ 1000) : Ans D 120 [sl I1 l] [sl I1 l] := by
 refine ans_of k120_ok s120 rfl ⟨1, ?_⟩;unfold k120;simp only [EV, List.length_map, decide_eq_true_eq];have h1 : den (PhiS D) 1 k120_1 [] [sl I1 l, .i64 (l.length : Int), .bool (decide ((l.length : Int) = 0))] = some [sl I1 l] := by
  unfold k120_1;simp only [den_lt, EV, appC (l := l) (f := I1) (bytes := 8) (z := 1) (by omega) lenI, List.length_map, subM]
 by_cases h : (l.length : Int) = 0
 ·have : l = [] := List.eq_nil_of_length_eq_zero (by omega);subst this;rw [if_pos h];exact den_amb rfl h1
 ·rw [if_neg h]; exact h1
theorem any_mem {α : Type} [DecidableEq α] (v : α) (l : List α) : l.any (fun y => decide (v = y)) = decide (v ∈ l) := by
 rw [Bool.eq_iff_iff];simp
theorem c415 {l : List Bool} (v : Bool) (hl : l.length ≤ 1000) : Ans D 415 [sl B1 l, .bool v] [.i64 (ixOf (fun y => decide (v = y)) l)] := by
 refine ans_of k415_ok s415 rfl ⟨1001, ?_⟩;unfold k415;simp only [EV, List.length_map];refine (run_find (m := 1001) (l := l) (p := fun y => decide (v = y)) (st := fun i => [.i64 (i : Int)]) (ret := fun i => some [.i64 (i : Int)]) (fin := some [.i64 (-1)]) (fun i a self ha => ?_) (fun self => ?_) (by omega)).trans elimI
 ·unfold k415_2;simp only [tixM ha (lenB _), eltM ha, rowB, EV, decide_eq_true_eq, if_lt (get_lt ha), up1 (show i < 1000000000 by have := get_lt ha; omega), beq_iff_eq]
 ·unfold k415_2;simp only [EV, decide_eq_true_eq, if_ge, k415_1]
theorem c386 {l : List Bool} (v : Bool) (hl : l.length ≤ 1000) : Ans D 386 [sl B1 l, .bool v] [.bool (decide (v ∈ l))] := by
 refine ans_of k386_ok s386 rfl ⟨1, ?_⟩;unfold k386;simp only [EV, phi (c415 v hl), ge_iff_le, ixOf_dec, any_mem]
open Classical in
theorem c325 {s : Slots} (hg : gSl s = false) : Ans D 325 [SL s] [.i64 (okE (decide s.okR))] := by
 unfold gSl at hg;simp only [Bool.or_eq_false_iff, decide_eq_false_iff_not] at hg;rw [show decide s.okR = decide s.okP from decide_eq_decide.2 (Slots.ok_iff s).symm]
 have no : ∀ h : ¬ s.okP, (some [PV.v (.int .i64 8)] : Option (List PV)) = some [.i64 (okE (decide s.okP))] := fun h => by rw [decide_eq_false h]; rfl
 refine ans_of k325_ok s325 rfl ⟨1001, ?_⟩;unfold k325;simp only [den_lt, shSL, cSL0, cSL1, cSL2, EV, List.length_map, decide_eq_true_eq, Bool.not_eq_true', decide_eq_false_iff_not];by_cases h1 : s.uses.length < 1
 ·rw [if_pos (by omega)];exact no (fun h => by have := h.1; omega)
 rw [if_neg (by omega)];by_cases h2 : 200 < s.uses.length
 ·rw [if_pos (by omega)];exact no (fun h => by have := h.2.1; omega)
 rw [if_neg (by omega)];by_cases h3 : s.used.length = s.uses.length
 rotate_left
 ·rw [if_pos (by omega)];exact no (fun h => h3 h.2.2.1)
 rw [if_neg (by omega)];simp only [phi (c294 (l := s.used) (by omega) (by omega)), EV, List.length_map, den_lt, cSL2];refine (run_step (m := 1001) (l := s.free) (g := fun l x => if 0 ≤ x ∧ x < l.length ∧ l[x.toNat]? = some false then some (l.set x.toNat true) else none) (I := fun l => l.length = s.uses.length) (S := fun l i => [sl B1 l, .i64 (i : Int)]) (r := some [.i64 8])
  (fin := fun acc => some [.i64 (okE (decide s.okP))]) (x := s.used) h3 (fun a acc acc' hI hg => ?_) (fun i x acc self hx hI => ?_) (fun acc self hI hm => ?_) (by omega)).trans ?_
 ·split at hg
  ·cases hg; simpa using hI
  ·cases hg
 ·unfold k325_14;have hi := get_lt hx;simp only [den_lt, cSL2, tixM hx (lenI _), eltM hx, rowI, EV, List.length_map, decide_eq_true_eq, if_lt hi, ge_iff_le, show ((0 : Int) ≤ (i : Int)) by omega, if_true]
  by_cases c1 : x < 0
  ·rw [if_pos c1, if_neg (by omega)]
  ·rw [if_neg c1];by_cases c2 : (s.uses.length : Int) ≤ x
   ·rw [if_pos c2, if_neg (by rw [hI]; omega)]
   ·rw [if_neg c2];obtain ⟨n, rfl⟩ := natI (show 0 ≤ x by omega)
    obtain ⟨b, hb⟩ : ∃ b, acc[n]? = some b := ⟨acc[n]'(by omega), List.getElem?_eq_getElem _⟩;simp only [den_lt, cSL2, tixM hx (lenI _), eltM hx, rowI, ixM (show n < s.used.length by omega), eltM hb, rowB, setB (show n < acc.length by omega), EV, up1 (show i < 1000000000 by omega)]
    cases b with
    | true =>
     rw [if_pos rfl, if_pos (show decide ((0 : Int) ≤ (i : Int)) = true from decide_eq_true (by omega)), if_neg (fun g => by have := g.2.2; rw [Int.toNat_natCast, hb] at this; cases this)]
    | false => rw [if_neg (by simp), if_pos ⟨by omega, by omega, by rw [Int.toNat_natCast]; exact hb⟩, Int.toNat_natCast]
 ·rw [← markF_fold] at hm;have su : RF.ev .sub [sl B1 acc, .v (.int .i64 0), .v (.int .i64 (s.used.length : Int))] = some (sl B1 acc) := by rw [h3, ← hI]; exact subM
  unfold k325_14;simp only [den_lt, EV, decide_eq_true_eq, if_ge, k325_4, su, cSL0, List.length_map, phi (c386 (l := acc) false (by omega)), ge_iff_le, show ¬ ((0 : Int) ≤ -1) by omega, if_false]
  by_cases c1 : false ∈ acc
  ·simp only [c1, if_true];exact no (fun h => by
    obtain ⟨l, e1, e2⟩ := h.2.2.2.1;rw [hm] at e1; cases e1;exact e2 c1)
  simp only [c1, if_false];refine (run_if (m := 1001) (n := s.uses.length) (P := fun i => ∀ u, s.uses[i]? = some u → 0 ≤ u ∧ u ≤ 1000000 ∧ ¬ (u = 0 ∧ s.used[i]? = some true)) (st := fun i => [.i64 (i : Int)]) (r := some [.i64 8]) (fin := some [.i64 0]) (fun i self hi _ => ?_) (fun _ self => ?_) (by omega)).trans ?_
  ·obtain ⟨u, hu⟩ : ∃ u, s.uses[i]? = some u := ⟨s.uses[i], List.getElem?_eq_getElem _⟩;obtain ⟨b, hb⟩ : ∃ b, s.used[i]? = some b := ⟨s.used[i]'(by omega), List.getElem?_eq_getElem _⟩;have hP : (∀ u', s.uses[i]? = some u' → 0 ≤ u' ∧ u' ≤ 1000000 ∧ ¬ (u' = 0 ∧ s.used[i]? = some true)) ↔ (0 ≤ u ∧ u ≤ 1000000 ∧ ¬ (u = 0 ∧ b = true)) := by
    rw [hu, hb];simp
   unfold k325_3;simp only [hP, den_lt, cSL0, cSL1, tixM hu (lenI _), eltM hu, rowI, tixM hb (lenB _), eltM hb, rowB, EV, decide_eq_true_eq, if_lt hi, k325_2, up1 (show i < 1000000000 by omega)]
   by_cases c1 : u < 0
   ·simp only [if_pos c1, if_true];rw [if_neg (by omega)]
   simp only [if_neg c1];by_cases c2 : 1000000 < u
   ·simp only [if_pos c2, if_true];rw [if_neg (by omega)]
   simp only [if_neg c2];by_cases c3 : u = 0
   ·simp only [if_pos c3];cases b with
    | true => simp [c3]
    | false => simp [c3]
   ·simp only [if_neg c3, Bool.false_eq_true, if_false];rw [if_pos ⟨by omega, by omega, fun h => c3 h.1⟩]
  ·unfold k325_3;simp only [EV, decide_eq_true_eq, if_ge, k325_1]
  ·by_cases hr : s.okP
   ·rw [if_pos (fun i _ => hr.2.2.2.2 i), decide_eq_true hr]; rfl
   ·rw [if_neg (fun h => hr ⟨by omega, by omega, h3, ⟨acc, hm, c1⟩, fun i u hu => h i (get_lt hu) u hu⟩), decide_eq_false hr]; rfl
 ·rw [← markF_fold];cases hm : markF s.used s.free with
  | some l => rfl
  | none =>
   exact no (fun h => by
    obtain ⟨l, e1, _⟩ := h.2.2.2.1;rw [hm] at e1; cases e1)
def cmpE (x y : Evt) : Int := if sgn (crs x.time y.time) = 0 then sgn (x.number - y.number) else sgn (crs x.time y.time)
theorem cmpE_lt (x y : Evt) : cmpE x y < 0 ↔ evLess x y = true := by
 unfold cmpE evLess;have := sgn_cases x.number y.number;by_cases h : sgn (crs x.time y.time) = 0
 ·rw [if_pos h, this];simp [h];split
  ·simp; omega
  ·split <;> simp <;> omega
 ·rw [if_neg h];simp [h]
theorem c326 {x y : Evt} (hx : In64 x.time) (hy : In64 y.time) (rx : rok x.time = true) (ry : rok y.time = true) : Ans D 326 [EP x, EP y] [.i64 (cmpE x y)] := by
 have e := phi (c117 hx hy);rw [rx, ry, Bool.and_self, if_pos rfl] at e;have bs : RF.ev (.bs 2 [KP.z] [0, 1]) [.v (.int .i64 (sgn (crs x.time y.time))), .v (.int .i64 (sgn (x.number - y.number)))] = some (.sl [[.i64 (sgn (crs x.time y.time))], [.i64 (sgn (x.number - y.number))]]) := rfl;have su : ∀ a b : List PV, RF.ev .sub [.sl [a, b], .v (.int .i64 0), .v (.int .i64 2)] = some (.sl [a, b]) := fun a b => rfl;refine ans_of k326_ok s326 rfl ⟨1, ?_⟩;unfold k326 cmpE;simp only [den_lt, shEP, pEP, cEP2, EV, e, phi (c354 _ _), bs, su, phi (orr _ _)]
def lastN (c : Certs) : Nat → Int
 | 0 => -1
 | i + 1 => ((c.list[i]?).map Held.number).getD (-1)
def CertP (c : Certs) (j : Nat) (h : Held) : Prop := h.cert.ok ∧ (∀ k, k < j → ∀ g, c.list[k]? = some g → g.cert ≠ h.cert) ∧ lastN c j < h.number ∧ h.number < c.next
theorem certP_iff {c : Certs} (h1 : c.list.length ≤ 200) (h2 : 0 ≤ c.next) (h3 : c.next ≤ 1000000) : (∀ j h, c.list[j]? = some h → CertP c j h) ↔ CertsOk c := by
 constructor
 ·intro h;have nn : ∀ (j : Nat) (g : Held), c.list[j]? = some g → 0 ≤ g.number := by
   intro j;induction j with
   | zero => intro g hg; have := (h 0 g hg).2.2.1; simp only [lastN] at this; omega
   | succ j ih =>
    intro g hg;obtain ⟨p, hp⟩ : ∃ p, c.list[j]? = some p := ⟨c.list[j]'(by have := get_lt hg; omega), List.getElem?_eq_getElem _⟩;have h5 := (h (j + 1) g hg).2.2.1;simp only [lastN, hp, Option.map_some, Option.getD_some] at h5;have := ih p hp;omega
  refine ⟨h1, h2, h3, fun i x hx => ⟨(h i x hx).1, nn i x hx, (h i x hx).2.2.2, fun g hi hg => ?_, (h i x hx).2.1⟩⟩;obtain ⟨i, rfl⟩ : ∃ k, i = k + 1 := ⟨i - 1, by omega⟩;have := (h (i + 1) x hx).2.2.1;rw [Nat.add_sub_cancel] at hg;simp only [lastN, hg, Option.map_some, Option.getD_some] at this;exact this
 ·rintro ⟨_, _, _, h⟩ j x hx;obtain ⟨a1, a2, a3, a4, a5⟩ := h j x hx;refine ⟨a1, a5, ?_, a3⟩;cases j with
  | zero => simp only [lastN]; omega
  | succ j =>
   obtain ⟨p, hp⟩ : ∃ p, c.list[j]? = some p := ⟨c.list[j]'(by have := get_lt hx; omega), List.getElem?_eq_getElem _⟩;simp only [lastN, hp, Option.map_some, Option.getD_some];exact a4 p (by omega) (by simpa using hp)
theorem seen_iff {c : Certs} {i : Nat} {k : Crt} : k ∉ (c.list.take i).map (·.cert) ↔ ∀ j, j < i → ∀ g, c.list[j]? = some g → g.cert ≠ k := by
 constructor
 ·intro h j hj g hg e;exact h (List.mem_map.2 ⟨g, List.mem_iff_getElem?.2 ⟨j, by rw [List.getElem?_take_of_lt hj]; exact hg⟩, e⟩)
 ·intro h hm;obtain ⟨g, hg, e⟩ := List.mem_map.1 hm;obtain ⟨j, hj⟩ := List.mem_iff_getElem?.1 hg;rw [List.getElem?_take] at hj;split at hj
  ·exact h j (by assumption) g hj e
  ·cases hj
open Classical in
theorem c244 {c : Certs} (hl : c.list.length ≤ 1000) : Ans D 244 [CS c] [.i64 (okE (decide (CertsOk c)))] := by
 refine ans_of k244_ok s244 rfl ⟨1001, ?_⟩;unfold k244;have no : ∀ h : ¬ CertsOk c, (some [PV.v (.int .i64 8)] : Option (List PV)) = some [.i64 (okE (decide (CertsOk c)))] := fun h => by rw [decide_eq_false h]; rfl
 simp only [den_lt, shCS, cCS0, cCS1, EV, List.length_map, decide_eq_true_eq, gt_iff_lt];by_cases h1 : 200 < c.list.length
 ·rw [if_pos (by omega)];exact no (fun h => by have := h.1; omega)
 rw [if_neg (by omega)];by_cases h2 : c.next < 0
 ·rw [if_pos h2];exact no (fun h => by have := h.2.1; omega)
 rw [if_neg h2];by_cases h3 : 1000000 < c.next
 ·rw [if_pos h3];exact no (fun h => by have := h.2.2.1; omega)
 rw [if_neg h3];refine (run_if (n := c.list.length) (P := fun i => ∀ h, c.list[i]? = some h → CertP c i h) (st := fun i => [Cm ((c.list.take i).map (·.cert)), .i64 (lastN c i), .i64 (i : Int)]) (r := some [.i64 8]) (fin := some [.i64 0]) (fun i self hi _ => ?_) (fun _ self => ?_) (by omega)).trans ?_
 ·obtain ⟨h, hh⟩ : ∃ h, c.list[i]? = some h := ⟨c.list[i], List.getElem?_eq_getElem _⟩;have hP : (∀ h', c.list[i]? = some h' → CertP c i h') ↔ CertP c i h := ⟨fun x => x h hh, fun x h' e => by rw [hh] at e; cases e; exact x⟩;have hs : (c.list.take (i + 1)).map (·.cert) = (c.list.take i).map (·.cert) ++ [h.cert] := by
   rw [List.take_add_one, hh]; simp
  have hn : lastN c (i + 1) = h.number := by simp only [lastN, hh, Option.map_some, Option.getD_some]
  unfold k244_2;simp only [hP, hs, hn, den_lt, cCS0, cCS1, tixM hh (lenH _), eltM hh, rowH, pHP, cHP0, phi (c324 _), getCr, EV, List.length_map, decide_eq_true_eq, if_lt hi, Bool.not_eq_true', decide_eq_false_iff_not, ge_iff_le];by_cases a1 : h.cert.ok
  rotate_left
  ·rw [if_pos a1, if_neg (fun x => a1 x.1)]
  rw [if_neg (not_not_intro a1)];by_cases a2 : h.cert ∈ (c.list.take i).map (·.cert)
  ·rw [if_pos a2, if_neg (fun x => absurd a2 (seen_iff.2 x.2.1))]
  rw [if_neg a2];by_cases a3 : h.number ≤ lastN c i
  ·rw [if_pos a3, if_neg (fun x => by have := x.2.2.1; omega)]
  rw [if_neg a3];by_cases a4 : c.next ≤ h.number
  ·rw [if_pos a4, if_neg (fun x => by have := x.2.2.2; omega)]
  rw [if_neg a4, if_pos ⟨a1, seen_iff.1 a2, by omega, by omega⟩];simp only [den_lt, pHP, cHP0, setCr _ a2, EV, up1 (show i < 1000000000 by omega)]
 ·unfold k244_2;simp only [den_lt, cCS1, EV, List.length_map, decide_eq_true_eq, if_ge, k244_1]
 ·have : (∀ i, i < c.list.length → ∀ h, c.list[i]? = some h → CertP c i h) ↔ CertsOk c := by
   rw [← certP_iff (by omega) (by omega) (by omega)];exact ⟨fun h i x hx => h i (get_lt hx) x hx, fun h i _ => h i⟩
  by_cases hr : CertsOk c
  ·rw [if_pos (this.2 hr), decide_eq_true hr]; rfl
  ·rw [if_neg (fun h => hr (this.1 h)), decide_eq_false hr]; rfl
theorem eqvHD (p q : Hnd) : RF.ev (.eqv [.i, .i]) [HD p, HD q] = some (.bool (decide (p = q))) := by
 obtain ⟨a, b⟩ := p;obtain ⟨c, d⟩ := q;show some (PV.bool (decide (a = c) && (decide (b = d) && true))) = _
 congr 2
 by_cases h1 : a = c <;> by_cases h2 : b = d <;> simp [h1, h2]
open Classical in
theorem c245 {a : Agenda} (hg : gAg a = false) (h64 : ∀ e ∈ a.heap, In64 e.time) : Ans D 245 [AG a] [.i64 (okE (decide (AgOk a)))] := by
 have hgs := hg;unfold gAg at hgs;simp only [Bool.or_eq_false_iff, decide_eq_false_iff_not] at hgs;have hsl : a.slots.uses.length ≤ 210 ∧ a.slots.used.length ≤ 210 ∧ a.slots.free.length ≤ 210 := by
  have := hgs.1.1;unfold gSl at this;simp only [Bool.or_eq_false_iff, decide_eq_false_iff_not] at this;omega
 have cAG0 : RF.ev (.cell 0) [AG a] = some (sl I1 a.slots.uses) := rfl;have cAG1 : RF.ev (.cell 1) [AG a] = some (sl B1 a.slots.used) := rfl;have cAG2 : RF.ev (.cell 2) [AG a] = some (sl I1 a.slots.free) := rfl;have no : ∀ h : ¬ AgOk a, (some [PV.v (.int .i64 8)] : Option (List PV)) = some [.i64 (okE (decide (AgOk a)))] := fun h => by rw [decide_eq_false h]; rfl
 refine ans_of k245_ok s245 rfl ⟨1001, ?_⟩;unfold k245;simp only [den_lt, shAG, pAG, cAG1, cAG2, cAG3, cAG4, EV, List.length_map, phi (c325 hgs.1.1), okE_ne, decide_eq_true_eq, Bool.not_eq_true', decide_eq_false_iff_not, w_i64 (show -9223372036854775808 ≤ (a.slots.used.length : Int) - (a.slots.free.length : Int) by omega) (by omega)]
 by_cases q1 : a.slots.okR
 rotate_left
 ·rw [if_pos (by rw [decide_eq_false q1]; decide)]; exact no (fun h => q1 h.1)
 rw [if_neg (by rw [decide_eq_true q1]; decide)];obtain ⟨g1, g2, g3, g4, _⟩ := id q1;by_cases q2 : a.wher.length = a.slots.used.length
 rotate_left
 ·rw [if_pos (by omega)]; exact no (fun h => q2 (by rw [h.2.1.1, g3]))
 rw [if_neg (by omega)];by_cases q3 : a.heap.length + a.slots.free.length = a.slots.used.length
 rotate_left
 ·rw [if_pos (by omega)]; exact no (fun h => q3 (by rw [h.2.1.2.1, g3]))
 rw [if_neg (by omega)];refine (run_if (n := a.wher.length) (P := fun i => ∀ (b : Bool) (w u : Int), a.slots.used[i]? = some b → a.wher[i]? = some w → a.slots.uses[i]? = some u → if b = true then 0 ≤ w ∧ ∃ e, a.heap[w.toNat]? = some e ∧ e.hnd = ⟨i, u⟩ else w = -1) (st := fun i => [.i64 (i : Int)]) (r := some [.i64 8]) (fin := some [.i64 (okE (decide (AgOk a)))]) (fun i self hi _ => ?_) (fun hall self => ?_) (by omega)).trans ?_
 ·obtain ⟨u, hu⟩ : ∃ u, a.slots.uses[i]? = some u := ⟨a.slots.uses[i]'(by omega), List.getElem?_eq_getElem _⟩;obtain ⟨b, hb⟩ : ∃ b, a.slots.used[i]? = some b := ⟨a.slots.used[i]'(by omega), List.getElem?_eq_getElem _⟩;obtain ⟨w, hw⟩ : ∃ w, a.wher[i]? = some w := ⟨a.wher[i]'(by omega), List.getElem?_eq_getElem _⟩;have hP : (∀ (b' : Bool) (w' u' : Int), a.slots.used[i]? = some b' → a.wher[i]? = some w' → a.slots.uses[i]? = some u' → if b' = true then 0 ≤ w' ∧ ∃ e, a.heap[w'.toNat]? = some e ∧ e.hnd = ⟨i, u'⟩ else w' = -1) ↔ (if b = true then 0 ≤ w ∧ ∃ e, a.heap[w.toNat]? = some e ∧ e.hnd = ⟨i, u⟩ else w = -1) :=
   ⟨fun h => h b w u hb hw hu, fun h b' w' u' h1 h2 h3 => by rw [hu] at h3; rw [hb] at h1; rw [hw] at h2; cases h1; cases h2; cases h3; exact h⟩
  have nxt := up1 (show i < 1000000000 by omega)
  unfold k245_6;simp only [hP, den_lt, cAG1, cAG3, cAG4, tixM hb (lenB _), eltM hb, rowB, tixM hw (lenI _), eltM hw, rowI, EV, List.length_map, decide_eq_true_eq, if_lt hi];cases b with
  | false =>
   simp only [Bool.not_false, if_true, Bool.false_eq_true, if_false, EV, Bool.not_eq_true', decide_eq_false_iff_not];by_cases c1 : w = -1
   ·rw [if_neg (by omega), if_pos c1];unfold k245_5;simp only [EV, nxt]
   ·rw [if_pos c1, if_neg c1]
  | true =>
   simp only [Bool.not_true, Bool.false_eq_true, if_false, if_true, ge_iff_le];by_cases c1 : w < 0
   ·rw [if_pos c1, if_neg (by omega)]
   rw [if_neg c1];obtain ⟨n, rfl⟩ := natI (show 0 ≤ w by omega)
   by_cases c2 : a.heap.length ≤ n
   ·rw [if_pos (by omega), if_neg (fun h => by
     obtain ⟨_, e, he, _⟩ := h;have := get_lt he;omega)]
   rw [if_neg (by omega)];obtain ⟨e, he⟩ : ∃ e, a.heap[n]? = some e := ⟨a.heap[n]'(by omega), List.getElem?_eq_getElem _⟩;have ag : RF.ev .agg [.v (.int .i64 (i : Int)), .v (.int .i64 u)] = some (HD ⟨i, u⟩) := rfl;simp only [den_lt, cAG0, cAG3, tixM he (lenE _), eltM he, rowEh, tixM hu (lenI _), eltM hu, rowI, ag, eqvHD, EV, Int.toNat_natCast, Bool.not_eq_true', decide_eq_false_iff_not];by_cases c3 : e.hnd = ⟨i, u⟩
   ·rw [if_neg (not_not_intro c3), if_pos ⟨by omega, e, he, c3⟩];unfold k245_5;simp only [EV, nxt]
   ·rw [if_pos c3, if_neg (fun h => by
     obtain ⟨_, e', he', h'⟩ := h;rw [he] at he'; cases he';exact c3 h')]
 ·have hpl : Placed a := ⟨by omega, by omega, fun i b w u hb hw hu => hall i (get_lt hw) b w u hb hw hu⟩;unfold k245_6;simp only [EV, decide_eq_true_eq, if_ge];unfold k245_4;simp only [den_lt, cAG3, EV, List.length_map];refine (run_if (n := a.heap.length) (P := fun i => ∀ e, a.heap[i]? = some e → EvOk e ∧ (∀ k, k < i → ∀ e', a.heap[k]? = some e' → e'.number ≠ e.number) ∧ ∀ p, 0 < i → a.heap[(i - 1) / 2]? = some p → evLess e p = false) (st := fun i => [Nm ((a.heap.take i).map (·.number)), .i64 (i : Int)]) (r := some [.i64 8]) (fin := some [.i64 0]) (fun i self hi hbef => ?_) (fun _ self => ?_) (by omega)).trans ?_
  ·obtain ⟨e, he⟩ : ∃ e, a.heap[i]? = some e := ⟨a.heap[i], List.getElem?_eq_getElem _⟩;have hP : (∀ e', a.heap[i]? = some e' → EvOk e' ∧ (∀ k, k < i → ∀ x, a.heap[k]? = some x → x.number ≠ e'.number) ∧ ∀ p, 0 < i → a.heap[(i - 1) / 2]? = some p → evLess e' p = false) ↔ (EvOk e ∧ (∀ k, k < i → ∀ x, a.heap[k]? = some x → x.number ≠ e.number) ∧ ∀ p, 0 < i → a.heap[(i - 1) / 2]? = some p → evLess e p = false) :=
    ⟨fun h => h e he, fun h e' h1 => by rw [he] at h1; cases h1; exact h⟩
   have hs : (a.heap.take (i + 1)).map (·.number) = (a.heap.take i).map (·.number) ++ [e.number] := by
    rw [List.take_add_one, he]; simp
   have hseen : e.number ∉ (a.heap.take i).map (·.number) ↔ ∀ k, k < i → ∀ x, a.heap[k]? = some x → x.number ≠ e.number := by
    constructor
    ·intro h j hj g hg e';exact h (List.mem_map.2 ⟨g, List.mem_iff_getElem?.2 ⟨j, by rw [List.getElem?_take_of_lt hj]; exact hg⟩, e'⟩)
    ·intro h hm;obtain ⟨g, hg, e'⟩ := List.mem_map.1 hm;obtain ⟨j, hj⟩ := List.mem_iff_getElem?.1 hg;rw [List.getElem?_take] at hj;split at hj
     ·exact h j (by assumption) g hj e'
     ·cases hj
   unfold k245_3;simp only [hP, hs, den_lt, cAG3, tixM he (lenE _), eltM he, rowE, pEP, cEP2, phi (c43 (h64 e (List.mem_of_getElem? he))), okE_ne, getN, EV, List.length_map, decide_eq_true_eq, if_lt hi, gt_iff_lt];by_cases c1 : rok e.time = true
   rotate_left
   ·rw [if_neg c1, if_neg (fun h => c1 h.1.1)]
   rw [if_pos c1];by_cases c2 : e.number < 0
   ·rw [if_pos c2, if_neg (fun h => by have := h.1.2; omega)]
   rw [if_neg c2];by_cases c3 : 1000000 < e.number
   ·rw [if_pos c3, if_neg (fun h => by have := h.1.2; omega)]
   rw [if_neg c3];by_cases c4 : e.number ∈ (a.heap.take i).map (·.number)
   ·rw [if_pos c4, if_neg (fun h => absurd c4 (hseen.2 h.2.1))]
   rw [if_neg c4];have nxt := up1 (show i < 1000000000 by omega)
   simp only [den_lt, cEP2, setN _ c4, EV, decide_eq_true_eq];cases i with
   | zero =>
    rw [if_neg (by omega), if_pos ⟨⟨c1, by omega, by omega⟩, hseen.1 c4, fun p h => absurd h (Nat.lt_irrefl _)⟩];unfold k245_2;simp only [EV, Bool.false_eq_true, if_false, nxt]
   | succ j =>
    obtain ⟨p, hp⟩ : ∃ p, a.heap[j / 2]? = some p := ⟨a.heap[j / 2]'(by omega), List.getElem?_eq_getElem _⟩;have rp : rok p.time = true := (hbef (j / 2) (by omega) p hp).1.1;rw [if_pos (by omega)];simp only [den_lt, f_bin, half (show j < 1000000 by omega), cAG3, tixM hp (lenE _), eltM hp, rowE, phi (c326 (h64 e (List.mem_of_getElem? he)) (h64 p (List.mem_of_getElem? hp)) c1 rp), EV]
    unfold k245_2;simp only [EV, decide_eq_true_eq, nxt];by_cases c5 : cmpE e p < 0
    ·rw [if_pos c5, if_neg (fun h => by
      have := h.2.2 p (by omega) (by simpa using hp)
      rw [(cmpE_lt e p).1 c5] at this; cases this)]
    ·rw [if_neg c5, if_pos ⟨⟨c1, by omega, by omega⟩, hseen.1 c4, fun q _ hq => by
      rw [Nat.add_sub_cancel, hp] at hq;cases hq;cases h : evLess e p with
      | false => rfl
      | true => exact absurd ((cmpE_lt e p).2 h) c5⟩]
  ·unfold k245_3;simp only [EV, decide_eq_true_eq, if_ge, k245_1]
  ·have : (∀ i, i < a.heap.length → ∀ e, a.heap[i]? = some e → EvOk e ∧ (∀ k, k < i → ∀ e', a.heap[k]? = some e' → e'.number ≠ e.number) ∧ ∀ p, 0 < i → a.heap[(i - 1) / 2]? = some p → evLess e p = false) ↔ AgOk a := by
    constructor
    ·intro h;refine ⟨q1, hpl, fun e he => ?_, ?_, fun i e p he hp => ?_⟩
     ·obtain ⟨i, hi⟩ := List.mem_iff_getElem?.1 he;exact (h i (get_lt hi) e hi).1
     ·rw [nodup_lt];intro i j x hj hi hjx;rw [List.getElem?_map, Option.map_eq_some_iff] at hi hjx;obtain ⟨e, he, rfl⟩ := hi;obtain ⟨e', he', h'⟩ := hjx;exact (h i (get_lt he) e he).2.1 j hj e' he' h'
     ·exact (h (i + 1) (get_lt he) e he).2.2 p (by omega) (by rw [Nat.add_sub_cancel]; exact hp)
    ·rintro ⟨_, _, h3, h4, h5⟩ i hi e he;rw [nodup_lt] at h4;refine ⟨h3 e (List.mem_of_getElem? he), fun k hk e' he' hn => ?_, fun p hp0 hp => ?_⟩
     ·exact h4 i k e.number hk (by rw [List.getElem?_map, he]; rfl) (by rw [List.getElem?_map, he', Option.map_some, hn])
     ·obtain ⟨j, rfl⟩ : ∃ j, i = j + 1 := ⟨i - 1, by omega⟩;exact h5 j e p he (by rw [Nat.add_sub_cancel] at hp; exact hp)
   by_cases hr : AgOk a
   ·rw [if_pos (this.2 hr), decide_eq_true hr]; rfl
   ·rw [if_neg (fun h => hr (this.1 h)), decide_eq_false hr]; rfl
 ·by_cases hall : ∀ i, i < a.wher.length → ∀ (b : Bool) (w u : Int), a.slots.used[i]? = some b → a.wher[i]? = some w → a.slots.uses[i]? = some u → if b = true then 0 ≤ w ∧ ∃ e, a.heap[w.toNat]? = some e ∧ e.hnd = ⟨i, u⟩ else w = -1
  ·rw [if_pos hall]
  ·rw [if_neg hall];exact no (fun h => hall fun i _ => h.2.1.2.2 i)
end Go.Proofs.YtfghdmmapmdcgaaGreat
