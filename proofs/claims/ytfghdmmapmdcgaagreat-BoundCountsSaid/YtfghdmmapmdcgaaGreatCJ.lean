import Derived.Test.YtfghdmmapmdcgaaGreatCI
set_option linter.unusedVariables false
set_option linter.unusedSimpArgs false
set_option linter.defProp false
noncomputable section
namespace Go.Proofs.YtfghdmmapmdcgaaGreat
open Go.Sym Bnd
set_option maxRecDepth 100000
structure Crt where
 low : Int
 high : Int
 deriving DecidableEq
structure Held where
 number : Int
 cert : Crt
 deriving DecidableEq
structure Hnd where
 index : Int
 use : Int
 deriving DecidableEq
structure Evt where
 time : Rt
 number : Int
 hnd : Hnd
 deriving DecidableEq
structure Due where
 number : Int
 hnd : Hnd
 deriving DecidableEq
structure Nod where
 id : Int
 left : Int
 right : Int
 deriving DecidableEq
structure Certs where
 next : Int
 list : List Held
 deriving DecidableEq
structure Agenda where
 slots : Slots
 heap : List Evt
 wher : List Int
 deriving DecidableEq
structure Clock where
 now : Rt
 pts : List Pt
 certs : Certs
 agenda : Agenda
 due : List Due
 deriving DecidableEq
structure Brk where
 places : List Int
 wins : List Int
 deriving DecidableEq
structure Tree where
 root : Int
 nodes : List Nod
 deriving DecidableEq
structure KHeap where
 clock : Clock
 heap : List Int
 deriving DecidableEq
structure KTourn where
 clock : Clock
 brk : Brk
 deriving DecidableEq
structure Heater where
 clock : Clock
 tree : Tree
 deriving DecidableEq
structure Choice where
 tag : Int
 heap : KHeap
 tourn : KTourn
 heater : Heater
 hanger : KHeap
 deriving DecidableEq
def crow (c : Crt) : List PV := [.i64 c.low, .i64 c.high]
def hrow (h : Held) : List PV := [.i64 h.number, .i64 h.cert.low, .i64 h.cert.high]
def erow (e : Evt) : List PV := [.i64 e.time.num, .i64 e.time.den, .i64 e.number, .i64 e.hnd.index, .i64 e.hnd.use]
def drow (d : Due) : List PV := [.i64 d.number, .i64 d.hnd.index, .i64 d.hnd.use]
def nrow (n : Nod) : List PV := [.i64 n.id, .i64 n.left, .i64 n.right]
def CP (c : Crt) : PV := .agg (crow c)
def HP (h : Held) : PV := .agg (hrow h)
def EP (e : Evt) : PV := .agg (erow e)
def DP (d : Due) : PV := .agg (drow d)
def NP (n : Nod) : PV := .agg (nrow n)
def csC (c : Certs) : List PV := [.i64 c.next, sl hrow c.list]
def slC (s : Slots) : List PV := [sl I1 s.uses, sl B1 s.used, sl I1 s.free]
def agC (a : Agenda) : List PV := slC a.slots ++ [sl erow a.heap, sl I1 a.wher]
def clC (c : Clock) : List PV := .i64 c.now.num :: .i64 c.now.den :: sl row c.pts :: (csC c.certs ++ (agC c.agenda ++ [sl drow c.due]))
def brC (b : Brk) : List PV := [sl I1 b.places, sl I1 b.wins]
def trC (t : Tree) : List PV := [.i64 t.root, sl nrow t.nodes]
def khC (k : KHeap) : List PV := clC k.clock ++ [sl I1 k.heap]
def ktC (k : KTourn) : List PV := clC k.clock ++ brC k.brk
def htC (k : Heater) : List PV := clC k.clock ++ trC k.tree
def choC (c : Choice) : List PV := .v (.int .u8 c.tag) :: (khC c.heap ++ (ktC c.tourn ++ (htC c.heater ++ khC c.hanger)))
def CS (c : Certs) : PV := .agg (csC c)
def SL (s : Slots) : PV := .agg (slC s)
def AG (a : Agenda) : PV := .agg (agC a)
def CL (c : Clock) : PV := .agg (clC c)
def BR (b : Brk) : PV := .agg (brC b)
def TR (t : Tree) : PV := .agg (trC t)
def KH (k : KHeap) : PV := .agg (khC k)
def KT (k : KTourn) : PV := .agg (ktC k)
def HT (k : Heater) : PV := .agg (htC k)
def CHO (c : Choice) : PV := .agg (choC c)
theorem rowC (c : Crt) : rowPart 0 2 (crow c) = some (CP c) := rfl
theorem rowH (h : Held) : rowPart 0 3 (hrow h) = some (HP h) := rfl
theorem rowHc (h : Held) : rowPart 1 2 (hrow h) = some (CP h.cert) := rfl
theorem rowH0 (h : Held) : rowPart 0 0 (hrow h) = some (.i64 h.number) := rfl
theorem rowH1 (h : Held) : rowPart 1 0 (hrow h) = some (.i64 h.cert.low) := rfl
theorem rowH2 (h : Held) : rowPart 2 0 (hrow h) = some (.i64 h.cert.high) := rfl
theorem rowE (e : Evt) : rowPart 0 5 (erow e) = some (EP e) := rfl
theorem rowD (d : Due) : rowPart 0 3 (drow d) = some (DP d) := rfl
theorem rowN (n : Nod) : rowPart 0 3 (nrow n) = some (NP n) := rfl
theorem lenC (c : Crt) : (crow c).length = 2 := rfl
theorem lenH (c : Held) : (hrow c).length = 3 := rfl
theorem lenE (c : Evt) : (erow c).length = 5 := rfl
theorem lenD (c : Due) : (drow c).length = 3 := rfl
theorem lenN (c : Nod) : (nrow c).length = 3 := rfl
section
variable (c : Certs) (s : Slots) (a : Agenda) (k : Clock) (b : Brk) (t : Tree) (kh : KHeap) (kt : KTourn) (ht : Heater) (ch : Choice) (cr : Crt) (h : Held)
theorem shCP : RF.ev (.shape 2) [CP cr] = some (CP cr) := rfl
theorem cCP0 : RF.ev (.cell 0) [CP cr] = some (.i64 cr.low) := rfl
theorem cCP1 : RF.ev (.cell 1) [CP cr] = some (.i64 cr.high) := rfl
theorem cHP0 : RF.ev (.cell 0) [HP h] = some (.i64 h.number) := rfl
theorem pHP : RF.ev (.part 1 2) [HP h] = some (CP h.cert) := rfl
theorem shCS : RF.ev (.shape 2) [CS c] = some (CS c) := rfl
theorem cCS0 : RF.ev (.cell 0) [CS c] = some (.i64 c.next) := rfl
theorem cCS1 : RF.ev (.cell 1) [CS c] = some (sl hrow c.list) := rfl
theorem shSL : RF.ev (.shape 3) [SL s] = some (SL s) := rfl
theorem cSL0 : RF.ev (.cell 0) [SL s] = some (sl I1 s.uses) := rfl
theorem cSL1 : RF.ev (.cell 1) [SL s] = some (sl B1 s.used) := rfl
theorem cSL2 : RF.ev (.cell 2) [SL s] = some (sl I1 s.free) := rfl
theorem shAG : RF.ev (.shape 5) [AG a] = some (AG a) := rfl
theorem pAG : RF.ev (.part 0 3) [AG a] = some (SL a.slots) := rfl
theorem cAG3 : RF.ev (.cell 3) [AG a] = some (sl erow a.heap) := rfl
theorem cAG4 : RF.ev (.cell 4) [AG a] = some (sl I1 a.wher) := rfl
theorem shCL : RF.ev (.shape 11) [CL k] = some (CL k) := rfl
theorem pCL0 : RF.ev (.part 0 2) [CL k] = some (R k.now) := rfl
theorem pCL2 : RF.ev (.part 2 1) [CL k] = some (F k.pts) := rfl
theorem pCL3 : RF.ev (.part 3 2) [CL k] = some (CS k.certs) := rfl
theorem pCL5 : RF.ev (.part 5 5) [CL k] = some (AG k.agenda) := rfl
theorem cCL2 : RF.ev (.cell 2) [CL k] = some (sl row k.pts) := rfl
theorem cCL4 : RF.ev (.cell 4) [CL k] = some (sl hrow k.certs.list) := rfl
theorem cCL8 : RF.ev (.cell 8) [CL k] = some (sl erow k.agenda.heap) := rfl
theorem cCL9 : RF.ev (.cell 9) [CL k] = some (sl I1 k.agenda.wher) := rfl
theorem cCL10 : RF.ev (.cell 10) [CL k] = some (sl drow k.due) := rfl
theorem shBR : RF.ev (.shape 2) [BR b] = some (BR b) := rfl
theorem cBR0 : RF.ev (.cell 0) [BR b] = some (sl I1 b.places) := rfl
theorem cBR1 : RF.ev (.cell 1) [BR b] = some (sl I1 b.wins) := rfl
theorem shTR : RF.ev (.shape 2) [TR t] = some (TR t) := rfl
theorem cTR0 : RF.ev (.cell 0) [TR t] = some (.i64 t.root) := rfl
theorem cTR1 : RF.ev (.cell 1) [TR t] = some (sl nrow t.nodes) := rfl
theorem shKH : RF.ev (.shape 12) [KH kh] = some (KH kh) := rfl
theorem pKH : RF.ev (.part 0 11) [KH kh] = some (CL kh.clock) := rfl
theorem cKH : RF.ev (.cell 11) [KH kh] = some (sl I1 kh.heap) := rfl
theorem shKT : RF.ev (.shape 13) [KT kt] = some (KT kt) := rfl
theorem pKT : RF.ev (.part 0 11) [KT kt] = some (CL kt.clock) := rfl
theorem pKTb : RF.ev (.part 11 2) [KT kt] = some (BR kt.brk) := rfl
theorem shHT : RF.ev (.shape 13) [HT ht] = some (HT ht) := rfl
theorem pHT : RF.ev (.part 0 11) [HT ht] = some (CL ht.clock) := rfl
theorem pHTt : RF.ev (.part 11 2) [HT ht] = some (TR ht.tree) := rfl
theorem shCH : RF.ev (.shape 51) [CHO ch] = some (CHO ch) := rfl
theorem cCH : RF.ev (.cell 0) [CHO ch] = some (.v (.int .u8 ch.tag)) := rfl
theorem pCH1 : RF.ev (.part 1 12) [CHO ch] = some (KH ch.heap) := rfl
theorem pCH2 : RF.ev (.part 13 13) [CHO ch] = some (KT ch.tourn) := rfl
theorem pCH3 : RF.ev (.part 26 13) [CHO ch] = some (HT ch.heater) := rfl
theorem pCH4 : RF.ev (.part 39 12) [CHO ch] = some (KH ch.hanger) := rfl
end
def gSl (s : Slots) : Bool := decide (210 < s.uses.length) || decide (210 < s.used.length) || decide (210 < s.free.length)
def gAg (a : Agenda) : Bool := gSl a.slots || decide (210 < a.heap.length) || decide (210 < a.wher.length)
def gF (l : List Pt) : Bool := (decide (16 < l.length) && decide (l.length < 64)) || decide (70 < l.length)
def gCl (c : Clock) : Bool := decide (40 < c.certs.list.length) || decide (40 < c.due.length) || gF c.pts || gAg c.agenda
def gKh (k : KHeap) : Bool := gCl k.clock || decide (70 < k.heap.length)
def gKt (k : KTourn) : Bool := gCl k.clock || (decide (70 < k.brk.places.length) || decide (70 < k.brk.wins.length))
def gHt (k : Heater) : Bool := gCl k.clock || decide (70 < k.tree.nodes.length)
def gCh (c : Choice) : Bool := gKh c.heap || gKt c.tourn || gHt c.heater || gKh c.hanger
theorem lt210 (b : Nat) : decide ((210 : Int) < (b : Int)) = decide (210 < b) := decide_eq_decide.2 (by omega)
theorem lt70 (b : Nat) : decide ((70 : Int) < (b : Int)) = decide (70 < b) := decide_eq_decide.2 (by omega)
theorem lt40 (b : Nat) : decide ((40 : Int) < (b : Int)) = decide (40 < b) := decide_eq_decide.2 (by omega)
theorem lt16 (b : Nat) : decide ((16 : Int) < (b : Int)) = decide (16 < b) := decide_eq_decide.2 (by omega)
theorem lt64 (b : Nat) : decide ((b : Int) < 64) = decide (b < 64) := decide_eq_decide.2 (by omega)
theorem c285 (s : Slots) : Ans D 285 [SL s] [.bool (gSl s)] := by
 refine ans_of k285_ok s285 rfl ⟨1, ?_⟩;unfold k285 gSl;simp only [den_lt, shSL, cSL0, cSL1, cSL2, EV, List.length_map, k285_1, lt210];cases decide (210 < s.uses.length) <;> cases decide (210 < s.used.length) <;> rfl
theorem c206 (a : Agenda) : Ans D 206 [AG a] [.bool (gAg a)] := by
 refine ans_of k206_ok s206 rfl ⟨1, ?_⟩;unfold k206 gAg;simp only [den_lt, shAG, pAG, cAG3, cAG4, EV, List.length_map, k206_1, lt210, phi (c285 _)];cases gSl a.slots <;> cases decide (210 < a.heap.length) <;> rfl
theorem c19 (l : List Pt) : Ans D 19 [F l] [.bool (gF l)] := by
 refine ans_of k19_ok s19 rfl ⟨1, ?_⟩;unfold k19 gF;simp only [den_lt, shapeF, cellF, EV, List.length_map, k19_1, lt70, lt16, lt64];cases decide (16 < l.length) <;> cases decide (l.length < 64) <;> rfl
theorem c109 (c : Clock) : Ans D 109 [CL c] [.bool (gCl c)] := by
 refine ans_of k109_ok s109 rfl ⟨1, ?_⟩;unfold k109 gCl;simp only [den_lt, shCL, cCL4, cCL10, pCL2, pCL5, EV, List.length_map, k109_1, lt40, phi (c19 _), phi (c206 _)];cases decide (40 < c.certs.list.length) <;> cases decide (40 < c.due.length) <;> cases gF c.pts <;> rfl
theorem c110 (b : Brk) : Ans D 110 [BR b] [.bool (decide (70 < b.places.length) || decide (70 < b.wins.length))] := by
 refine ans_of k110_ok s110 rfl ⟨1, ?_⟩;unfold k110;simp only [den_lt, shBR, cBR0, cBR1, EV, List.length_map, k110_1, lt70];cases decide (70 < b.places.length) <;> rfl
theorem c111 (t : Tree) : Ans D 111 [TR t] [.bool (decide (70 < t.nodes.length))] := by
 refine ans_of k111_ok s111 rfl ⟨1, ?_⟩;unfold k111;simp only [den_lt, shTR, cTR1, EV, List.length_map, lt70]
theorem d35 (k : KHeap) : ∃ N, den (PhiS D) N k35 [] [KH k] = some [.bool (gKh k)] := by
 refine ⟨1, ?_⟩;unfold k35 gKh;simp only [den_lt, shKH, pKH, cKH, EV, List.length_map, k35_1, lt70, phi (c109 _)];cases gCl k.clock <;> rfl
theorem c36 (k : KTourn) : Ans D 36 [KT k] [.bool (gKt k)] := by
 refine ans_of k36_ok s36 rfl ⟨1, ?_⟩;unfold k36 gKt;simp only [den_lt, shKT, pKT, pKTb, EV, k36_1, phi (c109 _), phi (c110 _)];cases gCl k.clock <;> rfl
theorem c37 (k : Heater) : Ans D 37 [HT k] [.bool (gHt k)] := by
 refine ans_of k37_ok s37 rfl ⟨1, ?_⟩;unfold k37 gHt;simp only [den_lt, shHT, pHT, pHTt, EV, k37_1, phi (c109 _), phi (c111 _)];cases gCl k.clock <;> rfl
theorem c7 (c : Choice) : Ans D 7 [CHO c] [.bool (gCh c)] := by
 refine ans_of k7_ok s7 rfl ⟨1, ?_⟩;unfold k7 gCh;simp only [den_lt, shCH, pCH1, pCH2, pCH3, pCH4, EV, k7_1, phi (ans_of k35_ok s35 rfl (d35 _)), phi (c36 _), phi (c37 _), phi (ans_of k38_ok s38 rfl (d35 _))];cases gKh c.heap <;> cases gKt c.tourn <;> cases gHt c.heater <;> rfl
theorem eqv3 (a b c x y z : Int) : RF.ev (.eqv [.i, .i, .i]) [.agg [.i64 a, .i64 b, .i64 c], .agg [.i64 x, .i64 y, .i64 z]] = some (.bool (decide (a = x ∧ b = y ∧ c = z))) := by
 have : RF.ev (.eqv [.i, .i, .i]) [.agg [.i64 a, .i64 b, .i64 c], .agg [.i64 x, .i64 y, .i64 z]] = some (.bool (decide (a = x) && (decide (b = y) && (decide (c = z) && true)))) := rfl;rw [this]
 congr 2
 simp [Bool.decide_and]
theorem eqvH (p q : Held) : RF.ev (.eqv [.i, .i, .i]) [HP p, HP q] = some (.bool (decide (p = q))) := by
 obtain ⟨a, b, c⟩ := p;obtain ⟨x, y, z⟩ := q;refine (eqv3 ..).trans ?_;simp [Held.mk.injEq, Crt.mk.injEq]
theorem eqvD (p q : Due) : RF.ev (.eqv [.i, .i, .i]) [DP p, DP q] = some (.bool (decide (p = q))) := by
 obtain ⟨a, b, c⟩ := p;obtain ⟨x, y, z⟩ := q;refine (eqv3 ..).trans ?_;simp [Due.mk.injEq, Hnd.mk.injEq]
theorem eqvN (p q : Nod) : RF.ev (.eqv [.i, .i, .i]) [NP p, NP q] = some (.bool (decide (p = q))) := by
 obtain ⟨a, b, c⟩ := p;obtain ⟨x, y, z⟩ := q;refine (eqv3 ..).trans ?_;simp [Nod.mk.injEq]
theorem eqv2 (a b x y : Int) : RF.ev (.eqv [.i, .i]) [.agg [.i64 a, .i64 b], .agg [.i64 x, .i64 y]] = some (.bool (decide (a = x ∧ b = y))) := by
 have : RF.ev (.eqv [.i, .i]) [.agg [.i64 a, .i64 b], .agg [.i64 x, .i64 y]] = some (.bool (decide (a = x) && (decide (b = y) && true))) := rfl;rw [this]
 congr 2
 simp [Bool.decide_and]
theorem eqvC (p q : Crt) : RF.ev (.eqv [.i, .i]) [CP p, CP q] = some (.bool (decide (p = q))) := by
 obtain ⟨a, b⟩ := p;obtain ⟨x, y⟩ := q;refine (eqv2 ..).trans ?_;simp [Crt.mk.injEq]
theorem eqvR (p q : Rt) : RF.ev (.eqv [.i, .i]) [R p, R q] = some (.bool (decide (p = q))) := by
 obtain ⟨a, b⟩ := p;obtain ⟨x, y⟩ := q;refine (eqv2 ..).trans ?_;simp [Rt.mk.injEq]
theorem eqvE (p q : Evt) : RF.ev (.eqv [.i, .i, .i, .i, .i]) [EP p, EP q] = some (.bool (decide (p = q))) := by
 obtain ⟨⟨a, b⟩, c, d, e⟩ := p;obtain ⟨⟨x, y⟩, z, u, v⟩ := q;have : RF.ev (.eqv [.i, .i, .i, .i, .i]) [EP ⟨⟨a, b⟩, c, ⟨d, e⟩⟩, EP ⟨⟨x, y⟩, z, ⟨u, v⟩⟩] = some (.bool (decide (a = x) && (decide (b = y) && (decide (c = z) && (decide (d = u) && (decide (e = v) && true)))))) := rfl;rw [this]
 congr 2
 simp [Evt.mk.injEq, Rt.mk.injEq, Hnd.mk.injEq, Bool.decide_and, Bool.and_assoc]
theorem c312 {s t : Slots} (h : gSl s = false) : Ans D 312 [SL s, SL t] [.bool (decide (s = t))] := by
 unfold gSl at h;simp only [Bool.or_eq_false_iff, decide_eq_false_iff_not] at h;refine ans_of k312_ok s312 rfl ⟨1, ?_⟩;unfold k312;simp only [den_lt, shSL, cSL0, cSL1, cSL2, EV, k312_1, phi (c313 (l := s.uses) (k := t.uses) (by omega)), phi (c376 (l := s.used) (k := t.used) (by omega)), phi (c313 (l := s.free) (k := t.free) (by omega)), decide_eq_true_eq];obtain ⟨a, b, c⟩ := s;obtain ⟨x, y, z⟩ := t;by_cases h1 : a = x <;> by_cases h2 : b = y <;> simp [h1, h2]
theorem c230 {s t : Agenda} (h : gAg s = false) : Ans D 230 [AG s, AG t] [.bool (decide (s = t))] := by
 unfold gAg at h;simp only [Bool.or_eq_false_iff, decide_eq_false_iff_not] at h;refine ans_of k230_ok s230 rfl ⟨1001, ?_⟩;unfold k230;obtain ⟨a, b, c⟩ := s;obtain ⟨x, y, z⟩ := t;simp only [den_lt, shAG, pAG, cAG3, cAG4, EV, List.length_map, phi (c312 h.1.1), phi (c313 (l := c) (k := z) (show c.length ≤ 1000 by have := h.2; simp only at this; omega)), Bool.not_eq_true', decide_eq_false_iff_not]
 by_cases h1 : a = x
 ·by_cases h2 : c = z
  ·subst h1; subst h2;simp only [not_true_eq_false, if_false];by_cases h3 : b.length = y.length
   ·rw [if_neg (by omega)];refine (sameR (l := b) (k := y) h3 (run_list (l := b.zip y) (st := fun i => [.i64 (i : Int)]) (fun i x self hx _ => ?_) (fun _ self => ?_) (by have := h.1.2; rw [zip_len h3]; simp only at this; omega))).trans ?_
    ·obtain ⟨hp, hq⟩ := zip_get hx;unfold k230_2;simp only [den_lt, cAG3, tixM hp (lenE _), eltM hp, tixM hq (lenE _), eltM hq, rowE, eqvE, EV, List.length_map, decide_eq_true_eq, Bool.not_eq_true', decide_eq_false_iff_not, if_lt (get_lt hp), up1 (show i < 1000000000 by have := get_lt hp; have := h.1.2; simp only at this; omega)]
     by_cases e : x.1 = x.2 <;> simp [e]
    ·rw [zip_len h3];unfold k230_2;simp only [den_lt, cAG3, EV, List.length_map, decide_eq_true_eq, if_ge, k230_1]
    ·simp [Agenda.mk.injEq]
   ·rw [if_pos (by omega), decide_eq_false (fun e => h3 (by cases e; rfl))]
  ·rw [if_neg (by simp [h1]), if_pos h2, decide_eq_false (fun e => h2 (by cases e; rfl))]
 ·rw [if_pos h1, decide_eq_false (fun e => h1 (by cases e; rfl))]
end Go.Proofs.YtfghdmmapmdcgaaGreat
