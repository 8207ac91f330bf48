/- A machine that carries out code on values that are known, and the proof that the model's runs agree with it: one part. -/
import Derived.Test.YtgfhhbgkleimjaaGreatAbsRun3
noncomputable section
namespace Go.Abs
variable {P : Program} {φ : Ren} {H H' : AH} {bar base : Nat} {w : World}

/-- What an operation of a region that draws its order does to memory: nothing · it reads one block · it reads, and makes new blocks · it writes (to one block alone, where that is known). -/
inductive WS where
  | any
  | one (b : Nat)
  | ge (b : Nat)

/-- A block that is surely not written. -/
def WS.free : WS → Nat → Bool
  | .any, _ => false
  | .one b, x => x != b
  | .ge b, x => decide (x < b)

def WS.lim : WS → Nat → Nat
  | .ge b, bar => max bar b
  | _, bar => bar

inductive Cls where
  | R
  | L (b : Option Nat)
  | Q
  | W (s : WS)

def regOp : Op → Bool
  | .move _ | .assign _ | .pick .. | .build .. | .nilCheck _ | .binOp .. | .unOp .. | .makeInterface .. | .makeFunc .. | .fieldAddr .. | .field .. | .indexAddr .. | .index .. | .typeAssert .. | .extract .. => true
  | _ => false

def argBlock : Option Value → WS
  | some (.slice (some p) _ _) => .ge p.block
  | some (.pointer (some p)) => .ge p.block
  | _ => .any

/-- Does the operation write to what was there? And to which block? 'Wf' names the functions that write, each with the argument whose block, and what came after it, is all that it writes to. -/
def writesA (Wf : FuncId → Option Nat) (ρ : Env) : Op → Option WS
  | .store _ a _ => match ρ a with
    | some (.pointer (some p)) => some (.one p.block)
    | _ => some .any
  | .mapUpdate _ m _ _ => match ρ m with
    | some (.map (some r)) => some (.one r)
    | _ => some .any
  | .insert .. => some .any
  | .call c => match c.callee with
    | .builtin .append => match (c.args[0]?).bind ρ with
      | some (.slice (some p) len cap) => if cap = len then none else some (.one p.block)
      | _ => none
    | .builtin .copy | .builtin .clear | .builtin .delete => some .any
    | .value (.func f) => match Wf f with
      | some k => some (argBlock ((c.args[k]?).bind ρ))
      | none => none
    | .value x => match ρ x with
      | some (.func (.func f) first _) => match Wf f with
        | some k => some (argBlock (if k < first.size then first[k]? else (c.args[k - first.size]?).bind ρ))
        | none => none
      | _ => none
    | _ => none
  | _ => none

/-- The one block that the operation's answer hangs on, if any; for operations that look at memory and leave it as it is. -/
def loadsA (ρ : Env) : Op → Option (Option Nat)
  | .load _ a => match ρ a with
    | some (.pointer (some p)) => some (some p.block)
    | _ => none
  | .slice _ x _ _ _ => match ρ x with
    | some (.slice (some p) _ cap) => match Nat.beq cap capU with
      | true => some (some p.block)
      | false => some none
    | some (.slice none _ _) => some none
    | some (.string _) => some none
    | some (.pointer _) => some none
    | _ => none
  | .lookup _ x _ _ => match ρ x with
    | some (.map (some r)) => some (some r)
    | some (.map none) => some none
    | _ => none
  | .call c => match c.callee with
    | .builtin .len => match (c.args[0]?).bind ρ with
      | some (.map (some r)) => some (some r)
      | some (.slice _ _ _) => some none
      | some (.string _) => some none
      | some (.map none) => some none
      | _ => none
    | .builtin .cap => some none
    | .builtin .min => some none
    | .builtin .max => some none
    | _ => none
  | _ => none

def clsA (Wf : FuncId → Option Nat) (ρ : Env) (op : Op) : Cls :=
  if regOp op then .R else match loadsA ρ op with
    | some b => .L b
    | none => match writesA Wf ρ op with
      | some b => .W b
      | none => .Q

def drawW (P : Program) (K : Known) (rec : Rec) (bar : Nat) (ops : Array Oper) (o : Oper) (f : Fr) (H : AH) (s : WS) : Option (Cls × Fr × AH) :=
  if Nat.ble (s.lim bar) H.next = true then (operA P K rec (s.lim bar) ops o f H).map fun p => (Cls.W s, p) else none

def drawOne (P : Program) (K : Known) (rec : Rec) (Wf : FuncId → Option Nat) (bar : Nat) (ops : Array Oper) (o : Oper) (f : Fr) (H : AH) : Option (Cls × Fr × AH) :=
  match wantedA ops f o with
  | some true => match clsA Wf (aev f) o.op with
    | .W s => drawW P K rec bar ops o f H s
    | c => (operA P K rec H.next ops o f H).map fun p => (c, p)
  | some false => (operA P K rec H.next ops o f H).map fun p => (.R, p)
  | none => none

def drawAll (P : Program) (K : Known) (rec : Rec) (Wf : FuncId → Option Nat) (bar : Nat) (ops : Array Oper) : List Oper → Fr → AH → Option (List (Cls × AH × AH) × Fr × AH)
  | [], f, H => some ([], f, H)
  | o :: os, f, H => match drawOne P K rec Wf bar ops o f H with
    | none => none
    | some (c, f', H') => match drawAll P K rec Wf bar ops os f' H' with
      | none => none
      | some (l, r) => some ((c, H, H') :: l, r)

/-- i < j, and i is always carried out before j. -/
def bfr (B : Array Nat) (i j : Nat) : Bool := (B.getD j 0).testBit i

def namesOf (ops : Array Oper) (o : Oper) : List Tmp := o.dst.toList ++ Oper.looksAt ops o

/-- Whoever names a temporary stands in an order to all who set it. -/
def tmpsOk (ops : Array Oper) (B : Array Nat) : Bool :=
  let l := ops.toList.zipIdx
  l.all fun (o, j) => l.all fun (o', i) => i == j || (match o'.dst with
    | none => true
    | some d => !(namesOf ops o).contains d || bfr B (min i j) (max i j))

def edgesOk (ops : Array Oper) : Bool :=
  ops.toList.zipIdx.all fun (o, i) => o.after.all fun e => !Region.binds .any e || decide (e.on < i)

def clsFree (c : Cls) (s : WS) : Bool :=
  match c with
  | .R => true
  | .L none => true
  | .L (some x) => s.free x
  | _ => false

/-- Two values that are the same, for sure. -/
def veq : Value → Value → Bool
  | .bool a, .bool b => a == b
  | .int k a, .int l b => decide (k = l) && decide (a = b)
  | .string a, .string b => decide (a.data.toList = b.data.toList)
  | .pointer a, .pointer b => decide (a = b)
  | .slice a l c, .slice b m d => decide (a = b) && decide (l = m) && decide (c = d)
  | .map a, .map b => decide (a = b)
  | .nilFunc, .nilFunc => true
  | .nilIface, .nilIface => true
  | _, _ => false

def veqs : List Value → List Value → Bool
  | [], [] => true
  | a :: as, b :: bs => veq a b && veqs as bs
  | _, _ => false

/-- A block that has stayed as it was. -/
def sameAt (H H' : AH) (b : Nat) : Bool :=
  match H.get b, H'.get b with
  | some (.row c t z), some (.row c' t' z') => veqs c c' && decide (t = t') && decide (z = z')
  | _, _ => false

theorem veq_eq {a b : Value} (h : veq a b = true) : a = b := by
  unfold veq at h
  split at h <;> simp_all
  all_goals (apply ByteArray.ext; first | assumption | (apply Array.toList_inj.1; assumption))

theorem veqs_eq : ∀ {as bs : List Value}, veqs as bs = true → as = bs
  | [], [], _ => rfl
  | a :: as, b :: bs, h => by
    simp only [veqs, Bool.and_eq_true] at h
    rw [veq_eq h.1, veqs_eq h.2]
  | [], _ :: _, h => by simp [veqs] at h
  | _ :: _, [], h => by simp [veqs] at h

theorem sameAt_eq {H H' : AH} {b : Nat} (h : sameAt H H' b = true) : H'.get b = H.get b := by
  unfold sameAt at h
  split at h
  · rename_i h1 h2
    simp only [Bool.and_eq_true, decide_eq_true_eq] at h
    rw [h1, h2, veqs_eq h.1.1, h.1.2, h.2]
  · cases h

def freeAt (c : Cls) (s : WS) (H H' : AH) : Bool :=
  clsFree c s || (match c with
    | .L (some x) => sameAt H H' x
    | _ => false)

def clsOk (B : Array Nat) (cs : List (Cls × AH × AH)) : Bool :=
  let l := cs.zipIdx
  l.all fun (c, j) => match c.1 with
    | .W s => l.all fun (c', i) => i == j || bfr B (min i j) (max i j) || freeAt c'.1 s c.2.1 c.2.2
    | _ => true

def staticOk (ops : Array Oper) (B : Array Nat) : Bool := edgesOk ops && tmpsOk ops B && Region.noSelect ops

def drawA (P : Program) (K : Known) (Wf : FuncId → Option Nat) (rec : Rec) (bar : Nat) (ops : Array Oper) (f : Fr) (H : AH) : Option (Fr × AH) :=
  if staticOk ops (Region.before ops) then
    match drawAll P K rec Wf bar ops ops.toList f H with
    | some (cs, f', H') => if clsOk (Region.before ops) cs then some (f', H') else none
    | none => none
  else none

/-! ## What 'before' says -/

def step1 (acc : Array Nat) (o : Oper) : Nat := o.after.foldl (fun s e => if Region.binds .any e then s ||| 2 ^ e.on ||| acc.getD e.on 0 else s) 0

theorem before_eq (ops : Array Oper) : Region.before ops = ops.toList.foldl (fun acc o => acc.push (step1 acc o)) #[] := by
  unfold Region.before
  rw [← Array.foldl_toList]
  rfl

theorem fold_before : ∀ (l : List Oper) (acc : Array Nat), (l.foldl (fun acc o => acc.push (step1 acc o)) acc).size = acc.size + l.length ∧
    (∀ j, j < acc.size → (l.foldl (fun acc o => acc.push (step1 acc o)) acc)[j]? = acc[j]?) ∧
    ∀ k o, l[k]? = some o → ∃ acc' : Array Nat, acc'.size = acc.size + k ∧ (∀ j, j < acc'.size → (l.foldl (fun acc o => acc.push (step1 acc o)) acc)[j]? = acc'[j]?) ∧ (l.foldl (fun acc o => acc.push (step1 acc o)) acc)[acc.size + k]? = some (step1 acc' o)
  | [], acc => ⟨by simp, fun _ _ => rfl, fun k o h => by simp at h⟩
  | o :: l, acc => by
    obtain ⟨h1, h2, h3⟩ := fold_before l (acc.push (step1 acc o))
    simp only [List.foldl_cons]
    refine ⟨by rw [h1]; simp; omega, fun j hj => ?_, fun k o' hk => ?_⟩
    · rw [h2 j (by simp; omega), Array.getElem?_push_lt hj]
      simp [hj]
    · cases k with
      | zero =>
        simp at hk
        subst hk
        refine ⟨acc, rfl, fun j hj => ?_, ?_⟩
        · rw [h2 j (by simp; omega), Array.getElem?_push_lt hj]
          simp [hj]
        · rw [Nat.add_zero, h2 acc.size (by simp)]
          simp
      | succ k =>
        simp at hk
        obtain ⟨acc', e1, e2, e3⟩ := h3 k o' hk
        refine ⟨acc', by rw [e1]; simp; omega, e2, ?_⟩
        have : acc.size + (k + 1) = (acc.push (step1 acc o)).size + k := by simp; omega
        rw [this]
        exact e3

theorem step1_bit (acc : Array Nat) (o : Oper) (i : Nat) (h : (step1 acc o).testBit i = true) : ∃ e ∈ o.after, Region.binds .any e = true ∧ (i = e.on ∨ (acc.getD e.on 0).testBit i = true) := by
  unfold step1 at h
  rw [← Array.foldl_toList] at h
  have key : ∀ (l : List Edge) (s : Nat), (l.foldl (fun s e => if Region.binds .any e then s ||| 2 ^ e.on ||| acc.getD e.on 0 else s) s).testBit i = true → s.testBit i = true ∨ ∃ e ∈ l, Region.binds .any e = true ∧ (i = e.on ∨ (acc.getD e.on 0).testBit i = true) := by
    intro l
    induction l with
    | nil => intro s h; exact .inl h
    | cons e l ih =>
      intro s h
      rcases ih _ h with h | ⟨e', h1, h2⟩
      · by_cases hb : Region.binds .any e = true
        · dsimp only at h
          rw [if_pos hb] at h
          simp only [Nat.testBit_or, Bool.or_eq_true] at h
          rcases h with (h | h) | h
          · exact .inl h
          · rw [Nat.testBit_two_pow] at h
            exact .inr ⟨e, by simp, hb, .inl (of_decide_eq_true h).symm⟩
          · exact .inr ⟨e, by simp, hb, .inr h⟩
        · dsimp only at h
          rw [if_neg hb] at h
          exact .inl h
      · exact .inr ⟨e', by simp [h1], h2⟩
  rcases key _ _ h with h | ⟨e, h1, h2⟩
  · simp at h
  · exact ⟨e, by simpa using h1, h2⟩

/-- A set that holds with each operation those that its edges name. -/
def Down (ops : Array Oper) (S : Nat → Prop) : Prop := ∀ j o, S j → ops[j]? = some o → ∀ e ∈ o.after, Region.binds .any e = true → S e.on

theorem down_before {ops : Array Oper} {S : Nat → Prop} (hd : Down ops S) : ∀ (j i : Nat), S j → bfr (Region.before ops) i j = true → S i := by
  intro j
  induction j using Nat.strongRecOn with
  | _ j ih =>
    intro i hj hb
    unfold bfr at hb
    rw [before_eq] at hb
    obtain ⟨h1, h2, h3⟩ := fold_before ops.toList #[]
    cases ho : ops[j]? with
    | none =>
      have hge : ops.size ≤ j := by simpa using ho
      rw [Array.getD_eq_getD_getElem?, Array.getElem?_eq_none (by rw [h1]; simpa using hge)] at hb
      simp at hb
    | some o =>
      obtain ⟨acc', e1, e2, e3⟩ := h3 j o (by simpa using ho)
      have e1' : acc'.size = j := by simpa using e1
      have e0 : (#[] : Array Nat).size + j = j := by simp
      rw [e0] at e3
      have e3' : (ops.toList.foldl (fun acc o => acc.push (step1 acc o)) #[]).getD j 0 = step1 acc' o := by
        rw [Array.getD_eq_getD_getElem?, e3]
        rfl
      rw [e3'] at hb
      obtain ⟨e, k1, k2, k3⟩ := step1_bit _ _ _ hb
      have hse := hd j o hj ho e k1 k2
      rcases k3 with rfl | k3
      · exact hse
      · by_cases hlt : e.on < j
        · refine ih e.on hlt i hse ?_
          unfold bfr
          rw [before_eq, Array.getD_eq_getD_getElem?, e2 e.on (by omega), ← Array.getD_eq_getD_getElem?]
          exact k3
        · rw [Array.getD_eq_getD_getElem?, Array.getElem?_eq_none (by omega)] at k3
          simp at k3

end Go.Abs
