/- A machine that carries out code on values that are known, and the proof that the model's runs agree with it: one part. -/
import Derived.Test.YtghlchpignpibaaGreatAbsRun3
noncomputable section
namespace Go.Abs
variable {P : Program} {φ : Ren} {H H' : AH} {bar base : Nat} {w : World}

/-- What an operation of a region that draws its order does to memory: nothing · it reads one block · it reads, and makes new blocks · it writes (to one block alone, where that is known). -/
inductive WS where
  | any
  | one (b : Nat)
  | ge (b : Nat)

/-- A block that is surely not written. -/
def WS.free : WS → Nat → Bool
  | .any, _ => false
  | .one b, x => x != b
  | .ge b, x => decide (x < b)

def WS.lim : WS → Nat → Nat
  | .ge b, bar => max bar b
  | _, bar => bar

inductive Cls where
  | R
  | L (b : Option Nat)
  | Q
  | A
  | W (s : WS)

def regOp : Op → Bool
  | .move _ | .assign _ | .pick .. | .build .. | .nilCheck _ | .binOp .. | .unOp .. | .makeInterface .. | .makeFunc .. | .fieldAddr .. | .field .. | .indexAddr .. | .index .. | .typeAssert .. | .extract .. => true
  | _ => false

def argBlock : Option Value → WS
  | some (.slice (some p) _ _) => .ge p.block
  | some (.pointer (some p)) => .ge p.block
  | _ => .any

/-- Does the operation write to what was there? And to which block? 'Wf' names the functions that write, each with the argument whose block, and what came after it, is all that it writes to. -/
def writesA (Wf : FuncId → Option Nat) (ρ : Env) : Op → Option WS
  | .store _ a _ => match ρ a with
    | some (.pointer (some p)) => some (.one p.block)
    | _ => some .any
  | .mapUpdate _ m _ _ => match ρ m with
    | some (.map (some r)) => some (.one r)
    | _ => some .any
  | .insert .. => some .any
  | .call c => match c.callee with
    | .builtin .append => match (c.args[0]?).bind ρ with
      | some (.slice (some p) len cap) => if cap = len then none else some (.one p.block)
      | _ => none
    | .builtin .copy | .builtin .clear | .builtin .delete => some .any
    | .value (.func f) => match Wf f with
      | some k => some (argBlock ((c.args[k]?).bind ρ))
      | none => none
    | .value x => match ρ x with
      | some (.func (.func f) first _) => match Wf f with
        | some k => some (argBlock (if k < first.size then first[k]? else (c.args[k - first.size]?).bind ρ))
        | none => none
      | _ => none
    | _ => none
  | _ => none

/-- The one block that the operation's answer hangs on, if any; for operations that look at memory and leave it as it is. -/
def loadsA (ρ : Env) : Op → Option (Option Nat)
  | .load _ a => match ρ a with
    | some (.pointer (some p)) => some (some p.block)
    | _ => none
  | .slice _ x _ _ _ => match ρ x with
    | some (.slice (some p) _ cap) => match Nat.beq cap capU with
      | true => some (some p.block)
      | false => some none
    | some (.slice none _ _) => some none
    | some (.string _) => some none
    | some (.pointer _) => some none
    | _ => none
  | .lookup _ x _ _ => match ρ x with
    | some (.map (some r)) => some (some r)
    | some (.map none) => some none
    | _ => none
  | .call c => match c.callee with
    | .builtin .len => match (c.args[0]?).bind ρ with
      | some (.map (some r)) => some (some r)
      | some (.slice _ _ _) => some none
      | some (.string _) => some none
      | some (.map none) => some none
      | _ => none
    | .builtin .cap => some none
    | .builtin .min => some none
    | .builtin .max => some none
    | _ => none
  | _ => none

/-- It makes one block, and reads none. -/
def makesA : Op → Bool
  | .makeSlice .. => true
  | _ => false

def clsA (Wf : FuncId → Option Nat) (ρ : Env) (op : Op) : Cls :=
  if regOp op then .R else match loadsA ρ op with
    | some b => .L b
    | none => match writesA Wf ρ op with
      | some b => .W b
      | none => match makesA op with
        | true => .A
        | false => .Q

def drawW (P : Program) (K : Known) (rec : Rec) (bar : Nat) (ops : Array Oper) (o : Oper) (f : Fr) (H : AH) (s : WS) : Option (Cls × Fr × AH) :=
  if Nat.ble (s.lim bar) H.next = true then (operA P K rec (s.lim bar) ops o f H).map fun p => (Cls.W s, p) else none

def drawOne (P : Program) (K : Known) (rec : Rec) (Wf : FuncId → Option Nat) (bar : Nat) (ops : Array Oper) (o : Oper) (f : Fr) (H : AH) : Option (Cls × Fr × AH) :=
  match wantedA ops f o with
  | some true => match clsA Wf (aev f) o.op with
    | .W s => drawW P K rec bar ops o f H s
    | c => (operA P K rec H.next ops o f H).map fun p => (c, p)
  | some false => (operA P K rec H.next ops o f H).map fun p => (.R, p)
  | none => none

def drawAll (P : Program) (K : Known) (rec : Rec) (Wf : FuncId → Option Nat) (bar : Nat) (ops : Array Oper) : List Oper → Fr → AH → Option (List (Cls × AH × AH) × Fr × AH)
  | [], f, H => some ([], f, H)
  | o :: os, f, H => match drawOne P K rec Wf bar ops o f H with
    | none => none
    | some (c, f', H') => match drawAll P K rec Wf bar ops os f' H' with
      | none => none
      | some (l, r) => some ((c, H, H') :: l, r)

/-- i < j, and i is always carried out before j. -/
def bfr (B : Array Nat) (i j : Nat) : Bool := (B.getD j 0).testBit i

def namesOf (ops : Array Oper) (o : Oper) : List Tmp := o.dst.toList ++ Oper.looksAt ops o

/-- Whoever names a temporary stands in an order to all who set it. -/
def tmpsOk (ops : Array Oper) (B : Array Nat) : Bool :=
  let l := ops.toList.zipIdx
  l.all fun (o, j) => l.all fun (o', i) => i == j || (match o'.dst with
    | none => true
    | some d => !(namesOf ops o).contains d || bfr B (min i j) (max i j))

def edgesOk (ops : Array Oper) : Bool :=
  ops.toList.zipIdx.all fun (o, i) => o.after.all fun e => !Region.binds .any e || decide (e.on < i)

def clsFree (c : Cls) (s : WS) : Bool :=
  match c with
  | .R => true
  | .L none => true
  | .L (some x) => s.free x
  | _ => false

/-- Two values that are the same, for sure. -/
def veq : Value → Value → Bool
  | .bool a, .bool b => a == b
  | .int k a, .int l b => decide (k = l) && decide (a = b)
  | .string a, .string b => decide (a.data.toList = b.data.toList)
  | .pointer a, .pointer b => decide (a = b)
  | .slice a l c, .slice b m d => decide (a = b) && decide (l = m) && decide (c = d)
  | .map a, .map b => decide (a = b)
  | .nilFunc, .nilFunc => true
  | .nilIface, .nilIface => true
  | _, _ => false

def veqs : List Value → List Value → Bool
  | [], [] => true
  | a :: as, b :: bs => veq a b && veqs as bs
  | _, _ => false

/-- A block that has stayed as it was. -/
def sameAt (H H' : AH) (b : Nat) : Bool :=
  match H.get b, H'.get b with
  | some (.row c t z), some (.row c' t' z') => veqs c c' && decide (t = t') && decide (z = z')
  | _, _ => false

theorem veq_eq {a b : Value} (h : veq a b = true) : a = b := by
  unfold veq at h
  split at h <;> simp_all
  all_goals (apply ByteArray.ext; first | assumption | (apply Array.toList_inj.1; assumption))

theorem veqs_eq : ∀ {as bs : List Value}, veqs as bs = true → as = bs
  | [], [], _ => rfl
  | a :: as, b :: bs, h => by
    simp only [veqs, Bool.and_eq_true] at h
    rw [veq_eq h.1, veqs_eq h.2]
  | [], _ :: _, h => by simp [veqs] at h
  | _ :: _, [], h => by simp [veqs] at h

theorem sameAt_eq {H H' : AH} {b : Nat} (h : sameAt H H' b = true) : H'.get b = H.get b := by
  unfold sameAt at h
  split at h
  · rename_i h1 h2
    simp only [Bool.and_eq_true, decide_eq_true_eq] at h
    rw [h1, h2, veqs_eq h.1.1, h.1.2, h.2]
  · cases h

def freeAt (c : Cls) (s : WS) (H H' : AH) : Bool :=
  clsFree c s || (match c with
    | .L (some x) => sameAt H H' x
    | _ => false)

def makesFree (c : Cls) (s : WS) (H H' : AH) : Bool :=
  match c with
  | .A => Nat.beq H'.next (H.next + 1) && s.free H.next
  | _ => false

def clsOk (B : Array Nat) (cs : List (Cls × AH × AH)) : Bool :=
  let l := cs.zipIdx
  l.all fun (c, j) => match c.1 with
    | .W s => l.all fun (c', i) => i == j || bfr B (min i j) (max i j) || freeAt c'.1 s c.2.1 c.2.2 || (Nat.blt i j && makesFree c'.1 s c'.2.1 c'.2.2)
    | _ => true

def staticOk (ops : Array Oper) (B : Array Nat) : Bool := edgesOk ops && tmpsOk ops B && Region.noSelect ops

def drawA (P : Program) (K : Known) (Wf : FuncId → Option Nat) (rec : Rec) (bar : Nat) (ops : Array Oper) (f : Fr) (H : AH) : Option (Fr × AH) :=
  if staticOk ops (Region.before ops) then
    match drawAll P K rec Wf bar ops ops.toList f H with
    | some (cs, f', H') => if clsOk (Region.before ops) cs then some (f', H') else none
    | none => none
  else none

/-! ## What 'before' says -/

def step1 (acc : Array Nat) (o : Oper) : Nat := o.after.foldl (fun s e => if Region.binds .any e then s ||| 2 ^ e.on ||| acc.getD e.on 0 else s) 0

theorem before_eq (ops : Array Oper) : Region.before ops = ops.toList.foldl (fun acc o => acc.push (step1 acc o)) #[] := by
  unfold Region.before
  rw [← Array.foldl_toList]
  rfl

theorem fold_before : ∀ (l : List Oper) (acc : Array Nat), (l.foldl (fun acc o => acc.push (step1 acc o)) acc).size = acc.size + l.length ∧
    (∀ j, j < acc.size → (l.foldl (fun acc o => acc.push (step1 acc o)) acc)[j]? = acc[j]?) ∧
    ∀ k o, l[k]? = some o → ∃ acc' : Array Nat, acc'.size = acc.size + k ∧ (∀ j, j < acc'.size → (l.foldl (fun acc o => acc.push (step1 acc o)) acc)[j]? = acc'[j]?) ∧ (l.foldl (fun acc o => acc.push (step1 acc o)) acc)[acc.size + k]? = some (step1 acc' o)
  | [], acc => ⟨by simp, fun _ _ => rfl, fun k o h => by simp at h⟩
  | o :: l, acc => by
    obtain ⟨h1, h2, h3⟩ := fold_before l (acc.push (step1 acc o))
    simp only [List.foldl_cons]
    refine ⟨by rw [h1]; simp; omega, fun j hj => ?_, fun k o' hk => ?_⟩
    · rw [h2 j (by simp; omega), Array.getElem?_push_lt hj]
      simp [hj]
    · cases k with
      | zero =>
        simp at hk
        subst hk
        refine ⟨acc, rfl, fun j hj => ?_, ?_⟩
        · rw [h2 j (by simp; omega), Array.getElem?_push_lt hj]
          simp [hj]
        · rw [Nat.add_zero, h2 acc.size (by simp)]
          simp
      | succ k =>
        simp at hk
        obtain ⟨acc', e1, e2, e3⟩ := h3 k o' hk
        refine ⟨acc', by rw [e1]; simp; omega, e2, ?_⟩
        have : acc.size + (k + 1) = (acc.push (step1 acc o)).size + k := by simp; omega
        rw [this]
        exact e3

theorem step1_bit (acc : Array Nat) (o : Oper) (i : Nat) (h : (step1 acc o).testBit i = true) : ∃ e ∈ o.after, Region.binds .any e = true ∧ (i = e.on ∨ (acc.getD e.on 0).testBit i = true) := by
  unfold step1 at h
  rw [← Array.foldl_toList] at h
  have key : ∀ (l : List Edge) (s : Nat), (l.foldl (fun s e => if Region.binds .any e then s ||| 2 ^ e.on ||| acc.getD e.on 0 else s) s).testBit i = true → s.testBit i = true ∨ ∃ e ∈ l, Region.binds .any e = true ∧ (i = e.on ∨ (acc.getD e.on 0).testBit i = true) := by
    intro l
    induction l with
    | nil => intro s h; exact .inl h
    | cons e l ih =>
      intro s h
      rcases ih _ h with h | ⟨e', h1, h2⟩
      · by_cases hb : Region.binds .any e = true
        · dsimp only at h
          rw [if_pos hb] at h
          simp only [Nat.testBit_or, Bool.or_eq_true] at h
          rcases h with (h | h) | h
          · exact .inl h
          · rw [Nat.testBit_two_pow] at h
            exact .inr ⟨e, by simp, hb, .inl (of_decide_eq_true h).symm⟩
          · exact .inr ⟨e, by simp, hb, .inr h⟩
        · dsimp only at h
          rw [if_neg hb] at h
          exact .inl h
      · exact .inr ⟨e', by simp [h1], h2⟩
  rcases key _ _ h with h | ⟨e, h1, h2⟩
  · simp at h
  · exact ⟨e, by simpa using h1, h2⟩

/-- A set that holds with each operation those that its edges name. -/
def Down (ops : Array Oper) (S : Nat → Prop) : Prop := ∀ j o, S j → ops[j]? = some o → ∀ e ∈ o.after, Region.binds .any e = true → S e.on

theorem down_before {ops : Array Oper} {S : Nat → Prop} (hd : Down ops S) : ∀ (j i : Nat), S j → bfr (Region.before ops) i j = true → S i := by
  intro j
  induction j using Nat.strongRecOn with
  | _ j ih =>
    intro i hj hb
    unfold bfr at hb
    rw [before_eq] at hb
    obtain ⟨h1, h2, h3⟩ := fold_before ops.toList #[]
    cases ho : ops[j]? with
    | none =>
      have hge : ops.size ≤ j := by simpa using ho
      rw [Array.getD_eq_getD_getElem?, Array.getElem?_eq_none (by rw [h1]; simpa using hge)] at hb
      simp at hb
    | some o =>
      obtain ⟨acc', e1, e2, e3⟩ := h3 j o (by simpa using ho)
      have e1' : acc'.size = j := by simpa using e1
      have e0 : (#[] : Array Nat).size + j = j := by simp
      rw [e0] at e3
      have e3' : (ops.toList.foldl (fun acc o => acc.push (step1 acc o)) #[]).getD j 0 = step1 acc' o := by
        rw [Array.getD_eq_getD_getElem?, e3]
        rfl
      rw [e3'] at hb
      obtain ⟨e, k1, k2, k3⟩ := step1_bit _ _ _ hb
      have hse := hd j o hj ho e k1 k2
      rcases k3 with rfl | k3
      · exact hse
      · by_cases hlt : e.on < j
        · refine ih e.on hlt i hse ?_
          unfold bfr
          rw [before_eq, Array.getD_eq_getD_getElem?, e2 e.on (by omega), ← Array.getD_eq_getD_getElem?]
          exact k3
        · rw [Array.getD_eq_getD_getElem?, Array.getElem?_eq_none (by omega)] at k3
          simp at k3

end Go.Abs

noncomputable section
namespace Go.Abs
variable {P : Program} {φ : Ren} {H H' : AH} {bar base : Nat} {w : World}

theorem mapEnv_congr {ρ ρ' : Env} : ∀ {l : List Operand}, (∀ x ∈ l, ρ x = ρ' x) → mapEnv ρ l = mapEnv ρ' l
  | [], _ => rfl
  | x :: l, h => by
    unfold mapEnv
    rw [h x (by simp), mapEnv_congr (l := l) (fun y hy => h y (by simp [hy]))]

theorem pairEnv_congr {ρ ρ' : Env} : ∀ {l : List (Nat × Operand)}, (∀ p ∈ l, ρ p.2 = ρ' p.2) → pairEnv ρ l = pairEnv ρ' l
  | [], _ => rfl
  | (i, x) :: l, h => by
    unfold pairEnv
    rw [h (i, x) (by simp), pairEnv_congr (l := l) (fun y hy => h y (by simp [hy]))]

theorem optEnv_congr {ρ ρ' : Env} {x : Option Operand} (h : ∀ y, x = some y → ρ y = ρ' y) : optEnv ρ x = optEnv ρ' x := by
  cases x with
  | none => rfl
  | some y => simp only [optEnv, h y rfl]

theorem makeFunc_congr {a a' b b' : Option (List Value)} {g : FuncId} (h : a = a') (k : b = b') :
    (a.bind fun x => b.bind fun y => val H (some (.func (.func g) x.toArray y.toArray))) = a'.bind fun x => b'.bind fun y => val H (some (.func (.func g) x.toArray y.toArray)) := by
  rw [h, k]

theorem aop_congr {ρ ρ' : Env} (op : Op) (h : ∀ x ∈ op.operands, ρ x = ρ' x) : aop P bar ρ H op = aop P bar ρ' H op := by
  cases op <;> simp only [Op.operands] at h <;> simp only [aop]
  case move x => rw [h x (by simp)]
  case assign x => rw [h x (by simp)]
  case pick c a b =>
    unfold aPick
    rw [h c (by simp)]
    split
    · rename_i t _
      cases t
      · exact congrArg (val H) (h b (by simp))
      · exact congrArg (val H) (h a (by simp))
    · rfl
  case box t x => rw [h x (by simp)]
  case build t ps => rw [pairEnv_congr (fun p hp => h p.2 (by simp; exact ⟨p.1, by simpa using hp⟩))]
  case buildSlice t n ps => rw [pairEnv_congr (fun p hp => h p.2 (by simp; exact ⟨p.1, by simpa using hp⟩))]
  case load t a => rw [h a (by simp)]
  case store t a v => rw [h a (by simp), h v (by simp)]
  case nilCheck x => rw [h x (by simp)]
  case binOp op t x y yt => rw [h x (by simp), h y (by simp)]
  case unOp op t x => rw [h x (by simp)]
  case convert s d x => rw [h x (by simp)]
  case makeInterface t x => rw [h x (by simp)]
  case makeFunc fn f c =>
    cases fn with
    | func g => exact makeFunc_congr (mapEnv_congr (fun x hx => h x (by simp at hx; simp [hx]))) (mapEnv_congr (l := c.toList) (fun x hx => h x (by simp at hx; simp [hx])))
    | _ => rfl
  case makeMap t r => rw [optEnv_congr (fun y hy => h y (by simp [hy]))]
  case makeSlice t l c => rw [h l (by simp), h c (by simp)]
  case slice t x lo hi mx => rw [h x (by simp), optEnv_congr (x := lo) (fun y hy => h y (by simp [hy])), optEnv_congr (x := hi) (fun y hy => h y (by simp [hy])), optEnv_congr (x := mx) (fun y hy => h y (by simp [hy]))]
  case fieldAddr t x i => rw [h x (by simp)]
  case field t x i => rw [h x (by simp)]
  case indexAddr t x i => rw [h x (by simp), h i (by simp)]
  case index t x i => rw [h x (by simp), h i (by simp)]
  case lookup t x i ok => rw [h x (by simp), h i (by simp)]
  case mapUpdate t m k v => rw [h m (by simp), h k (by simp), h v (by simp)]
  case insert t m k v => rw [h m (by simp), h k (by simp), h v (by simp)]
  case typeAssert x xt t ok => rw [h x (by simp)]
  case extract x i => rw [h x (by simp)]
  case call c =>
    unfold aCall
    rw [mapEnv_congr (fun x hx => h x (by simp [Call.operands]; right; simpa using hx))]
    cases hc : c.callee with
    | builtin b => rfl
    | value f => simp only [h f (by simp [Call.operands, hc])]
    | invoke r m => rfl

theorem val_some {x : Option Value} {r : ARes} (h : val H x = some r) : ∃ v, x = some v ∧ r = .val v H := by
  unfold val at h
  rw [Option.map_eq_some_iff] at h; obtain ⟨v, h1, h2⟩ := h
  exact ⟨v, h1, h2.symm⟩

/-- An operation on registers alone. -/
theorem reg_sound {ρc : Operand → Value} {ρ : Env} (hρ : EnvR φ ρc ρ) {o : Oper} {r : ARes} (hreg : regOp o.op = true) (h : aop P bar ρ H o.op = some r) :
    ∃ v, r = .val v H ∧ ∀ w, ∃ u, (execOp ρc o).run P w = .ok (.value u) w ∧ VR φ u v := by
  obtain ⟨dst, op, ty, pos, after, guard⟩ := o
  dsimp only at h hreg
  have fromS : ∀ {s : Sem Value} {v : Value}, (∀ w, ∃ u, s.run P w = .ok u w ∧ VR φ u v) → ∀ w, ∃ u, ((do pure (.value (← s)) : Sem Next)).run P w = .ok (.value u) w ∧ VR φ u v := by
    intro s v hs w
    obtain ⟨u, h1, h2⟩ := hs w
    exact ⟨u, by simp [h1], h2⟩
  cases op <;> simp only [regOp, Bool.false_eq_true] at hreg
  case move x =>
    obtain ⟨v, h1, rfl⟩ := val_some h
    exact ⟨v, rfl, fun w => ⟨ρc x, rfl, hρ x v h1⟩⟩
  case assign x =>
    obtain ⟨v, h1, rfl⟩ := val_some h
    exact ⟨v, rfl, fun w => ⟨ρc x, rfl, hρ x v h1⟩⟩
  case pick c a b =>
    obtain ⟨u, hu, rfl⟩ := val_some h
    refine ⟨u, rfl, fun w => ?_⟩
    unfold aPick at hu
    split at hu
    · rename_i t ht
      have hc := hρ c _ ht
      generalize hval : ρc c = vc at hc
      cases hc with
      | bool =>
        cases t
        · exact ⟨ρc b, by simp [execOp, hval, asBool], hρ b u hu⟩
        · exact ⟨ρc a, by simp [execOp, hval, asBool], hρ a u hu⟩
    · cases hu
  case build t parts =>
    have h' : ((pairEnv ρ parts.toList).bind fun ps => val H (aBuild P t ps)) = some r := h
    rw [Option.bind_eq_some_iff] at h'; obtain ⟨ps, hps, h'⟩ := h'
    obtain ⟨a, ha, rfl⟩ := val_some h'
    refine ⟨a, rfl, fromS fun w => ?_⟩
    obtain ⟨v, h1, h2⟩ := snd_build (pairEnv_rel hρ hps) ha w
    refine ⟨v, ?_, h2⟩
    rw [← h1]
    congr 2
    apply Array.toList_inj.1
    simp
  case nilCheck x =>
    have h' : ((ρ x).bind fun v => val H (aNilCheck v)) = some r := h
    rw [Option.bind_eq_some_iff] at h'; obtain ⟨v, hv, h'⟩ := h'
    obtain ⟨a, ha, rfl⟩ := val_some h'
    exact ⟨a, rfl, fun w => snd_nilCheck (hρ x v hv) ha _ ρc x rfl rfl w⟩
  case binOp op t x y yt =>
    have h' : (match ρ x, ρ y with
      | some a, some b => val H (aBin P op t x y a b)
      | _, _ => none) = some r := h
    split at h'
    · rename_i a b ha hb
      obtain ⟨u, hu, rfl⟩ := val_some h'
      exact ⟨u, rfl, fromS fun w => snd_bin (hρ x a ha) (hρ y b hb) hu w⟩
    · cases h'
  case unOp op t x =>
    have h' : ((ρ x).bind fun v => if plain1 v then val H ((pureRun P (Op.unary op v)).bind fun r => if plain1 r then some r else none) else none) = some r := h
    rw [Option.bind_eq_some_iff] at h'; obtain ⟨v, hv, h'⟩ := h'
    split at h'
    · rename_i hp
      obtain ⟨u, hu, rfl⟩ := val_some h'
      exact ⟨u, rfl, fromS fun w => snd_pure1 (s := fun v => Op.unary op v) (hρ x v hv) hp hu w⟩
    · cases h'
  case makeInterface t x =>
    have h' : ((ρ x).bind fun v => val H (aMakeIface P t v)) = some r := h
    rw [Option.bind_eq_some_iff] at h'; obtain ⟨v, hv, h'⟩ := h'
    obtain ⟨u, hu, rfl⟩ := val_some h'
    exact ⟨u, rfl, fromS fun w => snd_makeIface (hρ x v hv) hu w⟩
  case makeFunc fn first captured =>
    cases fn with
    | func g =>
      have h' : ((mapEnv ρ first.toList).bind fun a => (mapEnv ρ captured.toList).bind fun b => val H (some (.func (.func g) a.toArray b.toArray))) = some r := h
      rw [Option.bind_eq_some_iff] at h'; obtain ⟨a, ha, h'⟩ := h'
      rw [Option.bind_eq_some_iff] at h'; obtain ⟨b, hb, h'⟩ := h'
      obtain ⟨u, hu, rfl⟩ := val_some h'
      cases hu
      exact ⟨_, rfl, fromS fun w => ⟨.func (.func g) (first.map ρc) (captured.map ρc), rfl, .func (by simpa using mapEnv_rel hρ ha) (by simpa using mapEnv_rel hρ hb)⟩⟩
    | _ => cases h
  case fieldAddr t x i =>
    have h' : ((ρ x).bind fun v => val H (aFieldAddr P t v i)) = some r := h
    rw [Option.bind_eq_some_iff] at h'; obtain ⟨v, hv, h'⟩ := h'
    obtain ⟨u, hu, rfl⟩ := val_some h'
    exact ⟨u, rfl, fromS fun w => snd_fieldAddr (hρ x v hv) hu w⟩
  case field t x i =>
    have h' : ((ρ x).bind fun v => val H (aField P t v i)) = some r := h
    rw [Option.bind_eq_some_iff] at h'; obtain ⟨v, hv, h'⟩ := h'
    obtain ⟨u, hu, rfl⟩ := val_some h'
    exact ⟨u, rfl, fromS fun w => snd_field (hρ x v hv) hu w⟩
  case indexAddr t x i =>
    have h' : (match ρ x, ρ i with
      | some a, some b => val H (aIndexAddr P t a b)
      | _, _ => none) = some r := h
    split at h'
    · rename_i a b ha hb
      obtain ⟨u, hu, rfl⟩ := val_some h'
      exact ⟨u, rfl, fromS fun w => snd_indexAddr (hρ x a ha) (hρ i b hb) hu w⟩
    · cases h'
  case index t x i =>
    have h' : (match ρ x, ρ i with
      | some a, some b => val H (aIndex P t a b)
      | _, _ => none) = some r := h
    split at h'
    · rename_i a b ha hb
      obtain ⟨u, hu, rfl⟩ := val_some h'
      exact ⟨u, rfl, fromS fun w => snd_index (hρ x a ha) (hρ i b hb) hu w⟩
    · cases h'
  case typeAssert x xt t ok =>
    have h' : ((ρ x).bind fun v => val H (aTypeAssert P v xt t ok)) = some r := h
    rw [Option.bind_eq_some_iff] at h'; obtain ⟨v, hv, h'⟩ := h'
    obtain ⟨u, hu, rfl⟩ := val_some h'
    exact ⟨u, rfl, fromS fun w => snd_typeAssert (hρ x v hv) hu w⟩
  case extract x i =>
    have h' : ((ρ x).bind fun v => val H (aExtract v i)) = some r := h
    rw [Option.bind_eq_some_iff] at h'; obtain ⟨v, hv, h'⟩ := h'
    obtain ⟨u, hu, rfl⟩ := val_some h'
    exact ⟨u, rfl, fromS fun w => snd_extract (hρ x v hv) hu w⟩

theorem aLoad_congr {G : AH} {t b o : Nat} (h : G.get b = H.get b) : aLoad P G t b o = aLoad P H t b o := by
  unfold aLoad rowCells
  rw [h]

theorem aSlice_congr {G : AH} {t : TypeId} {x : Value} {lo hi mx : Option Value} (h : ∀ b o l, x = .slice (some ⟨b, o, none⟩) l capU → G.get b = H.get b) : aSlice P G t x lo hi mx = aSlice P H t x lo hi mx := by
  unfold aSlice
  split
  · rfl
  · rfl
  · rename_i b o len cap _
    congr 1
    funext size
    split
    · rename_i hc
      subst hc
      rw [h b o len rfl]
    · rfl
  · rfl
  · rfl

theorem aLookup_congr {G : AH} {t : TypeId} {x k : Value} {ok : Bool} (h : ∀ r, x = .map (some r) → G.get r = H.get r) : aLookup P G t x k ok = aLookup P H t x k ok := by
  cases x with
  | map r => cases r with
    | none => rfl
    | some r =>
      have e := h r rfl
      simp only [aLookup, e]
  | _ => rfl

theorem aLenB_congr {G : AH} {ts : Array TypeId} {args : Array Value} (h : ∀ r, args[0]? = some (.map (some r)) → G.get r = H.get r) : aLenB P G ts args = aLenB P H ts args := by
  unfold aLenB
  split
  · rename_i t x _ hx
    split
    · rfl
    · rfl
    · rfl
    · rfl
    · rfl
    · rename_i r _
      rw [h r hx]
    · rfl
  · rfl

theorem capU_beq {cap : Nat} (h : Nat.beq cap capU = false) : cap ≠ capU := by
  intro e
  rw [e, Nat.beq_refl] at h
  cases h

theorem mapEnv_zero {ρ : Env} : ∀ {xs : List Operand} {l : List Value}, mapEnv ρ xs = some l → l[0]? = (xs[0]?).bind ρ
  | [], l, h => by cases h; rfl
  | x :: xs, l, h => by
    unfold mapEnv at h
    split at h
    · rename_i v hv
      rw [Option.map_eq_some_iff] at h; obtain ⟨l', _, h⟩ := h
      subst h
      simp [hv]
    · cases h

/-- An operation that looks at one block at most, which is as it was. -/
theorem load_sound {G : AH} (hs : Sim φ G bar base w) {ρc : Operand → Value} {ρ : Env} (hρ : EnvR φ ρc ρ) {o : Oper} {r : ARes} {b : Option Nat} {bar' : Nat} (hl : loadsA ρ o.op = some b) (hg : ∀ x, b = some x → G.get x = H.get x) (h : aop P bar' ρ H o.op = some r) :
    ∃ v, r = .val v H ∧ ∃ u, (execOp ρc o).run P w = .ok (.value u) w ∧ VR φ u v := by
  obtain ⟨dst, op, ty, pos, after, guard⟩ := o
  dsimp only at h hl
  have fromS : ∀ {s : Sem Value} {v : Value}, (∃ u, s.run P w = .ok u w ∧ VR φ u v) → ∃ u, ((do pure (.value (← s)) : Sem Next)).run P w = .ok (.value u) w ∧ VR φ u v := by
    intro s v ⟨u, h1, h2⟩
    exact ⟨u, by simp [h1], h2⟩
  cases op <;> simp only [loadsA] at hl
  case load t a =>
    have h' : (match ρ a with
      | some (.pointer (some ⟨b, o, none⟩)) => val H (aLoad P H t b o)
      | _ => none) = some r := h
    split at h'
    · rename_i b' o' hp
      rw [hp] at hl
      cases hl
      obtain ⟨v, hv, rfl⟩ := val_some h'
      have hvp := hρ a _ hp
      generalize hval : ρc a = vp at hvp
      cases hvp with
      | ptr hφ =>
        rw [← aLoad_congr (hg _ rfl)] at hv
        obtain ⟨u, h1, h2⟩ := run_loadVar' hs hφ hv
        refine ⟨v, rfl, u, ?_, h2⟩
        simp only [execOp, hval]
        simp [Instr.loadAt, Instr.sureAddr, h1]
    · cases h'
  case slice t x lo hi mx =>
    have h' : ((ρ x).bind fun v => (optEnv ρ lo).bind fun lo => (optEnv ρ hi).bind fun hi => (optEnv ρ mx).bind fun mx => val H (aSlice P H t v lo hi mx)) = some r := h
    simp only [Option.bind_eq_some_iff] at h'
    obtain ⟨v, hv, lo', hlo, hi', hhi, mx', hmx, h'⟩ := h'
    obtain ⟨u, hu, rfl⟩ := val_some h'
    rw [hv] at hl
    have hu' : aSlice P G t v lo' hi' mx' = some u := by
      rw [aSlice_congr (H := H), hu]
      intro b' o' l' e
      subst e
      simp only [Nat.beq_refl] at hl
      cases hl
      exact hg _ rfl
    exact ⟨u, rfl, fromS (snd_slice hs (hρ x v hv) (optEnv_rel hρ hlo) (optEnv_rel hρ hhi) (optEnv_rel hρ hmx) hu')⟩
  case lookup t x i ok =>
    have h' : (match ρ x, ρ i with
      | some a, some b => val H (aLookup P H t a b ok)
      | _, _ => none) = some r := h
    split at h'
    · rename_i a k ha hk
      obtain ⟨u, hu, rfl⟩ := val_some h'
      rw [ha] at hl
      have hu' : aLookup P G t a k ok = some u := by
        rw [aLookup_congr (H := H), hu]
        intro r' e
        subst e
        cases hl
        exact hg _ rfl
      exact ⟨u, rfl, fromS (snd_lookup hs (hρ x a ha) (hρ i k hk) hu')⟩
    · cases h'
  case call c =>
    have h' : aCall P bar' ρ H c = some r := h
    unfold aCall at h'
    rw [Option.bind_eq_some_iff] at h'; obtain ⟨l, hargs, h'⟩ := h'
    have hrel : VRs φ (c.args.map ρc).toList l := by simpa using mapEnv_rel hρ hargs
    cases hc : c.callee with
    | value f => rw [hc] at hl; cases hl
    | invoke x m => rw [hc] at hl; cases hl
    | builtin bi =>
      rw [hc] at hl h'
      dsimp only at h'
      have hz := mapEnv_zero hargs
      have he : execOp ρc ⟨dst, .call c, ty, pos, after, guard⟩ = builtin bi c.argTypes ty (c.args.map fun | .const _ => true | _ => false) (c.args.map ρc) := by
        show (do let d ← resolve ρc c ty; invoke d.target d.args : Sem Next) = _
        unfold resolve
        rw [hc]
        rfl
      rw [he]
      cases bi <;> simp only at hl <;> first | (cases hl; done) | skip
      case len =>
        have h' : val H (aLenB P H c.argTypes l.toArray) = some r := h'
        obtain ⟨u, hu, rfl⟩ := val_some h'
        have hu' : aLenB P G c.argTypes l.toArray = some u := by
          rw [aLenB_congr (H := H), hu]
          intro r' e
          have e' : (c.args[0]?).bind ρ = some (.map (some r')) := by
            rw [← Array.getElem?_toList, ← hz]
            simpa using e
          rw [e'] at hl
          cases hl
          exact hg _ rfl
        refine ⟨u, rfl, ?_⟩
        obtain ⟨v, h1, h2⟩ := snd_lenB (ty := ty) hs (args' := c.args.map ρc) (args := l.toArray) (by simpa using hrel) hu'
        refine ⟨v, ?_, h2⟩
        simp [builtin, h1]
      case cap =>
        have h' : val H (aCapB P c.argTypes l.toArray) = some r := h'
        obtain ⟨u, hu, rfl⟩ := val_some h'
        refine ⟨u, rfl, ?_⟩
        obtain ⟨v, h1, h2⟩ := snd_capB (ty := ty) (args' := c.args.map ρc) (args := l.toArray) (by simpa using hrel) hu w
        refine ⟨v, ?_, h2⟩
        simp [builtin, h1]
      case max =>
        have h' : (if l.toArray.toList.all plain1 then val H ((pureRun P (Builtin.max_ c.argTypes 0 l.toArray)).bind fun r => if plain1 r then some r else none) else none) = some r := h'
        split at h'
        · rename_i hp
          obtain ⟨u, hu, rfl⟩ := val_some h'
          refine ⟨u, rfl, ?_⟩
          obtain ⟨v, h1, h2⟩ := snd_pures (s := fun xs => Builtin.max_ c.argTypes ty xs) (vs := c.args.map ρc) (xs := l.toArray) (by simpa using hrel) hp hu w
          refine ⟨v, ?_, h2⟩
          simp [builtin, h1]
        · cases h'
      case min =>
        have h' : (if l.toArray.toList.all plain1 then val H ((pureRun P (Builtin.min_ c.argTypes 0 l.toArray)).bind fun r => if plain1 r then some r else none) else none) = some r := h'
        split at h'
        · rename_i hp
          obtain ⟨u, hu, rfl⟩ := val_some h'
          refine ⟨u, rfl, ?_⟩
          obtain ⟨v, h1, h2⟩ := snd_pures (s := fun xs => Builtin.min_ c.argTypes ty xs) (vs := c.args.map ρc) (xs := l.toArray) (by simpa using hrel) hp hu w
          refine ⟨v, ?_, h2⟩
          simp [builtin, h1]
        · cases h'
  all_goals cases hl

theorem get_put' (hn : H.next ≤ 262144) {b b' : Nat} (hb : b < H.next) (hb' : b' < H.next) (hne : b' ≠ b) (o : AObj) : (H.put b o).get b' = H.get b' := by
  rw [AH.get_put H o (by omega) (by omega), if_neg hne]

theorem get_alloc' {o : AObj} (h : H.alloc o = some H') {b : Nat} (hb : b < H.next) : H'.get b = H.get b ∧ H.next ≤ H'.next ∧ H'.next ≤ 262144 := by
  obtain ⟨h1, h2, h3⟩ := AH.alloc_eq h
  exact ⟨by rw [h3 b (by omega), if_neg (by omega)], by omega, by omega⟩

end Go.Abs
