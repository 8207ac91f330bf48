/- A machine that carries out code on values that are known, and the proof that the model's runs agree with it: one part. -/
import Derived.Test.YtghlchpignpibaaGreatAbsMemo2
noncomputable section
namespace Go.Abs
variable {P : Program}

/-! The answer is brought to the memory at hand: its blocks have new numbers. -/

def rnB (ρ : Rho) (n nx : Nat) (b : Nat) : Option Nat := match Nat.ble n b with
  | true => some (nx + (b - n))
  | false => ρ[b]?

def rnVs (f : Value → Option Value) : List Value → Option (List Value)
  | [] => some []
  | a :: as => match f a with
    | none => none
    | some a' => match rnVs f as with
      | none => none
      | some as' => some (a' :: as')

def rnV (g : Nat → Option Nat) : Nat → Value → Option Value
  | 0, _ => none
  | n + 1, v => match v with
    | .bool a => some (.bool a)
    | .int k a => some (.int k a)
    | .string a => some (.string a)
    | .pointer none => some (.pointer none)
    | .pointer (some ⟨b, o, none⟩) => match g b with
      | some b' => some (.pointer (some ⟨b', o, none⟩))
      | none => none
    | .slice none l c => some (.slice none l c)
    | .slice (some ⟨b, o, none⟩) l c => match g b with
      | some b' => some (.slice (some ⟨b', o, none⟩) l c)
      | none => none
    | .map none => some (.map none)
    | .map (some b) => match g b with
      | some b' => some (.map (some b'))
      | none => none
    | .nilFunc => some .nilFunc
    | .nilIface => some .nilIface
    | .func (.func f) a c => match rnVs (rnV g n) a.toList, rnVs (rnV g n) c.toList with
      | some a', some c' => some (.func (.func f) a'.toArray c'.toArray)
      | _, _ => none
    | .iface t x => match rnV g n x with
      | some x' => some (.iface t x')
      | none => none
    | .agg c => match rnVs (rnV g n) c.toList with
      | some c' => some (.agg c'.toArray)
      | none => none
    | .tuple c => match rnVs (rnV g n) c.toList with
      | some c' => some (.tuple c'.toArray)
      | none => none
    | _ => none

def rnEs (g : Nat → Option Nat) : List MapEntry → Option (List MapEntry)
  | [] => some []
  | e :: es => match rnV g 8 e.key, rnV g 8 e.val, rnEs g es with
    | some k, some v, some l => some ({ e with key := k, val := v } :: l)
    | _, _, _ => none

/-- Cells without an address. -/
def flatV : Value → Bool
  | .bool _ => true
  | .int _ _ => true
  | _ => false

def flats : List Value → Bool
  | [] => true
  | a :: as => match flatV a with
    | true => flats as
    | false => false

def rnO (g : Nat → Option Nat) : AObj → Option AObj
  | .row c t z => match flats c with
    | true => some (.row c t z)
    | false => match rnVs (rnV g 8) c with
      | some c' => some (.row c' t z)
      | none => none
  | .map es ck => match rnEs g es with
    | some es' => some (.map es' ck)
    | none => none
  | .dead => some .dead
  | _ => none

def rnOs (g : Nat → Option Nat) : List AObj → Option (List AObj)
  | [] => some []
  | o :: os => match rnO g o, rnOs g os with
    | some o', some os' => some (o' :: os')
    | _, _ => none

def RenR (g : Nat → Option Nat) (ψ φ : Ren) : Prop := ∀ b b' r, g b = some b' → ψ b = some r → φ b' = some r

theorem rnVs_spec {f : Value → Option Value} {ψ φ : Ren} (hf : ∀ a a', f a = some a' → ∀ u, VR ψ u a → VR φ u a') : ∀ {as as' : List Value}, rnVs f as = some as' → ∀ us, VRs ψ us as → VRs φ us as'
  | [], as', h, us, hu => by cases h; cases hu; exact .nil
  | a :: as, as', h, us, hu => by
    simp only [rnVs] at h
    split at h
    · cases h
    · rename_i a' h1
      split at h
      · cases h
      · rename_i l h2
        cases h
        cases hu with
        | cons hv ht => exact .cons (hf _ _ h1 _ hv) (rnVs_spec hf h2 _ ht)

theorem rnV_spec {g : Nat → Option Nat} {ψ φ : Ren} (hg : RenR g ψ φ) : ∀ (n : Nat) (v v' : Value), rnV g n v = some v' → ∀ u, VR ψ u v → VR φ u v'
  | 0, _, _, h => by simp [rnV] at h
  | n + 1, v, v', h => by
    have ih := rnV_spec hg n
    intro u hu
    unfold rnV at h
    split at h
    · cases h; cases hu; exact .bool _
    · cases h; cases hu; exact .int _ _
    · cases h; cases hu; exact .string _
    · cases h; cases hu; exact .ptrNil
    · split at h
      · rename_i hb
        cases h
        cases hu with
        | ptr hφ => exact .ptr (hg _ _ _ hb hφ)
      · cases h
    · cases h; cases hu; exact .sliceNil
    · split at h
      · rename_i hb
        cases h
        cases hu with
        | slice hφ hl hc => exact .slice (hg _ _ _ hb hφ) hl hc
        | sliceE hφ ha => exact .sliceE (hg _ _ _ hb hφ) ha
      · cases h
    · cases h; cases hu; exact .mapNil
    · split at h
      · rename_i hb
        cases h
        cases hu with
        | map hφ => exact .map (hg _ _ _ hb hφ)
      · cases h
    · cases h; cases hu; exact .nilFunc
    · cases h; cases hu; exact .nilIface
    · split at h
      · rename_i a' c' h1 h2
        cases h
        cases hu with
        | func hf hc => exact .func (rnVs_spec ih h1 _ hf) (rnVs_spec ih h2 _ hc)
      · cases h
    · split at h
      · rename_i x' h1
        cases h
        cases hu with
        | iface hv => exact .iface (ih _ _ h1 _ hv)
      · cases h
    · split at h
      · rename_i x' h1
        cases h
        cases hu with
        | agg hv => exact .agg (rnVs_spec ih h1 _ hv)
      · cases h
    · split at h
      · rename_i x' h1
        cases h
        cases hu with
        | tuple hv => exact .tuple (rnVs_spec ih h1 _ hv)
      · cases h
    · cases h

theorem rnEs_spec {g : Nat → Option Nat} {ψ φ : Ren} (hg : RenR g ψ φ) : ∀ {es es' : List MapEntry}, rnEs g es = some es' → ∀ us, EntR ψ us es → EntR φ us es'
  | [], es', h, us, hu => by cases h; cases hu; exact .nil
  | e :: es, es', h, us, hu => by
    simp only [rnEs] at h
    split at h
    · rename_i k v l h1 h2 h3
      cases h
      cases hu with
      | cons hk hv hb ht => exact .cons (rnV_spec hg _ _ _ h1 _ hk) (rnV_spec hg _ _ _ h2 _ hv) hb (rnEs_spec hg h3 _ ht)
    · cases h

theorem flat_rel {ψ φ : Ren} {v u : Value} (h : flatV v = true) (hu : VR ψ u v) : VR φ u v := by
  cases hu <;> first | (cases h; done) | exact .bool _ | exact .int _ _

theorem flats_rel {ψ φ : Ren} : ∀ {as us : List Value}, flats as = true → VRs ψ us as → VRs φ us as
  | [], us, _, hu => by cases hu; exact .nil
  | a :: as, us, h, hu => by
    simp only [flats] at h
    split at h
    · rename_i ha
      cases hu with
      | cons hv ht => exact .cons (flat_rel ha hv) (flats_rel h ht)
    · cases h

theorem rnO_spec {g : Nat → Option Nat} {ψ φ : Ren} (hg : RenR g ψ φ) {o o' : AObj} (h : rnO g o = some o') : (∀ r w, ObjR ψ r w o → ObjR φ r w o') ∧ (o' ≠ .dead → o ≠ .dead) := by
  unfold rnO at h
  split at h
  · split at h
    · rename_i hfl
      cases h
      exact ⟨fun r w ho => VRs.toObj ho fun u hu => flats_rel hfl hu, fun _ => by simp⟩
    · split at h
      · rename_i c' h1
        cases h
        exact ⟨fun r w ho => VRs.toObj ho fun u hu => rnVs_spec (rnV_spec hg 8) h1 _ hu, fun _ => by simp⟩
      · cases h
  · split at h
    · rename_i es' h1
      cases h
      exact ⟨fun r w ho => by obtain ⟨es, k1, k2⟩ := ho; exact ⟨es, k1, rnEs_spec hg h1 _ k2⟩, fun _ => by simp⟩
    · cases h
  · cases h
    exact ⟨fun r w ho => trivial, id⟩
  · cases h

theorem rnOs_spec {g : Nat → Option Nat} : ∀ {os os' : List AObj}, rnOs g os = some os' → os'.length = os.length ∧ ∀ (j : Nat) (o' : AObj), os'[j]? = some o' → ∃ o : AObj, os[j]? = some o ∧ rnO g o = some o'
  | [], os', h => by cases h; exact ⟨rfl, fun j o' h => by simp at h⟩
  | o :: os, os', h => by
    simp only [rnOs] at h
    split at h
    · rename_i p l h1 h2
      cases h
      obtain ⟨e1, e2⟩ := rnOs_spec h2
      refine ⟨by simp [e1], fun j o' hj => ?_⟩
      cases j with
      | zero => simp at hj; subst hj; exact ⟨o, rfl, h1⟩
      | succ j => simpa using e2 j o' (by simpa using hj)
    · cases h

/-- The entry's arguments, in the memory at hand. -/
def matchE (e : Ent) (args : List Value) (H : AH) : Option Rho :=
  match mVs (mV 8) [] e.args args with
  | none => none
  | some ρ => match mOs H 0 ρ e.ins with
    | none => none
    | some ρ' => oIf (Nat.beq ρ'.length e.ins.length) (some ρ')

def glueE (e : Ent) (ρ : Rho) (H : AH) : Option (Value × AH) :=
  match Nat.ble (H.next + e.outs.length) 262144 with
  | false => none
  | true => match rnV (rnB ρ e.ins.length H.next) 8 e.v, rnOs (rnB ρ e.ins.length H.next) e.outs with
    | some v, some os => some (v, pushes H os)
    | _, _ => none

def tab : List Ent → Known
  | [], _, _, _ => none
  | e :: es, g, args, H => match Nat.beq e.g g with
    | false => tab es g args H
    | true => match matchE e args.toList H with
      | none => tab es g args H
      | some ρ => match glueE e ρ H with
        | none => tab es g args H
        | some r => some r

theorem ent_use {e : Ent} (he : EntOk P e) {args args' : Array Value} {H H' : AH} {v : Value} {ρ : Rho} (hm : matchE e args.toList H = some ρ) (hg : glueE e ρ H = some (v, H')) {bar base : Nat} {φ : Ren} {w : World}
    (hs : Sim φ H bar base w) (hv : VRs φ args'.toList args.toList) : Calls P e.g args' w fun ex w' => ∃ u φ', ex = .returned u ∧ VR φ' u v ∧ Step φ H bar base w φ' H' w' := by
  obtain ⟨hsz, he⟩ := he
  unfold matchE at hm
  split at hm
  · cases hm
  · rename_i ρ₁ h1
    split at hm
    · cases hm
    · rename_i ρ₂ h2
      replace hm := oIf_some hm
      obtain ⟨hl, hm⟩ := hm
      cases hm
      have hl := Nat.eq_of_beq_eq_true hl
      obtain ⟨x1, m1⟩ := mVs_spec (mV_spec 8) h1
      obtain ⟨x2, m2⟩ := mOs_spec h2
      have hnd : ρ.Nodup := (x1.trans x2).nd (by simp)
      obtain ⟨i1, i2⟩ := heapOf_spec (os := e.ins) (by omega)
      obtain ⟨o1, o2⟩ := heapOf_spec (os := e.ins ++ e.outs) (by simp; omega)
      simp only [List.length_append] at o1
      have bnd : ∀ {b x : Nat}, ρ[b]? = some x → b < e.ins.length := by
        intro b x hb
        have := (List.getElem?_eq_some_iff.1 hb).1
        omega
      -- the entry's own view of the memory
      have hs0 : Sim (comp φ ρ) (pushes H0 e.ins) e.ins.length w.heap.size w := by
        refine ⟨by omega, by omega, ?_, ?_, ?_, ?_, Nat.le_refl _, ?_⟩
        · intro b r hb
          obtain ⟨x, q1, q2⟩ := comp_some.1 hb
          have := bnd q1
          omega
        · intro b r o hb ho
          obtain ⟨x, q1, q2⟩ := comp_some.1 hb
          have := bnd q1
          rw [i2 b (by omega)] at ho
          obtain ⟨y, o', k1, k2, k3, _⟩ := m2 _ _ ho
          rw [Nat.zero_add, q1] at k1
          cases k1
          exact k3 _ _ _ (hs.obj _ r o' q2 k2)
        · intro b b' r r' hb _ _ _ hbar _
          obtain ⟨x, q1, q2⟩ := comp_some.1 hb
          have := bnd q1
          omega
        · intro b r hb hbar
          obtain ⟨x, q1, q2⟩ := comp_some.1 hb
          have := bnd q1
          omega
        · intro b r hb
          obtain ⟨x, q1, q2⟩ := comp_some.1 hb
          exact hs.cur x r q2
      have hv0 : VRs (comp φ ρ) args'.toList e.args := by
        have := m1 φ _ hv
        exact VRs.mono (comp_le x2) this
      unfold glueE at hg
      split at hg
      · cases hg
      · rename_i hle
        have hle := Nat.le_of_ble_eq_true hle
        split at hg
        · rename_i v' os hrv hro
          cases hg
          obtain ⟨l1, l2⟩ := rnOs_spec hro
          obtain ⟨p1, p2⟩ := pushes_spec os H (by omega)
          refine Calls.mono (he _ w args' hs0 hv0) ?_
          rintro ex w' ⟨u, ψ', rfl, hu, st⟩
          have blw : RowKit.Below base w w' := st.below.mono hs.hb
          have hsm := hs.small
          have hbn := hs.bn
          let φ' : Ren := fun b => if b < H.next then φ b else ψ' (e.ins.length + (b - H.next))
          have φlow : ∀ {b : Nat}, b < H.next → φ' b = φ b := fun {b} h => by show (if b < H.next then _ else _) = _; rw [if_pos h]
          have φhigh : ∀ {b : Nat}, H.next ≤ b → φ' b = ψ' (e.ins.length + (b - H.next)) := fun {b} h => by show (if b < H.next then _ else _) = _; rw [if_neg (by omega)]
          have ψlt : ∀ {b : Nat} {r : RB}, ψ' b = some r → b < e.ins.length + e.outs.length := by
            intro b r hb
            have := st.sim.lt b r hb
            omega
          have hren : RenR (rnB ρ e.ins.length H.next) ψ' φ' := by
            intro b b' r hb hr
            unfold rnB at hb
            split at hb
            · rename_i hle
              have hle := Nat.le_of_ble_eq_true hle
              cases hb
              rw [φhigh (by omega), show e.ins.length + (H.next + (b - e.ins.length) - H.next) = b by omega]
              exact hr
            · rename_i hle
              have hlt : b < e.ins.length := by
                by_cases hh : b < e.ins.length
                · exact hh
                · have hq : Nat.ble e.ins.length b = true := Nat.ble_eq_true_of_le (by omega)
                  rw [hq] at hle; cases hle
              rcases st.new b r hr with q | q
              · obtain ⟨x, q1, q2⟩ := comp_some.1 q
                rw [q1] at hb
                cases hb
                rw [φlow (hs.lt _ _ q2)]
                exact q2
              · omega
          have glow : ∀ b, b < H.next → (pushes H os).get b = H.get b := by
            intro b hb
            rw [p2 b (by omega), if_neg (by omega)]
          have ghigh : ∀ {b : Nat} {o : AObj} {r : RB}, H.next ≤ b → ψ' (e.ins.length + (b - H.next)) = some r → (pushes H os).get b = some o → ∃ o', (pushes H0 (e.ins ++ e.outs)).get (e.ins.length + (b - H.next)) = some o' ∧ rnO (rnB ρ e.ins.length H.next) o' = some o := by
            intro b o r hb hr ho
            have := ψlt hr
            rw [p2 b (by omega), if_pos (by omega)] at ho
            obtain ⟨o', k1, k2⟩ := l2 _ _ ho
            refine ⟨o', ?_, k2⟩
            rw [o2 _ (by omega), List.getElem?_append_right (by omega), ← k1]
            congr 1; omega
          have hle' : φ.le φ' := fun b r hb => by rw [φlow (hs.lt b r hb)]; exact hb
          refine ⟨u, φ', rfl, rnV_spec hren _ _ _ hrv _ hu, hle', ⟨?_, ?_, ?_, ?_, ?_, ?_, ?_, ?_⟩, ?_, blw, ?_, ?_⟩
          · omega
          · omega
          · intro b r hb
            by_cases hl : b < H.next
            · omega
            · rw [φhigh (by omega)] at hb
              have := ψlt hb
              omega
          · intro b r o hb ho
            by_cases hl : b < H.next
            · rw [φlow hl] at hb
              rw [glow b hl] at ho
              exact (hs.obj b r o hb ho).frame hle' (st.below.block _ (hs.cur b r hb))
            · rw [φhigh (by omega)] at hb
              obtain ⟨o', k1, k2⟩ := ghigh (by omega) hb ho
              exact (rnO_spec hren k2).1 _ _ (st.sim.obj _ r o' hb k1)
          · intro b b' r r' hb hb' hl hl' hbar hc
            have old : ∀ {b : Nat} {r : RB}, b < H.next → φ' b = some r → r.c < w.heap.size := by
              intro b r hlt hb
              rw [φlow hlt] at hb
              exact hs.cur b r hb
            have new : ∀ {b : Nat} {r : RB}, ¬ b < H.next → φ' b = some r → w.heap.size ≤ r.c := by
              intro b r hlt hb
              rw [φhigh (by omega)] at hb
              exact st.sim.own _ r hb (by omega)
            have liveh : ∀ {b : Nat} {r : RB}, ¬ b < H.next → φ' b = some r → (pushes H os).live b → (pushes H0 (e.ins ++ e.outs)).live (e.ins.length + (b - H.next)) := by
              intro b r hlt hb ⟨o, ho, hd⟩
              rw [φhigh (by omega)] at hb
              obtain ⟨o', k1, k2⟩ := ghigh (by omega) hb ho
              exact ⟨o', k1, (rnO_spec hren k2).2 hd⟩
            by_cases h1 : b < H.next <;> by_cases h2 : b' < H.next
            · rw [φlow h1] at hb
              rw [φlow h2] at hb'
              obtain ⟨o, ho, hd⟩ := hl
              obtain ⟨o', ho', hd'⟩ := hl'
              rw [glow b h1] at ho
              rw [glow b' h2] at ho'
              exact hs.inj b b' r r' hb hb' ⟨o, ho, hd⟩ ⟨o', ho', hd'⟩ hbar hc
            · exfalso
              have := old h1 hb
              have := new h2 hb'
              omega
            · exfalso
              have := new h1 hb
              have := old h2 hb'
              omega
            · have k1 := liveh h1 hb hl
              have k2 := liveh h2 hb' hl'
              rw [φhigh (by omega)] at hb hb'
              have := st.sim.inj _ _ r r' hb hb' k1 k2 (by omega) hc
              omega
          · intro b r hb hbar
            by_cases hl : b < H.next
            · rw [φlow hl] at hb
              exact hs.own b r hb hbar
            · rw [φhigh (by omega)] at hb
              have := st.sim.own _ r hb (by omega)
              have := hs.hb
              omega
          · have := st.sim.hb
            have := hs.hb
            omega
          · intro b r hb
            by_cases hl : b < H.next
            · rw [φlow hl] at hb
              have := hs.cur b r hb
              have := st.sim.hb
              omega
            · rw [φhigh (by omega)] at hb
              exact st.sim.cur _ r hb
          · intro b r hb
            by_cases hl : b < H.next
            · rw [φlow hl] at hb
              exact .inl hb
            · exact .inr (by omega)
          · omega
          · intro b _ hb
            exact glow b hb
        · cases hg

theorem tab_ok : ∀ {es : List Ent}, (∀ e ∈ es, EntOk P e) → KnownOk P (tab es)
  | [], _ => fun g args H v H' h => by simp [tab] at h
  | e :: es, hes => fun g args H v H' h bar φ base w args' hs hv => by
    have ih := tab_ok (fun x hx => hes x (List.mem_cons_of_mem _ hx))
    unfold tab at h
    split at h
    · exact ih g args H v H' h bar φ base w args' hs hv
    · rename_i hg
      have hg := Nat.eq_of_beq_eq_true hg
      split at h
      · exact ih g args H v H' h bar φ base w args' hs hv
      · rename_i ρ h1
        split at h
        · exact ih g args H v H' h bar φ base w args' hs hv
        · rename_i r h2
          cases h
          rw [← hg]
          exact ent_use (hes e List.mem_cons_self) h1 h2 hs hv

end Go.Abs

namespace Go.Abs.Lit
/-! Short names for values, as the entries' texts write them. -/
def i (n : Nat) : Value := .int .i64 (.ofNat n)
def j (n : Nat) : Value := .int .i64 (.negSucc n)
def x (k : IntKind) (n : Int) : Value := .int k n
def t : Value := .bool true
def f : Value := .bool false
def p (b o : Nat) : Value := .pointer (some ⟨b, o, none⟩)
def s (b o l c : Nat) : Value := .slice (some ⟨b, o, none⟩) l c
def q (b o l : Nat) : Value := .slice (some ⟨b, o, none⟩) l capU
def h (b : Nat) : Value := .map (some b)
def np : Value := .pointer none
def ns : Value := .slice none 0 0
def nh : Value := .map none
def nf : Value := .nilFunc
def ni : Value := .nilIface
def g (cs : List Value) : Value := .agg cs.toArray
def u (cs : List Value) : Value := .tuple cs.toArray
def r (c : List Value) (t z : Nat) : AObj := .row c t z
def n (l : List Nat) : List Value := l.map i
def y (l : List Nat) : Value := .string ⟨(l.map UInt8.ofNat).toArray⟩
end Go.Abs.Lit
