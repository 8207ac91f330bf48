/- A machine that carries out code on values that are known, and the proof that the model's runs agree with it: one part. -/
import Derived.Test.YtgfhhbgkleimjaaGreatAbsDraw2
noncomputable section
namespace Go.Abs
variable {P : Program} {φ : Ren} {H H' : AH} {bar base : Nat} {w : World}

def res (φ : Ren) (N : Nat) : Ren := fun b => if b < N then φ b else none

theorem res_some {N b : Nat} {r : RB} : res φ N b = some r ↔ b < N ∧ φ b = some r := by
  unfold res
  by_cases h : b < N
  · simp [h]
  · simp only [if_neg h]
    exact ⟨fun e => (by cases e), fun e => absurd e.1 h⟩

theorem res_le (φ : Ren) (N : Nat) : (res φ N).le φ := fun _b _r h => (res_some.1 h).2

theorem res_mono {φ ψ : Ren} (h : φ.le ψ) (N : Nat) : (res φ N).le (res ψ N) := fun b r e => res_some.2 ⟨(res_some.1 e).1, h b r (res_some.1 e).2⟩

theorem le_res {φ ψ : Ren} {N : Nat} (h : φ.le ψ) (hN : ∀ b r, φ b = some r → b < N) : φ.le (res ψ N) := fun b r e => res_some.2 ⟨hN b r e, h b r e⟩

mutual
theorem VR.both {φ ψ : Ren} {N : Nat} (hN : ∀ b r, ψ b = some r → b < N) : ∀ {v u a : Value}, VR φ v a → VR ψ u a → VR (res φ N) v a
  | _, _, _, .bool b, _ => .bool b
  | _, _, _, .int k n, _ => .int k n
  | _, _, _, .float k n, _ => .float k n
  | _, _, _, .string s, _ => .string s
  | _, _, _, .ptrNil, _ => .ptrNil
  | _, _, _, .ptr h, .ptr h' => .ptr (res_some.2 ⟨hN _ _ h', h⟩)
  | _, _, _, .sliceNil, _ => .sliceNil
  | _, _, _, .slice h hl hc, .slice h' _ _ => .slice (res_some.2 ⟨hN _ _ h', h⟩) hl hc
  | _, _, _, .slice h hl hc, .sliceE h' _ => .slice (res_some.2 ⟨hN _ _ h', h⟩) hl hc
  | _, _, _, .sliceE h ha, .slice h' _ _ => .sliceE (res_some.2 ⟨hN _ _ h', h⟩) ha
  | _, _, _, .sliceE h ha, .sliceE h' _ => .sliceE (res_some.2 ⟨hN _ _ h', h⟩) ha
  | _, _, _, .mapNil, _ => .mapNil
  | _, _, _, .map h, .map h' => .map (res_some.2 ⟨hN _ _ h', h⟩)
  | _, _, _, .chanNil, _ => .chanNil
  | _, _, _, .nilFunc, _ => .nilFunc
  | _, _, _, .func hf hc, .func hf' hc' => .func (VRs.both hN hf hf') (VRs.both hN hc hc')
  | _, _, _, .yield h, .yield h' => .yield (res_some.2 ⟨hN _ _ h', h⟩)
  | _, _, _, .nilIface, _ => .nilIface
  | _, _, _, .iface h, .iface h' => .iface (VR.both hN h h')
  | _, _, _, .agg h, .agg h' => .agg (VRs.both hN h h')
  | _, _, _, .tuple h, .tuple h' => .tuple (VRs.both hN h h')
theorem VRs.both {φ ψ : Ren} {N : Nat} (hN : ∀ b r, ψ b = some r → b < N) : ∀ {vs us as : List Value}, VRs φ vs as → VRs ψ us as → VRs (res φ N) vs as
  | _, _, _, .nil, _ => .nil
  | _, _, _, .cons h t, .cons h' t' => .cons (VR.both hN h h') (VRs.both hN t t')
end

/-- The step of an operation that writes to nothing old, seen by whoever may write. -/
theorem Step.lower {φ' : Ren} {w' : World} (hs : Sim φ H bar base w) (st : Step φ H H.next w.heap.size w φ' H' w') : Step φ H bar base w φ' H' w' := by
  have hn := st.nx
  have old : ∀ b r, φ' b = some r → b < H.next → φ b = some r := fun b r h hb => (st.new b r h).resolve_right (by omega)
  have hbn := hs.bn
  refine ⟨st.ext, ⟨by have := st.sim.bn; omega, st.sim.small, st.sim.lt, st.sim.obj, ?_, ?_, ?_, st.sim.cur⟩, st.new, st.below.mono hs.hb, hn, fun b hb hb' => st.keep b hb' hb'⟩
  · intro b b' r r' h1 h2 l1 l2 hb hc
    by_cases q1 : b < H.next
    · have o1 := old b r h1 q1
      by_cases q2 : b' < H.next
      · have o2 := old b' r' h2 q2
        refine hs.inj b b' r r' o1 o2 ?_ ?_ hb hc
        · obtain ⟨o, e1, e2⟩ := l1; exact ⟨o, by rw [← st.keep b q1 q1]; exact e1, e2⟩
        · obtain ⟨o, e1, e2⟩ := l2; exact ⟨o, by rw [← st.keep b' q2 q2]; exact e1, e2⟩
      · have := st.sim.own b' r' h2 (by omega)
        have := hs.cur b r o1
        omega
    · exact st.sim.inj b b' r r' h1 h2 l1 l2 (by omega) hc
  · intro b r h hb
    by_cases q1 : b < H.next
    · exact hs.own b r (old b r h q1) hb
    · have := st.sim.own b r h (by omega)
      have := hs.hb
      omega
  · have := st.sim.hb
    have := hs.hb
    omega

theorem Sim.raise' {bar' : Nat} (hs : Sim φ H bar base w) (h : bar ≤ bar') (h' : bar' ≤ H.next) : Sim φ H bar' base w :=
  ⟨h', hs.small, hs.lt, hs.obj, fun b b' r r' h1 h2 l1 l2 hb hc => hs.inj b b' r r' h1 h2 l1 l2 (by omega) hc, fun b r h1 hb => hs.own b r h1 (by omega), hs.hb, hs.cur⟩

theorem Step.lower' {φ' : Ren} {w' : World} {bar' : Nat} (hs : Sim φ H bar base w) (hb : bar ≤ bar') (hb' : bar' ≤ H.next) (st : Step φ H bar' base w φ' H' w') : Step φ H bar base w φ' H' w' := by
  have hn := st.nx
  have old : ∀ b r, φ' b = some r → b < H.next → φ b = some r := fun b r h hb => (st.new b r h).resolve_right (by omega)
  have hbn := hs.bn
  refine ⟨st.ext, ⟨by have := st.sim.bn; omega, st.sim.small, st.sim.lt, st.sim.obj, ?_, ?_, st.sim.hb, st.sim.cur⟩, st.new, st.below, hn, fun b hb1 hb2 => st.keep b (by omega) hb2⟩
  · intro b b' r r' h1 h2 l1 l2 hbb hc
    by_cases q1 : bar' ≤ b
    · exact st.sim.inj b b' r r' h1 h2 l1 l2 q1 hc
    · by_cases q2 : bar' ≤ b'
      · exact (st.sim.inj b' b r' r h2 h1 l2 l1 q2 hc.symm).symm
      · have o1 := old b r h1 (by omega)
        have o2 := old b' r' h2 (by omega)
        refine hs.inj b b' r r' o1 o2 ?_ ?_ hbb hc
        · obtain ⟨o, e1, e2⟩ := l1; exact ⟨o, by rw [← st.keep b (by omega) (by omega)]; exact e1, e2⟩
        · obtain ⟨o, e1, e2⟩ := l2; exact ⟨o, by rw [← st.keep b' (by omega) (by omega)]; exact e1, e2⟩
  · intro b r h hbb
    by_cases q1 : bar' ≤ b
    · exact st.sim.own b r h q1
    · exact hs.own b r (old b r h (by omega)) hbb

theorem Sim.raise (hs : Sim φ H bar base w) : Sim φ H H.next w.heap.size w :=
  ⟨Nat.le_refl _, hs.small, hs.lt, hs.obj, fun b _ r _ h _ _ _ hb => absurd (hs.lt b r h) (by omega), fun b r h hb => absurd (hs.lt b r h) (by omega), Nat.le_refl _, hs.cur⟩

/-- Later blocks are of no concern. -/
theorem Sim.extend {E : AH} (hs : Sim φ H bar base w) (hg : ∀ b, b < H.next → E.get b = H.get b) (hn : H.next ≤ E.next) (hsm : E.next ≤ 262144) : Sim φ E bar base w := by
  have hl : ∀ b r, φ b = some r → E.live b → H.live b := fun b r h ⟨o, h1, h2⟩ => ⟨o, by rw [← hg b (hs.lt b r h)]; exact h1, h2⟩
  exact ⟨Nat.le_trans hs.bn hn, hsm, fun b r h => Nat.lt_of_lt_of_le (hs.lt b r h) hn, fun b r o h h' => hs.obj b r o h (by rw [← hg b (hs.lt b r h)]; exact h'),
    fun b b' r r' h1 h2 l1 l2 => hs.inj b b' r r' h1 h2 (hl b r h1 l1) (hl b' r' h2 l2), hs.own, hs.hb, hs.cur⟩

def uni (φ φ' : Ren) : Ren := fun b => match φ b with
  | some r => some r
  | none => φ' b

theorem uni_le (φ φ' : Ren) : φ.le (uni φ φ') := fun b r h => by unfold uni; rw [h]

/-- A step that was taken with fewer blocks in sight, seen with all. -/
theorem union_sim {E Gi Gi1 : AH} {φ' : Ren} {w' : World} (hs : Sim φ E bar base w) (st : Step (res φ Gi.next) Gi Gi.next w.heap.size w φ' Gi1 w') (hfresh : ∀ b, Gi.next ≤ b → b < Gi1.next → φ b = none)
    (_hbar : bar ≤ Gi.next) (hE : ∀ b, b < Gi1.next → E.get b = Gi1.get b) (hn : Gi1.next ≤ E.next) :
    φ'.le (uni φ φ') ∧ Sim (uni φ φ') E bar base w' ∧ (∀ b r, uni φ φ' b = some r → φ b = some r ∨ (Gi.next ≤ b ∧ b < Gi1.next ∧ φ' b = some r)) := by
  have part : ∀ b r, uni φ φ' b = some r → φ b = some r ∨ (Gi.next ≤ b ∧ b < Gi1.next ∧ φ' b = some r) := by
    intro b r h
    unfold uni at h
    cases hb : φ b with
    | some r' => rw [hb] at h; exact .inl h
    | none =>
      rw [hb] at h
      refine .inr ⟨?_, st.sim.lt b r h, h⟩
      rcases st.new b r h with h' | h'
      · rw [(res_some.1 h').2] at hb; cases hb
      · exact h'
  have hle : φ'.le (uni φ φ') := by
    intro b r h
    unfold uni
    rcases st.new b r h with h' | h'
    · rw [(res_some.1 h').2]
    · rw [hfresh b h' (st.sim.lt b r h)]; exact h
  refine ⟨hle, ⟨hs.bn, hs.small, ?_, ?_, ?_, ?_, ?_, ?_⟩, part⟩
  · intro b r h
    rcases part b r h with h | ⟨_, h, _⟩
    · exact hs.lt b r h
    · omega
  · intro b r o h hg
    rcases part b r h with h | ⟨h1, h2, h3⟩
    · exact (hs.obj b r o h hg).frame (uni_le _ _) (st.below.block _ (hs.cur b r h))
    · rw [hE b h2] at hg
      exact (st.sim.obj b r o h3 hg).frame hle rfl
  · intro b b' r r' h1 h2 l1 l2 hb hc
    rcases part b r h1 with h1 | ⟨q1, q2, q3⟩ <;> rcases part b' r' h2 with h2 | ⟨p1, p2, p3⟩
    · exact hs.inj b b' r r' h1 h2 l1 l2 hb hc
    · have := st.sim.own b' r' p3 p1
      have := hs.cur b r h1
      omega
    · have := st.sim.own b r q3 q1
      have := hs.cur b' r' h2
      omega
    · refine st.sim.inj b b' r r' q3 p3 ?_ ?_ q1 hc
      · obtain ⟨o, e1, e2⟩ := l1; exact ⟨o, by rw [← hE b q2]; exact e1, e2⟩
      · obtain ⟨o, e1, e2⟩ := l2; exact ⟨o, by rw [← hE b' p2]; exact e1, e2⟩
  · intro b r h hb
    rcases part b r h with h | ⟨h1, h2, h3⟩
    · exact hs.own b r h hb
    · have := st.sim.own b r h3 h1
      have := hs.hb
      omega
  · have := st.below.size
    have := hs.hb
    omega
  · intro b r h
    rcases part b r h with h | ⟨h1, h2, h3⟩
    · have := hs.cur b r h
      have := st.below.size
      omega
    · exact st.sim.cur b r h3

theorem Fr.put_get {f f' : Fr} {dst : Option Tmp} {v : Value} (h : f.put dst v = some f') (hsm : f.n ≤ 1024) : f'.n = f.n ∧ ∀ t, f'.get t = if dst = some t then some v else f.get t := by
  cases dst with
  | none => cases h; exact ⟨rfl, fun t => by rw [if_neg (by simp)]⟩
  | some d =>
    by_cases hd : d < f.n
    · have h : (if d < f.n then some { f with m := Tr.set 10 f.m d v } else none) = some f' := h
      rw [if_pos hd] at h
      have hd' : @LT.lt Nat _ d f.n := hd
      cases h
      refine ⟨rfl, fun t => ?_⟩
      unfold Fr.get
      simp only
      by_cases ht : t < 1024
      · rw [if_pos ht, if_pos ht, Tr.get_set 10 f.m d t v (by omega) ht]
        by_cases e : t = d
        · rw [if_pos e, if_pos (by rw [e])]
        · rw [if_neg e, if_neg (fun h => e (Option.some.inj h).symm)]
      · rw [if_neg ht, if_neg ht, if_neg (fun h => by cases h; omega)]
    · have h : (if d < f.n then some { f with m := Tr.set 10 f.m d v } else none) = some f' := h
      rw [if_neg hd] at h
      cases h

theorem put_bound {f f' : Fr} {d : Tmp} {v : Value} (h : f.put (some d) v = some f') : d < f.n := by
  by_cases hd : d < f.n
  · exact hd
  · have h : (if d < f.n then some { f with m := Tr.set 10 f.m d v } else none) = some f' := h
    rw [if_neg hd] at h
    cases h

/-- operA, taken apart. -/
theorem operA_parts {K : Known} {rec : Rec} {ops : Array Oper} {o : Oper} {f f' : Fr} (h : operA P K rec bar ops o f H = some (f', H')) :
    (wantedA ops f o = some false ∧ f.put o.dst undef = some f' ∧ H' = H) ∨
    (wantedA ops f o = some true ∧ ∃ r v, aop P bar (aev f) H o.op = some r ∧ f.put o.dst v = some f' ∧ (r = .val v H' ∨ ∃ g args H₁, r = .call g args H₁ ∧ callA P K rec bar g args H₁ = some (v, H'))) := by
  unfold operA at h
  split at h
  · cases h
  · rename_i hw
    rw [Option.map_eq_some_iff] at h; obtain ⟨f₁, hp, h⟩ := h
    cases h
    exact .inl ⟨hw, hp, rfl⟩
  · rename_i hw
    refine .inr ⟨hw, ?_⟩
    split at h
    · cases h
    · rename_i v H₁ hop
      rw [Option.map_eq_some_iff] at h; obtain ⟨f₁, hp, h⟩ := h
      cases h
      exact ⟨_, v, hop, hp, .inl rfl⟩
    · rename_i g args H₁ hop
      split at h
      · cases h
      · rename_i v H₂ hcall
        rw [Option.map_eq_some_iff] at h; obtain ⟨f₁, hp, h⟩ := h
        cases h
        exact ⟨_, v, hop, hp, .inr ⟨g, args, H₁, rfl, hcall⟩⟩

/-- An operation whose operands are known: what it does. -/
theorem op_run {K : Known} (hK : KnownOk P K) {rec : Rec} (hrec : RecOk P rec) {o : Oper} {ρ : Env} {a : Act} {r : ARes} {v : Value} (hs : Sim φ H bar base w) (hρ : EnvR φ a.eval ρ) (hop : aop P bar ρ H o.op = some r)
    (hr : r = .val v H' ∨ ∃ g args H₁, r = .call g args H₁ ∧ callA P K rec bar g args H₁ = some (v, H')) {next : Act → World → Prop} {Q : Exit → Act → World → Prop} {ol : Option Nat}
    (hn : ∀ u w' φ', Step φ H bar base w φ' H' w' → VR φ' u v → next (a.put o.dst u) w') : o.wpIn (Wd ol) 0 P a w next Q := by
  refine ⟨fun _ _ => trivial, ?_⟩
  rw [semAt_eq hop]
  have hok := aop_sound hs hρ hop
  rcases hr with rfl | ⟨g, args, H₁, rfl, hcall⟩
  · obtain ⟨u, w', φ', h1, h2, h3⟩ := hok
    rcases h1 with h1 | ⟨h1, rfl⟩
    · rw [h1]; exact hn u w' φ' h3 h2
    · rw [h1]; exact hn undef w' φ' h3 h2
  · obtain ⟨rfl, args', w', h1, rfl, h2⟩ := hok
    rw [h1]
    refine ⟨(fun h => by cases h), ?_⟩
    have hc := (callsIn_wide (n := 0)).2 (call_sound hK hrec hcall hs h2)
    refine CallsIn.mono (F := Wd ol) (n := 0) hc ?_
    rintro e w'' ⟨u, φ', rfl, k1, k2⟩
    exact hn u w'' φ' k2 k1

theorem oper_exists {K : Known} (hK : KnownOk P K) {rec : Rec} (hrec : RecOk P rec) {ops : Array Oper} {o : Oper} {f f' : Fr} (h : operA P K rec bar ops o f H = some (f', H')) (hs : Sim φ H bar base w)
    {tmps : Array Value} (hf : FrR φ tmps f) : ∃ φ' w' tmps', Step φ H bar base w φ' H' w' ∧ FrR φ' tmps' f' := by
  let a : Act := { tmps := tmps, defers := [] }
  rcases operA_parts h with ⟨_, hp, rfl⟩ | ⟨_, r, v, hop, hp, hr⟩
  · exact ⟨φ, w, _, Step.refl hs, FrR.put (a := a) hf (.tuple .nil) hp⟩
  · have hok := aop_sound (o := o) hs (aev_rel (a := a) hf) hop
    rcases hr with rfl | ⟨g, args, H₁, rfl, hcall⟩
    · obtain ⟨u, w', φ', h1, h2, h3⟩ := hok
      exact ⟨φ', w', _, h3, FrR.put (a := a) (hf.mono h3.ext) h2 hp⟩
    · obtain ⟨rfl, args', w', h1, rfl, h2⟩ := hok
      obtain ⟨e, w'', fr, ⟨u, φ', _, k1, k2⟩, _⟩ := call_sound hK hrec hcall hs h2 []
      exact ⟨φ', w'', _, k2, FrR.put (a := a) (hf.mono k2.ext) k1 hp⟩

end Go.Abs
