/- A machine that carries out code on values that are known, and the proof that the model's runs agree with it: one part. -/
import Derived.Test.YtghlchpignpibaaGreatAbsDraw2
noncomputable section
namespace Go.Abs
variable {P : Program} {φ : Ren} {H H' : AH} {bar base : Nat} {w : World}

def res (φ : Ren) (N : Nat) : Ren := fun b => if b < N then φ b else none

theorem res_some {N b : Nat} {r : RB} : res φ N b = some r ↔ b < N ∧ φ b = some r := by
  unfold res
  by_cases h : b < N
  · simp [h]
  · simp only [if_neg h]
    exact ⟨fun e => (by cases e), fun e => absurd e.1 h⟩

theorem res_le (φ : Ren) (N : Nat) : (res φ N).le φ := fun _b _r h => (res_some.1 h).2

theorem res_mono {φ ψ : Ren} (h : φ.le ψ) (N : Nat) : (res φ N).le (res ψ N) := fun b r e => res_some.2 ⟨(res_some.1 e).1, h b r (res_some.1 e).2⟩

theorem le_res {φ ψ : Ren} {N : Nat} (h : φ.le ψ) (hN : ∀ b r, φ b = some r → b < N) : φ.le (res ψ N) := fun b r e => res_some.2 ⟨hN b r e, h b r e⟩

mutual
theorem VR.both {φ ψ : Ren} {N : Nat} (hN : ∀ b r, ψ b = some r → b < N) : ∀ {v u a : Value}, VR φ v a → VR ψ u a → VR (res φ N) v a
  | _, _, _, .bool b, _ => .bool b
  | _, _, _, .int k n, _ => .int k n
  | _, _, _, .float k n, _ => .float k n
  | _, _, _, .string s, _ => .string s
  | _, _, _, .ptrNil, _ => .ptrNil
  | _, _, _, .ptr h, .ptr h' => .ptr (res_some.2 ⟨hN _ _ h', h⟩)
  | _, _, _, .sliceNil, _ => .sliceNil
  | _, _, _, .slice h hl hc, .slice h' _ _ => .slice (res_some.2 ⟨hN _ _ h', h⟩) hl hc
  | _, _, _, .slice h hl hc, .sliceE h' _ => .slice (res_some.2 ⟨hN _ _ h', h⟩) hl hc
  | _, _, _, .sliceE h ha, .slice h' _ _ => .sliceE (res_some.2 ⟨hN _ _ h', h⟩) ha
  | _, _, _, .sliceE h ha, .sliceE h' _ => .sliceE (res_some.2 ⟨hN _ _ h', h⟩) ha
  | _, _, _, .mapNil, _ => .mapNil
  | _, _, _, .map h, .map h' => .map (res_some.2 ⟨hN _ _ h', h⟩)
  | _, _, _, .chanNil, _ => .chanNil
  | _, _, _, .nilFunc, _ => .nilFunc
  | _, _, _, .func hf hc, .func hf' hc' => .func (VRs.both hN hf hf') (VRs.both hN hc hc')
  | _, _, _, .yield h, .yield h' => .yield (res_some.2 ⟨hN _ _ h', h⟩)
  | _, _, _, .nilIface, _ => .nilIface
  | _, _, _, .iface h, .iface h' => .iface (VR.both hN h h')
  | _, _, _, .agg h, .agg h' => .agg (VRs.both hN h h')
  | _, _, _, .tuple h, .tuple h' => .tuple (VRs.both hN h h')
theorem VRs.both {φ ψ : Ren} {N : Nat} (hN : ∀ b r, ψ b = some r → b < N) : ∀ {vs us as : List Value}, VRs φ vs as → VRs ψ us as → VRs (res φ N) vs as
  | _, _, _, .nil, _ => .nil
  | _, _, _, .cons h t, .cons h' t' => .cons (VR.both hN h h') (VRs.both hN t t')
end

/-- The step of an operation that writes to nothing old, seen by whoever may write. -/
theorem Step.lower {φ' : Ren} {w' : World} (hs : Sim φ H bar base w) (st : Step φ H H.next w.heap.size w φ' H' w') : Step φ H bar base w φ' H' w' := by
  have hn := st.nx
  have old : ∀ b r, φ' b = some r → b < H.next → φ b = some r := fun b r h hb => (st.new b r h).resolve_right (by omega)
  have hbn := hs.bn
  refine ⟨st.ext, ⟨by have := st.sim.bn; omega, st.sim.small, st.sim.lt, st.sim.obj, ?_, ?_, ?_, st.sim.cur⟩, st.new, st.below.mono hs.hb, hn, fun b hb hb' => st.keep b hb' hb'⟩
  · intro b b' r r' h1 h2 l1 l2 hb hc
    by_cases q1 : b < H.next
    · have o1 := old b r h1 q1
      by_cases q2 : b' < H.next
      · have o2 := old b' r' h2 q2
        refine hs.inj b b' r r' o1 o2 ?_ ?_ hb hc
        · obtain ⟨o, e1, e2⟩ := l1; exact ⟨o, by rw [← st.keep b q1 q1]; exact e1, e2⟩
        · obtain ⟨o, e1, e2⟩ := l2; exact ⟨o, by rw [← st.keep b' q2 q2]; exact e1, e2⟩
      · have := st.sim.own b' r' h2 (by omega)
        have := hs.cur b r o1
        omega
    · exact st.sim.inj b b' r r' h1 h2 l1 l2 (by omega) hc
  · intro b r h hb
    by_cases q1 : b < H.next
    · exact hs.own b r (old b r h q1) hb
    · have := st.sim.own b r h (by omega)
      have := hs.hb
      omega
  · have := st.sim.hb
    have := hs.hb
    omega

theorem Sim.raise' {bar' : Nat} (hs : Sim φ H bar base w) (h : bar ≤ bar') (h' : bar' ≤ H.next) : Sim φ H bar' base w :=
  ⟨h', hs.small, hs.lt, hs.obj, fun b b' r r' h1 h2 l1 l2 hb hc => hs.inj b b' r r' h1 h2 l1 l2 (by omega) hc, fun b r h1 hb => hs.own b r h1 (by omega), hs.hb, hs.cur⟩

theorem Step.lower' {φ' : Ren} {w' : World} {bar' : Nat} (hs : Sim φ H bar base w) (hb : bar ≤ bar') (hb' : bar' ≤ H.next) (st : Step φ H bar' base w φ' H' w') : Step φ H bar base w φ' H' w' := by
  have hn := st.nx
  have old : ∀ b r, φ' b = some r → b < H.next → φ b = some r := fun b r h hb => (st.new b r h).resolve_right (by omega)
  have hbn := hs.bn
  refine ⟨st.ext, ⟨by have := st.sim.bn; omega, st.sim.small, st.sim.lt, st.sim.obj, ?_, ?_, st.sim.hb, st.sim.cur⟩, st.new, st.below, hn, fun b hb1 hb2 => st.keep b (by omega) hb2⟩
  · intro b b' r r' h1 h2 l1 l2 hbb hc
    by_cases q1 : bar' ≤ b
    · exact st.sim.inj b b' r r' h1 h2 l1 l2 q1 hc
    · by_cases q2 : bar' ≤ b'
      · exact (st.sim.inj b' b r' r h2 h1 l2 l1 q2 hc.symm).symm
      · have o1 := old b r h1 (by omega)
        have o2 := old b' r' h2 (by omega)
        refine hs.inj b b' r r' o1 o2 ?_ ?_ hbb hc
        · obtain ⟨o, e1, e2⟩ := l1; exact ⟨o, by rw [← st.keep b (by omega) (by omega)]; exact e1, e2⟩
        · obtain ⟨o, e1, e2⟩ := l2; exact ⟨o, by rw [← st.keep b' (by omega) (by omega)]; exact e1, e2⟩
  · intro b r h hbb
    by_cases q1 : bar' ≤ b
    · exact st.sim.own b r h q1
    · exact hs.own b r (old b r h (by omega)) hbb

theorem Sim.raise (hs : Sim φ H bar base w) : Sim φ H H.next w.heap.size w :=
  ⟨Nat.le_refl _, hs.small, hs.lt, hs.obj, fun b _ r _ h _ _ _ hb => absurd (hs.lt b r h) (by omega), fun b r h hb => absurd (hs.lt b r h) (by omega), Nat.le_refl _, hs.cur⟩

/-- Later blocks are of no concern. -/
theorem Sim.extend {E : AH} (hs : Sim φ H bar base w) (hg : ∀ b, b < H.next → E.get b = H.get b) (hn : H.next ≤ E.next) (hsm : E.next ≤ 262144) : Sim φ E bar base w := by
  have hl : ∀ b r, φ b = some r → E.live b → H.live b := fun b r h ⟨o, h1, h2⟩ => ⟨o, by rw [← hg b (hs.lt b r h)]; exact h1, h2⟩
  exact ⟨Nat.le_trans hs.bn hn, hsm, fun b r h => Nat.lt_of_lt_of_le (hs.lt b r h) hn, fun b r o h h' => hs.obj b r o h (by rw [← hg b (hs.lt b r h)]; exact h'),
    fun b b' r r' h1 h2 l1 l2 => hs.inj b b' r r' h1 h2 (hl b r h1 l1) (hl b' r' h2 l2), hs.own, hs.hb, hs.cur⟩

def uni (φ φ' : Ren) : Ren := fun b => match φ b with
  | some r => some r
  | none => φ' b

theorem uni_le (φ φ' : Ren) : φ.le (uni φ φ') := fun b r h => by unfold uni; rw [h]

/-- A step that was taken with fewer blocks in sight, seen with all. -/
theorem union_sim {E Gi Gi1 : AH} {φ' : Ren} {w' : World} (hs : Sim φ E bar base w) (st : Step (res φ Gi.next) Gi Gi.next w.heap.size w φ' Gi1 w') (hfresh : ∀ b, Gi.next ≤ b → b < Gi1.next → φ b = none)
    (_hbar : bar ≤ Gi.next) (hE : ∀ b, Gi.next ≤ b → b < Gi1.next → E.get b = Gi1.get b) (hn : Gi1.next ≤ E.next) :
    φ'.le (uni φ φ') ∧ Sim (uni φ φ') E bar base w' ∧ (∀ b r, uni φ φ' b = some r → φ b = some r ∨ (Gi.next ≤ b ∧ b < Gi1.next ∧ φ' b = some r)) := by
  have part : ∀ b r, uni φ φ' b = some r → φ b = some r ∨ (Gi.next ≤ b ∧ b < Gi1.next ∧ φ' b = some r) := by
    intro b r h
    unfold uni at h
    cases hb : φ b with
    | some r' => rw [hb] at h; exact .inl h
    | none =>
      rw [hb] at h
      refine .inr ⟨?_, st.sim.lt b r h, h⟩
      rcases st.new b r h with h' | h'
      · rw [(res_some.1 h').2] at hb; cases hb
      · exact h'
  have hle : φ'.le (uni φ φ') := by
    intro b r h
    unfold uni
    rcases st.new b r h with h' | h'
    · rw [(res_some.1 h').2]
    · rw [hfresh b h' (st.sim.lt b r h)]; exact h
  refine ⟨hle, ⟨hs.bn, hs.small, ?_, ?_, ?_, ?_, ?_, ?_⟩, part⟩
  · intro b r h
    rcases part b r h with h | ⟨_, h, _⟩
    · exact hs.lt b r h
    · omega
  · intro b r o h hg
    rcases part b r h with h | ⟨h1, h2, h3⟩
    · exact (hs.obj b r o h hg).frame (uni_le _ _) (st.below.block _ (hs.cur b r h))
    · rw [hE b h1 h2] at hg
      exact (st.sim.obj b r o h3 hg).frame hle rfl
  · intro b b' r r' h1 h2 l1 l2 hb hc
    rcases part b r h1 with h1 | ⟨q1, q2, q3⟩ <;> rcases part b' r' h2 with h2 | ⟨p1, p2, p3⟩
    · exact hs.inj b b' r r' h1 h2 l1 l2 hb hc
    · have := st.sim.own b' r' p3 p1
      have := hs.cur b r h1
      omega
    · have := st.sim.own b r q3 q1
      have := hs.cur b' r' h2
      omega
    · refine st.sim.inj b b' r r' q3 p3 ?_ ?_ q1 hc
      · obtain ⟨o, e1, e2⟩ := l1; exact ⟨o, by rw [← hE b q1 q2]; exact e1, e2⟩
      · obtain ⟨o, e1, e2⟩ := l2; exact ⟨o, by rw [← hE b' p1 p2]; exact e1, e2⟩
  · intro b r h hb
    rcases part b r h with h | ⟨h1, h2, h3⟩
    · exact hs.own b r h hb
    · have := st.sim.own b r h3 h1
      have := hs.hb
      omega
  · have := st.below.size
    have := hs.hb
    omega
  · intro b r h
    rcases part b r h with h | ⟨h1, h2, h3⟩
    · have := hs.cur b r h
      have := st.below.size
      omega
    · exact st.sim.cur b r h3

theorem Fr.put_get {f f' : Fr} {dst : Option Tmp} {v : Value} (h : f.put dst v = some f') (hsm : f.n ≤ 1024) : f'.n = f.n ∧ ∀ t, f'.get t = if dst = some t then some v else f.get t := by
  cases dst with
  | none => cases h; exact ⟨rfl, fun t => by rw [if_neg (by simp)]⟩
  | some d =>
    by_cases hd : d < f.n
    · have h : (if d < f.n then some { f with m := Tr.set 10 f.m d v } else none) = some f' := h
      rw [if_pos hd] at h
      have hd' : @LT.lt Nat _ d f.n := hd
      cases h
      refine ⟨rfl, fun t => ?_⟩
      unfold Fr.get
      simp only
      by_cases ht : t < 1024
      · rw [if_pos ht, if_pos ht, Tr.get_set 10 f.m d t v (by omega) ht]
        by_cases e : t = d
        · rw [if_pos e, if_pos (by rw [e])]
        · rw [if_neg e, if_neg (fun h => e (Option.some.inj h).symm)]
      · rw [if_neg ht, if_neg ht, if_neg (fun h => by cases h; omega)]
    · have h : (if d < f.n then some { f with m := Tr.set 10 f.m d v } else none) = some f' := h
      rw [if_neg hd] at h
      cases h

theorem put_bound {f f' : Fr} {d : Tmp} {v : Value} (h : f.put (some d) v = some f') : d < f.n := by
  by_cases hd : d < f.n
  · exact hd
  · have h : (if d < f.n then some { f with m := Tr.set 10 f.m d v } else none) = some f' := h
    rw [if_neg hd] at h
    cases h

/-- operA, taken apart. -/
theorem operA_parts {K : Known} {rec : Rec} {ops : Array Oper} {o : Oper} {f f' : Fr} (h : operA P K rec bar ops o f H = some (f', H')) :
    (wantedA ops f o = some false ∧ f.put o.dst undef = some f' ∧ H' = H) ∨
    (wantedA ops f o = some true ∧ ∃ r v, aop P bar (aev f) H o.op = some r ∧ f.put o.dst v = some f' ∧ (r = .val v H' ∨ ∃ g args H₁, r = .call g args H₁ ∧ callA P K rec bar g args H₁ = some (v, H'))) := by
  unfold operA at h
  split at h
  · cases h
  · rename_i hw
    rw [Option.map_eq_some_iff] at h; obtain ⟨f₁, hp, h⟩ := h
    cases h
    exact .inl ⟨hw, hp, rfl⟩
  · rename_i hw
    refine .inr ⟨hw, ?_⟩
    split at h
    · cases h
    · rename_i v H₁ hop
      rw [Option.map_eq_some_iff] at h; obtain ⟨f₁, hp, h⟩ := h
      cases h
      exact ⟨_, v, hop, hp, .inl rfl⟩
    · rename_i g args H₁ hop
      split at h
      · cases h
      · rename_i v H₂ hcall
        rw [Option.map_eq_some_iff] at h; obtain ⟨f₁, hp, h⟩ := h
        cases h
        exact ⟨_, v, hop, hp, .inr ⟨g, args, H₁, rfl, hcall⟩⟩

/-- An operation whose operands are known: what it does. -/
theorem op_run {K : Known} (hK : KnownOk P K) {rec : Rec} (hrec : RecOk P rec) {o : Oper} {ρ : Env} {a : Act} {r : ARes} {v : Value} (hs : Sim φ H bar base w) (hρ : EnvR φ a.eval ρ) (hop : aop P bar ρ H o.op = some r)
    (hr : r = .val v H' ∨ ∃ g args H₁, r = .call g args H₁ ∧ callA P K rec bar g args H₁ = some (v, H')) {next : Act → World → Prop} {Q : Exit → Act → World → Prop} {ol : Option Nat}
    (hn : ∀ u w' φ', Step φ H bar base w φ' H' w' → VR φ' u v → next (a.put o.dst u) w') : o.wpIn (Wd ol) 0 P a w next Q := by
  refine ⟨fun _ _ => trivial, ?_⟩
  rw [semAt_eq hop]
  have hok := aop_sound hs hρ hop
  rcases hr with rfl | ⟨g, args, H₁, rfl, hcall⟩
  · obtain ⟨u, w', φ', h1, h2, h3⟩ := hok
    rcases h1 with h1 | ⟨h1, rfl⟩
    · rw [h1]; exact hn u w' φ' h3 h2
    · rw [h1]; exact hn undef w' φ' h3 h2
  · obtain ⟨rfl, args', w', h1, rfl, h2⟩ := hok
    rw [h1]
    refine ⟨(fun h => by cases h), ?_⟩
    have hc := (callsIn_wide (n := 0)).2 (call_sound hK hrec hcall hs h2)
    refine CallsIn.mono (F := Wd ol) (n := 0) hc ?_
    rintro e w'' ⟨u, φ', rfl, k1, k2⟩
    exact hn u w'' φ' k2 k1

theorem oper_exists {K : Known} (hK : KnownOk P K) {rec : Rec} (hrec : RecOk P rec) {ops : Array Oper} {o : Oper} {f f' : Fr} (h : operA P K rec bar ops o f H = some (f', H')) (hs : Sim φ H bar base w)
    {tmps : Array Value} (hf : FrR φ tmps f) : ∃ φ' w' tmps', Step φ H bar base w φ' H' w' ∧ FrR φ' tmps' f' := by
  let a : Act := { tmps := tmps, defers := [] }
  rcases operA_parts h with ⟨_, hp, rfl⟩ | ⟨_, r, v, hop, hp, hr⟩
  · exact ⟨φ, w, _, Step.refl hs, FrR.put (a := a) hf (.tuple .nil) hp⟩
  · have hok := aop_sound (o := o) hs (aev_rel (a := a) hf) hop
    rcases hr with rfl | ⟨g, args, H₁, rfl, hcall⟩
    · obtain ⟨u, w', φ', h1, h2, h3⟩ := hok
      exact ⟨φ', w', _, h3, FrR.put (a := a) (hf.mono h3.ext) h2 hp⟩
    · obtain ⟨rfl, args', w', h1, rfl, h2⟩ := hok
      obtain ⟨e, w'', fr, ⟨u, φ', _, k1, k2⟩, _⟩ := call_sound hK hrec hcall hs h2 []
      exact ⟨φ', w'', _, k2, FrR.put (a := a) (hf.mono k2.ext) k1 hp⟩

end Go.Abs

noncomputable section
namespace Go.Abs
variable {P : Program} {φ : Ren} {H H' : AH} {bar base : Nat} {w : World}

theorem aWrite_keep (hsm : H.next ≤ 262144) {b o : Nat} {vs : List Value} (h : aWrite bar H b o vs = some H') : H'.next = H.next ∧ ∀ b', b' ≠ b → b' < H.next → b < 262144 → H'.get b' = H.get b' := by
  unfold aWrite at h
  split at h
  · cases h; exact ⟨rfl, fun _ _ _ _ => rfl⟩
  · split at h
    · split at h
      · rw [Option.map_eq_some_iff] at h; obtain ⟨c', _, h⟩ := h
        subst h
        exact ⟨rfl, fun b' hne hb' hb => by rw [AH.get_put H _ hb (by omega), if_neg hne]⟩
      · cases h
    · cases h

/-- A store or an append writes to the one block that 'writesA' names. -/
theorem writes_one (hs : Sim φ H bar base w) {a : Act} {ρ : Env} (hρ : EnvR φ a.eval ρ) {Wf : FuncId → Option Nat} {op : Op} {b : Nat} {r : ARes} (hw : writesA Wf ρ op = some (.one b)) (h : aop P bar ρ H op = some r) :
    ∃ v H', r = .val v H' ∧ H.next ≤ H'.next ∧ ∀ b', b' ≠ b → b' < H.next → H'.get b' = H.get b' := by
  have hsm := hs.small
  cases op <;> simp only [writesA] at hw
  case store t x y =>
    have h' : (match ρ x, ρ y with
      | some (.pointer (some ⟨b, o, none⟩)), some v => (aStore P bar H t b o v).map (.val undef ·)
      | _, _ => none) = some r := h
    split at h'
    · rename_i b' o v hp hx
      rw [hp] at hw
      cases hw
      have hv := hρ x _ hp
      generalize a.eval x = vp at hv
      cases hv with
      | ptr hφ =>
        have hlt := hs.lt _ _ hφ
        rw [Option.map_eq_some_iff] at h'; obtain ⟨H₁, hst, h'⟩ := h'
        subst h'
        unfold aStore at hst
        split at hst
        · obtain ⟨e1, e2⟩ := aWrite_keep hsm hst
          exact ⟨_, _, rfl, by omega, fun b'' hne hb'' => e2 b'' hne hb'' (by omega)⟩
        · cases hst
    · cases h'
  case mapUpdate t mo ko vo =>
    have h' : (match ρ mo, ρ ko, ρ vo with
      | some a, some b, some c => (aMapUpdate P bar H t a b c).map (.val undef ·)
      | _, _, _ => none) = some r := h
    split at h'
    · rename_i mv kv vv ha hb hc
      rw [Option.map_eq_some_iff] at h'; obtain ⟨H₁, hst, h'⟩ := h'
      subst h'
      rw [ha] at hw
      unfold aMapUpdate at hst
      split at hst
      · rename_i kt et r' hu
        cases hw
        have hlt : b < H.next := by
          have hv := hρ mo _ ha
          generalize a.eval mo = vp at hv
          cases hv with
          | map hφ => exact hs.lt _ _ hφ
        have put : ∀ o, (H.put b o).next = H.next ∧ ∀ b', b' ≠ b → b' < H.next → (H.put b o).get b' = H.get b' := fun o => ⟨rfl, fun b' hne hb' => get_put' hsm hlt hb' hne o⟩
        split at hst
        · split at hst
          · split at hst
            · simp only [Option.bind_eq_some_iff] at hst
              obtain ⟨_, _, f, _, hst⟩ := hst
              split at hst
              · split at hst
                · split at hst
                  · cases hst; exact ⟨_, _, rfl, Nat.le_of_eq (put _).1.symm, (put _).2⟩
                  · cases hst
                · cases hst
              · cases hst; exact ⟨_, _, rfl, Nat.le_of_eq (put _).1.symm, (put _).2⟩
            · cases hst
          · cases hst
        · cases hst
      · cases hst
    · cases h'
  case call c =>
    cases hc : c.callee with
    | value f =>
      rw [hc] at hw
      cases f with
      | func g =>
        simp only at hw
        split at hw
        · rename_i k _
          injection hw with hw
          unfold argBlock at hw
          split at hw <;> cases hw
        · cases hw
      | _ =>
        simp only at hw
        split at hw
        · split at hw
          · injection hw with hw
            unfold argBlock at hw
            split at hw <;> cases hw
          · cases hw
        · cases hw
    | invoke x m => rw [hc] at hw; cases hw
    | builtin bi =>
      rw [hc] at hw
      cases bi <;> simp only at hw
      case append =>
        have h' : aCall P bar ρ H c = some r := h
        unfold aCall at h'
        rw [Option.bind_eq_some_iff] at h'; obtain ⟨args, hargs, h'⟩ := h'
        rw [hc] at h'
        have h' : aAppend P bar H c.argTypes args.toArray = some r := h'
        split at hw
        · rename_i p len cap hx
          split at hw
          · cases hw
          · rename_i hcl
            cases hw
            rw [Option.bind_eq_some_iff] at hx
            obtain ⟨x, hx0, hx1⟩ := hx
            obtain ⟨rest, hcl0⟩ : ∃ rest, c.args.toList = x :: rest := by
              have : c.args.toList[0]? = some x := by simpa using hx0
              cases hl : c.args.toList with
              | nil => rw [hl] at this; simp at this
              | cons y ys => rw [hl] at this; simp at this; exact ⟨ys, by rw [this]⟩
            rw [hcl0] at hargs
            unfold mapEnv at hargs
            rw [hx1] at hargs
            simp only at hargs
            rw [Option.map_eq_some_iff] at hargs
            obtain ⟨args', hargs', rfl⟩ := hargs
            have hv := hρ x _ hx1
            obtain ⟨a', H', rfl⟩ := res_is_val h' fun _ _ _ => aAppend_val
            refine ⟨a', H', rfl, ?_⟩
            -- the address
            obtain ⟨blk, off, spot⟩ := p
            have hspot : spot = none := by
              generalize a.eval x = vp at hv
              cases hv <;> rfl
            subst hspot
            have hlt : blk < H.next := by
              obtain ⟨rb, _, _, hφ, _⟩ := slice_some hv
              exact hs.lt _ _ hφ
            unfold aAppend at h'
            split at h'
            · rename_i st xt s y hts hag
              simp only [List.cons.injEq] at hag
              obtain ⟨rfl, _⟩ := hag
              split at h'
              · simp only [Option.bind_eq_some_iff] at h'
                obtain ⟨size, _, i, _, zv, _, h'⟩ := h'
                split at h'
                · cases h'
                · rw [Option.bind_eq_some_iff] at h'
                  obtain ⟨q, _, h'⟩ := h'
                  have grow : ∀ {e s b l n : Nat} {o nw : List Value} {v : Value} {H' : AH}, aGrow H e s b l n o nw = some (.val v H') → H.next ≤ H'.next ∧ ∀ b', b' < H.next → H'.get b' = H.get b' := by
                    intro e s b l n o nw v H' hg
                    unfold aGrow at hg
                    split at hg
                    · rw [Option.map_eq_some_iff] at hg; obtain ⟨⟨b', H₁⟩, hr, hg⟩ := hg
                      cases hg
                      obtain ⟨_, hal⟩ := aNewRow_eq hr
                      exact ⟨by have := (AH.alloc_eq hal).2.1; omega, fun b' hb' => (get_alloc' hal hb').1⟩
                    · cases hg
                  have appU : ∀ {e s by' n : Nat} {nw : List Value} {v : Value} {H' : AH} {oo ll : Nat}, aAppU bar H e s by' n nw blk oo ll = some (.val v H') → H.next ≤ H'.next ∧ ∀ b', b' ≠ blk → b' < H.next → H'.get b' = H.get b' := by
                    intro e s by' n nw v H' oo ll h'
                    unfold aAppU at h'
                    split at h'
                    · split at h'
                      · split at h'
                        · simp only [Option.bind_eq_some_iff, Option.map_eq_some_iff] at h'
                          obtain ⟨old, _, H₁, hal, h'⟩ := h'
                          cases h'
                          have hn : (H.put blk .dead).next = H.next := rfl
                          refine ⟨by have := (AH.alloc_eq hal).2.1; omega, fun b' hne hb' => ?_⟩
                          rw [(get_alloc' hal (by omega)).1]
                          rw [AH.get_put H _ (by omega) (by omega), if_neg hne]
                        · cases h'
                      · cases h'
                    · cases h'
                  unfold aAppS at h'
                  simp only at h'
                  split at h'
                  · cases h'; exact ⟨Nat.le_refl _, fun _ _ _ => rfl⟩
                  · split at h'
                    · unfold aAppV at h'
                      split at h'
                      · rename_i c t zz hgg
                        split at h'
                        · rw [Option.map_eq_some_iff] at h'; obtain ⟨H₁, hw, h'⟩ := h'
                          cases h'
                          obtain ⟨e1, e2⟩ := aWrite_keep hsm hw
                          exact ⟨by omega, fun b' hne hb' => e2 b' hne hb' (by omega)⟩
                        · exact appU h'
                      · cases h'
                    · unfold aAppX at h'
                      split at h'
                      · rw [Option.map_eq_some_iff] at h'; obtain ⟨H₁, hw, h'⟩ := h'
                        cases h'
                        obtain ⟨e1, e2⟩ := aWrite_keep hsm hw
                        exact ⟨by omega, fun b' hne hb' => e2 b' hne hb' (by omega)⟩
                      · rw [Option.bind_eq_some_iff] at h'; obtain ⟨old, _, h'⟩ := h'
                        obtain ⟨e1, e2⟩ := grow h'
                        exact ⟨e1, fun b' _ hb' => e2 b' hb'⟩
              · cases h'
            · cases h'
        · cases hw
      all_goals cases hw
  all_goals cases hw

end Go.Abs

noncomputable section
namespace Go.Abs
variable {P : Program}

def Cls.isW : Cls → Prop
  | .W _ => True
  | _ => False

theorem WS.lim_le (s : WS) (bar : Nat) : bar ≤ s.lim bar := by
  cases s <;> simp [WS.lim] <;> omega

structure Trace (P : Program) (K : Known) (rec : Rec) (Wf : FuncId → Option Nat) (bar : Nat) (ops : Array Oper) (F : Nat → Fr) (G : Nat → AH) (C : Nat → Cls) : Prop where
  step : ∀ i o, ops[i]? = some o → drawOne P K rec Wf bar ops o (F i) (G i) = some (C i, F (i + 1), G (i + 1))

theorem trace_of {K : Known} {rec : Rec} {Wf : FuncId → Option Nat} {bar : Nat} {ops : Array Oper} : ∀ (os : List Oper) (f : Fr) (H : AH) (cs : List (Cls × AH × AH)) (f' : Fr) (H' : AH), drawAll P K rec Wf bar ops os f H = some (cs, f', H') →
    ∃ (F : Nat → Fr) (G : Nat → AH) (C : Nat → Cls), F 0 = f ∧ G 0 = H ∧ F os.length = f' ∧ G os.length = H' ∧ cs.length = os.length ∧ (∀ i, i < os.length → cs[i]? = some (C i, G i, G (i + 1))) ∧ ∀ i o, os[i]? = some o → drawOne P K rec Wf bar ops o (F i) (G i) = some (C i, F (i + 1), G (i + 1))
  | [], f, H, cs, f', H', h => by
    cases h
    exact ⟨fun _ => f, fun _ => H, fun _ => .R, rfl, rfl, rfl, rfl, rfl, fun i h => by simp at h, fun i o h => by simp at h⟩
  | o :: os, f, H, cs, f', H', h => by
    unfold drawAll at h
    split at h
    · cases h
    · rename_i c f₁ H₁ h1
      split at h
      · cases h
      · rename_i l r h2
        cases h
        obtain ⟨F, G, C, e1, e2, e3, e4, e5, e6, e7⟩ := trace_of os f₁ H₁ l f' H' h2
        refine ⟨fun i => match i with | 0 => f | i + 1 => F i, fun i => match i with | 0 => H | i + 1 => G i, fun i => match i with | 0 => c | i + 1 => C i, rfl, rfl, e3, e4, by simp [e5], fun i hi => ?_, fun i o' ho => ?_⟩
        · cases i with
          | zero => simp [e2]
          | succ i => simpa using e6 i (by simpa using hi)
        · cases i with
          | zero =>
            simp at ho; subst ho
            show drawOne P K rec Wf bar ops o f H = some (c, F 0, G 0)
            rw [e1, e2]; exact h1
          | succ i => exact e7 i o' (by simpa using ho)

section
variable {K : Known} {rec : Rec} {Wf : FuncId → Option Nat} {bar base : Nat} {ops : Array Oper} {F : Nat → Fr} {G : Nat → AH} {C : Nat → Cls}

theorem drawOne_oper {o : Oper} {f f' : Fr} {H H' : AH} {c : Cls} (h : drawOne P K rec Wf bar ops o f H = some (c, f', H')) :
    (¬ c.isW ∧ operA P K rec H.next ops o f H = some (f', H')) ∨ (∃ s, c = .W s ∧ s.lim bar ≤ H.next ∧ operA P K rec (s.lim bar) ops o f H = some (f', H')) := by
  unfold drawOne at h
  split at h
  · split at h
    · rename_i s hs
      unfold drawW at h
      split at h
      · rename_i hb
        rw [Option.map_eq_some_iff] at h; obtain ⟨p, hp, h⟩ := h
        cases h
        exact .inr ⟨s, rfl, Nat.le_of_ble_eq_true hb, hp⟩
      · cases h
    · rename_i c' hne
      rw [Option.map_eq_some_iff] at h; obtain ⟨p, hp, h⟩ := h
      cases h
      refine .inl ⟨fun hw => ?_, hp⟩
      cases hc : clsA Wf (aev f) o.op with
      | W b => exact hne b hc
      | _ => rw [hc] at hw; exact hw
  · rw [Option.map_eq_some_iff] at h; obtain ⟨p, hp, h⟩ := h
    cases h
    exact .inl ⟨fun hw => hw, hp⟩
  · cases h

/-- The operations carried out in the order of the text: what becomes of the abstract memory. -/
theorem canon (hK : KnownOk P K) (hrec : RecOk P rec) (ht : Trace P K rec Wf bar ops F G C) {φ₀ : Ren} {w₀ : World} {tmps₀ : Array Value} (hs : Sim φ₀ (G 0) bar base w₀) (hf : FrR φ₀ tmps₀ (F 0)) :
    ∀ i, i ≤ ops.size → ∃ φ w tmps, Step φ₀ (G 0) bar base w₀ φ (G i) w ∧ FrR φ tmps (F i)
  | 0, _ => ⟨φ₀, w₀, tmps₀, Step.refl hs, hf⟩
  | i + 1, hi => by
    obtain ⟨φ, w, tmps, h1, h2⟩ := canon hK hrec ht hs hf i (by omega)
    have ho : ops[i]? = some ops[i] := by simp
    rcases drawOne_oper (ht.step i _ ho) with ⟨_, h⟩ | ⟨s, _, hsb, h⟩
    · obtain ⟨φ', w', tmps', k1, k2⟩ := oper_exists hK hrec h h1.sim.raise h2
      exact ⟨φ', w', tmps', h1.trans (k1.lower h1.sim), k2⟩
    · obtain ⟨φ', w', tmps', k1, k2⟩ := oper_exists hK hrec h (h1.sim.raise' (WS.lim_le s bar) hsb) h2
      exact ⟨φ', w', tmps', h1.trans (Step.lower' h1.sim (WS.lim_le s bar) hsb k1), k2⟩

structure Mem (bar : Nat) (ops : Array Oper) (F : Nat → Fr) (G : Nat → AH) (C : Nat → Cls) : Prop where
  mono : ∀ i, i < ops.size → (G i).next ≤ (G (i + 1)).next
  small : ∀ i, i ≤ ops.size → (G i).next ≤ 262144
  keep : ∀ i, i < ops.size → ¬ (C i).isW → ∀ b, b < (G i).next → (G (i + 1)).get b = (G i).get b
  one : ∀ i s, i < ops.size → C i = .W s → ∀ b', s.free b' = true → b' < (G i).next → (G (i + 1)).get b' = (G i).get b'
  bar : ∀ i, i ≤ ops.size → (G 0).next ≤ (G i).next ∧ ∀ b, b < bar → b < (G 0).next → (G i).get b = (G 0).get b
  frame : ∀ i, i ≤ ops.size → ∀ t v, (F i).get t = some v → ∃ ψ u, (∀ b r, ψ b = some r → b < (G i).next) ∧ VR ψ u v
  n : ∀ i, i ≤ ops.size → (F i).n = (F 0).n ∧ (F i).n ≤ 1024

theorem drawOne_cls {o : Oper} {f f' : Fr} {H H' : AH} {c : Cls} (h : drawOne P K rec Wf bar ops o f H = some (c, f', H')) :
    (wantedA ops f o = some true ∧ c = clsA Wf (aev f) o.op) ∨ (wantedA ops f o = some false ∧ c = .R) := by
  unfold drawOne at h
  split at h
  · rename_i hw
    refine .inl ⟨hw, ?_⟩
    split at h
    · rename_i b hc
      unfold drawW at h
      split at h
      · rw [Option.map_eq_some_iff] at h; obtain ⟨p, hp, h⟩ := h
        cases h
        exact hc.symm
      · cases h
    · rw [Option.map_eq_some_iff] at h; obtain ⟨p, hp, h⟩ := h
      cases h
      rfl
  · rename_i hw
    rw [Option.map_eq_some_iff] at h; obtain ⟨p, hp, h⟩ := h
    cases h
    exact .inr ⟨hw, rfl⟩
  · cases h

theorem cls_W {Wf : FuncId → Option Nat} {ρ : Env} {op : Op} {b : WS} (h : clsA Wf ρ op = .W b) : writesA Wf ρ op = some b := by
  unfold clsA at h
  split at h
  · cases h
  · split at h
    · cases h
    · split at h
      · rename_i hb; cases h; exact hb
      · first | cases h | (split at h <;> cases h)

theorem mem_of (hK : KnownOk P K) (hrec : RecOk P rec) (ht : Trace P K rec Wf bar ops F G C) {φ₀ : Ren} {w₀ : World} {tmps₀ : Array Value} (hs : Sim φ₀ (G 0) bar base w₀) (hf : FrR φ₀ tmps₀ (F 0)) : Mem bar ops F G C := by
  have hc := canon hK hrec ht hs hf
  have one : ∀ i (hi : i < ops.size), ∃ φ w tmps, Sim φ (G i) bar base w ∧ FrR φ tmps (F i) ∧ ((¬ (C i).isW ∧ operA P K rec (G i).next ops ops[i] (F i) (G i) = some (F (i + 1), G (i + 1))) ∨ (∃ s, C i = .W s ∧ s.lim bar ≤ (G i).next ∧ operA P K rec (s.lim bar) ops ops[i] (F i) (G i) = some (F (i + 1), G (i + 1)))) := by
    intro i hi
    obtain ⟨φ, w, tmps, h1, h2⟩ := hc i (by omega)
    exact ⟨φ, w, tmps, h1.sim, h2, drawOne_oper (ht.step i ops[i] (by simp))⟩
  refine ⟨?_, ?_, ?_, ?_, ?_, ?_, ?_⟩
  · intro i hi
    obtain ⟨φ, w, tmps, h1, h2, h3⟩ := one i hi
    rcases h3 with ⟨_, h⟩ | ⟨s, _, hsb, h⟩
    · obtain ⟨_, _, _, k1, _⟩ := oper_exists hK hrec h h1.raise h2; exact k1.nx
    · obtain ⟨_, _, _, k1, _⟩ := oper_exists hK hrec h (h1.raise' (WS.lim_le s bar) hsb) h2; exact k1.nx
  · intro i hi
    obtain ⟨φ, w, tmps, h1, h2⟩ := hc i hi
    exact h1.sim.small
  · intro i hi hnw b hb
    obtain ⟨φ, w, tmps, h1, h2, h3⟩ := one i hi
    rcases h3 with ⟨_, h⟩ | ⟨s, hw, _⟩
    · obtain ⟨_, _, _, k1, _⟩ := oper_exists hK hrec h h1.raise h2; exact k1.keep b hb hb
    · rw [hw] at hnw; exact absurd trivial hnw
  · intro i s hi hcw b' hfree hb'
    obtain ⟨φ, w, tmps, h1, h2, h3⟩ := one i hi
    rcases h3 with ⟨hnw, _⟩ | ⟨s', hw', hsb, h⟩
    · rw [hcw] at hnw; exact absurd trivial hnw
    · rw [hcw] at hw'; cases hw'
      rcases drawOne_cls (ht.step i ops[i] (by simp)) with ⟨hwt, hcl⟩ | ⟨_, hcl⟩
      · rw [hcw] at hcl
        have hwr := cls_W hcl.symm
        let a : Act := { tmps := tmps, defers := [] }
        cases s with
        | any => cases hfree
        | one b =>
          rcases operA_parts h with ⟨hwf, _⟩ | ⟨_, r, v, hop, _, hr⟩
          · rw [hwt] at hwf; cases hwf
          · obtain ⟨v', H', e1, _, e3⟩ := writes_one h1 (aev_rel (a := a) h2) hwr hop
            have hne : b' ≠ b := by simpa [WS.free] using hfree
            rcases hr with rfl | ⟨g, args, H₁, rfl, _⟩
            · injection e1 with _ e1; rw [← e1] at e3; exact e3 b' hne hb'
            · cases e1
        | ge b =>
          obtain ⟨_, _, _, k1, _⟩ := oper_exists hK hrec h (h1.raise' (WS.lim_le _ bar) hsb) h2
          have hlt : b' < b := by simpa [WS.free] using hfree
          exact k1.keep b' (by simp only [WS.lim]; omega) hb'
      · rw [hcw] at hcl; cases hcl
  · intro i hi
    obtain ⟨φ, w, tmps, h1, h2⟩ := hc i hi
    exact ⟨h1.nx, h1.keep⟩
  · intro i hi t v hv
    obtain ⟨φ, w, tmps, h1, h2⟩ := hc i hi
    obtain ⟨u, _, hu⟩ := h2.get t v hv
    exact ⟨φ, u, h1.sim.lt, hu⟩
  · intro i hi
    induction i with
    | zero => exact ⟨rfl, hf.small⟩
    | succ i ih =>
      have hi' := ih (by omega)
      obtain ⟨φ, w, tmps, h1, h2, h3⟩ := one i (by omega)
      have : (F (i + 1)).n = (F i).n := by
        have key : ∀ {bb : Nat}, operA P K rec bb ops ops[i] (F i) (G i) = some (F (i + 1), G (i + 1)) → (F (i + 1)).n = (F i).n := by
          intro bb h
          rcases operA_parts h with ⟨_, hp, _⟩ | ⟨_, r, v, _, hp, _⟩
          · exact (Fr.put_get hp hi'.2).1
          · exact (Fr.put_get hp hi'.2).1
        rcases h3 with ⟨_, h⟩ | ⟨_, _, _, h⟩ <;> exact key h
      exact ⟨this.trans hi'.1, by rw [this]; exact hi'.2⟩

theorem Mem.le (hm : Mem bar ops F G C) : ∀ {i j : Nat}, i ≤ j → j ≤ ops.size → (G i).next ≤ (G j).next := by
  intro i j hij hj
  induction j with
  | zero => have : i = 0 := by omega
            subst this; exact Nat.le_refl _
  | succ j ih =>
    by_cases h : i = j + 1
    · subst h; exact Nat.le_refl _
    · exact Nat.le_trans (ih (by omega) (by omega)) (hm.mono j (by omega))

/-- A block that nobody writes between two places. -/
theorem Mem.same (hm : Mem bar ops F G C) {b : Nat} : ∀ {i j : Nat}, i ≤ j → j ≤ ops.size → b < (G i).next → (∀ k, i ≤ k → k < j → (C k).isW → b < (G k).next → (G (k + 1)).get b = (G k).get b) → (G j).get b = (G i).get b := by
  intro i j hij hj hb hk
  induction j with
  | zero => have : i = 0 := by omega
            subst this; rfl
  | succ j ih =>
    by_cases h : i = j + 1
    · subst h; rfl
    · have hbj : b < (G j).next := Nat.lt_of_lt_of_le hb (hm.le (by omega) (by omega))
      rw [← ih (by omega) (by omega) (fun k h1 h2 => hk k h1 (by omega))]
      by_cases hw : (C j).isW
      · exact hk j (by omega) (by omega) hw hbj
      · exact hm.keep j (by omega) hw b hbj

end

end Go.Abs

noncomputable section
namespace Go.Abs
variable {P : Program} {D : List Deferred} {ol : Option Nat}

def Lst (listed : Array Bool) (i : Nat) : Prop := listed.getD i false = true

def dstOf (ops : Array Oper) (j : Nat) : Option Tmp := (ops[j]?).bind (·.dst)

/-- What holds when some of a region's operations have been carried out. -/
structure Inv (D : List Deferred) (bar base : Nat) (ops : Array Oper) (F : Nat → Fr) (G : Nat → AH) (C : Nat → Cls) (φ₀ : Ren) (w₀ : World) (listed : Array Bool) (a : Act) (w : World) (m : Nat) (φ : Ren) : Prop where
  hm : m ≤ ops.size
  mw : m = ops.size ∨ (C m).isW
  ws : ∀ j, j < ops.size → (C j).isW → (Lst listed j ↔ j < m)
  down : Down ops (Lst listed)
  size : listed.size = ops.size
  sim : Sim φ (G m) bar base w
  ext : φ₀.le φ
  below : RowKit.Below base w₀ w
  dom : ∀ b r, φ b = some r → φ₀ b = some r ∨ ∃ i, i < ops.size ∧ Lst listed i ∧ (G i).next ≤ b ∧ b < (G (i + 1)).next
  bd : ∀ b r o, φ b = some r → (G m).get b = some o → ∀ k, k ≤ m → (∀ j, k ≤ j → j < m → ¬ (C j).isW) → b < (G k).next → ObjR (res φ (G k).next) r w o
  fr : ∀ t, ∃ q, q ≤ ops.size ∧ (∀ j, j < ops.size → Lst listed j → dstOf ops j = some t → j < q) ∧ (q = 0 ∨ ∃ j, q = j + 1 ∧ j < ops.size ∧ Lst listed j ∧ dstOf ops j = some t) ∧ ∀ v, (F q).get t = some v → ∃ u, a.tmps[t]? = some u ∧ VR φ u v
  tsize : a.tmps.size = (F 0).n
  defers : a.defers = D

theorem lst_set {listed : Array Bool} {i : Nat} (hi : i < listed.size) (j : Nat) : Lst (listed.setIfInBounds i true) j ↔ j = i ∨ Lst listed j := by
  unfold Lst
  rw [Array.getD_eq_getD_getElem?, Array.getD_eq_getD_getElem?, Array.getElem?_setIfInBounds]
  by_cases h : i = j
  · subst h; simp [hi]
  · rw [if_neg h]
    exact ⟨fun e => .inr e, fun e => e.resolve_left (fun e => h e.symm)⟩

section
variable {K : Known} {rec : Rec} {Wf : FuncId → Option Nat} {bar base : Nat} {ops : Array Oper} {F : Nat → Fr} {G : Nat → AH} {C : Nat → Cls}

/-- What the tests of a region say. -/
structure Tests (ops : Array Oper) (G : Nat → AH) (C : Nat → Cls) : Prop where
  tmps : ∀ i j o, ops[i]? = some o → i ≠ j → ∀ t, t ∈ namesOf ops o → dstOf ops j = some t → bfr (Region.before ops) (min i j) (max i j) = true
  makes : ∀ i j b, i < ops.size → j < ops.size → C j = .W b → C i = .A → bfr (Region.before ops) (min i j) (max i j) = true ∨ (i < j ∧ (G (i + 1)).next = (G i).next + 1 ∧ b.free (G i).next = true)
  cls : ∀ i j b, i < ops.size → j < ops.size → C j = .W b → i ≠ j → C i ≠ .A → bfr (Region.before ops) (min i j) (max i j) = true ∨ freeAt (C i) b (G j) (G (j + 1)) = true

/-- An operation whose turn it may be. -/
structure Ready (ops : Array Oper) (listed : Array Bool) (i : Nat) : Prop where
  lt : i < ops.size
  new : ¬ Lst listed i
  deps : ∀ o, ops[i]? = some o → ∀ e ∈ o.after, Region.binds .any e = true → Lst listed e.on

theorem down_next {listed : Array Bool} {i : Nat} (hd : Down ops (Lst listed)) (hr : Ready ops listed i) (hsz : listed.size = ops.size) : Down ops (Lst (listed.setIfInBounds i true)) := by
  have hi : i < listed.size := by have := hr.lt; omega
  intro j o hj ho e he hb
  rw [lst_set hi] at hj ⊢
  rcases hj with rfl | hj
  · exact .inr (hr.deps o ho e he hb)
  · exact .inr (hd j o hj ho e he hb)

/-- Those in an order to one whose turn it is: the earlier ones are done, the later ones are not. -/
theorem ordered {listed : Array Bool} {i j : Nat} (hd : Down ops (Lst listed)) (hr : Ready ops listed i) (hsz : listed.size = ops.size) (_hne : i ≠ j) (hb : bfr (Region.before ops) (min i j) (max i j) = true) :
    (j < i → Lst listed j) ∧ (i < j → ¬ Lst listed j) := by
  have hi : i < listed.size := by have := hr.lt; omega
  refine ⟨fun h => ?_, fun h hj => ?_⟩
  · rw [Nat.min_eq_right (by omega), Nat.max_eq_left (by omega)] at hb
    have := down_before (down_next hd hr hsz) i j ((lst_set hi i).2 (.inl rfl)) hb
    rw [lst_set hi] at this
    exact this.resolve_left (by omega)
  · rw [Nat.min_eq_left (by omega), Nat.max_eq_right (by omega)] at hb
    exact hr.new (down_before hd j i hj hb)

theorem frame_same (ht : Trace P K rec Wf bar ops F G C) (hm : Mem bar ops F G C) {t : Tmp} : ∀ {q i : Nat}, q ≤ i → i ≤ ops.size → (∀ j, q ≤ j → j < i → dstOf ops j ≠ some t) → (F i).get t = (F q).get t := by
  intro q i hq hi hw
  induction i with
  | zero => have : q = 0 := by omega
            subst this; rfl
  | succ i ih =>
    by_cases h : q = i + 1
    · subst h; rfl
    · rw [← ih (by omega) (by omega) (fun j h1 h2 => hw j h1 (by omega))]
      have ho : ops[i]? = some ops[i] := by simp
      have hd : ops[i].dst ≠ some t := by
        have := hw i (by omega) (by omega)
        unfold dstOf at this
        rw [ho] at this
        exact this
      have key : ∀ {bb : Nat}, operA P K rec bb ops ops[i] (F i) (G i) = some (F (i + 1), G (i + 1)) → (F (i + 1)).get t = (F i).get t := by
        intro bb h
        rcases operA_parts h with ⟨_, hp, _⟩ | ⟨_, r, v, _, hp, _⟩
        · rw [(Fr.put_get hp (hm.n i (by omega)).2).2 t, if_neg hd]
        · rw [(Fr.put_get hp (hm.n i (by omega)).2).2 t, if_neg hd]
      rcases drawOne_oper (ht.step i _ ho) with ⟨_, h⟩ | ⟨_, _, _, h⟩ <;> exact key h

variable {φ₀ : Ren} {w₀ : World} {listed : Array Bool} {a : Act} {w : World} {m : Nat} {φ : Ren} {i : Nat}

/-- The operands of one whose turn it is. -/
theorem names_rel (ht : Trace P K rec Wf bar ops F G C) (hm : Mem bar ops F G C) (hT : Tests ops G C) (hI : Inv D bar base ops F G C φ₀ w₀ listed a w m φ) (hr : Ready ops listed i) {o : Oper} (ho : ops[i]? = some o) {t : Tmp} (hn : t ∈ namesOf ops o) {v : Value}
    (hv : (F i).get t = some v) : ∃ u, a.tmps[t]? = some u ∧ VR φ u v := by
  obtain ⟨q, h1, h2, h3, h4⟩ := hI.fr t
  have ord : ∀ j, j < ops.size → i ≠ j → dstOf ops j = some t → (j < i → Lst listed j) ∧ (i < j → ¬ Lst listed j) := fun j hj hne hd =>
    ordered hI.down hr hI.size hne (hT.tmps i j o ho hne t hn hd)
  have hqi : q ≤ i := by
    rcases h3 with rfl | ⟨j, rfl, hj, hl, hd⟩
    · omega
    · by_cases hij : i = j
      · subst hij; exact absurd hl hr.new
      · by_cases hlt : i < j
        · exact absurd hl ((ord j hj hij hd).2 hlt)
        · omega
  rw [frame_same ht hm hqi (by have := hr.lt; omega) (fun j hj1 hj2 hd => by
    have hl := (ord j (by have := hr.lt; omega) (by omega) hd).1 hj2
    have := h2 j (by have := hr.lt; omega) hl hd
    omega)] at hv
  exact h4 v hv

theorem looks_names {o : Oper} {t : Tmp} (h : t ∈ Oper.looksAt ops o) : t ∈ namesOf ops o := by
  unfold namesOf
  exact List.mem_append_right _ h

def ρOf (ops : Array Oper) (o : Oper) (f : Fr) : Env := fun x => match x with
  | .tmp t => if t ∈ Oper.looksAt ops o then f.get t else none
  | x => aev f x

theorem ρOf_rel {o : Oper} {f : Fr} (hn : ∀ t v, t ∈ Oper.looksAt ops o → f.get t = some v → ∃ u, a.tmps[t]? = some u ∧ VR φ u v) : EnvR φ a.eval (ρOf ops o f) := by
  intro x v hv
  cases x with
  | tmp t =>
    simp only [ρOf] at hv
    split at hv
    · rename_i ht
      obtain ⟨u, h1, h2⟩ := hn t v ht hv
      simp only [Act.eval]
      rw [Array.getD_eq_getD_getElem?, h1]
      exact h2
    · cases hv
  | const c =>
    simp only [ρOf, aev] at hv
    split at hv
    · rename_i hp
      cases hv
      exact plain_refl φ _ hp
    · cases hv
  | global g => cases hv
  | func g => cases hv; exact .func .nil .nil

theorem ρOf_op {H : AH} {o : Oper} {f : Fr} {bb : Nat} : aop P bb (ρOf ops o f) H o.op = aop P bb (aev f) H o.op := by
  refine aop_congr _ fun x hx => ?_
  cases x with
  | tmp t =>
    simp only [ρOf]
    rw [if_pos]
    · rfl
    · unfold Oper.looksAt
      exact List.mem_append_left _ (List.mem_filterMap.2 ⟨.tmp t, by simpa using hx, rfl⟩)
  | _ => rfl

theorem wanted_rel' {o : Oper} {f : Fr} {b : Bool} (hn : ∀ t v, t ∈ Oper.looksAt ops o → f.get t = some v → ∃ u, a.tmps[t]? = some u ∧ VR φ u v) (hw : wantedA ops f o = some b) : Region.wanted o (yielded ops a.tmps) = b := by
  unfold wantedA at hw
  unfold Region.wanted
  cases hg : o.guard with
  | none => rw [hg] at hw; cases hw; rfl
  | some gw =>
    obtain ⟨j, want⟩ := gw
    rw [hg] at hw
    simp only at hw ⊢
    cases ht : (ops[j]?).bind (·.dst) with
    | none => rw [ht] at hw; cases hw
    | some t =>
      have hin : t ∈ Oper.looksAt ops o := by
        unfold Oper.looksAt
        rw [hg]
        exact List.mem_append_right _ (by simp [ht])
      rw [ht] at hw
      simp only at hw
      unfold yielded
      rw [ht]
      simp only [Option.bind_some]
      split at hw
      · rename_i c hc
        cases hw
        obtain ⟨v, h1, h2⟩ := hn t _ hin hc
        cases h2
        rw [h1]
        cases c <;> cases want <;> rfl
      · rename_i c hc
        cases hw
        obtain ⟨v, h1, h2⟩ := hn t _ hin hc
        cases h2
        rw [h1]
        rfl
      · cases hw

/-- The frame behind one operation more. -/
theorem fr_next (_ht : Trace P K rec Wf bar ops F G C) (hm : Mem bar ops F G C) (hT : Tests ops G C) (hI : Inv D bar base ops F G C φ₀ w₀ listed a w m φ) (hr : Ready ops listed i) {o : Oper} (ho : ops[i]? = some o) {φ' : Ren} (hle : φ.le φ') {u v : Value} (hv : VR φ' u v)
    (hp : (F i).put o.dst v = some (F (i + 1))) : ∀ t, ∃ q, q ≤ ops.size ∧ (∀ j, j < ops.size → Lst (listed.setIfInBounds i true) j → dstOf ops j = some t → j < q) ∧
      (q = 0 ∨ ∃ j, q = j + 1 ∧ j < ops.size ∧ Lst (listed.setIfInBounds i true) j ∧ dstOf ops j = some t) ∧ ∀ x, (F q).get t = some x → ∃ y, (a.put o.dst u).tmps[t]? = some y ∧ VR φ' y x := by
  have hi : i < listed.size := by have := hr.lt; have := hI.size; omega
  have hlt := hr.lt
  have hdst : dstOf ops i = o.dst := by unfold dstOf; rw [ho]; rfl
  have hget := (Fr.put_get hp (hm.n i (by omega)).2).2
  intro t
  by_cases hd : o.dst = some t
  · refine ⟨i + 1, by omega, fun j hj hl hdj => ?_, .inr ⟨i, rfl, hlt, (lst_set hi i).2 (.inl rfl), by rw [hdst]; exact hd⟩, fun x hx => ?_⟩
    · rw [lst_set hi] at hl
      rcases hl with rfl | hl
      · omega
      · by_cases hij : i = j
        · omega
        · have hb := hT.tmps i j o ho hij t (by unfold namesOf; simp [hd]) hdj
          have := (ordered hI.down hr hI.size hij hb).2
          by_cases hq : i < j
          · exact absurd hl (this hq)
          · omega
    · rw [hget t, if_pos hd] at hx
      cases hx
      refine ⟨u, ?_, hv⟩
      rw [hd] at hp
      have hbnd : @LT.lt Nat _ t (F i).n := put_bound hp
      have hn := (hm.n i (by omega)).1
      have hts := hI.tsize
      simp only [hd, Act.put]
      rw [Array.getElem?_setIfInBounds_self_of_lt (by omega)]
  · obtain ⟨q, h1, h2, h3, h4⟩ := hI.fr t
    refine ⟨q, h1, fun j hj hl hdj => ?_, ?_, fun x hx => ?_⟩
    · rw [lst_set hi] at hl
      rcases hl with rfl | hl
      · rw [hdst] at hdj; exact absurd hdj hd
      · exact h2 j hj hl hdj
    · rcases h3 with h3 | ⟨j, e1, e2, e3, e4⟩
      · exact .inl h3
      · exact .inr ⟨j, e1, e2, (lst_set hi j).2 (.inr e3), e4⟩
    · obtain ⟨y, k1, k2⟩ := h4 x hx
      refine ⟨y, ?_, k2.mono hle⟩
      cases hdd : o.dst with
      | none => simpa [Act.put] using k1
      | some d =>
        simp only [Act.put]
        rw [Array.getElem?_setIfInBounds_ne (fun e => hd (by rw [hdd, e]))]
        exact k1

theorem put_tsize (a : Act) (dst : Option Tmp) (v : Value) : (a.put dst v).tmps.size = a.tmps.size := by
  cases dst <;> simp [Act.put]

/-- One operation that changes nothing in memory. -/
theorem next_same (ht : Trace P K rec Wf bar ops F G C) (hm : Mem bar ops F G C) (hT : Tests ops G C) (hI : Inv D bar base ops F G C φ₀ w₀ listed a w m φ) (hr : Ready ops listed i) {o : Oper} (ho : ops[i]? = some o) (hc : ¬ (C i).isW) {u v : Value} (hv : VR φ u v)
    (hp : (F i).put o.dst v = some (F (i + 1))) : Inv D bar base ops F G C φ₀ w₀ (listed.setIfInBounds i true) (a.put o.dst u) w m φ := by
  have hi : i < listed.size := by have := hr.lt; have := hI.size; omega
  refine ⟨hI.hm, hI.mw, fun j hj hw => ?_, down_next hI.down hr hI.size, by simp [hI.size], hI.sim, hI.ext, hI.below, fun b r h => ?_, hI.bd, fr_next ht hm hT hI hr ho (Ren.le_refl _) hv hp, by rw [put_tsize]; exact hI.tsize, by rw [put_defers']; exact hI.defers⟩
  · rw [lst_set hi, ← hI.ws j hj hw]
    refine ⟨fun e => e.resolve_left (fun e => ?_), .inr⟩
    subst e; exact hc hw
  · rcases hI.dom b r h with h | ⟨k, e1, e2, e3⟩
    · exact .inl h
    · exact .inr ⟨k, e1, (lst_set hi k).2 (.inr e2), e3⟩

end

end Go.Abs

noncomputable section
namespace Go.Abs
variable {P : Program} {D : List Deferred} {ol : Option Nat}

theorem next_W {ops : Array Oper} {C : Nat → Cls} : ∀ (d m : Nat), m + d = ops.size → ∃ m', m ≤ m' ∧ m' ≤ ops.size ∧ (m' = ops.size ∨ (C m').isW) ∧ ∀ j, m ≤ j → j < m' → ¬ (C j).isW
  | 0, m, h => ⟨m, Nat.le_refl _, by omega, .inl (by omega), fun j h1 h2 => by omega⟩
  | d + 1, m, h => by
    by_cases hw : (C m).isW
    · exact ⟨m, Nat.le_refl _, by omega, .inr hw, fun j h1 h2 => by omega⟩
    · obtain ⟨m', h1, h2, h3, h4⟩ := next_W (ops := ops) (C := C) d (m + 1) (by omega)
      refine ⟨m', by omega, h2, h3, fun j h5 h6 => ?_⟩
      by_cases hj : j = m
      · subst hj; exact hw
      · exact h4 j (by omega) h6

section
variable {K : Known} {rec : Rec} {Wf : FuncId → Option Nat} {bar base : Nat} {ops : Array Oper} {F : Nat → Fr} {G : Nat → AH} {C : Nat → Cls}
variable {φ₀ : Ren} {w₀ : World} {listed : Array Bool} {a : Act} {w : World} {m : Nat} {φ : Ren} {i : Nat}

def InvE (D : List Deferred) (bar base : Nat) (ops : Array Oper) (F : Nat → Fr) (G : Nat → AH) (C : Nat → Cls) (φ₀ : Ren) (w₀ : World) (listed : Array Bool) (a : Act) (w : World) : Prop :=
  ∃ m φ, Inv D bar base ops F G C φ₀ w₀ listed a w m φ

/-- One that reads, and makes blocks. -/
theorem next_Q (hK : KnownOk P K) (hrec : RecOk P rec) (ht : Trace P K rec Wf bar ops F G C) (hm : Mem bar ops F G C) (hT : Tests ops G C) (h0 : ∀ b r, φ₀ b = some r → b < (G 0).next) (hb0 : bar ≤ (G 0).next) (hI : Inv D bar base ops F G C φ₀ w₀ listed a w m φ) (hr : Ready ops listed i)
    {o : Oper} (ho : ops[i]? = some o) (hc : C i = .Q) {r : ARes} {v : Value} (hop : aop P (G i).next (aev (F i)) (G i) o.op = some r) (hp : (F i).put o.dst v = some (F (i + 1)))
    (hres : r = .val v (G (i + 1)) ∨ ∃ g args H₁, r = .call g args H₁ ∧ callA P K rec (G i).next g args H₁ = some (v, G (i + 1))) {Q : Exit → Act → World → Prop} :
    o.wpIn (Wd ol) 0 P a w (InvE D bar base ops F G C φ₀ w₀ (listed.setIfInBounds i true)) Q := by
  have hi : i < listed.size := by have := hr.lt; have := hI.size; omega
  have hlt := hr.lt
  have hnw : ¬ (C i).isW := by rw [hc]; exact fun h => h
  have hbar : bar ≤ (G i).next := Nat.le_trans hb0 (hm.bar i (by omega)).1
  -- no writer between
  have ordW : ∀ j, j < ops.size → (C j).isW → (j < i → Lst listed j) ∧ (i < j → ¬ Lst listed j) := by
    intro j hj hw
    have hne : i ≠ j := fun e => hnw (e ▸ hw)
    obtain ⟨b, hb⟩ : ∃ b, C j = .W b := by
      cases hcj : C j with
      | W b => exact ⟨b, rfl⟩
      | _ => rw [hcj] at hw; exact hw.elim
    rcases hT.cls i j b hlt hj hb hne (by rw [hc]; exact fun e => by cases e) with h | h
    · exact ordered hI.down hr hI.size hne h
    · rw [hc] at h; exact absurd h (by simp [freeAt, clsFree])
  have him : i < m := by
    rcases hI.mw with h | h
    · omega
    · by_cases hmi : m < i
      · have hml : m < ops.size := by omega
        have := (ordW m hml h).1 hmi
        rw [hI.ws m hml h] at this
        omega
      · by_cases e : m = i
        · subst e; exact absurd h hnw
        · omega
  have hnoW : ∀ j, i ≤ j → j < m → ¬ (C j).isW := by
    intro j h1 h2 hw
    have hjl : j < ops.size := by have := hI.hm; omega
    have hin := (hI.ws j hjl hw).2 h2
    by_cases e : j = i
    · subst e; exact hnw hw
    · exact (ordW j hjl hw).2 (by omega) hin
  have hsame : ∀ {k : Nat}, i ≤ k → k ≤ m → ∀ b, b < (G k).next → (G m).get b = (G k).get b := by
    intro k h1 h2 b hb
    exact hm.same h2 hI.hm hb (fun j j1 j2 hw _ => absurd hw (hnoW j (by omega) j2))
  have hsimr : Sim (res φ (G i).next) (G i) (G i).next w.heap.size w := by
    refine ⟨Nat.le_refl _, hm.small i (by omega), fun b r h => (res_some.1 h).1, fun b r o' h hg => ?_, fun b _ r _ h _ _ _ hb => absurd (res_some.1 h).1 (by omega), fun b r h hb => absurd (res_some.1 h).1 (by omega), Nat.le_refl _, fun b r h => hI.sim.cur b r (res_some.1 h).2⟩
    obtain ⟨h1, h2⟩ := res_some.1 h
    rw [← hsame (Nat.le_refl i) (by omega) b h1] at hg
    exact hI.bd b r o' h2 hg i (by omega) hnoW h1
  have hρ : EnvR (res φ (G i).next) a.eval (ρOf ops o (F i)) := by
    refine ρOf_rel fun t v hin hv => ?_
    obtain ⟨u, h1, h2⟩ := names_rel ht hm hT hI hr ho (looks_names hin) hv
    obtain ⟨ψ, u', h3, h4⟩ := hm.frame i (by omega) t v hv
    exact ⟨u, h1, VR.both h3 h2 h4⟩
  refine op_run hK hrec hsimr hρ (by rw [ρOf_op]; exact hop) hres ?_
  intro u w' φ' st hv
  have hfresh : ∀ b, (G i).next ≤ b → b < (G (i + 1)).next → φ b = none := by
    intro b h1 h2
    cases hb : φ b with
    | none => rfl
    | some r =>
      exfalso
      rcases hI.dom b r hb with h | ⟨k, e1, e2, e3, e4⟩
      · have := h0 b r h
        have := hm.le (Nat.zero_le i) (by omega)
        omega
      · by_cases hk : k = i
        · subst hk; exact hr.new e2
        · by_cases hk2 : k < i
          · have := hm.le (i := k + 1) (j := i) (by omega) (by omega)
            omega
          · have := hm.le (i := i + 1) (j := k) (by omega) (by omega)
            omega
  have hnm : (G (i + 1)).next ≤ (G m).next := hm.le (by omega) hI.hm
  obtain ⟨u1, u2, u3⟩ := union_sim hI.sim st hfresh hbar (fun b _ hb => hsame (by omega) (by omega) b hb) hnm
  refine ⟨m, uni φ φ', hI.hm, hI.mw, fun j hj hw => ?_, down_next hI.down hr hI.size, by simp [hI.size], u2, Ren.le_trans hI.ext (uni_le _ _), hI.below.trans (st.below.mono hI.sim.hb), fun b r h => ?_, ?_, fr_next ht hm hT hI hr ho (uni_le _ _) (hv.mono u1) hp, by rw [put_tsize]; exact hI.tsize, by rw [put_defers']; exact hI.defers⟩
  · rw [lst_set hi, ← hI.ws j hj hw]
    refine ⟨fun e => e.resolve_left (fun e => ?_), .inr⟩
    subst e; exact hnw hw
  · rcases u3 b r h with h | ⟨h1, h2, _⟩
    · rcases hI.dom b r h with h | ⟨k, e1, e2, e3⟩
      · exact .inl h
      · exact .inr ⟨k, e1, (lst_set hi k).2 (.inr e2), e3⟩
    · exact .inr ⟨i, hlt, (lst_set hi i).2 (.inl rfl), h1, h2⟩
  · intro b r o' h hg k hk hkw hbk
    rcases u3 b r h with h | ⟨h1, h2, h3⟩
    · exact (hI.bd b r o' h hg k hk hkw hbk).frame (res_mono (uni_le _ _) _) (st.below.block _ (hI.sim.cur b r h))
    · have hik : i + 1 ≤ k := by
        by_cases hq : i + 1 ≤ k
        · exact hq
        · have := hm.le (i := k) (j := i) (by omega) (by omega)
          omega
      rw [hsame (k := i + 1) (by omega) (by omega) b h2] at hg
      refine (st.sim.obj b r o' h3 hg).frame (le_res u1 fun b' r' h' => ?_) rfl
      have := st.sim.lt b' r' h'
      have := hm.le (i := i + 1) (j := k) hik (by have := hI.hm; omega)
      omega

theorem makes_blank {ρ : Env} {H : AH} {op : Op} {bb bb' : Nat} {r : ARes} (h : makesA op = true) (hop : aop P bb ρ H op = some r) :
    ∃ v H' Hd, r = .val v H' ∧ aop P bb' ρ (AH.blank H.next) op = some (.val v Hd) ∧ H'.next = H.next + 1 ∧ Hd.next = H'.next ∧ Hd.get H.next = H'.get H.next := by
  cases op with
  | makeSlice t l c =>
    have hop : (match ρ l, ρ c with
      | some a, some b => aMakeSlice P H t a b
      | _, _ => none) = some r := hop
    have e : aop P bb' ρ (AH.blank H.next) (.makeSlice t l c) = (match ρ l, ρ c with
      | some a, some b => aMakeSlice P (AH.blank H.next) t a b
      | _, _ => none) := rfl
    rw [e]
    cases hl : ρ l with
    | none => rw [hl] at hop; cases hop
    | some a => cases hc : ρ c with
      | none => rw [hl, hc] at hop; cases hop
      | some b =>
        rw [hl, hc] at hop
        simp only at hop ⊢
        unfold aMakeSlice at hop ⊢
        split at hop
        · rename_i h1
          simp only [Option.bind_eq_some_iff] at hop
          obtain ⟨info, i1, zv, i2, hop⟩ := hop
          split at hop
          · rename_i hcond
            unfold aNewRow at hop ⊢
            simp only [Option.map_map, Option.map_eq_some_iff] at hop
            obtain ⟨H', k1, rfl⟩ := hop
            obtain ⟨Hd, k2, k3, k4, k5⟩ := AH.alloc_blank k1
            refine ⟨_, _, Hd, rfl, ?_, k4, k3, k5⟩
            simp only [i1, i2, Option.bind_some]
            rw [if_pos hcond, k2]
            rfl
          · cases hop
        · cases hop
  | _ => cases h

/-- One that makes a block, and reads none: what is written without an order to it comes later in the text, and is not that block. -/
theorem next_A (hK : KnownOk P K) (hrec : RecOk P rec) (ht : Trace P K rec Wf bar ops F G C) (hm : Mem bar ops F G C) (hT : Tests ops G C) (h0 : ∀ b r, φ₀ b = some r → b < (G 0).next) (hb0 : bar ≤ (G 0).next) (hI : Inv D bar base ops F G C φ₀ w₀ listed a w m φ) (hr : Ready ops listed i)
    {o : Oper} (ho : ops[i]? = some o) (hc : C i = .A) (hma : makesA o.op = true) {r : ARes} {v : Value} (hop : aop P (G i).next (aev (F i)) (G i) o.op = some r) (hp : (F i).put o.dst v = some (F (i + 1)))
    (hres : r = .val v (G (i + 1)) ∨ ∃ g args H₁, r = .call g args H₁ ∧ callA P K rec (G i).next g args H₁ = some (v, G (i + 1))) {Q : Exit → Act → World → Prop} :
    o.wpIn (Wd ol) 0 P a w (InvE D bar base ops F G C φ₀ w₀ (listed.setIfInBounds i true)) Q := by
  have hi : i < listed.size := by have := hr.lt; have := hI.size; omega
  have hlt := hr.lt
  have hnw : ¬ (C i).isW := by rw [hc]; exact fun h => h
  have hbar : bar ≤ (G i).next := Nat.le_trans hb0 (hm.bar i (by omega)).1
  obtain ⟨v', H', Hd, rfl, hd, hn1, hdn, hdg⟩ := makes_blank (bb' := (AH.blank (G i).next).next) hma hop
  obtain ⟨rfl, rfl⟩ : v' = v ∧ H' = G (i + 1) := by
    rcases hres with h | ⟨_, _, _, h, _⟩
    · injection h with h1 h2; exact ⟨h1, h2⟩
    · cases h
  have ordW : ∀ j s, j < ops.size → C j = .W s → (j < i → Lst listed j) ∧ (i < j → ¬ Lst listed j ∨ s.free (G i).next = true) := by
    intro j s hj hs
    have hne : i ≠ j := fun e => by rw [← e, hc] at hs; cases hs
    rcases hT.makes i j s hlt hj hs hc with h | ⟨h1, _, h2⟩
    · have := ordered hI.down hr hI.size hne h
      exact ⟨this.1, fun h => .inl (this.2 h)⟩
    · exact ⟨fun h => by omega, fun _ => .inr h2⟩
  have isw : ∀ {j}, (C j).isW → ∃ s, C j = .W s := by
    intro j hw
    cases hcj : C j with
    | W b => exact ⟨b, rfl⟩
    | _ => rw [hcj] at hw; exact hw.elim
  have him : i < m := by
    rcases hI.mw with h | h
    · omega
    · by_cases hmi : m < i
      · have hml : m < ops.size := by omega
        obtain ⟨s, hs⟩ := isw h
        have := (ordW m s hml hs).1 hmi
        rw [hI.ws m hml h] at this
        omega
      · by_cases e : m = i
        · subst e; exact absurd h hnw
        · omega
  -- the new block is as it was made
  have hnew : (G m).get (G i).next = (G (i + 1)).get (G i).next := by
    refine hm.same (by omega) hI.hm (by omega) fun j h1 h2 hw hbk => ?_
    have hjl : j < ops.size := by have := hI.hm; omega
    obtain ⟨s, hs⟩ := isw hw
    rcases (ordW j s hjl hs).2 (by omega) with h | h
    · exact absurd ((hI.ws j hjl hw).2 h2) h
    · exact hm.one j s hjl hs _ h hbk
  have hsimr : Sim (res φ (AH.blank (G i).next).next) (AH.blank (G i).next) (AH.blank (G i).next).next w.heap.size w :=
    ⟨Nat.le_refl _, hm.small i (by omega), fun b r h => (res_some.1 h).1, fun b r o' h hg => (by rw [AH.blank_get] at hg; cases hg), fun b _ r _ h _ _ _ hb => absurd (res_some.1 h).1 (by omega), fun b r h hb => absurd (res_some.1 h).1 (by omega), Nat.le_refl _, fun b r h => hI.sim.cur b r (res_some.1 h).2⟩
  have hρ : EnvR (res φ (AH.blank (G i).next).next) a.eval (ρOf ops o (F i)) := by
    refine ρOf_rel fun t v hin hv => ?_
    obtain ⟨u, h1, h2⟩ := names_rel ht hm hT hI hr ho (looks_names hin) hv
    obtain ⟨ψ, u', h3, h4⟩ := hm.frame i (by omega) t v hv
    exact ⟨u, h1, VR.both h3 h2 h4⟩
  refine op_run hK hrec hsimr hρ (by rw [ρOf_op]; exact hd) (.inl rfl) ?_
  intro u w' φ' st hv
  have hbn : ∀ b, (AH.blank (G i).next).next ≤ b → b < Hd.next → b = (G i).next := fun b h1 h2 => by
    have : (G i).next ≤ b := h1
    omega
  have hfresh : ∀ b, (AH.blank (G i).next).next ≤ b → b < Hd.next → φ b = none := by
    intro b h1 h2
    have := hbn b h1 h2
    subst this
    cases hb : φ (G i).next with
    | none => rfl
    | some r =>
      exfalso
      rcases hI.dom _ r hb with h | ⟨k, e1, e2, e3, e4⟩
      · have := h0 _ r h
        have := hm.le (Nat.zero_le i) (by omega)
        omega
      · by_cases hk : k = i
        · subst hk; exact hr.new e2
        · by_cases hk2 : k < i
          · have := hm.le (i := k + 1) (j := i) (by omega) (by omega)
            omega
          · have := hm.le (i := i + 1) (j := k) (by omega) (by omega)
            omega
  have hnm : (G (i + 1)).next ≤ (G m).next := hm.le (by omega) hI.hm
  obtain ⟨u1, u2, u3⟩ := union_sim hI.sim st hfresh hbar (fun b h1 h2 => by rw [hbn b h1 h2, hdg]; exact hnew) (by omega)
  refine ⟨m, uni φ φ', hI.hm, hI.mw, fun j hj hw => ?_, down_next hI.down hr hI.size, by simp [hI.size], u2, Ren.le_trans hI.ext (uni_le _ _), hI.below.trans (st.below.mono hI.sim.hb), fun b r h => ?_, ?_, fr_next ht hm hT hI hr ho (uni_le _ _) (hv.mono u1) hp, by rw [put_tsize]; exact hI.tsize, by rw [put_defers']; exact hI.defers⟩
  · rw [lst_set hi, ← hI.ws j hj hw]
    refine ⟨fun e => e.resolve_left (fun e => ?_), .inr⟩
    subst e; exact hnw hw
  · rcases u3 b r h with h | ⟨h1, h2, _⟩
    · rcases hI.dom b r h with h | ⟨k, e1, e2, e3⟩
      · exact .inl h
      · exact .inr ⟨k, e1, (lst_set hi k).2 (.inr e2), e3⟩
    · exact .inr ⟨i, hlt, (lst_set hi i).2 (.inl rfl), h1, by rw [← hdn]; exact h2⟩
  · intro b r o' h hg k hk hkw hbk
    rcases u3 b r h with h | ⟨h1, h2, h3⟩
    · exact (hI.bd b r o' h hg k hk hkw hbk).frame (res_mono (uni_le _ _) _) (st.below.block _ (hI.sim.cur b r h))
    · have hbe := hbn b h1 h2
      subst hbe
      have hik : i + 1 ≤ k := by
        by_cases hq : i + 1 ≤ k
        · exact hq
        · have := hm.le (i := k) (j := i) (by omega) (by omega)
          omega
      rw [hnew, ← hdg] at hg
      refine (st.sim.obj _ r o' h3 hg).frame (le_res u1 fun b' r' h' => ?_) rfl
      have := st.sim.lt b' r' h'
      have := hm.le (i := i + 1) (j := k) hik (by have := hI.hm; omega)
      omega

/-- One that writes. -/
theorem next_Wr (hK : KnownOk P K) (hrec : RecOk P rec) (ht : Trace P K rec Wf bar ops F G C) (hm : Mem bar ops F G C) (hT : Tests ops G C) (hI : Inv D bar base ops F G C φ₀ w₀ listed a w m φ) (hr : Ready ops listed i)
    {o : Oper} (ho : ops[i]? = some o) (hc : (C i).isW) {bar' : Nat} (hb1 : bar ≤ bar') (hb2 : bar' ≤ (G i).next) {r : ARes} {v : Value} (hop : aop P bar' (aev (F i)) (G i) o.op = some r) (hp : (F i).put o.dst v = some (F (i + 1)))
    (hres : r = .val v (G (i + 1)) ∨ ∃ g args H₁, r = .call g args H₁ ∧ callA P K rec bar' g args H₁ = some (v, G (i + 1))) {Q : Exit → Act → World → Prop} :
    o.wpIn (Wd ol) 0 P a w (InvE D bar base ops F G C φ₀ w₀ (listed.setIfInBounds i true)) Q := by
  have hi : i < listed.size := by have := hr.lt; have := hI.size; omega
  have hlt := hr.lt
  have him : i = m := by
    have h1 : ¬ i < m := fun h => hr.new ((hI.ws i hlt hc).2 h)
    rcases hI.mw with h | h
    · omega
    · by_cases hne : i = m
      · exact hne
      · exfalso
        have hml : m < ops.size := by omega
        obtain ⟨b, hb⟩ : ∃ b, C i = .W b := by
          cases hcj : C i with
          | W b => exact ⟨b, rfl⟩
          | _ => rw [hcj] at hc; exact hc.elim
        have hord : bfr (Region.before ops) (min i m) (max i m) = true := by
          rcases hT.cls m i b hml hlt hb (fun e => hne e.symm) (fun e => by rw [e] at h; exact h) with h' | h'
          · rw [Nat.min_comm, Nat.max_comm]; exact h'
          · cases hcm : C m with
            | W b' => rw [hcm] at h'; simp [freeAt, clsFree] at h'
            | _ => rw [hcm] at h; exact h.elim
        have := (ordered hI.down hr hI.size hne hord).1 (by omega)
        rw [hI.ws m hml h] at this
        omega
  subst him
  have hρ : EnvR φ a.eval (ρOf ops o (F i)) := ρOf_rel fun t v hin hv => names_rel ht hm hT hI hr ho (looks_names hin) hv
  refine op_run hK hrec (hI.sim.raise' hb1 hb2) hρ (by rw [ρOf_op]; exact hop) hres ?_
  intro u w' φ' st hv
  have st := Step.lower' hI.sim hb1 hb2 st
  obtain ⟨m', n1, n2, n3, n4⟩ := next_W (ops := ops) (C := C) (ops.size - (i + 1)) (i + 1) (by omega)
  have hsame : ∀ {k : Nat}, i + 1 ≤ k → k ≤ m' → ∀ b, b < (G k).next → (G m').get b = (G k).get b := by
    intro k h1 h2 b hb
    exact hm.same h2 n2 hb (fun j j1 j2 hw _ => absurd hw (n4 j (by omega) j2))
  have hsim' : Sim φ' (G m') bar base w' := st.sim.extend (fun b hb => hsame (Nat.le_refl _) n1 b hb) (hm.le n1 n2) (hm.small m' n2)
  refine ⟨m', φ', n2, n3, fun j hj hw => ?_, down_next hI.down hr hI.size, by simp [hI.size], hsim', Ren.le_trans hI.ext st.ext, hI.below.trans st.below, fun b r h => ?_, ?_, fr_next ht hm hT hI hr ho st.ext hv hp, by rw [put_tsize]; exact hI.tsize, by rw [put_defers']; exact hI.defers⟩
  · rw [lst_set hi, hI.ws j hj hw]
    constructor
    · rintro (rfl | h) <;> omega
    · intro h
      by_cases hj2 : j = i
      · exact .inl hj2
      · by_cases hj3 : j < i
        · exact .inr hj3
        · exact absurd hw (n4 j (by omega) h)
  · by_cases hb : b < (G i).next
    · have h' := (st.new b r h).resolve_right (by omega)
      rcases hI.dom b r h' with h | ⟨k, e1, e2, e3⟩
      · exact .inl h
      · exact .inr ⟨k, e1, (lst_set hi k).2 (.inr e2), e3⟩
    · exact .inr ⟨i, hlt, (lst_set hi i).2 (.inl rfl), by omega, st.sim.lt b r h⟩
  · intro b r o' h hg k hk hkw hbk
    have hik : i + 1 ≤ k := by
      by_cases hq : i + 1 ≤ k
      · exact hq
      · exact absurd hc (hkw i (by omega) (by omega))
    rw [hsame (Nat.le_refl _) n1 b (st.sim.lt b r h)] at hg
    refine (st.sim.obj b r o' h hg).frame (le_res (Ren.le_refl _) fun b' r' h' => ?_) rfl
    have := st.sim.lt b' r' h'
    have := hm.le (i := i + 1) (j := k) hik (by omega)
    omega

end

end Go.Abs
