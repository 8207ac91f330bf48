/- A machine that carries out code on values that are known, and the proof that the model's runs agree with it: one part. -/
import Derived.Test.YtghlchpignpibaaGreatAbsSnd6
noncomputable section
namespace Go.Abs
variable {P : Program} {φ : Ren} {H H' : AH} {bar base : Nat} {w : World}

def EnvR (φ : Ren) (ρc : Operand → Value) (ρ : Env) : Prop := ∀ x a, ρ x = some a → VR φ (ρc x) a

def OpOk (_P : Program) (φ : Ren) (H : AH) (bar base : Nat) (w : World) (r : Result Next) : ARes → Prop
  | .val a H' => ∃ v w' φ', (r = .ok (.value v) w' ∨ (r = .ok .skip w' ∧ v = undef)) ∧ VR φ' v a ∧ Step φ H bar base w φ' H' w'
  | .call f args H' => H' = H ∧ ∃ args' w', r = .ok (.enter f args') w' ∧ w' = w ∧ VRs φ args'.toList args.toList

theorem mapEnv_rel {ρc : Operand → Value} {ρ : Env} (hρ : EnvR φ ρc ρ) : ∀ {xs : List Operand} {l : List Value}, mapEnv ρ xs = some l → VRs φ (xs.map ρc) l
  | [], l, h => by cases h; exact .nil
  | x :: xs, l, h => by
    unfold mapEnv at h
    split at h
    · rename_i v hv
      rw [Option.map_eq_some_iff] at h; obtain ⟨l', hl, h⟩ := h
      subst h
      exact .cons (hρ x v hv) (mapEnv_rel hρ hl)
    · cases h

theorem pairEnv_rel {ρc : Operand → Value} {ρ : Env} (hρ : EnvR φ ρc ρ) : ∀ {xs : List (Nat × Operand)} {l : List (Nat × Value)}, pairEnv ρ xs = some l → PairsR φ (xs.map fun p => (p.1, ρc p.2)) l
  | [], l, h => by cases h; exact .nil
  | (i, x) :: xs, l, h => by
    unfold pairEnv at h
    split at h
    · rename_i v hv
      rw [Option.map_eq_some_iff] at h; obtain ⟨l', hl, h⟩ := h
      subst h
      exact .cons (hρ x v hv) (pairEnv_rel hρ hl)
    · cases h

theorem optEnv_rel {ρc : Operand → Value} {ρ : Env} (hρ : EnvR φ ρc ρ) {x : Option Operand} {r : Option Value} (h : optEnv ρ x = some r) : OptR φ (x.map ρc) r := by
  cases x with
  | none => cases h; exact .none
  | some x =>
    unfold optEnv at h
    rw [Option.map_eq_some_iff] at h; obtain ⟨v, hv, h⟩ := h
    subst h
    exact .some (hρ x v hv)

theorem opOk_val (hs : Sim φ H bar base w) {s : Sem Next} {x : Option Value} {r : ARes} (h : val H x = some r) (hx : ∀ a, x = some a → ∃ v, s.run P w = .ok (.value v) w ∧ VR φ v a) : OpOk P φ H bar base w (s.run P w) r := by
  unfold val at h
  rw [Option.map_eq_some_iff] at h; obtain ⟨a, ha, h⟩ := h
  subst h
  obtain ⟨v, h1, h2⟩ := hx a ha
  exact ⟨v, w, φ, .inl h1, h2, Step.refl hs⟩

/-- 'do pure (.value (← s))' -/
theorem opOk_v {s : Sem Value} {a : Value} {H' : AH} (h : SemOk P φ H bar base w s a H') : OpOk P φ H bar base w ((do pure (.value (← s)) : Sem Next).run P w) (.val a H') := by
  obtain ⟨v, w', φ', h1, h2, h3⟩ := h
  exact ⟨v, w', φ', .inl (by simp [h1]), h2, h3⟩

theorem opOk_u (_hs : Sim φ H bar base w) {s : Sem Unit} (h : ∃ w', s.run P w = .ok () w' ∧ Step φ H bar base w φ H' w') : OpOk P φ H bar base w ((do s; pure .skip : Sem Next).run P w) (.val undef H') := by
  obtain ⟨w', h1, h2⟩ := h
  exact ⟨undef, w', φ, .inr ⟨by simp [h1], rfl⟩, .tuple .nil, h2⟩

theorem opOk_same (hs : Sim φ H bar base w) {s : Sem Value} {x : Option Value} {r : ARes} (h : val H x = some r) (hx : ∀ a, x = some a → ∃ v, s.run P w = .ok v w ∧ VR φ v a) : OpOk P φ H bar base w ((do pure (.value (← s)) : Sem Next).run P w) r :=
  opOk_val hs h fun a ha => let ⟨v, h1, h2⟩ := hx a ha; ⟨v, by simp [h1], h2⟩

theorem res_is_val {f : Option ARes} {r : ARes} (h : f = some r) (hv : ∀ g args H'', f ≠ some (.call g args H'')) : ∃ a H', r = .val a H' := by
  cases r with
  | val a H' => exact ⟨a, H', rfl⟩
  | call g args H'' => exact absurd h (hv g args H'')

theorem aGrow_val {H : AH} {e s b l n : Nat} {o nw : List Value} {g : FuncId} {args : Array Value} {H'' : AH} : aGrow H e s b l n o nw ≠ some (.call g args H'') := by
  intro h
  unfold aGrow at h
  split at h
  · rw [Option.map_eq_some_iff] at h; obtain ⟨_, _, h⟩ := h; cases h
  · cases h

theorem aAppend_val {ts : Array TypeId} {as : Array Value} {g : FuncId} {args : Array Value} {H'' : AH} : aAppend P bar H ts as ≠ some (.call g args H'') := by
  intro h
  unfold aAppend at h
  split at h
  · split at h
    · simp only [Option.bind_eq_some_iff] at h
      obtain ⟨_, _, _, _, _, _, h⟩ := h
      split at h
      · cases h
      · rw [Option.bind_eq_some_iff] at h
        obtain ⟨_, _, h⟩ := h
        unfold aAppS at h
        split at h
        · split at h
          · cases h
          · exact aGrow_val h
        · split at h
          · cases h
          · split at h
            · unfold aAppV at h
              split at h
              · split at h
                · rw [Option.map_eq_some_iff] at h; obtain ⟨_, _, h⟩ := h; cases h
                · unfold aAppU at h
                  split at h
                  · split at h
                    · split at h
                      · simp only [Option.bind_eq_some_iff, Option.map_eq_some_iff] at h
                        obtain ⟨_, _, _, _, h⟩ := h; cases h
                      · cases h
                    · cases h
                  · cases h
              · cases h
            · unfold aAppX at h
              split at h
              · rw [Option.map_eq_some_iff] at h; obtain ⟨_, _, h⟩ := h; cases h
              · rw [Option.bind_eq_some_iff] at h; obtain ⟨_, _, h⟩ := h
                exact aGrow_val h
        · cases h
    · cases h
  · cases h

theorem aCopy_val {ts : Array TypeId} {as : Array Value} {g : FuncId} {args : Array Value} {H'' : AH} : aCopy P bar H ts as ≠ some (.call g args H'') := by
  intro h
  unfold aCopy at h
  split at h
  · split at h
    · simp only [Option.bind_eq_some_iff] at h
      obtain ⟨_, _, _, _, _, _, _, _, h⟩ := h
      split at h
      · cases h
      · rw [Option.map_eq_some_iff] at h; obtain ⟨_, _, h⟩ := h; cases h
      · cases h
    · cases h
  · cases h

theorem aConvert_val {s d : Nat} {x : Value} {g : FuncId} {args : Array Value} {H'' : AH} : aConvert P H s d x ≠ some (.call g args H'') := by
  intro h
  unfold aConvert at h
  split at h
  · cases h
  · split at h
    · rw [Option.map_eq_some_iff] at h; obtain ⟨_, _, h⟩ := h; cases h
    · cases h
  · split at h <;> cases h
  · split at h
    · rw [Option.map_eq_some_iff] at h; obtain ⟨_, _, h⟩ := h; cases h
    · cases h
  · cases h
  · cases h

theorem snd_builtin (hs : Sim φ H bar base w) {b : Builtin} {ts : Array TypeId} {ty : TypeId} {cs : Array Bool} {args' args : Array Value} {r : ARes} (hargs : VRs φ args'.toList args.toList)
    (h : aBuiltin P bar H b ts args = some r) : OpOk P φ H bar base w ((builtin b ts ty cs args').run P w) r := by
  unfold aBuiltin at h
  split at h
  · obtain ⟨a, H', rfl⟩ := res_is_val h fun _ _ _ => aAppend_val
    exact opOk_v (snd_append hs hargs h)
  · obtain ⟨a, H', rfl⟩ := res_is_val h fun _ _ _ => aCopy_val
    exact opOk_v (snd_copy hs hargs h)
  · exact opOk_same hs h fun a ha => snd_lenB hs hargs ha
  · exact opOk_same hs h fun a ha => snd_capB hargs ha w
  · rw [Option.map_eq_some_iff] at h; obtain ⟨H₁, hc, h⟩ := h
    subst h
    exact opOk_v (snd_clear hs hargs hc)
  · rw [Option.map_eq_some_iff] at h; obtain ⟨H₁, hc, h⟩ := h
    subst h
    exact opOk_v (snd_delete hs hargs hc)
  · split at h
    · rename_i hp
      exact opOk_same hs h fun a ha => snd_pures (s := fun xs => Builtin.max_ ts ty xs) hargs hp ha w
    · cases h
  · split at h
    · rename_i hp
      exact opOk_same hs h fun a ha => snd_pures (s := fun xs => Builtin.min_ ts ty xs) hargs hp ha w
    · cases h
  · cases h

theorem plainT_refl (φ : Ren) (v : Value) (h : plainT v = true) : VR φ v v := by
  cases v with
  | tuple vs => exact .tuple (plains_refl φ _ h)
  | _ => exact plain1_refl φ _ h

theorem snd_callFunc (hs : Sim φ H bar base w) {g : FuncId} {as' : Array Value} {as : List Value} {r : ARes} (hv : VRs φ as'.toList as) (h : aCallFunc P H g as = some r) : OpOk P φ H bar base w ((callFunc g as').run P w) r := by
  unfold aCallFunc at h
  split at h
  · rename_i fn hfn
    split at h
    · split at h
      · rename_i hp
        have he : as' = as.toArray := arr_of_list (plains_eq hv hp)
        subst he
        rw [Option.bind_eq_some_iff] at h; obtain ⟨nx, hnx, h⟩ := h
        have hrun := pureRun_sound P _ _ hnx w
        split at h
        · rename_i v
          split at h
          · rename_i hpt
            cases h
            exact ⟨v, w, φ, .inl hrun, plainT_refl φ v hpt, Step.refl hs⟩
          · cases h
        · cases h
      · cases h
    · rename_i hb
      split at h
      · cases h
      · rename_i hname
        cases h
        refine ⟨rfl, as', w, ?_, rfl, by simpa using hv⟩
        have hb1 : ¬ fn.name = "runtime.NumGoroutine" := by simpa using hname
        have hb2 : ¬ fn.body = none := by intro e; rw [e] at hb; simp at hb
        simp [callFunc, hfn, hb1, hb2]
  · cases h

theorem snd_call (hs : Sim φ H bar base w) {ρc : Operand → Value} {ρ : Env} (hρ : EnvR φ ρc ρ) {c : Call} {ty : TypeId} {r : ARes} (h : aCall P bar ρ H c = some r) :
    OpOk P φ H bar base w ((do let d ← resolve ρc c ty; invoke d.target d.args : Sem Next).run P w) r := by
  unfold aCall at h
  rw [Option.bind_eq_some_iff] at h; obtain ⟨args, hargs, h⟩ := h
  have hr := mapEnv_rel hρ hargs
  have hr' : VRs φ (c.args.map ρc).toList args.toArray.toList := by simpa using hr
  split at h
  · rename_i b hc
    have e : (do let d ← resolve ρc c ty; invoke d.target d.args : Sem Next) = builtin b c.argTypes ty (c.args.map fun | .const _ => true | _ => false) (c.args.map ρc) := by
      unfold resolve
      rw [hc]
      rfl
    rw [e]
    exact snd_builtin hs hr' h
  · rename_i f hc
    split at h
    · rename_i g first captured hf
      have hfv := hρ f _ hf
      generalize hval : ρc f = vf at hfv
      cases hfv with
      | func h1 h2 =>
        rename_i f1 c1
        have e : (do let d ← resolve ρc c ty; invoke d.target d.args : Sem Next) = callFunc g (f1 ++ c.args.map ρc ++ c1) := by
          unfold resolve
          rw [hc]
          simp only [hval]
          rfl
        have hall : VRs φ (f1 ++ c.args.map ρc ++ c1).toList (first.toList ++ args ++ captured.toList) := by simpa using (h1.append hr).append h2
        rw [e]
        exact snd_callFunc hs hall h
    · cases h
  · cases h

theorem aop_sound (hs : Sim φ H bar base w) {ρc : Operand → Value} {ρ : Env} (hρ : EnvR φ ρc ρ) {o : Oper} {r : ARes} (h : aop P bar ρ H o.op = some r) :
    OpOk P φ H bar base w ((execOp ρc o).run P w) r := by
  obtain ⟨dst, op, ty, pos, after, guard⟩ := o
  dsimp only at h
  cases op with
  | move x =>
    exact opOk_val hs h fun a ha => ⟨ρc x, rfl, hρ x a ha⟩
  | assign x =>
    exact opOk_val hs h fun a ha => ⟨ρc x, rfl, hρ x a ha⟩
  | pick c a b =>
    refine opOk_val hs h fun u hu => ?_
    unfold aPick at hu
    split at hu
    · rename_i t ht
      have hc := hρ c _ ht
      generalize hval : ρc c = vc at hc
      cases hc with
      | bool =>
        cases t
        · exact ⟨ρc b, by simp [execOp, hval, asBool], hρ b u hu⟩
        · exact ⟨ρc a, by simp [execOp, hval, asBool], hρ a u hu⟩
    · cases hu
  | alloc t =>
    have h' : aAlloc P H t = some r := h
    obtain ⟨a, H', rfl⟩ := res_is_val h' fun _ _ _ hc => by
      unfold aAlloc at hc
      simp only [Option.bind_eq_some_iff] at hc
      obtain ⟨_, _, _, _, _, _, hc⟩ := hc
      split at hc <;> cases hc
    exact opOk_v (snd_alloc hs h')
  | box t x =>
    have h' : ((ρ x).bind fun v => aBox P H t v) = some r := h
    rw [Option.bind_eq_some_iff] at h'; obtain ⟨v, hv, h'⟩ := h'
    obtain ⟨a, H', rfl⟩ := res_is_val h' fun _ _ _ hc => by
      unfold aBox at hc
      simp only [Option.bind_eq_some_iff, Option.map_eq_some_iff] at hc
      obtain ⟨_, _, _, _, hc⟩ := hc
      cases hc
    exact opOk_v (snd_box hs (hρ x v hv) h')
  | build t parts =>
    have h' : ((pairEnv ρ parts.toList).bind fun ps => val H (aBuild P t ps)) = some r := h
    rw [Option.bind_eq_some_iff] at h'; obtain ⟨ps, hps, h'⟩ := h'
    refine opOk_same hs h' fun a ha => ?_
    obtain ⟨v, h1, h2⟩ := snd_build (pairEnv_rel hρ hps) ha w
    refine ⟨v, ?_, h2⟩
    rw [← h1]
    congr 2
    apply Array.toList_inj.1
    simp
  | buildSlice t n parts =>
    have h' : ((pairEnv ρ parts.toList).bind fun ps => aBuildSlice P H t n ps) = some r := h
    rw [Option.bind_eq_some_iff] at h'; obtain ⟨ps, hps, h'⟩ := h'
    obtain ⟨a, H', rfl⟩ := res_is_val h' fun _ _ _ hc => by
      unfold aBuildSlice at hc
      split at hc
      · rw [Option.bind_eq_some_iff] at hc; obtain ⟨_, _, hc⟩ := hc
        split at hc
        · cases hc
        · rw [Option.bind_eq_some_iff] at hc; obtain ⟨_, _, hc⟩ := hc
          split at hc
          · simp only [Option.bind_eq_some_iff, Option.map_eq_some_iff] at hc
            obtain ⟨_, _, _, _, hc⟩ := hc
            cases hc
          · cases hc
      · cases hc
    obtain ⟨v, w', φ', h1, h2, h3⟩ := snd_buildSlice hs (pairEnv_rel hρ hps) h'
    have e : (parts.toList.map fun p => (p.1, ρc p.2)).toArray = parts.map fun (i, x) => (i, ρc x) := by
      apply Array.toList_inj.1
      simp
    rw [e] at h1
    exact opOk_v ⟨v, w', φ', h1, h2, h3⟩
  | load t a =>
    have h' : (match ρ a with
      | some (.pointer (some ⟨b, o, none⟩)) => val H (aLoad P H t b o)
      | _ => none) = some r := h
    split at h'
    · rename_i b o hp
      have hv := hρ a _ hp
      generalize hval : ρc a = vp at hv
      cases hv with
      | ptr hφ =>
        refine opOk_same hs h' fun u hu => ?_
        obtain ⟨v, h1, h2⟩ := run_loadVar' hs hφ hu
        exact ⟨v, by rw [hval]; simp [Instr.loadAt, Instr.sureAddr, h1], h2⟩
    · cases h'
  | store t a x =>
    have h' : (match ρ a, ρ x with
      | some (.pointer (some ⟨b, o, none⟩)), some v => (aStore P bar H t b o v).map (.val undef ·)
      | _, _ => none) = some r := h
    split at h'
    · rename_i b o v hp hx
      have hv := hρ a _ hp
      generalize hval : ρc a = vp at hv
      cases hv with
      | ptr hφ =>
        rw [Option.map_eq_some_iff] at h'; obtain ⟨H₁, hst, h'⟩ := h'
        subst h'
        obtain ⟨w', h1, h2⟩ := run_storeVar' hs hφ (hρ x v hx) hst
        exact opOk_u hs ⟨w', by rw [hval]; simp [Instr.storeAt, Instr.sureAddr, h1], h2⟩
    · cases h'
  | nilCheck x =>
    have h' : ((ρ x).bind fun v => val H (aNilCheck v)) = some r := h
    rw [Option.bind_eq_some_iff] at h'; obtain ⟨v, hv, h'⟩ := h'
    exact opOk_val hs h' fun a ha => snd_nilCheck (hρ x v hv) ha _ ρc x rfl rfl w
  | binOp op t x y yt =>
    have h' : (match ρ x, ρ y with
      | some a, some b => val H (aBin P op t x y a b)
      | _, _ => none) = some r := h
    split at h'
    · rename_i a b ha hb
      exact opOk_same hs h' fun u hu => snd_bin (hρ x a ha) (hρ y b hb) hu w
    · cases h'
  | unOp op t x =>
    have h' : ((ρ x).bind fun v => if plain1 v then val H ((pureRun P (Op.unary op v)).bind fun r => if plain1 r then some r else none) else none) = some r := h
    rw [Option.bind_eq_some_iff] at h'; obtain ⟨v, hv, h'⟩ := h'
    split at h'
    · rename_i hp
      exact opOk_same hs h' fun u hu => snd_pure1 (s := fun v => Op.unary op v) (hρ x v hv) hp hu w
    · cases h'
  | convert s d x =>
    have h' : ((ρ x).bind fun v => aConvert P H s d v) = some r := h
    rw [Option.bind_eq_some_iff] at h'; obtain ⟨v, hv, h'⟩ := h'
    obtain ⟨a, H', rfl⟩ := res_is_val h' fun _ _ _ => aConvert_val
    exact opOk_v (snd_convert hs (hρ x v hv) h')
  | makeInterface t x =>
    have h' : ((ρ x).bind fun v => val H (aMakeIface P t v)) = some r := h
    rw [Option.bind_eq_some_iff] at h'; obtain ⟨v, hv, h'⟩ := h'
    exact opOk_same hs h' fun u hu => snd_makeIface (hρ x v hv) hu w
  | makeFunc fn first captured =>
    cases fn with
    | func g =>
      have h' : ((mapEnv ρ first.toList).bind fun a => (mapEnv ρ captured.toList).bind fun b => val H (some (.func (.func g) a.toArray b.toArray))) = some r := h
      rw [Option.bind_eq_some_iff] at h'; obtain ⟨a, ha, h'⟩ := h'
      rw [Option.bind_eq_some_iff] at h'; obtain ⟨b, hb, h'⟩ := h'
      refine opOk_same hs h' fun u hu => ?_
      cases hu
      exact ⟨.func (.func g) (first.map ρc) (captured.map ρc), rfl, .func (by simpa using mapEnv_rel hρ ha) (by simpa using mapEnv_rel hρ hb)⟩
    | _ => cases h
  | makeMap t x =>
    have h' : ((optEnv ρ x).bind fun r => aMakeMap P H t r) = some r := h
    rw [Option.bind_eq_some_iff] at h'; obtain ⟨v, hv, h'⟩ := h'
    obtain ⟨a, H', rfl⟩ := res_is_val h' fun _ _ _ hc => by
      unfold aMakeMap at hc
      simp only [Option.bind_eq_some_iff, Option.map_eq_some_iff] at hc
      obtain ⟨_, _, _, _, hc⟩ := hc
      cases hc
    exact opOk_v (snd_makeMap hs (optEnv_rel hρ hv) h')
  | makeSlice t l c =>
    have h' : (match ρ l, ρ c with
      | some a, some b => aMakeSlice P H t a b
      | _, _ => none) = some r := h
    split at h'
    · rename_i a b ha hb
      obtain ⟨a, H', rfl⟩ := res_is_val h' fun _ _ _ hc => by
        unfold aMakeSlice at hc
        split at hc
        · simp only [Option.bind_eq_some_iff] at hc
          obtain ⟨_, _, _, _, hc⟩ := hc
          split at hc
          · rw [Option.map_eq_some_iff] at hc; obtain ⟨_, _, hc⟩ := hc; cases hc
          · cases hc
        · cases hc
      exact opOk_v (snd_makeSlice hs (hρ l _ ha) (hρ c _ hb) h')
    · cases h'
  | slice t x lo hi mx =>
    have h' : ((ρ x).bind fun v => (optEnv ρ lo).bind fun lo => (optEnv ρ hi).bind fun hi => (optEnv ρ mx).bind fun mx => val H (aSlice P H t v lo hi mx)) = some r := h
    simp only [Option.bind_eq_some_iff] at h'
    obtain ⟨v, hv, l, hl, hh, hhh, m, hm, h'⟩ := h'
    exact opOk_same hs h' fun u hu => snd_slice hs (hρ x v hv) (optEnv_rel hρ hl) (optEnv_rel hρ hhh) (optEnv_rel hρ hm) hu
  | fieldAddr t x i =>
    have h' : ((ρ x).bind fun v => val H (aFieldAddr P t v i)) = some r := h
    rw [Option.bind_eq_some_iff] at h'; obtain ⟨v, hv, h'⟩ := h'
    exact opOk_same hs h' fun u hu => snd_fieldAddr (hρ x v hv) hu w
  | field t x i =>
    have h' : ((ρ x).bind fun v => val H (aField P t v i)) = some r := h
    rw [Option.bind_eq_some_iff] at h'; obtain ⟨v, hv, h'⟩ := h'
    exact opOk_same hs h' fun u hu => snd_field (hρ x v hv) hu w
  | indexAddr t x i =>
    have h' : (match ρ x, ρ i with
      | some a, some b => val H (aIndexAddr P t a b)
      | _, _ => none) = some r := h
    split at h'
    · rename_i a b ha hb
      exact opOk_same hs h' fun u hu => snd_indexAddr (hρ x a ha) (hρ i b hb) hu w
    · cases h'
  | index t x i =>
    have h' : (match ρ x, ρ i with
      | some a, some b => val H (aIndex P t a b)
      | _, _ => none) = some r := h
    split at h'
    · rename_i a b ha hb
      exact opOk_same hs h' fun u hu => snd_index (hρ x a ha) (hρ i b hb) hu w
    · cases h'
  | lookup t x i ok =>
    have h' : (match ρ x, ρ i with
      | some a, some b => val H (aLookup P H t a b ok)
      | _, _ => none) = some r := h
    split at h'
    · rename_i a b ha hb
      exact opOk_same hs h' fun u hu => snd_lookup hs (hρ x a ha) (hρ i b hb) hu
    · cases h'
  | mapUpdate t m k x =>
    have h' : (match ρ m, ρ k, ρ x with
      | some a, some b, some c => (aMapUpdate P bar H t a b c).map (.val undef ·)
      | _, _, _ => none) = some r := h
    split at h'
    · rename_i a b c ha hb hc
      rw [Option.map_eq_some_iff] at h'; obtain ⟨H₁, hst, h'⟩ := h'
      subst h'
      exact opOk_u hs (snd_mapUpdate hs (hρ m a ha) (hρ k b hb) (hρ x c hc) hst)
    · cases h'
  | insert t m k x =>
    have h' : (match ρ m, ρ k, ρ x with
      | some a, some b, some c => (aMapUpdate P bar H t a b c).map (.val undef ·)
      | _, _, _ => none) = some r := h
    split at h'
    · rename_i a b c ha hb hc
      rw [Option.map_eq_some_iff] at h'; obtain ⟨H₁, hst, h'⟩ := h'
      subst h'
      exact opOk_u hs (snd_mapUpdate hs (hρ m a ha) (hρ k b hb) (hρ x c hc) hst)
    · cases h'
  | typeAssert x xt t ok =>
    have h' : ((ρ x).bind fun v => val H (aTypeAssert P v xt t ok)) = some r := h
    rw [Option.bind_eq_some_iff] at h'; obtain ⟨v, hv, h'⟩ := h'
    exact opOk_same hs h' fun u hu => snd_typeAssert (hρ x v hv) hu w
  | extract x i =>
    have h' : ((ρ x).bind fun v => val H (aExtract v i)) = some r := h
    rw [Option.bind_eq_some_iff] at h'; obtain ⟨v, hv, h'⟩ := h'
    exact opOk_same hs h' fun u hu => snd_extract (hρ x v hv) hu w
  | call c => exact snd_call hs hρ h
  | _ => cases h

end Go.Abs

noncomputable section
namespace Go.Abs

/-- A frame: how many temporaries, and those that are known. -/
structure Fr where
  n : Nat
  m : Tr Value 10
  ds : List Nat
  rd : Option Nat

def Fr.get (f : Fr) (t : Nat) : Option Value := if t < 1024 then Tr.get 10 f.m t else none
def Fr.put (f : Fr) (dst : Option Tmp) (v : Value) : Option Fr :=
  match dst with
  | none => some f
  | some d => if d < f.n then some { f with m := Tr.set 10 f.m d v } else none

def aev (f : Fr) : Operand → Option Value
  | .tmp t => f.get t
  | .const v => if plain v then some v else none
  | .func g => some (.func (.func g) #[] #[])
  | .global _ => none

inductive AExit where
  | normal
  | exit (id : Nat)
  | ret

/-- What the machine does at some functions, known otherwise. -/
abbrev Known := FuncId → Array Value → AH → Option (Value × AH)

abbrev Rec := Nat → Code → Fr → AH → Option (AExit × Fr × AH)

def wantedA (ops : Array Oper) (f : Fr) (o : Oper) : Option Bool :=
  match o.guard with
  | none => some true
  | some (j, want) => match (ops[j]?).bind (·.dst) with
    | none => none
    | some t => match f.get t with
      | some (.bool b) => some (b == want)
      | some (.tuple _) => some false
      | _ => none

def frInit (n : Nat) : Nat → List Value → Tr Value 10 → Tr Value 10
  | _, [], m => m
  | i, v :: vs, m => frInit n (i + 1) vs (Tr.set 10 m i v)

def resultsA (P : Program) (H : AH) (f : Fr) : List ResultVar → Option (List Value)
  | [] => some []
  | .tmp t :: rs => match f.get t with
    | some v => (resultsA P H f rs).map (v :: ·)
    | none => none
  | .cell a t :: rs => match f.get a with
    | some (.pointer (some ⟨b, o, none⟩)) => (aLoad P H t b o).bind fun v => (resultsA P H f rs).map (v :: ·)
    | _ => none

def packA : List Value → Value
  | [v] => v
  | vs => .tuple vs.toArray

/-- The marks among the deferred calls are taken. -/
def takeA (bar : Nat) : List Nat → AH → Option AH
  | [], H => some H
  | b :: bs, H => match H.get b with
    | some .mark => match Nat.ble bar b with
      | true => takeA bar bs (H.put b .dead)
      | false => none
    | _ => none

/-- A function's end. -/
def finA (P : Program) (bar : Nat) (rs : List ResultVar) (f : Fr) (H : AH) : Option (Value × AH) :=
  match takeA bar f.ds H with
  | none => none
  | some H' => (resultsA P H' f rs).map fun vs => (packA vs, H')

def callA (P : Program) (K : Known) (rec : Rec) (bar : Nat) (g : FuncId) (args : Array Value) (H : AH) : Option (Value × AH) :=
  match K g args H with
  | some r => some r
  | none =>
    match P.funcs[g]? with
    | none => none
    | some fn => match fn.body with
      | none => none
      | some c => if args.size ≤ fn.ntmps ∧ fn.ntmps ≤ 1024 then
          match rec bar c ⟨fn.ntmps, frInit fn.ntmps 0 args.toList (Tr.empty 10), [], none⟩ H with
          | some (.normal, f, H') => finA P bar fn.results.toList f H'
          | some (.ret, f, H') => finA P bar fn.results.toList f H'
          | _ => none
        else none

def operA (P : Program) (K : Known) (rec : Rec) (bar : Nat) (ops : Array Oper) (o : Oper) (f : Fr) (H : AH) : Option (Fr × AH) :=
  match wantedA ops f o with
  | none => none
  | some false => (f.put o.dst undef).map fun f => (f, H)
  | some true => match aop P bar (aev f) H o.op with
    | none => none
    | some (.val v H') => (f.put o.dst v).map fun f => (f, H')
    | some (.call g args H') => match callA P K rec bar g args H' with
      | none => none
      | some (v, H'') => (f.put o.dst v).map fun f => (f, H'')

/-! ## Ranges over functions -/

def Fr.puts (f : Fr) : List Tmp → List Value → Option Fr
  | [], [] => some f
  | t :: ts, v :: vs => match f.put (some t) v with
    | some f' => f'.puts ts vs
    | none => none
  | _, _ => none

/-- Is the operation a call of the function that goes on with a loop? -/
def yieldA (ρ : Env) (op : Op) : Option (Nat × List Value) :=
  match op with
  | .call c => match c.callee with
    | .value x => match ρ x with
      | some (.func (.yield b) _ _) => (mapEnv ρ c.args.toList).map (b, ·)
      | _ => none
    | _ => none
  | _ => none

/-- How a round has ended. -/
def jumpA : AExit → Option Code
  | .normal => none
  | .ret => some .ret
  | .exit id => some (.exit id)

/-- A round of a loop over a function. -/
def roundA (rec : Rec) (bar b : Nat) (args : List Value) (H : AH) : Option (Value × AH) :=
  match Nat.ble bar b with
  | false => none
  | true => match H.get b with
    | some (.loop .ready _ n m ps assign body) => match Fr.puts ⟨n, m, [], some b⟩ ps.toList args with
      | none => none
      | some f => match rec bar assign f H with
        | some (.normal, f₁, H₁) => match H₁.get b with
          | some (.loop .ready pd n₁ m₁ ps₁ as₁ bd₁) => match rec bar body f₁ (H₁.put b (.loop .busy pd n₁ m₁ ps₁ as₁ bd₁)) with
            | some (e, _, H₂) => match H₂.get b with
              | some (.loop _ _ n₂ m₂ ps₂ as₂ bd₂) => match jumpA e with
                | none => some (.bool true, H₂.put b (.loop .ready none n₂ m₂ ps₂ as₂ bd₂))
                | some j => some (.bool false, H₂.put b (.loop .done (some j) n₂ m₂ ps₂ as₂ bd₂))
              | _ => none
            | none => none
          | _ => none
        | _ => none
    | _ => none

/-- An operation where operations are carried out in turn: it may be a round of a loop. -/
def operY (P : Program) (K : Known) (rec : Rec) (bar : Nat) (ops : Array Oper) (o : Oper) (f : Fr) (H : AH) : Option (Fr × AH) :=
  match yieldA (aev f) o.op with
  | none => operA P K rec bar ops o f H
  | some (b, args) => match o.guard with
    | some _ => none
    | none => match roundA rec bar b args H with
      | none => none
      | some (v, H') => (f.put o.dst v).map fun f => (f, H')

/-- The loop's record is laid: where no loop is around it, a mark first. -/
def enterA (f : Fr) (ps : Array Tmp) (assign body : Code) (H : AH) : Option (Fr × AH) :=
  match f.rd with
  | none => match H.alloc .mark with
    | none => none
    | some H₁ => (H₁.alloc (.loop .ready none f.n f.m ps assign body)).map fun H₂ => ({ f with ds := H.next :: f.ds }, H₂)
  | some b => match H.get b with
    | some (.loop ..) => (H.alloc (.loop .ready none f.n f.m ps assign body)).map fun H₂ => (f, H₂)
    | _ => none

/-- How a loop's statement is left. -/
def leaveA : Option Code → Option AExit
  | none => some .normal
  | some .ret => some .ret
  | some (.exit id) => some (.exit id)
  | _ => none

def rangeA (P : Program) (K : Known) (rec : Rec) (bar : Nat) (x : Operand) (ps : Array Tmp) (assign body : Code) (f : Fr) (H : AH) : Option (AExit × Fr × AH) :=
  match aev f x with
  | some (.func (.func g) first captured) => match enterA f ps assign body H with
    | none => none
    | some (f', H₁) => match (match aCallFunc P H₁ g (first.toList ++ [.func (.yield (Nat.pred H₁.next)) #[] #[]] ++ captured.toList) with
        | some (.call g' args H₁') => callA P K rec bar g' args H₁'
        | _ => none) with
      | none => none
      | some (_, H₂) => match H₂.get (Nat.pred H₁.next) with
        | some (.loop st pd ..) => match st with
          | .busy => none
          | _ => match leaveA pd with
            | some e => some (e, f', H₂.put (Nat.pred H₁.next) .dead)
            | none => none
        | _ => none
  | _ => none

def opersA (P : Program) (K : Known) (rec : Rec) (bar : Nat) (ops : Array Oper) : List Oper → Fr → AH → Option (Fr × AH)
  | [], f, H => some (f, H)
  | o :: os, f, H => match operY P K rec bar ops o f H with
    | none => none
    | some (f', H') => opersA P K rec bar ops os f' H'

/-! ## Regions that draw their order -/

/-- The operations before number m may be carried out in any order, each writes to nothing that was there before it; those from m on come after all before, one after the other. -/
def drawnA (P : Program) (K : Known) (rec : Rec) (bar m : Nat) (ops : Array Oper) : Nat → List Oper → Fr → AH → Option (Fr × AH)
  | _, [], f, H => some (f, H)
  | i, o :: os, f, H => match operA P K rec (if i < m then H.next else bar) ops o f H with
    | none => none
    | some (f', H') => drawnA P K rec bar m ops (i + 1) os f' H'

/-- Does the operation write, by its form? -/
def writes (W : FuncId → Bool) : Op → Bool
  | .store .. | .mapUpdate .. | .insert .. | .assign _ => true
  | .call { callee := .builtin .copy, .. } | .call { callee := .builtin .clear, .. } | .call { callee := .builtin .delete, .. } => true
  | .call { callee := .value (.func f), .. } => W f
  | _ => false

def suffixFrom (W : FuncId → Bool) : List Oper → Nat → Nat
  | [], i => i
  | o :: os, i => if writes W o.op then i else suffixFrom W os (i + 1)

/-- One node of the code; what is inside by 'rec'. 'dr' carries out a region that draws its order. -/
def stepA (P : Program) (K : Known) (dr : Rec → Nat → Array Oper → Fr → AH → Option (Fr × AH)) (rec : Rec) (bar : Nat) (c : Code) (f : Fr) (H : AH) : Option (AExit × Fr × AH) :=
  match c with
  | .skip => some (.normal, f, H)
  | .label _ => some (.normal, f, H)
  | .region _ ops draw =>
    if draw then (dr rec bar ops f H).map fun p => (.normal, p.1, p.2)
    else (opersA P K rec bar ops ops.toList f H).map fun p => (.normal, p.1, p.2)
  | .seq a b => match rec bar a f H with
    | some (.normal, f', H') => rec bar b f' H'
    | r => r
  | .cond x t e => match aev f x with
    | some (.bool b) => rec bar (if b then t else e) f H
    | _ => none
  | .block id b => match rec bar b f H with
    | some (.exit id', f', H') => if id' = id then some (.normal, f', H') else some (.exit id', f', H')
    | r => r
  | .loop b => match rec bar b f H with
    | some (.normal, f', H') => rec bar (.loop b) f' H'
    | r => r
  | .exit id => some (.exit id, f, H)
  | .ret => some (.ret, f, H)
  | .scope b => rec bar b f H
  | .rangeFunc x ps assign body => rangeA P K rec bar x ps assign body f H
  | _ => none

def evalA (P : Program) (K : Known) (dr : Rec → Nat → Array Oper → Fr → AH → Option (Fr × AH)) : Nat → Rec
  | 0 => fun _ _ _ _ => none
  | n + 1 => stepA P K dr (evalA P K dr n)

end Go.Abs
