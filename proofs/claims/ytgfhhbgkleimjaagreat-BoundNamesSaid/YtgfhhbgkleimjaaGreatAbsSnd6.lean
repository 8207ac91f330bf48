/- A machine that carries out code on values that are known, and the proof that the model's runs agree with it: one part. -/
import Derived.Test.YtgfhhbgkleimjaaGreatAbsSnd5
noncomputable section
namespace Go.Abs
variable {P : Program} {φ : Ren} {H H' : AH} {bar base : Nat} {w : World}

theorem bytesOf_ints : ∀ {l : List Value} {bs : List UInt8}, bytesOf l = some bs → ∃ ns : List Int, l = ns.map (Value.int .u8) ∧ bs = ns.map fun n => UInt8.ofNat n.toNat
  | [], bs, h => by cases h; exact ⟨[], rfl, rfl⟩
  | v :: l, bs, h => by
    unfold bytesOf at h
    split at h
    · rename_i hq; cases hq
    · rename_i n r hq
      cases hq
      rw [Option.map_eq_some_iff] at h; obtain ⟨b, hb, h⟩ := h
      obtain ⟨ns, h1, h2⟩ := bytesOf_ints hb
      exact ⟨n :: ns, by simp [h1], by simp [← h, h2]⟩
    · cases h

theorem foldl_push : ∀ (ns : List Int) (s : ByteArray), (ns.foldl (fun r n => r.push (UInt8.ofNat n.toNat)) s) = ⟨s.data ++ (ns.map fun n => UInt8.ofNat n.toNat).toArray⟩
  | [], s => by simp
  | n :: ns, s => by
    simp only [List.foldl_cons, foldl_push ns, List.map_cons]
    congr 1
    show (s.data.push _) ++ _ = _
    apply Array.ext'
    simp

theorem new_row' {φ : Ren} {H H' : AH} {bar base : Nat} {w : World} (hs : Sim φ H bar base w) {as : List Value} {t : TypeId} {z : Nat} (ha : H.alloc (.row as t z) = some H') {arr : Array Value} {fz : Nat × Nat}
    (hfz : Unfrozen arr.size fz) (hsz : as.length ≤ arr.size) (hv : ∀ (i : Nat) (a : Value), as[i]? = some a → ∃ v, arr[i]? = some v ∧ VR φ v a) :
    Step φ H bar base w (upd φ H.next ⟨w.heap.size, 0, arr.size, z, as.length⟩) H' (w.alloc (.cells arr t fz)) := by
  refine hs.alloc ha _ rfl ⟨arr, fz, ?_, rfl, ⟨rfl, rfl⟩, by simpa using hsz, fun i a hi => ?_, hfz⟩
  · show (w.heap.push _)[w.heap.size]? = _
    simp
  · obtain ⟨v, h1, h2⟩ := hv i a hi
    exact ⟨v, by simpa using h1, h2.mono (upd_le hs _)⟩

theorem freeze_alloc (w : World) (arr : Array Value) (t : TypeId) : (w.alloc (.cells arr t)).freeze ⟨w.heap.size, arr.size, none⟩ 1 = w.alloc (.cells arr t (arr.size, arr.size + 1)) := by
  unfold World.freeze
  rw [if_neg (by omega)]
  show ({ w with heap := _ } : World) = { w with heap := _ }
  congr 1
  apply Array.ext'
  show ((w.heap.push _).modify w.heap.size _).toList = (w.heap.push _).toList
  apply List.ext_getElem?
  intro i
  simp only [Array.getElem?_toList, Array.getElem?_modify, Array.getElem?_push]
  by_cases hi : w.heap.size = i
  · subst hi; simp
  · rw [if_neg hi]
    rw [if_neg (fun e => hi e.symm), if_neg (fun e => hi e.symm)]

theorem run_markS (u : World) (arr : Array Value) (e : TypeId) : (markStringish ⟨u.heap.size, 0, none⟩).run P (u.alloc (.cells arr e)) = .ok () ((u.alloc (.cells arr e)).freeze ⟨u.heap.size, arr.size, none⟩ 1) := by
  have hg : (u.alloc (.cells arr e)).heap[u.heap.size]? = some (.cells arr e) := by
    show (u.heap.push _)[u.heap.size]? = _
    simp
  have hsh : (u.alloc (.cells arr e)).shape? u.heap.size = some (e, arr.size) := by
    unfold World.shape?
    rw [hg]
  simp only [markStringish, Sem.run_bind, run_shape, hsh, Result.andThen_ok, run_freeze]

/-- The array behind a string's bytes. -/
def strRow (s : ByteArray) (cap : Nat) : Array Value := s.data.map (fun (b : UInt8) => Value.int .u8 b.toNat) ++ Array.replicate (cap - s.size) (Value.int .u8 0)

theorem run_stringToBytes (e : TypeId) (s : ByteArray) : ∃ cap : Nat, s.size ≤ cap ∧ (Conv.stringToBytes e s).run P w = .ok (.slice (some ⟨w.heap.size, 0, none⟩) s.size cap)
    (w.drew.alloc (.cells (strRow s cap) e ((strRow s cap).size, (strRow s cap).size + 1))) := by
  refine ⟨grownCap w s.size 0 e, grownCap_ge _ _ _ _, ?_⟩
  rw [← freeze_alloc]
  unfold Conv.stringToBytes
  have h1 : (choose (.appendCap s.size 0 e)).run P w = .ok (grownCap w s.size 0 e) w.drew := by
    simp [Question.forced, grownCap]
  rw [Sem.run_bind, h1]
  simp only [Result.andThen_ok, Sem.run_bind, run_newRow]
  have h2 := fun arr => run_markS (P := P) w.drew arr e
  unfold strRow
  rw [h2]
  rfl

theorem snd_convert (hs : Sim φ H bar base w) {s d : Nat} {v x a : Value} (hv : VR φ v x) (h : aConvert P H s d x = some (.val a H')) :
    SemOk P φ H bar base w (convert s d v) a H' := by
  unfold aConvert at h
  split at h
  · rename_i ds k k' n hsrc hdst
    injection h with h; injection h with h1 h2
    subst h1; subst h2
    cases hv with
    | int => exact SemOk.same hs (by simp [convert, run_underlying hsrc, run_underlying hdst, Conv.intToInt]) (.int _ _)
  · rename_i e st hsrc hdst
    split at h
    · rename_i he
      rw [Option.map_eq_some_iff] at h; obtain ⟨p, hr, h⟩ := h
      obtain ⟨b, H₁⟩ := p
      injection h with h1 h2
      subst h1; subst h2
      obtain ⟨rfl, hal⟩ := aNewRow_eq hr
      cases hv with
      | string =>
        obtain ⟨cap, hcap, hrun⟩ := run_stringToBytes (P := P) (w := w) e st
        generalize harr : strRow st cap = arr at hrun
        unfold strRow at harr
        have hssz : st.data.size = st.size := rfl
        have hsize : arr.size = cap := by
          rw [← harr]
          simp only [Array.size_append, Array.size_map, Array.size_replicate, hssz]
          omega
        have hst := new_row' hs.drew hal (arr := arr) (fz := (arr.size, arr.size + 1)) (fun i h1 h2 => by simp at h2; omega) (by simp [hssz]; omega) (fun i a hi => by
          have hlt : i < st.size := by have := (List.getElem?_eq_some_iff.1 hi).1; simpa using this
          refine ⟨a, ?_, ?_⟩
          · rw [← harr, Array.getElem?_append_left (by simpa [hssz] using hlt)]
            simpa using hi
          · simp only [List.getElem?_map, Option.map_eq_some_iff] at hi
            obtain ⟨b, _, rfl⟩ := hi
            exact .int _ _)
        refine ⟨.slice (some ⟨w.heap.size, 0, none⟩) st.size cap, _, _, ?_, ?_, (Step.drew hs).trans hst⟩
        · rw [← hrun]
          simp [convert, run_underlying hsrc, run_underlying hdst, run_underlying he]
        · have hφ := upd_self φ H.next ⟨w.drew.heap.size, 0, arr.size, 1, (st.data.toList.map fun b => Value.int .u8 b.toNat).length⟩
          have := VR.slice (φ := upd φ H.next _) (o := 0) (len := st.size) (cap := cap) (acap := capU) hφ hcap (.inr ⟨rfl, by simp only [hsize]; omega, by simp [hssz]; omega⟩)
          simpa using this
    · cases h
  · rename_i e hsrc hdst
    split at h
    · rename_i he
      injection h with h; injection h with h1 h2
      subst h1; subst h2
      cases hv with
      | sliceNil => exact SemOk.same hs (v := .string .empty) (by rw [run_convert_bytes_string w s d e _ _ _ hsrc he hdst]; rfl) (.string _)
    · cases h
  · rename_i e b o len cap hsrc hdst
    split at h
    · rename_i he
      rw [Option.map_eq_some_iff] at h; obtain ⟨l, hl, h⟩ := h
      injection h with h1 h2
      subst h1; subst h2
      rw [Option.bind_eq_some_iff] at hl; obtain ⟨vs, hvs, hl⟩ := hl
      obtain ⟨ns, e1, e2⟩ := bytesOf_ints hl
      have hload : ∃ (r : RB) (x cap' : Nat), v = .slice (some ⟨r.c, x, none⟩) len cap' ∧ (loadCells ⟨r.c, x, none⟩ len).run P w = .ok (ns.map (Value.int .u8)).toArray w := by
        obtain ⟨rb, x, cap', hφ, rfl, hcase⟩ := slice_some hv
        refine ⟨rb, x, cap', rfl, ?_⟩
        by_cases h0 : len = 0
        · rw [if_pos h0] at hvs
          cases hvs
          have : ns = [] := by simpa using e1.symm
          subst this
          simp [h0, loadCells, loadCellsFrom]
        · rw [if_neg h0] at hvs
          rcases hcase with ⟨_, rfl, _⟩ | ⟨hz, _⟩
          · unfold rowCells at hvs
            split at hvs
            · rename_i c t z hg
              obtain ⟨us, f1, f2⟩ := load_row P hs hφ hg hvs
              have hus : us = vs := by
                refine plains_eq f1 ?_
                rw [e1, List.all_eq_true]
                intro q hq
                simp only [List.mem_map] at hq
                obtain ⟨n, _, rfl⟩ := hq
                rfl
              rw [f2, hus, e1]
            · cases hvs
          · exact absurd hz h0
      obtain ⟨r, x, cap', rfl, hload⟩ := hload
      have hr := run_bytesToString w ⟨r.c, x, none⟩ len cap' ns hload
      refine SemOk.same hs (v := .string ⟨l.toArray⟩) ?_ (.string _)
      rw [run_convert_bytes_string w s d e _ _ _ hsrc he hdst, hr, foldl_push, e2]
      congr 2
      simp
    · cases h
  · rename_i st hsrc hdst
    injection h with h; injection h with h1 h2
    subst h1; subst h2
    cases hv with
    | string => exact SemOk.same hs (by simp [convert, run_underlying hsrc, run_underlying hdst]) (.string _)
  · cases h

theorem snd_pure1 {s : Value → Sem Value} {v x a : Value} (hv : VR φ v x) (hp : plain1 x = true) (h : (pureRun P (s x)).bind (fun r => if plain1 r then some r else none) = some a) (w : World) :
    ∃ u, (s v).run P w = .ok u w ∧ VR φ u a := by
  have := plain1_eq hv hp
  subst this
  rw [Option.bind_eq_some_iff] at h
  obtain ⟨r, h1, h2⟩ := h
  split at h2
  · rename_i hpr
    cases h2
    exact ⟨a, pureRun_sound P _ _ h1 w, plain1_refl φ _ hpr⟩
  · cases h2

theorem snd_pures {s : Array Value → Sem Value} {vs xs : Array Value} {a : Value} (hv : VRs φ vs.toList xs.toList) (hp : xs.toList.all plain1 = true) (h : (pureRun P (s xs)).bind (fun r => if plain1 r then some r else none) = some a) (w : World) :
    ∃ u, (s vs).run P w = .ok u w ∧ VR φ u a := by
  have := plains_eq hv hp
  have : vs = xs := Array.toList_inj.1 this
  subst this
  rw [Option.bind_eq_some_iff] at h
  obtain ⟨r, h1, h2⟩ := h
  split at h2
  · rename_i hpr
    cases h2
    exact ⟨a, pureRun_sound P _ _ h1 w, plain1_refl φ _ hpr⟩
  · cases h2

end Go.Abs
