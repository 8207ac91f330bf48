/- How a call with its answer is proved: the abstract machine carries it out. -/
import Derived.Test.YtghlchpignpibaaGreatDat
import Derived.Test.YtghlchpignpibaaGreatChecked
import Derived.KernelRfl
noncomputable section
namespace Go.Proofs.YtghlchpignpibaaGreat
open Go.Abs

def wlist : List (Nat × Nat) := [(45, 0), (103, 0), (130, 0), (131, 0), (132, 0), (133, 0), (134, 0), (135, 0), (165, 0), (168, 0), (170, 0), (188, 0), (189, 0), (191, 0), (193, 0), (195, 0), (197, 0), (199, 0), (208, 0), (238, 0), (264, 0), (281, 0), (317, 0), (321, 0), (342, 0), (356, 0), (360, 0), (373, 0), (392, 0)]
def wfind : List (Nat × Nat) → Nat → Option Nat
  | [], _ => none
  | (a, b) :: l, f => match Nat.beq a f with
    | true => some b
    | false => wfind l f
def Wf : FuncId → Option Nat := wfind wlist

def chk (es : List Ent) (e : Ent) : Bool := checkE Tryz.prog (tab es) (evalA Tryz.prog (tab es) (drawA Tryz.prog (tab es) Wf) 100000) e

def Ok (e : Ent) : Prop := EntOk Tryz.prog e
def Oks (es : List Ent) : Prop := ∀ e ∈ es, Ok e
theorem nil : Oks [] := fun e h => by cases h
theorem cons {e : Ent} {es : List Ent} (h : Ok e) (t : Oks es) : Oks (e :: es) := fun x hx => by
  rcases List.mem_cons.1 hx with rfl | hx
  · exact h
  · exact t x hx
/-- A call with no argument that answers with a truth value, in whatever memory. -/
theorem closed {e : Ent} (h : Ok e) (ha : e.args = []) (hi : e.ins = []) {b : Bool} (hv : e.v = .bool b) (W : World) : Calls Tryz.prog e.g #[] W fun ex W' => ex = .returned (.bool b) ∧ RowKit.Below W.heap.size W W' := by
  obtain ⟨_, h⟩ := h
  refine Calls.mono (h (fun _ => none) W #[] ?_ (by rw [ha]; exact .nil)) ?_
  · rw [hi]
    exact ⟨Nat.le_refl _, by decide, fun b r h => (by cases h), fun b r o h => (by cases h), fun b b' r r' h => (by cases h), fun b r h => (by cases h), Nat.le_refl _, fun b r h => (by cases h)⟩
  · rintro ex w' ⟨u, ψ', rfl, hu, st⟩
    rw [hv] at hu
    cases hu
    exact ⟨rfl, st.below⟩
theorem ent {es : List Ent} {e : Ent} (h : Oks es) (hc : chk es e = true) : Ok e := ent_ok (tab_ok h) (run_sound (tab_ok h) (Tryz.checked.mixed) Wf _) hc

end Go.Proofs.YtghlchpignpibaaGreat
