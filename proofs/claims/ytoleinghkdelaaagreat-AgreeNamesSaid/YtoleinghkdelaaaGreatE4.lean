/- What the machine finds at some of the calls, part 4. -/
import Derived.Test.YtoleinghkdelaaaGreatChk
namespace Go.Proofs.YtoleinghkdelaaaGreat

theorem e47_c : chk [e36, e32, e46] e47 = true := by kernel_rfl
theorem e48_c : chk [e21] e48 = true := by kernel_rfl
theorem e49_c : chk [e48] e49 = true := by kernel_rfl
theorem e50_c : chk [e49, e25] e50 = true := by kernel_rfl
theorem e51_c : chk [e50, e34, e35, e28] e51 = true := by kernel_rfl
theorem e52_c : chk [e50, e30] e52 = true := by kernel_rfl

end Go.Proofs.YtoleinghkdelaaaGreat
