/- What the machine finds at some of the calls, part 2. -/
import Derived.Test.YtoleinghkdelaaaGreatChk
namespace Go.Proofs.YtoleinghkdelaaaGreat

theorem e19_c : chk [] e19 = true := by kernel_rfl
theorem e20_c : chk [] e20 = true := by kernel_rfl
theorem e21_c : chk [] e21 = true := by kernel_rfl
theorem e22_c : chk [e21] e22 = true := by kernel_rfl
theorem e23_c : chk [e22] e23 = true := by kernel_rfl

end Go.Proofs.YtoleinghkdelaaaGreat
