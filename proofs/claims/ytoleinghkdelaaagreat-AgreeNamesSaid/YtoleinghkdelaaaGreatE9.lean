/- What the machine finds at some of the calls, part 9. -/
import Derived.Test.YtoleinghkdelaaaGreatChk
namespace Go.Proofs.YtoleinghkdelaaaGreat

theorem e122_c : chk [e121] e122 = true := by kernel_rfl
theorem e123_c : chk [e122] e123 = true := by kernel_rfl
theorem e124_c : chk [e123] e124 = true := by kernel_rfl
theorem e125_c : chk [e120, e124, e123] e125 = true := by kernel_rfl
theorem e126_c : chk [e122] e126 = true := by kernel_rfl
theorem e127_c : chk [e21] e127 = true := by kernel_rfl

end Go.Proofs.YtoleinghkdelaaaGreat
