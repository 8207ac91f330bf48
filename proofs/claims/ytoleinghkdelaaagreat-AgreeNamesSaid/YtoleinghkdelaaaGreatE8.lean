/- What the machine finds at some of the calls, part 8. -/
import Derived.Test.YtoleinghkdelaaaGreatChk
namespace Go.Proofs.YtoleinghkdelaaaGreat

theorem e115_c : chk [e110, e36, e111, e32, e112, e70, e113, e73, e114] e115 = true := by kernel_rfl
theorem e116_c : chk [e57] e116 = true := by kernel_rfl
theorem e117_c : chk [e51, e50, e34, e35, e28] e117 = true := by kernel_rfl
theorem e118_c : chk [e52] e118 = true := by kernel_rfl
theorem e119_c : chk [] e119 = true := by kernel_rfl
theorem e120_c : chk [e119] e120 = true := by kernel_rfl
theorem e121_c : chk [e21] e121 = true := by kernel_rfl

end Go.Proofs.YtoleinghkdelaaaGreat
