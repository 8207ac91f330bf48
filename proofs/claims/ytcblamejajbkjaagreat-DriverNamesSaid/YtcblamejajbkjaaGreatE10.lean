/- What the machine finds at some of the calls, part 10. -/
import Derived.Test.YtcblamejajbkjaaGreatChk
namespace Go.Proofs.YtcblamejajbkjaaGreat

theorem e107_c : chk [e3, e106, e26] e107 = true := by kernel_rfl
theorem e108_c : chk [e0, e107, e3, e24, e26] e108 = true := by kernel_rfl
theorem e109_c : chk [] e109 = true := by kernel_rfl
theorem e110_c : chk [] e110 = true := by kernel_rfl
theorem e111_c : chk [e109, e110, e23] e111 = true := by kernel_rfl
theorem e112_c : chk [e64, e111] e112 = true := by kernel_rfl
theorem e113_c : chk [e112] e113 = true := by kernel_rfl
theorem e114_c : chk [] e114 = true := by kernel_rfl
theorem e115_c : chk [] e115 = true := by kernel_rfl
theorem e116_c : chk [e115] e116 = true := by kernel_rfl
theorem e117_c : chk [e64, e78, e74] e117 = true := by kernel_rfl
theorem e118_c : chk [] e118 = true := by kernel_rfl
theorem e119_c : chk [] e119 = true := by kernel_rfl
theorem e120_c : chk [e62] e120 = true := by kernel_rfl
theorem e121_c : chk [e74, e63, e62, e120] e121 = true := by kernel_rfl
theorem e122_c : chk [e7] e122 = true := by kernel_rfl

end Go.Proofs.YtcblamejajbkjaaGreat
