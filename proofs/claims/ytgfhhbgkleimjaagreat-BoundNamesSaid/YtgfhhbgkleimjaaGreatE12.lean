/- What the machine finds at some of the calls, part 12. -/
import Derived.Test.YtgfhhbgkleimjaaGreatChk
namespace Go.Proofs.YtgfhhbgkleimjaaGreat

theorem e121_c : chk [e3] e121 = true := by kernel_rfl
theorem e122_c : chk [e4] e122 = true := by kernel_rfl
theorem e123_c : chk [e120, e121, e122] e123 = true := by kernel_rfl
theorem e124_c : chk [e118, e119, e123] e124 = true := by kernel_rfl
theorem e125_c : chk [e124] e125 = true := by kernel_rfl
theorem e126_c : chk [] e126 = true := by kernel_rfl
theorem e127_c : chk [e117, e29] e127 = true := by kernel_rfl
theorem e128_c : chk [e126, e127] e128 = true := by kernel_rfl
theorem e129_c : chk [e63] e129 = true := by kernel_rfl
theorem e130_c : chk [e65] e130 = true := by kernel_rfl
theorem e131_c : chk [e120, e129, e130] e131 = true := by kernel_rfl

end Go.Proofs.YtgfhhbgkleimjaaGreat
