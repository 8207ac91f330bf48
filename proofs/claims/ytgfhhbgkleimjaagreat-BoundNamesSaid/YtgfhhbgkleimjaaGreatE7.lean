/- What the machine finds at some of the calls, part 7. -/
import Derived.Test.YtgfhhbgkleimjaaGreatChk
namespace Go.Proofs.YtgfhhbgkleimjaaGreat

theorem e54_c : chk [e52, e53] e54 = true := by kernel_rfl
theorem e55_c : chk [e14, e53] e55 = true := by kernel_rfl
theorem e56_c : chk [] e56 = true := by kernel_rfl
theorem e57_c : chk [e56] e57 = true := by kernel_rfl
theorem e58_c : chk [e55, e57] e58 = true := by kernel_rfl
theorem e59_c : chk [e49, e11, e10, e50, e12, e51, e54, e58] e59 = true := by kernel_rfl
theorem e60_c : chk [e14, e53, e57] e60 = true := by kernel_rfl
theorem e61_c : chk [] e61 = true := by kernel_rfl
theorem e62_c : chk [] e62 = true := by kernel_rfl
theorem e63_c : chk [] e63 = true := by kernel_rfl
theorem e64_c : chk [] e64 = true := by kernel_rfl
theorem e65_c : chk [] e65 = true := by kernel_rfl
theorem e66_c : chk [e60, e61, e62, e63, e64, e65] e66 = true := by kernel_rfl
theorem e67_c : chk [e66] e67 = true := by kernel_rfl
theorem e68_c : chk [] e68 = true := by kernel_rfl
theorem e69_c : chk [e66, e68, e60, e14] e69 = true := by kernel_rfl
theorem e70_c : chk [e59, e67, e69] e70 = true := by kernel_rfl
theorem e71_c : chk [e9, e17, e8, e7] e71 = true := by kernel_rfl
theorem e72_c : chk [e2, e11, e10, e35, e12, e36, e71, e26] e72 = true := by kernel_rfl
theorem e73_c : chk [e31, e62, e61, e35, e64, e4] e73 = true := by kernel_rfl
theorem e74_c : chk [e73] e74 = true := by kernel_rfl
theorem e75_c : chk [] e75 = true := by kernel_rfl

end Go.Proofs.YtgfhhbgkleimjaaGreat
