/- What the machine finds at some of the calls, part 5. -/
import Derived.Test.YtoleinghkdelaaaGreatChk
namespace Go.Proofs.YtoleinghkdelaaaGreat

theorem e53_c : chk [e52] e53 = true := by kernel_rfl
theorem e54_c : chk [e28] e54 = true := by kernel_rfl
theorem e55_c : chk [e50, e54] e55 = true := by kernel_rfl
theorem e56_c : chk [e55] e56 = true := by kernel_rfl
theorem e57_c : chk [] e57 = true := by kernel_rfl
theorem e58_c : chk [e50, e57] e58 = true := by kernel_rfl
theorem e59_c : chk [e58] e59 = true := by kernel_rfl
theorem e60_c : chk [e51, e53, e56, e59] e60 = true := by kernel_rfl
theorem e61_c : chk [] e61 = true := by kernel_rfl
theorem e62_c : chk [] e62 = true := by kernel_rfl
theorem e63_c : chk [] e63 = true := by kernel_rfl
theorem e64_c : chk [e50, e34, e35, e28, e62, e49, e63] e64 = true := by kernel_rfl
theorem e65_c : chk [e52, e62, e50, e49, e63, e30] e65 = true := by kernel_rfl
theorem e66_c : chk [e55, e62, e50, e49, e63, e54] e66 = true := by kernel_rfl
theorem e67_c : chk [e58, e62, e50, e49, e63, e57] e67 = true := by kernel_rfl
theorem e68_c : chk [e61, e51, e64, e53, e65, e56, e66, e59, e67] e68 = true := by kernel_rfl
theorem e69_c : chk [e26, e54] e69 = true := by kernel_rfl
theorem e70_c : chk [e69] e70 = true := by kernel_rfl
theorem e71_c : chk [e23, e25] e71 = true := by kernel_rfl
theorem e72_c : chk [e71, e57] e72 = true := by kernel_rfl
theorem e73_c : chk [e72] e73 = true := by kernel_rfl
theorem e74_c : chk [e36, e32, e70, e73] e74 = true := by kernel_rfl

end Go.Proofs.YtoleinghkdelaaaGreat
