/- What the machine finds at some of the calls, part 6. -/
import Derived.Test.YtcblamejajbkjaaGreatChk
namespace Go.Proofs.YtcblamejajbkjaaGreat

theorem e62_c : chk [e7] e62 = true := by kernel_rfl
theorem e63_c : chk [e62] e63 = true := by kernel_rfl
theorem e64_c : chk [e63, e18] e64 = true := by kernel_rfl
theorem e65_c : chk [] e65 = true := by kernel_rfl
theorem e66_c : chk [e65, e5] e66 = true := by kernel_rfl
theorem e67_c : chk [e64, e66] e67 = true := by kernel_rfl
theorem e68_c : chk [e67] e68 = true := by kernel_rfl
theorem e69_c : chk [e68] e69 = true := by kernel_rfl
theorem e70_c : chk [e68] e70 = true := by kernel_rfl
theorem e71_c : chk [e68] e71 = true := by kernel_rfl
theorem e72_c : chk [e63, e49] e72 = true := by kernel_rfl
theorem e73_c : chk [e53] e73 = true := by kernel_rfl
theorem e74_c : chk [] e74 = true := by kernel_rfl
theorem e75_c : chk [e72, e73, e74] e75 = true := by kernel_rfl

end Go.Proofs.YtcblamejajbkjaaGreat
