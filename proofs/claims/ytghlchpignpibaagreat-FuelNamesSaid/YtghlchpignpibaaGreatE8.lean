/- What the machine finds at some of the calls, part 8. -/
import Derived.Test.YtghlchpignpibaaGreatChk
namespace Go.Proofs.YtghlchpignpibaaGreat

theorem e60_c : chk [] e60 = true := by kernel_rfl
theorem e61_c : chk [] e61 = true := by kernel_rfl
theorem e62_c : chk [e58, e59, e60, e61] e62 = true := by kernel_rfl
theorem e63_c : chk [e62] e63 = true := by kernel_rfl
theorem e64_c : chk [e58, e59, e60, e61] e64 = true := by kernel_rfl
theorem e65_c : chk [e33, e35, e36, e41, e38, e42, e43, e44, e39] e65 = true := by kernel_rfl
theorem e66_c : chk [] e66 = true := by kernel_rfl
theorem e67_c : chk [e66] e67 = true := by kernel_rfl
theorem e68_c : chk [] e68 = true := by kernel_rfl
theorem e69_c : chk [e27, e26] e69 = true := by kernel_rfl
theorem e70_c : chk [e69] e70 = true := by kernel_rfl
theorem e71_c : chk [] e71 = true := by kernel_rfl
theorem e72_c : chk [e71] e72 = true := by kernel_rfl
theorem e73_c : chk [e29, e72] e73 = true := by kernel_rfl

end Go.Proofs.YtghlchpignpibaaGreat
