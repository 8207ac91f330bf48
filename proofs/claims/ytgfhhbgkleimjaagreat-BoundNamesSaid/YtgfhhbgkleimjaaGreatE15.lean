/- What the machine finds at some of the calls, part 15. -/
import Derived.Test.YtgfhhbgkleimjaaGreatChk
namespace Go.Proofs.YtgfhhbgkleimjaaGreat

theorem e140_c : chk [e139] e140 = true := by kernel_rfl
theorem e141_c : chk [e140] e141 = true := by kernel_rfl
theorem e142_c : chk [e141, e57] e142 = true := by kernel_rfl
theorem e143_c : chk [e139] e143 = true := by kernel_rfl
theorem e144_c : chk [e143, e57] e144 = true := by kernel_rfl
theorem e145_c : chk [e144, e53] e145 = true := by kernel_rfl
theorem e146_c : chk [e134, e64, e61, e62, e136, e138, e142, e145] e146 = true := by kernel_rfl
theorem e147_c : chk [e143, e57, e53] e147 = true := by kernel_rfl
theorem e148_c : chk [] e148 = true := by kernel_rfl
theorem e149_c : chk [e148] e149 = true := by kernel_rfl
theorem e150_c : chk [] e150 = true := by kernel_rfl
theorem e151_c : chk [e150] e151 = true := by kernel_rfl
theorem e152_c : chk [e120, e149, e151] e152 = true := by kernel_rfl
theorem e153_c : chk [e124, e75, e118, e117, e76, e128, e131, e146, e147, e24, e143, e152] e153 = true := by kernel_rfl

end Go.Proofs.YtgfhhbgkleimjaaGreat
