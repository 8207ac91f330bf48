/- What the machine finds at some of the calls, part 4. -/
import Derived.Test.YtfmbgbicbpoolaaGreatChk
namespace Go.Proofs.YtfmbgbicbpoolaaGreat

theorem e56_c : chk [e55, e44] e56 = true := by kernel_rfl
theorem e57_c : chk [e43, e12, e13, e11, e54, e56] e57 = true := by kernel_rfl
theorem e58_c : chk [e40, e52, e57] e58 = true := by kernel_rfl
theorem e59_c : chk [e15, e44, e47] e59 = true := by kernel_rfl
theorem e60_c : chk [] e60 = true := by kernel_rfl
theorem e61_c : chk [] e61 = true := by kernel_rfl
theorem e62_c : chk [] e62 = true := by kernel_rfl
theorem e63_c : chk [e59, e60, e61, e50, e62, e51] e63 = true := by kernel_rfl
theorem e64_c : chk [e63] e64 = true := by kernel_rfl
theorem e65_c : chk [] e65 = true := by kernel_rfl
theorem e66_c : chk [] e66 = true := by kernel_rfl
theorem e67_c : chk [] e67 = true := by kernel_rfl
theorem e68_c : chk [] e68 = true := by kernel_rfl
theorem e69_c : chk [e1] e69 = true := by kernel_rfl
theorem e70_c : chk [e9] e70 = true := by kernel_rfl
theorem e71_c : chk [] e71 = true := by kernel_rfl
theorem e72_c : chk [e50, e71] e72 = true := by kernel_rfl
theorem e73_c : chk [e53, e44] e73 = true := by kernel_rfl
theorem e74_c : chk [] e74 = true := by kernel_rfl
theorem e75_c : chk [e46, e74, e15, e14] e75 = true := by kernel_rfl
theorem e76_c : chk [e43, e11, e13, e12, e73, e75] e76 = true := by kernel_rfl
theorem e77_c : chk [e40, e72, e76] e77 = true := by kernel_rfl
theorem e78_c : chk [e15, e47, e44] e78 = true := by kernel_rfl
theorem e79_c : chk [] e79 = true := by kernel_rfl
theorem e80_c : chk [e50, e51] e80 = true := by kernel_rfl
theorem e81_c : chk [e78, e79, e80] e81 = true := by kernel_rfl
theorem e82_c : chk [e81] e82 = true := by kernel_rfl
theorem e83_c : chk [e9] e83 = true := by kernel_rfl
theorem e84_c : chk [e69, e83] e84 = true := by kernel_rfl
theorem e85_c : chk [e15] e85 = true := by kernel_rfl
theorem e86_c : chk [e85] e86 = true := by kernel_rfl
theorem e87_c : chk [e43, e11, e13, e12, e73, e48] e87 = true := by kernel_rfl
theorem e88_c : chk [e40, e41, e42, e87] e88 = true := by kernel_rfl
theorem e89_c : chk [] e89 = true := by kernel_rfl
theorem e90_c : chk [] e90 = true := by kernel_rfl

end Go.Proofs.YtfmbgbicbpoolaaGreat
