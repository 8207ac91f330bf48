/- What the machine finds at some of the calls, part 3. -/
import Derived.Test.YtfmbgbicbpoolaaGreatChk
namespace Go.Proofs.YtfmbgbicbpoolaaGreat

theorem e32_c : chk [e7] e32 = true := by kernel_rfl
theorem e33_c : chk [e32] e33 = true := by kernel_rfl
theorem e34_c : chk [e33, e30] e34 = true := by kernel_rfl
theorem e35_c : chk [] e35 = true := by kernel_rfl
theorem e36_c : chk [e34, e35] e36 = true := by kernel_rfl
theorem e37_c : chk [e28, e13, e11, e12, e31, e36] e37 = true := by kernel_rfl
theorem e38_c : chk [e24, e25, e26, e27, e37] e38 = true := by kernel_rfl
theorem e39_c : chk [] e39 = true := by kernel_rfl
theorem e40_c : chk [e1] e40 = true := by kernel_rfl
theorem e41_c : chk [] e41 = true := by kernel_rfl
theorem e42_c : chk [] e42 = true := by kernel_rfl
theorem e43_c : chk [e9] e43 = true := by kernel_rfl
theorem e44_c : chk [] e44 = true := by kernel_rfl
theorem e45_c : chk [e43, e44] e45 = true := by kernel_rfl
theorem e46_c : chk [e15, e44] e46 = true := by kernel_rfl
theorem e47_c : chk [] e47 = true := by kernel_rfl
theorem e48_c : chk [e46, e47] e48 = true := by kernel_rfl
theorem e49_c : chk [e40, e11, e13, e41, e12, e42, e45, e48] e49 = true := by kernel_rfl
theorem e50_c : chk [] e50 = true := by kernel_rfl
theorem e51_c : chk [] e51 = true := by kernel_rfl
theorem e52_c : chk [e50, e51] e52 = true := by kernel_rfl
theorem e53_c : chk [e15] e53 = true := by kernel_rfl
theorem e54_c : chk [e53, e47] e54 = true := by kernel_rfl
theorem e55_c : chk [e15, e47] e55 = true := by kernel_rfl

end Go.Proofs.YtfmbgbicbpoolaaGreat
