/- What the machine finds at some of the calls, part 2. -/
import Derived.Test.YtfmbgbicbpoolaaGreatChk
namespace Go.Proofs.YtfmbgbicbpoolaaGreat

theorem e14_c : chk [e7] e14 = true := by kernel_rfl
theorem e15_c : chk [e14] e15 = true := by kernel_rfl
theorem e16_c : chk [e15] e16 = true := by kernel_rfl
theorem e17_c : chk [] e17 = true := by kernel_rfl
theorem e18_c : chk [e16, e17] e18 = true := by kernel_rfl
theorem e19_c : chk [e15, e17] e19 = true := by kernel_rfl
theorem e20_c : chk [] e20 = true := by kernel_rfl
theorem e21_c : chk [e19, e20] e21 = true := by kernel_rfl
theorem e22_c : chk [e10, e11, e12, e13, e18, e21] e22 = true := by kernel_rfl
theorem e23_c : chk [e2, e6, e22] e23 = true := by kernel_rfl
theorem e24_c : chk [e1] e24 = true := by kernel_rfl
theorem e25_c : chk [] e25 = true := by kernel_rfl
theorem e26_c : chk [] e26 = true := by kernel_rfl
theorem e27_c : chk [] e27 = true := by kernel_rfl
theorem e28_c : chk [e9] e28 = true := by kernel_rfl
theorem e29_c : chk [e15] e29 = true := by kernel_rfl
theorem e30_c : chk [] e30 = true := by kernel_rfl
theorem e31_c : chk [e29, e30, e15, e14] e31 = true := by kernel_rfl

end Go.Proofs.YtfmbgbicbpoolaaGreat
