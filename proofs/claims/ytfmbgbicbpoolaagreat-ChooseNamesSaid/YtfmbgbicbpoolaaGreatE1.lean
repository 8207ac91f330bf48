/- What the machine finds at some of the calls, part 1. -/
import Derived.Test.YtfmbgbicbpoolaaGreatChk
namespace Go.Proofs.YtfmbgbicbpoolaaGreat

theorem e0_c : chk [] e0 = true := by kernel_rfl
theorem e1_c : chk [] e1 = true := by kernel_rfl
theorem e2_c : chk [e1] e2 = true := by kernel_rfl
theorem e3_c : chk [] e3 = true := by kernel_rfl
theorem e4_c : chk [] e4 = true := by kernel_rfl
theorem e5_c : chk [] e5 = true := by kernel_rfl
theorem e6_c : chk [e3, e4, e5] e6 = true := by kernel_rfl
theorem e7_c : chk [] e7 = true := by kernel_rfl
theorem e8_c : chk [e7] e8 = true := by kernel_rfl
theorem e9_c : chk [e8] e9 = true := by kernel_rfl
theorem e10_c : chk [e9] e10 = true := by kernel_rfl
theorem e11_c : chk [] e11 = true := by kernel_rfl
theorem e12_c : chk [] e12 = true := by kernel_rfl
theorem e13_c : chk [] e13 = true := by kernel_rfl

end Go.Proofs.YtfmbgbicbpoolaaGreat
