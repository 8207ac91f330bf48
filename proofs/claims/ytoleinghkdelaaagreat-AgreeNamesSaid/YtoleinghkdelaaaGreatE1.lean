/- What the machine finds at some of the calls, part 1. -/
import Derived.Test.YtoleinghkdelaaaGreatChk
namespace Go.Proofs.YtoleinghkdelaaaGreat

theorem e0_c : chk [] e0 = true := by kernel_rfl
theorem e1_c : chk [] e1 = true := by kernel_rfl
theorem e2_c : chk [e1] e2 = true := by kernel_rfl
theorem e3_c : chk [] e3 = true := by kernel_rfl
theorem e4_c : chk [e3] e4 = true := by kernel_rfl
theorem e5_c : chk [e0, e2, e4] e5 = true := by kernel_rfl
theorem e6_c : chk [] e6 = true := by kernel_rfl
theorem e7_c : chk [e6, e4] e7 = true := by kernel_rfl
theorem e8_c : chk [e2, e7] e8 = true := by kernel_rfl
theorem e9_c : chk [] e9 = true := by kernel_rfl
theorem e10_c : chk [e9, e4] e10 = true := by kernel_rfl
theorem e11_c : chk [e2, e10] e11 = true := by kernel_rfl
theorem e12_c : chk [] e12 = true := by kernel_rfl
theorem e13_c : chk [] e13 = true := by kernel_rfl
theorem e14_c : chk [e12, e13] e14 = true := by kernel_rfl
theorem e15_c : chk [e2, e14, e4] e15 = true := by kernel_rfl
theorem e16_c : chk [e5, e8, e11, e15] e16 = true := by kernel_rfl
theorem e17_c : chk [] e17 = true := by kernel_rfl
theorem e18_c : chk [] e18 = true := by kernel_rfl

end Go.Proofs.YtoleinghkdelaaaGreat
