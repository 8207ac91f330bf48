/- What the machine finds at some of the calls, part 3. -/
import Derived.Test.YtcblamejajbkjaaGreatChk
namespace Go.Proofs.YtcblamejajbkjaaGreat

theorem e18_c : chk [e17] e18 = true := by kernel_rfl
theorem e19_c : chk [e14, e13] e19 = true := by kernel_rfl
theorem e20_c : chk [e15, e18, e19] e20 = true := by kernel_rfl
theorem e21_c : chk [e10, e11, e12, e20] e21 = true := by kernel_rfl
theorem e22_c : chk [e3, e6, e21] e22 = true := by kernel_rfl
theorem e23_c : chk [] e23 = true := by kernel_rfl
theorem e24_c : chk [e23] e24 = true := by kernel_rfl
theorem e25_c : chk [e9, e8] e25 = true := by kernel_rfl
theorem e26_c : chk [e10, e18, e25] e26 = true := by kernel_rfl
theorem e27_c : chk [e0, e22, e3, e24, e26] e27 = true := by kernel_rfl
theorem e28_c : chk [] e28 = true := by kernel_rfl
theorem e29_c : chk [] e29 = true := by kernel_rfl
theorem e30_c : chk [] e30 = true := by kernel_rfl

end Go.Proofs.YtcblamejajbkjaaGreat
