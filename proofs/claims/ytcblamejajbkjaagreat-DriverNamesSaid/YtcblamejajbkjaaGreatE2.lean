/- What the machine finds at some of the calls, part 2. -/
import Derived.Test.YtcblamejajbkjaaGreatChk
namespace Go.Proofs.YtcblamejajbkjaaGreat

theorem e9_c : chk [e8] e9 = true := by kernel_rfl
theorem e10_c : chk [e9] e10 = true := by kernel_rfl
theorem e11_c : chk [] e11 = true := by kernel_rfl
theorem e12_c : chk [] e12 = true := by kernel_rfl
theorem e13_c : chk [e7] e13 = true := by kernel_rfl
theorem e14_c : chk [e13] e14 = true := by kernel_rfl
theorem e15_c : chk [e14] e15 = true := by kernel_rfl
theorem e16_c : chk [] e16 = true := by kernel_rfl
theorem e17_c : chk [e5, e16] e17 = true := by kernel_rfl

end Go.Proofs.YtcblamejajbkjaaGreat
