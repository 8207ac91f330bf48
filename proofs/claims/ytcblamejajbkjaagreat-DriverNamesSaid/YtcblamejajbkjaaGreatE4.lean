/- What the machine finds at some of the calls, part 4. -/
import Derived.Test.YtcblamejajbkjaaGreatChk
namespace Go.Proofs.YtcblamejajbkjaaGreat

theorem e31_c : chk [] e31 = true := by kernel_rfl
theorem e32_c : chk [] e32 = true := by kernel_rfl
theorem e33_c : chk [] e33 = true := by kernel_rfl
theorem e34_c : chk [e33] e34 = true := by kernel_rfl
theorem e35_c : chk [e31, e32, e34] e35 = true := by kernel_rfl

end Go.Proofs.YtcblamejajbkjaaGreat
