/- What the machine finds at some of the calls, part 8. -/
import Derived.Test.YtcblamejajbkjaaGreatChk
namespace Go.Proofs.YtcblamejajbkjaaGreat

theorem e90_c : chk [] e90 = true := by kernel_rfl
theorem e91_c : chk [] e91 = true := by kernel_rfl
theorem e92_c : chk [] e92 = true := by kernel_rfl
theorem e93_c : chk [] e93 = true := by kernel_rfl
theorem e94_c : chk [e90, e91, e92, e93] e94 = true := by kernel_rfl
theorem e95_c : chk [e28, e29, e94, e30] e95 = true := by kernel_rfl
theorem e96_c : chk [] e96 = true := by kernel_rfl
theorem e97_c : chk [] e97 = true := by kernel_rfl

end Go.Proofs.YtcblamejajbkjaaGreat
