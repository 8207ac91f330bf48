/- What the machine finds at some of the calls, part 9. -/
import Derived.Test.YtcblamejajbkjaaGreatChk
namespace Go.Proofs.YtcblamejajbkjaaGreat

theorem e98_c : chk [] e98 = true := by kernel_rfl
theorem e99_c : chk [] e99 = true := by kernel_rfl
theorem e100_c : chk [e28, e29, e96, e97, e98, e99, e30] e100 = true := by kernel_rfl
theorem e101_c : chk [] e101 = true := by kernel_rfl
theorem e102_c : chk [] e102 = true := by kernel_rfl
theorem e103_c : chk [] e103 = true := by kernel_rfl
theorem e104_c : chk [] e104 = true := by kernel_rfl
theorem e105_c : chk [e100, e101, e102, e103, e104] e105 = true := by kernel_rfl
theorem e106_c : chk [e12, e11, e23] e106 = true := by kernel_rfl

end Go.Proofs.YtcblamejajbkjaaGreat
