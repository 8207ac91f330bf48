/- What the machine finds at some of the calls, part 7. -/
import Derived.Test.YtcblamejajbkjaaGreatChk
namespace Go.Proofs.YtcblamejajbkjaaGreat

theorem e76_c : chk [e14] e76 = true := by kernel_rfl
theorem e77_c : chk [e76] e77 = true := by kernel_rfl
theorem e78_c : chk [e23] e78 = true := by kernel_rfl
theorem e79_c : chk [e64, e78, e74] e79 = true := by kernel_rfl
theorem e80_c : chk [] e80 = true := by kernel_rfl
theorem e81_c : chk [e68, e79] e81 = true := by kernel_rfl
theorem e82_c : chk [] e82 = true := by kernel_rfl
theorem e83_c : chk [] e83 = true := by kernel_rfl
theorem e84_c : chk [e81, e82, e83] e84 = true := by kernel_rfl
theorem e85_c : chk [e9] e85 = true := by kernel_rfl
theorem e86_c : chk [] e86 = true := by kernel_rfl
theorem e87_c : chk [e77, e85, e86] e87 = true := by kernel_rfl
theorem e88_c : chk [] e88 = true := by kernel_rfl
theorem e89_c : chk [e81, e82, e83, e88] e89 = true := by kernel_rfl

end Go.Proofs.YtcblamejajbkjaaGreat
