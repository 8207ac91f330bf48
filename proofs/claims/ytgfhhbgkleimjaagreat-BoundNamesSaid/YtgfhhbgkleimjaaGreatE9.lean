/- What the machine finds at some of the calls, part 9. -/
import Derived.Test.YtgfhhbgkleimjaaGreatChk
namespace Go.Proofs.YtgfhhbgkleimjaaGreat

theorem e83_c : chk [e82] e83 = true := by kernel_rfl
theorem e84_c : chk [e81, e83] e84 = true := by kernel_rfl
theorem e85_c : chk [e81, e80] e85 = true := by kernel_rfl
theorem e86_c : chk [e85] e86 = true := by kernel_rfl
theorem e87_c : chk [e6] e87 = true := by kernel_rfl
theorem e88_c : chk [e87] e88 = true := by kernel_rfl
theorem e89_c : chk [e88] e89 = true := by kernel_rfl

end Go.Proofs.YtgfhhbgkleimjaaGreat
