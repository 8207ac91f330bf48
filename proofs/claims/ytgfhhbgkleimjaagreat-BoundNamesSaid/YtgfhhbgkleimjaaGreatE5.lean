/- What the machine finds at some of the calls, part 5. -/
import Derived.Test.YtgfhhbgkleimjaaGreatChk
namespace Go.Proofs.YtgfhhbgkleimjaaGreat

theorem e26_c : chk [e21, e23, e25] e26 = true := by kernel_rfl
theorem e27_c : chk [e9, e10, e11, e12, e18, e26] e27 = true := by kernel_rfl
theorem e28_c : chk [e2, e5, e27] e28 = true := by kernel_rfl
theorem e29_c : chk [e6] e29 = true := by kernel_rfl
theorem e30_c : chk [e29, e24] e30 = true := by kernel_rfl
theorem e31_c : chk [e30, e17, e23] e31 = true := by kernel_rfl

end Go.Proofs.YtgfhhbgkleimjaaGreat
