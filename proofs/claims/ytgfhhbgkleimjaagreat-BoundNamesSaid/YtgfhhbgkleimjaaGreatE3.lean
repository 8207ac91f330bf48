/- What the machine finds at some of the calls, part 3. -/
import Derived.Test.YtgfhhbgkleimjaaGreatChk
namespace Go.Proofs.YtgfhhbgkleimjaaGreat

theorem e13_c : chk [e6] e13 = true := by kernel_rfl
theorem e14_c : chk [e13] e14 = true := by kernel_rfl
theorem e15_c : chk [e14] e15 = true := by kernel_rfl
theorem e16_c : chk [] e16 = true := by kernel_rfl
theorem e17_c : chk [e16] e17 = true := by kernel_rfl
theorem e18_c : chk [e15, e17, e14, e13] e18 = true := by kernel_rfl

end Go.Proofs.YtgfhhbgkleimjaaGreat
