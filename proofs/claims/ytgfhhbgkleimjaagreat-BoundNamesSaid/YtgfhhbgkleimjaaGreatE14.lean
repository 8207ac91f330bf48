/- What the machine finds at some of the calls, part 14. -/
import Derived.Test.YtgfhhbgkleimjaaGreatChk
namespace Go.Proofs.YtgfhhbgkleimjaaGreat

theorem e135_c : chk [e132] e135 = true := by kernel_rfl
theorem e136_c : chk [e135, e83] e136 = true := by kernel_rfl
theorem e137_c : chk [e135, e132] e137 = true := by kernel_rfl
theorem e138_c : chk [e137] e138 = true := by kernel_rfl
theorem e139_c : chk [e6] e139 = true := by kernel_rfl

end Go.Proofs.YtgfhhbgkleimjaaGreat
