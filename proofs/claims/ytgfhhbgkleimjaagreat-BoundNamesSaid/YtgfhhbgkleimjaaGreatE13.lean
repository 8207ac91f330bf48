/- What the machine finds at some of the calls, part 13. -/
import Derived.Test.YtgfhhbgkleimjaaGreatChk
namespace Go.Proofs.YtgfhhbgkleimjaaGreat

theorem e132_c : chk [e6] e132 = true := by kernel_rfl
theorem e133_c : chk [e132] e133 = true := by kernel_rfl
theorem e134_c : chk [e133, e83] e134 = true := by kernel_rfl

end Go.Proofs.YtgfhhbgkleimjaaGreat
