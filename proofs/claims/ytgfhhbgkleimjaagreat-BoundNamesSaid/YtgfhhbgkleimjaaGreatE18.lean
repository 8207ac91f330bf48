/- What the machine finds at some of the calls, part 18. -/
import Derived.Test.YtgfhhbgkleimjaaGreatChk
namespace Go.Proofs.YtgfhhbgkleimjaaGreat

theorem e186_c : chk [e6] e186 = true := by kernel_rfl
theorem e187_c : chk [e186] e187 = true := by kernel_rfl
theorem e188_c : chk [e187, e57] e188 = true := by kernel_rfl

end Go.Proofs.YtgfhhbgkleimjaaGreat
