/- What the machine finds at some of the calls, part 8. -/
import Derived.Test.YtgfhhbgkleimjaaGreatChk
namespace Go.Proofs.YtgfhhbgkleimjaaGreat

theorem e76_c : chk [] e76 = true := by kernel_rfl
theorem e77_c : chk [] e77 = true := by kernel_rfl
theorem e78_c : chk [e30, e29] e78 = true := by kernel_rfl
theorem e79_c : chk [e77, e78] e79 = true := by kernel_rfl
theorem e80_c : chk [e6] e80 = true := by kernel_rfl
theorem e81_c : chk [e80] e81 = true := by kernel_rfl
theorem e82_c : chk [] e82 = true := by kernel_rfl

end Go.Proofs.YtgfhhbgkleimjaaGreat
