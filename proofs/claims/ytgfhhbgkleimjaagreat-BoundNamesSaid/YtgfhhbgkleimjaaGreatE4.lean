/- What the machine finds at some of the calls, part 4. -/
import Derived.Test.YtgfhhbgkleimjaaGreatChk
namespace Go.Proofs.YtgfhhbgkleimjaaGreat

theorem e19_c : chk [e6] e19 = true := by kernel_rfl
theorem e20_c : chk [e19] e20 = true := by kernel_rfl
theorem e21_c : chk [e20, e17] e21 = true := by kernel_rfl
theorem e22_c : chk [] e22 = true := by kernel_rfl
theorem e23_c : chk [e22] e23 = true := by kernel_rfl
theorem e24_c : chk [] e24 = true := by kernel_rfl
theorem e25_c : chk [e20, e19, e24] e25 = true := by kernel_rfl

end Go.Proofs.YtgfhhbgkleimjaaGreat
