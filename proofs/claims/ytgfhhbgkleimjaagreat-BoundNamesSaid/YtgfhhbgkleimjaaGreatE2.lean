/- What the machine finds at some of the calls, part 2. -/
import Derived.Test.YtgfhhbgkleimjaaGreatChk
namespace Go.Proofs.YtgfhhbgkleimjaaGreat

theorem e7_c : chk [e6] e7 = true := by kernel_rfl
theorem e8_c : chk [e7] e8 = true := by kernel_rfl
theorem e9_c : chk [e8] e9 = true := by kernel_rfl
theorem e10_c : chk [] e10 = true := by kernel_rfl
theorem e11_c : chk [] e11 = true := by kernel_rfl
theorem e12_c : chk [] e12 = true := by kernel_rfl

end Go.Proofs.YtgfhhbgkleimjaaGreat
