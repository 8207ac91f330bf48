/- What the machine finds at some of the calls, part 5. -/
import Derived.Test.YtghlchpignpibaaGreatChk
namespace Go.Proofs.YtghlchpignpibaaGreat

theorem e26_c : chk [e6] e26 = true := by kernel_rfl
theorem e27_c : chk [e26] e27 = true := by kernel_rfl
theorem e28_c : chk [e27, e14] e28 = true := by kernel_rfl
theorem e29_c : chk [] e29 = true := by kernel_rfl
theorem e30_c : chk [e3] e30 = true := by kernel_rfl
theorem e31_c : chk [e29, e30] e31 = true := by kernel_rfl
theorem e32_c : chk [e28, e31] e32 = true := by kernel_rfl

end Go.Proofs.YtghlchpignpibaaGreat
