/- What the machine finds at some of the calls, part 4. -/
import Derived.Test.YtghlchpignpibaaGreatChk
namespace Go.Proofs.YtghlchpignpibaaGreat

theorem e16_c : chk [e8, e9, e10, e15] e16 = true := by kernel_rfl
theorem e17_c : chk [e1, e5, e16] e17 = true := by kernel_rfl
theorem e18_c : chk [] e18 = true := by kernel_rfl
theorem e19_c : chk [e18] e19 = true := by kernel_rfl
theorem e20_c : chk [e8, e14, e7] e20 = true := by kernel_rfl
theorem e21_c : chk [e17, e1, e19, e20] e21 = true := by kernel_rfl
theorem e22_c : chk [e0] e22 = true := by kernel_rfl
theorem e23_c : chk [e8] e23 = true := by kernel_rfl
theorem e24_c : chk [e22, e23] e24 = true := by kernel_rfl
theorem e25_c : chk [] e25 = true := by kernel_rfl

end Go.Proofs.YtghlchpignpibaaGreat
