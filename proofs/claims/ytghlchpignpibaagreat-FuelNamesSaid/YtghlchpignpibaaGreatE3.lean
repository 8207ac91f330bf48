/- What the machine finds at some of the calls, part 3. -/
import Derived.Test.YtghlchpignpibaaGreatChk
namespace Go.Proofs.YtghlchpignpibaaGreat

theorem e11_c : chk [e6] e11 = true := by kernel_rfl
theorem e12_c : chk [e11] e12 = true := by kernel_rfl
theorem e13_c : chk [] e13 = true := by kernel_rfl
theorem e14_c : chk [e13] e14 = true := by kernel_rfl
theorem e15_c : chk [e12, e14, e11] e15 = true := by kernel_rfl

end Go.Proofs.YtghlchpignpibaaGreat
