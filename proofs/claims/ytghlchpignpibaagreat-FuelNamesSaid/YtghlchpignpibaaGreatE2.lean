/- What the machine finds at some of the calls, part 2. -/
import Derived.Test.YtghlchpignpibaaGreatChk
namespace Go.Proofs.YtghlchpignpibaaGreat

theorem e7_c : chk [e6] e7 = true := by kernel_rfl
theorem e8_c : chk [e7] e8 = true := by kernel_rfl
theorem e9_c : chk [] e9 = true := by kernel_rfl
theorem e10_c : chk [] e10 = true := by kernel_rfl

end Go.Proofs.YtghlchpignpibaaGreat
