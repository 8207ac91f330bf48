/- What the machine finds at some of the calls, part 9. -/
import Derived.Test.YtghlchpignpibaaGreatChk
namespace Go.Proofs.YtghlchpignpibaaGreat

theorem e74_c : chk [e6] e74 = true := by kernel_rfl
theorem e75_c : chk [e74] e75 = true := by kernel_rfl
theorem e76_c : chk [e75] e76 = true := by kernel_rfl
theorem e77_c : chk [] e77 = true := by kernel_rfl

end Go.Proofs.YtghlchpignpibaaGreat
