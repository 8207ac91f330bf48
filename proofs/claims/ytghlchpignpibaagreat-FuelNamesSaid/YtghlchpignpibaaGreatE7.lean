/- What the machine finds at some of the calls, part 7. -/
import Derived.Test.YtghlchpignpibaaGreatChk
namespace Go.Proofs.YtghlchpignpibaaGreat

theorem e56_c : chk [e47, e54, e55] e56 = true := by kernel_rfl
theorem e57_c : chk [e47, e48, e53, e56] e57 = true := by kernel_rfl
theorem e58_c : chk [] e58 = true := by kernel_rfl
theorem e59_c : chk [] e59 = true := by kernel_rfl

end Go.Proofs.YtghlchpignpibaaGreat
