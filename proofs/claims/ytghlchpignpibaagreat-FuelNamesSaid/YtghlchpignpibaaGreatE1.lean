/- What the machine finds at some of the calls, part 1. -/
import Derived.Test.YtghlchpignpibaaGreatChk
namespace Go.Proofs.YtghlchpignpibaaGreat

theorem e0_c : chk [] e0 = true := by kernel_rfl
theorem e1_c : chk [e0] e1 = true := by kernel_rfl
theorem e2_c : chk [] e2 = true := by kernel_rfl
theorem e3_c : chk [] e3 = true := by kernel_rfl
theorem e4_c : chk [e3] e4 = true := by kernel_rfl
theorem e5_c : chk [e2, e4] e5 = true := by kernel_rfl
theorem e6_c : chk [] e6 = true := by kernel_rfl

end Go.Proofs.YtghlchpignpibaaGreat
