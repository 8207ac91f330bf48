/- What the machine finds at some of the calls, part 10. -/
import Derived.Test.YtghlchpignpibaaGreatChk
namespace Go.Proofs.YtghlchpignpibaaGreat

theorem e78_c : chk [e74] e78 = true := by kernel_rfl
theorem e79_c : chk [e78] e79 = true := by kernel_rfl
theorem e80_c : chk [] e80 = true := by kernel_rfl
theorem e81_c : chk [e80] e81 = true := by kernel_rfl
theorem e82_c : chk [e79, e81] e82 = true := by kernel_rfl
theorem e83_c : chk [e76, e43, e77, e82] e83 = true := by kernel_rfl
theorem e84_c : chk [e78, e81] e84 = true := by kernel_rfl
theorem e85_c : chk [] e85 = true := by kernel_rfl
theorem e86_c : chk [] e86 = true := by kernel_rfl
theorem e87_c : chk [e86] e87 = true := by kernel_rfl
theorem e88_c : chk [e29, e87] e88 = true := by kernel_rfl
theorem e89_c : chk [e37, e66, e28, e27, e68, e70, e73, e83, e84, e85, e78, e88] e89 = true := by kernel_rfl
theorem e90_c : chk [e76, e81] e90 = true := by kernel_rfl
theorem e91_c : chk [e39, e28, e66, e27, e68, e70, e90, e84, e85, e78] e91 = true := by kernel_rfl
theorem e92_c : chk [] e92 = true := by kernel_rfl
theorem e93_c : chk [] e93 = true := by kernel_rfl
theorem e94_c : chk [] e94 = true := by kernel_rfl
theorem e95_c : chk [e92, e93, e94, e68] e95 = true := by kernel_rfl

end Go.Proofs.YtghlchpignpibaaGreat
