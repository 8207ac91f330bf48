/- What the machine finds at some of the calls, part 6. -/
import Derived.Test.YtoleinghkdelaaaGreatChk
namespace Go.Proofs.YtoleinghkdelaaaGreat

theorem e75_c : chk [] e75 = true := by kernel_rfl
theorem e76_c : chk [e75] e76 = true := by kernel_rfl
theorem e77_c : chk [] e77 = true := by kernel_rfl
theorem e78_c : chk [] e78 = true := by kernel_rfl
theorem e79_c : chk [] e79 = true := by kernel_rfl
theorem e80_c : chk [] e80 = true := by kernel_rfl
theorem e81_c : chk [e24] e81 = true := by kernel_rfl
theorem e82_c : chk [e26, e81, e23, e22] e82 = true := by kernel_rfl
theorem e83_c : chk [e23, e81] e83 = true := by kernel_rfl
theorem e84_c : chk [] e84 = true := by kernel_rfl
theorem e85_c : chk [e84] e85 = true := by kernel_rfl
theorem e86_c : chk [e83, e85] e86 = true := by kernel_rfl
theorem e87_c : chk [e26, e80, e78, e77, e82, e86] e87 = true := by kernel_rfl
theorem e88_c : chk [e26, e34, e35, e28, e75, e77, e78, e79, e87] e88 = true := by kernel_rfl
theorem e89_c : chk [] e89 = true := by kernel_rfl
theorem e90_c : chk [e28] e90 = true := by kernel_rfl
theorem e91_c : chk [] e91 = true := by kernel_rfl
theorem e92_c : chk [e91] e92 = true := by kernel_rfl
theorem e93_c : chk [e89, e90, e92] e93 = true := by kernel_rfl
theorem e94_c : chk [e26, e77, e78, e80, e82, e86] e94 = true := by kernel_rfl
theorem e95_c : chk [e31, e75, e93, e94] e95 = true := by kernel_rfl

end Go.Proofs.YtoleinghkdelaaaGreat
