/- What the machine finds at some of the calls, part 10. -/
import Derived.Test.YtgfhhbgkleimjaaGreatChk
namespace Go.Proofs.YtgfhhbgkleimjaaGreat

theorem e90_c : chk [e89, e53] e90 = true := by kernel_rfl
theorem e91_c : chk [e87] e91 = true := by kernel_rfl
theorem e92_c : chk [e91, e53] e92 = true := by kernel_rfl
theorem e93_c : chk [e92, e57] e93 = true := by kernel_rfl
theorem e94_c : chk [e31, e75, e30, e76, e79, e84, e86, e90, e93] e94 = true := by kernel_rfl
theorem e95_c : chk [e91, e53, e57] e95 = true := by kernel_rfl
theorem e96_c : chk [e73, e75, e94, e95, e24, e91] e96 = true := by kernel_rfl
theorem e97_c : chk [] e97 = true := by kernel_rfl
theorem e98_c : chk [e97] e98 = true := by kernel_rfl
theorem e99_c : chk [] e99 = true := by kernel_rfl
theorem e100_c : chk [e99, e24] e100 = true := by kernel_rfl
theorem e101_c : chk [] e101 = true := by kernel_rfl
theorem e102_c : chk [] e102 = true := by kernel_rfl
theorem e103_c : chk [] e103 = true := by kernel_rfl
theorem e104_c : chk [e98, e100, e101, e102, e76, e103] e104 = true := by kernel_rfl
theorem e105_c : chk [e72, e74, e96, e104] e105 = true := by kernel_rfl
theorem e106_c : chk [] e106 = true := by kernel_rfl
theorem e107_c : chk [e3] e107 = true := by kernel_rfl

end Go.Proofs.YtgfhhbgkleimjaaGreat
