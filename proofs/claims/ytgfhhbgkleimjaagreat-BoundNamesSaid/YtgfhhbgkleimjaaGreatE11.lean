/- What the machine finds at some of the calls, part 11. -/
import Derived.Test.YtgfhhbgkleimjaaGreatChk
namespace Go.Proofs.YtgfhhbgkleimjaaGreat

theorem e108_c : chk [e4] e108 = true := by kernel_rfl
theorem e109_c : chk [e106, e107, e108] e109 = true := by kernel_rfl
theorem e110_c : chk [e15, e23, e14, e13] e110 = true := by kernel_rfl
theorem e111_c : chk [e19] e111 = true := by kernel_rfl
theorem e112_c : chk [e111, e23] e112 = true := by kernel_rfl
theorem e113_c : chk [e111, e19, e76, e24] e113 = true := by kernel_rfl
theorem e114_c : chk [e112, e17, e113] e114 = true := by kernel_rfl
theorem e115_c : chk [e9, e12, e11, e10, e110, e114] e115 = true := by kernel_rfl
theorem e116_c : chk [e2, e109, e115] e116 = true := by kernel_rfl
theorem e117_c : chk [e29, e24] e117 = true := by kernel_rfl
theorem e118_c : chk [e117, e23, e17] e118 = true := by kernel_rfl
theorem e119_c : chk [] e119 = true := by kernel_rfl
theorem e120_c : chk [] e120 = true := by kernel_rfl

end Go.Proofs.YtgfhhbgkleimjaaGreat
