/- What the machine finds at some of the calls, part 6. -/
import Derived.Test.YtgfhhbgkleimjaaGreatChk
namespace Go.Proofs.YtgfhhbgkleimjaaGreat

theorem e32_c : chk [e3, e4] e32 = true := by kernel_rfl
theorem e33_c : chk [e31, e32] e33 = true := by kernel_rfl
theorem e34_c : chk [e33] e34 = true := by kernel_rfl
theorem e35_c : chk [] e35 = true := by kernel_rfl
theorem e36_c : chk [] e36 = true := by kernel_rfl
theorem e37_c : chk [] e37 = true := by kernel_rfl
theorem e38_c : chk [e35, e36, e37] e38 = true := by kernel_rfl
theorem e39_c : chk [e37] e39 = true := by kernel_rfl
theorem e40_c : chk [e21, e39] e40 = true := by kernel_rfl
theorem e41_c : chk [e9, e10, e11, e12, e18, e40] e41 = true := by kernel_rfl
theorem e42_c : chk [e20, e17, e39] e42 = true := by kernel_rfl
theorem e43_c : chk [e35, e36, e37] e43 = true := by kernel_rfl
theorem e44_c : chk [e42, e43] e44 = true := by kernel_rfl
theorem e45_c : chk [e42, e43] e45 = true := by kernel_rfl
theorem e46_c : chk [e2, e38, e41, e44, e45] e46 = true := by kernel_rfl
theorem e47_c : chk [e2, e38, e41, e44] e47 = true := by kernel_rfl
theorem e48_c : chk [] e48 = true := by kernel_rfl
theorem e49_c : chk [e1] e49 = true := by kernel_rfl
theorem e50_c : chk [] e50 = true := by kernel_rfl
theorem e51_c : chk [] e51 = true := by kernel_rfl
theorem e52_c : chk [e8] e52 = true := by kernel_rfl
theorem e53_c : chk [e50] e53 = true := by kernel_rfl

end Go.Proofs.YtgfhhbgkleimjaaGreat
