/- What the machine finds at some of the calls, part 6. -/
import Derived.Test.YtghlchpignpibaaGreatChk
namespace Go.Proofs.YtghlchpignpibaaGreat

theorem e33_c : chk [e32] e33 = true := by kernel_rfl
theorem e34_c : chk [e18] e34 = true := by kernel_rfl
theorem e35_c : chk [e28, e34] e35 = true := by kernel_rfl
theorem e36_c : chk [] e36 = true := by kernel_rfl
theorem e37_c : chk [e28, e31] e37 = true := by kernel_rfl
theorem e38_c : chk [e37] e38 = true := by kernel_rfl
theorem e39_c : chk [e28, e34] e39 = true := by kernel_rfl
theorem e40_c : chk [] e40 = true := by kernel_rfl
theorem e41_c : chk [] e41 = true := by kernel_rfl
theorem e42_c : chk [e37] e42 = true := by kernel_rfl
theorem e43_c : chk [] e43 = true := by kernel_rfl
theorem e44_c : chk [] e44 = true := by kernel_rfl
theorem e45_c : chk [e38, e39, e40, e41, e42, e43, e44] e45 = true := by kernel_rfl
theorem e46_c : chk [e33, e35, e36, e45] e46 = true := by kernel_rfl
theorem e47_c : chk [e12] e47 = true := by kernel_rfl
theorem e48_c : chk [e8] e48 = true := by kernel_rfl
theorem e49_c : chk [] e49 = true := by kernel_rfl
theorem e50_c : chk [e33, e35, e36, e49] e50 = true := by kernel_rfl
theorem e51_c : chk [e33, e35, e36] e51 = true := by kernel_rfl
theorem e52_c : chk [e47, e48] e52 = true := by kernel_rfl
theorem e53_c : chk [] e53 = true := by kernel_rfl
theorem e54_c : chk [e12] e54 = true := by kernel_rfl
theorem e55_c : chk [] e55 = true := by kernel_rfl

end Go.Proofs.YtghlchpignpibaaGreat
