/- What the machine finds at some of the calls, part 3. -/
import Derived.Test.YtoleinghkdelaaaGreatChk
namespace Go.Proofs.YtoleinghkdelaaaGreat

theorem e24_c : chk [] e24 = true := by kernel_rfl
theorem e25_c : chk [e24] e25 = true := by kernel_rfl
theorem e26_c : chk [e23, e25] e26 = true := by kernel_rfl
theorem e27_c : chk [] e27 = true := by kernel_rfl
theorem e28_c : chk [] e28 = true := by kernel_rfl
theorem e29_c : chk [e28] e29 = true := by kernel_rfl
theorem e30_c : chk [e27, e29] e30 = true := by kernel_rfl
theorem e31_c : chk [e26, e30] e31 = true := by kernel_rfl
theorem e32_c : chk [e31] e32 = true := by kernel_rfl
theorem e33_c : chk [e32] e33 = true := by kernel_rfl
theorem e34_c : chk [] e34 = true := by kernel_rfl
theorem e35_c : chk [] e35 = true := by kernel_rfl
theorem e36_c : chk [e26, e34, e35, e28] e36 = true := by kernel_rfl
theorem e37_c : chk [e36] e37 = true := by kernel_rfl
theorem e38_c : chk [e36] e38 = true := by kernel_rfl
theorem e39_c : chk [] e39 = true := by kernel_rfl
theorem e40_c : chk [] e40 = true := by kernel_rfl
theorem e41_c : chk [e40] e41 = true := by kernel_rfl
theorem e42_c : chk [e23, e41] e42 = true := by kernel_rfl
theorem e43_c : chk [] e43 = true := by kernel_rfl
theorem e44_c : chk [e43] e44 = true := by kernel_rfl
theorem e45_c : chk [e42, e44] e45 = true := by kernel_rfl
theorem e46_c : chk [e45] e46 = true := by kernel_rfl

end Go.Proofs.YtoleinghkdelaaaGreat
