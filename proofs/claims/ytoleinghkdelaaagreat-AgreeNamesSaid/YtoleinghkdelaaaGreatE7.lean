/- What the machine finds at some of the calls, part 7. -/
import Derived.Test.YtoleinghkdelaaaGreatChk
namespace Go.Proofs.YtoleinghkdelaaaGreat

theorem e96_c : chk [] e96 = true := by kernel_rfl
theorem e97_c : chk [e28, e96] e97 = true := by kernel_rfl
theorem e98_c : chk [] e98 = true := by kernel_rfl
theorem e99_c : chk [e98] e99 = true := by kernel_rfl
theorem e100_c : chk [e83, e99] e100 = true := by kernel_rfl
theorem e101_c : chk [e26, e80, e78, e77, e82, e100] e101 = true := by kernel_rfl
theorem e102_c : chk [e70, e69, e75, e97, e101] e102 = true := by kernel_rfl
theorem e103_c : chk [e57, e79] e103 = true := by kernel_rfl
theorem e104_c : chk [e71, e81, e23, e22] e104 = true := by kernel_rfl
theorem e105_c : chk [e23, e81] e105 = true := by kernel_rfl
theorem e106_c : chk [e105] e106 = true := by kernel_rfl
theorem e107_c : chk [e71, e80, e78, e77, e104, e106] e107 = true := by kernel_rfl
theorem e108_c : chk [e76, e36, e88, e32, e95, e102, e73, e72, e75, e103, e107] e108 = true := by kernel_rfl
theorem e109_c : chk [] e109 = true := by kernel_rfl
theorem e110_c : chk [e109] e110 = true := by kernel_rfl
theorem e111_c : chk [e26, e34, e35, e28, e62, e23, e63] e111 = true := by kernel_rfl
theorem e112_c : chk [e31, e62, e26, e23, e63, e30] e112 = true := by kernel_rfl
theorem e113_c : chk [e69, e62, e26, e23, e63, e54] e113 = true := by kernel_rfl
theorem e114_c : chk [e72, e62, e71, e23, e63, e57] e114 = true := by kernel_rfl

end Go.Proofs.YtoleinghkdelaaaGreat
