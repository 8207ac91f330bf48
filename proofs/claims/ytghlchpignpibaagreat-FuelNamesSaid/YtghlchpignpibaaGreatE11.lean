/- What the machine finds at some of the calls, part 11. -/
import Derived.Test.YtghlchpignpibaaGreatChk
namespace Go.Proofs.YtghlchpignpibaaGreat

theorem e96_c : chk [] e96 = true := by kernel_rfl
theorem e97_c : chk [e96] e97 = true := by kernel_rfl
theorem e98_c : chk [e78, e97] e98 = true := by kernel_rfl
theorem e99_c : chk [e98, e88] e99 = true := by kernel_rfl
theorem e100_c : chk [e99] e100 = true := by kernel_rfl
theorem e101_c : chk [] e101 = true := by kernel_rfl
theorem e102_c : chk [e101] e102 = true := by kernel_rfl
theorem e103_c : chk [e98, e102] e103 = true := by kernel_rfl
theorem e104_c : chk [e33, e35, e36, e67, e38, e89, e91, e95, e100, e103] e104 = true := by kernel_rfl
theorem e105_c : chk [e32, e66, e28, e27, e68, e70, e73, e83, e84, e85, e78, e88] e105 = true := by kernel_rfl
theorem e106_c : chk [e35, e28, e66, e27, e68, e70, e90, e84, e85, e78] e106 = true := by kernel_rfl
theorem e107_c : chk [e38, e39, e40, e67, e89, e91, e95, e100, e103] e107 = true := by kernel_rfl
theorem e108_c : chk [e33, e35, e36, e45, e107, e38, e89, e91] e108 = true := by kernel_rfl
theorem e109_c : chk [e21, e65, e104, e33, e105, e106, e35, e108] e109 = true := by kernel_rfl
theorem e110_c : chk [e21, e24, e25, e33, e35, e36, e46, e47, e48, e50, e51, e52, e53, e57, e63, e64, e109] e110 = true := by kernel_rfl

end Go.Proofs.YtghlchpignpibaaGreat
