/- What the machine finds at some of the calls, part 5. -/
import Derived.Test.YtfmbgbicbpoolaaGreatChk
namespace Go.Proofs.YtfmbgbicbpoolaaGreat

theorem e91_c : chk [e32] e91 = true := by kernel_rfl
theorem e92_c : chk [e91, e44, e74] e92 = true := by kernel_rfl
theorem e93_c : chk [e50, e71] e93 = true := by kernel_rfl
theorem e94_c : chk [e92, e93] e94 = true := by kernel_rfl
theorem e95_c : chk [e94] e95 = true := by kernel_rfl
theorem e96_c : chk [e15] e96 = true := by kernel_rfl
theorem e97_c : chk [e96] e97 = true := by kernel_rfl
theorem e98_c : chk [] e98 = true := by kernel_rfl
theorem e99_c : chk [e59, e41, e42] e99 = true := by kernel_rfl
theorem e100_c : chk [e99] e100 = true := by kernel_rfl
theorem e101_c : chk [e15] e101 = true := by kernel_rfl
theorem e102_c : chk [e1] e102 = true := by kernel_rfl
theorem e103_c : chk [] e103 = true := by kernel_rfl
theorem e104_c : chk [] e104 = true := by kernel_rfl
theorem e105_c : chk [e9] e105 = true := by kernel_rfl
theorem e106_c : chk [] e106 = true := by kernel_rfl
theorem e107_c : chk [e105, e106, e9, e8] e107 = true := by kernel_rfl
theorem e108_c : chk [e33, e106] e108 = true := by kernel_rfl
theorem e109_c : chk [] e109 = true := by kernel_rfl
theorem e110_c : chk [] e110 = true := by kernel_rfl
theorem e111_c : chk [e33, e32, e110] e111 = true := by kernel_rfl
theorem e112_c : chk [e108, e109, e111] e112 = true := by kernel_rfl
theorem e113_c : chk [e102, e11, e13, e103, e12, e104, e107, e112] e113 = true := by kernel_rfl
theorem e114_c : chk [e7] e114 = true := by kernel_rfl

end Go.Proofs.YtfmbgbicbpoolaaGreat
