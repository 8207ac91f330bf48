/- What the machine finds at some of the calls, part 6. -/
import Derived.Test.YtfmbgbicbpoolaaGreatChk
namespace Go.Proofs.YtfmbgbicbpoolaaGreat

theorem e115_c : chk [e114, e110] e115 = true := by kernel_rfl
theorem e116_c : chk [e115, e106, e109] e116 = true := by kernel_rfl
theorem e117_c : chk [] e117 = true := by kernel_rfl
theorem e118_c : chk [e116, e61, e60, e103, e62, e117] e118 = true := by kernel_rfl
theorem e119_c : chk [e118] e119 = true := by kernel_rfl
theorem e120_c : chk [] e120 = true := by kernel_rfl
theorem e121_c : chk [] e121 = true := by kernel_rfl
theorem e122_c : chk [] e122 = true := by kernel_rfl
theorem e123_c : chk [e115, e114] e123 = true := by kernel_rfl
theorem e124_c : chk [e116, e120, e115, e121, e122, e123] e124 = true := by kernel_rfl
theorem e125_c : chk [e7] e125 = true := by kernel_rfl
theorem e126_c : chk [e125] e126 = true := by kernel_rfl
theorem e127_c : chk [] e127 = true := by kernel_rfl
theorem e128_c : chk [e126, e127] e128 = true := by kernel_rfl
theorem e129_c : chk [e126, e125] e129 = true := by kernel_rfl
theorem e130_c : chk [e128, e129] e130 = true := by kernel_rfl

end Go.Proofs.YtfmbgbicbpoolaaGreat
