/- What the machine finds at some of the calls, part 7. -/
import Derived.Test.YtfmbgbicbpoolaaGreatChk
namespace Go.Proofs.YtfmbgbicbpoolaaGreat

theorem e131_c : chk [e7] e131 = true := by kernel_rfl
theorem e132_c : chk [e131] e132 = true := by kernel_rfl
theorem e133_c : chk [e132] e133 = true := by kernel_rfl
theorem e134_c : chk [] e134 = true := by kernel_rfl
theorem e135_c : chk [e133, e134] e135 = true := by kernel_rfl
theorem e136_c : chk [e131] e136 = true := by kernel_rfl
theorem e137_c : chk [e136, e134] e137 = true := by kernel_rfl
theorem e138_c : chk [] e138 = true := by kernel_rfl
theorem e139_c : chk [e137, e138] e139 = true := by kernel_rfl
theorem e140_c : chk [e136, e134, e138] e140 = true := by kernel_rfl
theorem e141_c : chk [e118, e120, e124, e130, e135, e139, e140, e121, e136] e141 = true := by kernel_rfl
theorem e142_c : chk [] e142 = true := by kernel_rfl
theorem e143_c : chk [] e143 = true := by kernel_rfl
theorem e144_c : chk [e140, e60, e61, e142, e62, e143] e144 = true := by kernel_rfl
theorem e145_c : chk [e144] e145 = true := by kernel_rfl
theorem e146_c : chk [] e146 = true := by kernel_rfl
theorem e147_c : chk [e146, e117] e147 = true := by kernel_rfl
theorem e148_c : chk [e15] e148 = true := by kernel_rfl
theorem e149_c : chk [e148, e109, e15, e14] e149 = true := by kernel_rfl

end Go.Proofs.YtfmbgbicbpoolaaGreat
