/- What the machine finds at some of the calls, part 11. -/
import Derived.Test.YtcblamejajbkjaaGreatChk
namespace Go.Proofs.YtcblamejajbkjaaGreat

theorem e123_c : chk [e122] e123 = true := by kernel_rfl
theorem e124_c : chk [e123] e124 = true := by kernel_rfl
theorem e125_c : chk [] e125 = true := by kernel_rfl
theorem e126_c : chk [e125] e126 = true := by kernel_rfl
theorem e127_c : chk [e126] e127 = true := by kernel_rfl
theorem e128_c : chk [e124, e127] e128 = true := by kernel_rfl
theorem e129_c : chk [e64, e118, e63, e119, e121, e128] e129 = true := by kernel_rfl
theorem e130_c : chk [e122] e130 = true := by kernel_rfl
theorem e131_c : chk [e130, e127] e131 = true := by kernel_rfl
theorem e132_c : chk [] e132 = true := by kernel_rfl
theorem e133_c : chk [e131, e132, e130] e133 = true := by kernel_rfl
theorem e134_c : chk [e112, e118, e129, e131, e132, e130, e133] e134 = true := by kernel_rfl
theorem e135_c : chk [e117, e64, e118, e63, e119, e121, e128, e131, e132, e130, e133] e135 = true := by kernel_rfl
theorem e136_c : chk [] e136 = true := by kernel_rfl
theorem e137_c : chk [e136] e137 = true := by kernel_rfl
theorem e138_c : chk [] e138 = true := by kernel_rfl
theorem e139_c : chk [] e139 = true := by kernel_rfl
theorem e140_c : chk [e137, e138, e139, e119] e140 = true := by kernel_rfl
theorem e141_c : chk [] e141 = true := by kernel_rfl
theorem e142_c : chk [e141] e142 = true := by kernel_rfl
theorem e143_c : chk [e142] e143 = true := by kernel_rfl
theorem e144_c : chk [e130, e143] e144 = true := by kernel_rfl
theorem e145_c : chk [] e145 = true := by kernel_rfl

end Go.Proofs.YtcblamejajbkjaaGreat
