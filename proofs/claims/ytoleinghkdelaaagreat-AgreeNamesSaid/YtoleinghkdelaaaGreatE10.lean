/- What the machine finds at some of the calls, part 10. -/
import Derived.Test.YtoleinghkdelaaaGreatChk
namespace Go.Proofs.YtoleinghkdelaaaGreat

theorem e128_c : chk [e127] e128 = true := by kernel_rfl
theorem e129_c : chk [e128] e129 = true := by kernel_rfl
theorem e130_c : chk [e129] e130 = true := by kernel_rfl
theorem e131_c : chk [e128] e131 = true := by kernel_rfl
theorem e132_c : chk [e131] e132 = true := by kernel_rfl
theorem e133_c : chk [e128] e133 = true := by kernel_rfl
theorem e134_c : chk [e126, e130, e132, e133] e134 = true := by kernel_rfl
theorem e135_c : chk [e122, e62] e135 = true := by kernel_rfl
theorem e136_c : chk [e122, e62, e135] e136 = true := by kernel_rfl
theorem e137_c : chk [e128, e62] e137 = true := by kernel_rfl
theorem e138_c : chk [e129, e62, e128, e137] e138 = true := by kernel_rfl
theorem e139_c : chk [e131, e62, e128, e137] e139 = true := by kernel_rfl
theorem e140_c : chk [e128, e62, e137] e140 = true := by kernel_rfl
theorem e141_c : chk [e126, e136, e130, e138, e132, e139, e133, e140] e141 = true := by kernel_rfl
theorem e142_c : chk [] e142 = true := by kernel_rfl
theorem e143_c : chk [e128] e143 = true := by kernel_rfl
theorem e144_c : chk [e128, e62, e137] e144 = true := by kernel_rfl

end Go.Proofs.YtoleinghkdelaaaGreat
