/- What the machine finds at some of the calls, part 12. -/
import Derived.Test.YtoleinghkdelaaaGreatChk
namespace Go.Proofs.YtoleinghkdelaaaGreat

theorem e167_c : chk [e128, e150] e167 = true := by kernel_rfl
theorem e168_c : chk [e167] e168 = true := by kernel_rfl
theorem e169_c : chk [] e169 = true := by kernel_rfl
theorem e170_c : chk [] e170 = true := by kernel_rfl
theorem e171_c : chk [e170] e171 = true := by kernel_rfl
theorem e172_c : chk [e169, e171] e172 = true := by kernel_rfl
theorem e173_c : chk [e167, e172, e165] e173 = true := by kernel_rfl
theorem e174_c : chk [e128] e174 = true := by kernel_rfl
theorem e175_c : chk [e174] e175 = true := by kernel_rfl
theorem e176_c : chk [e170] e176 = true := by kernel_rfl
theorem e177_c : chk [e174, e176, e165] e177 = true := by kernel_rfl
theorem e178_c : chk [e128] e178 = true := by kernel_rfl
theorem e179_c : chk [e178] e179 = true := by kernel_rfl
theorem e180_c : chk [e178, e160, e165] e180 = true := by kernel_rfl
theorem e181_c : chk [e155, e157, e166, e168, e173, e175, e177, e179, e180] e181 = true := by kernel_rfl
theorem e182_c : chk [e160] e182 = true := by kernel_rfl
theorem e183_c : chk [] e183 = true := by kernel_rfl
theorem e184_c : chk [e182, e158, e183] e184 = true := by kernel_rfl
theorem e185_c : chk [e22] e185 = true := by kernel_rfl

end Go.Proofs.YtoleinghkdelaaaGreat
