/- What the machine finds at some of the calls, part 13. -/
import Derived.Test.YtcblamejajbkjaaGreatChk
namespace Go.Proofs.YtcblamejajbkjaaGreat

theorem e176_c : chk [] e176 = true := by kernel_rfl
theorem e177_c : chk [e164, e176, e166] e177 = true := by kernel_rfl
theorem e178_c : chk [e174, e175, e177] e178 = true := by kernel_rfl
theorem e179_c : chk [e178] e179 = true := by kernel_rfl
theorem e180_c : chk [e179, e151] e180 = true := by kernel_rfl
theorem e181_c : chk [] e181 = true := by kernel_rfl
theorem e182_c : chk [] e182 = true := by kernel_rfl
theorem e183_c : chk [e174, e182, e177] e183 = true := by kernel_rfl
theorem e184_c : chk [e183] e184 = true := by kernel_rfl
theorem e185_c : chk [e184, e151] e185 = true := by kernel_rfl
theorem e186_c : chk [e180, e181, e153, e184, e183, e182, e110, e155, e185, e151, e161] e186 = true := by kernel_rfl
theorem e187_c : chk [] e187 = true := by kernel_rfl
theorem e188_c : chk [e108, e162, e152, e172, e173, e186, e187] e188 = true := by kernel_rfl
theorem e189_c : chk [e27, e0, e40, e56, e60, e61, e68, e69, e70, e71, e75, e77, e79, e80, e81, e84, e87, e89, e95, e105, e188] e189 = true := by kernel_rfl

end Go.Proofs.YtcblamejajbkjaaGreat
