/- What the machine finds at some of the calls, part 17. -/
import Derived.Test.YtgfhhbgkleimjaaGreatChk
namespace Go.Proofs.YtgfhhbgkleimjaaGreat

theorem e173_c : chk [e165] e173 = true := by kernel_rfl
theorem e174_c : chk [e172, e173] e174 = true := by kernel_rfl
theorem e175_c : chk [e91, e173] e175 = true := by kernel_rfl
theorem e176_c : chk [] e176 = true := by kernel_rfl
theorem e177_c : chk [e176] e177 = true := by kernel_rfl
theorem e178_c : chk [e175, e177] e178 = true := by kernel_rfl
theorem e179_c : chk [e169, e62, e64, e61, e170, e171, e174, e178] e179 = true := by kernel_rfl
theorem e180_c : chk [e91, e173, e177] e180 = true := by kernel_rfl
theorem e181_c : chk [e33, e75, e31, e30, e76, e79, e156, e160, e161, e24, e157, e103, e164, e166, e179, e180, e91] e181 = true := by kernel_rfl
theorem e182_c : chk [] e182 = true := by kernel_rfl
theorem e183_c : chk [e20, e19] e183 = true := by kernel_rfl
theorem e184_c : chk [e182, e183] e184 = true := by kernel_rfl
theorem e185_c : chk [e50, e51] e185 = true := by kernel_rfl

end Go.Proofs.YtgfhhbgkleimjaaGreat
