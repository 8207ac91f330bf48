/- What the machine finds at some of the calls, part 16. -/
import Derived.Test.YtgfhhbgkleimjaaGreatChk
namespace Go.Proofs.YtgfhhbgkleimjaaGreat

theorem e154_c : chk [e116, e125, e153, e104] e154 = true := by kernel_rfl
theorem e155_c : chk [] e155 = true := by kernel_rfl
theorem e156_c : chk [e63, e155] e156 = true := by kernel_rfl
theorem e157_c : chk [e80] e157 = true := by kernel_rfl
theorem e158_c : chk [e157, e83] e158 = true := by kernel_rfl
theorem e159_c : chk [e158, e53] e159 = true := by kernel_rfl
theorem e160_c : chk [e84, e62, e61, e64, e159] e160 = true := by kernel_rfl
theorem e161_c : chk [e157, e83, e53] e161 = true := by kernel_rfl
theorem e162_c : chk [] e162 = true := by kernel_rfl
theorem e163_c : chk [e157, e80] e163 = true := by kernel_rfl
theorem e164_c : chk [e162, e163] e164 = true := by kernel_rfl
theorem e165_c : chk [] e165 = true := by kernel_rfl
theorem e166_c : chk [e148, e165, e150] e166 = true := by kernel_rfl
theorem e167_c : chk [] e167 = true := by kernel_rfl
theorem e168_c : chk [e167] e168 = true := by kernel_rfl
theorem e169_c : chk [e88, e168] e169 = true := by kernel_rfl
theorem e170_c : chk [e91, e168] e170 = true := by kernel_rfl
theorem e171_c : chk [] e171 = true := by kernel_rfl
theorem e172_c : chk [e91] e172 = true := by kernel_rfl

end Go.Proofs.YtgfhhbgkleimjaaGreat
