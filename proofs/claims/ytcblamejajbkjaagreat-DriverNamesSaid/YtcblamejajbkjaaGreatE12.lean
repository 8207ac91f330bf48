/- What the machine finds at some of the calls, part 12. -/
import Derived.Test.YtcblamejajbkjaaGreatChk
namespace Go.Proofs.YtcblamejajbkjaaGreat

theorem e146_c : chk [e110, e109, e145] e146 = true := by kernel_rfl
theorem e147_c : chk [e144, e146] e147 = true := by kernel_rfl
theorem e148_c : chk [e147] e148 = true := by kernel_rfl
theorem e149_c : chk [e141] e149 = true := by kernel_rfl
theorem e150_c : chk [] e150 = true := by kernel_rfl
theorem e151_c : chk [e144, e149, e150] e151 = true := by kernel_rfl
theorem e152_c : chk [e148, e151] e152 = true := by kernel_rfl
theorem e153_c : chk [] e153 = true := by kernel_rfl
theorem e154_c : chk [] e154 = true := by kernel_rfl
theorem e155_c : chk [e154] e155 = true := by kernel_rfl
theorem e156_c : chk [] e156 = true := by kernel_rfl
theorem e157_c : chk [e156] e157 = true := by kernel_rfl
theorem e158_c : chk [] e158 = true := by kernel_rfl
theorem e159_c : chk [e149, e110, e155, e109, e157, e158] e159 = true := by kernel_rfl
theorem e160_c : chk [] e160 = true := by kernel_rfl
theorem e161_c : chk [e159, e149, e110, e155, e109, e157, e158, e160] e161 = true := by kernel_rfl
theorem e162_c : chk [e113, e79, e114, e83, e112, e109, e116, e117, e118, e134, e135, e140, e152, e153, e148, e147, e110, e155, e151, e161] e162 = true := by kernel_rfl
theorem e163_c : chk [e1, e2] e163 = true := by kernel_rfl
theorem e164_c : chk [] e164 = true := by kernel_rfl
theorem e165_c : chk [] e165 = true := by kernel_rfl
theorem e166_c : chk [e145] e166 = true := by kernel_rfl
theorem e167_c : chk [e164, e165, e166] e167 = true := by kernel_rfl
theorem e168_c : chk [e9] e168 = true := by kernel_rfl
theorem e169_c : chk [e14] e169 = true := by kernel_rfl
theorem e170_c : chk [e169, e143] e170 = true := by kernel_rfl
theorem e171_c : chk [e168, e109, e110, e170] e171 = true := by kernel_rfl
theorem e172_c : chk [e163, e167, e171] e172 = true := by kernel_rfl
theorem e173_c : chk [] e173 = true := by kernel_rfl
theorem e174_c : chk [e14, e143] e174 = true := by kernel_rfl
theorem e175_c : chk [] e175 = true := by kernel_rfl

end Go.Proofs.YtcblamejajbkjaaGreat
