/- What the machine finds at some of the calls, part 11. -/
import Derived.Test.YtoleinghkdelaaaGreatChk
namespace Go.Proofs.YtoleinghkdelaaaGreat

theorem e145_c : chk [e142, e143, e144, e130, e138, e132, e139, e133, e140] e145 = true := by kernel_rfl
theorem e146_c : chk [] e146 = true := by kernel_rfl
theorem e147_c : chk [e128] e147 = true := by kernel_rfl
theorem e148_c : chk [e128, e147] e148 = true := by kernel_rfl
theorem e149_c : chk [e128, e148] e149 = true := by kernel_rfl
theorem e150_c : chk [] e150 = true := by kernel_rfl
theorem e151_c : chk [e129, e150, e148] e151 = true := by kernel_rfl
theorem e152_c : chk [e131, e148] e152 = true := by kernel_rfl
theorem e153_c : chk [e128, e148] e153 = true := by kernel_rfl
theorem e154_c : chk [e146, e143, e149, e130, e151, e132, e152, e133, e153] e154 = true := by kernel_rfl
theorem e155_c : chk [] e155 = true := by kernel_rfl
theorem e156_c : chk [e128] e156 = true := by kernel_rfl
theorem e157_c : chk [e156] e157 = true := by kernel_rfl
theorem e158_c : chk [] e158 = true := by kernel_rfl
theorem e159_c : chk [] e159 = true := by kernel_rfl
theorem e160_c : chk [] e160 = true := by kernel_rfl
theorem e161_c : chk [e128] e161 = true := by kernel_rfl
theorem e162_c : chk [] e162 = true := by kernel_rfl
theorem e163_c : chk [e162] e163 = true := by kernel_rfl
theorem e164_c : chk [e128, e163, e127] e164 = true := by kernel_rfl
theorem e165_c : chk [e128, e159, e158, e161, e164] e165 = true := by kernel_rfl
theorem e166_c : chk [e156, e158, e159, e160, e165] e166 = true := by kernel_rfl

end Go.Proofs.YtoleinghkdelaaaGreat
