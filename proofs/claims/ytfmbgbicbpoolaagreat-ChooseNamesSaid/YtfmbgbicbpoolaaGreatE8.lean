/- What the machine finds at some of the calls, part 8. -/
import Derived.Test.YtfmbgbicbpoolaaGreatChk
namespace Go.Proofs.YtfmbgbicbpoolaaGreat

theorem e150_c : chk [e32] e150 = true := by kernel_rfl
theorem e151_c : chk [e150, e109] e151 = true := by kernel_rfl
theorem e152_c : chk [] e152 = true := by kernel_rfl
theorem e153_c : chk [e150, e32, e152, e110] e153 = true := by kernel_rfl
theorem e154_c : chk [e151, e106, e153] e154 = true := by kernel_rfl
theorem e155_c : chk [e105, e12, e11, e13, e149, e154] e155 = true := by kernel_rfl
theorem e156_c : chk [e102, e147, e155] e156 = true := by kernel_rfl
theorem e157_c : chk [e114, e110] e157 = true := by kernel_rfl
theorem e158_c : chk [e157, e109, e106] e158 = true := by kernel_rfl
theorem e159_c : chk [] e159 = true := by kernel_rfl
theorem e160_c : chk [e146, e117] e160 = true := by kernel_rfl
theorem e161_c : chk [e158, e159, e160] e161 = true := by kernel_rfl
theorem e162_c : chk [e161] e162 = true := by kernel_rfl
theorem e163_c : chk [] e163 = true := by kernel_rfl
theorem e164_c : chk [e157, e114] e164 = true := by kernel_rfl
theorem e165_c : chk [e158, e120, e157, e121, e163, e164] e165 = true := by kernel_rfl
theorem e166_c : chk [e142, e143] e166 = true := by kernel_rfl
theorem e167_c : chk [e7] e167 = true := by kernel_rfl

end Go.Proofs.YtfmbgbicbpoolaaGreat
