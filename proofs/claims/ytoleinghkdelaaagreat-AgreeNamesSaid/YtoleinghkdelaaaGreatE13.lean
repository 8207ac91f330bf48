/- What the machine finds at some of the calls, part 13. -/
import Derived.Test.YtoleinghkdelaaaGreatChk
namespace Go.Proofs.YtoleinghkdelaaaGreat

theorem e186_c : chk [e185, e163] e186 = true := by kernel_rfl
theorem e187_c : chk [e186, e158, e159, e160] e187 = true := by kernel_rfl
theorem e188_c : chk [] e188 = true := by kernel_rfl
theorem e189_c : chk [e186, e158, e159, e160, e62, e185, e188] e189 = true := by kernel_rfl
theorem e190_c : chk [e186, e172] e190 = true := by kernel_rfl
theorem e191_c : chk [e190] e191 = true := by kernel_rfl
theorem e192_c : chk [e190, e62, e186, e185, e188, e172] e192 = true := by kernel_rfl
theorem e193_c : chk [e186, e176] e193 = true := by kernel_rfl
theorem e194_c : chk [e193] e194 = true := by kernel_rfl
theorem e195_c : chk [e193, e62, e186, e185, e188, e176] e195 = true := by kernel_rfl
theorem e196_c : chk [e186, e160] e196 = true := by kernel_rfl
theorem e197_c : chk [e196] e197 = true := by kernel_rfl
theorem e198_c : chk [e196, e62, e186, e185, e188, e160] e198 = true := by kernel_rfl
theorem e199_c : chk [e184, e187, e189, e191, e192, e194, e195, e197, e198] e199 = true := by kernel_rfl
theorem e200_c : chk [] e200 = true := by kernel_rfl
theorem e201_c : chk [] e201 = true := by kernel_rfl
theorem e202_c : chk [] e202 = true := by kernel_rfl
theorem e203_c : chk [e200, e201, e188, e202] e203 = true := by kernel_rfl
theorem e204_c : chk [e188, e203] e204 = true := by kernel_rfl
theorem e205_c : chk [e185, e22] e205 = true := by kernel_rfl
theorem e206_c : chk [e205] e206 = true := by kernel_rfl

end Go.Proofs.YtoleinghkdelaaaGreat
