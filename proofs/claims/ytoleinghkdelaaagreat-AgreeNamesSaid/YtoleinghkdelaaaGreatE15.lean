/- What the machine finds at some of the calls, part 15. -/
import Derived.Test.YtoleinghkdelaaaGreatChk
namespace Go.Proofs.YtoleinghkdelaaaGreat

theorem e214_c : chk [e207] e214 = true := by kernel_rfl
theorem e215_c : chk [e214, e211] e215 = true := by kernel_rfl
theorem e216_c : chk [e186, e158, e159, e160, e188, e213, e215, e202, e214] e216 = true := by kernel_rfl
theorem e217_c : chk [] e217 = true := by kernel_rfl
theorem e218_c : chk [e217] e218 = true := by kernel_rfl
theorem e219_c : chk [e169, e218] e219 = true := by kernel_rfl
theorem e220_c : chk [e214] e220 = true := by kernel_rfl
theorem e221_c : chk [e220, e211] e221 = true := by kernel_rfl
theorem e222_c : chk [e209, e158, e159, e221] e222 = true := by kernel_rfl
theorem e223_c : chk [e190, e188, e186, e185, e202, e206, e219, e222, e215, e214] e223 = true := by kernel_rfl
theorem e224_c : chk [e217] e224 = true := by kernel_rfl
theorem e225_c : chk [e193, e188, e186, e185, e202, e206, e224, e222, e215, e214] e225 = true := by kernel_rfl
theorem e226_c : chk [e210] e226 = true := by kernel_rfl
theorem e227_c : chk [e196, e188, e186, e185, e202, e206, e226, e222, e215, e214] e227 = true := by kernel_rfl
theorem e228_c : chk [e204, e187, e216, e191, e223, e194, e225, e197, e227] e228 = true := by kernel_rfl
theorem e229_c : chk [e210] e229 = true := by kernel_rfl
theorem e230_c : chk [] e230 = true := by kernel_rfl

end Go.Proofs.YtoleinghkdelaaaGreat
