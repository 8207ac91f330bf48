/- What the machine finds at some of the calls, part 18. -/
import Derived.Test.YtoleinghkdelaaaGreatChk
namespace Go.Proofs.YtoleinghkdelaaaGreat

theorem e257_c : chk [] e257 = true := by kernel_rfl
theorem e258_c : chk [e245, e246, e257, e248] e258 = true := by kernel_rfl
theorem e259_c : chk [e258] e259 = true := by kernel_rfl
theorem e260_c : chk [e245, e246, e257, e248] e260 = true := by kernel_rfl
theorem e261_c : chk [e260] e261 = true := by kernel_rfl
theorem e262_c : chk [e245, e246, e257, e248] e262 = true := by kernel_rfl
theorem e263_c : chk [e262] e263 = true := by kernel_rfl
theorem e264_c : chk [e245, e246, e257, e248] e264 = true := by kernel_rfl
theorem e265_c : chk [e264] e265 = true := by kernel_rfl
theorem e266_c : chk [e16, e17, e18, e19, e20, e33, e37, e38, e39, e47, e60, e68, e74, e108, e115, e116, e117, e53, e118, e56, e55, e59, e58, e244, e250, e252, e254, e256, e259, e261, e263, e265] e266 = true := by kernel_rfl

end Go.Proofs.YtoleinghkdelaaaGreat
