/- What the machine finds at some of the calls, part 16. -/
import Derived.Test.YtoleinghkdelaaaGreatChk
namespace Go.Proofs.YtoleinghkdelaaaGreat

theorem e231_c : chk [e229, e159, e230] e231 = true := by kernel_rfl
theorem e232_c : chk [e215, e159, e158, e217] e232 = true := by kernel_rfl
theorem e233_c : chk [e232] e233 = true := by kernel_rfl
theorem e234_c : chk [e232, e202, e215, e214] e234 = true := by kernel_rfl
theorem e235_c : chk [e215, e219] e235 = true := by kernel_rfl
theorem e236_c : chk [e235] e236 = true := by kernel_rfl
theorem e237_c : chk [e235, e202, e215, e214, e219] e237 = true := by kernel_rfl
theorem e238_c : chk [e215, e224] e238 = true := by kernel_rfl
theorem e239_c : chk [e238] e239 = true := by kernel_rfl
theorem e240_c : chk [e238, e202, e215, e214, e224] e240 = true := by kernel_rfl
theorem e241_c : chk [e215, e226] e241 = true := by kernel_rfl
theorem e242_c : chk [e215, e226, e202, e214] e242 = true := by kernel_rfl
theorem e243_c : chk [e231, e233, e234, e236, e237, e239, e240, e241, e242] e243 = true := by kernel_rfl
theorem e244_c : chk [e125, e134, e141, e145, e154, e181, e199, e228, e243] e244 = true := by kernel_rfl
theorem e245_c : chk [] e245 = true := by kernel_rfl

end Go.Proofs.YtoleinghkdelaaaGreat
