/- What the machine finds at some of the calls, part 5. -/
import Derived.Test.YtcblamejajbkjaaGreatChk
namespace Go.Proofs.YtcblamejajbkjaaGreat

theorem e36_c : chk [] e36 = true := by kernel_rfl
theorem e37_c : chk [e36] e37 = true := by kernel_rfl
theorem e38_c : chk [e35, e37, e36] e38 = true := by kernel_rfl
theorem e39_c : chk [e36, e33] e39 = true := by kernel_rfl
theorem e40_c : chk [e28, e29, e30, e38, e35, e39] e40 = true := by kernel_rfl
theorem e41_c : chk [] e41 = true := by kernel_rfl
theorem e42_c : chk [e1, e2] e42 = true := by kernel_rfl
theorem e43_c : chk [] e43 = true := by kernel_rfl
theorem e44_c : chk [] e44 = true := by kernel_rfl
theorem e45_c : chk [e43, e44] e45 = true := by kernel_rfl
theorem e46_c : chk [e9] e46 = true := by kernel_rfl
theorem e47_c : chk [e14] e47 = true := by kernel_rfl
theorem e48_c : chk [e44, e16] e48 = true := by kernel_rfl
theorem e49_c : chk [e48] e49 = true := by kernel_rfl
theorem e50_c : chk [e47, e49, e19] e50 = true := by kernel_rfl
theorem e51_c : chk [e46, e11, e12, e50] e51 = true := by kernel_rfl
theorem e52_c : chk [e42, e45, e51] e52 = true := by kernel_rfl
theorem e53_c : chk [] e53 = true := by kernel_rfl
theorem e54_c : chk [e53] e54 = true := by kernel_rfl
theorem e55_c : chk [e46, e49, e25] e55 = true := by kernel_rfl
theorem e56_c : chk [e41, e52, e42, e54, e55] e56 = true := by kernel_rfl
theorem e57_c : chk [e9] e57 = true := by kernel_rfl
theorem e58_c : chk [e1, e2, e57] e58 = true := by kernel_rfl
theorem e59_c : chk [e1, e2] e59 = true := by kernel_rfl
theorem e60_c : chk [e58, e59] e60 = true := by kernel_rfl
theorem e61_c : chk [] e61 = true := by kernel_rfl

end Go.Proofs.YtcblamejajbkjaaGreat
