/- What the machine finds at some of the calls, part 4. -/
import Derived.Test.YtkghjjgefjjmmaaGreatChk
namespace Go.Proofs.YtkghjjgefjjmmaaGreat

theorem e11_c : chk [] e11 = true := by kernel_rfl
theorem e12_c : chk [] e12 = true := by kernel_rfl
theorem e13_c : chk [] e13 = true := by kernel_rfl
theorem e14_c : chk [e13] e14 = true := by kernel_rfl
theorem e15_c : chk [] e15 = true := by kernel_rfl
theorem e16_c : chk [] e16 = true := by kernel_rfl
theorem e17_c : chk [e0, e1, e2, e3, e4, e5, e6, e7, e9, e10, e11, e12, e14, e15, e16] e17 = true := by kernel_rfl

end Go.Proofs.YtkghjjgefjjmmaaGreat
