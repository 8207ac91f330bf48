/- What the machine finds at some of the calls, part 10. -/
import Derived.Test.YtfmbgbicbpoolaaGreatChk
namespace Go.Proofs.YtfmbgbicbpoolaaGreat

theorem e183_c : chk [e161, e120, e165, e166, e181, e182, e121, e178] e183 = true := by kernel_rfl
theorem e184_c : chk [e182, e79, e166] e184 = true := by kernel_rfl
theorem e185_c : chk [e184] e185 = true := by kernel_rfl
theorem e186_c : chk [e146, e117] e186 = true := by kernel_rfl
theorem e187_c : chk [e148, e106, e15, e14] e187 = true := by kernel_rfl
theorem e188_c : chk [e105, e13, e11, e12, e187, e112] e188 = true := by kernel_rfl
theorem e189_c : chk [e102, e186, e188] e189 = true := by kernel_rfl
theorem e190_c : chk [e146, e117] e190 = true := by kernel_rfl
theorem e191_c : chk [e116, e190] e191 = true := by kernel_rfl
theorem e192_c : chk [e191] e192 = true := by kernel_rfl
theorem e193_c : chk [] e193 = true := by kernel_rfl
theorem e194_c : chk [e142, e193] e194 = true := by kernel_rfl
theorem e195_c : chk [e125] e195 = true := by kernel_rfl
theorem e196_c : chk [e195, e127] e196 = true := by kernel_rfl
theorem e197_c : chk [e196, e134] e197 = true := by kernel_rfl
theorem e198_c : chk [e128, e61, e60, e62, e197] e198 = true := by kernel_rfl
theorem e199_c : chk [e195, e127, e134] e199 = true := by kernel_rfl
theorem e200_c : chk [e191, e120, e124, e194, e198, e199, e121, e195, e110] e200 = true := by kernel_rfl
theorem e201_c : chk [e199, e194] e201 = true := by kernel_rfl
theorem e202_c : chk [e201] e202 = true := by kernel_rfl
theorem e203_c : chk [] e203 = true := by kernel_rfl
theorem e204_c : chk [] e204 = true := by kernel_rfl
theorem e205_c : chk [e108, e204] e205 = true := by kernel_rfl
theorem e206_c : chk [e105, e13, e11, e12, e187, e205] e206 = true := by kernel_rfl
theorem e207_c : chk [e102, e103, e104, e203, e206] e207 = true := by kernel_rfl
theorem e208_c : chk [e33, e106, e204] e208 = true := by kernel_rfl
theorem e209_c : chk [e208, e103, e104, e203] e209 = true := by kernel_rfl
theorem e210_c : chk [e209] e210 = true := by kernel_rfl
theorem e211_c : chk [] e211 = true := by kernel_rfl
theorem e212_c : chk [e33, e32] e212 = true := by kernel_rfl
theorem e213_c : chk [e208, e120, e33, e121, e211, e212] e213 = true := by kernel_rfl
theorem e214_c : chk [] e214 = true := by kernel_rfl
theorem e215_c : chk [] e215 = true := by kernel_rfl

end Go.Proofs.YtfmbgbicbpoolaaGreat
