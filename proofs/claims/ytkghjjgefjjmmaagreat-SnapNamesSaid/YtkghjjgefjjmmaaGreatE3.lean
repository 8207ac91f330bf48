/- What the machine finds at some of the calls, part 3. -/
import Derived.Test.YtkghjjgefjjmmaaGreatChk
namespace Go.Proofs.YtkghjjgefjjmmaaGreat

theorem e10_c : chk [e8] e10 = true := by kernel_rfl

end Go.Proofs.YtkghjjgefjjmmaaGreat
