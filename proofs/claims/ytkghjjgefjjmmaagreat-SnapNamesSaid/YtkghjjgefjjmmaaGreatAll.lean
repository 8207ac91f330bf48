/- Each call has its answer. -/
import Derived.Test.YtkghjjgefjjmmaaGreatE1
import Derived.Test.YtkghjjgefjjmmaaGreatE2
import Derived.Test.YtkghjjgefjjmmaaGreatE3
import Derived.Test.YtkghjjgefjjmmaaGreatE4
namespace Go.Proofs.YtkghjjgefjjmmaaGreat

theorem e0_ok : Ok e0 := ent (nil) e0_c
theorem e1_ok : Ok e1 := ent (nil) e1_c
theorem e2_ok : Ok e2 := ent (nil) e2_c
theorem e3_ok : Ok e3 := ent (nil) e3_c
theorem e4_ok : Ok e4 := ent (nil) e4_c
theorem e5_ok : Ok e5 := ent (nil) e5_c
theorem e6_ok : Ok e6 := ent (nil) e6_c
theorem e7_ok : Ok e7 := ent (nil) e7_c
theorem e8_ok : Ok e8 := ent (nil) e8_c
theorem e9_ok : Ok e9 := ent (cons e8_ok nil) e9_c
theorem e10_ok : Ok e10 := ent (cons e8_ok nil) e10_c
theorem e11_ok : Ok e11 := ent (nil) e11_c
theorem e12_ok : Ok e12 := ent (nil) e12_c
theorem e13_ok : Ok e13 := ent (nil) e13_c
theorem e14_ok : Ok e14 := ent (cons e13_ok nil) e14_c
theorem e15_ok : Ok e15 := ent (nil) e15_c
theorem e16_ok : Ok e16 := ent (nil) e16_c
theorem e17_ok : Ok e17 := ent (cons e0_ok (cons e1_ok (cons e2_ok (cons e3_ok (cons e4_ok (cons e5_ok (cons e6_ok (cons e7_ok (cons e9_ok (cons e10_ok (cons e11_ok (cons e12_ok (cons e14_ok (cons e15_ok (cons e16_ok nil))))))))))))))) e17_c

end Go.Proofs.YtkghjjgefjjmmaaGreat
