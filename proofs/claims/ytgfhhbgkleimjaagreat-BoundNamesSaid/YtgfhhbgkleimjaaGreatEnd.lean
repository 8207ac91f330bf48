/- The law BoundNames holds: called with nothing, it returns true, and leaves memory as it was. No condition is set. -/
import Derived.Test.YtgfhhbgkleimjaaGreatRows
import Derived.Test.YtgfhhbgkleimjaaGreatE1
import Derived.Test.YtgfhhbgkleimjaaGreatE2
import Derived.Test.YtgfhhbgkleimjaaGreatE3
import Derived.Test.YtgfhhbgkleimjaaGreatE4
import Derived.Test.YtgfhhbgkleimjaaGreatE5
import Derived.Test.YtgfhhbgkleimjaaGreatE6
import Derived.Test.YtgfhhbgkleimjaaGreatE7
import Derived.Test.YtgfhhbgkleimjaaGreatE8
import Derived.Test.YtgfhhbgkleimjaaGreatE9
import Derived.Test.YtgfhhbgkleimjaaGreatE10
import Derived.Test.YtgfhhbgkleimjaaGreatE11
import Derived.Test.YtgfhhbgkleimjaaGreatE12
import Derived.Test.YtgfhhbgkleimjaaGreatE13
import Derived.Test.YtgfhhbgkleimjaaGreatE14
import Derived.Test.YtgfhhbgkleimjaaGreatE15
import Derived.Test.YtgfhhbgkleimjaaGreatE16
import Derived.Test.YtgfhhbgkleimjaaGreatE17
import Derived.Test.YtgfhhbgkleimjaaGreatE18
import Derived.Test.YtgfhhbgkleimjaaGreatE19
import Derived.ProofKit
namespace Go.Proofs.YtgfhhbgkleimjaaGreat

theorem e0_ok : Ok e0 := ent (nil) e0_c
theorem e1_ok : Ok e1 := ent (nil) e1_c
theorem e2_ok : Ok e2 := ent (cons e1_ok nil) e2_c
theorem e3_ok : Ok e3 := ent (nil) e3_c
theorem e4_ok : Ok e4 := ent (nil) e4_c
theorem e5_ok : Ok e5 := ent (cons e3_ok (cons e4_ok nil)) e5_c
theorem e6_ok : Ok e6 := ent (nil) e6_c
theorem e7_ok : Ok e7 := ent (cons e6_ok nil) e7_c
theorem e8_ok : Ok e8 := ent (cons e7_ok nil) e8_c
theorem e9_ok : Ok e9 := ent (cons e8_ok nil) e9_c
theorem e10_ok : Ok e10 := ent (nil) e10_c
theorem e11_ok : Ok e11 := ent (nil) e11_c
theorem e12_ok : Ok e12 := ent (nil) e12_c
theorem e13_ok : Ok e13 := ent (cons e6_ok nil) e13_c
theorem e14_ok : Ok e14 := ent (cons e13_ok nil) e14_c
theorem e15_ok : Ok e15 := ent (cons e14_ok nil) e15_c
theorem e16_ok : Ok e16 := ent (nil) e16_c
theorem e17_ok : Ok e17 := ent (cons e16_ok nil) e17_c
theorem e18_ok : Ok e18 := ent (cons e15_ok (cons e17_ok (cons e14_ok (cons e13_ok nil)))) e18_c
theorem e19_ok : Ok e19 := ent (cons e6_ok nil) e19_c
theorem e20_ok : Ok e20 := ent (cons e19_ok nil) e20_c
theorem e21_ok : Ok e21 := ent (cons e20_ok (cons e17_ok nil)) e21_c
theorem e22_ok : Ok e22 := ent (nil) e22_c
theorem e23_ok : Ok e23 := ent (cons e22_ok nil) e23_c
theorem e24_ok : Ok e24 := ent (nil) e24_c
theorem e25_ok : Ok e25 := ent (cons e20_ok (cons e19_ok (cons e24_ok nil))) e25_c
theorem e26_ok : Ok e26 := ent (cons e21_ok (cons e23_ok (cons e25_ok nil))) e26_c
theorem e27_ok : Ok e27 := ent (cons e9_ok (cons e10_ok (cons e11_ok (cons e12_ok (cons e18_ok (cons e26_ok nil)))))) e27_c
theorem e28_ok : Ok e28 := ent (cons e2_ok (cons e5_ok (cons e27_ok nil))) e28_c
theorem e29_ok : Ok e29 := ent (cons e6_ok nil) e29_c
theorem e30_ok : Ok e30 := ent (cons e29_ok (cons e24_ok nil)) e30_c
theorem e31_ok : Ok e31 := ent (cons e30_ok (cons e17_ok (cons e23_ok nil))) e31_c
theorem e32_ok : Ok e32 := ent (cons e3_ok (cons e4_ok nil)) e32_c
theorem e33_ok : Ok e33 := ent (cons e31_ok (cons e32_ok nil)) e33_c
theorem e34_ok : Ok e34 := ent (cons e33_ok nil) e34_c
theorem e35_ok : Ok e35 := ent (nil) e35_c
theorem e36_ok : Ok e36 := ent (nil) e36_c
theorem e37_ok : Ok e37 := ent (nil) e37_c
theorem e38_ok : Ok e38 := ent (cons e35_ok (cons e36_ok (cons e37_ok nil))) e38_c
theorem e39_ok : Ok e39 := ent (cons e37_ok nil) e39_c
theorem e40_ok : Ok e40 := ent (cons e21_ok (cons e39_ok nil)) e40_c
theorem e41_ok : Ok e41 := ent (cons e9_ok (cons e10_ok (cons e11_ok (cons e12_ok (cons e18_ok (cons e40_ok nil)))))) e41_c
theorem e42_ok : Ok e42 := ent (cons e20_ok (cons e17_ok (cons e39_ok nil))) e42_c
theorem e43_ok : Ok e43 := ent (cons e35_ok (cons e36_ok (cons e37_ok nil))) e43_c
theorem e44_ok : Ok e44 := ent (cons e42_ok (cons e43_ok nil)) e44_c
theorem e45_ok : Ok e45 := ent (cons e42_ok (cons e43_ok nil)) e45_c
theorem e46_ok : Ok e46 := ent (cons e2_ok (cons e38_ok (cons e41_ok (cons e44_ok (cons e45_ok nil))))) e46_c
theorem e47_ok : Ok e47 := ent (cons e2_ok (cons e38_ok (cons e41_ok (cons e44_ok nil)))) e47_c
theorem e48_ok : Ok e48 := ent (nil) e48_c
theorem e49_ok : Ok e49 := ent (cons e1_ok nil) e49_c
theorem e50_ok : Ok e50 := ent (nil) e50_c
theorem e51_ok : Ok e51 := ent (nil) e51_c
theorem e52_ok : Ok e52 := ent (cons e8_ok nil) e52_c
theorem e53_ok : Ok e53 := ent (cons e50_ok nil) e53_c
theorem e54_ok : Ok e54 := ent (cons e52_ok (cons e53_ok nil)) e54_c
theorem e55_ok : Ok e55 := ent (cons e14_ok (cons e53_ok nil)) e55_c
theorem e56_ok : Ok e56 := ent (nil) e56_c
theorem e57_ok : Ok e57 := ent (cons e56_ok nil) e57_c
theorem e58_ok : Ok e58 := ent (cons e55_ok (cons e57_ok nil)) e58_c
theorem e59_ok : Ok e59 := ent (cons e49_ok (cons e11_ok (cons e10_ok (cons e50_ok (cons e12_ok (cons e51_ok (cons e54_ok (cons e58_ok nil)))))))) e59_c
theorem e60_ok : Ok e60 := ent (cons e14_ok (cons e53_ok (cons e57_ok nil))) e60_c
theorem e61_ok : Ok e61 := ent (nil) e61_c
theorem e62_ok : Ok e62 := ent (nil) e62_c
theorem e63_ok : Ok e63 := ent (nil) e63_c
theorem e64_ok : Ok e64 := ent (nil) e64_c
theorem e65_ok : Ok e65 := ent (nil) e65_c
theorem e66_ok : Ok e66 := ent (cons e60_ok (cons e61_ok (cons e62_ok (cons e63_ok (cons e64_ok (cons e65_ok nil)))))) e66_c
theorem e67_ok : Ok e67 := ent (cons e66_ok nil) e67_c
theorem e68_ok : Ok e68 := ent (nil) e68_c
theorem e69_ok : Ok e69 := ent (cons e66_ok (cons e68_ok (cons e60_ok (cons e14_ok nil)))) e69_c
theorem e70_ok : Ok e70 := ent (cons e59_ok (cons e67_ok (cons e69_ok nil))) e70_c
theorem e71_ok : Ok e71 := ent (cons e9_ok (cons e17_ok (cons e8_ok (cons e7_ok nil)))) e71_c
theorem e72_ok : Ok e72 := ent (cons e2_ok (cons e11_ok (cons e10_ok (cons e35_ok (cons e12_ok (cons e36_ok (cons e71_ok (cons e26_ok nil)))))))) e72_c
theorem e73_ok : Ok e73 := ent (cons e31_ok (cons e62_ok (cons e61_ok (cons e35_ok (cons e64_ok (cons e4_ok nil)))))) e73_c
theorem e74_ok : Ok e74 := ent (cons e73_ok nil) e74_c
theorem e75_ok : Ok e75 := ent (nil) e75_c
theorem e76_ok : Ok e76 := ent (nil) e76_c
theorem e77_ok : Ok e77 := ent (nil) e77_c
theorem e78_ok : Ok e78 := ent (cons e30_ok (cons e29_ok nil)) e78_c
theorem e79_ok : Ok e79 := ent (cons e77_ok (cons e78_ok nil)) e79_c
theorem e80_ok : Ok e80 := ent (cons e6_ok nil) e80_c
theorem e81_ok : Ok e81 := ent (cons e80_ok nil) e81_c
theorem e82_ok : Ok e82 := ent (nil) e82_c
theorem e83_ok : Ok e83 := ent (cons e82_ok nil) e83_c
theorem e84_ok : Ok e84 := ent (cons e81_ok (cons e83_ok nil)) e84_c
theorem e85_ok : Ok e85 := ent (cons e81_ok (cons e80_ok nil)) e85_c
theorem e86_ok : Ok e86 := ent (cons e85_ok nil) e86_c
theorem e87_ok : Ok e87 := ent (cons e6_ok nil) e87_c
theorem e88_ok : Ok e88 := ent (cons e87_ok nil) e88_c
theorem e89_ok : Ok e89 := ent (cons e88_ok nil) e89_c
theorem e90_ok : Ok e90 := ent (cons e89_ok (cons e53_ok nil)) e90_c
theorem e91_ok : Ok e91 := ent (cons e87_ok nil) e91_c
theorem e92_ok : Ok e92 := ent (cons e91_ok (cons e53_ok nil)) e92_c
theorem e93_ok : Ok e93 := ent (cons e92_ok (cons e57_ok nil)) e93_c
theorem e94_ok : Ok e94 := ent (cons e31_ok (cons e75_ok (cons e30_ok (cons e76_ok (cons e79_ok (cons e84_ok (cons e86_ok (cons e90_ok (cons e93_ok nil))))))))) e94_c
theorem e95_ok : Ok e95 := ent (cons e91_ok (cons e53_ok (cons e57_ok nil))) e95_c
theorem e96_ok : Ok e96 := ent (cons e73_ok (cons e75_ok (cons e94_ok (cons e95_ok (cons e24_ok (cons e91_ok nil)))))) e96_c
theorem e97_ok : Ok e97 := ent (nil) e97_c
theorem e98_ok : Ok e98 := ent (cons e97_ok nil) e98_c
theorem e99_ok : Ok e99 := ent (nil) e99_c
theorem e100_ok : Ok e100 := ent (cons e99_ok (cons e24_ok nil)) e100_c
theorem e101_ok : Ok e101 := ent (nil) e101_c
theorem e102_ok : Ok e102 := ent (nil) e102_c
theorem e103_ok : Ok e103 := ent (nil) e103_c
theorem e104_ok : Ok e104 := ent (cons e98_ok (cons e100_ok (cons e101_ok (cons e102_ok (cons e76_ok (cons e103_ok nil)))))) e104_c
theorem e105_ok : Ok e105 := ent (cons e72_ok (cons e74_ok (cons e96_ok (cons e104_ok nil)))) e105_c
theorem e106_ok : Ok e106 := ent (nil) e106_c
theorem e107_ok : Ok e107 := ent (cons e3_ok nil) e107_c
theorem e108_ok : Ok e108 := ent (cons e4_ok nil) e108_c
theorem e109_ok : Ok e109 := ent (cons e106_ok (cons e107_ok (cons e108_ok nil))) e109_c
theorem e110_ok : Ok e110 := ent (cons e15_ok (cons e23_ok (cons e14_ok (cons e13_ok nil)))) e110_c
theorem e111_ok : Ok e111 := ent (cons e19_ok nil) e111_c
theorem e112_ok : Ok e112 := ent (cons e111_ok (cons e23_ok nil)) e112_c
theorem e113_ok : Ok e113 := ent (cons e111_ok (cons e19_ok (cons e76_ok (cons e24_ok nil)))) e113_c
theorem e114_ok : Ok e114 := ent (cons e112_ok (cons e17_ok (cons e113_ok nil))) e114_c
theorem e115_ok : Ok e115 := ent (cons e9_ok (cons e12_ok (cons e11_ok (cons e10_ok (cons e110_ok (cons e114_ok nil)))))) e115_c
theorem e116_ok : Ok e116 := ent (cons e2_ok (cons e109_ok (cons e115_ok nil))) e116_c
theorem e117_ok : Ok e117 := ent (cons e29_ok (cons e24_ok nil)) e117_c
theorem e118_ok : Ok e118 := ent (cons e117_ok (cons e23_ok (cons e17_ok nil))) e118_c
theorem e119_ok : Ok e119 := ent (nil) e119_c
theorem e120_ok : Ok e120 := ent (nil) e120_c
theorem e121_ok : Ok e121 := ent (cons e3_ok nil) e121_c
theorem e122_ok : Ok e122 := ent (cons e4_ok nil) e122_c
theorem e123_ok : Ok e123 := ent (cons e120_ok (cons e121_ok (cons e122_ok nil))) e123_c
theorem e124_ok : Ok e124 := ent (cons e118_ok (cons e119_ok (cons e123_ok nil))) e124_c
theorem e125_ok : Ok e125 := ent (cons e124_ok nil) e125_c
theorem e126_ok : Ok e126 := ent (nil) e126_c
theorem e127_ok : Ok e127 := ent (cons e117_ok (cons e29_ok nil)) e127_c
theorem e128_ok : Ok e128 := ent (cons e126_ok (cons e127_ok nil)) e128_c
theorem e129_ok : Ok e129 := ent (cons e63_ok nil) e129_c
theorem e130_ok : Ok e130 := ent (cons e65_ok nil) e130_c
theorem e131_ok : Ok e131 := ent (cons e120_ok (cons e129_ok (cons e130_ok nil))) e131_c
theorem e132_ok : Ok e132 := ent (cons e6_ok nil) e132_c
theorem e133_ok : Ok e133 := ent (cons e132_ok nil) e133_c
theorem e134_ok : Ok e134 := ent (cons e133_ok (cons e83_ok nil)) e134_c
theorem e135_ok : Ok e135 := ent (cons e132_ok nil) e135_c
theorem e136_ok : Ok e136 := ent (cons e135_ok (cons e83_ok nil)) e136_c
theorem e137_ok : Ok e137 := ent (cons e135_ok (cons e132_ok nil)) e137_c
theorem e138_ok : Ok e138 := ent (cons e137_ok nil) e138_c
theorem e139_ok : Ok e139 := ent (cons e6_ok nil) e139_c
theorem e140_ok : Ok e140 := ent (cons e139_ok nil) e140_c
theorem e141_ok : Ok e141 := ent (cons e140_ok nil) e141_c
theorem e142_ok : Ok e142 := ent (cons e141_ok (cons e57_ok nil)) e142_c
theorem e143_ok : Ok e143 := ent (cons e139_ok nil) e143_c
theorem e144_ok : Ok e144 := ent (cons e143_ok (cons e57_ok nil)) e144_c
theorem e145_ok : Ok e145 := ent (cons e144_ok (cons e53_ok nil)) e145_c
theorem e146_ok : Ok e146 := ent (cons e134_ok (cons e64_ok (cons e61_ok (cons e62_ok (cons e136_ok (cons e138_ok (cons e142_ok (cons e145_ok nil)))))))) e146_c
theorem e147_ok : Ok e147 := ent (cons e143_ok (cons e57_ok (cons e53_ok nil))) e147_c
theorem e148_ok : Ok e148 := ent (nil) e148_c
theorem e149_ok : Ok e149 := ent (cons e148_ok nil) e149_c
theorem e150_ok : Ok e150 := ent (nil) e150_c
theorem e151_ok : Ok e151 := ent (cons e150_ok nil) e151_c
theorem e152_ok : Ok e152 := ent (cons e120_ok (cons e149_ok (cons e151_ok nil))) e152_c
theorem e153_ok : Ok e153 := ent (cons e124_ok (cons e75_ok (cons e118_ok (cons e117_ok (cons e76_ok (cons e128_ok (cons e131_ok (cons e146_ok (cons e147_ok (cons e24_ok (cons e143_ok (cons e152_ok nil)))))))))))) e153_c
theorem e154_ok : Ok e154 := ent (cons e116_ok (cons e125_ok (cons e153_ok (cons e104_ok nil)))) e154_c
theorem e155_ok : Ok e155 := ent (nil) e155_c
theorem e156_ok : Ok e156 := ent (cons e63_ok (cons e155_ok nil)) e156_c
theorem e157_ok : Ok e157 := ent (cons e80_ok nil) e157_c
theorem e158_ok : Ok e158 := ent (cons e157_ok (cons e83_ok nil)) e158_c
theorem e159_ok : Ok e159 := ent (cons e158_ok (cons e53_ok nil)) e159_c
theorem e160_ok : Ok e160 := ent (cons e84_ok (cons e62_ok (cons e61_ok (cons e64_ok (cons e159_ok nil))))) e160_c
theorem e161_ok : Ok e161 := ent (cons e157_ok (cons e83_ok (cons e53_ok nil))) e161_c
theorem e162_ok : Ok e162 := ent (nil) e162_c
theorem e163_ok : Ok e163 := ent (cons e157_ok (cons e80_ok nil)) e163_c
theorem e164_ok : Ok e164 := ent (cons e162_ok (cons e163_ok nil)) e164_c
theorem e165_ok : Ok e165 := ent (nil) e165_c
theorem e166_ok : Ok e166 := ent (cons e148_ok (cons e165_ok (cons e150_ok nil))) e166_c
theorem e167_ok : Ok e167 := ent (nil) e167_c
theorem e168_ok : Ok e168 := ent (cons e167_ok nil) e168_c
theorem e169_ok : Ok e169 := ent (cons e88_ok (cons e168_ok nil)) e169_c
theorem e170_ok : Ok e170 := ent (cons e91_ok (cons e168_ok nil)) e170_c
theorem e171_ok : Ok e171 := ent (nil) e171_c
theorem e172_ok : Ok e172 := ent (cons e91_ok nil) e172_c
theorem e173_ok : Ok e173 := ent (cons e165_ok nil) e173_c
theorem e174_ok : Ok e174 := ent (cons e172_ok (cons e173_ok nil)) e174_c
theorem e175_ok : Ok e175 := ent (cons e91_ok (cons e173_ok nil)) e175_c
theorem e176_ok : Ok e176 := ent (nil) e176_c
theorem e177_ok : Ok e177 := ent (cons e176_ok nil) e177_c
theorem e178_ok : Ok e178 := ent (cons e175_ok (cons e177_ok nil)) e178_c
theorem e179_ok : Ok e179 := ent (cons e169_ok (cons e62_ok (cons e64_ok (cons e61_ok (cons e170_ok (cons e171_ok (cons e174_ok (cons e178_ok nil)))))))) e179_c
theorem e180_ok : Ok e180 := ent (cons e91_ok (cons e173_ok (cons e177_ok nil))) e180_c
theorem e181_ok : Ok e181 := ent (cons e33_ok (cons e75_ok (cons e31_ok (cons e30_ok (cons e76_ok (cons e79_ok (cons e156_ok (cons e160_ok (cons e161_ok (cons e24_ok (cons e157_ok (cons e103_ok (cons e164_ok (cons e166_ok (cons e179_ok (cons e180_ok (cons e91_ok nil))))))))))))))))) e181_c
theorem e182_ok : Ok e182 := ent (nil) e182_c
theorem e183_ok : Ok e183 := ent (cons e20_ok (cons e19_ok nil)) e183_c
theorem e184_ok : Ok e184 := ent (cons e182_ok (cons e183_ok nil)) e184_c
theorem e185_ok : Ok e185 := ent (cons e50_ok (cons e51_ok nil)) e185_c
theorem e186_ok : Ok e186 := ent (cons e6_ok nil) e186_c
theorem e187_ok : Ok e187 := ent (cons e186_ok nil) e187_c
theorem e188_ok : Ok e188 := ent (cons e187_ok (cons e57_ok nil)) e188_c
theorem e189_ok : Ok e189 := ent (cons e186_ok nil) e189_c
theorem e190_ok : Ok e190 := ent (cons e189_ok (cons e57_ok nil)) e190_c
theorem e191_ok : Ok e191 := ent (cons e190_ok (cons e53_ok nil)) e191_c
theorem e192_ok : Ok e192 := ent (cons e188_ok (cons e62_ok (cons e61_ok (cons e64_ok (cons e191_ok nil))))) e192_c
theorem e193_ok : Ok e193 := ent (cons e189_ok (cons e57_ok (cons e53_ok nil))) e193_c
theorem e194_ok : Ok e194 := ent (nil) e194_c
theorem e195_ok : Ok e195 := ent (nil) e195_c
theorem e196_ok : Ok e196 := ent (cons e194_ok (cons e195_ok nil)) e196_c
theorem e197_ok : Ok e197 := ent (cons e42_ok (cons e43_ok (cons e75_ok (cons e20_ok (cons e76_ok (cons e184_ok (cons e185_ok (cons e192_ok (cons e193_ok (cons e24_ok (cons e189_ok (cons e196_ok nil)))))))))))) e197_c
theorem e198_ok : Ok e198 := ent (cons e2_ok (cons e38_ok (cons e41_ok (cons e44_ok (cons e197_ok nil))))) e198_c
theorem e199_ok : Ok e199 := ent (cons e72_ok (cons e74_ok (cons e96_ok (cons e105_ok (cons e116_ok (cons e125_ok (cons e153_ok (cons e154_ok (cons e28_ok (cons e34_ok (cons e181_ok (cons e104_ok (cons e198_ok nil))))))))))))) e199_c
theorem e200_ok : Ok e200 := ent (cons e0_ok (cons e28_ok (cons e34_ok (cons e46_ok (cons e47_ok (cons e48_ok (cons e70_ok (cons e199_ok nil)))))))) e200_c

end Go.Proofs.YtgfhhbgkleimjaaGreat

namespace Go.Proofs.YtgfhhbgkleimjaaGreat
open Go.ChangeShapes Go.WideShapes Go.ChangeAt Go.RowKit

theorem Tryz.own : ownKnob Tryz.prog.godebug = none := by kernel_rfl

theorem called (W : World) : Calls Tryz.prog 3 #[] W fun ex W' => ex = .returned (.bool true) ∧ RowKit.Below W.heap.size W W' :=
  closed e200_ok rfl rfl rfl W

theorem paramsNone : Tryz.f3.params.toList = [] := by kernel_rfl
theorem resultsOne : Tryz.f3.resultTypes = #[4] := by kernel_rfl
theorem boolType : Tryz.prog.underlying 4 = some .bool := by kernel_rfl

set_option maxRecDepth 100000 in
theorem lifted (os : Os) (started : os.Started) (H : Type) (enc : TypeId × Value → H) :
    ReturnsInHanded {} Tryz.checked os 3 .any (Rows.boundNamesSpec.pre6 enc Tryz.prog Tryz.f3 Rows.boundNamesRow.domain false) (Rows.boundNamesSpec.post enc Tryz.prog Tryz.f3 false true false false) := by
  refine returnsInHanded_of_change (C := Tryz.checked) Tryz.own started (by kernel_rfl) Tryz.func3
    (ChangeSpec.witness6 (enc := enc) (C := Tryz.checked) false ⟨#[], #[], []⟩ 8 (by kernel_rfl) (by kernel_rfl) (by kernel_rfl) (by kernel_rfl)) ?_
  intro W base args ds gs before hval0 hW hcnd _
  have hW' := hW
  obtain ⟨p, q, hA0, hV, rfl, hfz, hnd⟩ := hW
  have hA : DataW.TrodAll enc Tryz.prog W 0 (fun _ => true) true Tryz.f3.params.toList args.toList ds p := hA0
  rw [paramsNone] at hA
  obtain ⟨rfl, rfl, rfl⟩ := trodAll_none hA
  obtain ⟨rfl, rfl⟩ := trodVars_none hV
  clear hA0 hval0
  refine (called W).mono fun e W' ⟨he, hb⟩ => ?_
  subst he
  have hres : ∀ (b : Nat) (sp : Nat → Bool) (hd : Bool), DataW.TrodAll enc Tryz.prog W' b sp hd Tryz.f3.resultTypes.toList ((Value.bool true).resultList Tryz.f3.resultTypes.size) [.lit (.bool true)] [] := by
    intro b sp hd
    rw [resultsOne]
    exact trodAll_mk1 (shut_bool boolType true)
  have hargs : ∀ (sp : Nat → Bool) (hd : Bool), DataW.TrodAll enc Tryz.prog W' 0 sp hd Tryz.f3.params.toList (#[] : Array Value).toList [] [] := by
    intro sp hd
    rw [paramsNone]
    exact trodAll_mk0
  have hvars : ∀ (sp : Nat → Bool), DataW.TrodVars enc Tryz.prog W' sp Rows.boundNamesSpec.vars [] [] := fun sp => rfl
  have hok : ∀ (j : Nat) (t : TypeId) (r : Value), Tryz.f3.resultTypes[j]? = some t → ((Value.bool true).resultList Tryz.f3.resultTypes.size)[j]? = some r → Value.okWide Tryz.prog W' .any 0 t r :=
    ok_one resultsOne rfl (okWide_bool_mk boolType true)
  refine ⟨_, rfl, [], [], [], [], [], [], hW', hres _ _ _, hargs _ _, hvars _, hb.frame _, fun _ => ⟨hok, _, _, [], ⟨[], [], trodAll_append (hargs _ _) (hres _ _ _), hvars _, rfl, ?_, ?_⟩, ?_⟩⟩
  · intro b off hp
    cases hp
  · intro _
    exact List.nodup_nil
  · intro p hp _
    cases hp

theorem and_mk {a b : Bool} (h : a = true) (k : b = true) : (a && b) = true := by rw [h, k]; rfl

set_option maxHeartbeats 400000000 in
theorem cells : joinedFacts Tryz.prog 3 Tryz.f3 Rows.boundNamesSpec Rows.boundNamesRow = true := by
  unfold joinedFacts
  repeat' with_reducible apply and_mk
  all_goals (as_aux_lemma => kernel_rfl)

theorem named : Tryz.prog.funcNamed Rows.boundNamesRow.func = some 3 := by kernel_rfl
theorem noInstance : Tryz.f3.isInstance Tryz.prog Rows.boundNamesRow.origin Rows.boundNamesRow.targs := of_decide_eq_true (by kernel_rfl)
theorem noWrapper : Tryz.f3.isWrapper Tryz.prog Rows.boundNamesRow.wrapper Rows.boundNamesRow.mainSum := by unfold Func.isWrapper; rw [if_neg (by decide +kernel)]; exact ⟨rfl, rfl⟩

theorem boundNames_holds : Rows.BoundNamesSaid :=
  OpenClaim.holds_of_wide 3 Tryz.f3 rfl rfl rfl rfl rfl rfl rfl ⟨rfl, rfl, rfl, rfl, rfl⟩ rfl rfl rfl rfl rfl named Tryz.func3 cells noInstance noWrapper
    (fun os started H enc _ => lifted os started H enc)

end Go.Proofs.YtgfhhbgkleimjaaGreat
