import Derived.Test.YtndgdhbpojakpaaGreatA1
import Derived.Test.YtndgdhbpojakpaaGreatProg
import Derived.Shelf.SlSortCmp.NoneTotal
import Derived.KernelRfl
set_option linter.unusedVariables false
set_option linter.unusedSimpArgs false
set_option linter.defProp false
namespace Go.Proofs.YtndgdhbpojakpaaGreat
open Go.Shelf
def zu:Ren where
 f:=λx=>match x with
  |6=>188
  |15=>249
  |14=>248
  |28=>309
  |29=>310
  |20=>301
  |21=>302
  |22=>303
  |23=>304
  |24=>305
  |25=>306
  |26=>307
  |27=>308
  |46=>350
  |47=>351
  |48=>352
  |49=>353
  |50=>354
  |57=>371
  |n=>n
 t:=λx=>match x with
  |22=>24
  |24=>116
  |25=>292
  |3=>3
  |39=>351
  |0=>0
  |53=>398
  |55=>177
  |4=>4
  |46=>406
  |45=>405
  |50=>321
  |5=>5
  |9=>9
  |66=>453
  |70=>457
  |76=>470
  |77=>471
  |n=>n
 g:=λx=>x
def Qe:SlLaysF0.n6 Tryz.prog zu:={mixed:=Eq.refl true,f6:=⟨"slices.SortFunc[[]peloton/api.Point,peloton/api.Point]",by decide,bT Tryz.func188 (by kernel_rfl)⟩,f14:=⟨"slices.pdqsortCmpFunc[peloton/api.Point]",by decide,bT Tryz.func248 (by kernel_rfl)⟩,f15:=bT Tryz.func249 (aR some (Eq.refl (SlBodyF.n15 zu))),f20:=⟨"slices.insertionSortCmpFunc[peloton/api.Point]",by decide,bT Tryz.func301 (by kernel_rfl)⟩,f21:=⟨"slices.heapSortCmpFunc[peloton/api.Point]",by decide,bT Tryz.func302 (by kernel_rfl)⟩,f22:=⟨"slices.breakPatternsCmpFunc[peloton/api.Point]",by decide,bT Tryz.func303 (by kernel_rfl)⟩,f23:=⟨"slices.choosePivotCmpFunc[peloton/api.Point]",by decide,bT Tryz.func304 (by kernel_rfl)⟩,f24:=⟨"slices.reverseRangeCmpFunc[peloton/api.Point]",by decide,bT Tryz.func305 (by kernel_rfl)⟩,f25:=⟨"slices.partialInsertionSortCmpFunc[peloton/api.Point]",by decide,bT Tryz.func306 (by kernel_rfl)⟩,f26:=⟨"slices.partitionEqualCmpFunc[peloton/api.Point]",by decide,bT Tryz.func307 (by kernel_rfl)⟩,f27:=⟨"slices.partitionCmpFunc[peloton/api.Point]",by decide,bT Tryz.func308 (by kernel_rfl)⟩,f28:=bT Tryz.func309 (aR some (Eq.refl (SlBodyF.n28 zu))),f29:=bT Tryz.func310 (aR some (Eq.refl (SlBodyF.n29 zu))),f46:=⟨"slices.siftDownCmpFunc[peloton/api.Point]",by decide,bT Tryz.func350 (by kernel_rfl)⟩,f47:=bT Tryz.func351 (aR some (Eq.refl (SlBodyF.n47 zu))),f48:=bT Tryz.func352 (aR some (Eq.refl (SlBodyF.n48 zu))),f49:=⟨"slices.medianAdjacentCmpFunc[peloton/api.Point]",by decide,bT Tryz.func353 (by kernel_rfl)⟩,f50:=⟨"slices.medianCmpFunc[peloton/api.Point]",by decide,bT Tryz.func354 (by kernel_rfl)⟩,f57:=⟨"slices.order2CmpFunc[peloton/api.Point]",by decide,bT Tryz.func371 (by kernel_rfl)⟩,t0:=Tryz.underlying0,a0:=Tryz.isAgg0,z0:=Tryz.sizeOf0,v0:=Tryz.zeroValue0,t3:=Tryz.underlying3,a3:=Tryz.isAgg3,z3:=Tryz.sizeOf3,v3:=Tryz.zeroValue3,t4:=Tryz.underlying4,a4:=Tryz.isAgg4,z4:=Tryz.sizeOf4,v4:=Tryz.zeroValue4,t5:=Tryz.underlying5,a5:=Tryz.isAgg5,z5:=Tryz.sizeOf5,v5:=Tryz.zeroValue5,t9:=Tryz.underlying9,a9:=Tryz.isAgg9,z9:=Tryz.sizeOf9,v9:=Tryz.zeroValue9,t22:=Tryz.underlying24,a22:=Tryz.isAgg24,z22:=Tryz.sizeOf24,v22:=Tryz.zeroValue24,t25:=Tryz.underlying292,a25:=Tryz.isAgg292,z25:=Tryz.sizeOf292,v25:=Tryz.zeroValue292,t39:=Tryz.underlying351,a39:=Tryz.isAgg351,z39:=Tryz.sizeOf351,v39:=Tryz.zeroValue351,t45:=Tryz.underlying405,a45:=Tryz.isAgg405,z45:=Tryz.sizeOf405,v45:=Tryz.zeroValue405,t46:=Tryz.underlying406,a46:=Tryz.isAgg406,z46:=Tryz.sizeOf406,v46:=Tryz.zeroValue406,t50:=Tryz.underlying321,a50:=Tryz.isAgg321,z50:=Tryz.sizeOf321,v50:=Tryz.zeroValue321,t53:=Tryz.underlying398,a53:=Tryz.isAgg398,z53:=Tryz.sizeOf398,v53:=Tryz.zeroValue398,t55:=Tryz.underlying177,a55:=Tryz.isAgg177,z55:=Tryz.sizeOf177,v55:=Tryz.zeroValue177,t66:=Tryz.underlying453,a66:=Tryz.isAgg453,z66:=Tryz.sizeOf453,v66:=Tryz.zeroValue453,t70:=Tryz.underlying457,a70:=Tryz.isAgg457,z70:=Tryz.sizeOf457,v70:=Tryz.zeroValue457,t76:=Tryz.underlying470,a76:=Tryz.isAgg470,z76:=Tryz.sizeOf470,v76:=Tryz.zeroValue470,t77:=Tryz.underlying471,a77:=Tryz.isAgg471,z77:=Tryz.sizeOf471,v77:=Tryz.zeroValue471}
end Go.Proofs.YtndgdhbpojakpaaGreat
