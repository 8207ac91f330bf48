import Derived.Test.YtoeigdpfcnaaeaaGreatA1
import Derived.Test.YtoeigdpfcnaaeaaGreatProg
import Derived.Shelf.SlSortCmp.NoneTotal
import Derived.KernelRfl
set_option linter.unusedVariables false
set_option linter.unusedSimpArgs false
set_option linter.defProp false
namespace Go.Proofs.YtoeigdpfcnaaeaaGreat
open Go.Shelf
def GW:Ren where
 f:=λx=>match x with
  |6=>118
  |15=>218
  |14=>217
  |28=>308
  |29=>309
  |20=>300
  |21=>301
  |22=>302
  |23=>303
  |24=>304
  |25=>305
  |26=>306
  |27=>307
  |46=>384
  |47=>385
  |48=>386
  |49=>387
  |50=>388
  |57=>430
  |n=>n
 t:=λx=>match x with
  |22=>36
  |24=>41
  |25=>195
  |3=>3
  |39=>299
  |0=>0
  |53=>392
  |55=>134
  |4=>4
  |46=>386
  |45=>385
  |50=>196
  |5=>5
  |9=>9
  |66=>462
  |70=>466
  |76=>503
  |77=>30
  |n=>n
 g:=λx=>x
def abl:SlLaysF0.n6 Tryz.prog GW:={mixed:=Eq.refl true,f6:=⟨"slices.SortFunc[[]peloton/api.Meeting,peloton/api.Meeting]",by decide,cj Tryz.func118 (by kernel_rfl)⟩,f14:=⟨"slices.pdqsortCmpFunc[peloton/api.Meeting]",by decide,cj Tryz.func217 (by kernel_rfl)⟩,f15:=cj Tryz.func218 (bc some (Eq.refl (SlBodyF.n15 GW))),f20:=⟨"slices.insertionSortCmpFunc[peloton/api.Meeting]",by decide,cj Tryz.func300 (by kernel_rfl)⟩,f21:=⟨"slices.heapSortCmpFunc[peloton/api.Meeting]",by decide,cj Tryz.func301 (by kernel_rfl)⟩,f22:=⟨"slices.breakPatternsCmpFunc[peloton/api.Meeting]",by decide,cj Tryz.func302 (by kernel_rfl)⟩,f23:=⟨"slices.choosePivotCmpFunc[peloton/api.Meeting]",by decide,cj Tryz.func303 (by kernel_rfl)⟩,f24:=⟨"slices.reverseRangeCmpFunc[peloton/api.Meeting]",by decide,cj Tryz.func304 (by kernel_rfl)⟩,f25:=⟨"slices.partialInsertionSortCmpFunc[peloton/api.Meeting]",by decide,cj Tryz.func305 (by kernel_rfl)⟩,f26:=⟨"slices.partitionEqualCmpFunc[peloton/api.Meeting]",by decide,cj Tryz.func306 (by kernel_rfl)⟩,f27:=⟨"slices.partitionCmpFunc[peloton/api.Meeting]",by decide,cj Tryz.func307 (by kernel_rfl)⟩,f28:=cj Tryz.func308 (bc some (Eq.refl (SlBodyF.n28 GW))),f29:=cj Tryz.func309 (bc some (Eq.refl (SlBodyF.n29 GW))),f46:=⟨"slices.siftDownCmpFunc[peloton/api.Meeting]",by decide,cj Tryz.func384 (by kernel_rfl)⟩,f47:=cj Tryz.func385 (bc some (Eq.refl (SlBodyF.n47 GW))),f48:=cj Tryz.func386 (bc some (Eq.refl (SlBodyF.n48 GW))),f49:=⟨"slices.medianAdjacentCmpFunc[peloton/api.Meeting]",by decide,cj Tryz.func387 (by kernel_rfl)⟩,f50:=⟨"slices.medianCmpFunc[peloton/api.Meeting]",by decide,cj Tryz.func388 (by kernel_rfl)⟩,f57:=⟨"slices.order2CmpFunc[peloton/api.Meeting]",by decide,cj Tryz.func430 (by kernel_rfl)⟩,t0:=Tryz.underlying0,a0:=Tryz.isAgg0,z0:=Tryz.sizeOf0,v0:=Tryz.zeroValue0,t3:=Tryz.underlying3,a3:=Tryz.isAgg3,z3:=Tryz.sizeOf3,v3:=Tryz.zeroValue3,t4:=Tryz.underlying4,a4:=Tryz.isAgg4,z4:=Tryz.sizeOf4,v4:=Tryz.zeroValue4,t5:=Tryz.underlying5,a5:=Tryz.isAgg5,z5:=Tryz.sizeOf5,v5:=Tryz.zeroValue5,t9:=Tryz.underlying9,a9:=Tryz.isAgg9,z9:=Tryz.sizeOf9,v9:=Tryz.zeroValue9,t22:=Tryz.underlying36,a22:=Tryz.isAgg36,z22:=Tryz.sizeOf36,v22:=Tryz.zeroValue36,t25:=Tryz.underlying195,a25:=Tryz.isAgg195,z25:=Tryz.sizeOf195,v25:=Tryz.zeroValue195,t39:=Tryz.underlying299,a39:=Tryz.isAgg299,z39:=Tryz.sizeOf299,v39:=Tryz.zeroValue299,t45:=Tryz.underlying385,a45:=Tryz.isAgg385,z45:=Tryz.sizeOf385,v45:=Tryz.zeroValue385,t46:=Tryz.underlying386,a46:=Tryz.isAgg386,z46:=Tryz.sizeOf386,v46:=Tryz.zeroValue386,t50:=Tryz.underlying196,a50:=Tryz.isAgg196,z50:=Tryz.sizeOf196,v50:=Tryz.zeroValue196,t53:=Tryz.underlying392,a53:=Tryz.isAgg392,z53:=Tryz.sizeOf392,v53:=Tryz.zeroValue392,t55:=Tryz.underlying134,a55:=Tryz.isAgg134,z55:=Tryz.sizeOf134,v55:=Tryz.zeroValue134,t66:=Tryz.underlying462,a66:=Tryz.isAgg462,z66:=Tryz.sizeOf462,v66:=Tryz.zeroValue462,t70:=Tryz.underlying466,a70:=Tryz.isAgg466,z70:=Tryz.sizeOf466,v70:=Tryz.zeroValue466,t76:=Tryz.underlying503,a76:=Tryz.isAgg503,z76:=Tryz.sizeOf503,v76:=Tryz.zeroValue503,t77:=Tryz.underlying30,a77:=Tryz.isAgg30,z77:=Tryz.sizeOf30,v77:=Tryz.zeroValue30}
end Go.Proofs.YtoeigdpfcnaaeaaGreat
