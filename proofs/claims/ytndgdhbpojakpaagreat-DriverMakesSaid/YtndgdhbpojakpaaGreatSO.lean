import Derived.Test.YtndgdhbpojakpaaGreatProg
import Derived.Ground.NamesProg
import Derived.Shelf.Lay
import Derived.Shelf.Lays
import Derived.Lib.Walk
import Derived.LoopN
import Derived.KernelRfl
import Derived.Lib.Small
import Derived.Lib.BitFns
import Derived.Shelf.Sort.Plain
import Derived.Test.YtndgdhbpojakpaaGreatM3
set_option linter.unusedVariables false
set_option linter.unusedSimpArgs false
set_option linter.defProp false
namespace Go.Proofs.YtndgdhbpojakpaaGreat
open Go.Shelf
def ek:Ren where
 f:=λx=>match x with
  |189=>208
  |125=>249
  |257=>275
  |128=>309
  |129=>310
  |294=>327
  |295=>328
  |296=>329
  |297=>330
  |298=>331
  |299=>332
  |216=>333
  |300=>334
  |301=>335
  |328=>362
  |329=>351
  |330=>352
  |331=>363
  |332=>364
  |215=>284
  |343=>372
  |n=>n
 t:=λx=>match x with
  |28=>30
  |3=>3
  |46=>351
  |0=>0
  |51=>398
  |53=>177
  |4=>4
  |183=>406
  |182=>405
  |131=>321
  |5=>5
  |9=>9
  |218=>453
  |222=>457
  |228=>470
  |229=>471
  |n=>n
 g:=λx=>x
def Ry:Lays.n189 Tryz.prog ek:={mixed:=Eq.refl true,f125:=bT Tryz.func249 (aR some (Eq.refl (Body.n125 ek))),f128:=bT Tryz.func309 (aR some (Eq.refl (Body.n128 ek))),f129:=bT Tryz.func310 (aR some (Eq.refl (Body.n129 ek))),f189:=bT Tryz.func208 (aR some (Eq.refl (Body.n189 ek))),f215:=bT Tryz.func284 (aR some (Eq.refl (Body.n215 ek))),f216:=bT Tryz.func333 (aR some (Eq.refl (Body.n216 ek))),f257:=bT Tryz.func275 (aR some (Eq.refl (Body.n257 ek))),f294:=bT Tryz.func327 (aR some (Eq.refl (Body.n294 ek))),f295:=bT Tryz.func328 (aR some (Eq.refl (Body.n295 ek))),f296:=bT Tryz.func329 (aR some (Eq.refl (Body.n296 ek))),f297:=bT Tryz.func330 (aR some (Eq.refl (Body.n297 ek))),f298:=bT Tryz.func331 (aR some (Eq.refl (Body.n298 ek))),f299:=bT Tryz.func332 (aR some (Eq.refl (Body.n299 ek))),f300:=bT Tryz.func334 (aR some (Eq.refl (Body.n300 ek))),f301:=bT Tryz.func335 (aR some (Eq.refl (Body.n301 ek))),f328:=bT Tryz.func362 (aR some (Eq.refl (Body.n328 ek))),f329:=bT Tryz.func351 (aR some (Eq.refl (Body.n329 ek))),f330:=bT Tryz.func352 (aR some (Eq.refl (Body.n330 ek))),f331:=bT Tryz.func363 (aR some (Eq.refl (Body.n331 ek))),f332:=bT Tryz.func364 (aR some (Eq.refl (Body.n332 ek))),f343:=bT Tryz.func372 (aR some (Eq.refl (Body.n343 ek))),t0:=Tryz.underlying0,a0:=Tryz.isAgg0,z0:=Tryz.sizeOf0,v0:=Tryz.zeroValue0,t3:=Tryz.underlying3,a3:=Tryz.isAgg3,z3:=Tryz.sizeOf3,v3:=Tryz.zeroValue3,t4:=Tryz.underlying4,a4:=Tryz.isAgg4,z4:=Tryz.sizeOf4,v4:=Tryz.zeroValue4,t5:=Tryz.underlying5,a5:=Tryz.isAgg5,z5:=Tryz.sizeOf5,v5:=Tryz.zeroValue5,t9:=Tryz.underlying9,a9:=Tryz.isAgg9,z9:=Tryz.sizeOf9,v9:=Tryz.zeroValue9,t28:=Tryz.underlying30,a28:=Tryz.isAgg30,z28:=Tryz.sizeOf30,v28:=Tryz.zeroValue30,t46:=Tryz.underlying351,a46:=Tryz.isAgg351,z46:=Tryz.sizeOf351,v46:=Tryz.zeroValue351,t51:=Tryz.underlying398,a51:=Tryz.isAgg398,z51:=Tryz.sizeOf398,v51:=Tryz.zeroValue398,t53:=Tryz.underlying177,a53:=Tryz.isAgg177,z53:=Tryz.sizeOf177,v53:=Tryz.zeroValue177,t131:=Tryz.underlying321,a131:=Tryz.isAgg321,z131:=Tryz.sizeOf321,v131:=Tryz.zeroValue321,t182:=Tryz.underlying405,a182:=Tryz.isAgg405,z182:=Tryz.sizeOf405,v182:=Tryz.zeroValue405,t183:=Tryz.underlying406,a183:=Tryz.isAgg406,z183:=Tryz.sizeOf406,v183:=Tryz.zeroValue406,t218:=Tryz.underlying453,a218:=Tryz.isAgg453,z218:=Tryz.sizeOf453,v218:=Tryz.zeroValue453,t222:=Tryz.underlying457,a222:=Tryz.isAgg457,z222:=Tryz.sizeOf457,v222:=Tryz.zeroValue457,t228:=Tryz.underlying470,a228:=Tryz.isAgg470,z228:=Tryz.sizeOf470,v228:=Tryz.zeroValue470,t229:=Tryz.underlying471,a229:=Tryz.isAgg471,z229:=Tryz.sizeOf471,v229:=Tryz.zeroValue471}
set_option maxRecDepth 100000 in
def Rz (w:World):Calls Tryz.prog 310 #[.int .u64 0] w λe w'=>e= .returned (.int .i64 0)/\ w'=w:=by
 go_enter Tryz.func310,Tryz.ntmps310
 go_wp2
 go_ret
 refine⟨aR Ending.returned (aR (Value.int IntKind.i64) ?_),rfl⟩;rw[Lib.len8_of 0 (by omega) (by omega)]
 first|rfl|kernel_rfl|decide+kernel
set_option maxRecDepth 100000 in
def aaK (w:World):Calls Tryz.prog 249 #[.int .u64 0] w λe w'=>e= .returned (.int .i64 0)/\ w'=w:=by
 go_enter Tryz.func249,Tryz.ntmps249
 go_wp2_with (go_at_call 310;refine(Rz _).mono ?_;rintro e w' ⟨rfl,rfl⟩)
 go_ret
 exact⟨rfl,rfl⟩
def aaL (p:Option Addr)(cap:Nat)(w:World):
  Calls Tryz.prog 327 #[.slice p 0 cap,.int .i64 0,.int .i64 0] w λe w'=>e= .returned (.tuple #[])/\ w'=w:=by
 go_enter Tryz.func327,Tryz.ntmps327
 go_wp2
 refine wp_loop_rounds 1 ?_;rw[rounds_succ]
 go_wp2
 go_end0
 exact⟨rfl,rfl⟩
set_option maxRecDepth 100000 in
def aaM (p:Option Addr)(cap:Nat)(w:World):
  Calls Tryz.prog 275 #[.slice p 0 cap,.int .i64 0,.int .i64 0,.int .i64 0] w λe w'=>e= .returned (.tuple #[])/\ w'=w:=by
 go_enter Tryz.func275,Tryz.ntmps275
 go_wp2
 refine wp_loop_rounds 1 ?_;rw[rounds_succ]
 go_wp2_with (first|(go_at_call 327;refine(aaL p cap _).mono ?_;rintro e w' ⟨rfl,rfl⟩))
 refine bodyPost_ret (results_none rfl _ _ _) rfl ?_;exact⟨rfl,rfl⟩
set_option maxRecDepth 100000 in
def Zj (p:Option Addr)(cap:Nat)(w:World):
  Calls Tryz.prog 208 #[.slice p 0 cap] w λe w'=>e= .returned (.tuple #[])/\ w'=w:=by
 go_enter Tryz.func208,Tryz.ntmps208
 go_wp2_with (first
  |(go_at_call 249;refine(aaK _).mono ?_;rintro e w' ⟨rfl,rfl⟩)
  |(go_at_call 275;refine(aaM p cap _).mono ?_;rintro e w' ⟨rfl,rfl⟩))
 go_end0
 exact⟨rfl,rfl⟩
def In:Go.Sym.SortN Tryz.prog 208:=Zj
def Io:Go.Sym.SortC Tryz.prog 208:=λblk cap zs w hH hb hs=>Any.slices_Sort_int Ry blk 0 cap zs w hH hb hs
#print axioms Io
#print axioms In
end Go.Proofs.YtndgdhbpojakpaaGreat
