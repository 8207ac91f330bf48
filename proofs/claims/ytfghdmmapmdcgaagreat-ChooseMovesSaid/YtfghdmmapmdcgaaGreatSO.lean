import Derived.Test.YtfghdmmapmdcgaaGreatProg
import Derived.Ground.NamesProg
import Derived.Shelf.Lay
import Derived.Shelf.Lays
import Derived.Lib.Walk
import Derived.LoopN
import Derived.KernelRfl
import Derived.Lib.Small
import Derived.Lib.BitFns
import Derived.Shelf.Sort.Plain
import Derived.Test.YtfghdmmapmdcgaaGreatM3
set_option linter.unusedVariables false
set_option linter.unusedSimpArgs false
set_option linter.defProp false
namespace Go.Proofs.YtfghdmmapmdcgaaGreat
open Go.Shelf
def db:Ren where
 f:=fun x=>match x with
  |189=>160
  |125=>255
  |257=>254
  |128=>342
  |129=>343
  |294=>333
  |295=>334
  |296=>335
  |297=>336
  |298=>337
  |299=>338
  |216=>339
  |300=>340
  |301=>341
  |328=>390
  |329=>391
  |330=>392
  |331=>393
  |332=>394
  |215=>395
  |343=>418
  |n=>n
 t:=fun x=>match x with
  |28=>30
  |3=>3
  |46=>329
  |0=>0
  |51=>412
  |53=>176
  |4=>4
  |183=>406
  |182=>405
  |131=>343
  |5=>5
  |9=>9
  |218=>458
  |222=>462
  |228=>484
  |229=>59
  |n=>n
 g:=fun x=>x
theorem O5:Lays.n189 Tryz.prog db:={mixed:=Eq.refl true,f125:=bP Tryz.func255 (congrArg some (Eq.refl (Body.n125 db))),f128:=bP Tryz.func342 (congrArg some (Eq.refl (Body.n128 db))),f129:=bP Tryz.func343 (congrArg some (Eq.refl (Body.n129 db))),f189:=bP Tryz.func160 (congrArg some (Eq.refl (Body.n189 db))),f215:=bP Tryz.func395 (congrArg some (Eq.refl (Body.n215 db))),f216:=bP Tryz.func339 (congrArg some (Eq.refl (Body.n216 db))),f257:=bP Tryz.func254 (congrArg some (Eq.refl (Body.n257 db))),f294:=bP Tryz.func333 (congrArg some (Eq.refl (Body.n294 db))),f295:=bP Tryz.func334 (congrArg some (Eq.refl (Body.n295 db))),f296:=bP Tryz.func335 (congrArg some (Eq.refl (Body.n296 db))),f297:=bP Tryz.func336 (congrArg some (Eq.refl (Body.n297 db))),f298:=bP Tryz.func337 (congrArg some (Eq.refl (Body.n298 db))),f299:=bP Tryz.func338 (congrArg some (Eq.refl (Body.n299 db))),f300:=bP Tryz.func340 (congrArg some (Eq.refl (Body.n300 db))),f301:=bP Tryz.func341 (congrArg some (Eq.refl (Body.n301 db))),f328:=bP Tryz.func390 (congrArg some (Eq.refl (Body.n328 db))),f329:=bP Tryz.func391 (congrArg some (Eq.refl (Body.n329 db))),f330:=bP Tryz.func392 (congrArg some (Eq.refl (Body.n330 db))),f331:=bP Tryz.func393 (congrArg some (Eq.refl (Body.n331 db))),f332:=bP Tryz.func394 (congrArg some (Eq.refl (Body.n332 db))),f343:=bP Tryz.func418 (congrArg some (Eq.refl (Body.n343 db))),t0:=Tryz.underlying0,a0:=Tryz.isAgg0,z0:=Tryz.sizeOf0,v0:=Tryz.zeroValue0,t3:=Tryz.underlying3,a3:=Tryz.isAgg3,z3:=Tryz.sizeOf3,v3:=Tryz.zeroValue3,t4:=Tryz.underlying4,a4:=Tryz.isAgg4,z4:=Tryz.sizeOf4,v4:=Tryz.zeroValue4,t5:=Tryz.underlying5,a5:=Tryz.isAgg5,z5:=Tryz.sizeOf5,v5:=Tryz.zeroValue5,t9:=Tryz.underlying9,a9:=Tryz.isAgg9,z9:=Tryz.sizeOf9,v9:=Tryz.zeroValue9,t28:=Tryz.underlying30,a28:=Tryz.isAgg30,z28:=Tryz.sizeOf30,v28:=Tryz.zeroValue30,t46:=Tryz.underlying329,a46:=Tryz.isAgg329,z46:=Tryz.sizeOf329,v46:=Tryz.zeroValue329,t51:=Tryz.underlying412,a51:=Tryz.isAgg412,z51:=Tryz.sizeOf412,v51:=Tryz.zeroValue412,t53:=Tryz.underlying176,a53:=Tryz.isAgg176,z53:=Tryz.sizeOf176,v53:=Tryz.zeroValue176,t131:=Tryz.underlying343,a131:=Tryz.isAgg343,z131:=Tryz.sizeOf343,v131:=Tryz.zeroValue343,t182:=Tryz.underlying405,a182:=Tryz.isAgg405,z182:=Tryz.sizeOf405,v182:=Tryz.zeroValue405,t183:=Tryz.underlying406,a183:=Tryz.isAgg406,z183:=Tryz.sizeOf406,v183:=Tryz.zeroValue406,t218:=Tryz.underlying458,a218:=Tryz.isAgg458,z218:=Tryz.sizeOf458,v218:=Tryz.zeroValue458,t222:=Tryz.underlying462,a222:=Tryz.isAgg462,z222:=Tryz.sizeOf462,v222:=Tryz.zeroValue462,t228:=Tryz.underlying484,a228:=Tryz.isAgg484,z228:=Tryz.sizeOf484,v228:=Tryz.zeroValue484,t229:=Tryz.underlying59,a229:=Tryz.isAgg59,z229:=Tryz.sizeOf59,v229:=Tryz.zeroValue59}
set_option maxRecDepth 100000 in
theorem len64_0 (w:World):Calls Tryz.prog 343 #[.int .u64 0] w fun e w'=>e= .returned (.int .i64 0)∧w'=w:=by
 go_enter Tryz.func343,Tryz.ntmps343
 go_wp2
 go_ret
 refine⟨congrArg Ending.returned (congrArg (Value.int IntKind.i64) ?_),rfl⟩;rw[Lib.len8_of 0 (by omega) (by omega)]
 first|rfl|kernel_rfl|decide+kernel
set_option maxRecDepth 100000 in
theorem Tx (w:World):Calls Tryz.prog 255 #[.int .u64 0] w fun e w'=>e= .returned (.int .i64 0)∧w'=w:=by
 go_enter Tryz.func255,Tryz.ntmps255
 go_wp2_with (go_at_call 343;refine(len64_0 _).mono ?_;rintro e w' ⟨rfl,rfl⟩)
 go_ret
 exact⟨rfl,rfl⟩
theorem ins_0 (p:Option Addr)(cap:Nat)(w:World):
  Calls Tryz.prog 333 #[.slice p 0 cap,.int .i64 0,.int .i64 0] w fun e w'=>e= .returned (.tuple #[])∧w'=w:=by
 go_enter Tryz.func333,Tryz.ntmps333
 go_wp2
 refine wp_loop_rounds 1 ?_;rw[rounds_succ]
 go_wp2
 go_end0
 exact⟨rfl,rfl⟩
set_option maxRecDepth 100000 in
theorem Ty (p:Option Addr)(cap:Nat)(w:World):
  Calls Tryz.prog 254 #[.slice p 0 cap,.int .i64 0,.int .i64 0,.int .i64 0] w fun e w'=>e= .returned (.tuple #[])∧w'=w:=by
 go_enter Tryz.func254,Tryz.ntmps254
 go_wp2
 refine wp_loop_rounds 1 ?_;rw[rounds_succ]
 go_wp2_with (first|(go_at_call 333;refine(ins_0 p cap _).mono ?_;rintro e w' ⟨rfl,rfl⟩))
 refine bodyPost_ret (results_none rfl _ _ _) rfl ?_;exact⟨rfl,rfl⟩
set_option maxRecDepth 100000 in
theorem R6 (p:Option Addr)(cap:Nat)(w:World):
  Calls Tryz.prog 160 #[.slice p 0 cap] w fun e w'=>e= .returned (.tuple #[])∧w'=w:=by
 go_enter Tryz.func160,Tryz.ntmps160
 go_wp2_with (first
  |(go_at_call 255;refine(Tx _).mono ?_;rintro e w' ⟨rfl,rfl⟩)
  |(go_at_call 254;refine(Ty p cap _).mono ?_;rintro e w' ⟨rfl,rfl⟩))
 go_end0
 exact⟨rfl,rfl⟩
theorem Lv:Go.Sym.SortN Tryz.prog 160:=R6
theorem Lw:Go.Sym.SortC Tryz.prog 160:=fun blk cap zs w hH hb hs=>Any.slices_Sort_int O5 blk 0 cap zs w hH hb hs
#print axioms Lw
#print axioms Lv
end Go.Proofs.YtfghdmmapmdcgaaGreat
