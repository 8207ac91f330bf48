import Derived.Test.YtfghdmmapmdcgaaGreatProg
import Derived.Ground.NamesProg
import Derived.Shelf.Lay
import Derived.Shelf.Lays
import Derived.Lib.Walk
import Derived.LoopN
import Derived.KernelRfl
import Derived.Lib.Small
import Derived.Lib.BitFns
import Derived.Shelf.Sort.Plain
import Derived.Test.YtfghdmmapmdcgaaGreatM3
set_option linter.unusedVariables false
set_option linter.unusedSimpArgs false
set_option linter.defProp false
namespace Go.Proofs.YtfghdmmapmdcgaaGreat
open Go.Shelf
def fE:Ren where
 f:=λx=>match x with
  |189=>160
  |125=>255
  |257=>254
  |128=>342
  |129=>343
  |294=>333
  |295=>334
  |296=>335
  |297=>336
  |298=>337
  |299=>338
  |216=>339
  |300=>340
  |301=>341
  |328=>390
  |329=>391
  |330=>392
  |331=>393
  |332=>394
  |215=>395
  |343=>418
  |n=>n
 t:=λx=>match x with
  |28=>30
  |3=>3
  |46=>329
  |0=>0
  |51=>412
  |53=>176
  |4=>4
  |183=>406
  |182=>405
  |131=>343
  |5=>5
  |9=>9
  |218=>458
  |222=>462
  |228=>484
  |229=>59
  |n=>n
 g:=λx=>x
def W5:Lays.n189 Tryz.prog fE:={mixed:=Eq.refl true,f125:=dS Tryz.func255 (bj some (Eq.refl (Body.n125 fE))),f128:=dS Tryz.func342 (bj some (Eq.refl (Body.n128 fE))),f129:=dS Tryz.func343 (bj some (Eq.refl (Body.n129 fE))),f189:=dS Tryz.func160 (bj some (Eq.refl (Body.n189 fE))),f215:=dS Tryz.func395 (bj some (Eq.refl (Body.n215 fE))),f216:=dS Tryz.func339 (bj some (Eq.refl (Body.n216 fE))),f257:=dS Tryz.func254 (bj some (Eq.refl (Body.n257 fE))),f294:=dS Tryz.func333 (bj some (Eq.refl (Body.n294 fE))),f295:=dS Tryz.func334 (bj some (Eq.refl (Body.n295 fE))),f296:=dS Tryz.func335 (bj some (Eq.refl (Body.n296 fE))),f297:=dS Tryz.func336 (bj some (Eq.refl (Body.n297 fE))),f298:=dS Tryz.func337 (bj some (Eq.refl (Body.n298 fE))),f299:=dS Tryz.func338 (bj some (Eq.refl (Body.n299 fE))),f300:=dS Tryz.func340 (bj some (Eq.refl (Body.n300 fE))),f301:=dS Tryz.func341 (bj some (Eq.refl (Body.n301 fE))),f328:=dS Tryz.func390 (bj some (Eq.refl (Body.n328 fE))),f329:=dS Tryz.func391 (bj some (Eq.refl (Body.n329 fE))),f330:=dS Tryz.func392 (bj some (Eq.refl (Body.n330 fE))),f331:=dS Tryz.func393 (bj some (Eq.refl (Body.n331 fE))),f332:=dS Tryz.func394 (bj some (Eq.refl (Body.n332 fE))),f343:=dS Tryz.func418 (bj some (Eq.refl (Body.n343 fE))),t0:=Tryz.underlying0,a0:=Tryz.isAgg0,z0:=Tryz.sizeOf0,v0:=Tryz.zeroValue0,t3:=Tryz.underlying3,a3:=Tryz.isAgg3,z3:=Tryz.sizeOf3,v3:=Tryz.zeroValue3,t4:=Tryz.underlying4,a4:=Tryz.isAgg4,z4:=Tryz.sizeOf4,v4:=Tryz.zeroValue4,t5:=Tryz.underlying5,a5:=Tryz.isAgg5,z5:=Tryz.sizeOf5,v5:=Tryz.zeroValue5,t9:=Tryz.underlying9,a9:=Tryz.isAgg9,z9:=Tryz.sizeOf9,v9:=Tryz.zeroValue9,t28:=Tryz.underlying30,a28:=Tryz.isAgg30,z28:=Tryz.sizeOf30,v28:=Tryz.zeroValue30,t46:=Tryz.underlying329,a46:=Tryz.isAgg329,z46:=Tryz.sizeOf329,v46:=Tryz.zeroValue329,t51:=Tryz.underlying412,a51:=Tryz.isAgg412,z51:=Tryz.sizeOf412,v51:=Tryz.zeroValue412,t53:=Tryz.underlying176,a53:=Tryz.isAgg176,z53:=Tryz.sizeOf176,v53:=Tryz.zeroValue176,t131:=Tryz.underlying343,a131:=Tryz.isAgg343,z131:=Tryz.sizeOf343,v131:=Tryz.zeroValue343,t182:=Tryz.underlying405,a182:=Tryz.isAgg405,z182:=Tryz.sizeOf405,v182:=Tryz.zeroValue405,t183:=Tryz.underlying406,a183:=Tryz.isAgg406,z183:=Tryz.sizeOf406,v183:=Tryz.zeroValue406,t218:=Tryz.underlying458,a218:=Tryz.isAgg458,z218:=Tryz.sizeOf458,v218:=Tryz.zeroValue458,t222:=Tryz.underlying462,a222:=Tryz.isAgg462,z222:=Tryz.sizeOf462,v222:=Tryz.zeroValue462,t228:=Tryz.underlying484,a228:=Tryz.isAgg484,z228:=Tryz.sizeOf484,v228:=Tryz.zeroValue484,t229:=Tryz.underlying59,a229:=Tryz.isAgg59,z229:=Tryz.sizeOf59,v229:=Tryz.zeroValue59}
set_option maxRecDepth 100000 in
def W6 (w:World):Calls Tryz.prog 343 #[.int .u64 0] w λe w'=>e= .returned (.int .i64 0)/\ w'=w:=by
 go_enter Tryz.func343,Tryz.ntmps343
 go_wp2
 go_ret
 refine⟨bj Ending.returned (bj (Value.int IntKind.i64) ?_),rfl⟩;rw[Lib.len8_of 0 (by omega) (by omega)]
 first|rfl|kernel_rfl|decide+kernel
set_option maxRecDepth 100000 in
def ae1 (w:World):Calls Tryz.prog 255 #[.int .u64 0] w λe w'=>e= .returned (.int .i64 0)/\ w'=w:=by
 go_enter Tryz.func255,Tryz.ntmps255
 go_wp2_with (go_at_call 343;refine(W6 _).mono ?_;rintro e w' ⟨rfl,rfl⟩)
 go_ret
 exact⟨rfl,rfl⟩
def ae2 (p:Option Addr)(cap:Nat)(w:World):
  Calls Tryz.prog 333 #[.slice p 0 cap,.int .i64 0,.int .i64 0] w λe w'=>e= .returned (.tuple #[])/\ w'=w:=by
 go_enter Tryz.func333,Tryz.ntmps333
 go_wp2
 refine wp_loop_rounds 1 ?_;rw[rounds_succ]
 go_wp2
 go_end0
 exact⟨rfl,rfl⟩
set_option maxRecDepth 100000 in
def ae3 (p:Option Addr)(cap:Nat)(w:World):
  Calls Tryz.prog 254 #[.slice p 0 cap,.int .i64 0,.int .i64 0,.int .i64 0] w λe w'=>e= .returned (.tuple #[])/\ w'=w:=by
 go_enter Tryz.func254,Tryz.ntmps254
 go_wp2
 refine wp_loop_rounds 1 ?_;rw[rounds_succ]
 go_wp2_with (first|(go_at_call 333;refine(ae2 p cap _).mono ?_;rintro e w' ⟨rfl,rfl⟩))
 refine bodyPost_ret (results_none rfl _ _ _) rfl ?_;exact⟨rfl,rfl⟩
set_option maxRecDepth 100000 in
def adg (p:Option Addr)(cap:Nat)(w:World):
  Calls Tryz.prog 160 #[.slice p 0 cap] w λe w'=>e= .returned (.tuple #[])/\ w'=w:=by
 go_enter Tryz.func160,Tryz.ntmps160
 go_wp2_with (first
  |(go_at_call 255;refine(ae1 _).mono ?_;rintro e w' ⟨rfl,rfl⟩)
  |(go_at_call 254;refine(ae3 p cap _).mono ?_;rintro e w' ⟨rfl,rfl⟩))
 go_end0
 exact⟨rfl,rfl⟩
def VG:Go.Sym.SortN Tryz.prog 160:=adg
def VH:Go.Sym.SortC Tryz.prog 160:=λblk cap zs w hH hb hs=>Any.slices_Sort_int W5 blk 0 cap zs w hH hb hs
#print axioms VH
#print axioms VG
end Go.Proofs.YtfghdmmapmdcgaaGreat
