import Derived.Test.YtoeigdpfcnaaeaaGreatProg
import Derived.Ground.NamesProg
import Derived.Shelf.Lay
import Derived.Shelf.Lays
import Derived.Lib.Walk
import Derived.LoopN
import Derived.KernelRfl
import Derived.Lib.Small
import Derived.Lib.BitFns
import Derived.Shelf.Sort.Plain
import Derived.Test.YtoeigdpfcnaaeaaGreatM3
set_option linter.unusedVariables false
set_option linter.unusedSimpArgs false
set_option linter.defProp false
namespace Go.Proofs.YtoeigdpfcnaaeaaGreat
open Go.Shelf
def gz:Ren where
 f:=λx=>match x with
  |189=>156
  |125=>218
  |257=>250
  |128=>308
  |129=>309
  |294=>332
  |295=>333
  |296=>334
  |297=>335
  |298=>336
  |299=>337
  |216=>338
  |300=>339
  |301=>340
  |328=>396
  |329=>385
  |330=>386
  |331=>397
  |332=>398
  |215=>310
  |343=>434
  |n=>n
 t:=λx=>match x with
  |28=>46
  |3=>3
  |46=>299
  |0=>0
  |51=>392
  |53=>134
  |4=>4
  |183=>386
  |182=>385
  |131=>196
  |5=>5
  |9=>9
  |218=>462
  |222=>466
  |228=>503
  |229=>30
  |n=>n
 g:=λx=>x
def acM:Lays.n189 Tryz.prog gz:={mixed:=Eq.refl true,f125:=cj Tryz.func218 (bc some (Eq.refl (Body.n125 gz))),f128:=cj Tryz.func308 (bc some (Eq.refl (Body.n128 gz))),f129:=cj Tryz.func309 (bc some (Eq.refl (Body.n129 gz))),f189:=cj Tryz.func156 (bc some (Eq.refl (Body.n189 gz))),f215:=cj Tryz.func310 (bc some (Eq.refl (Body.n215 gz))),f216:=cj Tryz.func338 (bc some (Eq.refl (Body.n216 gz))),f257:=cj Tryz.func250 (bc some (Eq.refl (Body.n257 gz))),f294:=cj Tryz.func332 (bc some (Eq.refl (Body.n294 gz))),f295:=cj Tryz.func333 (bc some (Eq.refl (Body.n295 gz))),f296:=cj Tryz.func334 (bc some (Eq.refl (Body.n296 gz))),f297:=cj Tryz.func335 (bc some (Eq.refl (Body.n297 gz))),f298:=cj Tryz.func336 (bc some (Eq.refl (Body.n298 gz))),f299:=cj Tryz.func337 (bc some (Eq.refl (Body.n299 gz))),f300:=cj Tryz.func339 (bc some (Eq.refl (Body.n300 gz))),f301:=cj Tryz.func340 (bc some (Eq.refl (Body.n301 gz))),f328:=cj Tryz.func396 (bc some (Eq.refl (Body.n328 gz))),f329:=cj Tryz.func385 (bc some (Eq.refl (Body.n329 gz))),f330:=cj Tryz.func386 (bc some (Eq.refl (Body.n330 gz))),f331:=cj Tryz.func397 (bc some (Eq.refl (Body.n331 gz))),f332:=cj Tryz.func398 (bc some (Eq.refl (Body.n332 gz))),f343:=cj Tryz.func434 (bc some (Eq.refl (Body.n343 gz))),t0:=Tryz.underlying0,a0:=Tryz.isAgg0,z0:=Tryz.sizeOf0,v0:=Tryz.zeroValue0,t3:=Tryz.underlying3,a3:=Tryz.isAgg3,z3:=Tryz.sizeOf3,v3:=Tryz.zeroValue3,t4:=Tryz.underlying4,a4:=Tryz.isAgg4,z4:=Tryz.sizeOf4,v4:=Tryz.zeroValue4,t5:=Tryz.underlying5,a5:=Tryz.isAgg5,z5:=Tryz.sizeOf5,v5:=Tryz.zeroValue5,t9:=Tryz.underlying9,a9:=Tryz.isAgg9,z9:=Tryz.sizeOf9,v9:=Tryz.zeroValue9,t28:=Tryz.underlying46,a28:=Tryz.isAgg46,z28:=Tryz.sizeOf46,v28:=Tryz.zeroValue46,t46:=Tryz.underlying299,a46:=Tryz.isAgg299,z46:=Tryz.sizeOf299,v46:=Tryz.zeroValue299,t51:=Tryz.underlying392,a51:=Tryz.isAgg392,z51:=Tryz.sizeOf392,v51:=Tryz.zeroValue392,t53:=Tryz.underlying134,a53:=Tryz.isAgg134,z53:=Tryz.sizeOf134,v53:=Tryz.zeroValue134,t131:=Tryz.underlying196,a131:=Tryz.isAgg196,z131:=Tryz.sizeOf196,v131:=Tryz.zeroValue196,t182:=Tryz.underlying385,a182:=Tryz.isAgg385,z182:=Tryz.sizeOf385,v182:=Tryz.zeroValue385,t183:=Tryz.underlying386,a183:=Tryz.isAgg386,z183:=Tryz.sizeOf386,v183:=Tryz.zeroValue386,t218:=Tryz.underlying462,a218:=Tryz.isAgg462,z218:=Tryz.sizeOf462,v218:=Tryz.zeroValue462,t222:=Tryz.underlying466,a222:=Tryz.isAgg466,z222:=Tryz.sizeOf466,v222:=Tryz.zeroValue466,t228:=Tryz.underlying503,a228:=Tryz.isAgg503,z228:=Tryz.sizeOf503,v228:=Tryz.zeroValue503,t229:=Tryz.underlying30,a229:=Tryz.isAgg30,z229:=Tryz.sizeOf30,v229:=Tryz.zeroValue30}
set_option maxRecDepth 100000 in def acN (w:World):Calls Tryz.prog 309 #[.int .u64 0] w λe w'=>e= .returned (.int .i64 0)/\ w'=w:=by go_enter Tryz.func309,Tryz.ntmps309;go_wp2;go_ret;refine⟨bc Ending.returned (bc (Value.int IntKind.i64) ?_),rfl⟩;rw[Lib.len8_of 0 ω ω];first|rfl|kernel_rfl|decide+kernel
set_option maxRecDepth 100000 in def alo (w:World):Calls Tryz.prog 218 #[.int .u64 0] w λe w'=>e= .returned (.int .i64 0)/\ w'=w:=by go_enter Tryz.func218,Tryz.ntmps218;go_wp2_with (go_at_call 309;refine(acN _).mono ?_;rintro e w' ⟨rfl,rfl⟩);go_ret;exact⟨rfl,rfl⟩
def alp (p:Option Addr)(cap:Nat)(w:World):Calls Tryz.prog 332 #[.slice p 0 cap,.int .i64 0,.int .i64 0] w λe w'=>e= .returned (.tuple #[])/\ w'=w:=by go_enter Tryz.func332,Tryz.ntmps332;go_wp2;refine wp_loop_rounds 1 ?_;rw[rounds_succ];go_wp2;go_end0;exact⟨rfl,rfl⟩
set_option maxRecDepth 100000 in def alq (p:Option Addr)(cap:Nat)(w:World):Calls Tryz.prog 250 #[.slice p 0 cap,.int .i64 0,.int .i64 0,.int .i64 0] w λe w'=>e= .returned (.tuple #[])/\ w'=w:=by go_enter Tryz.func250,Tryz.ntmps250;go_wp2;refine wp_loop_rounds 1 ?_;rw[rounds_succ];go_wp2_with (first|(go_at_call 332;refine(alp p cap _).mono ?_;rintro e w' ⟨rfl,rfl⟩));refine bodyPost_ret (results_none rfl _ _ _) rfl ?_;exact⟨rfl,rfl⟩
set_option maxRecDepth 100000 in def ajj (p:Option Addr)(cap:Nat)(w:World):Calls Tryz.prog 156 #[.slice p 0 cap] w λe w'=>e= .returned (.tuple #[])/\ w'=w:=by go_enter Tryz.func156,Tryz.ntmps156;go_wp2_with (first|(go_at_call 218;refine(alo _).mono ?_;rintro e w' ⟨rfl,rfl⟩)|(go_at_call 250;refine(alq p cap _).mono ?_;rintro e w' ⟨rfl,rfl⟩));go_end0;exact⟨rfl,rfl⟩
def abm:Go.Sym.SortN Tryz.prog 156:=ajj
def abn:Go.Sym.SortC Tryz.prog 156:=λblk cap zs w hH hb hs=>Any.slices_Sort_int acM blk 0 cap zs w hH hb hs
#print axioms abn
#print axioms abm
end Go.Proofs.YtoeigdpfcnaaeaaGreat
