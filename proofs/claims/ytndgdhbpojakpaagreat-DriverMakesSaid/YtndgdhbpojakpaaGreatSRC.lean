import Derived.Test.YtndgdhbpojakpaaGreatSRB
import Derived.Lib.Walk
import Derived.LoopN
set_option linter.unusedVariables false
set_option linter.unusedSimpArgs false
set_option linter.defProp false
noncomputable section
namespace Go.Proofs.YtndgdhbpojakpaaGreat
open Go.Sym Bnd
open Go.Shelf Go.RowKit Go.Lib
set_option maxRecDepth 100000
def kI (p:Pt):List Value:=[.int .i64 p.id,.int .i64 p.a,.int .i64 p.b]
def rj (t:Rt)(p q:Pt):Bool:=decide (hZ p q t=0)&& leads t p q
def Mx {w:World}{S:Nat->Prop}(p:Pt):RT w S (.agg (kI p).toArray) (PP p):= .agg (.cons (.v rfl) (.cons (.v rfl) (.cons (.v rfl) .nil))) rfl
def My {w:World}{S:Nat->Prop}(t:Rt):RT w S (.agg #[.int .i64 t.num,.int .i64 t.den]) (R t):= .agg (.cons (.v rfl) (.cons (.v rfl) .nil)) rfl
def rh {w:World}{S:Nat->Prop}{v:Value}{b:Bool}(h:RT w S v (.bool b)):v= .bool b:=by
 cases h with
 |v h=>rfl
def Mz {p q:Pt}{t:Rt}(ht:bi t):∃x:Int,Ans D 190 [PP p,PP q,R t] [.bool (rj t p q),.i64 x]:=by
 have h:=AS (p:=p) (q:=q) ht;unfold rj;by_cases e:hZ p q t=0
 .rw[ad e] at h;refine⟨0,?_⟩;rw[aq e,eF];exact h
 .rw[ac e] at h;refine⟨hZ p q t,?_⟩;rw[ai e,mK];exact h
def aaN (p q:Pt){t:Rt}(ht:bi t)(w:World):∃x:Int,Calls Tryz.prog 190 #[.agg (kI p).toArray,.agg (kI q).toArray,.agg #[.int .i64 t.num,.int .i64 t.den]] w λe w'=>e= .returned (.tuple #[.bool (rj t p q),.int .i64 x])/\∃q os,w'=Go.Sort.grow (w.drewN q) os:=by
 obtain⟨x,hx⟩:=Mz (p:=p) (q:=q) ht;refine⟨x,?_⟩;obtain⟨fn,h1,_,_,_,h5⟩:=(inW (by decide) hx).plain (by kernel_rfl);have hf:D.toDcf.P.funcs[190]?=some Tryz.f190:=Tryz.func190;rw[hf] at h1;cases h1;refine(h5 w (λ_=>False) _ (.cons (Mx p) (.cons (Mx q) (.cons (My t) .nil))) (λ_ h=>h.elim)).mono ?_;rintro e w' ⟨u,S',us,Bs,rfl,a⟩;have hr:=a.rr;have hs:D.toDcf.slots 190=[]:=by kernel_rfl
 rw[show Tryz.f190.resultTypes.toList=[4,65] from rfl,hs] at hr
 have a4:bF D.toDcf.P 4=some false:=by kernel_rfl
 have a65:bF D.toDcf.P 65=some false:=by kernel_rfl
 cases hr with
 |cons hr h2=>
  cases h2 with
  |cons h2 h3=>
   cases h3;unfold RR at hr h2;rw[a4] at hr;rw[a65] at h2;rcases hr with⟨_,_,hr,_⟩|hr
   .rcases h2 with⟨_,_,h2,_⟩|h2
    .have e1:=rh hr;have e2:=jz h2;subst e1 e2;have:=a.u;exact⟨by rw[this];rfl,wI a.fr⟩
    .cases h2
   .cases hr
def Fi (t:Rt)(p q:Pt):Int:=if p.id=q.id then 0 else if rj t p q=true then-1 else 1
def Qg (W:World)(a b:Obj)(n:Nat)(os:Array Obj):Go.Sort.grow (((W.alloc a).alloc b).drewN n) os=Go.Sort.grow (W.drewN n) (#[a,b]++os):=by
 have h:(W.heap.push a).push b++os=W.heap++(#[a,b]++os):=by
  apply Array.ext';simp
 unfold Go.Sort.grow World.alloc World.drewN;simp only[h]
set_option maxHeartbeats 1000000 in
def RA (p q:Pt){t:Rt}(ht:bi t)(b:Nat)(W:World)(hb:b<W.heap.size)(h0:W.cell? ⟨b,0,none⟩=some (.int .i64 t.num))(h1:W.cell? ⟨b,1,none⟩=some (.int .i64 t.den)):
  Calls Tryz.prog 189 #[.agg (kI p).toArray,.agg (kI q).toArray,.pointer (some ⟨b,0,none⟩)] W λe w'=>e= .returned (.int .i64 (Fi t p q))/\∃n os,w'=Go.Sort.grow (W.drewN n) os:=by
 have hcon:=λW'=>aaN p q ht W';unfold Fi kI at*;by_cases hid:p.id=q.id
 .have hq:(p.id==q.id)=true:=by simpa using hid
  rw[ad hid]
  go_enter Tryz.func189,Tryz.ntmps189
  go_wp2_with (go_at_call 190;obtain⟨x,hx⟩:=hcon _;refine hx.mono ?_;rintro e w' ⟨rfl,n,os,rfl⟩)
  all_goals first|(exfalso;simp_all;done)|(go_ret;exact⟨rfl,0,_,by rw[Go.Sort.alloc_eq_grow,Go.Sort.alloc_eq_grow,Go.Sort.grow_grow];rfl⟩)
 .have hq:(p.id==q.id)=false:=by simpa using hid
  rw[ac hid];cases ha:rj t p q with
  |true=>
   rw[ha] at hcon
   go_enter Tryz.func189,Tryz.ntmps189
   go_wp2_with (go_at_call 190;obtain⟨x,hx⟩:=hcon _;refine hx.mono ?_;rintro e w' ⟨rfl,n,os,rfl⟩)
   all_goals first|(exfalso;simp_all;done)|(go_ret;exact⟨rfl,n,_,Qg ..⟩)
  |false=>
   rw[ha] at hcon
   go_enter Tryz.func189,Tryz.ntmps189
   go_wp2_with (go_at_call 190;obtain⟨x,hx⟩:=hcon _;refine hx.mono ?_;rintro e w' ⟨rfl,n,os,rfl⟩)
   all_goals first|(exfalso;simp_all;done)|(go_ret;exact⟨rfl,n,_,Qg ..⟩)
end Go.Proofs.YtndgdhbpojakpaaGreat
