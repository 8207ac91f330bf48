import Derived.Test.YtfghdmmapmdcgaaGreatA1
import Derived.Test.YtfghdmmapmdcgaaGreatProg
import Derived.Shelf.Spec.SlicesInsert
import Derived.Lib.AppendZerosOnto
import Derived.Laws.NewBlocks
import Derived.KernelRfl
set_option linter.unusedVariables false
set_option linter.unusedSimpArgs false
set_option linter.defProp false
noncomputable section
namespace Go.Proofs.YtfghdmmapmdcgaaGreat
open Go.Shelf Go.RowKit Go.Lib
def Ev {P:Program}(w:World)(dT sT ty elem:TypeId)(b o dLen dCap:Nat)(a:Addr)(sLen sCap k:Nat)(cs:List Value)
  (hu:P.underlying dT=some (.slice elem)) (hs:(P.info? elem).map (·.size)=some 3) (hk:k=Nat.min sLen dLen) (hn:cs.length=k*3)
  (hsrc:∀j v,cs[j]?=some v->w.cell? (a.add j)=some v) (hc:∀j,j<cs.length->(w.cell? ⟨b,o+j,none⟩).isSome=true) (hf:∀j,j<cs.length->w.frozen? ⟨b,o+j,none⟩=false) (h1:∀v∈cs,v.oneCell'=true):
  (Builtin.copy_ #[dT,sT] ty #[.slice (some ⟨b,o,none⟩) dLen dCap,.slice (some a) sLen sCap]).run P w= .ok (goInt k) (w.setCells b o cs):=by
 have hl:=run_loadCells_list (P:=P) w a cs hsrc;have hst:=run_storeCells_cells (P:=P) b o cs 0 w (by simpa using hc) (by simpa using hf) h1
 subst hk;cases hq:P.info? elem with
 |none=>simp[hq] at hs
 |some i=>
  have hi:i.size=3:=by simpa [hq] using hs
  simp[Builtin.copy_,run_underlying hu,Builtin.lenOf,Builtin.firstCells,sizeOf,typeInfo,hq,hi,<-hn,hl,hst]
def NW {P:Program}(w:World)(tS tR e:TypeId)(ht:P.underlying tS=some (.slice e))(size:Nat)(hz:∀w,(Go.sizeOf e).run P w= .ok size w)
  (a b:Addr) (la ca lb cb:Nat) (hne:a.block≠b.block) (tA tB:TypeId) (kA kB:Nat)
  (hsa:w.shape? a.block=some (tA,kA)) (hsb:w.shape? b.block=some (tB,kB)) (hkA:kA≠0)
  (hfb:w.frozen? b=false) (hfe:w.frozen? {block:=b.block,off:=kB}=false):
  (Extern.SlicesOverlaps.overlaps #[tS,tS] #[tR] #[.slice (some a) la ca,.slice (some b) lb cb]).run P w= .ok (.bool false) w:=by
 have hnb:(a.block !=b.block)=true:=by simpa using hne
 have hnb':(a.block==b.block)=false:=by simpa using hne
 change Sem.run P (α:=Value) (do
  let some t:=(#[tS,tS]:Array TypeId)[0]?|stuck "slices.overlaps: no parameter types"
  let .slice elem<-underlying t|stuck "slices.overlaps: slice type expected"
  let size<-sizeOf elem
  match(some a:Option Addr),(some b:Option Addr) with
  |some a,some b=>
   if la=0\/lb=0\/size=0 then pure (Value.bool false)
   else if a.block !=b.block&&(<-frozen a)&&(<-frozen b) then unsupported .addressObserved
   else do
    if a.block !=b.block then do
     noView a;noView b
     if<-mayBeOne a b then return Value.bool ((<-choose (.extern "sameAddr.stringBytes" 2))==1)
    pure (Value.bool (a.block==b.block&& a.off<b.off+lb*size&& b.off<a.off+la*size))
  |_,_=>pure (Value.bool false)) w=_
 by_cases h0:la=0\/lb=0\/size=0
 .simp[run_underlying ht,hz,h0]
 .cases kA with
  |zero=>exact absurd rfl hkA
  |succ kA=>cases h1:w.frozen? a<;>cases h2:w.frozen? {block:=a.block,off:=kA+1}<;>simp[run_underlying ht,hz,h0,hnb,hnb',frozen,noView,viewAt,mayBeOne,stringish,shape,Sem.run,hsa,hsb,hfb,hfe,h1,h2]
def AY:(Tryz.prog.info? 88).map (·.size)=some 3:=by kernel_rfl
def LS:Tryz.prog.info? 88=some Tryz.t88:=by kernel_rfl
def zP:Value:= .agg #[.int .i64 0,.int .i64 0,.int .i64 0]
def NX:Tryz.t88.zero=some zP:=rfl
def mix:Tryz.prog.follows .mixedOrders=true:=by kernel_rfl
def zcP (k:Nat):Array Value:=Builtin.zeroCells zP.cells k
def vS (k:Nat):(zcP k).size=k*3:=by simp[zcP,zP,Builtin.zeroCells,Value.cells]
section
variable (b n c i vb vo vc:Nat)(cs vs:List Value)(w:World)
set_option maxHeartbeats 4000000 in
set_option maxRecDepth 100000 in
def ahl (hi:i<n)(hroom:n+1<=c)(hc63:c<=9223372036854775807)(hvb:vb≠b)(hcl:cs.length=n*3)(hvl:vs.length=3)
  (hcs:∀j v,cs[j]?=some v->w.cell? ⟨b,j,none⟩=some v) (hsp:∀j,j<(n+1)*3->(w.cell? ⟨b,j,none⟩).isSome=true) (hfz:∀j,j<(n+1)*3->w.frozen? ⟨b,j,none⟩=false)
  (hvs:∀j v,vs[j]?=some v->w.cell? ⟨vb,vo+j,none⟩=some v) (h1c:∀v∈cs,v.oneCell'=true) (h1v:∀v∈vs,v.oneCell'=true)
  (tA tB:TypeId) (kA kB:Nat) (hsa:w.shape? vb=some (tA,kA)) (hsb:w.shape? b=some (tB,kB)) (hkA:kA≠0) (hfe:w.frozen? ⟨b,kB,none⟩=false):
  Calls Tryz.prog 272 #[.slice (some ⟨b,0,none⟩) n c,.int .i64 i,.slice (some ⟨vb,vo,none⟩) 1 vc] w λe w'=>
   e= .returned (.slice (some ⟨b,0,none⟩) (n+1) c)/\ w'=(w.drew.setCells b ((i+1)*3) (cs.drop (i*3))).setCells b (i*3) vs:=by
 have mixed:=mix;have hz2:¬((i:Int)=(n:Int)):=by omega
 have hov:∀lb cb,(callFunc 355 #[.slice (some ⟨vb,vo,none⟩) 1 vc,.slice (some ⟨b,(i+1)*3,none⟩) lb cb]).run Tryz.prog w= .ok (.value (.bool false)) w:=λlb cb=>by
  rw[run_callFunc_extern Tryz.func355 (by kernel_rfl) (by kernel_rfl) (by kernel_rfl) (e:=Extern.SlicesOverlaps.overlaps #[24,24] #[4]) (by kernel_rfl),
   NW w 24 4 88 Tryz.underlying24 3 Tryz.sizeOf88 ⟨vb,vo,none⟩ ⟨b,(i+1)*3,none⟩ 1 vc lb cb hvb tA tB kA kB hsa hsb hkA (hfz _ (by omega)) hfe]
  rfl
 have hdl:(cs.drop (i*3)).length=(n-i)*3:=by rw[bu,hcl];omega
 have hw1:IntKind.i64.wrap ((i:Int)+1)=(i:Int)+1:=by rw[IntKind.wrap_i64];omega
 have hb1:(0:Int)<=(i:Int)+1:=by omega
 have htn:((i:Int)+1).toNat=i+1:=by omega
 have hcp1:∀ty dc sc,(Builtin.copy_ #[24,24] ty #[.slice (some ⟨b,(i+1)*3,none⟩) (n-i) dc,.slice (some ⟨b,i*3,none⟩) (n+1-i) sc]).run Tryz.prog w.drew= .ok (goInt (n-i:Nat)) (w.drew.setCells b ((i+1)*3) (cs.drop (i*3))):=λty dc sc=>
  Ev w.drew _ _ ty 88 b ((i+1)*3) (n-i) dc ⟨b,i*3,none⟩ (n+1-i) sc (n-i) (cs.drop (i*3)) Tryz.underlying24 AY (by simp only[tP];split<;>omega) hdl
   (λj v hj=>by rw[Addr.add_lit];exact hcs _ v (by rwa [eE] at hj))
   (λj hj=>hsp _ (by omega)) (λj hj=>hfz _ (by omega)) (λv hv=>h1c v (gi hv))
 obtain⟨W1,hW1⟩:∃W1,W1=w.drew.setCells b ((i+1)*3) (cs.drop (i*3)):=⟨_,rfl⟩;have hsp1:∀k,k<(n+1)*3->(W1.cell? ⟨b,k,none⟩).isSome=true:=λk hk=>by
  rw[hW1];refine isSome_setCells b _ _ w.drew (λj hj=>hsp _ ?_) _ (hsp k hk);rw[hdl] at hj;omega
 have hcp2:∀(W:World),(∀x,W.cell? x=W1.cell? x)->(∀x,W.frozen? x=W1.frozen? x)->∀ty dc,(Builtin.copy_ #[24,24] ty #[.slice (some ⟨b,i*3,none⟩) (n+1-i) dc,.slice (some ⟨vb,vo,none⟩) 1 vc]).run Tryz.prog W= .ok (goInt (1:Nat)) (W.setCells b (i*3) vs):=λW hWc hWf ty dc=>
  Ev W _ _ ty 88 b (i*3) (n+1-i) dc ⟨vb,vo,none⟩ 1 vc 1 vs Tryz.underlying24 AY (by simp only[tP];split<;>omega) (by omega)
   (λj v hj=>by
    rw[Addr.add_lit,hWc,hW1,World.cell?_setCells_out b _ _ _ _ (λh _=>absurd h hvb)];exact hvs j v hj)
   (λj hj=>by rw[hWc];exact hsp1 _ (by omega)) (λj hj=>by rw[hWf,hW1,World.frozen?_setCells];exact hfz _ (by omega)) h1v
 rw[<-hW1] at hcp1;have hb2:¬(c=i+1):=by omega
 have hb3:(i:Int)<=(n:Int)+1:=by omega
 have hb4:¬(c=i):=by omega
 have hin:i<=n:=by omega
 go_enter Tryz.func272,Tryz.ntmps272
 go_wp2_with (simp only[hov])
 go_region_law_o (refine step_copy_runI rfl _ _ 24 24 rfl _ _ (by simp[Act.eval,Act.put]) (by simp[Act.eval,Act.put]) (hcp1 _ _ _) ?_)
 go_wp2_with (at_builtin;refine wpList_copy_runI _ rfl _ _ 24 24 rfl _ _ rfl rfl (hcp2 _ (λ_=>rfl) (λ_=>rfl) _ _) ?_)
 go_ret
 first|exact⟨rfl,rfl⟩|exact⟨rfl,by rw[hW1]⟩
set_option maxHeartbeats 4000000 in
set_option maxRecDepth 100000 in
def ahm (hi:i<n)(hnc:n<=c)(hroom:c<n+1)(hbig:(n+1)*24<=140737488355328)(hcl:cs.length=n*3)(hvl:vs.length=3)
  (hcs:∀j v,cs[j]?=some v->w.cell? ⟨b,j,none⟩=some v) (hvs:∀j v,vs[j]?=some v->w.cell? ⟨vb,vo+j,none⟩=some v) (h1c:∀v∈cs,v.oneCell'=true) (h1v:∀v∈vs,v.oneCell'=true):
  Calls Tryz.prog 272 #[.slice (some ⟨b,0,none⟩) n c,.int .i64 i,.slice (some ⟨vb,vo,none⟩) 1 vc] w λe w'=>
   e= .returned (.slice (some ⟨w.heap.size,0,none⟩) (n+1) (grownCap w (n+1) c 88))/\
   w'=(((w.alloc (.cells ((cs.take (i*3)).toArray++zcP (n+1-i)++zcP (grownCap w (n+1) c 88-(n+1))) 88)).drew.setCells w.heap.size (i*3) vs).drew).setCells w.heap.size ((i+1)*3) (cs.drop (i*3)):=by
 have mixed:=mix;have hz2:¬((i:Int)=(n:Int)):=by omega
 have hz3:(c:Int)<(n:Int)+1:=by omega
 have hbw:b<w.heap.size:=block_lt_of_cell (hcs 0 _ (ah (by omega)));have hvw:vb<w.heap.size:=block_lt_of_cell (hvs 0 _ (ah (by omega)));have hkk:(n:Int)+1-(i:Int)=((n+1-i:Nat):Int):=by omega
 have hik:i+(n+1-i)=n+1:=by omega
 have hold:(Builtin.firstCells Tryz.t88.size i (.slice (some ⟨b,0,none⟩) i c)).run Tryz.prog w.drew= .ok (cs.take (i*3)).toArray w.drew:=by
  exact run_firstCells_some w.drew 3 i ⟨b,0,none⟩ i c (cs.take (i*3)) (by rw[aK];omega) (λj v hj=>by
   rw[Addr.add_lit,bX];rw[fY] at hj;split at hj
   .exact hcs j v hj
   .cases hj)
 have hrz:∀ty,(Builtin.append_ #[24,3] ty #[.slice (some ⟨b,0,none⟩) i c,.int .i64 ((n:Int)+1-(i:Int))]).run Tryz.prog w=
   .ok (.slice (some ⟨w.heap.size,0,none⟩) (n+1) (grownCap w (n+1) c 88)) (w.drew.alloc (.cells ((cs.take (i*3)).toArray++zcP (n+1-i)++zcP (grownCap w (n+1) c 88-(n+1))) 88)):=λty=>by
  have h:=Lib.run_append_grow_zeros w 24 3 ty 88 Tryz.t88 _ .i64 .i64 Tryz.underlying24 Tryz.underlying3 LS NX (some ⟨b,0,none⟩) i c (cs.take (i*3)) hold (n+1-i) (by omega) (by decide) (by omega) (by omega) (by show(n+1-i)*24<=_;omega) (by rw[hik];exact growslice_fits hroom hbig)
  rw[hik] at h;rw[hkk];exact h
 obtain⟨G,hG⟩:∃G,G=grownCap w (n+1) c 88:=⟨_,rfl⟩;obtain⟨ROW,hROW⟩:∃ROW:Array Value,ROW=(cs.take (i*3)).toArray++zcP (n+1-i)++zcP (G-(n+1)):=⟨_,rfl⟩;rw[<-hG] at hrz|-;rw[<-hROW] at hrz|-;have hRl:(n+1)*3<=ROW.size:=by
  rw[hROW];simp only[iA,vS,jT,aK];omega
 obtain⟨W1,hW1⟩:∃W1,W1=w.drew.alloc (.cells ROW 88):=⟨_,rfl⟩;rw[<-hW1] at hrz;have hN:∀j,j<(n+1)*3->(W1.cell? ⟨w.heap.size,j,none⟩).isSome=true:=λj hj=>by
  rw[hW1,World.cell?_alloc_at (w:=w.drew) ROW _ w.heap.size j rfl,dC (by omega)];rfl
 have hNf:∀j,W1.frozen? ⟨w.heap.size,j,none⟩=false:=λj=>by rw[hW1];exact World.frozen?_alloc_at (w:=w.drew) ROW _ w.heap.size j rfl
 have hOb:∀j v,w.cell? ⟨b,j,none⟩=some v->W1.cell? ⟨b,j,none⟩=some v:=λj v h=>by rw[hW1,World.cell?_alloc_past (w:=w.drew) _ b j hbw];exact h
 have hOv:∀j v,w.cell? ⟨vb,j,none⟩=some v->W1.cell? ⟨vb,j,none⟩=some v:=λj v h=>by rw[hW1,World.cell?_alloc_past (w:=w.drew) _ vb j hvw];exact h
 have hcpA:∀(W:World),(∀x,W.cell? x=W1.cell? x)->(∀x,W.frozen? x=W1.frozen? x)->∀ty dc,(Builtin.copy_ #[24,24] ty #[.slice (some ⟨w.heap.size,i*3,none⟩) (n+1-i) dc,.slice (some ⟨vb,vo,none⟩) 1 vc]).run Tryz.prog W= .ok (goInt (1:Nat)) (W.setCells w.heap.size (i*3) vs):=λW hWc hWf ty dc=>
  Ev W _ _ ty 88 w.heap.size (i*3) (n+1-i) dc ⟨vb,vo,none⟩ 1 vc 1 vs Tryz.underlying24 AY (by simp only[tP];split<;>omega) (by omega)
   (λj v hj=>by rw[Addr.add_lit,hWc];exact hOv _ v (hvs j v hj))
   (λj hj=>by rw[hWc];exact hN _ (by omega)) (λj hj=>by rw[hWf];exact hNf _) h1v
 have hGn:n+1<=G:=by rw[hG];exact grownCap_ge w _ _ _
 have hG63:G<=9223372036854775807:=by
  have:=grownCap_le_maxLen w (n+1) c 88 (by unfold maxLen;omega);rw[<-hG] at this;unfold maxLen at this;omega
 have hGi:¬(G=i):=by omega
 have hGim:¬(G=i+1):=by omega
 have hci:¬(c=i):=by omega
 have hbN:b≠w.heap.size:=by omega
 have hdl:(cs.drop (i*3)).length=(n-i)*3:=by rw[bu,hcl];omega
 have hcpB:∀(W:World),(∀x,W.cell? x=(W1.setCells w.heap.size (i*3) vs).cell? x)->(∀x,W.frozen? x=(W1.setCells w.heap.size (i*3) vs).frozen? x)->∀ty dc sc,(Builtin.copy_ #[24,24] ty #[.slice (some ⟨w.heap.size,(i+1)*3,none⟩) (n-i) dc,.slice (some ⟨b,i*3,none⟩) (n-i) sc]).run Tryz.prog W= .ok (goInt (n-i:Nat)) (W.setCells w.heap.size ((i+1)*3) (cs.drop (i*3))):=λW hWc hWf ty dc sc=>
  Ev W _ _ ty 88 w.heap.size ((i+1)*3) (n-i) dc ⟨b,i*3,none⟩ (n-i) sc (n-i) (cs.drop (i*3)) Tryz.underlying24 AY (by simp only[tP];split<;>omega) hdl
   (λj v hj=>by
    rw[Addr.add_lit,hWc,World.cell?_setCells_out _ _ _ _ _ (λh _=>absurd h hbN)];exact hOb _ v (hcs (i*3+j) v (by rwa [eE] at hj)))
   (λj hj=>by rw[hdl] at hj;rw[hWc];exact isSome_setCells _ _ _ _ (λt ht=>hN _ (by omega)) _ (hN _ (by omega)))
   (λj hj=>by rw[hWf,World.frozen?_setCells];exact hNf _) (λv hv=>h1c v (gi hv))
 subst hW1;have hE1:∀x,((w.alloc (.cells ROW 88)).drew).cell? x=(w.drew.alloc (.cells ROW 88)).cell? x:=λx=>rfl;have hE2:∀x,((w.alloc (.cells ROW 88)).drew).frozen? x=(w.drew.alloc (.cells ROW 88)).frozen? x:=λx=>rfl;have hF1:∀x,(((w.alloc (.cells ROW 88)).drew.setCells w.heap.size (i*3) vs).drew).cell? x=((w.drew.alloc (.cells ROW 88)).setCells w.heap.size (i*3) vs).cell? x:=λx=>rfl;have hF2:∀x,(((w.alloc (.cells ROW 88)).drew.setCells w.heap.size (i*3) vs).drew).frozen? x=((w.drew.alloc (.cells ROW 88)).setCells w.heap.size (i*3) vs).frozen? x:=λx=>rfl;have hw1:IntKind.i64.wrap ((i:Int)+1)=(i:Int)+1:=by rw[IntKind.wrap_i64];omega
 have hb1:(0:Int)<=(i:Int)+1:=by omega
 have hin:i<=n:=by omega
 have htn:((i:Int)+1).toNat=i+1:=by omega
 have hb3:(i:Int)<=(n:Int):=by omega
 clear hkk hik hold hROW hG hRl
 go_enter Tryz.func272,Tryz.ntmps272
 go_wp2_with (first
  |(at_builtin;refine Lib.wpList_append_run _ rfl _ _ _ _ rfl _ _ rfl rfl _ _ (hrz _) ?_)
  |(at_builtin;refine wpList_copy_runI _ rfl _ _ 24 24 rfl _ _ rfl rfl (hcpA _ hE1 hE2 _ _) ?_)
  |(at_builtin;refine wpList_copy_runI _ rfl _ _ 24 24 rfl _ _ rfl rfl (hcpB _ (λ_=>rfl) (λ_=>rfl) _ _ _) ?_))
 go_region_law_o (refine step_copy_runI rfl _ _ 24 24 rfl (.slice (some ⟨w.heap.size,(i+1)*3,none⟩) (n-i) (G-(i+1))) (.slice (some ⟨b,i*3,none⟩) (n-i) (c-i)) (by simp[Act.eval,Act.put]) (by simp[Act.eval,Act.put]) (hcpB _ hF1 hF2 3 (G-(i+1)) (c-i)) ?_)
 go_wp2
 go_ret
 exact⟨rfl,rfl⟩
set_option maxHeartbeats 4000000 in
set_option maxRecDepth 100000 in
def ahn (hroom:n+1<=c)(hc63:c<=9223372036854775807)(hvl:vs.length=3)(hsp:∀j,j<3->(w.cell? ⟨b,n*3+j,none⟩).isSome=true)(hfz:∀j,j<3->w.frozen? ⟨b,n*3+j,none⟩=false)
  (hvs:∀j v,vs[j]?=some v->w.cell? ⟨vb,vo+j,none⟩=some v) (h1v:∀v∈vs,v.oneCell'=true):
  Calls Tryz.prog 272 #[.slice (some ⟨b,0,none⟩) n c,.int .i64 n,.slice (some ⟨vb,vo,none⟩) 1 vc] w λe w'=>
   e= .returned (.slice (some ⟨b,0,none⟩) (n+1) c)/\ w'=w.setCells b (n*3) vs:=by
 have mixed:=mix;have hsrc:Src Tryz.prog Tryz.t88.size 24 (.slice (some ⟨vb,vo,none⟩) 1 vc) 1 vs w:=Src.ofSlice w Tryz.underlying24 ⟨vb,vo,none⟩ 1 vc vs (by show vs.length=1*3;omega) (λj u hj=>by rw[Addr.add_lit];exact hvs j u hj) h1v
 have hrun:∀ty,(Builtin.append_ #[24,24] ty #[.slice (some ⟨b,0,none⟩) n c,.slice (some ⟨vb,vo,none⟩) 1 vc]).run Tryz.prog w= .ok (.slice (some ⟨b,0,none⟩) (n+1) c) (w.setCells b (n*3) vs):=λty=>by
  have h:=run_append_room_src w 24 24 ty 88 Tryz.t88 Tryz.underlying24 LS b 0 n c _ 1 vs hsrc hroom (by rw[hvl];intro j hj;rw[bX];exact hsp j hj) (by rw[hvl];intro j hj;rw[bX];exact hfz j hj);rw[bX] at h;exact h
 go_enter Tryz.func272,Tryz.ntmps272
 go_wp2_with (at_builtin;refine Lib.wpList_append_run _ rfl _ _ _ _ rfl _ _ rfl rfl _ _ (hrun _) ?_)
 go_ret
 exact⟨rfl,rfl⟩
set_option maxHeartbeats 4000000 in
set_option maxRecDepth 100000 in
def Yt (base:Option Addr)(hnc:n<=c)(hroom:c<n+1)(hbig:(n+1)*24<=140737488355328)(hcl:cs.length=n*3)(hvl:vs.length=3)(hnil:base=none->n=0)
  (hcs:∀a,base=some a->∀j v,cs[j]?=some v->w.cell? (a.add j)=some v) (hvs:∀j v,vs[j]?=some v->w.cell? ⟨vb,vo+j,none⟩=some v) (h1v:∀v∈vs,v.oneCell'=true):
  Calls Tryz.prog 272 #[.slice base n c,.int .i64 n,.slice (some ⟨vb,vo,none⟩) 1 vc] w λe w'=>
   e= .returned (.slice (some ⟨w.heap.size,0,none⟩) (n+1) (grownCap w (n+1) c 88))/\ w'=w.drew.alloc (.cells ((cs++vs).toArray++zcP (grownCap w (n+1) c 88-(n+1))) 88):=by
 have mixed:=mix;have hsrc:Src Tryz.prog Tryz.t88.size 24 (.slice (some ⟨vb,vo,none⟩) 1 vc) 1 vs w:=Src.ofSlice w Tryz.underlying24 ⟨vb,vo,none⟩ 1 vc vs (by show vs.length=1*3;omega) (λj u hj=>by rw[Addr.add_lit];exact hvs j u hj) h1v
 have hold:(Builtin.firstCells Tryz.t88.size n (.slice base n c)).run Tryz.prog w.drew= .ok cs.toArray w.drew:=by
  cases base with
  |none=>
   have h0:=hnil rfl;subst h0;rw[c9.1 (by omega:cs.length=0)];exact run_firstCells_none w.drew 3 0 0 c
  |some a=>exact run_firstCells_some w.drew 3 n a n c cs (by omega) (λj v hj=>hcs a rfl j v hj)
 have hrun:∀ty,(Builtin.append_ #[24,24] ty #[.slice base n c,.slice (some ⟨vb,vo,none⟩) 1 vc]).run Tryz.prog w= .ok (.slice (some ⟨w.heap.size,0,none⟩) (n+1) (grownCap w (n+1) c 88)) (w.drew.alloc (.cells ((cs++vs).toArray++zcP (grownCap w (n+1) c 88-(n+1))) 88)):=λty=>
  run_append_grow_src w 24 24 ty 88 Tryz.t88 zP Tryz.underlying24 LS NX base n c cs hold _ 1 vs hsrc hroom (by omega) (growslice_fits hroom hbig)
 go_enter Tryz.func272,Tryz.ntmps272
 cases base with
 |none=>
  have h0:=hnil rfl;subst h0
  go_wp2_with (at_builtin;refine Lib.wpList_append_run _ rfl _ _ _ _ rfl _ _ rfl rfl _ _ (hrun _) ?_)
  go_ret
  exact⟨rfl,rfl⟩
 |some a=>
  obtain⟨ab,ao,asp⟩:=a
  go_wp2_with (at_builtin;refine Lib.wpList_append_run _ rfl _ _ _ _ rfl _ _ rfl rfl _ _ (hrun _) ?_)
  all_goals (go_ret;exact⟨rfl,rfl⟩)
end
end Go.Proofs.YtfghdmmapmdcgaaGreat
