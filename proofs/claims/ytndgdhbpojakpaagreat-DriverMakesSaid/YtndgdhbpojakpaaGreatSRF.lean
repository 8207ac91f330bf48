import Derived.Test.YtndgdhbpojakpaaGreatSRD
set_option linter.unusedVariables false
set_option linter.unusedSimpArgs false
set_option linter.defProp false
noncomputable section
namespace Go.Proofs.YtndgdhbpojakpaaGreat
open Go.Sym Bnd
open Go.Shelf Go.RowKit Go.Lib
set_option maxRecDepth 100000
structure SrtW (l:List Pt)(t:Rt)(n B:Nat)(w w':World):Prop where
 row:∃arr',Row w' B arr'/\ n<=arr'.size/\ arr'.toList.take (l.length*3)=(dq t l).flatMap kI
 fr:Frm w.heap.size (λb=>b=B) w w'
def Ip:Prop:=∀{l:List Pt} {t:Rt},mZ l t->l≠[]->∀{w:World} {B cap b:Nat} {arr:Array Value},Row w B arr->B<w.heap.size->l.length<=cap->cap*3<=arr.size->arr.toList.take (l.length*3)=l.flatMap kI->b<w.heap.size->b≠B->
 w.cell? ⟨b,0,none⟩=some (.int .i64 t.num)->w.cell? ⟨b,1,none⟩=some (.int .i64 t.den)->
 Calls Tryz.prog 188 #[.slice (some ⟨B,0,none⟩) l.length cap,.func (.func 189) #[] #[.pointer (some ⟨b,0,none⟩)]] w λe w'=>e= .returned (.tuple #[])/\ SrtW l t (cap*3) B w w'
def Iq:Prop:=∀(p:Option Addr) (cap:Nat) (fv:Value) (w:World),Calls Tryz.prog 188 #[.slice p 0 cap,fv] w λe w'=>e= .returned (.tuple #[])/\ w'=w
def sub_kp {w:World}{S:Nat->Prop}(hS:∀B,S B->B<w.heap.size){w':World}(h:Frm w.heap.size (λ_=>False) w w'):Kp w S w' S:=⟨λ_ h=>h,λB hB=>h.block B (hS B hB) λh=>h⟩
def Ir {l:List Pt}{t:Rt}(h:mZ l t){w:World}{S:Nat->Prop}{v:Value}(hv:RT w S v (sl row l))(hS:∀B,S B->B<w.heap.size):
  Calls Tryz.prog 68 #[.agg #[v]] w λe w'=>e= .returned (.int .i64 0)/\∃q os,w'=Go.Sort.grow (w.drewN q) os:=by
 have m:=qm l;rw[dH.2 h.1] at m;exact Qf (fn:=Tryz.f68) (t:=65) (inW (by decide) m) (by kernel_rfl) Tryz.func68 rfl (by kernel_rfl) (by kernel_rfl) (.cons (.agg (.cons hv .nil) rfl) .nil) hS
def Is {l:List Pt}{t:Rt}(h:mZ l t)(w:World):
  Calls Tryz.prog 91 #[.agg #[.int .i64 t.num,.int .i64 t.den]] w λe w'=>e= .returned (.int .i64 0)/\∃q os,w'=Go.Sort.grow (w.drewN q) os:=by
 have m:=c43 h.2.1;rw[h.2.2] at m;exact Qf (fn:=Tryz.f91) (t:=65) (S:=λ_=>False) (inW (by decide) m) (by kernel_rfl) Tryz.func91 rfl (by kernel_rfl) (by kernel_rfl) (.cons (My t) .nil) (λ_ h=>h.elim)
structure Wk (w:World)(v:Value)(t:Rt)(w':World):Prop where
 fr:Frm w.heap.size (λ_=>False) w w'
 sz:w.heap.size+2<=w'.heap.size
 c0:w'.cell? ⟨w.heap.size,0,none⟩=some v
 c1:w'.cell? ⟨w.heap.size+1,0,none⟩=some (.int .i64 t.num)
 c2:w'.cell? ⟨w.heap.size+1,1,none⟩=some (.int .i64 t.den)
def yi (w:World)(a b:Obj)(k:Nat):((w.alloc a).alloc b).heap[k]?=if k=w.heap.size+1 then some b else if k=w.heap.size then some a else w.heap[k]?:=by
 show((w.heap.push a).push b)[k]?=_
 rw[sS,sS,qj]
def wk0 (w:World)(v:Value)(t:Rt):Wk w v t ((w.alloc (.cells #[v] 26)).alloc (.cells #[.int .i64 t.num,.int .i64 t.den] 23)):=by
 have hs:((w.alloc (.cells #[v] 26)).alloc (.cells #[.int .i64 t.num,.int .i64 t.den] 23)).heap.size=w.heap.size+2:=by
  show((w.heap.push _).push _).size=_
  rw[qj,qj]
 refine⟨⟨rfl,rfl,rfl,by omega,λk h _=>?_,aD _⟩,by omega,?_,?_,?_⟩
 .rw[yi,ac (by omega),ac (by omega)]
 .unfold World.cell?;rw[yi,ac (by simp),ad rfl];rfl
 .unfold World.cell?;rw[yi,ad rfl];rfl
 .unfold World.cell?;rw[yi,ad rfl];rfl
def FE (w:World)(q:Nat)(os:Array Obj)(n:Nat)(hn:n<=w.heap.size):Frm n (λ_=>False) w (Go.Sort.grow (w.drewN q) os):=
 ⟨rfl,rfl,rfl,by simp[World.drewN],λk h _=>Go.Sort.heap_grow_old _ _ (show k<w.heap.size by omega),pJ _ _⟩
def Wk.grow {w:World}{v:Value}{t:Rt}{w':World}(h:Wk w v t w')(q:Nat)(os:Array Obj):Wk w v t (Go.Sort.grow (w'.drewN q) os):=by
 have hs:=h.sz;refine⟨h.fr.trans (FE w' q os _ h.fr.size),?_,?_,?_,?_⟩
 .rw[Go.Sort.size_grow];show _<=w'.heap.size+_
  omega
 .rw[Go.Sort.cell?_grow _ _ _ (show w.heap.size<w'.heap.size by omega)]
  exact h.c0
 .rw[Go.Sort.cell?_grow _ _ _ (show w.heap.size+1<w'.heap.size by omega)]
  exact h.c1
 .rw[Go.Sort.cell?_grow _ _ _ (show w.heap.size+1<w'.heap.size by omega)]
  exact h.c2
def Zm (w:World)(S:Nat->Prop)(l:List Pt)(t:Rt)(u:Value)(w':World):Prop:=∃S':Nat->Prop,RT w' S' u (sl row (dq t l))/\ Frm w.heap.size (λ_=>False) w w'/\(∀B,S B->S' B)/\(∀B,S' B->B<w'.heap.size)/\(∀B,S' B->S B\/w.heap.size<=B)
def It (hC:Ip)(hN:Iq){l:List Pt}{t:Rt}(h:mZ l t){w:World}{S:Nat->Prop}(hS:∀B,S B->B<w.heap.size){v u:Value}{w1 w2:World}(k1:Wk w v t w1)(k2:Wk w v t w2)
  (hu:(l=[]/\ fm u)\/∃B cap arr,u= .slice (some ⟨B,0,none⟩) l.length cap/\ l.length<=cap/\ cap*3<=arr.size/\ Row w2 B arr/\ w1.heap.size<=B/\ B<w2.heap.size/\ arr.toList.take (l.length*3)=l.flatMap kI):
  Calls Tryz.prog 188 #[u,.func (.func 189) #[] #[.pointer (some ⟨w.heap.size+1,0,none⟩)]] w2 λe w'=>e= .returned (.tuple #[])/\ Zm w S l t u w':=by
 have hs1:=k1.sz;have hw2:=k2.fr.size;have nilc:∀p cap,l=[]->Calls Tryz.prog 188 #[.slice p 0 cap,.func (.func 189) #[] #[.pointer (some ⟨w.heap.size+1,0,none⟩)]] w2 λe w'=>e= .returned (.tuple #[])/\ w'=w2:=λp cap _=>hN p cap _ w2;rcases hu with⟨hl,hn⟩|⟨B,cap,arr,rfl,q1,q2,q3,q4,q5,q6⟩
 .have key:Calls Tryz.prog 188 #[u,.func (.func 189) #[] #[.pointer (some ⟨w.heap.size+1,0,none⟩)]] w2 λe w'=>e= .returned (.tuple #[])/\ w'=w2:=by
   rcases hn with rfl|⟨b,o,rfl⟩
   .exact nilc _ 0 hl
   .exact nilc _ 0 hl
  refine key.mono ?_;rintro e w' ⟨rfl,rfl⟩;subst hl;refine⟨rfl,S,?_,k2.fr,λ_ h=>h,λB hB=>bP (hS B hB) hw2,λB hB=> .inl hB⟩;have:dq t []=[]:=by simp[dq]
  rw[this];exact .nil hn
 .by_cases hl:l=[]
  .subst hl;refine(nilc _ cap rfl).mono ?_;rintro e w' ⟨rfl,rfl⟩;refine⟨rfl,λb=>S b\/b=B,?_,k2.fr,λ_ h=> .inl h,λb hB=>hB.elim (λh=>bP (hS b h) hw2) λe=>by omega,λb hB=>hB.elim .inl λe=> .inr (by omega)⟩;have:dq t []=[]:=by simp[dq]
   rw[this];obtain⟨ty,fz,hg,_⟩:=q3;exact .sl (z:=3) (.inr rfl) hg (by omega) rfl (bN _) (λ_ h=>by cases h) (by simp;exact .nil)
  .refine(hC h hl q3 q5 q1 q2 q6 (b:=w.heap.size+1) (by have:=k2.sz;omega) (by omega) k2.c1 k2.c2).mono ?_;rintro e w' ⟨rfl,⟨arr',r1,r2,r3⟩,fr⟩;have f2:Frm w.heap.size (λ_=>False) w2 w':=⟨fr.os,fr.tape,fr.output,fr.size,λk h1 h2=>fr.block k (by omega) (by omega),fr.drawn⟩;have hw':=fr.size;refine⟨rfl,λb=>S b\/b=B,?_,k2.fr.trans f2,λ_ h=> .inl h,λb hB=>hB.elim (λh=>by have:=hS b h;omega) λe=>by omega,λb hB=>hB.elim .inl λe=> .inr (by omega)⟩;obtain⟨ty,fz,hg,_⟩:=r1;refine .sl (z:=3) (.inr rfl) hg (by omega) (by rw[aj];exact(dQ t l).length_eq) q1 (λr hr=>?_) ?_
   .obtain⟨p,_,rfl⟩:=bg.1 hr;exact⟨rfl,rfl⟩
   .rw[dr,r3];exact Fk
set_option maxHeartbeats 4000000 in
def OC (hC:Ip)(hN:Iq){l:List Pt}{t:Rt}(h:mZ l t){w:World}{S:Nat->Prop}{v:Value}(hv:RT w S v (sl row l))(hS:∀B,S B->B<w.heap.size):
  Calls Tryz.prog 126 #[.agg #[v],.agg #[.int .i64 t.num,.int .i64 t.den]] w λe w'=>∃u,e= .returned (.tuple #[u,.int .i64 0])/\ Zm w S l t u w':=by
 have hl:l.length<=1000:=by have:=h.1.1;omega
 have hS':∀{w':World},Wk w v t w'->∀B,S B->B<w'.heap.size:=λk B hB=>bP (hS B hB) k.fr.size;have hv':∀{w':World},Wk w v t w'->RT w' S v (sl row l):=λk=>hv.mono (sub_kp hS k.fr);have h1:=λw' (k:Wk w v t w')=>Ir h (hv' k) (hS' k);have h2:=Is h;have h3:=λw' (k:Wk w v t w')=>MA hl (hv' k) (hS' k);have k0:=wk0 w v t;have fin:∀u w1 w2,Wk w v t w1->Wk w v t w2->_->_:=λu w1 w2 k1 k2 hu=>It (S:=S) (u:=u) (w1:=w1) (w2:=w2) hC hN h hS k1 k2 hu
 go_enter Tryz.func126,Tryz.ntmps126
 go_wp2_with (first
  |(go_at_call 68;refine(h1 _ k0).mono ?_;rintro e w1 ⟨rfl,n1,o1,hw⟩;have k1:=k0.grow n1 o1;rw[<-hw] at k1;clear hw;obtain⟨f1,z1,a1,b1,c1⟩:=id k1)
  |(go_at_call 91;refine(h2 _).mono ?_;rintro e w2 ⟨rfl,n2,o2,hw⟩;have k2:=k1.grow n2 o2;rw[<-hw] at k2;clear hw;obtain⟨f2,z2,a2,b2,c2⟩:=id k2)
  |(go_at_call 43;refine(h3 _ k2).mono ?_;rintro e w3 ⟨u,rfl,⟨n3,o3,hw⟩,hu⟩;have k3:=k2.grow n3 o3;rw[<-hw] at k3;clear hw;obtain⟨f3,z3,a3,b3,c3⟩:=id k3)
  |(go_at_call 188;refine(fin u w2 w3 k2 k3 hu).mono ?_;rintro e w4 ⟨rfl,hf⟩))
 (try simp only[Exit.inBlock,Exit.then]);refine bodyPost_ret (results_tmp2 rfl _ _ _) rfl ?_
 exact⟨u,rfl,hf⟩
end Go.Proofs.YtndgdhbpojakpaaGreat
