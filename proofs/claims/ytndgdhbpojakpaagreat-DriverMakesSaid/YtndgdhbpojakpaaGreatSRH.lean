import Derived.Test.YtndgdhbpojakpaaGreatSRG
import Derived.Test.YtndgdhbpojakpaaGreatSF
set_option linter.unusedVariables false
set_option linter.unusedSimpArgs false
set_option linter.defProp false
noncomputable section
namespace Go.Proofs.YtndgdhbpojakpaaGreat
open Go.Sym Bnd
open Go.Shelf Go.RowKit Go.Lib Go.Sort
set_option maxRecDepth 100000
def Fl {α:Type}(f:α->List Value)(hf:∀x,(f x).length=3):∀(l:List α) (i j:Nat),j<3->(l.flatMap f)[i*3+j]?=(l[i]?).bind λx=>(f x)[j]?
 |[],i,j,_=>by simp
 |a::l,0,j,hj=>by
  rw[eu,aH (by rw[hf];omega)];simp
 |a::l,i+1,j,hj=>by
  rw[eu,bC (by rw[hf];omega),hf,show(i+1)*3+j-3=i*3+j by omega,Fl f hf l i j hj]
  rfl
def MC {α:Type}(f:α->List Value)(hf:∀x,(f x).length=3)(l:List α):(l.flatMap f).length=l.length*3:=by
 induction l with
 |nil=>rfl
 |cons a l ih=>rw[eu,aE,hf,ih,bj];omega
def yj {α:Type}[Inhabited α](f:α->List Value)(hf:∀x,(f x).length=3)(d:Array α):(flatK f 3 d).toList=d.toList.flatMap f:=by
 apply cB;intro n;by_cases hn:n<d.size*3
 .have h1:(flatK f 3 d).toList[n]?=some (flatK f 3 d)[n]!:=by
   rw[bH,cQ (by simpa using hn),gE _ n (by simpa using hn)]
  rw[h1,get_flatK f 3 d n hn];have e:n=n/3*3+n% 3:=by omega
  have hi:n/3<d.size:=by omega
  conv=>rhs;rw[e,Fl f hf d.toList (n/3) (n% 3) (by omega)]
  rw[bH,cQ hi,gE d (n/3) hi];show _=(f (d[n/3]'hi))[n% 3]?
  have hj:n% 3<(f (d[n/3]'hi)).length:=by rw[hf];omega
  rw[ak hj,gE (f (d[n/3]'hi)) (n% 3) hj]
 .rw[bI (by rw[cP,size_flatK];omega),bI (by rw[MC f hf,cP];omega)]
def OD {l:List Pt}{t:Rt}(h:mZ l t){p q:Pt}(hp:p∈l)(hq:q∈l):decide (Fi t p q<0)=leads t p q:=by
 have hi:=cM h.1.2.2;unfold Fi;by_cases e:p.id=q.id
 .have:=hi.inj hp hq e;subst this;rw[ad rfl,qh];rfl
 .rw[ac e];have o1:=aQ.1 h.1.2.1 p hp;have o2:=aQ.1 h.1.2.1 q hq;unfold rj;rw[aq (jm o1 o2 h.2.2 e),eF];cases leads t p q<;>rfl
def FF {α:Type}[Inhabited α](f:α->List Value)(w:World)(B m:Nat)(dk:Array α)(os:Array Obj){b:Nat}(hb:b<w.heap.size)(hne:b≠B):(sortWorldK f 3 w B 0 m dk os).heap[b]?=w.heap[b]?:=by
 unfold sortWorldK;rw[heap_grow_old _ _ (by rw[size_putRowK];exact hb)];show(w.heap.modify B _)[b]?=_
 rw[eN,ac (λe=>hne e.symm)]
def Ah (F arr:Array Value)(h:F.size<=arr.size):(putCells id 0 F arr).toList.take F.size=F.toList:=by
 apply cB;intro k;by_cases hk:k<F.size
 .rw[dC hk,bH];unfold putCells;rw[rk,cQ (by omega)];simp[hk]
 .rw[bI (by simp;omega),bI (by simp;omega)]
def RC {α:Type}[Inhabited α]{enc:α->List Value}(he:∀x,(enc x).length=3){w:World}{B n:Nat}{dm:Array α}{os:Array Obj}{arr:Array Value}(hrow:Row w B arr)(hB:B<w.heap.size)(hs:dm.size*3<=arr.size):
  ∃arr',Row (sortWorldK enc 3 w B 0 n dm os) B arr'/\ arr'.size=arr.size/\ arr'.toList.take (dm.size*3)=dm.toList.flatMap enc:=by
 obtain⟨ty,fz,hg,hun⟩:=hrow;have hz:(putCells id 0 (flatK enc 3 dm) arr).size=arr.size:=by simp[putCells]
 refine⟨putCells id 0 (flatK enc 3 dm) arr,⟨ty,fz,?_,by rw[hz];exact hun⟩,hz,?_⟩
 .unfold sortWorldK;rw[heap_grow_old _ _ (by rw[size_putRowK];exact hB)];show(w.heap.modify B _)[B]?=_
  rw[eN,ad rfl,hg];rfl
 .have:=Ah (flatK enc 3 dm) arr (by rw[size_flatK];exact hs);rw[size_flatK,yj enc he] at this;exact this
def RD {α:Type}[Inhabited α](enc:α->List Value)(w:World)(B n:Nat)(dm:Array α)(os:Array Obj):Frm w.heap.size (λb=>b=B) w (sortWorldK enc 3 w B 0 n dm os):=by
 refine⟨rfl,rfl,rfl,?_,λk h1 h2=>?_,pJ _ _⟩
 .unfold sortWorldK;rw[size_grow,size_putRowK];show w.heap.size<=w.heap.size+_
  omega
 .unfold sortWorldK;rw[heap_grow_old _ _ (by rw[size_putRowK];exact h1)];show(w.heap.modify B _)[k]?=_
  rw[eN,ac (λe=>h2 e.symm)]
def adZ:Ip:=by
 intro l t h hne w B cap b arr hrow hB hcap hsz hcells hb hbB h0 h1;obtain⟨ty,fz,hg,hun⟩:=hrow;obtain⟨p0,hp0⟩:∃p,p∈l:=ow l hne
 let α:={p:Pt//p∈l}
 haveI:Inhabited α:=⟨⟨p0,hp0⟩⟩
 let enc:α->List Value:=λx=>kI x.1
 let cf:α->α->Int:=λx y=>Fi t x.1 y.1
 have hlt:∀x y:α,ltOf cf x y=leads t x.1 y.1:=λx y=>OD h x.2 y.2;have hi:=cM h.1.2.2;have hO:SWO (ltOf cf):=⟨λx=>by rw[hlt];exact qh _ _,λx y z a c=>by rw[hlt] at*;exact ki a c,λx y z a c=>by
  rw[hlt] at*;cases e:leads t x.1 z.1 with
  |false=>rfl
  |true=>
   by_cases e1:x.1.id=y.1.id
   .rw[hi.inj x.2 y.2 e1,c] at e;cases e
   .by_cases e2:y.1.id=z.1.id
    .rw[<-hi.inj y.2 z.2 e2,a] at e;cases e
    .have a':=om (t:=t) e1;rw[a] at a';have c':=om (t:=t) e2;rw[c] at c';have:=ki c' a';rw[iV e] at this;cases this⟩
 have hT:∀x y,ltOf cf x y=false->ltOf cf y x=false->x=y:=λx y a c=>by
  rw[hlt] at a c;by_cases e:x.1.id=y.1.id
  .exact Subtype.ext (hi.inj x.2 y.2 e)
  .rcases leads_total (t:=t) e with q|q
   .rw[q] at a;cases a
   .rw[q] at c;cases c
 let d:Array α:=l.attach.toArray
 have hd:d.size=l.length:=by rw[show d.size=l.attach.length from nX ..,List.length_attach]
 have hdl:d.toList.map Subtype.val=l:=by simp[d]
 have hfl:(flatK enc 3 d).toList=l.flatMap kI:=by
  rw[yj enc (λ_=>rfl) d]
  conv=>rhs;rw[<-hdl,List.flatMap_map]
 have hBig:l.length*3<=arr.size:=by omega
 have hH:HoldsK enc 3 w B 0 d:=λj hj=>by
  rw[size_flatK,hd] at hj;have hj':j<(flatK enc 3 d).size:=by rw[size_flatK,hd];exact hj
  have e1:(flatK enc 3 d).toList[j]?=some (flatK enc 3 d)[j]!:=by
   rw[bH,cQ hj',gE _ j hj']
  rw[hfl,<-hcells,dC hj] at e1;refine⟨?_,?_⟩
  .simp only[World.cell?,hg,b7];rw[<-bH,e1];rfl
  .have:=hun j (by omega);simp only[World.frozen?,hg,b7];simpa using this
 have hcmp:CmpLays Tryz.prog 189 #[.pointer (some ⟨b,0,none⟩)] enc 3 cf B 0 d.size w:=λm os dk hs x y=>by
  have ho:=FF enc w B m dk os hb hbB;refine RA x.1 y.1 h.2.1 b _ ?_ ?_ ?_
  .unfold sortWorldK;rw[size_grow,size_putRowK];show b<w.heap.size+_
   omega
  .unfold World.cell? at h0|-;rw[ho];exact h0
  .unfold World.cell? at h1|-;rw[ho];exact h1
 have key:=AnyQ.slices_SortFunc_total Qe 3 Tryz.isAgg116 Tryz.sizeOf116 enc (λ_=>rfl) (λx v hv=>by simp[enc,kI] at hv;rcases hv with rfl|rfl|rfl<;>rfl) cf hO 189 #[.pointer (some ⟨b,0,none⟩)] B 0 cap d w (enters_of Tryz.func189 (by kernel_rfl) rfl) hcmp hH hB (by rw[hd];have:=h.1.1;omega) hT
 rw[hd] at key;refine Calls.mono (show Calls Tryz.prog 188 _ _ _ from key) ?_
 rintro e w' ⟨rfl,n,os,rfl⟩;refine⟨rfl,?_,RD ..⟩;have hdm:(d.toList.mergeSort λx y=>!(ltOf cf) y x).toArray.size=l.length:=by
  rw[nX,lg,cP,hd]
 obtain⟨arr',r1,r2,r3⟩:=RC (enc:=enc) (λ_=>rfl) (n:=n) (os:=os) (dm:=(d.toList.mergeSort λx y=>!(ltOf cf) y x).toArray) (⟨ty,fz,hg,hun⟩:Row w B arr) hB (by rw[hdm];exact hBig);refine⟨arr',r1,by omega,?_⟩;rw[hdm] at r3;rw[r3];have hm:(d.toList.mergeSort λx y=>!(ltOf cf) y x).map Subtype.val=dq t l:=by
  rw[List.map_mergeSort (s:=λp q=>!leads t q p) (λx _ y _=>by rw[hlt]),hdl];rfl
 rw[<-hm,List.flatMap_map]
def ad0:Iq:=λp cap fv w=>AnyF.slices_SortFunc_none Qe p cap fv w
end Go.Proofs.YtndgdhbpojakpaaGreat
