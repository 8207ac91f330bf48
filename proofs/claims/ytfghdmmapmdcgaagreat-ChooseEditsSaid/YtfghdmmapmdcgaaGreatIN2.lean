import Derived.Test.YtfghdmmapmdcgaaGreatIN
import Derived.Test.YtfghdmmapmdcgaaGreatM3
set_option linter.unusedVariables false
set_option linter.unusedSimpArgs false
set_option linter.defProp false
noncomputable section
namespace Go.Proofs.YtfghdmmapmdcgaaGreat
open Go.Shelf Go.RowKit Go.Lib Go.Sym
def jX (b:Nat):∀(vs:List Value) (o:Nat) (w:World) (arr:Array Value) (ty:TypeId) (fz:Nat×Nat),w.heap[b]?=some (.cells arr ty fz)->o+vs.length<=arr.size->
  But b w (w.setCells b o vs)/\∃arr',(w.setCells b o vs).heap[b]?=some (.cells arr' ty fz)/\ arr'.toList=arr.toList.take o++(vs++arr.toList.drop (o+vs.length))
 |[],o,w,arr,ty,fz,h,_=>⟨.refl,arr,h,by simp⟩
 |v::vs,o,w,arr,ty,fz,h,hl=>by
  rw[bA] at hl;have hset:(w.setCell ⟨b,o,none⟩ v).heap[b]?=some (.cells (arr.setIfInBounds o v) ty fz):=by
   simp only[World.setCell,jY,aA,h];simp
  obtain⟨h1,arr',h2,h3⟩:=jX b vs (o+1) (w.setCell ⟨b,o,none⟩ v) _ ty fz hset (by simp;omega);refine⟨(But.setCell (w:=w) ⟨b,o,none⟩ v).trans h1,arr',h2,?_⟩;have hs:(arr.setIfInBounds o v).toList=(arr.toList.take o++[v])++arr.toList.drop (o+1):=by
   rw[eR,List.set_eq_take_append_cons_drop,ad (by simp;omega),aU];rfl
  have hl1:(arr.toList.take o++[v]).length=o+1:=by simp;omega
  rw[h3,hs,cI hl1,<-fA,ia hl1,fA,bA,aU,df,lR 1];rfl
def FD {w:World}{b:Nat}{arr:Array Value}{ty:TypeId}{fz:Nat×Nat}(h:w.heap[b]?=some (.cells arr ty fz))(j:Nat):w.cell? ⟨b,j,none⟩=arr[j]?:=by
 simp[World.cell?,h]
def LT {w:World}{b:Nat}{arr:Array Value}{ty:TypeId}{fz:Nat×Nat}(h:w.heap[b]?=some (.cells arr ty fz))(hf:py arr.size fz){j:Nat}(hj:j<=arr.size):w.frozen? ⟨b,j,none⟩=false:=by
 have:=hf j hj;simp only[World.frozen?,h,uY,ak];omega
def Ag {w:World}{b:Nat}{arr:Array Value}{ty:TypeId}{fz:Nat×Nat}(h:w.heap[b]?=some (.cells arr ty fz)){o k:Nat}(j:Nat)(v:Value)(hv:((arr.toList.drop o).take k)[j]?=some v):w.cell? ⟨b,o+j,none⟩=some v:=by
 rw[FD h];rw[fY] at hv;split at hv
 .rwa [eE,cC] at hv
 .cases hv
def tZ {w w':World}{B:Nat}{Q:Nat->Prop}(h:But B w w')(hQ:Q B\/w.heap.size<=B):Frm w.heap.size Q w w':=
 ⟨h.os,h.tape,h.output,h.size,λk h1 h2=>h.block k (λe=>by subst e;exact hQ.elim h2 (by omega)) h1,h.drawn⟩
def Kv (w:World){n c:Nat}(h:n<1000000):n+1<=Go.grownCap w (n+1) c 88/\ Go.grownCap w (n+1) c 88<=9223372036854775807:=
 ⟨Go.grownCap_ge w _ _ _,by have:=Go.grownCap_le_maxLen w (n+1) c 88 (by unfold maxLen;omega);unfold maxLen at this;omega⟩
def aho:adc Tryz.prog 3 272:=by
 intro w B n c i vb vo vc arr arrv ty tyv fz fzv hg hun hnc hcm hca hn hi hgv hvo hvb h1c h1v;have hcl:(arr.toList.take (n*3)).length=n*3:=by rw[aK,bm];omega
 have hvl:((arrv.toList.drop vo).take 3).length=3:=by rw[aK,bu,bm];omega
 have hvs:=Ag hgv (o:=vo) (k:=3);have hcs:∀j v,(arr.toList.take (n*3))[j]?=some v->w.cell? ⟨B,j,none⟩=some v:=λj v hv=>by
  have:=Ag hg (o:=0) (k:=n*3) j v (by rwa [cL]);rwa [bX] at this
 have hb:B<w.heap.size:=(cx.1 hg).1;generalize hV:(arrv.toList.drop vo).take 3=V at hvl hvs h1v;have hGc:=Kv w (c:=c) hn;by_cases hroom:n+1<=c
 .by_cases hin:i<n
  .refine(ahl B n c i vb vo vc (arr.toList.take (n*3)) V w hin hroom hcm hvb hcl hvl hcs (λj hj=>by rw[FD hg,dC (by omega)];rfl) (λj hj=>LT hg hun (by omega)) hvs h1c h1v tyv ty arrv.size arr.size (by simp[World.shape?,hgv]) (by simp[World.shape?,hg]) (by omega) (LT hg hun (aC _))).mono ?_;rintro e w' ⟨rfl,rfl⟩;have hdl:((arr.toList.take (n*3)).drop (i*3)).length=(n-i)*3:=by rw[bu,hcl];omega
   obtain⟨b1,arr1,g1,e1⟩:=jX B ((arr.toList.take (n*3)).drop (i*3)) ((i+1)*3) w.drew arr ty fz hg (by omega);have s1:arr1.size=arr.size:=by rw[<-bm,e1];simp only[aB,aK,bu,bm];omega
   obtain⟨b2,arr2,g2,e2⟩:=jX B V (i*3) _ arr1 ty fz g1 (by omega);have s2:arr2.size=arr.size:=by rw[<-bm,e2];simp only[aB,aK,bu,bm];omega
   refine⟨B,⟨c,arr2,rfl,⟨hroom,hcm⟩,by omega,⟨ty,fz,g2,by rw[s2];exact hun⟩,?_⟩,.inl rfl,?_,tZ (But.drew.trans (b1.trans b2)) (.inl rfl)⟩
   .rw[e2,e1,hvl];have t1:(List.take ((i+1)*3) arr.toList++(List.drop (i*3) (List.take (n*3) arr.toList)++List.drop ((i+1)*3+((arr.toList.take (n*3)).drop (i*3)).length) arr.toList)).take (i*3)=arr.toList.take (i*3):=by
     rw[ed (by simp;omega),cO,bH (by omega)]
    have t2:(List.take ((i+1)*3) arr.toList++(List.drop (i*3) (List.take (n*3) arr.toList)++List.drop ((i+1)*3+((arr.toList.take (n*3)).drop (i*3)).length) arr.toList)).drop (i*3+3)=List.drop (i*3) (List.take (n*3) arr.toList)++List.drop ((i+1)*3+((arr.toList.take (n*3)).drop (i*3)).length) arr.toList:=
     ia (by simp;omega)
    rw[t1,t2,<-aU,<-aU,cI (by simp only[aB,aK,hdl,hvl,bm];omega),aU,dH,<-p9]
   .exact cj hb (bM (But.drew (B:=B) (w:=w)).size (bM b1.size b2.size))
  .obtain rfl:i=n:=by omega
   refine(ahn B i c vb vo vc V w hroom hcm hvl (λj hj=>by rw[FD hg,dC (by omega)];rfl) (λj hj=>LT hg hun (by omega)) hvs h1v).mono ?_;rintro e w' ⟨rfl,rfl⟩;obtain⟨b2,arr2,g2,e2⟩:=jX B V (i*3) w arr ty fz hg (by omega);have s2:arr2.size=arr.size:=by rw[<-bm,e2];simp only[aB,aK,bu,bm];omega
   refine⟨B,⟨c,arr2,rfl,⟨hroom,hcm⟩,by omega,⟨ty,fz,g2,by rw[s2];exact hun⟩,?_⟩,.inl rfl,cj hb b2.size,tZ b2 (.inl rfl)⟩;rw[e2,fL,lT,fC,aR,<-aU,cI (by simp only[aB,aK,hvl,bm];omega)]
 .by_cases hin:i<n
  .refine(ahm B n c i vb vo vc (arr.toList.take (n*3)) V w hin hnc (by omega) (by omega) hcl hvl hcs hvs h1c h1v).mono ?_;rintro e w' ⟨rfl,rfl⟩;generalize hGe:Go.grownCap w (n+1) c 88=G at hGc|-;obtain⟨ROW,hR⟩:∃ROW:Array Value,ROW=(List.take (i*3) (arr.toList.take (n*3))).toArray++zcP (n+1-i)++zcP (G-(n+1)):=⟨_,rfl⟩;rw[<-hR];have hRs:ROW.size=G*3:=by rw[hR];simp only[iA,vS,jT,aK,bm];omega
   have hRt:ROW.toList.take (i*3)=arr.toList.take (i*3):=by
    rw[hR];simp only[kR,aU];rw[cI (by simp only[aK,bm];omega),cO,bH (by omega)]
   have hdl:((arr.toList.take (n*3)).drop (i*3)).length=(n-i)*3:=by rw[bu,hcl];omega
   obtain⟨b1,arr1,g1,e1⟩:=jX w.heap.size V (i*3) (w.alloc (.cells ROW 88)).drew ROW 88 (0,0) (jH w _) (by omega);have s1:arr1.size=ROW.size:=by rw[<-bm,e1];simp only[aB,aK,bu,bm];omega
   obtain⟨b2,arr2,g2,e2⟩:=jX w.heap.size ((arr.toList.take (n*3)).drop (i*3)) ((i+1)*3) (((w.alloc (.cells ROW 88)).drew.setCells w.heap.size (i*3) V).drew) arr1 88 (0,0) g1 (by omega);have s2:arr2.size=ROW.size:=by rw[<-bm,e2];simp only[aB,aK,bu,bm];omega
   refine⟨w.heap.size,⟨G,arr2,rfl,hGc,by omega,⟨88,(0,0),g2,ov _⟩,?_⟩,.inr rfl,(cx.1 g2).1,tZ ((But.alloc _).trans (But.drew.trans (b1.trans (But.drew.trans b2)))) (.inr (aC _))⟩;have t1:arr1.toList.take ((i+1)*3)=arr.toList.take (i*3)++V:=by
    rw[e1,hRt,<-aU,cI (by simp only[aB,aK,hvl,bm];omega)]
   rw[e2,t1,<-aU,cI (by simp only[aB,aK,hdl,hvl,bm];omega),aU,dH,<-p9]
  .obtain rfl:i=n:=by omega
   refine(Yt i c vb vo vc (arr.toList.take (i*3)) V w (some ⟨B,0,none⟩) hnc (by omega) (by omega) hcl hvl (λh=>by cases h) (λa ha j v hv=>by cases ha;rw[Addr.add_lit,bX];exact hcs j v hv) hvs h1v).mono ?_;rintro e w' ⟨rfl,rfl⟩;generalize hGe:Go.grownCap w (i+1) c 88=G at hGc|-;refine⟨w.heap.size,⟨G,_,rfl,hGc,?_,⟨88,(0,0),jH w.drew _,ov _⟩,?_⟩,.inr rfl,(cx.1 (jH w.drew _)).1,tZ (But.drew.trans (.alloc _)) (.inr (aC _))⟩
   .simp only[iA,vS,jT,aB,hcl,hvl];omega
   .simp only[kR];rw[cI (by simp only[aB,hcl,hvl];omega),fL,lT,fC,aR]
def ahp:ade Tryz.prog 3 272:=by
 intro w p vb vo vc arrv tyv fzv hgv hvo h1v;have hvl:((arrv.toList.drop vo).take 3).length=3:=by rw[aK,bu,bm];omega
 have hvs:=Ag hgv (o:=vo) (k:=3);generalize hV:(arrv.toList.drop vo).take 3=V at hvl hvs h1v;have hGc:=Kv w (n:=0) (c:=0) (by omega);refine(Yt 0 0 vb vo vc [] V w p (aC _) (by omega) (by omega) rfl hvl (λ_=>rfl) (λa ha j v hv=>by simp at hv) hvs h1v).mono ?_;rintro e w' ⟨rfl,rfl⟩;generalize hGe:Go.grownCap w (0+1) 0 88=G at hGc|-;refine⟨w.heap.size,⟨G,_,rfl,hGc,?_,⟨88,(0,0),jH w.drew _,ov _⟩,?_⟩,.inr rfl,(cx.1 (jH w.drew _)).1,tZ (But.drew.trans (.alloc _)) (.inr (aC _))⟩
 .simp only[iA,vS,jT,aT,hvl];omega
 .simp only[kR,aT];rw[cI (by omega)]
end Go.Proofs.YtfghdmmapmdcgaaGreat
