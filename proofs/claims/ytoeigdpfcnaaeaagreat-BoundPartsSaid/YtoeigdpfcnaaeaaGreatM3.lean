import Derived.Test.YtoeigdpfcnaaeaaGreatM2
import Derived.ChangeArms
import Derived.DataReads
import Derived.ProofKit
import Derived.Sort.Row
import Derived.Sort.Grow
import Derived.KernelRfl
set_option linter.unusedVariables false
set_option linter.unusedSimpArgs false
set_option linter.defProp false
noncomputable section
namespace Go.Sym
open Go.RowKit
section
variable {D:Dcf}{F:Fn}{Φ:FuncId->List PV->Option (List PV)}{N:Nat}{rs:List PV}{base:Nat}{L:Nat->Prop}{Xb:Cx}{nt:Nat}{n:Nat}{κ:List SF}{J:Js}{e0:List PV}{Q:Exit->Act->World->Prop}
def Kont.inl (ih:∀i,i<n->Sok D F Φ N rs base L i)(h:Kont D F Φ N rs base L Xb nt n κ J e0 Q){X:Cx}{a:Act}{σ:SS}{m:Nat}(hI:Iv base L Xb nt X a σ m)(he:∃y,X.e=e0++y){dst:Option Tmp}{ops:Array Oper}{rest:List Oper}{fn:Func}{nt':Nat}:
  Kont D F Φ N rs base L X nt' n (.inl σ.nb σ.n σ.tm dst ops rest fn.results.toList::κ) J X.e (bodyPost D.P fn λex w=>∃u,ex= .returned u/\ wpList D.P ops Q rest (a.put dst u) w):=by
 refine⟨λb hb=>by rw[<-hI.hσ];exact hI.st.cn b hb,⟨[],by simp⟩,λi hi ex σ' m' hs k hs' X' a' J' h1 h2 ⟨y',hy'⟩ hI'=>?_⟩;cases i with
 |zero=>cases h1
 |succ i=>
  have key:(match vN D.P σ' fn.results.toList m' σ'.sz with
    |some (ws,l,z)=>match({σ' with n:=σ.n,tm:=σ.tm,sz:=z++σ'.sz}:SS).setT dst (vM ws) with
     |some σ''=>match sym D F i (.ops ops rest) σ'' (m'+l.length) κ (J++J').length hs with
      |some (k,hs)=>some (oU l k,hs)
      |none=>none
     |none=>none
    |none=>none)=some (k,hs')->a'.defers=[]/\∃v,(results fn a'.tmps).run D.P X'.w= .ok v X'.w/\∃u,Ending.returned v= .returned u/\ wpList D.P ops Q rest (a.put dst u) X'.w:=by
   intro h1;refine⟨hI'.ds,?_⟩;split at h1
   .rename_i ws l z hrd;split at h1
    .rename_i σ'' hset;split at h1
     .rename_i k' hs2 hk;cases h1;obtain⟨vals,v1,v2,v3⟩:=lI h2;have hσ':=hI'.hσ;have hx:=xS hI'.st.mr hI'.st.cn (y:=vals) (N:=0);have hρ:EvR (X'.ex vals 0) a'.eval:=uA hx.mr (by
       show∀t sv,look X'.σ.tm t=some sv->_
       rw[hσ'];exactλt sv ht=>let⟨v,q1,q2⟩:=hI'.tm t sv ht;⟨v,q1,q2.step hx.sx⟩)
      obtain⟨s1,us,s2,s3⟩:=vW (P:=D.P) hx.mr hρ (rs:=fn.results.toList) m' σ'.sz _ _ _ (by show vN D.P X'.σ _ _ _=_;rw[hσ'];exact hrd) (by rw[<-hI'.len];exact v2) (by rw[<-hσ'];exact hx.mr.sz)
      have s2:(fn.results.toList.mapM (CB a'.tmps)).run D.P X'.w= .ok us X'.w:=s2;refine⟨kS us,y9 s2,kS us,rfl,?_⟩;obtain⟨g1,g2,g3,g4,g5,g6,g7⟩:=l9 hset;have hst:Ste (X'.ex vals 0) base L {X'.ex vals 0 with σ:=σ''}:=(px hx.mr (σ':=σ'') (λb=>by rw[g1];show look σ'.bl b=look X'.σ.bl b;rw[hσ']) (by rw[g2];show σ'.nb=X'.σ.nb;rw[hσ']) (by
       rw[g5];exact s1.append (by rw[<-hσ'];exact hx.mr.sz)) (by rw[g4];show∀p∈σ'.fc,_;rw[<-hσ'];exact hx.mr.fc)).ste hx.cn
      have hall:Ste X base L {X'.ex vals 0 with σ:=σ''}:=(hI'.st.trans hx).trans hst
      obtain⟨y,hy⟩:=he;have hlen:(m'+l.length)=(X'.e++vals).length:=by rw[aC,hI'.len,v1]
      refine ih i (by omega) (X:={X'.ex vals 0 with σ:=σ''}) (e0:=e0) hk v3 ((h.le (by omega)).app) ⟨y++(y'++vals),by show X'.e++vals=_;rw[hy',hy];simp⟩ ⟨rfl,hlen.symm,λt sv ht=>?_,by rw[xR];exact hI.ds,by rw[rS];exact hI.n,by rw[g3];exact hI.n',hI.st.trans hall⟩
      have hlt:∀t,dst=some t->t<a.tmps.size:=λt ht=>by have:=g7 t ht;rw[hI.n,<-hI.n'];exact this
      rw[g6] at ht;rw[uE hlt];split at ht
      .rename_i e;cases ht;rw[ad e];exact⟨_,rfl,(qZ s3).step hst.sx⟩
      .rename_i e;rw[ac e];obtain⟨v,q1,q2⟩:=hI.tm t sv ht;exact⟨v,q1,q2.step hall.sx⟩
     .cases h1
    .cases h1
   .cases h1
  unfold sym at h1;simp only at h1;split at h1
  .cases h1
  .cases ex with
   |normal=>exact key h1
   |ret=>exact key h1
   |exit id=>rename_i hne;exact absurd rfl (hne id)
def Qn {σ:SS}{op:Op}{m:Nat}{r:Ores}(h:n9 D σ op m=some r):r.σ.n=σ.n/\ r.σ.tm=σ.tm:=by
 unfold n9 at h
 (repeat' split at h)<;>first|(cases h;done)|(cases h;exact⟨rfl,rfl⟩)
def BB:∀{ws:List SW} {i t:Nat} {sv:SV},look (oa i ws) t=some sv->∃w,sv= .w w/\ i<=t/\ ws[t-i]?=some w
 |[],_,_,_,h=>by cases h
 |w::ws,i,t,sv,h=>by
  rw[oa,dZ] at h;split at h
  .rename_i e;cases h;exact⟨w,rfl,by omega,by rw[<-e];simp⟩
  .obtain⟨w',h1,h2,h3⟩:=BB h;exact⟨w',h1,by omega,by rw[show t-i=(t-(i+1))+1 by omega];simpa using h3⟩
def v8 {X:Cx}{vs:Array Value}{ws:List SW}{k:Nat}(h:F2 (WR X) vs.toList ws):tG X (oa 0 ws) (vs++Array.replicate (k-vs.size) undef):=by
 intro t sv hl;obtain⟨w,rfl,_,h3⟩:=BB hl;obtain⟨v,h4,h5⟩:=h.get' t w (by simpa using h3)
 have hlt:t<vs.size:=by have:=(aD.1 h4).1;simpa using this
 exact⟨v,by rw[qn hlt];simpa using h4,.w h5⟩
def acy (hΦ:∀g ps rs,Φ g ps=some rs->iN D g ps rs)(hL:D.loud=true->L base)(ih:∀i,i<=n->Sok D F Φ N rs base L i){ops:Array Oper}{o:Oper}{os:List Oper}{σ:SS}{m:Nat}{hs hs':List Hint}{k:K}{X:Cx}{a:Act}(h:sym D F (n+1) (.ops ops (o::os)) σ m κ J.length hs=some (k,hs'))(hd:den Φ N k J X.e=some rs)
  (hK:Kont D F Φ N rs base L Xb nt (n+1) κ J e0 Q) (he:∃y,X.e=e0++y) (hI:Iv base L Xb nt X a σ m):wpList D.P ops Q (o::os) a X.w:=by
 have hK':=hK.le (ew n);have hw:∀{b:Bool},rJ ops σ o=some (.go b)->Region.wanted o (yielded ops a.tmps)=b:=λhg=>xQ (X:=X) hI.facts.2.1 (λt _=>hI.tm t) hg;have hlt:∀{σ1:SS} {dst:Option Tmp},σ1.n=σ.n->(∀t,dst=some t->t<σ1.n)->∀t,dst=some t->t<a.tmps.size:=λh1 h2 t ht=>by have:=h2 t ht;rw[hI.n,<-hI.n',<-h1];exact this
 unfold sym at h;simp only at h;split at h
 .cases h
 .rename_i x hg;obtain⟨k1,h1,h2,h3,hd1⟩:=zR h hd;rcases h3 with⟨h3,hx⟩|⟨h3,hx⟩
  .exact ih n (aB _) (X:={X with σ:=lC σ x (.bool true)}) h3 hd1 hK' he (hI.fact hx)
  .exact ih n (aB _) (X:={X with σ:=lC σ x (.bool false)}) h3 hd1 hK' he (hI.fact hx)
 .rename_i hg;split at h
  .rename_i σ1 hs1;obtain⟨g1,g2,g3,g4,g5,g6,g7⟩:=l9 hs1;unfold wpList;rw[hw hg,ac (by simp)];have hst:=Iv.stt hI g1 g2 (by rw[g5];exact hI.facts.1) (by rw[g4];exact hI.facts.2.1);refine ih n (aB _) (X:={X with σ:=σ1}) h hd hK' he ⟨rfl,hI.len,λt sv ht=>?_,by rw[xR];exact hI.ds,by rw[rS];exact hI.n,by rw[g3];exact hI.n',hI.st.trans hst⟩
   rw[g6] at ht;rw[uE (hlt rfl g7)];split at ht
   .rename_i e;cases ht;rw[ad e];exact⟨_,rfl,.tup .nil⟩
   .rename_i e;rw[ac e];obtain⟨v,q1,q2⟩:=hI.tm t sv ht;exact⟨v,q1,q2.step hst.sx⟩
  .cases h
 .rename_i hg;split at h
  .rename_i x cs hsp;rw[<-hI.len] at h;obtain⟨p,y,k1,h1,h2,f1,f2,f3⟩:=v6 h hd;exact ih n (aB _) (X:={X.ex y 0 with σ:=lC σ x p}) f2 f3 hK' (let⟨y0,hy0⟩:=he;⟨y0++y,by show X.e++y=_;rw[hy0,bc]⟩) ((hI.more (y:=y)).fact (show(X.e++y)[x]?=_ by rw[aG (aD.1 f1).1];exact f1))
  unfold wpList;rw[hw hg,ad rfl];refine .inl ?_;split at h
  .rename_i fn c args l z hin;split at h
   .rename_i k1 hs1 hk;cases h;obtain⟨vals,v1,v2,v3⟩:=lI hd;unfold UM at hin;split at hin
    .rename_i g args' l' z' hop;split at hin
     .split at hin
      .rename_i fn' hfn;split at hin
       .rename_i c' hc;split at hin
        .rename_i hdec;cases hin;have hdec:=aT hdec;have hσ:=hI.hσ;have hx:=xS hI.st.mr hI.st.cn (y:=vals) (N:=0);have hρ:EvR (X.ex vals 0) a.eval:=uA hx.mr (by
          show∀t sv,look X.σ.tm t=some sv->_
          rw[hσ];exactλt sv ht=>let⟨v,q1,q2⟩:=hI.tm t sv ht;⟨v,q1,q2.step hx.sx⟩)
         obtain⟨s1,s2⟩:=uD hx.mr hρ (o:=o) m σ.sz _ _ _ (by show opE D.P X.σ _ _ _=_;rw[hσ];exact hop) (by rw[<-hI.len];exact v2) (by rw[<-hσ];exact hx.mr.sz)
         obtain⟨vs,r1,r2⟩:=s2 (λg' as' e=>by
          cases e;exact⟨fn,hfn,(by rw[hc];simp),λe=>by rw[e] at hdec;simp at hdec⟩)
         have r1:(execOp a.eval o).run D.P X.w= .ok (.enter g vs) X.w:=r1;unfold Oper.wp;rw[r1];have hI1:Iv base L Xb nt (X.ex vals 0) a σ (m+l.length):=⟨hσ,by show(X.e++vals).length=_;rw[aC,hI.len,v1],λt sv ht=>let⟨v,q1,q2⟩:=hI.tm t sv ht;⟨v,q1,q2.step hx.sx⟩,hI.ds,hI.n,hI.n',hI.st.trans hx⟩
         have he1:∃y,(X.ex vals 0).e=e0++y:=let⟨y,hy⟩:=he;⟨y++vals,by show X.e++vals=_;rw[hy,bc]⟩
         have hvl:vs.size=args.length:=by have:=r2.len;simpa using this
         have hst:Ste (X.ex vals 0) base L {X.ex vals 0 with σ:={σ with n:=fn.ntmps,tm:=oa 0 args,sz:=z'++σ.sz}}:=Iv.stt hI1 rfl rfl (s1.append hI1.facts.1) hI1.facts.2.1
         have hcal:Calls D.P g vs X.w λex w'=>∃u,ex= .returned u/\ wpList D.P ops Q os (a.put o.dst u) w':=by
          refine calls_of_wp hfn hc ?_;refine ih n (aB _) (Xb:=X.ex vals 0) (nt:=fn.ntmps) (X:={X.ex vals 0 with σ:={σ with n:=fn.ntmps,tm:=oa 0 args,sz:=z'++σ.sz}}) hk v3 (hK'.inl (λi hi=>ih i (by omega)) hI1 he1) ⟨[],by simp⟩ ⟨rfl,hI1.len,?_,rfl,?_,rfl,hst⟩
          .exactλt sv ht=>let⟨v,q1,q2⟩:=v8 (k:=fn.ntmps) r2 t sv ht;⟨v,q1,q2.step hst.sx⟩
          .simp;omega
         refine hcal.mono ?_;rintro ex w' ⟨u,rfl,h4⟩;exact h4
        .cases hin
       .cases hin
      .cases hin
     .cases hin
    .cases hin
   .cases h
  .split at h
   .rename_i r hop;split at h
    .rename_i σ1 hs1;split at h
     .rename_i k1 hs2 hk;cases h;rw[<-hI.len] at hop;obtain⟨y,o1,o2,o3⟩:=IF hΦ hop hd;obtain⟨g1,g2,g3,g4,g5,g6,g7⟩:=l9 hs1;have hσ:=hI.hσ;have hx:=xS hI.st.mr hI.st.cn (y:=y) (N:=r.σ.nb);have hρ:EvR (X.ex y r.σ.nb) a.eval:=uA hx.mr (by
       show∀t sv,look X.σ.tm t=some sv->_
       rw[hσ];exactλt sv ht=>let⟨v,q1,q2⟩:=hI.tm t sv ht;⟨v,q1,q2.step hx.sx⟩)
      have hop':=Ke hΦ hL hx.mr hρ (o:=o) (m:=X.e.length) (r:=r) (by show n9 D X.σ _ _=_;rw[hσ];exact hop) o1 (aB _)
      refine rR.wp hop' ?_;rintro v w' ⟨X',x1,x2,x3,x4⟩;have hx':=x4.ste hx.cn;have he':X'.e=X.e++y:=x4.e;have hst:Ste X' base L {X' with σ:=σ1}:=(px hx'.mr (σ':=σ1) (λb=>by rw[g1,x2]) (by rw[g2,x2]) (by rw[g5,<-x2];exact hx'.mr.sz) (by rw[g4,<-x2];exact hx'.mr.fc)).ste hx'.cn
      have hall:=(hx.trans hx').trans hst;obtain⟨hrn,hrt⟩:=Qn hop;obtain⟨y0,hy0⟩:=he;rw[<-x1];refine ih n (aB _) (X:={X' with σ:=σ1}) hk (by show den Φ N k1 J X'.e=_;rw[he'];exact o2) hK' ⟨y0++y,by show X'.e=_;rw[he',hy0,bc]⟩ ⟨rfl,by show X'.e.length=_;rw[he'];exact o3,λt sv ht=>?_,by rw[xR];exact hI.ds,by rw[rS];exact hI.n,by rw[g3,hrn];exact hI.n',hI.st.trans hall⟩
      rw[g6] at ht;rw[uE (hlt hrn g7)];split at ht
      .rename_i e;cases ht;rw[ad e];exact⟨_,rfl,x3.step hst.sx⟩
      .rename_i e;rw[ac e];rw[hrt] at ht;obtain⟨v',q1,q2⟩:=hI.tm t sv ht;exact⟨v',q1,q2.step hall.sx⟩
     .cases h
    .cases h
   .cases h;simp[den] at hd
end
section
variable {D:Dcf}{F:Fn}{Φ:FuncId->List PV->Option (List PV)}{N:Nat}{rs:List PV}{base:Nat}{L:Nat->Prop}{Xb:Cx}{nt:Nat}{n:Nat}{κ:List SF}{J:Js}{e0:List PV}{Q:Exit->Act->World->Prop}
def SP {k1 k2:K}{e:List PV}(h:den Φ N (.amb k1 k2) J e=some rs):den Φ N k1 J e=some rs/\ den Φ N k2 J e=some rs:=by
 simp[den] at h
 grind
def Qo {x y:List Hint->Option (K×List Hint)}{hs hs':List Hint}{k:K}{e:List PV}(h:twice x y hs=some (k,hs'))(hd:den Φ N k J e=some rs):
  ∃k1 k2 h1 h2,x hs=some (k1,h1)/\ y h1=some (k2,h2)/\ den Φ N k1 J e=some rs/\ den Φ N k2 J e=some rs:=by
 unfold twice at h;split at h
 .rename_i k1 h1 e1;split at h
  .rename_i k2 h2 e2;cases h;obtain⟨d1,d2⟩:=SP hd
   grind
  .cases h
 .cases h
def V6 (hΦ:∀g ps rs,Φ g ps=some rs->iN D g ps rs)(hL:D.loud=true->L base)(hfol:D.P.follows .mixedOrders=true)(ih:∀i,i<=n->Sok D F Φ N rs base L i){c:Code}{σ:SS}{m:Nat}{hs hs':List Hint}{k:K}{X:Cx}{a:Act}(h:sym D F (n+1) (.code c) σ m κ J.length hs=some (k,hs'))(hd:den Φ N k J X.e=some rs)
  (hK:Kont D F Φ N rs base L Xb nt (n+1) κ J e0 Q) (he:∃y,X.e=e0++y) (hI:Iv base L Xb nt X a σ m):c.wp D.P Q a X.w:=by
 have hK':=hK.le (ew n);have ih0:Sok D F Φ N rs base L n:=ih n (aB _);have ih':∀i,i<n->Sok D F Φ N rs base L i:=λi hi=>ih i (lT hi);have self:∃y,X.e=X.e++y:=⟨[],by simp⟩;unfold sym at h;split at h
 .exact wp_skip (ih0 h hd hK' he hI)
 .exact wp_label (ih0 h hd hK' he hI)
 .exact wp_exit (ih0 h hd hK' he hI)
 .exact wp_ret (ih0 h hd hK' he hI)
 .exact wp_scope_straight (ih0 h hd (hK'.map λex a w h=>by cases ex<;>exact h) he hI)
 .exact wp_seq (ih0 h hd (hK'.seq ih') he hI)
 ·
  rename_i id ops draw;cases draw with
  |false=>
   simp only at h;refine wp_region_list ?_;split at h
   .exact ih0 h hd hK' he hI
   .split at h
    .exact oY h hd hK' he hI (λ_ _=>rfl) λκ' J' h0 k0 h0' q1 q2 q3=>ih0 q1 q2 q3 self hI
    .cases h
  |true=>
   simp only at h;split at h
   .cases h
   .rename_i hst;split at h
    .rename_i hg;split at h
     .exact wp_region_any hfol (uG hΦ hL hfol hst h hd hK' he hI)
     .rename_i k hk;obtain⟨hk1,hk2⟩:=V5 hk;have eo:∀{o:Array Oper},m7 o (Region.before o)=true->jb o=true:=λh=>by
       unfold m7 at h;simp only[aH] at h;exact h.1.1
      have none_l:∀n j,¬Lst (Array.replicate n false) j:=λn j h=>by
       unfold Lst at h;rw[b7,rY] at h;split at h<;>simp at h
      split at h
      .split at h
       .cases h
       .rename_i hst';have h1:=uG hΦ hL hfol hst' h hd (hK'.tl ih') he hI;have hes:(ops.extract 0 k).size=k:=by simp;omega
        refine wp_region_any hfol ?_;have h2:=IG (eo hst) hg (f:=ops.size) (.inr (aB _)) hk1 (λh1 h2 h3 _=>nF hk2 h1 h2 h3) (eo hst') _ _ (Array.replicate ops.size false) _ _ (by simp;omega) (by simp) (λj=>⟨λh=>absurd h (none_l _ j),λh=>absurd h (none_l _ j)⟩) (λj o hj=>absurd hj (none_l _ j)) (by omega) h1;rw[hes,show k+(ops.size-k)=ops.size by omega] at h2
        exact h2
      .rename_i j f hc;obtain⟨rfl,hf,hj,⟨of,hof,hfe⟩,hp⟩:=V3 hc;split at h
       .cases h
       .rename_i hst';rw[aH] at hst';obtain⟨s1,s2⟩:=hst';split at h
        .refine oY h hd hK' he hI (λ_ _=>rfl) λκ' J' h0 k0 h0' q1 q2 q3=>?_;obtain⟨k1,k2,_,_,e1,e2,d1,d2⟩:=Qo q1 q2;have h1:=uG hΦ hL hfol s1 e1 d1 (q3.tl ih') self hI;have h2:=uG hΦ hL hfol s2 e2 d2 (q3.tl ih') self hI;have hes:(ops.extract 0 j).size=j:=by simp;omega
         have hes2:(jZ ops j f).size=j:=by unfold jZ;simp;omega
         rw[hes] at h1;rw[hes2] at h2;refine wp_region_any hfol ?_;obtain⟨n',rfl⟩:∃n',j=n'+1:=⟨j-1,by omega⟩;have h3:=Qm (eo hst) hg hf hj hof hfe hp hk2 (eo s1) (eo s2) n' _ _ (Array.replicate ops.size false) _ _ (by simp) (by simp) (by simp) (λj=>⟨λh=>absurd h (none_l _ j),λh=>absurd h (none_l _ j)⟩) (λi=>by
          rw[dI (by simpa using hf)]
          exact⟨λh=>h.imp_right λh=>absurd h (none_l _ i),λh=>h.imp_right λh=>absurd h (none_l _ i)⟩) (none_l _ _) (λj o hj=>absurd hj (none_l _ j)) h1 (V4 hf (by omega) (by simp) (none_l _ _) h2)
         rw[show n'+1+(ops.size-(n'+1))=ops.size by omega] at h3
         exact h3
        .cases h
    .split at h
     .exact oY h hd hK' he hI (λ_ _=>rfl) λκ' J' h0 k0 h0' q1 q2 q3=>wp_region_any hfol (uG hΦ hL hfol hst q1 q2 q3 self hI)
     .cases h
 ·
  rename_i x t e;have hσ:=hI.hσ;split at h
  .rename_i b hx;have hc:=ey hI.facts.2.2 (by rw[hσ];exact hx);refine wp_cond (CI hc rfl) (ih0 h hd hK' he hI)
  .rename_i i hx;have hc:=ey hI.facts.2.2 (by rw[hσ];exact hx);split at h
   .refine oY h hd hK' he hI (λ_ _=>rfl) λκ' J' h0 k0 h0' q1 q2 q3=>?_;obtain⟨k1,h1,h2,h3,hd1⟩:=zR q1 q2;rcases h3 with⟨h3,hx⟩|⟨h3,hx⟩
    .exact wp_cond (CI hc hx) (ih0 (X:={X with σ:=lC σ i (.bool true)}) h3 hd1 q3 self (hI.fact hx))
    .exact wp_cond (CI hc hx) (ih0 (X:={X with σ:=lC σ i (.bool false)}) h3 hd1 q3 self (hI.fact hx))
   .cases h
  .rename_i hx;have hc:=ey hI.facts.2.2 (by rw[hσ];exact hx);split at h
   .refine oY h hd hK' he hI (λ_ _=>rfl) λκ' J' h0 k0 h0' q1 q2 q3=>?_;have hb:∃b,a.eval x= .bool b/\∀xi si,some (SC.ub xi si)=opC σ x->xi.ev X.e=some (.bool false)->b=si:=by
     rw[hx];generalize a.eval x=v at hc;cases hc with
     |ub h hs=>exact⟨_,rfl,λxi si e hf=>by cases e;rw[h] at hf;cases hf;exact hs rfl⟩
    obtain⟨b,hb,hs⟩:=hb;rcases bothA_den q1 q2 with⟨k1,k2,_,_,_,h1,h2,hd1,hd2⟩|⟨hf,k3,_,_,h3,hd3⟩
    .cases b with
     |true=>exact wp_cond hb (ih0 h1 hd1 q3 self hI)
     |false=>exact wp_cond hb (ih0 h2 hd2 q3 self hI)
    .have:=hs _ _ hx.symm hf;subst this;exact wp_cond hb (by have:=ih0 h3 hd3 q3 self hI;cases b<;>exact this)
   .cases h
  .cases h
 ·
  split at h
  .exact oY h hd hK' he hI (λ_ _=>rfl) λκ' J' h0 k0 h0' q1 q2 q3=>wp_block (ih0 q1 q2 (q3.block ih') self hI)
  .cases h
 ·
  rename_i b;split at h
  .rename_i fT hs1;have hT:∃T,T=fT σ:=⟨_,rfl⟩;obtain⟨T,hT⟩:=hT;rw[<-hT] at h;split at h
   .rename_i k1 hj;split at h
    .rename_i d hs2 hb;cases h;obtain⟨f1,f2,_⟩:=hI.facts
     let f:=mw (λself vs=>den Φ N d (J++[self]) (X.e++vs)) N
     have hd:den Φ N k1 (J++[f]) X.e=some rs:=hd;have round:∀M ps X' a',mw (λself vs=>den Φ N d (J++[self]) (X.e++vs)) M ps=some rs->X'.e=X.e++ps->Iv base L Xb nt X' a' (T.st σ) (m+T.p)->Code.rounds D.P b Q M a' X'.w:=by
      intro M;induction M with
      |zero=>intro ps X' a' hit;cases hit
      |succ M ihM=>
       intro ps X' a' hit hX' hI';rw[rounds_succ];have hk:=(hK'.ext he).jump (T:=T) (f:=mw (λself vs=>den Φ N d (J++[self]) (X.e++vs)) M) hI.len hI.n' f1 f2 (Q':=Exit.then (Code.rounds D.P b Q M) Q) (λps X a h1 h2 h3=>ihM ps X a h1 h2 h3) λex a w hne hq=>by cases ex<;>first|exact absurd rfl hne|exact hq
       have hit:den Φ N d (J++[mw (λself vs=>den Φ N d (J++[self]) (X.e++vs)) M]) (X.e++ps)=some rs:=hit;exact ih0 (J:=J++[mw (λself vs=>den Φ N d (J++[self]) (X.e++vs)) M]) (by rw[aC];exact hb) (by rw[hX'];exact hit) hk ⟨ps,hX'⟩ hI'
     refine wp_loop_rounds N ?_;have hk:=(hK'.ext he).jump (T:=T) (f:=f) hI.len hI.n' f1 f2 (Q':=λex a w=>ex= .normal->Code.rounds D.P b Q N a w) (λps X a h1 h2 h3 _=>round N ps X a h1 h2 h3) λex a w hne _ e=>by cases ex<;>first|exact absurd rfl hne|cases e
     have hs:sym D F (0+1) (.pop .normal) σ m (.J J.length m T::κ) (J++[f]).length []=some (k1,[]):=by
      unfold sym;simp only[hj]
     cases n with
     |zero=>simp[sym] at hb
     |succ n=>exact hk.pop 1 (by omega) .normal σ m [] k1 [] X a [] (by rw[aZ];exact hs) (by rw[aZ];exact hd) self hI rfl
    .cases h
   .cases h
  .cases h
 .cases h
def acz (hΦ:∀g ps rs,Φ g ps=some rs->iN D g ps rs)(hL:D.loud=true->L base)(hfol:D.P.follows .mixedOrders=true):∀n,Sok D F Φ N rs base L n:=by
 intro n;induction n using Nat.strongRecOn with
 |_ n ih=>
  intro Xb nt tk σ m κ hs k hs' X a J e0 Q h hd hK he hI;cases n with
  |zero=>cases h
  |succ n=>
   have ih:∀i,i<=n->Sok D F Φ N rs base L i:=λi hi=>ih i (by omega);cases tk with
   |code c=>exact V6 hΦ hL hfol ih h hd hK he hI
   |pop ex=>exact hK.pop (n+1) (aB _) ex σ m hs k hs' X a [] (by rw[aZ];exact h) (by rw[aZ];exact hd) he hI
   |ops ops rest=>
    cases rest with
    |nil=>
     exact ih n (aB _) h hd (hK.le (ew n)) he hI
    |cons o os=>exact acy hΦ hL ih h hd hK he hI
   |dops=>trivial
end
section
variable {D:Dcf}{Φ:FuncId->List PV->Option (List PV)}{N:Nat}
def Qp (hΦ:∀g ps rs,Φ g ps=some rs->iN D g ps rs)(hfol:D.P.follows .mixedOrders=true){fn:Func}{c:Code}{g:FuncId}(hfn:D.P.funcs[g]?=some fn)(hc:fn.body=some c){ld:Option (LK×A)}{gv:Bool}{fuel:Nat}{σ0:SS}{m0:Nat}{hs hs':List Hint}{k:K}(hsym:sym D ⟨fn.results.toList,fn.resultTypes.toList,D.slots g,ld,gv⟩ fuel (.code c) σ0 m0 [] 0 hs=some (k,hs')){X0:Cx}{rs:List PV}(hd:den Φ N k [] X0.e=some rs){L:Nat->Prop}{base:Nat}{vs:Array Value}
  (hL:D.loud=true->L base) (hI:Iv base L X0 fn.ntmps X0 {tmps:=vs++Array.replicate (fn.ntmps-vs.size) undef,defers:=[]} σ0 m0) (hlo:∀b,X0.nm b->b<Fn.lo ⟨fn.results.toList,fn.resultTypes.toList,D.slots g,ld,gv⟩):
  Calls D.P g vs X0.w λe w'=>∃us X as ps as0 S' Bs,e= .returned (kS us)/\ X.w=w'/\ MR X base L/\ Ste X0 base L X/\ evs X.e as=some rs/\ evs X.e as0=some ps/\ LdE X as as0 S' Bs gv ld/\ RRs D.P w' S' fn.resultTypes.toList (D.slots g) us ps Bs/\ Bs.Nodup/\(∀B∈Bs,(base<=B\/L B)/\¬S' B/\ B<w'.heap.size)/\ Kp X0.w X0.S w' S'/\(∀B,S' B->B<w'.heap.size)/\(∀B,S' B->X0.S B\/base<=B\/L B)/\ Kp X.w X.S X.w S':=by
 refine calls_of_wp hfn hc ?_;refine acz hΦ hL hfol fuel (J:=[]) (e0:=X0.e) (X:=X0) (Xb:=X0) (κ:=[]) (nt:=fn.ntmps) hsym hd ⟨hlo,⟨[],by simp⟩,λi hi ex σ m hs k hs' X a J' h1 h2 h3 hI'=>?_⟩ ⟨[],by simp⟩ hI;cases i with
 |zero=>cases h1
 |succ i=>
  have key:(match H8 D.P ⟨fn.results.toList,fn.resultTypes.toList,D.slots g,ld,gv⟩ σ m σ.sz with
    |some (vs,l,_)=>some (oU l (.ret vs),hs)
    |none=>none)=some (k,hs')->a.defers=[]/\∃v,(results fn a.tmps).run D.P X.w= .ok v X.w/\∃us X' as ps as0 S' Bs,Ending.returned v= .returned (kS us)/\ X'.w=X.w/\ MR X' base L/\ Ste X0 base L X'/\ evs X'.e as=some rs/\ evs X'.e as0=some ps/\ LdE X' as as0 S' Bs gv ld/\ RRs D.P X.w S' fn.resultTypes.toList (D.slots g) us ps Bs/\ Bs.Nodup/\(∀B∈Bs,(base<=B\/L B)/\¬S' B/\ B<X.w.heap.size)/\ Kp X0.w X0.S X.w S'/\(∀B,S' B->B<X.w.heap.size)/\(∀B,S' B->X0.S B\/base<=B\/L B)/\ Kp X'.w X'.S X'.w S':=by
   intro h1;refine⟨hI'.ds,?_⟩;split at h1
   .rename_i as l z hend;cases h1;obtain⟨vals,v1,v2,v3⟩:=lI h2;have hσ:=hI'.hσ;have hx:=xS hI'.st.mr hI'.st.cn (y:=vals) (N:=0);have hρ:=uA hx.mr (by
     show∀t sv,look X.σ.tm t=some sv->_
     rw[hσ];exactλt sv ht=>let⟨v,q1,q2⟩:=hI'.tm t sv ht;⟨v,q1,q2.step hx.sx⟩)
    obtain⟨_,us,ps',as0,S',Bs,r1,r2,r9,r3,r4,r5,r6,r7,r8⟩:=VY (P:=D.P) hx.mr hρ (fn:=fn) (slots:=D.slots g) (ld:=ld) (gv:=gv) m σ.sz _ _ _ (by show H8 D.P _ X.σ _ _=_;rw[hσ];exact hend) (by rw[<-hI'.len];exact v2) (by rw[<-hσ];exact hx.mr.sz)
    simp at v3;exact⟨kS us,r1,us,X.ex vals 0,as,ps',as0,S',Bs,rfl,rfl,hx.mr,hI'.st.trans hx,v3,r2,r9,r3,r4,r5,hI'.st.sx.k.trans r6,r7,λB hB=>(r8 B hB).elim (hI'.st.new B) .inr,r6⟩
   .cases h1
  unfold sym at h1;simp only at h1;split at h1
  .cases h1
  .cases ex with
   |normal=>exact key h1
   |ret=>exact key h1
   |exit id=>rename_i hne;exact absurd rfl (hne id)
def IH {X0:Cx}{P:Program}:∀(ts:List TypeId) (i:Nat) (us:List Value) (qs:List PV),F2 (RT X0.w X0.S) us qs->(∀(j:Nat) (p:PV),qs[j]?=some p->X0.e[i+j]?=some p)->ts.length=qs.length->(∀(j:Nat) (t:TypeId),ts[j]?=some t->∃p:PV,qs[j]?=some p/\(bT P t=some true↔t0 p=false))->F2 (WR X0) us (sP P ts i):=by
 intro ts;induction ts with
 |nil=>intro i us qs h1 _ h3 _;cases h1 with
  |nil=>exact .nil
  |cons=>simp at h3
 |cons t ts iht=>
  intro i us qs h1 h2 h3 h4;cases h1 with
  |nil=>simp at h3
  |cons hv hvs'=>
   rename_i v p us qs;obtain⟨p',q1,q2⟩:=h4 0 t rfl;cases q1;have hp:X0.e[i]?=some p:=h2 0 p rfl;refine .cons ?_ (iht (i+1) us qs hvs' (λj p hj=>by rw[show i+1+j=i+(j+1) by omega];exact h2 (j+1) p (by simpa using hj)) (by simpa using h3) λj t' ht'=>by
    obtain⟨p',r1,r2⟩:=h4 (j+1) t' (by simpa using ht')
    exact⟨p',by simpa using r1,r2⟩)
   unfold acn;split
   .rename_i ha;have ht0:=q2.1 ha;cases hv with
    |agg hv hz=>exact .av (x:= .x i) hp hz hv
    |v=>cases ht0
    |nil=>cases ht0
    |sl=>cases ht0
   .rename_i ha;have ht0:t0 p=true:=by
     cases h:t0 p with
     |true=>rfl
     |false=>exact absurd (q2.2 h) ha
    exact .c (.a (x:= .x i) hp ht0 hv)
def F2.modset {α β:Type}{R:α->β->Prop}{f:α->α}{b:β}:∀{as:List α} {bs:List β} {i:Nat} {u:α},F2 R as bs->as[i]?=some u->R (f u) b->F2 R (as.modify i f) (bs.set i b)
 |_,_,i,_,.nil,h,_=>by simp at h
 |_,_,0,_,.cons _ t,h,k=>by cases h;exact .cons k t
 |_,_,i+1,u,.cons h t,h',k=> .cons h (t.modset (u:=u) (by simpa using h') k)
def SQ {X:Cx}{P:Program}{t:TypeId}{i c:Nat}{x:SC}{v u:Value}{p:PV}(hx:CR X v x)(hu:X.T u p)(hp:X.e[i]?=some p)(hs:bT P t=some true↔t0 p=false):Sp X.e (MC P t i c x) (WR X (CA c v u)):=by
 unfold MC;split
 .rename_i ha;have ht0:=hs.1 ha;cases hu with
  |agg hv hz=>
   split
   .split
    .refine Sp.bind (pM (x:= .x i) hp) λy ⟨h1,h2⟩=> .ret (.agg ?_);rw[fC];exact(Bh h1 hz _ 0 rfl h2 hv.f2).set hx
    .exact .fail
   .exact .fail
  |v=>cases ht0
  |nil=>cases ht0
  |sl=>cases ht0
 .rename_i ha;have ht0:t0 p=true:=by
   grind
  split
  .refine .ret (.c ?_);have:=hu.one ht0;cases u<;>first|exact hx|cases this
  .exact .fail
 .exact .fail
def acA {X:Cx}{n:Nat}{k:LK}(hkp:k.plain=true){p:PV}{q:Option (Nat×Nat)}{v:Value}(hp:X.e[n]?=some p)(hl:fL X.e (n+1) (lk0 n k).2.2.2)(hq:LenR X.w X.S k q v p)(hρ:X.ρ 0=q)(hnm:X.nm 0)(hK:X.K 0=some (kd (lk0 n k).2.2.1)):CR X v (lk0 n k).1/\ Knd (lk0 n k).2.1 (.x n) (lk0 n k).2.2.1 k/\ VL X.e (lk0 n k).2.1 q v k/\ BR X 0 (lk0 n k).2.2.1:=by
 cases k with
 |lst z=>
  obtain⟨vs,u,h1,h2,h3⟩:=hl 0 .len [.x n] rfl;obtain⟨els,rfl,hn⟩:=gu (y:= .x (n+1)) ⟨vs,u,h1,h2,h3⟩ (show A.ev X.e (.x n)=some p from hp)
  refine⟨.lsl hnm (by cases hq with|lst=>rfl|nil _ h=>rcases h with rfl|⟨_,_,rfl⟩<;>rfl) λnl' z' h=>?_,rfl,?_,?_⟩
  .rw[hK] at h;cases h;cases hq with
   | @lst _ B cap arr _ hz hc hl' hr hw he'=>exact⟨0,_,_,rfl,hn,hn,by omega,.inl ⟨_,_,cap,hρ,by simp,by omega,by simpa using hl'⟩⟩
   |nil hz h=>exact⟨0,0,0,rfl,hn,hn,aB _,.inr ⟨rfl,h,aB _⟩⟩
  .cases hq with
   |lst hz hc hl' hr hw he'=>exact⟨hz,_,hn,.inl ⟨_,_,_,rfl,rfl,hc,hl'⟩⟩
   |nil hz h=>exact⟨hz,0,hn,.inr ⟨rfl,rfl,h⟩⟩
  .cases hq with
   |lst hz hc hl' hr hw he'=>exact⟨hz,_,hp,hn,hw,.inr ⟨_,_,hρ,hr,he'⟩⟩
   |nil hz h=>exact⟨hz,_,hp,hn,(λ_ h=>by cases h),.inl ⟨rfl,hρ⟩⟩
 |map ka nk va=>
  cases hq with
  |map hg hm=>exact⟨.mp hnm λsb _=>⟨_,0,hρ,rfl⟩,rfl,⟨_,rfl,rfl⟩,⟨_,_,_,_,hρ,hg,hp,hm⟩⟩
 |pre=>cases hkp
def V7 (hΦ:∀g ps rs,Φ g ps=some rs->iN D g ps rs)(hfol:D.P.follows .mixedOrders=true){fuel:Nat}{g:FuncId}{hs:List Hint}{k:K}(h:zF D fuel g hs=some k){ps rs:List PV}(hsh:∃fn,D.P.funcs[g]?=some fn/\ ps.length=D.na g fn/\ rs.length=D.nr g fn/\∀(i:Nat) (t:TypeId),fn.params[i]?=some t->∃p:PV,ps[i]?=some p/\(bT D.P t=some true↔t0 p=false))
  (hd:den Φ N k [] ps=some rs):iN D g ps rs:=by
 obtain⟨fn,hfn,hpl,hrl,hsh⟩:=hsh;unfold zF at h;rw[hfn] at h;simp only at h;split at h
 .rename_i c hc;split at h
  .rename_i hdec;have hdec:=aT hdec;split at h
   .rename_i F σ0 m0 l0 hst;split at h
    .rename_i k' hs' hsym;cases h;have hname:fn.name≠ "runtime.NumGoroutine" :=λe=>by rw[e] at hdec;simp at hdec
     refine⟨fn,hfn,by rw[hc];simp,hname,hrl,?_⟩;obtain⟨vals,v1,v2,v3⟩:=lI hd;unfold P1 at hst;unfold Dcf.na at hpl;split at hst
     .rename_i hld;cases hst;rw[hld] at hpl|-;simp only[lS] at hpl;have:vals=[]:=bJ v1;subst this;rw[aZ] at v3;intro w S vs hvs hcur
      let σ0:SS:=⟨fn.ntmps,oa 0 (sP D.P fn.params.toList 0),[],0,[],[]⟩
      let X0:Cx:=⟨ps,λ_=>none,S,w,σ0,λ_=>False,0,λ_=>none⟩
      have hm:MR X0 w.heap.size (D.lf none w):=⟨λb sb h=>(by cases h),λb sb h=>(by cases h),λb _ _ h=>h,λb sb h=>(by cases h),λb sb B l h=>(by cases h),λb b' sb sb' B l l' h=>(by cases h),hcur,aB _,λp hp=>(by cases hp),λp hp=>(by cases hp)⟩;have hc0:Cn X0:=λb h=>h.elim;have hvl:vs.size=fn.params.size:=by have:=hvs.len;simp at this;omega
      have hws:F2 (WR X0) vs.toList (sP D.P fn.params.toList 0):=IH (X0:=X0) fn.params.toList 0 vs.toList ps hvs (λj p hj=>by rw[cj];exact hj) (by simp;omega) λj t ht=>hsh j t (by simpa using ht)
      have hI:Iv w.heap.size (D.lf none w) X0 fn.ntmps X0 {tmps:=vs++Array.replicate (fn.ntmps-vs.size) undef,defers:=[]} σ0 fn.params.size:=⟨rfl,hpl,v8 hws,rfl,by simp;omega,rfl,.refl hm hc0⟩;refine(Qp hΦ hfol hfn hc hsym (X0:=X0) v3 (λh=> .inr ⟨h,aB _⟩) hI λb h=>h.elim).mono ?_;rintro e w' ⟨us,X,as,ps',as0,S',Bs,rfl,rfl,hmr,hste,e1,e2,e3,e4,e5,e6,e7,e8,e9,e10⟩;cases e3;rw[e1] at e2;cases e2;exact⟨kS us,S',us,Bs,rfl,rfl,e4,e5,λB hB=>⟨((e6 B hB).1).elim .inl λh=>h.elim (λ⟨_,h⟩=>by cases h) λh=> .inl h.2,(e6 B hB).2⟩,e7,e8,λB hB=>(e9 B hB).imp id λh=>h.elim .inl λh=>h.elim (λ⟨_,h⟩=>by cases h) λh=> .inl h.2,hste.fr⟩
     .rename_i ld hld;rw[hld] at hpl|-;simp only at hpl|-;split at hst
      .cases hst
      rename_i hkp;rw[LK.plain_b hkp];split at hst
      .rename_i t ht;split at hst
       .rename_i u l z hlp;cases hst;obtain⟨ps0,p,rfl⟩:∃ps0 p,ps=ps0++[p]:=⟨ps.dropLast,ps.getLast (by intro e;rw[e] at hpl;simp at hpl),(pe _).symm⟩;have hpl0:ps0.length=fn.params.size:=by simpa using hpl
        have hrl':rs≠[]:=λe=>by unfold Dcf.nr at hrl;rw[hld,e] at hrl;simp at hrl
        obtain⟨rs0,p',rfl⟩:∃rs0 p',rs=rs0++[p']:=⟨rs.dropLast,rs.getLast hrl',(pe _).symm⟩;refine⟨ps0,p,rs0,p',rfl,rfl,λw S vs q v hvs hq hnS hcur=>?_⟩;have hn1:(ps0++[p]).length=fn.params.size+1:=by simp[hpl0]
        rw[hn1] at v2
        let σ0:SS:=⟨fn.ntmps,oa 0 ((sP D.P fn.params.toList 0).set ld.i u),[(0,(lk0 fn.params.size ld.k).2.2.1)],1,[],z⟩
        let X0:Cx:=⟨(ps0++[p])++vals,λb=>if b=0 then q else none,S,w,σ0,λb=>b=0,0,λb=>if b=0 then some (kd (lk0 fn.params.size ld.k).2.2.1) else none⟩
        have hget:∀(j:Nat) (r:PV),(ps0++[p])[j]?=some r->X0.e[j]?=some r:=λj r h=>by
         show((ps0++[p])++vals)[j]?=_
         rw[aG (aD.1 h).1];exact h
        have hget0:∀(j:Nat) (r:PV),ps0[j]?=some r->X0.e[j]?=some r:=λj r h=>hget j r (by rw[aG (aD.1 h).1];exact h);obtain⟨c1,c2,c3,c4⟩:=acA (X:=X0) hkp (hget fn.params.size p (by rw[<-hpl0];simp)) v2.left hq rfl rfl rfl;have hsh0:∀(j:Nat) (t:TypeId),fn.params.toList[j]?=some t->∃r:PV,ps0[j]?=some r/\(bT D.P t=some true↔t0 r=false):=λj t ht=>by
         obtain⟨r,h1,h2⟩:=hsh j t (by simpa using ht)
         have hj:j<ps0.length:=by rw[hpl0];have:=(aD.1 ht).1;simpa using this
         exact⟨r,by rw[aG hj] at h1;exact h1,h2⟩
        have hpar:=IH (X0:=X0) (P:=D.P) fn.params.toList 0 vs ps0 hvs (λj r h=>by rw[cj];exact hget0 j r h) (by simp;omega) hsh0;obtain⟨r,h1,h2⟩:=hsh0 _ _ ht;obtain⟨v0,h3,h4⟩:=hvs.get' _ _ h1;obtain⟨hz,hu⟩:=SQ (X:=X0) (P:=D.P) (t:=t) (i:=ld.i) (c:=ld.c) c1 h4 (hget0 _ _ h1) h2 _ _ _ _ _ hlp v2.right .nil;have hws:F2 (WR X0) (pw ld v vs) ((sP D.P fn.params.toList 0).set ld.i u):=hpar.modset h3 hu;have only:∀{b:Nat} {sb:SB},look σ0.bl b=some sb->b=0/\ sb=(lk0 fn.params.size ld.k).2.2.1:=λ{b sb} h=>by
         have h:look [(0,(lk0 fn.params.size ld.k).2.2.1)] b=some sb:=h;rw[dZ] at h;split at h
         .rename_i e;cases h;exact⟨e.symm,rfl⟩
         .cases h
        have hm:MR X0 w.heap.size (D.lf q w):=by
         refine⟨λb sb h=>(only h).1,λb sb h=>?_,λb _ h=>absurd h (Nat.not_lt_zero _),λb sb h=>?_,λb sb B l h hr=>?_,λb b' sb sb' B l l' h h' _ _=>by rw[(only h).1,(only h').1],hcur,aB _,?_,λp hp=>(by cases hp)⟩
         .obtain⟨rfl,rfl⟩:=only h;rfl
         .obtain⟨rfl,rfl⟩:=only h;exact c4
         .obtain⟨rfl,rfl⟩:=only h;have hr:q=some (B,l):=hr;exact⟨.inr (.inl ⟨l,hr⟩),⟨λh=>absurd h (hnS B ⟨l,hr⟩),λh=>by rw[c2.frz] at h;cases h⟩⟩
         .have:=hz.append (i5.nil (env:=X0.e));simpa using this
        have hc0:Cn X0:=λb (h:b=0)=>by subst h;exact Nat.one_pos
        have hvl:(pw ld v vs).toArray.size=fn.params.size:=by have:=hvs.len;simp[pw];omega
        have hlen:X0.e.length=fn.params.size+1+(lk0 fn.params.size ld.k).2.2.2.length+l.length:=by
         show((ps0++[p])++vals).length=_
         rw[aC,v1,hn1,aC];omega
        have hI:Iv w.heap.size (D.lf q w) X0 fn.ntmps X0 {tmps:=(pw ld v vs).toArray++Array.replicate (fn.ntmps-(pw ld v vs).toArray.size) undef,defers:=[]} σ0 (fn.params.size+1+(lk0 fn.params.size ld.k).2.2.2.length+l.length):=⟨rfl,hlen,v8 (by simpa using hws),rfl,by rw[Array.size_append,Array.size_replicate,hvl];omega,rfl,.refl hm hc0⟩
        refine(Qp hΦ hfol hfn hc hsym (X0:=X0) v3 (λh=> .inr ⟨h,aB _⟩) hI λb (h:b=0)=>by subst h;exact Nat.one_pos).mono ?_;rintro e w' ⟨us,X,as,ps',as0,S',Bs,rfl,rfl,hmr,hste,e1,e2,e3,e4,e5,e6,e7,e8,e9,e10⟩;cases hgv:ld.gv with
        |true=>
         rw[hgv] at e3;have e3:as=as0++[.c (.sl [])]:=e3;subst e3;rw[vZ e2 (show A.ev X.e (.c (.sl []))=some (.sl []) from rfl)] at e1
         injection e1 with e1
         obtain⟨g1,g2⟩:=sa e1 rfl;subst g1;injection g2 with g2
         refine⟨kS us,S',us,Bs,rfl,⟨rfl,e4,e5,λB hB=>⟨((e6 B hB).1).elim .inl λh=>h.elim (λh=> .inr ⟨hgv,h⟩) λh=> .inl h.2,(e6 B hB).2⟩,e7,e8,λB hB=>(e9 B hB).imp id λh=>h.elim .inl λh=>h.elim (λh=> .inr ⟨hgv,h⟩) λh=> .inl h.2,hste.fr⟩,?_⟩;unfold Bx;rw[hgv];exact g2.symm
        |false=>
        rw[hgv] at e3;obtain⟨lc,rfl,sb,f1,f2,f3⟩:=e3;obtain⟨x,hx⟩:=hste.sx.e;have hr0:X.ρ 0=q:=hste.sx.ρ 0 rfl;obtain⟨p2,f4,f5⟩:=Cz (hmr.bl 0 sb f1) f2 (by rw[hx];exact c3.step) (.inl hr0.symm);rw[vZ e2 f4] at e1;injection e1 with e1
        obtain⟨g1,g2⟩:=sa e1 rfl;subst g1;cases g2;refine⟨kS us,S',us,Bs,rfl,⟨rfl,e4,e5,λB hB=>⟨.inl (((e6 B hB).1).elim id λh=>h.elim (λ⟨l,hl⟩=>absurd hB (f3 B l (hr0.trans hl)).2) λh=>h.2),(e6 B hB).2⟩,e7,e8,λB hB=>(e9 B hB).imp id λh=> .inl (h.elim id λh=>h.elim (λ⟨l,hl⟩=>absurd hB (f3 B l (hr0.trans hl)).1) λh=>h.2),hste.fr⟩,?_⟩;unfold Bx;rw[hgv,LK.plain_b hkp];exact⟨f5.mono e10,.of hkp⟩
       .cases hst
      .cases hst
    .cases h
   .cases h
  .cases h
 .cases h
end
abbrev PhT:=FuncId->List PV->Option (List PV)
abbrev JT:=List PV->Option (List PV)
def Le {α β:Type}(f g:α->Option β):Prop:=∀a b,f a=some b->g a=some b
def Le.refl {α β:Type}{f:α->Option β}:Le f f:=λ_ _ h=>h
def Le.trans {α β:Type}{f g h:α->Option β}(a:Le f g)(b:Le g h):Le f h:=λx y k=>b x y (a x y k)
def LeJ (J J':List JT):Prop:=∀(i:Nat) (f:JT),J[i]?=some f->∃g:JT,J'[i]?=some g/\ Le f g
def LeJ.snoc {J J':List JT}{f g:JT}(h:LeJ J J')(hl:J.length=J'.length)(k:Le f g):LeJ (J++[f]) (J'++[g]):=λi u hi=>by
 by_cases e:i<J.length
 .rw[aG e] at hi;rw[aG (by omega)];exact h i u hi
 .rw[bH (by omega)] at hi;rw[bH (by omega),<-hl];cases hj:i-J.length with
  |zero=>rw[hj] at hi;simp at hi;subst hi;exact⟨g,by simp,k⟩
  |succ j=>rw[hj] at hi;simp at hi
def gy {Φ Φ':PhT}(hΦ:∀g,Le (Φ g) (Φ' g)):∀(k:K) {N N':Nat} {J J':List JT} {e rs:List PV},N<=N'->LeJ J J'->J.length=J'.length->den Φ N k J e=some rs->den Φ' N' k J' e=some rs
 | .ret vs,N,N',J,J',e,rs,_,_,_,h=>h
 | .dead,N,N',J,J',e,rs,_,_,_,h=>by cases h
 | .lt f as k,N,N',J,J',e,rs,hn,hj,hl,h=>by
  simp[den] at h|-;split at h
  .rename_i xs hx
   (try rw[hx]);(try simp only)
   split at h
   .rename_i v hv
    (try rw[hv]);exact gy hΦ k hn hj hl h
   .cases h
  .cases h
 | .call g as k,N,N',J,J',e,rs,hn,hj,hl,h=>by
  simp[den] at h|-;split at h
  .rename_i xs hx
   (try rw[hx]);(try simp only)
   split at h
   .rename_i v hv
    (try rw[hΦ g _ _ hv]);exact gy hΦ k hn hj hl h
   .cases h
  .cases h
 | .br x t f,N,N',J,J',e,rs,hn,hj,hl,h=>by
  simp[den] at h|-;split at h
  .rename_i hx;(try rw[hx]);exact gy hΦ t hn hj hl h
  .rename_i hx;(try rw[hx]);exact gy hΦ f hn hj hl h
  .cases h
 | .amb t f,N,N',J,J',e,rs,hn,hj,hl,h=>by
  simp[den] at h|-;split at h
  .rename_i a ha;split at h
   .rename_i b hb;obtain⟨rfl,rfl⟩:=aco h;simp[gy hΦ t hn hj hl ha,gy hΦ f hn hj hl hb]
   .cases h
  .cases h
 | .jp d k,N,N',J,J',e,rs,hn,hj,hl,h=>by
  simp[den] at h|-;exact gy hΦ k hn (hj.snoc hl λa b hab=>gy hΦ d hn hj hl hab) (by simp[hl]) h
 | .loop b k,N,N',J,J',e,rs,hn,hj,hl,h=>by
  simp[den] at h|-;refine gy hΦ k hn (hj.snoc hl ?_) (by simp[hl]) h;have:∀M M',M<=M'->Le (mw (λself vs=>den Φ N b (J++[self]) (e++vs)) M) (mw (λself vs=>den Φ' N' b (J'++[self]) (e++vs)) M'):=by
   intro M;induction M with
   |zero=>intro M' _ a c hac;cases hac
   |succ M ih=>
    intro M' hm a c hac;cases M' with
    |zero=>omega
    |succ M'=>exact gy hΦ b hn (hj.snoc hl (ih M' (by omega))) (by simp[hl]) hac
  exact this N N' hn
 | .jmp j vs,N,N',J,J',e,rs,hn,hj,hl,h=>by
  simp[den] at h|-;split at h
  .rename_i f hf;obtain⟨g,hg,hle⟩:=hj j f hf
   (try rw[hg]);(try simp only)
   split at h
   .rename_i xs hx
    (try rw[hx]);exact hle _ _ h
   .cases h
  .cases h
def LeJ.refl {J:List JT}:LeJ J J:=λ_ f h=>⟨f,h,.refl⟩
structure Apx (f:JT)(g:Nat->JT):Prop where
 mono:∀n m,n<=m->Le (g n) (g m)
 lim:∀a b,f a=some b->∃n,g n a=some b
def ST {Φ:PhT}{Ψ:Nat->PhT}(hm:∀n m,n<=m->∀g,Le (Ψ n g) (Ψ m g))(hl:∀g a b,Φ g a=some b->∃n,Ψ n g a=some b){N:Nat}:∀(k:K) {JJ:List (JT×(Nat->JT))} {e rs:List PV},(∀p∈JJ,Apx p.1 p.2)->den Φ N k (JJ.map (·.1)) e=some rs->∃n,den (Ψ n) N k (JJ.map λp=>p.2 n) e=some rs:=by
 have leJ:∀{JJ:List (JT×(Nat->JT))},(∀p∈JJ,Apx p.1 p.2)->∀{n m:Nat},n<=m->LeJ (JJ.map λp=>p.2 n) (JJ.map λp=>p.2 m):=λ{JJ} h {n m} hnm i f hi=>by
  rw[a8] at hi;rw[bM] at hi;obtain⟨p,hp,rfl⟩:=hi;exact⟨p.2 m,by rw[a8,hp];rfl,(h p (au hp)).mono n m hnm⟩
 have up:∀(k:K) {JJ:List (JT×(Nat->JT))} {e rs:List PV},(∀p∈JJ,Apx p.1 p.2)->∀{n m:Nat},n<=m->den (Ψ n) N k (JJ.map λp=>p.2 n) e=some rs->den (Ψ m) N k (JJ.map λp=>p.2 m) e=some rs:=λk {JJ e rs} h {n m} hnm hd=>gy (hm n m hnm) k (aB _) (leJ h hnm) (by simp) hd;have snoc:∀{JJ:List (JT×(Nat->JT))} {p:JT×(Nat->JT)},(∀p∈JJ,Apx p.1 p.2)->Apx p.1 p.2->∀q∈JJ++[p],Apx q.1 q.2:=λh hp q hq=>(bS.1 hq).elim (h q) λhq=>by simp at hq;subst hq;exact hp
 intro k;induction k with
 |ret vs=>intro JJ e rs _ h;exact⟨0,h⟩
 |dead=>intro JJ e rs _ h;cases h
 |lt f as k ih=>
  intro JJ e rs hJ h;simp only[den] at h|-;split at h
  .rename_i xs hx
   (try rw[hx])
   split at h
   .rename_i v hv;obtain⟨n,h⟩:=ih hJ h;exact⟨n,by(try simp only[hv]);exact h⟩
   .cases h
  .cases h
 |call g as k ih=>
  intro JJ e rs hJ h;simp only[den] at h|-;split at h
  .rename_i xs hx
   (try rw[hx])
   split at h
   .rename_i v hv;obtain⟨n,h⟩:=ih hJ h;obtain⟨n',hv⟩:=hl _ _ _ hv;exact⟨max n n',by(try rw[hm n' _ (nq n n') g _ _ hv]);exact up k hJ (oC n n') h⟩
   .cases h
  .cases h
 |br x t f iht ihf=>
  intro JJ e rs hJ h;simp only[den] at h|-;split at h
  .rename_i hx;(try rw[hx]);exact iht hJ h
  .rename_i hx;(try rw[hx]);exact ihf hJ h
  .cases h
 |amb t f iht ihf=>
  intro JJ e rs hJ h;simp only[den] at h;split at h
  .rename_i a ha;split at h
   .rename_i b hb;obtain⟨rfl,rfl⟩:=aco h;obtain⟨n,ha⟩:=iht hJ ha;obtain⟨n',hb⟩:=ihf hJ hb;exact⟨max n n',by simp only[den,up t hJ (oC n n') ha,up f hJ (nq n n') hb,az]⟩
   .cases h
  .cases h
 |jp d k ihd ihk=>
  intro JJ e rs hJ h;simp only[den] at h;have hp:Apx (λvs=>den Φ N d (JJ.map (·.1)) (e++vs)) (λn vs=>den (Ψ n) N d (JJ.map λp=>p.2 n) (e++vs)):=⟨λn m hnm a b hab=>up d hJ hnm hab,λa b hab=>ihd hJ hab⟩;obtain⟨n,h⟩:=ihk (JJ:=JJ++[(_,_)]) (snoc hJ hp) (by simpa using h)
  exact⟨n,by simp only[den];simpa using h⟩
 |loop b k ihb ihk=>
  intro JJ e rs hJ h;simp only[den] at h;have hp:∀M,Apx (mw (λself vs=>den Φ N b (JJ.map (·.1)++[self]) (e++vs)) M) (λn=>mw (λself vs=>den (Ψ n) N b ((JJ.map λp=>p.2 n)++[self]) (e++vs)) M):=by
   intro M;induction M with
   |zero=>exact⟨λn m _ a c h=>(by cases h),λa c h=>(by cases h)⟩
   |succ M ih=>
    have hs:=snoc (p:=(_,_)) hJ ih;refine⟨λn m hnm a c h=>?_,λa c h=>?_⟩
    .have:=up b hs hnm (e:=e++a) (rs:=c) (by simpa [mw] using h)
     simpa [mw] using this
    .obtain⟨n,h⟩:=ihb hs (e:=e++a) (rs:=c) (by simpa [mw] using h)
     exact⟨n,by simpa [mw] using h⟩
  obtain⟨n,h⟩:=ihk (JJ:=JJ++[(_,_)]) (snoc hJ (hp N)) (by simpa using h)
  exact⟨n,by simp only[den];simpa using h⟩
 |jmp j vs=>
  intro JJ e rs hJ h;simp only[den,a8] at h|-;cases hj:JJ[j]? with
  |none=>rw[hj] at h;cases h
  |some p=>
   rw[hj] at h;simp only[cg] at h|-;split at h
   .rename_i xs hx
    (try rw[hx])
    exact(hJ p (au hj)).lim _ _ h
   .cases h
inductive Sh where
 |c
 |g
 deriving Inhabited
def SU (P:Program)(t:TypeId):Sh:=match bT P t with
 |some true=> .g
 |_=> .c
def shs (D:Dcf)(g:FuncId):Option (List Sh×Nat):=(D.P.funcs[g]?).map λfn=>(fn.params.toList.map (SU D.P)++(match D.lend g with
 |some _=>[.c]
 |none=>[]),D.nr g fn)
def shB:Sh->PV->Bool
 | .c,p=>t0 p
 | .g,p=>!t0 p
def lJ:List Sh->List PV->Bool
 |[],[]=>true
 |s::ss,p::ps=>shB s p&& lJ ss ps
 |_,_=>false
def Kh {P:Program}:∀{tys:List TypeId} {ps:List PV},lJ (tys.map (SU P)) ps=true->ps.length=tys.length/\∀(i:Nat) (t:TypeId),tys[i]?=some t->∃p:PV,ps[i]?=some p/\(bT P t=some true↔t0 p=false)
 |[],[],_=>⟨rfl,λi t h=>by simp at h⟩
 |t::tys,p::ps,h=>by
  simp[lJ] at h;obtain⟨h1,h2⟩:=Kh h.2;refine⟨by simp[h1],λi t' hi=>?_⟩;cases i with
  |zero=>
   simp at hi;subst hi;refine⟨p,rfl,?_⟩;have h3:=h.1;unfold SU at h3;split at h3
   .rename_i ha;simp[shB] at h3;exact⟨λ_=>h3,λ_=>ha⟩
   .rename_i ha;simp[shB] at h3;exact⟨λh=>absurd h (by simpa using ha),λh=>by rw[h3] at h;cases h⟩
  |succ i=>simp at hi;simpa using h2 i t' hi
 |[],_::_,h=>by simp[lJ] at h
 |_::_,[],h=>by simp[lJ] at h
def II:∀{ss ts:List Sh} {ps:List PV},lJ (ss++ts) ps=true->∃a b,ps=a++b/\ lJ ss a=true/\ lJ ts b=true
 |[],ts,ps,h=>⟨[],ps,rfl,rfl,h⟩
 |s::ss,ts,[],h=>by simp[lJ] at h
 |s::ss,ts,p::ps,h=>by
  simp[lJ] at h;obtain⟨a,b,rfl,h1,h2⟩:=II h.2;exact⟨p::a,b,rfl,by simp[lJ,h.1,h1],h2⟩
structure Dt extends Dcf where
 T:FuncId->Option K
 X:FuncId->List PV->Option (List PV)
def kH (D:Dt):Nat->PhT
 |0=>λ_ _=>none
 |n+1=>λg vs=>match D.T g with
  |some k=>match shs D.toDcf g with
   |some (ss,m)=>match lJ ss vs with
    |true=>match den (kH D n) n k [] vs with
     |some rs=>match Nat.beq rs.length m with
      |true=>some rs
      |false=>none
     |none=>none
    |false=>none
   |none=>none
  |none=>D.X g vs
def Dw (D:Dt):∀n g,Le (kH D n g) (kH D (n+1) g)
 |0,g=>λa b h=>by cases h
 |n+1,g=>λa b h=>by
  have ih:=Dw D n;unfold kH at h|-;cases hT:D.T g with
  |none=>rw[hT] at h;exact h
  |some k=>
   rw[hT] at h;simp only at h|-;split at h
   .rename_i ss m hs;split at h
    .rename_i hb;split at h
     .rename_i rs hd;rw[gy ih k (ew n) LeJ.refl rfl hd];exact h
     .cases h
    .cases h
   .cases h
def sT (D:Dt){n m:Nat}(h:n<=m)(g:FuncId):Le (kH D n g) (kH D m g):=by
 induction m with
 |zero=>rw[show n=0 by omega];exact .refl
 |succ m ih=>
  by_cases e:n=m+1
  .rw[e];exact .refl
  .exact(ih (by omega)).trans (Dw D m g)
def Ans (D:Dt)(g:FuncId)(vs rs:List PV):Prop:=∃n,kH D n g vs=some rs
def V8 {D:Dt}{g:FuncId}{vs rs rs':List PV}(h:Ans D g vs rs)(k:Ans D g vs rs'):rs=rs':=by
 obtain⟨n,h⟩:=h;obtain⟨m,k⟩:=k;have h:=sT D (oC n m) g _ _ h;have k:=sT D (nq n m) g _ _ k
 grind
open Classical in
def bL (D:Dt):PhT:=λg vs=>if h:∃rs,Ans D g vs rs then some (Classical.choose h) else none
def acB {D:Dt}{g:FuncId}{vs rs:List PV}(h:Ans D g vs rs):bL D g vs=some rs:=by
 unfold bL;rw[dif_pos ⟨rs,h⟩];exact aW some (V8 (jL (⟨rs,h⟩:∃rs,Ans D g vs rs)) h)
def Kok (D:Dt)(g:FuncId)(k:K):Prop:=D.T g=some k
def ans_of {D:Dt}{g:FuncId}{ss:List Sh}{m:Nat}{vs rs:List PV}{k:K}(hk:Kok D g k)(hs:shs D.toDcf g=some (ss,m))(ha:lJ ss vs=true)(hd:∃N,den (bL D) N k [] vs=some rs)(hl:rs.length=m:=by rfl):Ans D g vs rs:=by
 obtain⟨N,hd⟩:=hd;obtain⟨n,h⟩:=ST (Ψ:=kH D) (λn m h g=>sT D h g) (λg a b h=>by
  unfold bL at h;split at h
  .rename_i he;cases h;exact jL he
  .cases h) k (JJ:=[]) (λp hp=>by cases hp) hd
 refine⟨max n N+1,?_⟩;have h:den (kH D n) N k [] vs=some rs:=h;unfold kH;rw[show D.T g=some k from hk]
 simp[hs,ha,gy (λg=>sT D (oC n N) g) k (nq n N) LeJ.refl rfl h,hl]
def UV {D:Dt}{g:FuncId}{vs rs:List PV}(h0:D.T g=none)(h:D.X g vs=some rs):Ans D g vs rs:=⟨1,by unfold kH;rw[h0];exact h⟩
structure DtOk (D:Dt):Prop where
 T:∀g k,D.T g=some k->∃fuel hs,zF D.toDcf fuel g hs=some k
 X:∀g vs rs,D.T g=none->D.X g vs=some rs->iN D.toDcf g vs rs
 fol:D.P.follows .mixedOrders=true
def Ki {D:Dt}(h:DtOk D):∀n g ps rs,kH D n g ps=some rs->iN D.toDcf g ps rs
 |0,g,ps,rs,e=>by cases e
 |n+1,g,ps,rs,e=>by
  unfold kH at e;split at e
  .rename_i k hk;split at e
   .rename_i ss m hs;split at e
    .rename_i hb;split at e
     .rename_i rs' hd;split at e
      .rename_i hl;cases e;obtain⟨fuel,hh,hsym⟩:=h.T g k hk;unfold shs at hs;rw[bM] at hs;obtain⟨fn,hfn,e⟩:=hs;cases e;obtain⟨a,b,rfl,hb,hb'⟩:=II hb;obtain⟨h1,h2⟩:=Kh hb;refine V7 (Ki h n) h.fol hsym ⟨fn,hfn,?_,bg hl,λi t ht=>?_⟩ hd
       .unfold Dcf.na;rw[aC,h1];cases hld:D.lend g with
        |none=>rw[hld] at hb';cases b with
         |nil=>simp
         |cons=>simp[lJ] at hb'
        |some ld=>rw[hld] at hb';cases b with
         |nil=>simp[lJ] at hb'
         |cons _ b=>cases b with
          |nil=>simp
          |cons=>simp[lJ] at hb'
       .obtain⟨p,h3,h4⟩:=h2 i t (by simpa using ht)
        exact⟨p,by rw[aG (aD.1 h3).1];exact h3,h4⟩
      .cases e
     .cases e
    .cases e
   .cases e
  .rename_i hk;exact h.X g ps rs hk e
def UW {D:Dt}(h:DtOk D){g:FuncId}{ps rs:List PV}(k:Ans D g ps rs):iN D.toDcf g ps rs:=let⟨n,k⟩:=k;Ki h n g ps rs k
def oe:K->Nat
 | .ret vs=>vs.length
 | .dead=>0
 | .lt _ _ k=>oe k
 | .call _ _ k=>oe k
 | .br _ t f=>(match oe t with|0=>oe f|n+1=>n+1)
 | .amb t f=>(match oe t with|0=>oe f|n+1=>n+1)
 | .jp t f=>(match oe t with|0=>oe f|n+1=>n+1)
 | .loop t f=>(match oe t with|0=>oe f|n+1=>n+1)
 | .jmp _ _=>0
inductive TabL (D:Dcf):List (Nat×List Hint×K)->Prop
 |nil:TabL D []
 |cons {g:Nat} {hs:List Hint} {k:K} {l:List (Nat×List Hint×K)} (h:zF D 100000 g hs=some k) (t:TabL D l):TabL D ((g,hs,k)::l)
def TabL.app {D:Dcf}{a b:List (Nat×List Hint×K)}(h:TabL D a)(k:TabL D b):TabL D (a++b):=by
 induction h with
 |nil=>exact k
 |cons h _ ih=>exact .cons h ih
def MN (l:List (Nat×List Hint×K)):List (Nat×K):=l.map λe=>(e.1,e.2.2)
def TabL.ok {D:Dcf}:∀{l:List (Nat×List Hint×K)},TabL D l->∀g k,look (MN l) g=some k->∃fuel hs,zF D fuel g hs=some k
 |_,.nil,g,k,h=>by cases h
 |_,.cons h t,g,k,hl=>by
  unfold MN at hl;rw[bQ,dZ] at hl;split at hl
  .rename_i e;subst e;cases hl;exact⟨_,_,h⟩
  .exact t.ok g k hl
def evC:Option PV->List PV->List A->Option (List PV)
 |some v,e,as=>match evs e as with
  |some vs=>some (v::vs)
  |none=>none
 |none,_,_=>none
def evD (v:PV):Option (List PV)->Option (List PV)
 |some vs=>some (v::vs)
 |none=>none
def V9 {e:List PV}:evs e []=some []:=rfl
def sU {e:List PV}{a:A}{as:List A}:evs e (a::as)=evC (a.ev e) e as:=by
 cases h:a.ev e<;>simp only[evs,evC,h]<;>rfl
def SX {v:PV}{e:List PV}{as:List A}:evC (some v) e as=evD v (evs e as):=by simp only[evC,evD]
def SY {v:PV}{vs:List PV}:evD v (some vs)=some (v::vs):=rfl
def acC {i:Nat}{e:List PV}:A.ev e (.x i)=e[i]?:=rfl
def ahG {p:PV}{e:List PV}:A.ev e (.c p)=some p:=rfl
def SZ {α:Type}{a:α}{l:List α}:(a::l)[0]?=some a:=rfl
def S1 {α:Type}{a:α}{l:List α}{i:Nat}:(a::l)[i+1]?=l[i]?:=rfl
section
variable (Φ:PhT)(N:Nat)
def MO (r:Option PV)(k:K)(J:List JT)(e:List PV):Option (List PV):=match r with
 |some v=>den Φ N k J (e++[v])
 |none=>none
def MQ (f:RF)(xs:Option (List PV))(k:K)(J:List JT)(e:List PV):Option (List PV):=match xs with
 |some xs=>MO Φ N (f.ev xs) k J e
 |none=>none
def MS (r:Option (List PV))(k:K)(J:List JT)(e:List PV):Option (List PV):=match r with
 |some rs=>den Φ N k J (e++rs)
 |none=>none
def S2 (g:FuncId)(xs:Option (List PV))(k:K)(J:List JT)(e:List PV):Option (List PV):=match xs with
 |some xs=>MS Φ N (Φ g xs) k J e
 |none=>none
def S3 (r:Option PV)(t f:K)(J:List JT)(e:List PV):Option (List PV):=match r with
 |some (.v (.bool true))=>den Φ N t J e
 |some (.v (.bool false))=>den Φ N f J e
 |_=>none
def S4 (f:Option JT)(xs:Option (List PV)):Option (List PV):=match f with
 |some f=>match xs with
  |some xs=>f xs
  |none=>none
 |none=>none
def oZ (d:K)(J:List JT)(e:List PV):JT:=λvs=>den Φ N d J (e++vs)
@[irreducible] def dW (b:K) (J:List JT) (e:List PV) (n:Nat):JT:=mw (λself vs=>den Φ N b (J++[self]) (e++vs)) n
variable {Φ N}{J:List JT}{e:List PV}
def Wa {vs:List A}:den Φ N (.ret vs) J e=evs e vs:=rfl
def ay {f:RF}{as:List A}{k:K}:den Φ N (.lt f as k) J e=MQ Φ N f (evs e as) k J e:=by unfold MQ MO;rfl
def Qq {f:RF}{xs:List PV}{k:K}:MQ Φ N f (some xs) k J e=MO Φ N (f.ev xs) k J e:=rfl
def pP {v:PV}{k:K}:MO Φ N (some v) k J e=den Φ N k J (e++[v]):=rfl
def S5 {g:FuncId}{as:List A}{k:K}:den Φ N (.call g as k) J e=S2 Φ N g (evs e as) k J e:=by unfold S2 MS;rfl
def Qr {g:FuncId}{xs:List PV}{k:K}:S2 Φ N g (some xs) k J e=MS Φ N (Φ g xs) k J e:=rfl
def Qs {rs:List PV}{k:K}:MS Φ N (some rs) k J e=den Φ N k J (e++rs):=rfl
def o7 {t f:K}{r:List PV}(h:den Φ N t J e=some r)(k:den Φ N f J e=some r):den Φ N (.amb t f) J e=some r:=by simp only[den,h,k,az]
def acD {x:A}{t f:K}:den Φ N (.br x t f) J e=S3 Φ N (x.ev e) t f J e:=by unfold S3;rfl
def Qt {b:Bool}{t f:K}:S3 Φ N (some (.v (.bool b))) t f J e=if b=true then den Φ N t J e else den Φ N f J e:=by cases b<;>rfl
def acE {d k:K}:den Φ N (.jp d k) J e=den Φ N k (J++[oZ Φ N d J e]) e:=rfl
def S6 {b k:K}:den Φ N (.loop b k) J e=den Φ N k (J++[dW Φ N b J e N]) e:=by unfold dW;rfl
def Wb {j:Nat}{vs:List A}:den Φ N (.jmp j vs) J e=S4 J[j]? (evs e vs):=by unfold S4;rfl
def Qu {f:JT}{xs:List PV}:S4 (some f) (some xs)=f xs:=rfl
def Wc {d:K}{vs:List PV}:oZ Φ N d J e vs=den Φ N d J (e++vs):=rfl
def bC {b:K}{n:Nat}{vs:List PV}:dW Φ N b J e (n+1) vs=den Φ N b (J++[dW Φ N b J e n]) (e++vs):=by unfold dW;rfl
end
section
variable {k k':IntKind}{a b n m i:Int}{x y:Bool}{op:BinOp}
def mb:RF.ev (.bin op) [.v (.int k a),.v (.int k' b)]=dq op k a k' b:=rfl
def acF {s t:ByteArray}:RF.ev (.bin op) [.v (.string s),.v (.string t)]=xv op s t:=rfl
def acG:RF.ev (.bbin op) [.v (.bool x),.v (.bool y)]=sN op x y:=rfl
def aeo:RF.ev (.un .not) [.v (.bool x)]=some (.v (.bool (!x))):=rfl
def aep:RF.ev (.un .neg) [.v (.int k a)]=some (.v (.int k (k.wrap (0-a)))):=rfl
def acH:RF.ev (.conv k') [.v (.int k a)]=some (.v (.int k' (k'.wrap a))):=rfl
def Wd {n:Nat}{cs:List PV}:RF.ev (.shape n) [.agg cs]=if cs.length=n then some (.agg cs) else none:=rfl
def acI {i:Nat}{cs:List PV}:RF.ev (.cell i) [.agg cs]=cs[i]?:=rfl
def acJ {x:Value}:RF.ev .flat [.v x]=some (.v x):=rfl
def UX {els:List (List PV)}:RF.ev .len [.sl els]=some (.v (.int .i64 els.length)):=rfl
def acK:RF.ev .ix [.v (.int k i),.v (.int k' n)]=if 0<=i/\ i<n then some (.v (.int k i)) else none:=rfl
def aeq:RF.ev .sum [.v (.int k a),.v (.int k' b)]=some (.v (.int .i64 (a+b))):=rfl
def aer:RF.ev .dif [.v (.int k a),.v (.int k' b)]=some (.v (.int .i64 (a-b))):=rfl
def j5:RF.ev .bnd [.v (.int k a),.v (.int k' b)]=if 0<=a/\ a<=b then some (.v (.int .i64 a)) else none:=rfl
def S7 (o n:Nat):Option (List PV)->Option PV
 |some row=>cF o n row
 |none=>none
def Qv {o n:Nat}{row:List PV}:S7 o n (some row)=cF o n row:=rfl
def aes {o n:Nat}{els:List (List PV)}:RF.ev (.elt o n) [.sl els,.v (.int k i)]=if 0<=i then S7 o n els[i.toNat]? else none:=by unfold S7;rfl
def aet {bytes z:Nat}{as bs:List (List PV)}:RF.ev (.app bytes z) [.sl as,.v (.int k n),.sl bs]=if 0<=n/\ n<=as.length/\(n.toNat+bs.length)*bytes<=140737488355328/\ ec z bs=true then some (.sl (as.take n.toNat++bs)) else none:=rfl
def wa {els:List (List PV)}:RF.ev .sub [.sl els,.v (.int k a),.v (.int k' n)]=if 0<=a/\ 0<=n/\ a+n<=els.length then some (.sl ((els.drop a.toNat).take n.toNat)) else none:=rfl
def MU {z:List PV}{bytes:Nat}:RF.ev (.rep z bytes) [.v (.int k a),.v (.int k' b)]=if 0<=a/\ a<=b/\ b<9223372036854775808/\ bytes*b<=281474976710656 then some (.sl (List.replicate a.toNat z)) else none:=rfl
def aeu {z:Nat}{els:List (List PV)}:RF.ev (.tix z) [.sl els,.v (.int k i)]=if 0<=i then(match els[i.toNat]? with
    |some row=>if row.length=z then some (.v (.int k i)) else none
    |none=>none)
   else none:=rfl
def xT {z:Nat}{els:List (List PV)}:RF.ev (.tsub z) [.sl els,.v (.int k a),.v (.int k' b)]=if 0<=a/\ a<=b/\ b<=els.length/\ ec z els=true/\ 0<z then some (.sl ((els.drop a.toNat).take (b.toNat-a.toNat))) else none:=rfl
def yP {o:Nat}{els:List (List PV)}{p:PV}:RF.ev (.set o) [.sl els,.v (.int k i),p]=if 0<=i then(match els[i.toNat]? with
    |some row=>if o+p.cells.length<=row.length then some (.sl (els.set i.toNat (pK row o p.cells))) else none
    |none=>none)
   else none:=rfl
def UY:dq .add k a k b=some (.v (.int k (k.wrap (a+b)))):=by simp only[dq,az]
def aev:dq .sub k a k b=some (.v (.int k (k.wrap (a-b)))):=by simp only[dq,az]
def UZ:dq .mul k a k b=some (.v (.int k (k.wrap (a*b)))):=by simp only[dq,az]
def Ep:dq .quo k a k b=if b=0 then none else some (.v (.int k (k.wrap (a.tdiv b)))):=by simp only[dq,az]
def Er:dq .rem k a k b=if b=0 then none else some (.v (.int k (a.tmod b))):=by simp only[dq,az]
def ahH:dq .or k a k b=some (.v (.int k (k.wrap (BitVec.ofInt k.bits a|||BitVec.ofInt k.bits b).toNat))):=by simp only[dq,az]
def U1:dq .and k a k b=some (.v (.int k (k.wrap (BitVec.ofInt k.bits a&&& BitVec.ofInt k.bits b).toNat))):=by simp only[dq,az]
def MV:dq .shr k a k' b=if b<0 then none else some (.v (.int k (a.fdiv (2^(min b.toNat k.bits))))):=rfl
def aew:dq .eql k a k b=some (.v (.bool (decide (a=b)))):=by simp only[dq,az]
def aex:dq .neq k a k b=some (.v (.bool (!decide (a=b)))):=by simp only[dq,az]
def aey:dq .lss k a k b=some (.v (.bool (decide (a<b)))):=by simp only[dq,az]
def aez:dq .leq k a k b=some (.v (.bool (decide (a<=b)))):=by simp only[dq,az]
def aeA:dq .gtr k a k b=some (.v (.bool (decide (b<a)))):=by simp only[dq,az]
def aeB:dq .geq k a k b=some (.v (.bool (decide (b<=a)))):=by simp only[dq,az]
def aeC:sN .eql x y=some (.v (.bool (x==y))):=rfl
def aeD:sN .neq x y=some (.v (.bool (!(x==y)))):=rfl
def aeE {s t:ByteArray}:xv .eql s t=some (.v (.bool (s.toList==t.toList))):=rfl
def aeF {s t:ByteArray}:xv .neq s t=some (.v (.bool (!(s.toList==t.toList)))):=rfl
end
def kT (n:Int):IntKind.u64.wrap n=n% 18446744073709551616:=by simp[IntKind.wrap,IntKind.bits,IntKind.signed]
def cI {n:Int}(h: -9223372036854775808<=n)(k:n<=9223372036854775807):IntKind.i64.wrap n=n:=by
 simp only[IntKind.wrap,IntKind.bits,IntKind.signed];simp;split<;>omega
def IJ {a:PV}{as bs:List PV}:a::as++bs=a::(as++bs):=rfl
def MW {as:List PV}:[]++as=as:=rfl
def Qw {a:JT}{as bs:List JT}:a::as++bs=a::(as++bs):=rfl
def U2 {as:List JT}:[]++as=as:=rfl
def S8 {a:PV}{as:List PV}:(a::as).length=as.length+1:=rfl
def We:([]:List PV).length=0:=rfl
def xs:List Nat->List A
 |[]=>[]
 |v::l=> .x v::xs l
def rg:Nat->Nat->List Nat->List Nat
 |_,0,l=>l
 |a,n+1,l=>a::rg (a+1) n l
def kCn:Nat->Nat->Nat->K->K
 |_,0,_,k=>k
 |i,n+1,m,k=> .lt (.cell i) [.x m] (kCn (i+1) n m k)
def acL {e:List PV}:evs e (xs [])=some []:=rfl
def Wf {e:List PV}{v:Nat}{l:List Nat}:evs e (xs (v::l))=evC e[v]? e (xs l):=sU
def acM {e:List PV}{a:Nat}{l:List Nat}:evs e (xs (rg a 0 l))=evs e (xs l):=rfl
def aeG {e:List PV}{a n:Nat}{l:List Nat}:evs e (xs (rg a (n+1) l))=evC e[a]? e (xs (rg (a+1) n l)):=sU
def S9 {Φ:PhT}{N i m:Nat}{k:K}{J:List JT}{e:List PV}:den Φ N (kCn i 0 m k) J e=den Φ N k J e:=rfl
def Ta {Φ:PhT}{N i n m:Nat}{k:K}{J:List JT}{e:List PV}:den Φ N (kCn i (n+1) m k) J e=MQ Φ N (.cell i) (evC e[m]? e []) (kCn (i+1) n m k) J e:=by rw[<-acC,<-sU];exact ay
def ahI:0+1=1/\ 1+1=2/\ 2+1=3/\ 3+1=4/\ 4+1=5/\ 5+1=6/\ 6+1=7/\ 7+1=8/\ 8+1=9/\ 9+1=10/\ 10+1=11/\ 11+1=12/\ 12+1=13/\ 13+1=14/\ 14+1=15/\ 15+1=16/\ 16+1=17/\ 17+1=18/\ 18+1=19/\ 19+1=20/\ 20+1=21/\ 21+1=22/\ 22+1=23/\ 23+1=24/\ 24+1=25/\ 25+1=26/\ 26+1=27/\ 27+1=28/\ 28+1=29/\ 29+1=30/\ 30+1=31/\ 31+1=32/\ 32+1=33/\ 33+1=34/\ 34+1=35/\ 35+1=36/\ 36+1=37/\ 37+1=38/\ 38+1=39/\ 39+1=40/\ 40+1=41/\ 41+1=42/\ 42+1=43/\ 43+1=44/\ 44+1=45/\ 45+1=46/\ 46+1=47/\ 47+1=48/\ 48+1=49/\ 49+1=50/\ 50+1=51/\ 51+1=52/\ 52+1=53/\ 53+1=54/\ 54+1=55/\ 55+1=56/\ 56+1=57/\ 57+1=58/\ 58+1=59/\ 59+1=60/\ 60+1=61/\ 61+1=62/\ 62+1=63/\ 63+1=64/\ 64+1=65/\ 65+1=66/\ 66+1=67/\ 67+1=68/\ 68+1=69/\ 69+1=70/\ 70+1=71/\ 71+1=72/\ 72+1=73/\ 73+1=74/\ 74+1=75/\ 75+1=76:=by
 repeat' first|exact rfl|apply And.intro
def EV:=And.intro ahI<|And.intro @acL (And.intro @Wf (And.intro @acM (And.intro @aeG (And.intro @S9 (And.intro @Ta (And.intro @acJ (And.intro @IJ (And.intro @MW (And.intro @Qw (And.intro @U2 (And.intro @S8 (And.intro @We (And.intro @ay (And.intro @sU (And.intro @V9 (And.intro @SX (And.intro @SY (And.intro @acC (And.intro @ahG (And.intro @SZ (And.intro @S1 (And.intro @Qq (And.intro @pP (And.intro @S5 (And.intro @Qr (And.intro @Qs (And.intro @acD (And.intro @Qt (And.intro @Wa (And.intro @acE (And.intro @S6 (And.intro @Wb (And.intro @Qu (And.intro @Wc (And.intro @mb (And.intro @acF (And.intro @acG (And.intro @aeo (And.intro @aep (And.intro @acH (And.intro @Wd (And.intro @acI (And.intro @UX (And.intro @aeq (And.intro @aer (And.intro @UY (And.intro @aev (And.intro @UZ (And.intro @ahH (And.intro @U1 (And.intro @aew (And.intro @aex (And.intro @aey (And.intro @aez (And.intro @aeA (And.intro @aeB (And.intro @aeC (And.intro @aeD (And.intro @aeE (And.intro @aeF (@Qv)))))))))))))))))))))))))))))))))))))))))))))))))))))))))))))
inductive Ct0 where
 |b
 |i (k:IntKind)
 |s
inductive Ct where
 |p (c:Ct0)
 |sl (es:List Ct0)
def kU:List Ct->Option (List Ct0)
 |[]=>some []
 | .p c::l=>match kU l with
  |some cs=>some (c::cs)
  |none=>none
 | .sl _::_=>none
def MX (P:Program)(rec:TypeId->Option (List Ct)):Nat->List Field->Option (List Ct)
 |_,[]=>some []
 |o,f::fs=>match Nat.beq f.offset o with
  |true=>match rec f.type with
   |some c=>match Nat.beq c.length (P.cellsOf f.type) with
    |true=>match MX P rec (o+c.length) fs with
     |some l=>some (c++l)
     |none=>none
    |false=>none
   |none=>none
  |false=>none
def cts (P:Program):Nat->TypeId->Option (List Ct)
 |0,_=>none
 |n+1,t=>match P.underlying t with
  |some .bool=>some [.p .b]
  |some (.int k)=>some [.p (.i k)]
  |some .string=>some [.p .s]
  |some (.slice e)=>match cts P n e with
   |some es=>match kU es with
    |some es0=>match Nat.beq es.length (P.cellsOf e) with
     |true=>match Nat.ble 1 es.length with
      |true=>some [.sl es0]
      |false=>none
     |false=>none
    |none=>none
   |none=>none
  |some (.struct fs)=>match MX P (cts P n) 0 fs.toList with
   |some l=>match Nat.beq l.length (P.cellsOf t) with
    |true=>some l
    |false=>none
   |none=>none
  |_=>none
def j6:Ct0->PV->Prop
 | .b,p=>∃x:Bool,p= .v (.bool x)
 | .i k,p=>∃x:Int,p= .v (.int k x)/\(Lit.int k x).wf=true
 | .s,p=>∃s:ByteArray,p= .v (.string s)/\ s.size<=maxLen
def CtV:Ct->PV->Prop
 | .p c,p=>j6 c p
 | .sl es,p=>∃els,p= .sl els/\ els.length<=maxLen/\∀c∈els,F2 j6 es c
def xU {a b:List Ct}:∀{c:List Ct0},kU (a++b)=some c->∃x y,kU a=some x/\ kU b=some y:=by
 induction a with
 |nil=>exactλh=>⟨_,_,rfl,h⟩
 |cons k l ih=>
  intro c h;cases k with
  |sl _=>cases h
  |p k=>
   simp[kU] at h;split at h
   .rename_i cs hcs;obtain⟨x,y,h1,h2⟩:=ih hcs;exact⟨k::x,y,by simp[kU,h1],h2⟩
   .cases h
def j6.plain {k:Ct0}{p:PV}(h:j6 k p):∃x,p= .v x/\ iL x=true:=by
 cases k with
 |b=>obtain⟨x,rfl⟩:=h;exact⟨_,rfl,rfl⟩
 |i k=>obtain⟨x,rfl,_⟩:=h;exact⟨_,rfl,rfl⟩
 |s=>obtain⟨x,rfl,_⟩:=h;exact⟨_,rfl,rfl⟩
def j6.t0 {k:Ct0}{p:PV}(h:j6 k p):Sym.t0 p=true:=by
 obtain⟨x,rfl,_⟩:=h.plain;rfl
def CtV.t0 {k:Ct}{p:PV}(h:CtV k p):Sym.t0 p=true:=by
 cases k with
 |p k=>exact j6.t0 (show j6 k p from h)
 |sl es=>obtain⟨els,rfl,_⟩:=h;rfl
def Kj:∀{ks:List Ct} {qs:List PV},F2 CtV ks qs->qs.all Sym.t0=true
 |_,_,.nil=>rfl
 |_,_,.cons h t=>by simp[h.t0,Kj t]
def IK:∀{ks:List Ct0} {qs:List PV},F2 j6 ks qs->qs.all Sym.t0=true
 |_,_,.nil=>rfl
 |_,_,.cons h t=>by simp[h.t0,IK t]
def Dx {W:World}{S:Nat->Prop}:∀{ks:List Ct} {k0:List Ct0} {qs:List PV} {cs:List Value},kU ks=some k0->F2 CtV ks qs->RTs W S cs qs->F2 j6 k0 qs/\ qs=cs.map PV.v/\ cs.all iL=true
 |[],_,_,_,h,.nil,hr=>by
  cases h;cases hr;exact⟨.nil,rfl,rfl⟩
 | .sl _::_,_,_,_,h,_,_=>by cases h
 | .p k::ks,k0,_,_,h,.cons h1 t,hr=>by
  simp[kU] at h;split at h
  .rename_i k1 hk;cases h;cases hr with
   |cons r1 rt=>
    obtain⟨a1,a2,a3⟩:=Dx hk t rt;have h1':=h1;obtain⟨x,rfl,hp⟩:=j6.plain h1';cases r1 with
    |v hp'=>exact⟨.cons h1 a1,by rw[a2];rfl,by simp[hp,a3]⟩
  .cases h
def OkC (W:World)(cs:List Value):Prop:=∀a l,Value.slice (some a) l 0∈cs->a.spot=none/\ a.block<W.heap.size
def All (W:World)(B:Nat):Prop:=B<W.heap.size
def Rd (W:World)(ks:List Ct)(cs:List Value):Prop:=∃qs,RTs W (All W) cs qs/\ F2 CtV ks qs
def Wg {a:Addr}(h:a.spot=none)(x y:Nat):(a.add x).add y=a.add (x+y):=by
 unfold Addr.add
 grind
def Tb {a:Addr}(h:a.spot=none)(x:Nat):a.add x=⟨a.block,a.off+x,none⟩:=by
 unfold Addr.add;split
 .rename_i e;subst e;cases a;simp only at h;subst h;rfl
 .rfl
def Dy {w:World}{base:Nat}{a:Addr}{n:Nat}{cs:List Value}(h:w.cells? base a n=some cs):cs.length=n/\∀i,i<n->w.cell? (a.add i)=cs[i]?:=by
 unfold World.cells? at h;split at h
 .refine⟨by simpa using mapM_some_length h,λi hi=>?_⟩
  exact mapM_some_get h i i (by simp[hi])
 .cases h
def IL {w:World}{a:Addr}{v:Value}(h:w.cell? a=some v):∃arr t fz,w.heap[a.block]?=some (.cells arr t fz)/\ arr[a.off]?=some v:=by
 unfold World.cell? at h
 grind
def Dz {W:World}{S:Nat->Prop}:∀{cs:List Value},cs.all iL=true->RTs W S cs (cs.map PV.v)
 |[],_=> .nil
 |c::cs,h=>by
  simp only[dF,aH] at h;exact .cons (.v h.1) (Dz h.2)
def acN {W:World}{z:Nat}{es:List Ct0}{a:Addr}(ha:a.spot=none)(k:Nat):∀(o:Nat),(∀i,i<k->∃cs,W.cells? 0 (a.add (o+i*z)) z=some cs/\ cs.all iL=true/\ F2 j6 es (cs.map PV.v))->
  ∃(c:List Value) (els:List (List PV)),els.length=k/\ c.length=k*z/\ els.flatten=c.map PV.v/\(∀r∈els,r.length=z)/\ c.all iL=true/\(∀(i:Nat) (v:Value),c[i]?=some v->W.cell? (a.add (o+i))=some v)/\∀e∈els,F2 j6 es e:=by
 induction k with
 |zero=>exactλo _=>⟨[],[],rfl,by simp,rfl,(λr h=>by cases h),rfl,λi v h=>by simp at h,λe he=>by cases he⟩
 |succ k ih=>
  intro o h;obtain⟨c,els,h1,h2,h3,h3',h4,h5,h6⟩:=ih (o+z) (λi hi=>by
   have:=h (i+1) (by omega);rwa [show o+(i+1)*z=o+z+i*z by rw[b6];omega] at this)
  obtain⟨cs,k1,k2,k3⟩:=h 0 (by omega);obtain⟨l1,l2⟩:=Dy k1;refine⟨cs++c,cs.map PV.v::els,by simp[h1],by rw[aC,l1,h2,b6];omega,by simp[h3],?_,by simp only[ou,k2,h4,gb],?_,?_⟩
  .grind
  .intro i v hv;by_cases hi:i<z
   .rw[aG (by omega)] at hv;have:=l2 i hi;rw[Wg ha,show o+0*z+i=o+i by omega] at this
    rw[this,hv]
   .rw[bH (by omega)] at hv;have:=h5 _ _ hv;rwa [l1,show o+z+(i-z)=o+i by omega] at this
  .intro e he;cases he with
   |head=>exact k3
   |tail _ he=>exact h6 e he
section
variable {T:Type}{enc:TypeId×Value->T}{P:Program}{W:World}
def U3 {n fuel:Nat}{cs:List Value}
  (ih:∀{t:TypeId} {ks:List Ct},cts P n t=some ks->∀{cs:List Value} {x:DataW T×List MemPlace},DataW.trod enc P W 0 (λ_=>true) true fuel t cs=some x->(OkC W cs\/∃k0,kU ks=some k0)->Rd W ks cs):
  ∀(fs:List Field) (o:Nat) (l:List Ct),MX P (cts P n) o fs=some l->(∀f∈fs,∃x,DataW.trod enc P W 0 (λ_=>true) true fuel f.type ((cs.drop f.offset).take (P.cellsOf f.type))=some x)->
   (OkC W cs\/∃k0,kU l=some k0)->Rd W l ((cs.drop o).take l.length)
 |[],o,l,h,_,_=>by
  cases h;exact⟨[],by simpa using RTs.nil,.nil⟩
 |f::fs,o,l,h,ht,hc=>by
  simp[MX] at h;split at h
  .rename_i ho;split at h
   .rename_i c hcf;split at h
    .rename_i hcl;split at h
     .rename_i l' hl';cases h;have ho:=bg ho;have hcl:=bg hcl;have okA:OkC W cs->∀o k,OkC W ((cs.drop o).take k):=λhk o k a l hm=>hk a l (kg (iC hm));have hc1:OkC W ((cs.drop f.offset).take (P.cellsOf f.type))\/∃k0,kU c=some k0:=by
       rcases hc with hc|⟨k0,hc⟩
       .exact .inl (okA hc _ _)
       .obtain⟨x,_,hx,_⟩:=xU hc;exact .inr ⟨x,hx⟩
      have hc2:OkC W cs\/∃k0,kU l'=some k0:=by
       rcases hc with hc|⟨k0,hc⟩
       .exact .inl hc
       .obtain⟨_,y,_,hy⟩:=xU hc;exact .inr ⟨y,hy⟩
      obtain⟨x,hx⟩:=ht f (by simp);obtain⟨qs,s5,s6⟩:=ih hcf hx hc1;obtain⟨rs,u5,u6⟩:=U3 ih fs (o+c.length) l' hl' (λg hg=>ht g (by simp[hg])) hc2;refine⟨qs++rs,?_,s6.append u6⟩;rw[aC,List.take_add,gz];rw[ho,<-hcl] at s5;exact .of (s5.f2.append u5.f2)
     .cases h
    .cases h
   .cases h
  .cases h
def wb:∀(n:Nat) {t:TypeId} {ks:List Ct},cts P n t=some ks->∀{fuel:Nat} {cs:List Value} {x:DataW T×List MemPlace},DataW.trod enc P W 0 (λ_=>true) true fuel t cs=some x->
  (OkC W cs\/∃k0,kU ks=some k0)->Rd W ks cs
 |0,_,_,h,_,_,_,_,_=>by cases h
 |n+1,t,ks,h,fuel,cs,x,hx,hc=>by
  unfold cts at h;split at h
  .rename_i ht;cases h;obtain⟨b,rfl,_⟩:=DataW.trod_bool ht hx;exact⟨[.v (.bool b)],.cons (.v rfl) .nil,.cons ⟨b,rfl⟩ .nil⟩
  .rename_i k ht;cases h;obtain⟨b,rfl,_,hw⟩:=DataW.trod_int ht hx;exact⟨[.v (.int k b)],.cons (.v rfl) .nil,.cons ⟨b,rfl,hw⟩ .nil⟩
  .rename_i ht;cases h;obtain⟨b,rfl,_,hw⟩:=DataW.trod_string ht hx;exact⟨[.v (.string b)],.cons (.v rfl) .nil,.cons ⟨b,rfl,hw⟩ .nil⟩
  .rename_i e ht;split at h
   .rename_i es hes;split at h
    .rename_i es0 hes0;split at h
     .rename_i hz;split at h
      .rename_i hz1;cases h;have hz:=bg hz;have hz1:0<P.cellsOf e:=by have:=bX hz1;omega
       rcases hc with hc|⟨k0,hc⟩
       .rcases DataW.trod_slice ht hx with⟨rfl,_⟩|⟨a,len,cap,elems,rest,m,rfl,rfl,_,_,hlc,hcm,hel,h1,h2,_⟩
        .exact⟨[.sl []],.cons (.nil (.inl rfl)) .nil,.cons ⟨[],rfl,cV _,λc hc=>by cases hc⟩ .nil⟩
        .cases hcap:cap with
         |zero=>
          subst hcap;have hl0:len=0:=by omega
          subst hl0;obtain⟨hsp,hblk⟩:=hc a 0 (by simp);refine⟨[.sl []],.cons (.nil (.inr ⟨a.block,a.off,?_⟩)) .nil,.cons ⟨[],rfl,cV _,λc hc=>by cases hc⟩ .nil⟩;cases a;simp only at hsp;subst hsp;rfl
         |succ cap'=>
          have hall:∀j,j<cap->∃ci y,W.cells? 0 (a.add (j*P.cellsOf e)) (P.cellsOf e)=some ci/\ DataW.trod enc P W 0 (λ_=>true) true m e ci=some y:=by
           intro j hj;have:∃y,(W.cells? 0 (a.add (j*P.cellsOf e)) (P.cellsOf e)).bind (DataW.trod enc P W 0 (λ_=>true) true m e)=some y:=by
            by_cases hjl:j<len
            .rw[h1 j hjl];exact⟨elems[j]'(by omega),ah _⟩
            .obtain⟨hr,h2⟩:=h2 rfl;have:=h2 (j-len) (by omega);rw[show len+(j-len)=j by omega] at this
             rw[this];exact⟨rest[j-len]'(by omega),ah _⟩
           obtain⟨y,hy⟩:=this;obtain⟨ci,hci,hy⟩:=sB.1 hy;exact⟨ci,y,hci,hy⟩
          obtain⟨c0,y0,q1,_⟩:=hall 0 (by omega);obtain⟨q2,q3⟩:=Dy q1;have q4:=q3 0 hz1;rw[show a.add (0*P.cellsOf e)=a by simp[Addr.add],show a.add 0=a by simp[Addr.add],ah (by omega)] at q4
          have hsp:=World.cell?_spot q4;obtain⟨arr,ty,fz,w1,w2⟩:=IL q4;have hblk:=(bA.1 w1).1;obtain⟨c,els,r1,r2,r3,r3',r4,r5,r6⟩:=acN (W:=W) (z:=P.cellsOf e) (es:=es0) hsp len 0 (λi hi=>by
           obtain⟨ci,y,hci,hy⟩:=hall i (by omega);obtain⟨qs,g5,g6⟩:=wb n hes hy (.inr ⟨es0,hes0⟩);obtain⟨f1,f2,f3⟩:=Dx hes0 g6 g5;rw[f2] at f1;exact⟨ci,by rw[cj];exact hci,f3,f1⟩)
          have hcell:∀(i:Nat) (v:Value),c[i]?=some v->arr[a.off+i]?=some v:=λi v hv=>by
           have:=r5 i v hv;rw[cj,Tb hsp] at this;obtain⟨arr',ty',fz',w1',w2'⟩:=IL this;rw[w1] at w1';cases w1';exact w2'
          have hpart:(arr.toList.drop a.off).take (len*P.cellsOf e)=c:=by
           refine cU λi=>?_;rw[gR];by_cases hi:i<len*P.cellsOf e
           .rw[ad hi,fN];have:=hcell i (c[i]'(by omega)) (ah _);rw[bK,this];exact(ah _).symm
           .rw[ac hi,bF (by omega)]
          refine⟨[.sl els],.cons ?_ .nil,.cons ⟨els,rfl,by omega,r6⟩ .nil⟩;have:(some a:Option Addr)=some ⟨a.block,a.off,none⟩:=by cases a;simp only at hsp;subst hsp;rfl
          rw[this];exact .sl (z:=P.cellsOf e) hblk w1 hz1 r1 (by omega) (λr hr=>⟨r3' r hr,IK (r6 r hr)⟩) (by rw[hpart,r3];exact Dz r4)
       .cases hc
      .cases h
     .cases h
    .cases h
   .cases h
  .rename_i fs ht;split at h
   .rename_i l hl;split at h
    .rename_i hz;cases h;have hz:=bg hz;obtain⟨xs,m,rfl,rfl,hcl,hxl,hf⟩:=DataW.trod_struct ht hx;have:=U3 (cs:=cs) (fuel:=m) (λhk=>λ{cs x} hx hc=>wb n hk hx hc) fs.toList 0 ks hl (λf hf'=>by
      obtain⟨i,hi,hfi⟩:=oD hf';have e:=hf i f (by rw[<-bK,ah hi,hfi]);rw[e];exact⟨xs[i]'(by rw[hxl];simpa using hi),ah _⟩) hc
     rw[dP,bk (by omega)] at this;exact this
    .cases h
   .cases h
  .cases h
end
def yQ (P:Program)(t:TypeId):Bool:=match P.underlying t with
 |some (.struct _)=>true
 |_=>false
def BC (P:Program):List TypeId->Option (List (Bool×List Ct))
 |[]=>some []
 |t::ts=>match cts P 16 t with
  |some ks=>match BC P ts with
   |some l=>some ((yQ P t,ks)::l)
   |none=>none
  |none=>none
def CJ:Bool×List Ct->PV->Prop
 |(true,ks),v=>∃qs,v= .agg qs/\ F2 CtV ks qs
 |(false,ks),v=>F2 CtV ks [v]
section
variable {T:Type}{enc:TypeId×Value->T}{P:Program}{W:World}
def IM {r:Reach}{base:Nat}{u:TypeId}{a:Addr}{l c:Nat}(h:Cell.okWide P W r base u (.slice (some a) l c)):a.spot=none/\ a.block<W.heap.size:=by
 have hk:Cell.ok P W r base u (.slice (some a) l c):=by
  unfold Cell.okWide at h
  grind
 unfold Cell.ok at hk;split at hk
 all_goals first
  |(rename_i e;cases e;done)
  |skip
 .rename_i e;obtain⟨_,_,_,h2,row,cells,h3,_⟩:=hk;unfold World.shape? at h3
  grind
 .cases hk
def JB {r:Reach}{base:Nat}{t:TypeId}{v:Value}{ks:List Ct}{n:Nat}(hc:cts P n t=some ks)(hs:yQ P t=false)(h:Value.okWide P W r base t v):v.cells=#[v]/\ Cell.okWide P W r base t v:=by
 cases n with
 |zero=>cases hc
 |succ n=>
 unfold cts at hc;unfold yQ at hs;have hk:Cell.okWide P W r base t v:=by
  unfold Value.okWide at h
  grind
 refine⟨?_,hk⟩;cases v with
 |agg cs=>
  have hk':Cell.ok P W r base t (.agg cs):=by
   unfold Cell.okWide at hk
   grind
  unfold Cell.ok at hk'
  grind
 |_=>rfl
def Wh {r:Reach}{base:Nat}{t:TypeId}{v:Value}{ks:List Ct}{d:DataW T}{ps:List MemPlace}(hc:cts P 16 t=some ks)(ho:Value.okWide P W r base t v)(hr:DataW.Trod enc P W 0 (λ_=>true) true t v d ps):∃p,RT W (All W) v p/\ CJ (yQ P t,ks) p:=by
 obtain⟨fuel,hr⟩:=hr;cases hst:yQ P t with
 |true=>
  have⟨fs,hu⟩:∃fs,P.underlying t=some (.struct fs):=by
   unfold yQ at hst
   grind
  unfold Value.okWide at ho;rw[hu] at ho;obtain⟨cs,rfl,_,ts,_,_,hok⟩:=ho;have hcs:OkC W cs.toList:=λa l hm=>by
   obtain⟨i,hi,e⟩:=oD hm;obtain⟨u,_,h⟩:=hok i (.slice (some a) l 0) (by rw[<-bK,ah hi,e]);exact IM h
  obtain⟨qs,s5,s6⟩:=wb 16 hc hr (.inl hcs);exact⟨.agg qs,.agg s5 (Kj s6),qs,rfl,s6⟩
 |false=>
  obtain⟨h1,h2⟩:=JB hc hst ho;rw[h1] at hr;have hcs:OkC W [v]:=λa l hm=>by
   simp only[b8] at hm;subst hm;exact IM h2
  obtain⟨qs,s5,s6⟩:=wb 16 hc hr (.inl hcs);cases s5 with
  |cons r1 rt=>
   cases rt;exact⟨_,r1,s6⟩
def IN {r:Reach}{base:Nat}:∀{tys:List TypeId} {ks:List (Bool×List Ct)} {vs:List Value} {ds:List (DataW T)} {ps:List MemPlace},BC P tys=some ks->(∀(j:Nat) (t:TypeId) (v:Value),tys[j]?=some t->vs[j]?=some v->Value.okWide P W r base t v)->
  DataW.TrodAll enc P W 0 (λ_=>true) true tys vs ds ps->∃qs,F2 (RT W (All W)) vs qs/\ F2 CJ ks qs
 |[],ks,vs,ds,ps,hk,ho,hr=>by
  cases hk;cases vs with
  |nil=>exact⟨[],.nil,.nil⟩
  |cons v vs=>cases ds<;>exact absurd hr (by simp[DataW.TrodAll])
 |t::tys,ks,vs,ds,ps,hk,ho,hr=>by
  unfold BC at hk;split at hk
  .rename_i k hk1;split at hk
   .rename_i l hl;cases hk;cases vs with
    |nil=>cases ds<;>exact absurd hr (by simp[DataW.TrodAll])
    |cons v vs=>
     cases ds with
     |nil=>exact absurd hr (by simp[DataW.TrodAll])
     |cons d ds=>
      obtain⟨p,q,hr1,hr2,_⟩:=hr;obtain⟨x,s5,s6⟩:=Wh hk1 (ho 0 t v rfl rfl) hr1;obtain⟨xs,u5,u6⟩:=IN hl (λj t v h1 h2=>ho (j+1) t v h1 h2) hr2;exact⟨x::xs,.cons s5 u5,.cons s6 u6⟩
   .cases hk
  .cases hk
end
def link {T:Type}{enc:TypeId×Value->T}{D:Dt}{W:World}{r:Reach}{base:Nat}{g:FuncId}{fn:Func}{t:TypeId}{ks:List (Bool×List Ct)}{args:Array Value}{ds:List (DataW T)}{ps:List MemPlace}{x:Value}
  (hD:DtOk D) (hld:D.lend g=none) (hf:D.P.funcs[g]?=some fn) (hrt:fn.resultTypes.toList=[t]) (hk:BC D.P fn.params.toList=some ks)
  (ho:∀(j:Nat) (t:TypeId) (v:Value),fn.params[j]?=some t->args[j]?=some v->Value.okWide D.P W r base t v) (hr:DataW.TrodAll enc D.P W 0 (λ_=>true) true fn.params.toList args.toList ds ps)
  (hans:∀vs,F2 CJ ks vs->Ans D g vs [.v x]):Calls D.P g args W λe W'=>e= .returned x/\ RowKit.Below W.heap.size W W':=by
 obtain⟨qs,s5,s6⟩:=IN hk (λj t v h1 h2=>ho j t v (by rwa [<-bK]) (by rwa [<-bK])) hr;obtain⟨fn',hf',_,_,_,h⟩:=(UW hD (hans qs s6)).plain hld;rw[hf] at hf';cases hf';refine(h W (All W) args s5 λ_ h=>h).mono ?_;rintro e W' ⟨u,S',us,Bs,rfl,ha⟩;have hu:us=[x]:=by
  have hrr:=ha.rr;rw[hrt] at hrr;generalize hp:[PV.v x]=pp at hrr;cases hrr with
  |cons h k=>
   cases k;cases hp;unfold RR at h;generalize (D.slots g).headD []=sl at h;split at h
   .grind
   .rcases h with⟨_,_,h,_⟩|h
    .cases h;rfl
    .generalize hq:[PV.v x]=pp at h;generalize hv:[_]=vv at h;cases h with
     |nil=>cases hq
     |tree h1 h2 t=>cases hq;cases hv;cases h1;rfl
     |own=>cases hq
     |none=>cases hq
   .exact h.elim
 refine⟨by rw[ha.u,hu];rfl,?_⟩;exact⟨ha.fr.os,ha.fr.tape,ha.fr.output,ha.fr.size,λk hk=>ha.fr.block k hk (yL hk)⟩
open Go.ChangeShapes Go.WideShapes Go.ChangeAt Go.RowKit
section
variable {T:Type}{enc:TypeId×Value->T}{P:Program}
def wK (hl:laidOutB P=true){W W':World}(hb:RowKit.Below W.heap.size W W'):∀{tys:List TypeId} {vs:List Value} {ds:List (DataW T)} {ps:List MemPlace},(tys.all λt=>P.readableRec t&& Nat.blt t P.types.size)=true->
  DataW.TrodAll enc P W 0 (λ_=>true) true tys vs ds ps->DataW.TrodAll enc P W' 0 (λb=>decide (b<W.heap.size)) true tys vs ds ps
 |[],[],[],_,_,h=>h
 |t::tys,v::vs,d::ds,_,ht,⟨p,q,h1,h2,e⟩=>by
  simp only[dF,aH] at ht;have hlt:=DataW.TrodAll.lt (show DataW.TrodAll enc P W 0 (λ_=>true) true (t::tys) (v::vs) (d::ds) _ from⟨p,q,h1,h2,e⟩)
  subst e;exact⟨p,q,Below.trod hl ht.1.1 (by simpa using ht.1.2) h1 hb (λx hx=>hlt x (by simp[hx])),wK hl hb ht.2 h2,rfl⟩
 |[],[],_::_,_,_,h=>absurd h (by simp[DataW.TrodAll])
 |[],_::_,_,_,_,h=>absurd h (by simp[DataW.TrodAll])
 |_::_,[],_,_,_,h=>absurd h (by simp[DataW.TrodAll])
 |_::_,_::_,[],_,_,h=>absurd h (by simp[DataW.TrodAll])
def zb {W:World}{b:Nat}{sp:Nat->Bool}{hd:Bool}:∀{tys:List TypeId} {vs:List Value} {ds:List (DataW T)} {ps:List MemPlace},DataW.TrodAll enc P W b sp hd tys vs ds ps->ds.length=tys.length
 |[],[],[],_,_=>rfl
 |_::_,_::_,_::_,_,⟨_,_,_,h,_⟩=>by simp[zb h]
 |[],[],_::_,_,h=>absurd h (by simp[DataW.TrodAll])
 |[],_::_,_,_,h=>absurd h (by simp[DataW.TrodAll])
 |_::_,[],_,_,h=>absurd h (by simp[DataW.TrodAll])
 |_::_,_::_,[],_,h=>absurd h (by simp[DataW.TrodAll])
def post_true {f:Func}{s:ChangeSpec}{t:TypeId}{fresh handsOn:Bool}{W W':World}{args:Array Value}{ds gs:List (DataW T)}{before:List MemPlace}(hl:laidOutB P=true)(hW:DataW.Whole enc P f.params.toList s.vars false W args.toList ds gs before)
  (hv:s.vars=[]) (hres:f.resultTypes=#[t]) (ht:P.underlying t=some .bool) (hp:(f.params.toList.all λt=>P.readableRec t&& Nat.blt t P.types.size)=true)
  (hfn:∀ds:List (DataW T),ds.length=f.params.toList.length->s.fn T ds={results:=[.lit (.bool true)],args:=ds}) (hb:RowKit.Below W.heap.size W W'):
  s.post enc P f false fresh handsOn false W args (.bool true) W':=by
 have hW0:=hW;obtain⟨p,q,hA,hV,hbe,hfz,hnd⟩:=hW;have hgs:gs=[]:=by
  rw[hv] at hV;cases gs with
  |nil=>rfl
  |cons g gs=>exact absurd hV (by simp[DataW.TrodVars])
 subst hgs;have e:=hfn ds (zb hA);refine⟨ds,[],before,[],p,[],hW0,?_,?_,?_,hb.frame _,λh=>by cases h⟩
 .rw[aZ,e,hres];exact trodAll_mk1 (shut_bool ht true)
 .rw[aZ,e];exact wK hl hb hp hA
 .rw[aZ,e,hv];exact rfl
end
def IP:List Nat->Nat->Bool
 |[],_=>false
 |x::l,i=>match Nat.beq x i with
  |true=>true
  |false=>IP l i
def mkZ (P:Program)(inl:List Nat)(slots:List (Nat×List (List eF)))(lend:List (Nat×Ld)):Dcf:=⟨P,IP inl,λg=>match look slots g with
 |some l=>l
 |none=>[],look lend,false⟩
namespace KP
abbrev x:=A.x
abbrev i (n:Int):A:= .c (.v (.int .i64 n))
abbrev l:=K.lt
abbrev c:=K.call
abbrev b:=K.br
abbrev j:=K.jmp
abbrev w (n:Nat):SV:= .w (.c (.a (.x n)))
abbrev wi (n:Int):SV:= .w (.c (.a (i n)))
abbrev p (b o:Nat):SV:= .w (.c (.ptr b o))
abbrev v (n:Nat):SV:= .w (.av (.x n))
abbrev a (n:Nat):SC:= .a (.x n)
abbrev r (n i:Nat):SC:= .pc (.x n) i
abbrev o (b n:Nat):SC:= .lsl b (i 0) (.x n)
abbrev z:PV:= .v (.int .i64 0)
abbrev oL:RF:= .bin .lss
abbrev oK:RF:= .bin .leq
abbrev oG:RF:= .bin .gtr
abbrev oH:RF:= .bin .geq
abbrev oE:RF:= .bin .eql
abbrev oN:RF:= .bin .neq
abbrev oA:RF:= .bin .add
abbrev oS:RF:= .bin .sub
abbrev oM:RF:= .bin .mul
abbrev s:A:= .c (.sl [])
abbrev ft:A:= .c (.v (.bool true))
abbrev ff:A:= .c (.v (.bool false))
abbrev u (n:Int):A:= .c (.v (.int .u8 n))
abbrev y (n:Int):A:= .c (.v (.int .u64 n))
abbrev C (n m:Nat)(k:K):K:= .lt (.cell n) [.x m] k
abbrev S (n m:Nat)(k:K):K:= .lt (.shape n) [.x m] k
abbrev L (m:Nat)(k:K):K:= .lt .len [.x m] k
abbrev P (a n m:Nat)(k:K):K:= .lt (.part a n) [.x m] k
abbrev E (a n p q:Nat)(k:K):K:= .lt (.elt a n) [.x p,.x q] k
abbrev T (z p q:Nat)(k:K):K:= .lt (.tix z) [.x p,.x q] k
abbrev I (p q:Nat)(k:K):K:= .lt .ix [.x p,.x q] k
abbrev V (f:RF)(p q:Nat)(k:K):K:= .lt f [.x p,.x q] k
abbrev N (f:RF)(p:Nat)(n:Int)(k:K):K:= .lt f [.x p,i n] k
abbrev U (p:Nat)(n:Int)(q:Nat)(k:K):K:= .lt .sub [.x p,i n,.x q] k
abbrev W (p:Nat)(k:K):K:= .lt (.un .not) [.x p] k
abbrev G (a p q r:Nat)(k:K):K:= .lt (.set a) [.x p,.x q,.x r] k
abbrev H (as:List A)(k:K):K:= .lt .agg as k
abbrev B (n:Nat)(t e:K):K:= .br (.x n) t e
abbrev X (g p:Nat)(k:K):K:= .call g [.x p] k
abbrev Y (g p q:Nat)(k:K):K:= .call g [.x p,.x q] k
abbrev Z (g p q r:Nat)(k:K):K:= .call g [.x p,.x q,.x r] k
abbrev D (as:List A):K:= .ret as
abbrev J (m:Nat)(p:Nat):K:= .jmp m [.x p]
abbrev zC (r:List A):List A:=i 0::i 0::s::i 0::s::s::s::s::s::s::s::r
abbrev n:Hint:= .no
abbrev d (n:Int):K:= .ret [i n]
abbrev O (l:List Nat):K:= .ret (xs l)
abbrev M (l:List Nat)(k:K):K:= .lt .agg (xs l) k
abbrev f (n:Nat)(l:List Nat):K:= .jmp n (xs l)
abbrev Q (i n m:Nat)(k:K):K:=kCn i n m k
abbrev e (a b z:Nat):SB:= .lst (.x a) (.x b) z false
abbrev q (b n:Nat):SV:= .w (.c (o b n))
def ar:Nat->Nat->List SC
 |_,0=>[]
 |i,n+1=> .a (.x i)::ar (i+1) n
def up:Nat->Nat->List Nat->List Nat
 |_,0,l=>l
 |a,n+1,l=>a::up (a+1) n l
def dn:Nat->Nat->List Nat->List Nat
 |_,0,l=>l
 |a,n+1,l=>a::dn (a-1) n l
def rs:List Nat->List Nat
 |[]=>[]
 |v::l=>match Nat.blt v 100000 with
  |true=>up (v% 1000) (max 1 (v/1000)) (rs l)
  |false=>dn (v% 1000) (v/1000-100) (rs l)
abbrev m (p nb:Nat)(ts:List Nat)(ch:List (Nat×SV))(bs:List Nat)(cb:List (Nat×SB)):Hint:= .j (mkT p nb (rs ts) ch bs cb)
end KP
end Go.Sym
namespace Go.Sym
open Go.Sort
def gG (l:List Int):List Int:=l.mergeSort λa b=>decide (a<=b)
def jC (l:List Int):List (List PV):=l.map λn=>[.v (.int .i64 n)]
def sV (g0 g:FuncId)(vs:List PV):Option (List PV):=match Nat.beq g g0 with
 |true=>match vs with
  |[.sl [],.sl els]=>match rG els with
   |some l=>if l.length<4611686018427387904 then some [.sl (jC (gG l))] else none
   |none=>none
  |_=>none
 |false=>none
def DA:∀{els:List (List PV)} {l:List Int},rG els=some l->els=jC l
 |[],l,h=>by cases h;rfl
 |r::rs,l,h=>by
  unfold rG at h;split at h
  .rename_i e;cases e
  .rename_i n rs' e;cases e;rw[bM] at h;obtain⟨l',h1,rfl⟩:=h;rw[DA h1];rfl
  .cases h
def zc:∀l:List Int,rG (jC l)=some l
 |[]=>rfl
 |n::l=>by
  show(rG (jC l)).map (n::·)=_
  rw[zc l];rfl
def wc:∀l:List Int,(jC l).flatten=l.map λn=>PV.v (.int .i64 n)
 |[]=>rfl
 |n::l=>by
  show [_]++(jC l).flatten=_
  rw[wc l];rfl
def sW (l:List Int):(jC l).length=l.length:=by simp[jC]
def SortC (P:Program)(g:FuncId):Prop:=∀(blk cap:Nat) (zs:List Int) (w:World),Holds (Value.int .i64) w blk 0 zs.toArray->blk<w.heap.size->zs.length<4611686018427387904->
 Calls P g #[.slice (some ⟨blk,0,none⟩) zs.length cap] w λe w'=>e= .returned (.tuple #[])/\∃n os,w'=grow (putRow (Value.int .i64) (Sort.ahead w n) blk 0 (zs.mergeSort λx y=>decide (x<=y)).toArray) os
def SortN (P:Program)(g:FuncId):Prop:=∀(p:Option Addr) (cap:Nat) (w:World),Calls P g #[.slice p 0 cap] w λe w'=>e= .returned (.tuple #[])/\ w'=w
def IQ {w:World}{S:Nat->Prop}:∀{l:List Int} {vs:List Value},RTs w S vs (l.map λn=>PV.v (.int .i64 n))->vs=l.map λn=> .int .i64 n
 |[],_,h=>by cases h;rfl
 |n::l,_,h=>by
  cases h with
  |cons h t=>
   cases h with
   |v h=>rw[IQ t];rfl
def IR {w:World}{S:Nat->Prop}:∀{l:List Int},RTs w S (l.map λn=> .int .i64 n) (l.map λn=>PV.v (.int .i64 n))
 |[]=> .nil
 |_::_=> .cons (.v rfl) IR
def Tc {D:Dcf}{g:FuncId}{fn:Func}(hfn:D.P.funcs[g]?=some fn)(hb:fn.body≠none)(hn:fn.name≠ "runtime.NumGoroutine")(hr:fn.resultTypes=#[])(hld:D.lend g=some ⟨0,0,.pre 1,false⟩)(hc:SortC D.P g)(h0:SortN D.P g){vs rs:List PV}(h:sV g g vs=some rs):iN D g vs rs:=by
 unfold sV at h;rw[sj] at h;simp only at h;split at h
 .rename_i els;split at h
  .rename_i zs hz;obtain⟨hlen,rfl⟩:=dg h;refine⟨fn,hfn,hb,hn,by unfold Dcf.nr;rw[hld,hr];rfl,?_⟩;rw[hld];refine⟨[.sl []],.sl els,[],.sl (jC (gG zs)),rfl,rfl,λw S vs q v hvs hq hS hcur=>?_⟩;have hel:=DA hz;subst hel;have hargs:pw ⟨0,0,.pre 1,false⟩ v vs=[v]:=by
    cases hvs with
    |cons hu ht=>
     cases ht;have:=hu.one rfl;rename_i u;show [CA 0 v u]=[v]
     cases u<;>first|rfl|cases this
   rw[hargs];have aft:∀{w':World} {q:Option (Nat×Nat)} {G:Nat->Prop},Frm w.heap.size (Lof q) w w'->(∀B,Lof q B->B<w.heap.size/\¬S B)->Aft D fn g w S (D.lf q w) G [] (.tuple #[]) w' S [] []:=λ{w' q G} hf hQ=>by
    refine⟨rfl,by rw[hr];exact .nil,mi,(λ_ h=>by cases h),⟨λ_ h=>h,λB hB=>hf.block B (hcur B hB) λh=>(hQ B h).2 hB⟩,λB hB=>bW (hcur B hB) hf.size,λB hB=> .inl hB,acr hf λB h=>⟨(hQ B h).1,h⟩⟩
   generalize hel:jC zs=els at hq;have hb':LK.b (.pre 1)= .lst 1:=rfl;rw[hb'] at hq;cases hq with
   | @lst _ B cap arr els' hz1 hcap hl hrow hw he=>
    subst hel;obtain⟨ty,fz,hg,hun⟩:=hrow;rw[sW] at hcap he|-;rw[wc,zj] at he;have hcells:=IQ he;have hBl:B<w.heap.size:=(bA.1 hg).1;have hsz:zs.length<=arr.size:=by omega
    have hH:Holds (Value.int .i64) w B 0 zs.toArray:=λj hj=>by
     simp at hj;have h1:arr[j]?=some (.int .i64 zs[j]):=by
      have:(arr.toList.take zs.length)[j]?=some (.int .i64 zs[j]):=by rw[hcells];simp[hj]
      rw[c7 hj] at this;simpa using this
     refine⟨?_,?_⟩
     .simp only[World.cell?,hg,cj];rw[h1];simp[hj]
     .have:=hun j (by omega);simp only[World.frozen?,hg,cj];simpa using this
    refine(hc B cap zs w hH hBl hlen).mono ?_;rintro e w' ⟨rfl,n,os,rfl⟩;have hs:(gG zs).length=zs.length:=gY ..;have hold:∀k,k≠B->k<w.heap.size->(grow (putRow (Value.int .i64) (Sort.ahead w n) B 0 (gG zs).toArray) os).heap[k]?=w.heap[k]?:=λk hk hlt=>by
     rw[heap_grow_old _ _ (by simpa using hlt)]
     show(w.heap.modify B _)[k]?=_
     rw[fM,ac (λe=>hk e.symm)]
    have hnew:(grow (putRow (Value.int .i64) (Sort.ahead w n) B 0 (gG zs).toArray) os).heap[B]?=some (.cells (putCells (Value.int .i64) 0 (gG zs).toArray arr) ty fz):=by
     rw[heap_grow_old _ _ (by simpa using hBl)]
     show(w.heap.modify B _)[B]?=_
     rw[fM,ad rfl,hg];rfl
    have hpl:(putCells (Value.int .i64) 0 (gG zs).toArray arr).toList=(gG zs).map (λn=>Value.int .i64 n)++arr.toList.drop zs.length:=by
     apply cU;intro k;have hk0:(putCells (Value.int .i64) 0 (gG zs).toArray arr).toList[k]?=(arr[k]?).map λx=>if 0<=k/\ k<0+(gG zs).toArray.size then Value.int .i64 (gG zs).toArray[k-0]! else x:=by
      rw[bK];unfold putCells;rw[uK]
     rw[hk0];by_cases hk:k<zs.length
     .rw[aG (by simp[hs,hk]),dl (by omega)];simp[hs,hk]
     .rw[bH (by simp[hs];omega)];simp only[ai,hs,fN];rw[show zs.length+(k-zs.length)=k by omega]
      cases h:arr[k]? with
      |none=>simp[h]
      |some x=>simp[h,hs,hk]
    have hfr:Frm w.heap.size (Lof (some (B,arr.size))) w (grow (putRow (Value.int .i64) (Sort.ahead w n) B 0 (gG zs).toArray) os):=⟨rfl,rfl,rfl,by simp,λk hk hL=>hold k (λe=>by subst e;exact hL ⟨_,rfl⟩) hk,λ_=>Nat.le_add_right _ _⟩;refine⟨.tuple #[],S,[],[],rfl,aft hfr λB' hB=>⟨by obtain⟨_,h⟩:=hB;cases h;exact hBl,hS B' hB⟩,(⟨?_,?_⟩:_/\ _)⟩
    .have hps:(putCells (Value.int .i64) 0 (gG zs).toArray arr).size=arr.size:=by simp[putCells]
     have:=LenR.lst (w:=grow (putRow (Value.int .i64) (Sort.ahead w n) B 0 (gG zs).toArray) os) (S:=S) (z:=1) (cap:=cap) (B:=B) (arr:=putCells (Value.int .i64) 0 (gG zs).toArray arr) (els:=jC (gG zs)) hz1 (by rw[sW,hs];omega) (by rw[hps];exact hl) ⟨ty,fz,hnew,by rw[hps];exact hun⟩ (λr hr=>by
      obtain⟨m,_,rfl⟩:=bf.1 hr;exact⟨rfl,rfl⟩) (by
      rw[sW,hs,zj,wc,hpl,g9 (by simp[hs])];exact IR)
     rw[hps,sW,hs] at this;exact this
    .intro B' lim n' cap' e1 e2 arr1 arr2 r1 r2;cases e1;cases e2;obtain⟨_,_,g1,_⟩:=r1;obtain⟨_,_,g2,_⟩:=r2;rw[hg] at g1;cases g1;have g2:=hnew.symm.trans g2;cases g2;rw[hpl,zj,ow (by simp[hs])]
   |nil hz1 hn=>
    have hzs:zs=[]:=by cases zs with
     |nil=>rfl
     |cons=>cases hel
    subst hzs;have key:∀p cap,v= .slice p 0 cap->Calls D.P g [v].toArray w λe w'=>∃u S' us Bs,e= .returned u/\ Aft D fn g w S (D.lf none w) (GvQ ⟨0,0,.pre 1,false⟩ none) [] u w' S' us Bs/\ LenR w' S' (.lst 1) none v (.sl (jC (gG [])))/\ Bw w w' none v (.pre 1):=λp cap e=>by
     subst e;refine(h0 p cap w).mono ?_;rintro e w' ⟨rfl,rfl⟩;refine⟨.tuple #[],S,[],[],rfl,aft .refl λ_ ⟨_,h⟩=>(by cases h),?_,λ_ _ _ _ h=>(by cases h)⟩;have:jC (gG [])=[]:=by simp[gG,jC]
     rw[this];exact .nil hz1 hn
    rcases hn with rfl|⟨b,o,rfl⟩
    .exact key _ _ rfl
    .exact key _ _ rfl
  .cases h
 .cases h
def eT (S:Nat->Bool):K->Bool
 | .ret _=>true
 | .dead=>true
 | .lt _ _ k=>eT S k
 | .call g _ k=>S g&& eT S k
 | .br _ t f=>eT S t&& eT S f
 | .amb t f=>eT S t&& eT S f
 | .jp t f=>eT S t&& eT S f
 | .loop t f=>eT S t&& eT S f
 | .jmp _ _=>true
def iO {Φ Φ':PhT}{S:Nat->Bool}(h:∀g,S g=true->Φ g=Φ' g){N:Nat}:∀(k:K),eT S k=true->∀(J:List JT) (e:List PV),den Φ N k J e=den Φ' N k J e
 | .ret _,_,_,_=>rfl
 | .dead,_,_,_=>rfl
 | .lt f as k,hk,J,e=>by
  have ih:=iO h k hk (N:=N);simp only[den,ih]
 | .call g as k,hk,J,e=>by
  unfold eT at hk;rw[aH] at hk;have ih:=iO h k hk.2 (N:=N);simp only[den,ih,h g hk.1]
 | .br x t f,hk,J,e=>by
  unfold eT at hk;rw[aH] at hk;have i1:=iO h t hk.1 (N:=N);have i2:=iO h f hk.2 (N:=N);simp only[den,i1,i2]
 | .amb t f,hk,J,e=>by
  unfold eT at hk;rw[aH] at hk;have i1:=iO h t hk.1 (N:=N);have i2:=iO h f hk.2 (N:=N);simp only[den,i1,i2]
 | .jp t f,hk,J,e=>by
  unfold eT at hk;rw[aH] at hk;have i1:=iO h t hk.1 (N:=N);have i2:=iO h f hk.2 (N:=N);simp only[den,i1,i2]
 | .loop t f,hk,J,e=>by
  unfold eT at hk;rw[aH] at hk;have i1:=iO h t hk.1 (N:=N);have i2:=iO h f hk.2 (N:=N);simp only[den,i1,i2]
 | .jmp _ _,_,_,_=>rfl
def DB {D:Dt}{X':FuncId->List PV->Option (List PV)}{S:Nat->Bool}(hX:∀g,S g=true->D.X g=X' g)(hc:∀g k,S g=true->D.T g=some k->eT S k=true):∀n g,S g=true->kH D n g=kH {D with X:=X'} n g
 |0,_,_=>rfl
 |n+1,g,hg=>by
  funext vs
  have ih:=DB hX hc n;unfold kH;show(match D.T g with|some k=>_|none=>_)=(match D.T g with|some k=>_|none=>_)
  cases e:D.T g with
  |none=>exact gC (hX g hg) vs
  |some k=>
   have:=iO (N:=n) ih k (hc g k hg e) [] vs;simp only[this]
def Td {D:Dt}{X':FuncId->List PV->Option (List PV)}{S:Nat->Bool}(hX:∀g,S g=true->D.X g=X' g)(hc:∀g k,S g=true->D.T g=some k->eT S k=true){g:FuncId}{vs rs:List PV}(hg:S g=true)(h:Ans D g vs rs):Ans {D with X:=X'} g vs rs:=by
 obtain⟨n,h⟩:=h;exact⟨n,by rw[<-DB hX hc n g hg];exact h⟩
def Qx (P:Program)(i:FuncId->Bool)(s:FuncId->List (List eF))(l:FuncId->Option Ld)(b c:Bool):zF ⟨P,i,s,l,b⟩=zF ⟨P,i,s,l,c⟩:=by kernel_rfl
def Qy (P:Program)(i:FuncId->Bool)(s:FuncId->List (List eF))(l:FuncId->Option Ld)(b c:Bool)(T:FuncId->Option K)(X:FuncId->List PV->Option (List PV)):kH ⟨⟨P,i,s,l,b⟩,T,X⟩=kH ⟨⟨P,i,s,l,c⟩,T,X⟩:=by kernel_rfl
def Te {D:Dt}(b:Bool){g:FuncId}{vs rs:List PV}(h:Ans D g vs rs):Ans {D with loud:=b} g vs rs:=by
 obtain⟨n,h⟩:=h;refine⟨n,?_⟩;obtain⟨⟨P,i,s,l,c⟩,T,X⟩:=D;rw[<-h];exact gC (gC (gC (Qy P i s l b c T X) n) g) vs
end Go.Sym
