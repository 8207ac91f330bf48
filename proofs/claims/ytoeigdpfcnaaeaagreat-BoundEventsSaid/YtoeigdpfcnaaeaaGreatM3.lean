import Derived.Test.YtoeigdpfcnaaeaaGreatM2
import Derived.ChangeArms
import Derived.DataReads
import Derived.ProofKit
import Derived.Sort.Row
import Derived.Sort.Grow
import Derived.KernelRfl
set_option linter.unusedVariables false
set_option linter.unusedSimpArgs false
set_option linter.defProp false
noncomputable section
namespace Go.Sym
open Go.RowKit
section
variable {D:Dcf}{F:Fn}{Φ:FuncId->List PV->Option (List PV)}{N:Nat}{rs:List PV}{base:Nat}{L:Nat->Prop}{Xb:Cx}{nt:Nat}{n:Nat}{κ:List SF}{J:Js}{e0:List PV}{Q:Exit->Act->World->Prop}
def Kont.inl (ih:∀i,i<n->Sok D F Φ N rs base L i)(h:Kont D F Φ N rs base L Xb nt n κ J e0 Q){X:Cx}{a:Act}{σ:SS}{m:Nat}(hI:Iv base L Xb nt X a σ m)(he:∃y,X.e=e0++y){dst:Option Tmp}{ops:Array Oper}{rest:List Oper}{fn:Func}{nt':Nat}:
  Kont D F Φ N rs base L X nt' n (.inl σ.nb σ.n σ.tm dst ops rest fn.results.toList::κ) J X.e (bodyPost D.P fn λex w=>∃u,ex= .returned u/\ wpList D.P ops Q rest (a.put dst u) w):=by
 refine⟨λb hb=>by rw[<-hI.hσ];exact hI.st.cn b hb,⟨[],by simp⟩,λi hi ex σ' m' hs k hs' X' a' J' h1 h2 ⟨y',hy'⟩ hI'=>?_⟩;cases i with
 |zero=>cases h1
 |succ i=>
  have key:(match xn D.P σ' fn.results.toList m' σ'.sz with
    |some (ws,l,z)=>match({σ' with n:=σ.n,tm:=σ.tm,sz:=z++σ'.sz}:SS).setT dst (xm ws) with
     |some σ''=>match sym D F i (.ops ops rest) σ'' (m'+l.length) κ (J++J').length hs with
      |some (k,hs)=>some (qv l k,hs)
      |none=>none
     |none=>none
    |none=>none)=some (k,hs')->a'.defers=[]/\∃v,(results fn a'.tmps).run D.P X'.w= .ok v X'.w/\∃u,Ending.returned v= .returned u/\ wpList D.P ops Q rest (a.put dst u) X'.w:=by
   intro h1;refine⟨hI'.ds,?_⟩;split at h1
   .rename_i ws l z hrd;split at h1
    .rename_i σ'' hset;split at h1
     .rename_i k' hs2 hk;cases h1;obtain⟨vals,v1,v2,v3⟩:=mZ h2;have hσ':=hI'.hσ;have hx:=zm hI'.st.mr hI'.st.cn (y:=vals) (N:=0);have hρ:EvR (X'.ex vals 0) a'.eval:=vZ hx.mr (by
       show∀t sv,look X'.σ.tm t=some sv->_
       rw[hσ'];exactλt sv ht=>let⟨v,q1,q2⟩:=hI'.tm t sv ht;⟨v,q1,q2.step hx.sx⟩)
      obtain⟨s1,us,s2,s3⟩:=xz (P:=D.P) hx.mr hρ (rs:=fn.results.toList) m' σ'.sz _ _ _ (by show xn D.P X'.σ _ _ _=_;rw[hσ'];exact hrd) (by rw[<-hI'.len];exact v2) (by rw[<-hσ'];exact hx.mr.sz)
      have s2:(fn.results.toList.mapM (Eb a'.tmps)).run D.P X'.w= .ok us X'.w:=s2;refine⟨mw us,Ax s2,mw us,rfl,?_⟩;obtain⟨g1,g2,g3,g4,g5,g6,g7⟩:=nH hset;have hst:Ste (X'.ex vals 0) base L {X'.ex vals 0 with σ:=σ''}:=(qP hx.mr (σ':=σ'') (λb=>by rw[g1];show look σ'.bl b=look X'.σ.bl b;rw[hσ']) (by rw[g2];show σ'.nb=X'.σ.nb;rw[hσ']) (by
       rw[g5];exact s1.append (by rw[<-hσ'];exact hx.mr.sz)) (by rw[g4];show∀p∈σ'.fc,_;rw[<-hσ'];exact hx.mr.fc)).ste hx.cn
      have hall:Ste X base L {X'.ex vals 0 with σ:=σ''}:=(hI'.st.trans hx).trans hst
      obtain⟨y,hy⟩:=he;have hlen:(m'+l.length)=(X'.e++vals).length:=by rw[aD,hI'.len,v1]
      refine ih i (by omega) (X:={X'.ex vals 0 with σ:=σ''}) (e0:=e0) hk v3 ((h.le (by omega)).app) ⟨y++(y'++vals),by show X'.e++vals=_;rw[hy',hy];simp⟩ ⟨rfl,hlen.symm,λt sv ht=>?_,by rw[zk];exact hI.ds,by rw[tu];exact hI.n,by rw[g3];exact hI.n',hI.st.trans hall⟩
      have hlt:∀t,dst=some t->t<a.tmps.size:=λt ht=>by have:=g7 t ht;rw[hI.n,<-hI.n'];exact this
      rw[g6] at ht;rw[wa hlt];split at ht
      .rename_i e;cases ht;rw[ad e];exact⟨_,rfl,(sJ s3).step hst.sx⟩
      .rename_i e;rw[ac e];obtain⟨v,q1,q2⟩:=hI.tm t sv ht;exact⟨v,q1,q2.step hall.sx⟩
     .cases h1
    .cases h1
   .cases h1
  unfold sym at h1;simp only at h1;split at h1
  .cases h1
  .cases ex with
   |normal=>exact key h1
   |ret=>exact key h1
   |exit id=>rename_i hne;exact absurd rfl (hne id)
def S8 {σ:SS}{op:Op}{m:Nat}{r:Ores}(h:pK D σ op m=some r):r.σ.n=σ.n/\ r.σ.tm=σ.tm:=by
 unfold pK at h
 (repeat' split at h)<;>first|(cases h;done)|(cases h;exact⟨rfl,rfl⟩)
def C9:∀{ws:List SW} {i t:Nat} {sv:SV},look (pL i ws) t=some sv->∃w,sv= .w w/\ i<=t/\ ws[t-i]?=some w
 |[],_,_,_,h=>by cases h
 |w::ws,i,t,sv,h=>by
  rw[pL,ee] at h;split at h
  .rename_i e;cases h;exact⟨w,rfl,by omega,by rw[<-e];simp⟩
  .obtain⟨w',h1,h2,h3⟩:=C9 h;exact⟨w',h1,by omega,by rw[show t-i=(t-(i+1))+1 by omega];simpa using h3⟩
def xF {X:Cx}{vs:Array Value}{ws:List SW}{k:Nat}(h:F2 (WR X) vs.toList ws):uT X (pL 0 ws) (vs++Array.replicate (k-vs.size) undef):=by
 intro t sv hl;obtain⟨w,rfl,_,h3⟩:=C9 hl;obtain⟨v,h4,h5⟩:=h.get' t w (by simpa using h3)
 have hlt:t<vs.size:=by have:=(aC.1 h4).1;simpa using this
 exact⟨v,by rw[rM hlt];simpa using h4,.w h5⟩
def afv (hΦ:∀g ps rs,Φ g ps=some rs->jo D g ps rs)(hL:D.loud=true->L base)(ih:∀i,i<=n->Sok D F Φ N rs base L i){ops:Array Oper}{o:Oper}{os:List Oper}{σ:SS}{m:Nat}{hs hs':List Hint}{k:K}{X:Cx}{a:Act}(h:sym D F (n+1) (.ops ops (o::os)) σ m κ J.length hs=some (k,hs'))(hd:den Φ N k J X.e=some rs)
  (hK:Kont D F Φ N rs base L Xb nt (n+1) κ J e0 Q) (he:∃y,X.e=e0++y) (hI:Iv base L Xb nt X a σ m):wpList D.P ops Q (o::os) a X.w:=by
 have hK':=hK.le (eE n);have hw:∀{b:Bool},s8 ops σ o=some (.go b)->Region.wanted o (yielded ops a.tmps)=b:=λhg=>zj (X:=X) hI.facts.2.1 (λt _=>hI.tm t) hg;have hlt:∀{σ1:SS} {dst:Option Tmp},σ1.n=σ.n->(∀t,dst=some t->t<σ1.n)->∀t,dst=some t->t<a.tmps.size:=λh1 h2 t ht=>by have:=h2 t ht;rw[hI.n,<-hI.n',<-h1];exact this
 unfold sym at h;simp only at h;split at h
 .cases h
 .rename_i x hg;obtain⟨k1,h1,h2,h3,hd1⟩:=Ba h hd;rcases h3 with⟨h3,hx⟩|⟨h3,hx⟩
  .exact ih n (aB _) (X:={X with σ:=mS σ x (.bool true)}) h3 hd1 hK' he (hI.fact hx)
  .exact ih n (aB _) (X:={X with σ:=mS σ x (.bool false)}) h3 hd1 hK' he (hI.fact hx)
 .rename_i hg;split at h
  .rename_i σ1 hs1;obtain⟨g1,g2,g3,g4,g5,g6,g7⟩:=nH hs1;unfold wpList;rw[hw hg,ac (by simp)];have hst:=Iv.stt hI g1 g2 (by rw[g5];exact hI.facts.1) (by rw[g4];exact hI.facts.2.1);refine ih n (aB _) (X:={X with σ:=σ1}) h hd hK' he ⟨rfl,hI.len,λt sv ht=>?_,by rw[zk];exact hI.ds,by rw[tu];exact hI.n,by rw[g3];exact hI.n',hI.st.trans hst⟩
   rw[g6] at ht;rw[wa (hlt rfl g7)];split at ht
   .rename_i e;cases ht;rw[ad e];exact⟨_,rfl,.tup .nil⟩
   .rename_i e;rw[ac e];obtain⟨v,q1,q2⟩:=hI.tm t sv ht;exact⟨v,q1,q2.step hst.sx⟩
  .cases h
 .rename_i hg;split at h
  .rename_i x cs hsp;rw[<-hI.len] at h;obtain⟨p,y,k1,h1,h2,f1,f2,f3⟩:=xD h hd;exact ih n (aB _) (X:={X.ex y 0 with σ:=mS σ x p}) f2 f3 hK' (let⟨y0,hy0⟩:=he;⟨y0++y,by show X.e++y=_;rw[hy0,bg]⟩) ((hI.more (y:=y)).fact (show(X.e++y)[x]?=_ by rw[aH (aC.1 f1).1];exact f1))
  unfold wpList;rw[hw hg,ad rfl];refine .inl ?_;split at h
  .rename_i fn c args l z hin;split at h
   .rename_i k1 hs1 hk;cases h;obtain⟨vals,v1,v2,v3⟩:=mZ hd;unfold Xq at hin;split at hin
    .rename_i g args' l' z' hop;split at hin
     .split at hin
      .rename_i fn' hfn;split at hin
       .rename_i c' hc;split at hin
        .rename_i hdec;cases hin;have hdec:=aX hdec;have hσ:=hI.hσ;have hx:=zm hI.st.mr hI.st.cn (y:=vals) (N:=0);have hρ:EvR (X.ex vals 0) a.eval:=vZ hx.mr (by
          show∀t sv,look X.σ.tm t=some sv->_
          rw[hσ];exactλt sv ht=>let⟨v,q1,q2⟩:=hI.tm t sv ht;⟨v,q1,q2.step hx.sx⟩)
         obtain⟨s1,s2⟩:=v8 hx.mr hρ (o:=o) m σ.sz _ _ _ (by show opE D.P X.σ _ _ _=_;rw[hσ];exact hop) (by rw[<-hI.len];exact v2) (by rw[<-hσ];exact hx.mr.sz)
         obtain⟨vs,r1,r2⟩:=s2 (λg' as' e=>by
          cases e;exact⟨fn,hfn,(by rw[hc];simp),λe=>by rw[e] at hdec;simp at hdec⟩)
         have r1:(execOp a.eval o).run D.P X.w= .ok (.enter g vs) X.w:=r1;unfold Oper.wp;rw[r1];have hI1:Iv base L Xb nt (X.ex vals 0) a σ (m+l.length):=⟨hσ,by show(X.e++vals).length=_;rw[aD,hI.len,v1],λt sv ht=>let⟨v,q1,q2⟩:=hI.tm t sv ht;⟨v,q1,q2.step hx.sx⟩,hI.ds,hI.n,hI.n',hI.st.trans hx⟩
         have he1:∃y,(X.ex vals 0).e=e0++y:=let⟨y,hy⟩:=he;⟨y++vals,by show X.e++vals=_;rw[hy,bg]⟩
         have hvl:vs.size=args.length:=by have:=r2.len;simpa using this
         have hst:Ste (X.ex vals 0) base L {X.ex vals 0 with σ:={σ with n:=fn.ntmps,tm:=pL 0 args,sz:=z'++σ.sz}}:=Iv.stt hI1 rfl rfl (s1.append hI1.facts.1) hI1.facts.2.1
         have hcal:Calls D.P g vs X.w λex w'=>∃u,ex= .returned u/\ wpList D.P ops Q os (a.put o.dst u) w':=by
          refine calls_of_wp hfn hc ?_;refine ih n (aB _) (Xb:=X.ex vals 0) (nt:=fn.ntmps) (X:={X.ex vals 0 with σ:={σ with n:=fn.ntmps,tm:=pL 0 args,sz:=z'++σ.sz}}) hk v3 (hK'.inl (λi hi=>ih i (by omega)) hI1 he1) ⟨[],by simp⟩ ⟨rfl,hI1.len,?_,rfl,?_,rfl,hst⟩
          .exactλt sv ht=>let⟨v,q1,q2⟩:=xF (k:=fn.ntmps) r2 t sv ht;⟨v,q1,q2.step hst.sx⟩
          .simp;omega
         refine hcal.mono ?_;rintro ex w' ⟨u,rfl,h4⟩;exact h4
        .cases hin
       .cases hin
      .cases hin
     .cases hin
    .cases hin
   .cases h
  .split at h
   .rename_i r hop;split at h
    .rename_i σ1 hs1;split at h
     .rename_i k1 hs2 hk;cases h;rw[<-hI.len] at hop;obtain⟨y,o1,o2,o3⟩:=KG hΦ hop hd;obtain⟨g1,g2,g3,g4,g5,g6,g7⟩:=nH hs1;have hσ:=hI.hσ;have hx:=zm hI.st.mr hI.st.cn (y:=y) (N:=r.σ.nb);have hρ:EvR (X.ex y r.σ.nb) a.eval:=vZ hx.mr (by
       show∀t sv,look X.σ.tm t=some sv->_
       rw[hσ];exactλt sv ht=>let⟨v,q1,q2⟩:=hI.tm t sv ht;⟨v,q1,q2.step hx.sx⟩)
      have hop':=Mj hΦ hL hx.mr hρ (o:=o) (m:=X.e.length) (r:=r) (by show pK D X.σ _ _=_;rw[hσ];exact hop) o1 (aB _)
      refine tq.wp hop' ?_;rintro v w' ⟨X',x1,x2,x3,x4⟩;have hx':=x4.ste hx.cn;have he':X'.e=X.e++y:=x4.e;have hst:Ste X' base L {X' with σ:=σ1}:=(qP hx'.mr (σ':=σ1) (λb=>by rw[g1,x2]) (by rw[g2,x2]) (by rw[g5,<-x2];exact hx'.mr.sz) (by rw[g4,<-x2];exact hx'.mr.fc)).ste hx'.cn
      have hall:=(hx.trans hx').trans hst;obtain⟨hrn,hrt⟩:=S8 hop;obtain⟨y0,hy0⟩:=he;rw[<-x1];refine ih n (aB _) (X:={X' with σ:=σ1}) hk (by show den Φ N k1 J X'.e=_;rw[he'];exact o2) hK' ⟨y0++y,by show X'.e=_;rw[he',hy0,bg]⟩ ⟨rfl,by show X'.e.length=_;rw[he'];exact o3,λt sv ht=>?_,by rw[zk];exact hI.ds,by rw[tu];exact hI.n,by rw[g3,hrn];exact hI.n',hI.st.trans hall⟩
      rw[g6] at ht;rw[wa (hlt hrn g7)];split at ht
      .rename_i e;cases ht;rw[ad e];exact⟨_,rfl,x3.step hst.sx⟩
      .rename_i e;rw[ac e];rw[hrt] at ht;obtain⟨v',q1,q2⟩:=hI.tm t sv ht;exact⟨v',q1,q2.step hall.sx⟩
     .cases h
    .cases h
   .cases h;simp[den] at hd
end
section
variable {D:Dcf}{F:Fn}{Φ:FuncId->List PV->Option (List PV)}{N:Nat}{rs:List PV}{base:Nat}{L:Nat->Prop}{Xb:Cx}{nt:Nat}{n:Nat}{κ:List SF}{J:Js}{e0:List PV}{Q:Exit->Act->World->Prop}
def Vx {k1 k2:K}{e:List PV}(h:den Φ N (.amb k1 k2) J e=some rs):den Φ N k1 J e=some rs/\ den Φ N k2 J e=some rs:=by
 simp[den] at h
 grind
def S9 {x y:List Hint->Option (K×List Hint)}{hs hs':List Hint}{k:K}{e:List PV}(h:twice x y hs=some (k,hs'))(hd:den Φ N k J e=some rs):
  ∃k1 k2 h1 h2,x hs=some (k1,h1)/\ y h1=some (k2,h2)/\ den Φ N k1 J e=some rs/\ den Φ N k2 J e=some rs:=by
 unfold twice at h;split at h
 .rename_i k1 h1 e1;split at h
  .rename_i k2 h2 e2;cases h;obtain⟨d1,d2⟩:=Vx hd
   grind
  .cases h
 .cases h
def YO (hΦ:∀g ps rs,Φ g ps=some rs->jo D g ps rs)(hL:D.loud=true->L base)(hfol:D.P.follows .mixedOrders=true)(ih:∀i,i<=n->Sok D F Φ N rs base L i){c:Code}{σ:SS}{m:Nat}{hs hs':List Hint}{k:K}{X:Cx}{a:Act}(h:sym D F (n+1) (.code c) σ m κ J.length hs=some (k,hs'))(hd:den Φ N k J X.e=some rs)
  (hK:Kont D F Φ N rs base L Xb nt (n+1) κ J e0 Q) (he:∃y,X.e=e0++y) (hI:Iv base L Xb nt X a σ m):c.wp D.P Q a X.w:=by
 have hK':=hK.le (eE n);have ih0:Sok D F Φ N rs base L n:=ih n (aB _);have ih':∀i,i<n->Sok D F Φ N rs base L i:=λi hi=>ih i (nz hi);have self:∃y,X.e=X.e++y:=⟨[],by simp⟩;unfold sym at h;split at h
 .exact wp_skip (ih0 h hd hK' he hI)
 .exact wp_label (ih0 h hd hK' he hI)
 .exact wp_exit (ih0 h hd hK' he hI)
 .exact wp_ret (ih0 h hd hK' he hI)
 .exact wp_scope_straight (ih0 h hd (hK'.map λex a w h=>by cases ex<;>exact h) he hI)
 .exact wp_seq (ih0 h hd (hK'.seq ih') he hI)
 ·
  rename_i id ops draw;cases draw with
  |false=>
   simp only at h;refine wp_region_list ?_;split at h
   .exact ih0 h hd hK' he hI
   .split at h
    .exact qz h hd hK' he hI (λ_ _=>rfl) λκ' J' h0 k0 h0' q1 q2 q3=>ih0 q1 q2 q3 self hI
    .cases h
  |true=>
   simp only at h;split at h
   .cases h
   .rename_i hst;split at h
    .rename_i hg;split at h
     .exact wp_region_any hfol (wc hΦ hL hfol hst h hd hK' he hI)
     .rename_i k hk;obtain⟨hk1,hk2⟩:=YN hk;have eo:∀{o:Array Oper},oy o (Region.before o)=true->jH o=true:=λh=>by
       unfold oy at h;simp only[aJ] at h;exact h.1.1
      have none_l:∀n j,¬Lst (Array.replicate n false) j:=λn j h=>by
       unfold Lst at h;rw[cy,tD] at h;split at h<;>simp at h
      split at h
      .split at h
       .cases h
       .rename_i hst';have h1:=wc hΦ hL hfol hst' h hd (hK'.tl ih') he hI;have hes:(ops.extract 0 k).size=k:=by simp;omega
        refine wp_region_any hfol ?_;have h2:=KI (eo hst) hg (f:=ops.size) (.inr (aB _)) hk1 (λh1 h2 h3 _=>oZ hk2 h1 h2 h3) (eo hst') _ _ (Array.replicate ops.size false) _ _ (by simp;omega) (by simp) (λj=>⟨λh=>absurd h (none_l _ j),λh=>absurd h (none_l _ j)⟩) (λj o hj=>absurd hj (none_l _ j)) (by omega) h1;rw[hes,show k+(ops.size-k)=ops.size by omega] at h2
        exact h2
      .rename_i j f hc;obtain⟨rfl,hf,hj,⟨of,hof,hfe⟩,hp⟩:=YL hc;split at h
       .cases h
       .rename_i hst';rw[aJ] at hst';obtain⟨s1,s2⟩:=hst';split at h
        .refine qz h hd hK' he hI (λ_ _=>rfl) λκ' J' h0 k0 h0' q1 q2 q3=>?_;obtain⟨k1,k2,_,_,e1,e2,d1,d2⟩:=S9 q1 q2;have h1:=wc hΦ hL hfol s1 e1 d1 (q3.tl ih') self hI;have h2:=wc hΦ hL hfol s2 e2 d2 (q3.tl ih') self hI;have hes:(ops.extract 0 j).size=j:=by simp;omega
         have hes2:(ly ops j f).size=j:=by unfold ly;simp;omega
         rw[hes] at h1;rw[hes2] at h2;refine wp_region_any hfol ?_;obtain⟨n',rfl⟩:∃n',j=n'+1:=⟨j-1,by omega⟩;have h3:=S7 (eo hst) hg hf hj hof hfe hp hk2 (eo s1) (eo s2) n' _ _ (Array.replicate ops.size false) _ _ (by simp) (by simp) (by simp) (λj=>⟨λh=>absurd h (none_l _ j),λh=>absurd h (none_l _ j)⟩) (λi=>by
          rw[dM (by simpa using hf)]
          exact⟨λh=>h.imp_right λh=>absurd h (none_l _ i),λh=>h.imp_right λh=>absurd h (none_l _ i)⟩) (none_l _ _) (λj o hj=>absurd hj (none_l _ j)) h1 (YM hf (by omega) (by simp) (none_l _ _) h2)
         rw[show n'+1+(ops.size-(n'+1))=ops.size by omega] at h3
         exact h3
        .cases h
    .split at h
     .exact qz h hd hK' he hI (λ_ _=>rfl) λκ' J' h0 k0 h0' q1 q2 q3=>wp_region_any hfol (wc hΦ hL hfol hst q1 q2 q3 self hI)
     .cases h
 ·
  rename_i x t e;have hσ:=hI.hσ;split at h
  .rename_i b hx;have hc:=eI hI.facts.2.2 (by rw[hσ];exact hx);refine wp_cond (Ei hc rfl) (ih0 h hd hK' he hI)
  .rename_i i hx;have hc:=eI hI.facts.2.2 (by rw[hσ];exact hx);split at h
   .refine qz h hd hK' he hI (λ_ _=>rfl) λκ' J' h0 k0 h0' q1 q2 q3=>?_;obtain⟨k1,h1,h2,h3,hd1⟩:=Ba q1 q2;rcases h3 with⟨h3,hx⟩|⟨h3,hx⟩
    .exact wp_cond (Ei hc hx) (ih0 (X:={X with σ:=mS σ i (.bool true)}) h3 hd1 q3 self (hI.fact hx))
    .exact wp_cond (Ei hc hx) (ih0 (X:={X with σ:=mS σ i (.bool false)}) h3 hd1 q3 self (hI.fact hx))
   .cases h
  .rename_i hx;have hc:=eI hI.facts.2.2 (by rw[hσ];exact hx);split at h
   .refine qz h hd hK' he hI (λ_ _=>rfl) λκ' J' h0 k0 h0' q1 q2 q3=>?_;have hb:∃b,a.eval x= .bool b/\∀xi si,some (SC.ub xi si)=opC σ x->xi.ev X.e=some (.bool false)->b=si:=by
     rw[hx];generalize a.eval x=v at hc;cases hc with
     |ub h hs=>exact⟨_,rfl,λxi si e hf=>by cases e;rw[h] at hf;cases hf;exact hs rfl⟩
    obtain⟨b,hb,hs⟩:=hb;rcases bothA_den q1 q2 with⟨k1,k2,_,_,_,h1,h2,hd1,hd2⟩|⟨hf,k3,_,_,h3,hd3⟩
    .cases b with
     |true=>exact wp_cond hb (ih0 h1 hd1 q3 self hI)
     |false=>exact wp_cond hb (ih0 h2 hd2 q3 self hI)
    .have:=hs _ _ hx.symm hf;subst this;exact wp_cond hb (by have:=ih0 h3 hd3 q3 self hI;cases b<;>exact this)
   .cases h
  .cases h
 ·
  split at h
  .exact qz h hd hK' he hI (λ_ _=>rfl) λκ' J' h0 k0 h0' q1 q2 q3=>wp_block (ih0 q1 q2 (q3.block ih') self hI)
  .cases h
 ·
  rename_i b;split at h
  .rename_i fT hs1;have hT:∃T,T=fT σ:=⟨_,rfl⟩;obtain⟨T,hT⟩:=hT;rw[<-hT] at h;split at h
   .rename_i k1 hj;split at h
    .rename_i d hs2 hb;cases h;obtain⟨f1,f2,_⟩:=hI.facts
     let f:=nR (λself vs=>den Φ N d (J++[self]) (X.e++vs)) N
     have hd:den Φ N k1 (J++[f]) X.e=some rs:=hd;have round:∀M ps X' a',nR (λself vs=>den Φ N d (J++[self]) (X.e++vs)) M ps=some rs->X'.e=X.e++ps->Iv base L Xb nt X' a' (T.st σ) (m+T.p)->Code.rounds D.P b Q M a' X'.w:=by
      intro M;induction M with
      |zero=>intro ps X' a' hit;cases hit
      |succ M ihM=>
       intro ps X' a' hit hX' hI';rw[rounds_succ];have hk:=(hK'.ext he).jump (T:=T) (f:=nR (λself vs=>den Φ N d (J++[self]) (X.e++vs)) M) hI.len hI.n' f1 f2 (Q':=Exit.then (Code.rounds D.P b Q M) Q) (λps X a h1 h2 h3=>ihM ps X a h1 h2 h3) λex a w hne hq=>by cases ex<;>first|exact absurd rfl hne|exact hq
       have hit:den Φ N d (J++[nR (λself vs=>den Φ N d (J++[self]) (X.e++vs)) M]) (X.e++ps)=some rs:=hit;exact ih0 (J:=J++[nR (λself vs=>den Φ N d (J++[self]) (X.e++vs)) M]) (by rw[aD];exact hb) (by rw[hX'];exact hit) hk ⟨ps,hX'⟩ hI'
     refine wp_loop_rounds N ?_;have hk:=(hK'.ext he).jump (T:=T) (f:=f) hI.len hI.n' f1 f2 (Q':=λex a w=>ex= .normal->Code.rounds D.P b Q N a w) (λps X a h1 h2 h3 _=>round N ps X a h1 h2 h3) λex a w hne _ e=>by cases ex<;>first|exact absurd rfl hne|cases e
     have hs:sym D F (0+1) (.pop .normal) σ m (.J J.length m T::κ) (J++[f]).length []=some (k1,[]):=by
      unfold sym;simp only[hj]
     cases n with
     |zero=>simp[sym] at hb
     |succ n=>exact hk.pop 1 (by omega) .normal σ m [] k1 [] X a [] (by rw[bc];exact hs) (by rw[bc];exact hd) self hI rfl
    .cases h
   .cases h
  .cases h
 .cases h
def afw (hΦ:∀g ps rs,Φ g ps=some rs->jo D g ps rs)(hL:D.loud=true->L base)(hfol:D.P.follows .mixedOrders=true):∀n,Sok D F Φ N rs base L n:=by
 intro n;induction n using Nat.strongRecOn with
 |_ n ih=>
  intro Xb nt tk σ m κ hs k hs' X a J e0 Q h hd hK he hI;cases n with
  |zero=>cases h
  |succ n=>
   have ih:∀i,i<=n->Sok D F Φ N rs base L i:=λi hi=>ih i (by omega);cases tk with
   |code c=>exact YO hΦ hL hfol ih h hd hK he hI
   |pop ex=>exact hK.pop (n+1) (aB _) ex σ m hs k hs' X a [] (by rw[bc];exact h) (by rw[bc];exact hd) he hI
   |ops ops rest=>
    cases rest with
    |nil=>
     exact ih n (aB _) h hd (hK.le (eE n)) he hI
    |cons o os=>exact afv hΦ hL ih h hd hK he hI
   |dops=>trivial
end
section
variable {D:Dcf}{Φ:FuncId->List PV->Option (List PV)}{N:Nat}
def Ta (hΦ:∀g ps rs,Φ g ps=some rs->jo D g ps rs)(hfol:D.P.follows .mixedOrders=true){fn:Func}{c:Code}{g:FuncId}(hfn:D.P.funcs[g]?=some fn)(hc:fn.body=some c){ld:Option (LK×A)}{gv:Bool}{fuel:Nat}{σ0:SS}{m0:Nat}{hs hs':List Hint}{k:K}(hsym:sym D ⟨fn.results.toList,fn.resultTypes.toList,D.slots g,ld,gv⟩ fuel (.code c) σ0 m0 [] 0 hs=some (k,hs')){X0:Cx}{rs:List PV}(hd:den Φ N k [] X0.e=some rs){L:Nat->Prop}{base:Nat}{vs:Array Value}
  (hL:D.loud=true->L base) (hI:Iv base L X0 fn.ntmps X0 {tmps:=vs++Array.replicate (fn.ntmps-vs.size) undef,defers:=[]} σ0 m0) (hlo:∀b,X0.nm b->b<Fn.lo ⟨fn.results.toList,fn.resultTypes.toList,D.slots g,ld,gv⟩):
  Calls D.P g vs X0.w λe w'=>∃us X as ps as0 S' Bs,e= .returned (mw us)/\ X.w=w'/\ MR X base L/\ Ste X0 base L X/\ evs X.e as=some rs/\ evs X.e as0=some ps/\ LdE X as as0 S' Bs gv ld/\ RRs D.P w' S' fn.resultTypes.toList (D.slots g) us ps Bs/\ Bs.Nodup/\(∀B∈Bs,(base<=B\/L B)/\¬S' B/\ B<w'.heap.size)/\ Kp X0.w X0.S w' S'/\(∀B,S' B->B<w'.heap.size)/\(∀B,S' B->X0.S B\/base<=B\/L B)/\ Kp X.w X.S X.w S':=by
 refine calls_of_wp hfn hc ?_;refine afw hΦ hL hfol fuel (J:=[]) (e0:=X0.e) (X:=X0) (Xb:=X0) (κ:=[]) (nt:=fn.ntmps) hsym hd ⟨hlo,⟨[],by simp⟩,λi hi ex σ m hs k hs' X a J' h1 h2 h3 hI'=>?_⟩ ⟨[],by simp⟩ hI;cases i with
 |zero=>cases h1
 |succ i=>
  have key:(match J9 D.P ⟨fn.results.toList,fn.resultTypes.toList,D.slots g,ld,gv⟩ σ m σ.sz with
    |some (vs,l,_)=>some (qv l (.ret vs),hs)
    |none=>none)=some (k,hs')->a.defers=[]/\∃v,(results fn a.tmps).run D.P X.w= .ok v X.w/\∃us X' as ps as0 S' Bs,Ending.returned v= .returned (mw us)/\ X'.w=X.w/\ MR X' base L/\ Ste X0 base L X'/\ evs X'.e as=some rs/\ evs X'.e as0=some ps/\ LdE X' as as0 S' Bs gv ld/\ RRs D.P X.w S' fn.resultTypes.toList (D.slots g) us ps Bs/\ Bs.Nodup/\(∀B∈Bs,(base<=B\/L B)/\¬S' B/\ B<X.w.heap.size)/\ Kp X0.w X0.S X.w S'/\(∀B,S' B->B<X.w.heap.size)/\(∀B,S' B->X0.S B\/base<=B\/L B)/\ Kp X'.w X'.S X'.w S':=by
   intro h1;refine⟨hI'.ds,?_⟩;split at h1
   .rename_i as l z hend;cases h1;obtain⟨vals,v1,v2,v3⟩:=mZ h2;have hσ:=hI'.hσ;have hx:=zm hI'.st.mr hI'.st.cn (y:=vals) (N:=0);have hρ:=vZ hx.mr (by
     show∀t sv,look X.σ.tm t=some sv->_
     rw[hσ];exactλt sv ht=>let⟨v,q1,q2⟩:=hI'.tm t sv ht;⟨v,q1,q2.step hx.sx⟩)
    obtain⟨_,us,ps',as0,S',Bs,r1,r2,r9,r3,r4,r5,r6,r7,r8⟩:=YG (P:=D.P) hx.mr hρ (fn:=fn) (slots:=D.slots g) (ld:=ld) (gv:=gv) m σ.sz _ _ _ (by show J9 D.P _ X.σ _ _=_;rw[hσ];exact hend) (by rw[<-hI'.len];exact v2) (by rw[<-hσ];exact hx.mr.sz)
    simp at v3;exact⟨mw us,r1,us,X.ex vals 0,as,ps',as0,S',Bs,rfl,rfl,hx.mr,hI'.st.trans hx,v3,r2,r9,r3,r4,r5,hI'.st.sx.k.trans r6,r7,λB hB=>(r8 B hB).elim (hI'.st.new B) .inr,r6⟩
   .cases h1
  unfold sym at h1;simp only at h1;split at h1
  .cases h1
  .cases ex with
   |normal=>exact key h1
   |ret=>exact key h1
   |exit id=>rename_i hne;exact absurd rfl (hne id)
def KJ {X0:Cx}{P:Program}:∀(ts:List TypeId) (i:Nat) (us:List Value) (qs:List PV),F2 (RT X0.w X0.S) us qs->(∀(j:Nat) (p:PV),qs[j]?=some p->X0.e[i+j]?=some p)->ts.length=qs.length->(∀(j:Nat) (t:TypeId),ts[j]?=some t->∃p:PV,qs[j]?=some p/\(b7 P t=some true↔t0 p=false))->F2 (WR X0) us (ur P ts i):=by
 intro ts;induction ts with
 |nil=>intro i us qs h1 _ h3 _;cases h1 with
  |nil=>exact .nil
  |cons=>simp at h3
 |cons t ts iht=>
  intro i us qs h1 h2 h3 h4;cases h1 with
  |nil=>simp at h3
  |cons hv hvs'=>
   rename_i v p us qs;obtain⟨p',q1,q2⟩:=h4 0 t rfl;cases q1;have hp:X0.e[i]?=some p:=h2 0 p rfl;refine .cons ?_ (iht (i+1) us qs hvs' (λj p hj=>by rw[show i+1+j=i+(j+1) by omega];exact h2 (j+1) p (by simpa using hj)) (by simpa using h3) λj t' ht'=>by
    obtain⟨p',r1,r2⟩:=h4 (j+1) t' (by simpa using ht')
    exact⟨p',by simpa using r1,r2⟩)
   unfold afj;split
   .rename_i ha;have ht0:=q2.1 ha;cases hv with
    |agg hv hz=>exact .av (x:= .x i) hp hz hv
    |v=>cases ht0
    |nil=>cases ht0
    |sl=>cases ht0
   .rename_i ha;have ht0:t0 p=true:=by
     cases h:t0 p with
     |true=>rfl
     |false=>exact absurd (q2.2 h) ha
    exact .c (.a (x:= .x i) hp ht0 hv)
def F2.modset {α β:Type}{R:α->β->Prop}{f:α->α}{b:β}:∀{as:List α} {bs:List β} {i:Nat} {u:α},F2 R as bs->as[i]?=some u->R (f u) b->F2 R (as.modify i f) (bs.set i b)
 |_,_,i,_,.nil,h,_=>by simp at h
 |_,_,0,_,.cons _ t,h,k=>by cases h;exact .cons k t
 |_,_,i+1,u,.cons h t,h',k=> .cons h (t.modset (u:=u) (by simpa using h') k)
def Vy {X:Cx}{P:Program}{t:TypeId}{i c:Nat}{x:SC}{v u:Value}{p:PV}(hx:CR X v x)(hu:X.T u p)(hp:X.e[i]?=some p)(hs:b7 P t=some true↔t0 p=false):Sp X.e (O3 P t i c x) (WR X (Ea c v u)):=by
 unfold O3;split
 .rename_i ha;have ht0:=hs.1 ha;cases hu with
  |agg hv hz=>
   split
   .split
    .refine Sp.bind (rc (x:= .x i) hp) λy ⟨h1,h2⟩=> .ret (.agg ?_);rw[f9];exact(CN h1 hz _ 0 rfl h2 hv.f2).set hx
    .exact .fail
   .exact .fail
  |v=>cases ht0
  |nil=>cases ht0
  |sl=>cases ht0
 .rename_i ha;have ht0:t0 p=true:=by
   grind
  split
  .refine .ret (.c ?_);have:=hu.one ht0;cases u<;>first|exact hx|cases this
  .exact .fail
 .exact .fail
def afx {X:Cx}{n:Nat}{k:LK}(hkp:k.plain=true){p:PV}{q:Option (Nat×Nat)}{v:Value}(hp:X.e[n]?=some p)(hl:gl X.e (n+1) (lk0 n k).2.2.2)(hq:LenR X.w X.S k q v p)(hρ:X.ρ 0=q)(hnm:X.nm 0)(hK:X.K 0=some (kd (lk0 n k).2.2.1)):CR X v (lk0 n k).1/\ Knd (lk0 n k).2.1 (.x n) (lk0 n k).2.2.1 k/\ VL X.e (lk0 n k).2.1 q v k/\ BR X 0 (lk0 n k).2.2.1:=by
 cases k with
 |lst z=>
  obtain⟨vs,u,h1,h2,h3⟩:=hl 0 .len [.x n] rfl;obtain⟨els,rfl,hn⟩:=gV (y:= .x (n+1)) ⟨vs,u,h1,h2,h3⟩ (show A.ev X.e (.x n)=some p from hp)
  refine⟨.lsl hnm (by cases hq with|lst=>rfl|nil _ h=>rcases h with rfl|⟨_,_,rfl⟩<;>rfl) λnl' z' h=>?_,rfl,?_,?_⟩
  .rw[hK] at h;cases h;cases hq with
   | @lst _ B cap arr _ hz hc hl' hr hw he'=>exact⟨0,_,_,rfl,hn,hn,by omega,.inl ⟨_,_,cap,hρ,by simp,by omega,by simpa using hl'⟩⟩
   |nil hz h=>exact⟨0,0,0,rfl,hn,hn,aB _,.inr ⟨rfl,h,aB _⟩⟩
  .cases hq with
   |lst hz hc hl' hr hw he'=>exact⟨hz,_,hn,.inl ⟨_,_,_,rfl,rfl,hc,hl'⟩⟩
   |nil hz h=>exact⟨hz,0,hn,.inr ⟨rfl,rfl,h⟩⟩
  .cases hq with
   |lst hz hc hl' hr hw he'=>exact⟨hz,_,hp,hn,hw,.inr ⟨_,_,hρ,hr,he'⟩⟩
   |nil hz h=>exact⟨hz,_,hp,hn,(λ_ h=>by cases h),.inl ⟨rfl,hρ⟩⟩
 |map ka nk va=>
  cases hq with
  |map hg hm=>exact⟨.mp hnm λsb _=>⟨_,0,hρ,rfl⟩,rfl,⟨_,rfl,rfl⟩,⟨_,_,_,_,hρ,hg,hp,hm⟩⟩
 |pre=>cases hkp
def YP (hΦ:∀g ps rs,Φ g ps=some rs->jo D g ps rs)(hfol:D.P.follows .mixedOrders=true){fuel:Nat}{g:FuncId}{hs:List Hint}{k:K}(h:AY D fuel g hs=some k){ps rs:List PV}(hsh:∃fn,D.P.funcs[g]?=some fn/\ ps.length=D.na g fn/\ rs.length=D.nr g fn/\∀(i:Nat) (t:TypeId),fn.params[i]?=some t->∃p:PV,ps[i]?=some p/\(b7 D.P t=some true↔t0 p=false))
  (hd:den Φ N k [] ps=some rs):jo D g ps rs:=by
 obtain⟨fn,hfn,hpl,hrl,hsh⟩:=hsh;unfold AY at h;rw[hfn] at h;simp only at h;split at h
 .rename_i c hc;split at h
  .rename_i hdec;have hdec:=aX hdec;split at h
   .rename_i F σ0 m0 l0 hst;split at h
    .rename_i k' hs' hsym;cases h;have hname:fn.name≠ "runtime.NumGoroutine" :=λe=>by rw[e] at hdec;simp at hdec
     refine⟨fn,hfn,by rw[hc];simp,hname,hrl,?_⟩;obtain⟨vals,v1,v2,v3⟩:=mZ hd;unfold SH at hst;unfold Dcf.na at hpl;split at hst
     .rename_i hld;cases hst;rw[hld] at hpl|-;simp only[ny] at hpl;have:vals=[]:=bS v1;subst this;rw[bc] at v3;intro w S vs hvs hcur
      let σ0:SS:=⟨fn.ntmps,pL 0 (ur D.P fn.params.toList 0),[],0,[],[]⟩
      let X0:Cx:=⟨ps,λ_=>none,S,w,σ0,λ_=>False,0,λ_=>none⟩
      have hm:MR X0 w.heap.size (D.lf none w):=⟨λb sb h=>(by cases h),λb sb h=>(by cases h),λb _ _ h=>h,λb sb h=>(by cases h),λb sb B l h=>(by cases h),λb b' sb sb' B l l' h=>(by cases h),hcur,aB _,λp hp=>(by cases hp),λp hp=>(by cases hp)⟩;have hc0:Cn X0:=λb h=>h.elim;have hvl:vs.size=fn.params.size:=by have:=hvs.len;simp at this;omega
      have hws:F2 (WR X0) vs.toList (ur D.P fn.params.toList 0):=KJ (X0:=X0) fn.params.toList 0 vs.toList ps hvs (λj p hj=>by rw[cQ];exact hj) (by simp;omega) λj t ht=>hsh j t (by simpa using ht)
      have hI:Iv w.heap.size (D.lf none w) X0 fn.ntmps X0 {tmps:=vs++Array.replicate (fn.ntmps-vs.size) undef,defers:=[]} σ0 fn.params.size:=⟨rfl,hpl,xF hws,rfl,by simp;omega,rfl,.refl hm hc0⟩;refine(Ta hΦ hfol hfn hc hsym (X0:=X0) v3 (λh=> .inr ⟨h,aB _⟩) hI λb h=>h.elim).mono ?_;rintro e w' ⟨us,X,as,ps',as0,S',Bs,rfl,rfl,hmr,hste,e1,e2,e3,e4,e5,e6,e7,e8,e9,e10⟩;cases e3;rw[e1] at e2;cases e2;exact⟨mw us,S',us,Bs,rfl,rfl,e4,e5,λB hB=>⟨((e6 B hB).1).elim .inl λh=>h.elim (λ⟨_,h⟩=>by cases h) λh=> .inl h.2,(e6 B hB).2⟩,e7,e8,λB hB=>(e9 B hB).imp id λh=>h.elim .inl λh=>h.elim (λ⟨_,h⟩=>by cases h) λh=> .inl h.2,hste.fr⟩
     .rename_i ld hld;rw[hld] at hpl|-;simp only at hpl|-;split at hst
      .cases hst
      rename_i hkp;rw[LK.plain_b hkp];split at hst
      .rename_i t ht;split at hst
       .rename_i u l z hlp;cases hst;obtain⟨ps0,p,rfl⟩:∃ps0 p,ps=ps0++[p]:=⟨ps.dropLast,ps.getLast (by intro e;rw[e] at hpl;simp at hpl),(qH _).symm⟩;have hpl0:ps0.length=fn.params.size:=by simpa using hpl
        have hrl':rs≠[]:=λe=>by unfold Dcf.nr at hrl;rw[hld,e] at hrl;simp at hrl
        obtain⟨rs0,p',rfl⟩:∃rs0 p',rs=rs0++[p']:=⟨rs.dropLast,rs.getLast hrl',(qH _).symm⟩;refine⟨ps0,p,rs0,p',rfl,rfl,λw S vs q v hvs hq hnS hcur=>?_⟩;have hn1:(ps0++[p]).length=fn.params.size+1:=by simp[hpl0]
        rw[hn1] at v2
        let σ0:SS:=⟨fn.ntmps,pL 0 ((ur D.P fn.params.toList 0).set ld.i u),[(0,(lk0 fn.params.size ld.k).2.2.1)],1,[],z⟩
        let X0:Cx:=⟨(ps0++[p])++vals,λb=>if b=0 then q else none,S,w,σ0,λb=>b=0,0,λb=>if b=0 then some (kd (lk0 fn.params.size ld.k).2.2.1) else none⟩
        have hget:∀(j:Nat) (r:PV),(ps0++[p])[j]?=some r->X0.e[j]?=some r:=λj r h=>by
         show((ps0++[p])++vals)[j]?=_
         rw[aH (aC.1 h).1];exact h
        have hget0:∀(j:Nat) (r:PV),ps0[j]?=some r->X0.e[j]?=some r:=λj r h=>hget j r (by rw[aH (aC.1 h).1];exact h);obtain⟨c1,c2,c3,c4⟩:=afx (X:=X0) hkp (hget fn.params.size p (by rw[<-hpl0];simp)) v2.left hq rfl rfl rfl;have hsh0:∀(j:Nat) (t:TypeId),fn.params.toList[j]?=some t->∃r:PV,ps0[j]?=some r/\(b7 D.P t=some true↔t0 r=false):=λj t ht=>by
         obtain⟨r,h1,h2⟩:=hsh j t (by simpa using ht)
         have hj:j<ps0.length:=by rw[hpl0];have:=(aC.1 ht).1;simpa using this
         exact⟨r,by rw[aH hj] at h1;exact h1,h2⟩
        have hpar:=KJ (X0:=X0) (P:=D.P) fn.params.toList 0 vs ps0 hvs (λj r h=>by rw[cQ];exact hget0 j r h) (by simp;omega) hsh0;obtain⟨r,h1,h2⟩:=hsh0 _ _ ht;obtain⟨v0,h3,h4⟩:=hvs.get' _ _ h1;obtain⟨hz,hu⟩:=Vy (X:=X0) (P:=D.P) (t:=t) (i:=ld.i) (c:=ld.c) c1 h4 (hget0 _ _ h1) h2 _ _ _ _ _ hlp v2.right .nil;have hws:F2 (WR X0) (qO ld v vs) ((ur D.P fn.params.toList 0).set ld.i u):=hpar.modset h3 hu;have only:∀{b:Nat} {sb:SB},look σ0.bl b=some sb->b=0/\ sb=(lk0 fn.params.size ld.k).2.2.1:=λ{b sb} h=>by
         have h:look [(0,(lk0 fn.params.size ld.k).2.2.1)] b=some sb:=h;rw[ee] at h;split at h
         .rename_i e;cases h;exact⟨e.symm,rfl⟩
         .cases h
        have hm:MR X0 w.heap.size (D.lf q w):=by
         refine⟨λb sb h=>(only h).1,λb sb h=>?_,λb _ h=>absurd h (Nat.not_lt_zero _),λb sb h=>?_,λb sb B l h hr=>?_,λb b' sb sb' B l l' h h' _ _=>by rw[(only h).1,(only h').1],hcur,aB _,?_,λp hp=>(by cases hp)⟩
         .obtain⟨rfl,rfl⟩:=only h;rfl
         .obtain⟨rfl,rfl⟩:=only h;exact c4
         .obtain⟨rfl,rfl⟩:=only h;have hr:q=some (B,l):=hr;exact⟨.inr (.inl ⟨l,hr⟩),⟨λh=>absurd h (hnS B ⟨l,hr⟩),λh=>by rw[c2.frz] at h;cases h⟩⟩
         .have:=hz.append (jC.nil (env:=X0.e));simpa using this
        have hc0:Cn X0:=λb (h:b=0)=>by subst h;exact Nat.one_pos
        have hvl:(qO ld v vs).toArray.size=fn.params.size:=by have:=hvs.len;simp[qO];omega
        have hlen:X0.e.length=fn.params.size+1+(lk0 fn.params.size ld.k).2.2.2.length+l.length:=by
         show((ps0++[p])++vals).length=_
         rw[aD,v1,hn1,aD];omega
        have hI:Iv w.heap.size (D.lf q w) X0 fn.ntmps X0 {tmps:=(qO ld v vs).toArray++Array.replicate (fn.ntmps-(qO ld v vs).toArray.size) undef,defers:=[]} σ0 (fn.params.size+1+(lk0 fn.params.size ld.k).2.2.2.length+l.length):=⟨rfl,hlen,xF (by simpa using hws),rfl,by rw[Array.size_append,Array.size_replicate,hvl];omega,rfl,.refl hm hc0⟩
        refine(Ta hΦ hfol hfn hc hsym (X0:=X0) v3 (λh=> .inr ⟨h,aB _⟩) hI λb (h:b=0)=>by subst h;exact Nat.one_pos).mono ?_;rintro e w' ⟨us,X,as,ps',as0,S',Bs,rfl,rfl,hmr,hste,e1,e2,e3,e4,e5,e6,e7,e8,e9,e10⟩;cases hgv:ld.gv with
        |true=>
         rw[hgv] at e3;have e3:as=as0++[.c (.sl [])]:=e3;subst e3;rw[xC e2 (show A.ev X.e (.c (.sl []))=some (.sl []) from rfl)] at e1
         injection e1 with e1
         obtain⟨g1,g2⟩:=tF e1 rfl;subst g1;injection g2 with g2
         refine⟨mw us,S',us,Bs,rfl,⟨rfl,e4,e5,λB hB=>⟨((e6 B hB).1).elim .inl λh=>h.elim (λh=> .inr ⟨hgv,h⟩) λh=> .inl h.2,(e6 B hB).2⟩,e7,e8,λB hB=>(e9 B hB).imp id λh=>h.elim .inl λh=>h.elim (λh=> .inr ⟨hgv,h⟩) λh=> .inl h.2,hste.fr⟩,?_⟩;unfold C5;rw[hgv];exact g2.symm
        |false=>
        rw[hgv] at e3;obtain⟨lc,rfl,sb,f1,f2,f3⟩:=e3;obtain⟨x,hx⟩:=hste.sx.e;have hr0:X.ρ 0=q:=hste.sx.ρ 0 rfl;obtain⟨p2,f4,f5⟩:=D9 (hmr.bl 0 sb f1) f2 (by rw[hx];exact c3.step) (.inl hr0.symm);rw[xC e2 f4] at e1;injection e1 with e1
        obtain⟨g1,g2⟩:=tF e1 rfl;subst g1;cases g2;refine⟨mw us,S',us,Bs,rfl,⟨rfl,e4,e5,λB hB=>⟨.inl (((e6 B hB).1).elim id λh=>h.elim (λ⟨l,hl⟩=>absurd hB (f3 B l (hr0.trans hl)).2) λh=>h.2),(e6 B hB).2⟩,e7,e8,λB hB=>(e9 B hB).imp id λh=> .inl (h.elim id λh=>h.elim (λ⟨l,hl⟩=>absurd hB (f3 B l (hr0.trans hl)).1) λh=>h.2),hste.fr⟩,?_⟩;unfold C5;rw[hgv,LK.plain_b hkp];exact⟨f5.mono e10,.of hkp⟩
       .cases hst
      .cases hst
    .cases h
   .cases h
  .cases h
 .cases h
end
abbrev PhT:=FuncId->List PV->Option (List PV)
abbrev JT:=List PV->Option (List PV)
def Le {α β:Type}(f g:α->Option β):Prop:=∀a b,f a=some b->g a=some b
def Le.refl {α β:Type}{f:α->Option β}:Le f f:=λ_ _ h=>h
def Le.trans {α β:Type}{f g h:α->Option β}(a:Le f g)(b:Le g h):Le f h:=λx y k=>b x y (a x y k)
def LeJ (J J':List JT):Prop:=∀(i:Nat) (f:JT),J[i]?=some f->∃g:JT,J'[i]?=some g/\ Le f g
def LeJ.snoc {J J':List JT}{f g:JT}(h:LeJ J J')(hl:J.length=J'.length)(k:Le f g):LeJ (J++[f]) (J'++[g]):=λi u hi=>by
 by_cases e:i<J.length
 .rw[aH e] at hi;rw[aH (by omega)];exact h i u hi
 .rw[bP (by omega)] at hi;rw[bP (by omega),<-hl];cases hj:i-J.length with
  |zero=>rw[hj] at hi;simp at hi;subst hi;exact⟨g,by simp,k⟩
  |succ j=>rw[hj] at hi;simp at hi
def gX {Φ Φ':PhT}(hΦ:∀g,Le (Φ g) (Φ' g)):∀(k:K) {N N':Nat} {J J':List JT} {e rs:List PV},N<=N'->LeJ J J'->J.length=J'.length->den Φ N k J e=some rs->den Φ' N' k J' e=some rs
 | .ret vs,N,N',J,J',e,rs,_,_,_,h=>h
 | .dead,N,N',J,J',e,rs,_,_,_,h=>by cases h
 | .lt f as k,N,N',J,J',e,rs,hn,hj,hl,h=>by
  simp[den] at h|-;split at h
  .rename_i xs hx
   (try rw[hx]);(try simp only)
   split at h
   .rename_i v hv
    (try rw[hv]);exact gX hΦ k hn hj hl h
   .cases h
  .cases h
 | .call g as k,N,N',J,J',e,rs,hn,hj,hl,h=>by
  simp[den] at h|-;split at h
  .rename_i xs hx
   (try rw[hx]);(try simp only)
   split at h
   .rename_i v hv
    (try rw[hΦ g _ _ hv]);exact gX hΦ k hn hj hl h
   .cases h
  .cases h
 | .br x t f,N,N',J,J',e,rs,hn,hj,hl,h=>by
  simp[den] at h|-;split at h
  .rename_i hx;(try rw[hx]);exact gX hΦ t hn hj hl h
  .rename_i hx;(try rw[hx]);exact gX hΦ f hn hj hl h
  .cases h
 | .amb t f,N,N',J,J',e,rs,hn,hj,hl,h=>by
  simp[den] at h|-;split at h
  .rename_i a ha;split at h
   .rename_i b hb;obtain⟨rfl,rfl⟩:=afk h;simp[gX hΦ t hn hj hl ha,gX hΦ f hn hj hl hb]
   .cases h
  .cases h
 | .jp d k,N,N',J,J',e,rs,hn,hj,hl,h=>by
  simp[den] at h|-;exact gX hΦ k hn (hj.snoc hl λa b hab=>gX hΦ d hn hj hl hab) (by simp[hl]) h
 | .loop b k,N,N',J,J',e,rs,hn,hj,hl,h=>by
  simp[den] at h|-;refine gX hΦ k hn (hj.snoc hl ?_) (by simp[hl]) h;have:∀M M',M<=M'->Le (nR (λself vs=>den Φ N b (J++[self]) (e++vs)) M) (nR (λself vs=>den Φ' N' b (J'++[self]) (e++vs)) M'):=by
   intro M;induction M with
   |zero=>intro M' _ a c hac;cases hac
   |succ M ih=>
    intro M' hm a c hac;cases M' with
    |zero=>omega
    |succ M'=>exact gX hΦ b hn (hj.snoc hl (ih M' (by omega))) (by simp[hl]) hac
  exact this N N' hn
 | .jmp j vs,N,N',J,J',e,rs,hn,hj,hl,h=>by
  simp[den] at h|-;split at h
  .rename_i f hf;obtain⟨g,hg,hle⟩:=hj j f hf
   (try rw[hg]);(try simp only)
   split at h
   .rename_i xs hx
    (try rw[hx]);exact hle _ _ h
   .cases h
  .cases h
def LeJ.refl {J:List JT}:LeJ J J:=λ_ f h=>⟨f,h,.refl⟩
structure Apx (f:JT)(g:Nat->JT):Prop where
 mono:∀n m,n<=m->Le (g n) (g m)
 lim:∀a b,f a=some b->∃n,g n a=some b
def Vz {Φ:PhT}{Ψ:Nat->PhT}(hm:∀n m,n<=m->∀g,Le (Ψ n g) (Ψ m g))(hl:∀g a b,Φ g a=some b->∃n,Ψ n g a=some b){N:Nat}:∀(k:K) {JJ:List (JT×(Nat->JT))} {e rs:List PV},(∀p∈JJ,Apx p.1 p.2)->den Φ N k (JJ.map (·.1)) e=some rs->∃n,den (Ψ n) N k (JJ.map λp=>p.2 n) e=some rs:=by
 have leJ:∀{JJ:List (JT×(Nat->JT))},(∀p∈JJ,Apx p.1 p.2)->∀{n m:Nat},n<=m->LeJ (JJ.map λp=>p.2 n) (JJ.map λp=>p.2 m):=λ{JJ} h {n m} hnm i f hi=>by
  rw[a8] at hi;rw[bW] at hi;obtain⟨p,hp,rfl⟩:=hi;exact⟨p.2 m,by rw[a8,hp];rfl,(h p (ax hp)).mono n m hnm⟩
 have up:∀(k:K) {JJ:List (JT×(Nat->JT))} {e rs:List PV},(∀p∈JJ,Apx p.1 p.2)->∀{n m:Nat},n<=m->den (Ψ n) N k (JJ.map λp=>p.2 n) e=some rs->den (Ψ m) N k (JJ.map λp=>p.2 m) e=some rs:=λk {JJ e rs} h {n m} hnm hd=>gX (hm n m hnm) k (aB _) (leJ h hnm) (by simp) hd;have snoc:∀{JJ:List (JT×(Nat->JT))} {p:JT×(Nat->JT)},(∀p∈JJ,Apx p.1 p.2)->Apx p.1 p.2->∀q∈JJ++[p],Apx q.1 q.2:=λh hp q hq=>(b9.1 hq).elim (h q) λhq=>by simp at hq;subst hq;exact hp
 intro k;induction k with
 |ret vs=>intro JJ e rs _ h;exact⟨0,h⟩
 |dead=>intro JJ e rs _ h;cases h
 |lt f as k ih=>
  intro JJ e rs hJ h;simp only[den] at h|-;split at h
  .rename_i xs hx
   (try rw[hx])
   split at h
   .rename_i v hv;obtain⟨n,h⟩:=ih hJ h;exact⟨n,by(try simp only[hv]);exact h⟩
   .cases h
  .cases h
 |call g as k ih=>
  intro JJ e rs hJ h;simp only[den] at h|-;split at h
  .rename_i xs hx
   (try rw[hx])
   split at h
   .rename_i v hv;obtain⟨n,h⟩:=ih hJ h;obtain⟨n',hv⟩:=hl _ _ _ hv;exact⟨max n n',by(try rw[hm n' _ (oO n n') g _ _ hv]);exact up k hJ (qg n n') h⟩
   .cases h
  .cases h
 |br x t f iht ihf=>
  intro JJ e rs hJ h;simp only[den] at h|-;split at h
  .rename_i hx;(try rw[hx]);exact iht hJ h
  .rename_i hx;(try rw[hx]);exact ihf hJ h
  .cases h
 |amb t f iht ihf=>
  intro JJ e rs hJ h;simp only[den] at h;split at h
  .rename_i a ha;split at h
   .rename_i b hb;obtain⟨rfl,rfl⟩:=afk h;obtain⟨n,ha⟩:=iht hJ ha;obtain⟨n',hb⟩:=ihf hJ hb;exact⟨max n n',by simp only[den,up t hJ (qg n n') ha,up f hJ (oO n n') hb,az]⟩
   .cases h
  .cases h
 |jp d k ihd ihk=>
  intro JJ e rs hJ h;simp only[den] at h;have hp:Apx (λvs=>den Φ N d (JJ.map (·.1)) (e++vs)) (λn vs=>den (Ψ n) N d (JJ.map λp=>p.2 n) (e++vs)):=⟨λn m hnm a b hab=>up d hJ hnm hab,λa b hab=>ihd hJ hab⟩;obtain⟨n,h⟩:=ihk (JJ:=JJ++[(_,_)]) (snoc hJ hp) (by simpa using h)
  exact⟨n,by simp only[den];simpa using h⟩
 |loop b k ihb ihk=>
  intro JJ e rs hJ h;simp only[den] at h;have hp:∀M,Apx (nR (λself vs=>den Φ N b (JJ.map (·.1)++[self]) (e++vs)) M) (λn=>nR (λself vs=>den (Ψ n) N b ((JJ.map λp=>p.2 n)++[self]) (e++vs)) M):=by
   intro M;induction M with
   |zero=>exact⟨λn m _ a c h=>(by cases h),λa c h=>(by cases h)⟩
   |succ M ih=>
    have hs:=snoc (p:=(_,_)) hJ ih;refine⟨λn m hnm a c h=>?_,λa c h=>?_⟩
    .have:=up b hs hnm (e:=e++a) (rs:=c) (by simpa [nR] using h)
     simpa [nR] using this
    .obtain⟨n,h⟩:=ihb hs (e:=e++a) (rs:=c) (by simpa [nR] using h)
     exact⟨n,by simpa [nR] using h⟩
  obtain⟨n,h⟩:=ihk (JJ:=JJ++[(_,_)]) (snoc hJ (hp N)) (by simpa using h)
  exact⟨n,by simp only[den];simpa using h⟩
 |jmp j vs=>
  intro JJ e rs hJ h;simp only[den,a8] at h|-;cases hj:JJ[j]? with
  |none=>rw[hj] at h;cases h
  |some p=>
   rw[hj] at h;simp only[cD] at h|-;split at h
   .rename_i xs hx
    (try rw[hx])
    exact(hJ p (ax hj)).lim _ _ h
   .cases h
inductive Sh where
 |c
 |g
 deriving Inhabited
def VA (P:Program)(t:TypeId):Sh:=match b7 P t with
 |some true=> .g
 |_=> .c
def shs (D:Dcf)(g:FuncId):Option (List Sh×Nat):=(D.P.funcs[g]?).map λfn=>(fn.params.toList.map (VA D.P)++(match D.lend g with
 |some _=>[.c]
 |none=>[]),D.nr g fn)
def shB:Sh->PV->Bool
 | .c,p=>t0 p
 | .g,p=>!t0 p
def m7:List Sh->List PV->Bool
 |[],[]=>true
 |s::ss,p::ps=>shB s p&& m7 ss ps
 |_,_=>false
def Mm {P:Program}:∀{tys:List TypeId} {ps:List PV},m7 (tys.map (VA P)) ps=true->ps.length=tys.length/\∀(i:Nat) (t:TypeId),tys[i]?=some t->∃p:PV,ps[i]?=some p/\(b7 P t=some true↔t0 p=false)
 |[],[],_=>⟨rfl,λi t h=>by simp at h⟩
 |t::tys,p::ps,h=>by
  simp[m7] at h;obtain⟨h1,h2⟩:=Mm h.2;refine⟨by simp[h1],λi t' hi=>?_⟩;cases i with
  |zero=>
   simp at hi;subst hi;refine⟨p,rfl,?_⟩;have h3:=h.1;unfold VA at h3;split at h3
   .rename_i ha;simp[shB] at h3;exact⟨λ_=>h3,λ_=>ha⟩
   .rename_i ha;simp[shB] at h3;exact⟨λh=>absurd h (by simpa using ha),λh=>by rw[h3] at h;cases h⟩
  |succ i=>simp at hi;simpa using h2 i t' hi
 |[],_::_,h=>by simp[m7] at h
 |_::_,[],h=>by simp[m7] at h
def KK:∀{ss ts:List Sh} {ps:List PV},m7 (ss++ts) ps=true->∃a b,ps=a++b/\ m7 ss a=true/\ m7 ts b=true
 |[],ts,ps,h=>⟨[],ps,rfl,rfl,h⟩
 |s::ss,ts,[],h=>by simp[m7] at h
 |s::ss,ts,p::ps,h=>by
  simp[m7] at h;obtain⟨a,b,rfl,h1,h2⟩:=KK h.2;exact⟨p::a,b,rfl,by simp[m7,h.1,h1],h2⟩
structure Dt extends Dcf where
 T:FuncId->Option K
 X:FuncId->List PV->Option (List PV)
def l6 (D:Dt):Nat->PhT
 |0=>λ_ _=>none
 |n+1=>λg vs=>match D.T g with
  |some k=>match shs D.toDcf g with
   |some (ss,m)=>match m7 ss vs with
    |true=>match den (l6 D n) n k [] vs with
     |some rs=>match Nat.beq rs.length m with
      |true=>some rs
      |false=>none
     |none=>none
    |false=>none
   |none=>none
  |none=>D.X g vs
def E6 (D:Dt):∀n g,Le (l6 D n g) (l6 D (n+1) g)
 |0,g=>λa b h=>by cases h
 |n+1,g=>λa b h=>by
  have ih:=E6 D n;unfold l6 at h|-;cases hT:D.T g with
  |none=>rw[hT] at h;exact h
  |some k=>
   rw[hT] at h;simp only at h|-;split at h
   .rename_i ss m hs;split at h
    .rename_i hb;split at h
     .rename_i rs hd;rw[gX ih k (eE n) LeJ.refl rfl hd];exact h
     .cases h
    .cases h
   .cases h
def ux (D:Dt){n m:Nat}(h:n<=m)(g:FuncId):Le (l6 D n g) (l6 D m g):=by
 induction m with
 |zero=>rw[show n=0 by omega];exact .refl
 |succ m ih=>
  by_cases e:n=m+1
  .rw[e];exact .refl
  .exact(ih (by omega)).trans (E6 D m g)
def Ans (D:Dt)(g:FuncId)(vs rs:List PV):Prop:=∃n,l6 D n g vs=some rs
def Mn {D:Dt}{g:FuncId}{vs rs rs':List PV}(h:Ans D g vs rs)(k:Ans D g vs rs'):rs=rs':=by
 obtain⟨n,h⟩:=h;obtain⟨m,k⟩:=k;have h:=ux D (qg n m) g _ _ h;have k:=ux D (oO n m) g _ _ k
 grind
open Classical in
def bx (D:Dt):PhT:=λg vs=>if h:∃rs,Ans D g vs rs then some (Classical.choose h) else none
def afy {D:Dt}{g:FuncId}{vs rs:List PV}(h:Ans D g vs rs):bx D g vs=some rs:=by
 unfold bx;rw[dif_pos ⟨rs,h⟩];exact aW some (Mn (kP (⟨rs,h⟩:∃rs,Ans D g vs rs)) h)
def Kok (D:Dt)(g:FuncId)(k:K):Prop:=D.T g=some k
def ans_of {D:Dt}{g:FuncId}{ss:List Sh}{m:Nat}{vs rs:List PV}{k:K}(hk:Kok D g k)(hs:shs D.toDcf g=some (ss,m))(ha:m7 ss vs=true)(hd:∃N,den (bx D) N k [] vs=some rs)(hl:rs.length=m:=by rfl):Ans D g vs rs:=by
 obtain⟨N,hd⟩:=hd;obtain⟨n,h⟩:=Vz (Ψ:=l6 D) (λn m h g=>ux D h g) (λg a b h=>by
  unfold bx at h;split at h
  .rename_i he;cases h;exact kP he
  .cases h) k (JJ:=[]) (λp hp=>by cases hp) hd
 refine⟨max n N+1,?_⟩;have h:den (l6 D n) N k [] vs=some rs:=h;unfold l6;rw[show D.T g=some k from hk]
 simp[hs,ha,gX (λg=>ux D (qg n N) g) k (oO n N) LeJ.refl rfl h,hl]
def Xz {D:Dt}{g:FuncId}{vs rs:List PV}(h0:D.T g=none)(h:D.X g vs=some rs):Ans D g vs rs:=⟨1,by unfold l6;rw[h0];exact h⟩
structure DtOk (D:Dt):Prop where
 T:∀g k,D.T g=some k->∃fuel hs,AY D.toDcf fuel g hs=some k
 X:∀g vs rs,D.T g=none->D.X g vs=some rs->jo D.toDcf g vs rs
 fol:D.P.follows .mixedOrders=true
def Mo {D:Dt}(h:DtOk D):∀n g ps rs,l6 D n g ps=some rs->jo D.toDcf g ps rs
 |0,g,ps,rs,e=>by cases e
 |n+1,g,ps,rs,e=>by
  unfold l6 at e;split at e
  .rename_i k hk;split at e
   .rename_i ss m hs;split at e
    .rename_i hb;split at e
     .rename_i rs' hd;split at e
      .rename_i hl;cases e;obtain⟨fuel,hh,hsym⟩:=h.T g k hk;unfold shs at hs;rw[bW] at hs;obtain⟨fn,hfn,e⟩:=hs;cases e;obtain⟨a,b,rfl,hb,hb'⟩:=KK hb;obtain⟨h1,h2⟩:=Mm hb;refine YP (Mo h n) h.fol hsym ⟨fn,hfn,?_,bm hl,λi t ht=>?_⟩ hd
       .unfold Dcf.na;rw[aD,h1];cases hld:D.lend g with
        |none=>rw[hld] at hb';cases b with
         |nil=>simp
         |cons=>simp[m7] at hb'
        |some ld=>rw[hld] at hb';cases b with
         |nil=>simp[m7] at hb'
         |cons _ b=>cases b with
          |nil=>simp
          |cons=>simp[m7] at hb'
       .obtain⟨p,h3,h4⟩:=h2 i t (by simpa using ht)
        exact⟨p,by rw[aH (aC.1 h3).1];exact h3,h4⟩
      .cases e
     .cases e
    .cases e
   .cases e
  .rename_i hk;exact h.X g ps rs hk e
def XA {D:Dt}(h:DtOk D){g:FuncId}{ps rs:List PV}(k:Ans D g ps rs):jo D.toDcf g ps rs:=let⟨n,k⟩:=k;Mo h n g ps rs k
def pQ:K->Nat
 | .ret vs=>vs.length
 | .dead=>0
 | .lt _ _ k=>pQ k
 | .call _ _ k=>pQ k
 | .br _ t f=>(match pQ t with|0=>pQ f|n+1=>n+1)
 | .amb t f=>(match pQ t with|0=>pQ f|n+1=>n+1)
 | .jp t f=>(match pQ t with|0=>pQ f|n+1=>n+1)
 | .loop t f=>(match pQ t with|0=>pQ f|n+1=>n+1)
 | .jmp _ _=>0
inductive TabL (D:Dcf):List (Nat×List Hint×K)->Prop
 |nil:TabL D []
 |cons {g:Nat} {hs:List Hint} {k:K} {l:List (Nat×List Hint×K)} (h:AY D 100000 g hs=some k) (t:TabL D l):TabL D ((g,hs,k)::l)
def TabL.app {D:Dcf}{a b:List (Nat×List Hint×K)}(h:TabL D a)(k:TabL D b):TabL D (a++b):=by
 induction h with
 |nil=>exact k
 |cons h _ ih=>exact .cons h ih
def Pe (l:List (Nat×List Hint×K)):List (Nat×K):=l.map λe=>(e.1,e.2.2)
def TabL.ok {D:Dcf}:∀{l:List (Nat×List Hint×K)},TabL D l->∀g k,look (Pe l) g=some k->∃fuel hs,AY D fuel g hs=some k
 |_,.nil,g,k,h=>by cases h
 |_,.cons h t,g,k,hl=>by
  unfold Pe at hl;rw[bY,ee] at hl;split at hl
  .rename_i e;subst e;cases hl;exact⟨_,_,h⟩
  .exact t.ok g k hl
def evC:Option PV->List PV->List A->Option (List PV)
 |some v,e,as=>match evs e as with
  |some vs=>some (v::vs)
  |none=>none
 |none,_,_=>none
def evD (v:PV):Option (List PV)->Option (List PV)
 |some vs=>some (v::vs)
 |none=>none
def YQ {e:List PV}:evs e []=some []:=rfl
def uy {e:List PV}{a:A}{as:List A}:evs e (a::as)=evC (a.ev e) e as:=by
 cases h:a.ev e<;>simp only[evs,evC,h]<;>rfl
def VB {v:PV}{e:List PV}{as:List A}:evC (some v) e as=evD v (evs e as):=by simp only[evC,evD]
def VC {v:PV}{vs:List PV}:evD v (some vs)=some (v::vs):=rfl
def afz {i:Nat}{e:List PV}:A.ev e (.x i)=e[i]?:=rfl
def akH {p:PV}{e:List PV}:A.ev e (.c p)=some p:=rfl
def VD {α:Type}{a:α}{l:List α}:(a::l)[0]?=some a:=rfl
def VE {α:Type}{a:α}{l:List α}{i:Nat}:(a::l)[i+1]?=l[i]?:=rfl
section
variable (Φ:PhT)(N:Nat)
def Pf (r:Option PV)(k:K)(J:List JT)(e:List PV):Option (List PV):=match r with
 |some v=>den Φ N k J (e++[v])
 |none=>none
def Pg (f:RF)(xs:Option (List PV))(k:K)(J:List JT)(e:List PV):Option (List PV):=match xs with
 |some xs=>Pf Φ N (f.ev xs) k J e
 |none=>none
def Ph (r:Option (List PV))(k:K)(J:List JT)(e:List PV):Option (List PV):=match r with
 |some rs=>den Φ N k J (e++rs)
 |none=>none
def VF (g:FuncId)(xs:Option (List PV))(k:K)(J:List JT)(e:List PV):Option (List PV):=match xs with
 |some xs=>Ph Φ N (Φ g xs) k J e
 |none=>none
def VG (r:Option PV)(t f:K)(J:List JT)(e:List PV):Option (List PV):=match r with
 |some (.v (.bool true))=>den Φ N t J e
 |some (.v (.bool false))=>den Φ N f J e
 |_=>none
def VH (f:Option JT)(xs:Option (List PV)):Option (List PV):=match f with
 |some f=>match xs with
  |some xs=>f xs
  |none=>none
 |none=>none
def kJ (d:K)(J:List JT)(e:List PV):JT:=λvs=>den Φ N d J (e++vs)
@[irreducible] def dl (b:K) (J:List JT) (e:List PV) (n:Nat):JT:=nR (λself vs=>den Φ N b (J++[self]) (e++vs)) n
variable {Φ N}{J:List JT}{e:List PV}
def YR {vs:List A}:den Φ N (.ret vs) J e=evs e vs:=rfl
def ay {f:RF}{as:List A}{k:K}:den Φ N (.lt f as k) J e=Pg Φ N f (evs e as) k J e:=by unfold Pg Pf;rfl
def Tb {f:RF}{xs:List PV}{k:K}:Pg Φ N f (some xs) k J e=Pf Φ N (f.ev xs) k J e:=rfl
def rf {v:PV}{k:K}:Pf Φ N (some v) k J e=den Φ N k J (e++[v]):=rfl
def VI {g:FuncId}{as:List A}{k:K}:den Φ N (.call g as k) J e=VF Φ N g (evs e as) k J e:=by unfold VF Ph;rfl
def Tc {g:FuncId}{xs:List PV}{k:K}:VF Φ N g (some xs) k J e=Ph Φ N (Φ g xs) k J e:=rfl
def Td {rs:List PV}{k:K}:Ph Φ N (some rs) k J e=den Φ N k J (e++rs):=rfl
def o7 {t f:K}{r:List PV}(h:den Φ N t J e=some r)(k:den Φ N f J e=some r):den Φ N (.amb t f) J e=some r:=by simp only[den,h,k,az]
def afA {x:A}{t f:K}:den Φ N (.br x t f) J e=VG Φ N (x.ev e) t f J e:=by unfold VG;rfl
def Te {b:Bool}{t f:K}:VG Φ N (some (.v (.bool b))) t f J e=if b=true then den Φ N t J e else den Φ N f J e:=by cases b<;>rfl
def afB {d k:K}:den Φ N (.jp d k) J e=den Φ N k (J++[kJ Φ N d J e]) e:=rfl
def VJ {b k:K}:den Φ N (.loop b k) J e=den Φ N k (J++[dl Φ N b J e N]) e:=by unfold dl;rfl
def YS {j:Nat}{vs:List A}:den Φ N (.jmp j vs) J e=VH J[j]? (evs e vs):=by unfold VH;rfl
def Tf {f:JT}{xs:List PV}:VH (some f) (some xs)=f xs:=rfl
def gY {d:K}{vs:List PV}:kJ Φ N d J e vs=den Φ N d J (e++vs):=rfl
def bu {b:K}{n:Nat}{vs:List PV}:dl Φ N b J e (n+1) vs=den Φ N b (J++[dl Φ N b J e n]) (e++vs):=by unfold dl;rfl
end
section
variable {k k':IntKind}{a b n m i:Int}{x y:Bool}{op:BinOp}
def oe:RF.ev (.bin op) [.v (.int k a),.v (.int k' b)]=dC op k a k' b:=rfl
def afC {s t:ByteArray}:RF.ev (.bin op) [.v (.string s),.v (.string t)]=yP op s t:=rfl
def afD:RF.ev (.bbin op) [.v (.bool x),.v (.bool y)]=uo op x y:=rfl
def aho:RF.ev (.un .not) [.v (.bool x)]=some (.v (.bool (!x))):=rfl
def ahp:RF.ev (.un .neg) [.v (.int k a)]=some (.v (.int k (k.wrap (0-a)))):=rfl
def afE:RF.ev (.conv k') [.v (.int k a)]=some (.v (.int k' (k'.wrap a))):=rfl
def YT {n:Nat}{cs:List PV}:RF.ev (.shape n) [.agg cs]=if cs.length=n then some (.agg cs) else none:=rfl
def afF {i:Nat}{cs:List PV}:RF.ev (.cell i) [.agg cs]=cs[i]?:=rfl
def afG {x:Value}:RF.ev .flat [.v x]=some (.v x):=rfl
def ahq {els:List (List PV)}:RF.ev .len [.sl els]=some (.v (.int .i64 els.length)):=rfl
def afH:RF.ev .ix [.v (.int k i),.v (.int k' n)]=if 0<=i/\ i<n then some (.v (.int k i)) else none:=rfl
def ahr:RF.ev .sum [.v (.int k a),.v (.int k' b)]=some (.v (.int .i64 (a+b))):=rfl
def ahs:RF.ev .dif [.v (.int k a),.v (.int k' b)]=some (.v (.int .i64 (a-b))):=rfl
def kq:RF.ev .bnd [.v (.int k a),.v (.int k' b)]=if 0<=a/\ a<=b then some (.v (.int .i64 a)) else none:=rfl
def VK (o n:Nat):Option (List PV)->Option PV
 |some row=>cM o n row
 |none=>none
def Tg {o n:Nat}{row:List PV}:VK o n (some row)=cM o n row:=rfl
def aht {o n:Nat}{els:List (List PV)}:RF.ev (.elt o n) [.sl els,.v (.int k i)]=if 0<=i then VK o n els[i.toNat]? else none:=by unfold VK;rfl
def ahu {bytes z:Nat}{as bs:List (List PV)}:RF.ev (.app bytes z) [.sl as,.v (.int k n),.sl bs]=if 0<=n/\ n<=as.length/\(n.toNat+bs.length)*bytes<=140737488355328/\ d8 z bs=true then some (.sl (as.take n.toNat++bs)) else none:=rfl
def xG {els:List (List PV)}:RF.ev .sub [.sl els,.v (.int k a),.v (.int k' n)]=if 0<=a/\ 0<=n/\ a+n<=els.length then some (.sl ((els.drop a.toNat).take n.toNat)) else none:=rfl
def Pi {z:List PV}{bytes:Nat}:RF.ev (.rep z bytes) [.v (.int k a),.v (.int k' b)]=if 0<=a/\ a<=b/\ b<9223372036854775808/\ bytes*b<=281474976710656 then some (.sl (List.replicate a.toNat z)) else none:=rfl
def ahv {z:Nat}{els:List (List PV)}:RF.ev (.tix z) [.sl els,.v (.int k i)]=if 0<=i then(match els[i.toNat]? with
    |some row=>if row.length=z then some (.v (.int k i)) else none
    |none=>none)
   else none:=rfl
def zn {z:Nat}{els:List (List PV)}:RF.ev (.tsub z) [.sl els,.v (.int k a),.v (.int k' b)]=if 0<=a/\ a<=b/\ b<=els.length/\ d8 z els=true/\ 0<z then some (.sl ((els.drop a.toNat).take (b.toNat-a.toNat))) else none:=rfl
def xH {o:Nat}{els:List (List PV)}{p:PV}:RF.ev (.set o) [.sl els,.v (.int k i),p]=if 0<=i then(match els[i.toNat]? with
    |some row=>if o+p.cells.length<=row.length then some (.sl (els.set i.toNat (nY row o p.cells))) else none
    |none=>none)
   else none:=rfl
def XB:dC .add k a k b=some (.v (.int k (k.wrap (a+b)))):=by simp only[dC,az]
def ahw:dC .sub k a k b=some (.v (.int k (k.wrap (a-b)))):=by simp only[dC,az]
def XC:dC .mul k a k b=some (.v (.int k (k.wrap (a*b)))):=by simp only[dC,az]
def Pj:dC .quo k a k b=if b=0 then none else some (.v (.int k (k.wrap (a.tdiv b)))):=by simp only[dC,az]
def F0:dC .rem k a k b=if b=0 then none else some (.v (.int k (a.tmod b))):=by simp only[dC,az]
def akI:dC .or k a k b=some (.v (.int k (k.wrap (BitVec.ofInt k.bits a|||BitVec.ofInt k.bits b).toNat))):=by simp only[dC,az]
def XD:dC .and k a k b=some (.v (.int k (k.wrap (BitVec.ofInt k.bits a&&& BitVec.ofInt k.bits b).toNat))):=by simp only[dC,az]
def Pk:dC .shr k a k' b=if b<0 then none else some (.v (.int k (a.fdiv (2^(min b.toNat k.bits))))):=rfl
def ahx:dC .eql k a k b=some (.v (.bool (decide (a=b)))):=by simp only[dC,az]
def ahy:dC .neq k a k b=some (.v (.bool (!decide (a=b)))):=by simp only[dC,az]
def ahz:dC .lss k a k b=some (.v (.bool (decide (a<b)))):=by simp only[dC,az]
def ahA:dC .leq k a k b=some (.v (.bool (decide (a<=b)))):=by simp only[dC,az]
def ahB:dC .gtr k a k b=some (.v (.bool (decide (b<a)))):=by simp only[dC,az]
def ahC:dC .geq k a k b=some (.v (.bool (decide (b<=a)))):=by simp only[dC,az]
def ahD:uo .eql x y=some (.v (.bool (x==y))):=rfl
def ahE:uo .neq x y=some (.v (.bool (!(x==y)))):=rfl
def ahF {s t:ByteArray}:yP .eql s t=some (.v (.bool (s.toList==t.toList))):=rfl
def ahG {s t:ByteArray}:yP .neq s t=some (.v (.bool (!(s.toList==t.toList)))):=rfl
end
def my (n:Int):IntKind.u64.wrap n=n% 18446744073709551616:=by simp[IntKind.wrap,IntKind.bits,IntKind.signed]
def cU {n:Int}(h: -9223372036854775808<=n)(k:n<=9223372036854775807):IntKind.i64.wrap n=n:=by
 simp only[IntKind.wrap,IntKind.bits,IntKind.signed];simp;split<;>omega
def KL {a:PV}{as bs:List PV}:a::as++bs=a::(as++bs):=rfl
def Pl {as:List PV}:[]++as=as:=rfl
def Th {a:JT}{as bs:List JT}:a::as++bs=a::(as++bs):=rfl
def XE {as:List JT}:[]++as=as:=rfl
def VM {a:PV}{as:List PV}:(a::as).length=as.length+1:=rfl
def YU:([]:List PV).length=0:=rfl
def xs:List Nat->List A
 |[]=>[]
 |v::l=> .x v::xs l
def rg:Nat->Nat->List Nat->List Nat
 |_,0,l=>l
 |a,n+1,l=>a::rg (a+1) n l
def kCn:Nat->Nat->Nat->K->K
 |_,0,_,k=>k
 |i,n+1,m,k=> .lt (.cell i) [.x m] (kCn (i+1) n m k)
def afI {e:List PV}:evs e (xs [])=some []:=rfl
def YV {e:List PV}{v:Nat}{l:List Nat}:evs e (xs (v::l))=evC e[v]? e (xs l):=uy
def afJ {e:List PV}{a:Nat}{l:List Nat}:evs e (xs (rg a 0 l))=evs e (xs l):=rfl
def ahH {e:List PV}{a n:Nat}{l:List Nat}:evs e (xs (rg a (n+1) l))=evC e[a]? e (xs (rg (a+1) n l)):=uy
def VN {Φ:PhT}{N i m:Nat}{k:K}{J:List JT}{e:List PV}:den Φ N (kCn i 0 m k) J e=den Φ N k J e:=rfl
def VO {Φ:PhT}{N i n m:Nat}{k:K}{J:List JT}{e:List PV}:den Φ N (kCn i (n+1) m k) J e=Pg Φ N (.cell i) (evC e[m]? e []) (kCn (i+1) n m k) J e:=by rw[<-afz,<-uy];exact ay
def akJ:0+1=1/\ 1+1=2/\ 2+1=3/\ 3+1=4/\ 4+1=5/\ 5+1=6/\ 6+1=7/\ 7+1=8/\ 8+1=9/\ 9+1=10/\ 10+1=11/\ 11+1=12/\ 12+1=13/\ 13+1=14/\ 14+1=15/\ 15+1=16/\ 16+1=17/\ 17+1=18/\ 18+1=19/\ 19+1=20/\ 20+1=21/\ 21+1=22/\ 22+1=23/\ 23+1=24/\ 24+1=25/\ 25+1=26/\ 26+1=27/\ 27+1=28/\ 28+1=29/\ 29+1=30/\ 30+1=31/\ 31+1=32/\ 32+1=33/\ 33+1=34/\ 34+1=35/\ 35+1=36/\ 36+1=37/\ 37+1=38/\ 38+1=39/\ 39+1=40/\ 40+1=41/\ 41+1=42/\ 42+1=43/\ 43+1=44/\ 44+1=45/\ 45+1=46/\ 46+1=47/\ 47+1=48/\ 48+1=49/\ 49+1=50/\ 50+1=51/\ 51+1=52/\ 52+1=53/\ 53+1=54/\ 54+1=55/\ 55+1=56/\ 56+1=57/\ 57+1=58/\ 58+1=59/\ 59+1=60/\ 60+1=61/\ 61+1=62/\ 62+1=63/\ 63+1=64/\ 64+1=65/\ 65+1=66/\ 66+1=67/\ 67+1=68/\ 68+1=69/\ 69+1=70/\ 70+1=71/\ 71+1=72/\ 72+1=73/\ 73+1=74/\ 74+1=75/\ 75+1=76:=by
 repeat' first|exact rfl|apply And.intro
def EV:=And.intro akJ<|And.intro @afI (And.intro @YV (And.intro @afJ (And.intro @ahH (And.intro @VN (And.intro @VO (And.intro @afG (And.intro @KL (And.intro @Pl (And.intro @Th (And.intro @XE (And.intro @VM (And.intro @YU (And.intro @ay (And.intro @uy (And.intro @YQ (And.intro @VB (And.intro @VC (And.intro @afz (And.intro @akH (And.intro @VD (And.intro @VE (And.intro @Tb (And.intro @rf (And.intro @VI (And.intro @Tc (And.intro @Td (And.intro @afA (And.intro @Te (And.intro @YR (And.intro @afB (And.intro @VJ (And.intro @YS (And.intro @Tf (And.intro @gY (And.intro @oe (And.intro @afC (And.intro @afD (And.intro @aho (And.intro @ahp (And.intro @afE (And.intro @YT (And.intro @afF (And.intro @ahq (And.intro @ahr (And.intro @ahs (And.intro @XB (And.intro @ahw (And.intro @XC (And.intro @akI (And.intro @XD (And.intro @ahx (And.intro @ahy (And.intro @ahz (And.intro @ahA (And.intro @ahB (And.intro @ahC (And.intro @ahD (And.intro @ahE (And.intro @ahF (And.intro @ahG (@Tg)))))))))))))))))))))))))))))))))))))))))))))))))))))))))))))
inductive Ct0 where
 |b
 |i (k:IntKind)
 |s
inductive Ct where
 |p (c:Ct0)
 |sl (es:List Ct0)
def mz:List Ct->Option (List Ct0)
 |[]=>some []
 | .p c::l=>match mz l with
  |some cs=>some (c::cs)
  |none=>none
 | .sl _::_=>none
def Pm (P:Program)(rec:TypeId->Option (List Ct)):Nat->List Field->Option (List Ct)
 |_,[]=>some []
 |o,f::fs=>match Nat.beq f.offset o with
  |true=>match rec f.type with
   |some c=>match Nat.beq c.length (P.cellsOf f.type) with
    |true=>match Pm P rec (o+c.length) fs with
     |some l=>some (c++l)
     |none=>none
    |false=>none
   |none=>none
  |false=>none
def cts (P:Program):Nat->TypeId->Option (List Ct)
 |0,_=>none
 |n+1,t=>match P.underlying t with
  |some .bool=>some [.p .b]
  |some (.int k)=>some [.p (.i k)]
  |some .string=>some [.p .s]
  |some (.slice e)=>match cts P n e with
   |some es=>match mz es with
    |some es0=>match Nat.beq es.length (P.cellsOf e) with
     |true=>match Nat.ble 1 es.length with
      |true=>some [.sl es0]
      |false=>none
     |false=>none
    |none=>none
   |none=>none
  |some (.struct fs)=>match Pm P (cts P n) 0 fs.toList with
   |some l=>match Nat.beq l.length (P.cellsOf t) with
    |true=>some l
    |false=>none
   |none=>none
  |_=>none
def lB:Ct0->PV->Prop
 | .b,p=>∃x:Bool,p= .v (.bool x)
 | .i k,p=>∃x:Int,p= .v (.int k x)/\(Lit.int k x).wf=true
 | .s,p=>∃s:ByteArray,p= .v (.string s)/\ s.size<=maxLen
def CtV:Ct->PV->Prop
 | .p c,p=>lB c p
 | .sl es,p=>∃els,p= .sl els/\ els.length<=maxLen/\∀c∈els,F2 lB es c
def zo {a b:List Ct}:∀{c:List Ct0},mz (a++b)=some c->∃x y,mz a=some x/\ mz b=some y:=by
 induction a with
 |nil=>exactλh=>⟨_,_,rfl,h⟩
 |cons k l ih=>
  intro c h;cases k with
  |sl _=>cases h
  |p k=>
   simp[mz] at h;split at h
   .rename_i cs hcs;obtain⟨x,y,h1,h2⟩:=ih hcs;exact⟨k::x,y,by simp[mz,h1],h2⟩
   .cases h
def lB.plain {k:Ct0}{p:PV}(h:lB k p):∃x,p= .v x/\ jm x=true:=by
 cases k with
 |b=>obtain⟨x,rfl⟩:=h;exact⟨_,rfl,rfl⟩
 |i k=>obtain⟨x,rfl,_⟩:=h;exact⟨_,rfl,rfl⟩
 |s=>obtain⟨x,rfl,_⟩:=h;exact⟨_,rfl,rfl⟩
def lB.t0 {k:Ct0}{p:PV}(h:lB k p):Sym.t0 p=true:=by
 obtain⟨x,rfl,_⟩:=h.plain;rfl
def CtV.t0 {k:Ct}{p:PV}(h:CtV k p):Sym.t0 p=true:=by
 cases k with
 |p k=>exact lB.t0 (show lB k p from h)
 |sl es=>obtain⟨els,rfl,_⟩:=h;rfl
def Mp:∀{ks:List Ct} {qs:List PV},F2 CtV ks qs->qs.all Sym.t0=true
 |_,_,.nil=>rfl
 |_,_,.cons h t=>by simp[h.t0,Mp t]
def KM:∀{ks:List Ct0} {qs:List PV},F2 lB ks qs->qs.all Sym.t0=true
 |_,_,.nil=>rfl
 |_,_,.cons h t=>by simp[h.t0,KM t]
def E7 {W:World}{S:Nat->Prop}:∀{ks:List Ct} {k0:List Ct0} {qs:List PV} {cs:List Value},mz ks=some k0->F2 CtV ks qs->RTs W S cs qs->F2 lB k0 qs/\ qs=cs.map PV.v/\ cs.all jm=true
 |[],_,_,_,h,.nil,hr=>by
  cases h;cases hr;exact⟨.nil,rfl,rfl⟩
 | .sl _::_,_,_,_,h,_,_=>by cases h
 | .p k::ks,k0,_,_,h,.cons h1 t,hr=>by
  simp[mz] at h;split at h
  .rename_i k1 hk;cases h;cases hr with
   |cons r1 rt=>
    obtain⟨a1,a2,a3⟩:=E7 hk t rt;have h1':=h1;obtain⟨x,rfl,hp⟩:=lB.plain h1';cases r1 with
    |v hp'=>exact⟨.cons h1 a1,by rw[a2];rfl,by simp[hp,a3]⟩
  .cases h
def OkC (W:World)(cs:List Value):Prop:=∀a l,Value.slice (some a) l 0∈cs->a.spot=none/\ a.block<W.heap.size
def All (W:World)(B:Nat):Prop:=B<W.heap.size
def Rd (W:World)(ks:List Ct)(cs:List Value):Prop:=∃qs,RTs W (All W) cs qs/\ F2 CtV ks qs
def YW {a:Addr}(h:a.spot=none)(x y:Nat):(a.add x).add y=a.add (x+y):=by
 unfold Addr.add
 grind
def VP {a:Addr}(h:a.spot=none)(x:Nat):a.add x=⟨a.block,a.off+x,none⟩:=by
 unfold Addr.add;split
 .rename_i e;subst e;cases a;simp only at h;subst h;rfl
 .rfl
def E8 {w:World}{base:Nat}{a:Addr}{n:Nat}{cs:List Value}(h:w.cells? base a n=some cs):cs.length=n/\∀i,i<n->w.cell? (a.add i)=cs[i]?:=by
 unfold World.cells? at h;split at h
 .refine⟨by simpa using mapM_some_length h,λi hi=>?_⟩
  exact mapM_some_get h i i (by simp[hi])
 .cases h
def KN {w:World}{a:Addr}{v:Value}(h:w.cell? a=some v):∃arr t fz,w.heap[a.block]?=some (.cells arr t fz)/\ arr[a.off]?=some v:=by
 unfold World.cell? at h
 grind
def E9 {W:World}{S:Nat->Prop}:∀{cs:List Value},cs.all jm=true->RTs W S cs (cs.map PV.v)
 |[],_=> .nil
 |c::cs,h=>by
  simp only[dJ,aJ] at h;exact .cons (.v h.1) (E9 h.2)
def afK {W:World}{z:Nat}{es:List Ct0}{a:Addr}(ha:a.spot=none)(k:Nat):∀(o:Nat),(∀i,i<k->∃cs,W.cells? 0 (a.add (o+i*z)) z=some cs/\ cs.all jm=true/\ F2 lB es (cs.map PV.v))->
  ∃(c:List Value) (els:List (List PV)),els.length=k/\ c.length=k*z/\ els.flatten=c.map PV.v/\(∀r∈els,r.length=z)/\ c.all jm=true/\(∀(i:Nat) (v:Value),c[i]?=some v->W.cell? (a.add (o+i))=some v)/\∀e∈els,F2 lB es e:=by
 induction k with
 |zero=>exactλo _=>⟨[],[],rfl,by simp,rfl,(λr h=>by cases h),rfl,λi v h=>by simp at h,λe he=>by cases he⟩
 |succ k ih=>
  intro o h;obtain⟨c,els,h1,h2,h3,h3',h4,h5,h6⟩:=ih (o+z) (λi hi=>by
   have:=h (i+1) (by omega);rwa [show o+(i+1)*z=o+z+i*z by rw[cx];omega] at this)
  obtain⟨cs,k1,k2,k3⟩:=h 0 (by omega);obtain⟨l1,l2⟩:=E8 k1;refine⟨cs++c,cs.map PV.v::els,by simp[h1],by rw[aD,l1,h2,cx];omega,by simp[h3],?_,by simp only[qa,k2,h4,gH],?_,?_⟩
  .grind
  .intro i v hv;by_cases hi:i<z
   .rw[aH (by omega)] at hv;have:=l2 i hi;rw[YW ha,show o+0*z+i=o+i by omega] at this
    rw[this,hv]
   .rw[bP (by omega)] at hv;have:=h5 _ _ hv;rwa [l1,show o+z+(i-z)=o+i by omega] at this
  .intro e he;cases he with
   |head=>exact k3
   |tail _ he=>exact h6 e he
section
variable {T:Type}{enc:TypeId×Value->T}{P:Program}{W:World}
def XF {n fuel:Nat}{cs:List Value}
  (ih:∀{t:TypeId} {ks:List Ct},cts P n t=some ks->∀{cs:List Value} {x:DataW T×List MemPlace},DataW.trod enc P W 0 (λ_=>true) true fuel t cs=some x->(OkC W cs\/∃k0,mz ks=some k0)->Rd W ks cs):
  ∀(fs:List Field) (o:Nat) (l:List Ct),Pm P (cts P n) o fs=some l->(∀f∈fs,∃x,DataW.trod enc P W 0 (λ_=>true) true fuel f.type ((cs.drop f.offset).take (P.cellsOf f.type))=some x)->
   (OkC W cs\/∃k0,mz l=some k0)->Rd W l ((cs.drop o).take l.length)
 |[],o,l,h,_,_=>by
  cases h;exact⟨[],by simpa using RTs.nil,.nil⟩
 |f::fs,o,l,h,ht,hc=>by
  simp[Pm] at h;split at h
  .rename_i ho;split at h
   .rename_i c hcf;split at h
    .rename_i hcl;split at h
     .rename_i l' hl';cases h;have ho:=bm ho;have hcl:=bm hcl;have okA:OkC W cs->∀o k,OkC W ((cs.drop o).take k):=λhk o k a l hm=>hk a l (lI (jb hm));have hc1:OkC W ((cs.drop f.offset).take (P.cellsOf f.type))\/∃k0,mz c=some k0:=by
       rcases hc with hc|⟨k0,hc⟩
       .exact .inl (okA hc _ _)
       .obtain⟨x,_,hx,_⟩:=zo hc;exact .inr ⟨x,hx⟩
      have hc2:OkC W cs\/∃k0,mz l'=some k0:=by
       rcases hc with hc|⟨k0,hc⟩
       .exact .inl hc
       .obtain⟨_,y,_,hy⟩:=zo hc;exact .inr ⟨y,hy⟩
      obtain⟨x,hx⟩:=ht f (by simp);obtain⟨qs,s5,s6⟩:=ih hcf hx hc1;obtain⟨rs,u5,u6⟩:=XF ih fs (o+c.length) l' hl' (λg hg=>ht g (by simp[hg])) hc2;refine⟨qs++rs,?_,s6.append u6⟩;rw[aD,List.take_add,gZ];rw[ho,<-hcl] at s5;exact .of (s5.f2.append u5.f2)
     .cases h
    .cases h
   .cases h
  .cases h
def xI:∀(n:Nat) {t:TypeId} {ks:List Ct},cts P n t=some ks->∀{fuel:Nat} {cs:List Value} {x:DataW T×List MemPlace},DataW.trod enc P W 0 (λ_=>true) true fuel t cs=some x->
  (OkC W cs\/∃k0,mz ks=some k0)->Rd W ks cs
 |0,_,_,h,_,_,_,_,_=>by cases h
 |n+1,t,ks,h,fuel,cs,x,hx,hc=>by
  unfold cts at h;split at h
  .rename_i ht;cases h;obtain⟨b,rfl,_⟩:=DataW.trod_bool ht hx;exact⟨[.v (.bool b)],.cons (.v rfl) .nil,.cons ⟨b,rfl⟩ .nil⟩
  .rename_i k ht;cases h;obtain⟨b,rfl,_,hw⟩:=DataW.trod_int ht hx;exact⟨[.v (.int k b)],.cons (.v rfl) .nil,.cons ⟨b,rfl,hw⟩ .nil⟩
  .rename_i ht;cases h;obtain⟨b,rfl,_,hw⟩:=DataW.trod_string ht hx;exact⟨[.v (.string b)],.cons (.v rfl) .nil,.cons ⟨b,rfl,hw⟩ .nil⟩
  .rename_i e ht;split at h
   .rename_i es hes;split at h
    .rename_i es0 hes0;split at h
     .rename_i hz;split at h
      .rename_i hz1;cases h;have hz:=bm hz;have hz1:0<P.cellsOf e:=by have:=cg hz1;omega
       rcases hc with hc|⟨k0,hc⟩
       .rcases DataW.trod_slice ht hx with⟨rfl,_⟩|⟨a,len,cap,elems,rest,m,rfl,rfl,_,_,hlc,hcm,hel,h1,h2,_⟩
        .exact⟨[.sl []],.cons (.nil (.inl rfl)) .nil,.cons ⟨[],rfl,b8 _,λc hc=>by cases hc⟩ .nil⟩
        .cases hcap:cap with
         |zero=>
          subst hcap;have hl0:len=0:=by omega
          subst hl0;obtain⟨hsp,hblk⟩:=hc a 0 (by simp);refine⟨[.sl []],.cons (.nil (.inr ⟨a.block,a.off,?_⟩)) .nil,.cons ⟨[],rfl,b8 _,λc hc=>by cases hc⟩ .nil⟩;cases a;simp only at hsp;subst hsp;rfl
         |succ cap'=>
          have hall:∀j,j<cap->∃ci y,W.cells? 0 (a.add (j*P.cellsOf e)) (P.cellsOf e)=some ci/\ DataW.trod enc P W 0 (λ_=>true) true m e ci=some y:=by
           intro j hj;have:∃y,(W.cells? 0 (a.add (j*P.cellsOf e)) (P.cellsOf e)).bind (DataW.trod enc P W 0 (λ_=>true) true m e)=some y:=by
            by_cases hjl:j<len
            .rw[h1 j hjl];exact⟨elems[j]'(by omega),ai _⟩
            .obtain⟨hr,h2⟩:=h2 rfl;have:=h2 (j-len) (by omega);rw[show len+(j-len)=j by omega] at this
             rw[this];exact⟨rest[j-len]'(by omega),ai _⟩
           obtain⟨y,hy⟩:=this;obtain⟨ci,hci,hy⟩:=tR.1 hy;exact⟨ci,y,hci,hy⟩
          obtain⟨c0,y0,q1,_⟩:=hall 0 (by omega);obtain⟨q2,q3⟩:=E8 q1;have q4:=q3 0 hz1;rw[show a.add (0*P.cellsOf e)=a by simp[Addr.add],show a.add 0=a by simp[Addr.add],ai (by omega)] at q4
          have hsp:=World.cell?_spot q4;obtain⟨arr,ty,fz,w1,w2⟩:=KN q4;have hblk:=(bH.1 w1).1;obtain⟨c,els,r1,r2,r3,r3',r4,r5,r6⟩:=afK (W:=W) (z:=P.cellsOf e) (es:=es0) hsp len 0 (λi hi=>by
           obtain⟨ci,y,hci,hy⟩:=hall i (by omega);obtain⟨qs,g5,g6⟩:=xI n hes hy (.inr ⟨es0,hes0⟩);obtain⟨f1,f2,f3⟩:=E7 hes0 g6 g5;rw[f2] at f1;exact⟨ci,by rw[cQ];exact hci,f3,f1⟩)
          have hcell:∀(i:Nat) (v:Value),c[i]?=some v->arr[a.off+i]?=some v:=λi v hv=>by
           have:=r5 i v hv;rw[cQ,VP hsp] at this;obtain⟨arr',ty',fz',w1',w2'⟩:=KN this;rw[w1] at w1';cases w1';exact w2'
          have hpart:(arr.toList.drop a.off).take (len*P.cellsOf e)=c:=by
           refine c8 λi=>?_;rw[iv];by_cases hi:i<len*P.cellsOf e
           .rw[ad hi,fC];have:=hcell i (c[i]'(by omega)) (ai _);rw[bU,this];exact(ai _).symm
           .rw[ac hi,bD (by omega)]
          refine⟨[.sl els],.cons ?_ .nil,.cons ⟨els,rfl,by omega,r6⟩ .nil⟩;have:(some a:Option Addr)=some ⟨a.block,a.off,none⟩:=by cases a;simp only at hsp;subst hsp;rfl
          rw[this];exact .sl (z:=P.cellsOf e) hblk w1 hz1 r1 (by omega) (λr hr=>⟨r3' r hr,KM (r6 r hr)⟩) (by rw[hpart,r3];exact E9 r4)
       .cases hc
      .cases h
     .cases h
    .cases h
   .cases h
  .rename_i fs ht;split at h
   .rename_i l hl;split at h
    .rename_i hz;cases h;have hz:=bm hz;obtain⟨xs,m,rfl,rfl,hcl,hxl,hf⟩:=DataW.trod_struct ht hx;have:=XF (cs:=cs) (fuel:=m) (λhk=>λ{cs x} hx hc=>xI n hk hx hc) fs.toList 0 ks hl (λf hf'=>by
      obtain⟨i,hi,hfi⟩:=qj hf';have e:=hf i f (by rw[<-bU,ai hi,hfi]);rw[e];exact⟨xs[i]'(by rw[hxl];simpa using hi),ai _⟩) hc
     rw[dz,bi (by omega)] at this;exact this
    .cases h
   .cases h
  .cases h
end
def Am (P:Program)(t:TypeId):Bool:=match P.underlying t with
 |some (.struct _)=>true
 |_=>false
def Da (P:Program):List TypeId->Option (List (Bool×List Ct))
 |[]=>some []
 |t::ts=>match cts P 16 t with
  |some ks=>match Da P ts with
   |some l=>some ((Am P t,ks)::l)
   |none=>none
  |none=>none
def Ej:Bool×List Ct->PV->Prop
 |(true,ks),v=>∃qs,v= .agg qs/\ F2 CtV ks qs
 |(false,ks),v=>F2 CtV ks [v]
section
variable {T:Type}{enc:TypeId×Value->T}{P:Program}{W:World}
def KO {r:Reach}{base:Nat}{u:TypeId}{a:Addr}{l c:Nat}(h:Cell.okWide P W r base u (.slice (some a) l c)):a.spot=none/\ a.block<W.heap.size:=by
 have hk:Cell.ok P W r base u (.slice (some a) l c):=by
  unfold Cell.okWide at h
  grind
 unfold Cell.ok at hk;split at hk
 all_goals first
  |(rename_i e;cases e;done)
  |skip
 .rename_i e;obtain⟨_,_,_,h2,row,cells,h3,_⟩:=hk;unfold World.shape? at h3
  grind
 .cases hk
def LA {r:Reach}{base:Nat}{t:TypeId}{v:Value}{ks:List Ct}{n:Nat}(hc:cts P n t=some ks)(hs:Am P t=false)(h:Value.okWide P W r base t v):v.cells=#[v]/\ Cell.okWide P W r base t v:=by
 cases n with
 |zero=>cases hc
 |succ n=>
 unfold cts at hc;unfold Am at hs;have hk:Cell.okWide P W r base t v:=by
  unfold Value.okWide at h
  grind
 refine⟨?_,hk⟩;cases v with
 |agg cs=>
  have hk':Cell.ok P W r base t (.agg cs):=by
   unfold Cell.okWide at hk
   grind
  unfold Cell.ok at hk'
  grind
 |_=>rfl
def YX {r:Reach}{base:Nat}{t:TypeId}{v:Value}{ks:List Ct}{d:DataW T}{ps:List MemPlace}(hc:cts P 16 t=some ks)(ho:Value.okWide P W r base t v)(hr:DataW.Trod enc P W 0 (λ_=>true) true t v d ps):∃p,RT W (All W) v p/\ Ej (Am P t,ks) p:=by
 obtain⟨fuel,hr⟩:=hr;cases hst:Am P t with
 |true=>
  have⟨fs,hu⟩:∃fs,P.underlying t=some (.struct fs):=by
   unfold Am at hst
   grind
  unfold Value.okWide at ho;rw[hu] at ho;obtain⟨cs,rfl,_,ts,_,_,hok⟩:=ho;have hcs:OkC W cs.toList:=λa l hm=>by
   obtain⟨i,hi,e⟩:=qj hm;obtain⟨u,_,h⟩:=hok i (.slice (some a) l 0) (by rw[<-bU,ai hi,e]);exact KO h
  obtain⟨qs,s5,s6⟩:=xI 16 hc hr (.inl hcs);exact⟨.agg qs,.agg s5 (Mp s6),qs,rfl,s6⟩
 |false=>
  obtain⟨h1,h2⟩:=LA hc hst ho;rw[h1] at hr;have hcs:OkC W [v]:=λa l hm=>by
   simp only[cJ] at hm;subst hm;exact KO h2
  obtain⟨qs,s5,s6⟩:=xI 16 hc hr (.inl hcs);cases s5 with
  |cons r1 rt=>
   cases rt;exact⟨_,r1,s6⟩
def KR {r:Reach}{base:Nat}:∀{tys:List TypeId} {ks:List (Bool×List Ct)} {vs:List Value} {ds:List (DataW T)} {ps:List MemPlace},Da P tys=some ks->(∀(j:Nat) (t:TypeId) (v:Value),tys[j]?=some t->vs[j]?=some v->Value.okWide P W r base t v)->
  DataW.TrodAll enc P W 0 (λ_=>true) true tys vs ds ps->∃qs,F2 (RT W (All W)) vs qs/\ F2 Ej ks qs
 |[],ks,vs,ds,ps,hk,ho,hr=>by
  cases hk;cases vs with
  |nil=>exact⟨[],.nil,.nil⟩
  |cons v vs=>cases ds<;>exact absurd hr (by simp[DataW.TrodAll])
 |t::tys,ks,vs,ds,ps,hk,ho,hr=>by
  unfold Da at hk;split at hk
  .rename_i k hk1;split at hk
   .rename_i l hl;cases hk;cases vs with
    |nil=>cases ds<;>exact absurd hr (by simp[DataW.TrodAll])
    |cons v vs=>
     cases ds with
     |nil=>exact absurd hr (by simp[DataW.TrodAll])
     |cons d ds=>
      obtain⟨p,q,hr1,hr2,_⟩:=hr;obtain⟨x,s5,s6⟩:=YX hk1 (ho 0 t v rfl rfl) hr1;obtain⟨xs,u5,u6⟩:=KR hl (λj t v h1 h2=>ho (j+1) t v h1 h2) hr2;exact⟨x::xs,.cons s5 u5,.cons s6 u6⟩
   .cases hk
  .cases hk
end
def link {T:Type}{enc:TypeId×Value->T}{D:Dt}{W:World}{r:Reach}{base:Nat}{g:FuncId}{fn:Func}{t:TypeId}{ks:List (Bool×List Ct)}{args:Array Value}{ds:List (DataW T)}{ps:List MemPlace}{x:Value}
  (hD:DtOk D) (hld:D.lend g=none) (hf:D.P.funcs[g]?=some fn) (hrt:fn.resultTypes.toList=[t]) (hk:Da D.P fn.params.toList=some ks)
  (ho:∀(j:Nat) (t:TypeId) (v:Value),fn.params[j]?=some t->args[j]?=some v->Value.okWide D.P W r base t v) (hr:DataW.TrodAll enc D.P W 0 (λ_=>true) true fn.params.toList args.toList ds ps)
  (hans:∀vs,F2 Ej ks vs->Ans D g vs [.v x]):Calls D.P g args W λe W'=>e= .returned x/\ RowKit.Below W.heap.size W W':=by
 obtain⟨qs,s5,s6⟩:=KR hk (λj t v h1 h2=>ho j t v (by rwa [<-bU]) (by rwa [<-bU])) hr;obtain⟨fn',hf',_,_,_,h⟩:=(XA hD (hans qs s6)).plain hld;rw[hf] at hf';cases hf';refine(h W (All W) args s5 λ_ h=>h).mono ?_;rintro e W' ⟨u,S',us,Bs,rfl,ha⟩;have hu:us=[x]:=by
  have hrr:=ha.rr;rw[hrt] at hrr;generalize hp:[PV.v x]=pp at hrr;cases hrr with
  |cons h k=>
   cases k;cases hp;unfold RR at h;generalize (D.slots g).headD []=sl at h;split at h
   .grind
   .rcases h with⟨_,_,h,_⟩|h
    .cases h;rfl
    .generalize hq:[PV.v x]=pp at h;generalize hv:[_]=vv at h;cases h with
     |nil=>cases hq
     |tree h1 h2 t=>cases hq;cases hv;cases h1;rfl
     |own=>cases hq
     |none=>cases hq
   .exact h.elim
 refine⟨by rw[ha.u,hu];rfl,?_⟩;exact⟨ha.fr.os,ha.fr.tape,ha.fr.output,ha.fr.size,λk hk=>ha.fr.block k hk (Ah hk)⟩
open Go.ChangeShapes Go.WideShapes Go.ChangeAt Go.RowKit
section
variable {T:Type}{enc:TypeId×Value->T}{P:Program}
def x8 (hl:laidOutB P=true){W W':World}(hb:RowKit.Below W.heap.size W W'):∀{tys:List TypeId} {vs:List Value} {ds:List (DataW T)} {ps:List MemPlace},(tys.all λt=>P.readableRec t&& Nat.blt t P.types.size)=true->
  DataW.TrodAll enc P W 0 (λ_=>true) true tys vs ds ps->DataW.TrodAll enc P W' 0 (λb=>decide (b<W.heap.size)) true tys vs ds ps
 |[],[],[],_,_,h=>h
 |t::tys,v::vs,d::ds,_,ht,⟨p,q,h1,h2,e⟩=>by
  simp only[dJ,aJ] at ht;have hlt:=DataW.TrodAll.lt (show DataW.TrodAll enc P W 0 (λ_=>true) true (t::tys) (v::vs) (d::ds) _ from⟨p,q,h1,h2,e⟩)
  subst e;exact⟨p,q,Below.trod hl ht.1.1 (by simpa using ht.1.2) h1 hb (λx hx=>hlt x (by simp[hx])),x8 hl hb ht.2 h2,rfl⟩
 |[],[],_::_,_,_,h=>absurd h (by simp[DataW.TrodAll])
 |[],_::_,_,_,_,h=>absurd h (by simp[DataW.TrodAll])
 |_::_,[],_,_,_,h=>absurd h (by simp[DataW.TrodAll])
 |_::_,_::_,[],_,_,h=>absurd h (by simp[DataW.TrodAll])
def Az {W:World}{b:Nat}{sp:Nat->Bool}{hd:Bool}:∀{tys:List TypeId} {vs:List Value} {ds:List (DataW T)} {ps:List MemPlace},DataW.TrodAll enc P W b sp hd tys vs ds ps->ds.length=tys.length
 |[],[],[],_,_=>rfl
 |_::_,_::_,_::_,_,⟨_,_,_,h,_⟩=>by simp[Az h]
 |[],[],_::_,_,h=>absurd h (by simp[DataW.TrodAll])
 |[],_::_,_,_,h=>absurd h (by simp[DataW.TrodAll])
 |_::_,[],_,_,h=>absurd h (by simp[DataW.TrodAll])
 |_::_,_::_,[],_,h=>absurd h (by simp[DataW.TrodAll])
def post_true {f:Func}{s:ChangeSpec}{t:TypeId}{fresh handsOn:Bool}{W W':World}{args:Array Value}{ds gs:List (DataW T)}{before:List MemPlace}(hl:laidOutB P=true)(hW:DataW.Whole enc P f.params.toList s.vars false W args.toList ds gs before)
  (hv:s.vars=[]) (hres:f.resultTypes=#[t]) (ht:P.underlying t=some .bool) (hp:(f.params.toList.all λt=>P.readableRec t&& Nat.blt t P.types.size)=true)
  (hfn:∀ds:List (DataW T),ds.length=f.params.toList.length->s.fn T ds={results:=[.lit (.bool true)],args:=ds}) (hb:RowKit.Below W.heap.size W W'):
  s.post enc P f false fresh handsOn false W args (.bool true) W':=by
 have hW0:=hW;obtain⟨p,q,hA,hV,hbe,hfz,hnd⟩:=hW;have hgs:gs=[]:=by
  rw[hv] at hV;cases gs with
  |nil=>rfl
  |cons g gs=>exact absurd hV (by simp[DataW.TrodVars])
 subst hgs;have e:=hfn ds (Az hA);refine⟨ds,[],before,[],p,[],hW0,?_,?_,?_,hb.frame _,λh=>by cases h⟩
 .rw[bc,e,hres];exact trodAll_mk1 (shut_bool ht true)
 .rw[bc,e];exact x8 hl hb hp hA
 .rw[bc,e,hv];exact rfl
end
def KS:List Nat->Nat->Bool
 |[],_=>false
 |x::l,i=>match Nat.beq x i with
  |true=>true
  |false=>KS l i
def mkZ (P:Program)(inl:List Nat)(slots:List (Nat×List (List eN)))(lend:List (Nat×Ld)):Dcf:=⟨P,KS inl,λg=>match look slots g with
 |some l=>l
 |none=>[],look lend,false⟩
namespace KP
abbrev x:=A.x
abbrev i (n:Int):A:= .c (.v (.int .i64 n))
abbrev l:=K.lt
abbrev c:=K.call
abbrev b:=K.br
abbrev j:=K.jmp
abbrev w (n:Nat):SV:= .w (.c (.a (.x n)))
abbrev wi (n:Int):SV:= .w (.c (.a (i n)))
abbrev p (b o:Nat):SV:= .w (.c (.ptr b o))
abbrev v (n:Nat):SV:= .w (.av (.x n))
abbrev a (n:Nat):SC:= .a (.x n)
abbrev r (n i:Nat):SC:= .pc (.x n) i
abbrev o (b n:Nat):SC:= .lsl b (i 0) (.x n)
abbrev z:PV:= .v (.int .i64 0)
abbrev oL:RF:= .bin .lss
abbrev oK:RF:= .bin .leq
abbrev oG:RF:= .bin .gtr
abbrev oH:RF:= .bin .geq
abbrev oE:RF:= .bin .eql
abbrev oN:RF:= .bin .neq
abbrev oA:RF:= .bin .add
abbrev oS:RF:= .bin .sub
abbrev oM:RF:= .bin .mul
abbrev s:A:= .c (.sl [])
abbrev ft:A:= .c (.v (.bool true))
abbrev ff:A:= .c (.v (.bool false))
abbrev u (n:Int):A:= .c (.v (.int .u8 n))
abbrev y (n:Int):A:= .c (.v (.int .u64 n))
abbrev C (n m:Nat)(k:K):K:= .lt (.cell n) [.x m] k
abbrev S (n m:Nat)(k:K):K:= .lt (.shape n) [.x m] k
abbrev L (m:Nat)(k:K):K:= .lt .len [.x m] k
abbrev P (a n m:Nat)(k:K):K:= .lt (.part a n) [.x m] k
abbrev E (a n p q:Nat)(k:K):K:= .lt (.elt a n) [.x p,.x q] k
abbrev T (z p q:Nat)(k:K):K:= .lt (.tix z) [.x p,.x q] k
abbrev I (p q:Nat)(k:K):K:= .lt .ix [.x p,.x q] k
abbrev V (f:RF)(p q:Nat)(k:K):K:= .lt f [.x p,.x q] k
abbrev N (f:RF)(p:Nat)(n:Int)(k:K):K:= .lt f [.x p,i n] k
abbrev U (p:Nat)(n:Int)(q:Nat)(k:K):K:= .lt .sub [.x p,i n,.x q] k
abbrev W (p:Nat)(k:K):K:= .lt (.un .not) [.x p] k
abbrev G (a p q r:Nat)(k:K):K:= .lt (.set a) [.x p,.x q,.x r] k
abbrev H (as:List A)(k:K):K:= .lt .agg as k
abbrev B (n:Nat)(t e:K):K:= .br (.x n) t e
abbrev X (g p:Nat)(k:K):K:= .call g [.x p] k
abbrev Y (g p q:Nat)(k:K):K:= .call g [.x p,.x q] k
abbrev Z (g p q r:Nat)(k:K):K:= .call g [.x p,.x q,.x r] k
abbrev D (as:List A):K:= .ret as
abbrev J (m:Nat)(p:Nat):K:= .jmp m [.x p]
abbrev zC (r:List A):List A:=i 0::i 0::s::i 0::s::s::s::s::s::s::s::r
abbrev n:Hint:= .no
abbrev d (n:Int):K:= .ret [i n]
abbrev O (l:List Nat):K:= .ret (xs l)
abbrev M (l:List Nat)(k:K):K:= .lt .agg (xs l) k
abbrev f (n:Nat)(l:List Nat):K:= .jmp n (xs l)
abbrev Q (i n m:Nat)(k:K):K:=kCn i n m k
abbrev e (a b z:Nat):SB:= .lst (.x a) (.x b) z false
abbrev q (b n:Nat):SV:= .w (.c (o b n))
def ar:Nat->Nat->List SC
 |_,0=>[]
 |i,n+1=> .a (.x i)::ar (i+1) n
def up:Nat->Nat->List Nat->List Nat
 |_,0,l=>l
 |a,n+1,l=>a::up (a+1) n l
def dn:Nat->Nat->List Nat->List Nat
 |_,0,l=>l
 |a,n+1,l=>a::dn (a-1) n l
def rs:List Nat->List Nat
 |[]=>[]
 |v::l=>match Nat.blt v 100000 with
  |true=>up (v% 1000) (max 1 (v/1000)) (rs l)
  |false=>dn (v% 1000) (v/1000-100) (rs l)
abbrev m (p nb:Nat)(ts:List Nat)(ch:List (Nat×SV))(bs:List Nat)(cb:List (Nat×SB)):Hint:= .j (mkT p nb (rs ts) ch bs cb)
end KP
end Go.Sym
namespace Go.Sym
open Go.Sort
def ij (l:List Int):List Int:=l.mergeSort λa b=>decide (a<=b)
def kr (l:List Int):List (List PV):=l.map λn=>[.v (.int .i64 n)]
def uz (g0 g:FuncId)(vs:List PV):Option (List PV):=match Nat.beq g g0 with
 |true=>match vs with
  |[.sl [],.sl els]=>match sY els with
   |some l=>if l.length<4611686018427387904 then some [.sl (kr (ij l))] else none
   |none=>none
  |_=>none
 |false=>none
def Fa:∀{els:List (List PV)} {l:List Int},sY els=some l->els=kr l
 |[],l,h=>by cases h;rfl
 |r::rs,l,h=>by
  unfold sY at h;split at h
  .rename_i e;cases e
  .rename_i n rs' e;cases e;rw[bW] at h;obtain⟨l',h1,rfl⟩:=h;rw[Fa h1];rfl
  .cases h
def AA:∀l:List Int,sY (kr l)=some l
 |[]=>rfl
 |n::l=>by
  show(sY (kr l)).map (n::·)=_
  rw[AA l];rfl
def xJ:∀l:List Int,(kr l).flatten=l.map λn=>PV.v (.int .i64 n)
 |[]=>rfl
 |n::l=>by
  show [_]++(kr l).flatten=_
  rw[xJ l];rfl
def uA (l:List Int):(kr l).length=l.length:=by simp[kr]
def SortC (P:Program)(g:FuncId):Prop:=∀(blk cap:Nat) (zs:List Int) (w:World),Holds (Value.int .i64) w blk 0 zs.toArray->blk<w.heap.size->zs.length<4611686018427387904->
 Calls P g #[.slice (some ⟨blk,0,none⟩) zs.length cap] w λe w'=>e= .returned (.tuple #[])/\∃n os,w'=grow (putRow (Value.int .i64) (Sort.ahead w n) blk 0 (zs.mergeSort λx y=>decide (x<=y)).toArray) os
def SortN (P:Program)(g:FuncId):Prop:=∀(p:Option Addr) (cap:Nat) (w:World),Calls P g #[.slice p 0 cap] w λe w'=>e= .returned (.tuple #[])/\ w'=w
def KU {w:World}{S:Nat->Prop}:∀{l:List Int} {vs:List Value},RTs w S vs (l.map λn=>PV.v (.int .i64 n))->vs=l.map λn=> .int .i64 n
 |[],_,h=>by cases h;rfl
 |n::l,_,h=>by
  cases h with
  |cons h t=>
   cases h with
   |v h=>rw[KU t];rfl
def KV {w:World}{S:Nat->Prop}:∀{l:List Int},RTs w S (l.map λn=> .int .i64 n) (l.map λn=>PV.v (.int .i64 n))
 |[]=> .nil
 |_::_=> .cons (.v rfl) KV
def VQ {D:Dcf}{g:FuncId}{fn:Func}(hfn:D.P.funcs[g]?=some fn)(hb:fn.body≠none)(hn:fn.name≠ "runtime.NumGoroutine")(hr:fn.resultTypes=#[])(hld:D.lend g=some ⟨0,0,.pre 1,false⟩)(hc:SortC D.P g)(h0:SortN D.P g){vs rs:List PV}(h:uz g g vs=some rs):jo D g vs rs:=by
 unfold uz at h;rw[tJ] at h;simp only at h;split at h
 .rename_i els;split at h
  .rename_i zs hz;obtain⟨hlen,rfl⟩:=dq h;refine⟨fn,hfn,hb,hn,by unfold Dcf.nr;rw[hld,hr];rfl,?_⟩;rw[hld];refine⟨[.sl []],.sl els,[],.sl (kr (ij zs)),rfl,rfl,λw S vs q v hvs hq hS hcur=>?_⟩;have hel:=Fa hz;subst hel;have hargs:qO ⟨0,0,.pre 1,false⟩ v vs=[v]:=by
    cases hvs with
    |cons hu ht=>
     cases ht;have:=hu.one rfl;rename_i u;show [Ea 0 v u]=[v]
     cases u<;>first|rfl|cases this
   rw[hargs];have aft:∀{w':World} {q:Option (Nat×Nat)} {G:Nat->Prop},Frm w.heap.size (Lof q) w w'->(∀B,Lof q B->B<w.heap.size/\¬S B)->Aft D fn g w S (D.lf q w) G [] (.tuple #[]) w' S [] []:=λ{w' q G} hf hQ=>by
    refine⟨rfl,by rw[hr];exact .nil,nK,(λ_ h=>by cases h),⟨λ_ h=>h,λB hB=>hf.block B (hcur B hB) λh=>(hQ B h).2 hB⟩,λB hB=>cd (hcur B hB) hf.size,λB hB=> .inl hB,afn hf λB h=>⟨(hQ B h).1,h⟩⟩
   generalize hel:kr zs=els at hq;have hb':LK.b (.pre 1)= .lst 1:=rfl;rw[hb'] at hq;cases hq with
   | @lst _ B cap arr els' hz1 hcap hl hrow hw he=>
    subst hel;obtain⟨ty,fz,hg,hun⟩:=hrow;rw[uA] at hcap he|-;rw[xJ,AJ] at he;have hcells:=KU he;have hBl:B<w.heap.size:=(bH.1 hg).1;have hsz:zs.length<=arr.size:=by omega
    have hH:Holds (Value.int .i64) w B 0 zs.toArray:=λj hj=>by
     simp at hj;have h1:arr[j]?=some (.int .i64 zs[j]):=by
      have:(arr.toList.take zs.length)[j]?=some (.int .i64 zs[j]):=by rw[hcells];simp[hj]
      rw[db hj] at this;simpa using this
     refine⟨?_,?_⟩
     .simp only[World.cell?,hg,cQ];rw[h1];simp[hj]
     .have:=hun j (by omega);simp only[World.frozen?,hg,cQ];simpa using this
    refine(hc B cap zs w hH hBl hlen).mono ?_;rintro e w' ⟨rfl,n,os,rfl⟩;have hs:(ij zs).length=zs.length:=iE ..;have hold:∀k,k≠B->k<w.heap.size->(grow (putRow (Value.int .i64) (Sort.ahead w n) B 0 (ij zs).toArray) os).heap[k]?=w.heap[k]?:=λk hk hlt=>by
     rw[heap_grow_old _ _ (by simpa using hlt)]
     show(w.heap.modify B _)[k]?=_
     rw[gm,ac (λe=>hk e.symm)]
    have hnew:(grow (putRow (Value.int .i64) (Sort.ahead w n) B 0 (ij zs).toArray) os).heap[B]?=some (.cells (putCells (Value.int .i64) 0 (ij zs).toArray arr) ty fz):=by
     rw[heap_grow_old _ _ (by simpa using hBl)]
     show(w.heap.modify B _)[B]?=_
     rw[gm,ad rfl,hg];rfl
    have hpl:(putCells (Value.int .i64) 0 (ij zs).toArray arr).toList=(ij zs).map (λn=>Value.int .i64 n)++arr.toList.drop zs.length:=by
     apply c8;intro k;have hk0:(putCells (Value.int .i64) 0 (ij zs).toArray arr).toList[k]?=(arr[k]?).map λx=>if 0<=k/\ k<0+(ij zs).toArray.size then Value.int .i64 (ij zs).toArray[k-0]! else x:=by
      rw[bU];unfold putCells;rw[wm]
     rw[hk0];by_cases hk:k<zs.length
     .rw[aH (by simp[hs,hk]),dx (by omega)];simp[hs,hk]
     .rw[bP (by simp[hs];omega)];simp only[ah,hs,fC];rw[show zs.length+(k-zs.length)=k by omega]
      cases h:arr[k]? with
      |none=>simp[h]
      |some x=>simp[h,hs,hk]
    have hfr:Frm w.heap.size (Lof (some (B,arr.size))) w (grow (putRow (Value.int .i64) (Sort.ahead w n) B 0 (ij zs).toArray) os):=⟨rfl,rfl,rfl,by simp,λk hk hL=>hold k (λe=>by subst e;exact hL ⟨_,rfl⟩) hk,λ_=>Nat.le_add_right _ _⟩;refine⟨.tuple #[],S,[],[],rfl,aft hfr λB' hB=>⟨by obtain⟨_,h⟩:=hB;cases h;exact hBl,hS B' hB⟩,(⟨?_,?_⟩:_/\ _)⟩
    .have hps:(putCells (Value.int .i64) 0 (ij zs).toArray arr).size=arr.size:=by simp[putCells]
     have:=LenR.lst (w:=grow (putRow (Value.int .i64) (Sort.ahead w n) B 0 (ij zs).toArray) os) (S:=S) (z:=1) (cap:=cap) (B:=B) (arr:=putCells (Value.int .i64) 0 (ij zs).toArray arr) (els:=kr (ij zs)) hz1 (by rw[uA,hs];omega) (by rw[hps];exact hl) ⟨ty,fz,hnew,by rw[hps];exact hun⟩ (λr hr=>by
      obtain⟨m,_,rfl⟩:=bk.1 hr;exact⟨rfl,rfl⟩) (by
      rw[uA,hs,AJ,xJ,hpl,iG (by simp[hs])];exact KV)
     rw[hps,uA,hs] at this;exact this
    .intro B' lim n' cap' e1 e2 arr1 arr2 r1 r2;cases e1;cases e2;obtain⟨_,_,g1,_⟩:=r1;obtain⟨_,_,g2,_⟩:=r2;rw[hg] at g1;cases g1;have g2:=hnew.symm.trans g2;cases g2;rw[hpl,AJ,qc (by simp[hs])]
   |nil hz1 hn=>
    have hzs:zs=[]:=by cases zs with
     |nil=>rfl
     |cons=>cases hel
    subst hzs;have key:∀p cap,v= .slice p 0 cap->Calls D.P g [v].toArray w λe w'=>∃u S' us Bs,e= .returned u/\ Aft D fn g w S (D.lf none w) (GvQ ⟨0,0,.pre 1,false⟩ none) [] u w' S' us Bs/\ LenR w' S' (.lst 1) none v (.sl (kr (ij [])))/\ C4 w w' none v (.pre 1):=λp cap e=>by
     subst e;refine(h0 p cap w).mono ?_;rintro e w' ⟨rfl,rfl⟩;refine⟨.tuple #[],S,[],[],rfl,aft .refl λ_ ⟨_,h⟩=>(by cases h),?_,λ_ _ _ _ h=>(by cases h)⟩;have:kr (ij [])=[]:=by simp[ij,kr]
     rw[this];exact .nil hz1 hn
    rcases hn with rfl|⟨b,o,rfl⟩
    .exact key _ _ rfl
    .exact key _ _ rfl
  .cases h
 .cases h
end Go.Sym
namespace Go.Sym.KQ
open Go.Sym KP
def kG {α:Type}(d:α):List α->Nat->α
 |a::_,0=>a
 |_::l,n+1=>kG d l n
 |[],_=>d
def kA (l:List PV)(v q:Nat):Nat->A
 |0=> .x v
 |1=>i 0
 |2=>s
 |3=>i 1
 |4=>i 8
 |5=>ff
 |6=>ft
 |7=>i 2
 |_+8=> .c (kG z l (q% 128))
def kR (q:Nat):Nat->Nat
 |0=>q
 |1=>q
 |2=>q
 |3=>q
 |4=>q
 |5=>q
 |6=>q
 |7=>q
 |8=>q/128
 |_+9=>q
def kM (c v q:Nat)(r:List Nat):Nat->List Nat
 |0=>v::r
 |_+1=>rg (q% c) (q/c% 64) r
def kQ (c q:Nat):Nat->Nat
 |0=>q
 |_+1=>q/c/64
def kN (c:Nat):Nat->Nat->List Nat
 |0,_=>[]
 |k+1,m=>kM c (m%(c+1)) (m/(c+1)) (kN c k (kQ c (m/(c+1)) (m%(c+1)+1-c))) (m%(c+1)+1-c)
def kNr (c:Nat):Nat->Nat->Nat
 |0,m=>m
 |k+1,m=>kNr c k (kQ c (m/(c+1)) (m%(c+1)+1-c))
def kC (l:List PV)(v q:Nat)(r:List A):Nat->List A
 |0=> .x v::r
 |1=>i 0::r
 |2=>s::r
 |3=>i 1::r
 |4=>i 8::r
 |5=>ff::r
 |6=>ft::r
 |7=>i 2::r
 |8=> .c (kG z l (q% 128))::r
 |_+9=>zC r
def kL (l:List PV)(c:Nat):Nat->Nat->List A
 |0,_=>[]
 |k+1,m=>kC l (m%(c+9)) (m/(c+9)) (kL l c k (kR (m/(c+9)) (m%(c+9)+1-c))) (m%(c+9)+1-c)
def kLr (c:Nat):Nat->Nat->Nat
 |0,m=>m
 |k+1,m=>kLr c k (kR (m/(c+9)) (m%(c+9)+1-c))
def kB:Nat->BinOp
 |0=> .add
 |1=> .sub
 |2=> .mul
 |3=> .quo
 |4=> .rem
 |5=> .eql
 |6=> .neq
 |7=> .lss
 |8=> .leq
 |9=> .gtr
 |10=> .geq
 |11=> .shr
 |12=> .shl
 |13=> .and
 |14=> .or
 |_+15=> .xor
def kS (l:List PV)(c m:Nat):Nat->List A
 |0=>xs (kN c (m% 64) (m/64))
 |_+1=>kL l c (m% 64) (m/64)
def kT (c m:Nat):Nat->Nat
 |0=>kNr c (m% 64) (m/64)
 |_+1=>kLr c (m% 64) (m/64)
section
variable (O:List RF)(l:List PV)(T:List K)(r:Nat->Nat->K)
def ka1 (f:RF)(c m:Nat):K:= .lt f [kA l (m%(c+8)) (m/(c+8)) (m%(c+8)+1-c)] (r (c+1) (kR (m/(c+8)) (m%(c+8)+1-c)))
def kb2 (f:RF)(a:A)(c m:Nat):K:= .lt f [a,kA l (m%(c+8)) (m/(c+8)) (m%(c+8)+1-c)] (r (c+1) (kR (m/(c+8)) (m%(c+8)+1-c)))
def ka2 (f:RF)(c m:Nat):K:=kb2 l r f (kA l (m%(c+8)) (m/(c+8)) (m%(c+8)+1-c)) c (kR (m/(c+8)) (m%(c+8)+1-c))
def kb3 (f:RF)(a b:A)(c m:Nat):K:= .lt f [a,b,kA l (m%(c+8)) (m/(c+8)) (m%(c+8)+1-c)] (r (c+1) (kR (m/(c+8)) (m%(c+8)+1-c)))
def kc3 (f:RF)(a:A)(c m:Nat):K:=kb3 l r f a (kA l (m%(c+8)) (m/(c+8)) (m%(c+8)+1-c)) c (kR (m/(c+8)) (m%(c+8)+1-c))
def ka3 (f:RF)(c m:Nat):K:=kc3 l r f (kA l (m%(c+8)) (m/(c+8)) (m%(c+8)+1-c)) c (kR (m/(c+8)) (m%(c+8)+1-c))
def kaS (f:RF)(c m:Nat):K:= .lt f (kS l c (m/2) (m% 2)) (r (c+1) (kT c (m/2) (m% 2)))
def kO (f:RF)(c m:Nat):Nat->K
 |0=>kaS l r f c m
 |1=>ka1 l r f c m
 |2=>ka2 l r f c m
 |_+3=>ka3 l r f c m
def kBr (x:A)(c b m:Nat):K:= .br x (r c (m% b)) (r c (m/b))
def kH (c m:Nat):Nat->K
 |0=> .jmp (m% 16) (kS l c (m/32) (m/16% 2))
 |1=> .ret (kS l c (m/2) (m% 2))
 |2=>kBr r (.x (c-1)) c (65536^(m% 256)) (m/256)
 |3=>kBr r (.x (m% c)) c (65536^(m/c% 256)) (m/c/256)
 |4=> .call (m% 1024) (kS l c (m/131072) (m/65536% 2)) (r (c+m/1024% 64) (kT c (m/131072) (m/65536% 2)))
 |5=> .jp (kG .dead T (m% 32)) (r c (m/32))
 |6=> .loop (kG .dead T (m% 32)) (r c (m/32))
 |7=>kCn (m% 64) (m/64% 64) (m/4096% c) (r (c+m/64% 64) (m/4096/c))
 |8=>ka1 l r .len c m
 |9=>kaS l r .agg c m
 |10=>ka1 l r (.cell 0) c m
 |11=>ka1 l r (.cell 1) c m
 |12=>ka1 l r (.cell 2) c m
 |13=>ka1 l r (.cell (m% 64)) c (m/64)
 |14=>ka1 l r (.shape (m% 64)) c (m/64)
 |15=>ka1 l r (.part (m% 64) (m/64% 64)) c (m/4096)
 |16=>ka1 l r (.un .not) c m
 |17=>ka2 l r (.elt 0 0) c m
 |18=>ka2 l r (.elt (m% 64) (m/64% 64)) c (m/4096)
 |19=>ka2 l r (.tix (m% 16)) c (m/16)
 |20=>ka2 l r .ix c m
 |21=>ka2 l r (.bin .add) c m
 |22=>ka2 l r (.bin .neq) c m
 |23=>ka2 l r (.bin .lss) c m
 |24=>ka2 l r (.bin (kB (m% 16))) c (m/16)
 |25=>ka3 l r .sub c m
 |26=>ka3 l r (.set (m% 64)) c (m/64)
 |27=>kaS l r (.app (m% 256) (m/256% 64)) c (m/16384)
 |28=> .amb (r c (m/256% 65536^(m% 256))) (r c (m/256/65536^(m% 256)))
 |29=>kO l r (kG .len O (m% 128)) c (m/512) (m/128% 4)
 |_+30=> .dead
end
def kd (O:List RF)(l:List PV)(T:List K):Nat->Nat->Nat->K
 |0,_,_=> .dead
 |f+1,c,n=>kH O l T (kd O l T f) c (n/32) (n% 32)
def kw (O:List RF)(l:List PV)(T:List K)(f c n:Nat):K:=kd O l T f c n
section
variable {O:List RF}{l:List PV}{T:List K}{f c n:Nat}
def akK:kd O l T (f+1) c n=kH O l T (kw O l T f) c (n/32) (n% 32):=rfl
def akL:kw O l T f c n=kd O l T f c n:=rfl
end
section
variable {α:Type}(SVs:List SV)(SBs:List SB)
def hL (e:Nat->(α->Nat->List Hint)->List Hint):Nat->Nat->(List α->Nat->List Hint)->List Hint
 |0,n,k=>k [] n
 |c+1,n,k=>e n λa n=>hL e c n λl n=>k (a::l) n
def hE (e:Nat->(α->Nat->List Hint)->List Hint)(r n:Nat)(k:List α->Nat->List Hint):List Hint:=hL e (n% r) (n/r) k
def hT (n:Nat)(k:List Nat->Nat->List Hint):List Hint:=match n% 3 with
 |0=>k [n/3% 256] (n/768)
 |1=>k (up (n/3% 256) (n/768% 128) []) (n/98304)
 |_=>k (dn (n/3% 256) (n/768% 128) []) (n/98304)
def hV (n:Nat)(k:Nat×SV->Nat->List Hint):List Hint:=match n/256% 5 with
 |0=>k (n% 256,w (n/1280% 128)) (n/163840)
 |1=>k (n% 256,q (n/1280% 64) (n/81920% 128)) (n/10485760)
 |2=>k (n% 256,p (n/1280% 64) (n/81920% 32)) (n/2621440)
 |3=>k (n% 256,v (n/1280% 128)) (n/163840)
 |_=>k (n% 256,kG (w 0) SVs (n/1280% 128)) (n/163840)
def hB (n:Nat)(k:Nat×SB->Nat->List Hint):List Hint:=match n/64% 3 with
 |0=>k (n% 64,e (n/192% 128) (n/24576% 128) (n/3145728% 16)) (n/50331648)
 |1=>k (n% 64,.box (ar (n/192% 128) (n/24576% 64))) (n/1572864)
 |_=>k (n% 64,kG (.box []) SBs (n/192% 128)) (n/24576)
def hN (n:Nat)(k:Nat->Nat->List Hint):List Hint:=k (n% 64) (n/64)
def hJ (n:Nat)(k:Hint->Nat->List Hint):List Hint:=match n% 2 with
 |0=>k .no (n/2)
 |_=>hE hT 64 (n/8192) λts m=>hE (hV SVs) 64 m λch m=>hE hN 32 m λbs m=>hE (hB SBs) 16 m λcb m=>k (.j (mkT (n/2% 64) (n/128% 64) ts.flatten ch bs cb)) m
def hd (n:Nat):List Hint:=hE (hJ SVs SBs) 256 n λl _=>l
end
end Go.Sym.KQ
namespace Go.Sym
def fo (S:Nat->Bool):K->Bool
 | .ret _=>true
 | .dead=>true
 | .lt _ _ k=>fo S k
 | .call g _ k=>S g&& fo S k
 | .br _ t f=>fo S t&& fo S f
 | .amb t f=>fo S t&& fo S f
 | .jp t f=>fo S t&& fo S f
 | .loop t f=>fo S t&& fo S f
 | .jmp _ _=>true
def jq {Φ Φ':PhT}{S:Nat->Bool}(h:∀g,S g=true->Φ g=Φ' g){N:Nat}:∀(k:K),fo S k=true->∀(J:List JT) (e:List PV),den Φ N k J e=den Φ' N k J e
 | .ret _,_,_,_=>rfl
 | .dead,_,_,_=>rfl
 | .lt f as k,hk,J,e=>by
  have ih:=jq h k hk (N:=N);simp only[den,ih]
 | .call g as k,hk,J,e=>by
  unfold fo at hk;rw[aJ] at hk;have ih:=jq h k hk.2 (N:=N);simp only[den,ih,h g hk.1]
 | .br x t f,hk,J,e=>by
  unfold fo at hk;rw[aJ] at hk;have i1:=jq h t hk.1 (N:=N);have i2:=jq h f hk.2 (N:=N);simp only[den,i1,i2]
 | .amb t f,hk,J,e=>by
  unfold fo at hk;rw[aJ] at hk;have i1:=jq h t hk.1 (N:=N);have i2:=jq h f hk.2 (N:=N);simp only[den,i1,i2]
 | .jp t f,hk,J,e=>by
  unfold fo at hk;rw[aJ] at hk;have i1:=jq h t hk.1 (N:=N);have i2:=jq h f hk.2 (N:=N);simp only[den,i1,i2]
 | .loop t f,hk,J,e=>by
  unfold fo at hk;rw[aJ] at hk;have i1:=jq h t hk.1 (N:=N);have i2:=jq h f hk.2 (N:=N);simp only[den,i1,i2]
 | .jmp _ _,_,_,_=>rfl
def Fb {D:Dt}{X':FuncId->List PV->Option (List PV)}{S:Nat->Bool}(hX:∀g,S g=true->D.X g=X' g)(hc:∀g k,S g=true->D.T g=some k->fo S k=true):∀n g,S g=true->l6 D n g=l6 {D with X:=X'} n g
 |0,_,_=>rfl
 |n+1,g,hg=>by
  funext vs
  have ih:=Fb hX hc n;unfold l6;show(match D.T g with|some k=>_|none=>_)=(match D.T g with|some k=>_|none=>_)
  cases e:D.T g with
  |none=>exact hZ (hX g hg) vs
  |some k=>
   have:=jq (N:=n) ih k (hc g k hg e) [] vs;simp only[this]
def VS {D:Dt}{X':FuncId->List PV->Option (List PV)}{S:Nat->Bool}(hX:∀g,S g=true->D.X g=X' g)(hc:∀g k,S g=true->D.T g=some k->fo S k=true){g:FuncId}{vs rs:List PV}(hg:S g=true)(h:Ans D g vs rs):Ans {D with X:=X'} g vs rs:=by
 obtain⟨n,h⟩:=h;exact⟨n,by rw[<-Fb hX hc n g hg];exact h⟩
def Ti (P:Program)(i:FuncId->Bool)(s:FuncId->List (List eN))(l:FuncId->Option Ld)(b c:Bool):AY ⟨P,i,s,l,b⟩=AY ⟨P,i,s,l,c⟩:=by kernel_rfl
def Tj (P:Program)(i:FuncId->Bool)(s:FuncId->List (List eN))(l:FuncId->Option Ld)(b c:Bool)(T:FuncId->Option K)(X:FuncId->List PV->Option (List PV)):l6 ⟨⟨P,i,s,l,b⟩,T,X⟩=l6 ⟨⟨P,i,s,l,c⟩,T,X⟩:=by kernel_rfl
def VT {D:Dt}(b:Bool){g:FuncId}{vs rs:List PV}(h:Ans D g vs rs):Ans {D with loud:=b} g vs rs:=by
 obtain⟨n,h⟩:=h;refine⟨n,?_⟩;obtain⟨⟨P,i,s,l,c⟩,T,X⟩:=D;rw[<-h];exact hZ (hZ (hZ (Tj P i s l b c T X) n) g) vs
end Go.Sym
